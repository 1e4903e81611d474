/- The logic of walks, and what the functions of the program return: part 3. No condition. -/
import Derived.Test.YtfghooojingdhaaDoorM02
set_option linter.all false
namespace Go.Proofs.YtfghooojingdhaaDoor
open Go Go.QL
set_option maxHeartbeats 1600000
attribute [local irreducible] ACall FnC
def dlS (n : NetT) (i : Nat) : List Int := ((List.range i).filter fun j => (n.gates.getD j gate0).kind == 5).map fun (j : Nat) => n.inn + j
theorem dlS_succ (n : NetT) (i : Nat) : dlS n (i + 1) = if (n.gates.getD i gate0).kind = 5 then dlS n i ++ [n.inn + i] else dlS n i := by
  unfold dlS
  rw [List.range_succ, List.filter_append]
  simp only [List.getD_eq_getElem?_getD]
  by_cases h : (n.gates[i]?.getD gate0).kind = 5
  · simp [h]
  · simp [h]
theorem dlS_len (n : NetT) (i : Nat) (hi : i ≤ n.gates.length) : (dlS n i).length = delays (n.gates.take i) := by
  induction i with
  | zero => rfl
  | succ i ih =>
    have hge : n.gates.getD i gate0 = n.gates[i] := by rw [List.getD_eq_getElem?_getD, List.getElem?_eq_getElem (by omega)]; rfl
    rw [dlS_succ, delays_take _ _ (by omega), hge, ← ih (by omega)]
    by_cases h : n.gates[i].kind = 5
    · simp [h]
    · simp [h]
theorem dlS_mem (n : NetT) (i m : Nat) (h : m < (dlS n i).length) : n.inn ≤ (dlS n i)[m] ∧ (dlS n i)[m] < n.inn + i := by
  have : (dlS n i)[m] ∈ dlS n i := List.getElem_mem h
  unfold dlS at this
  rw [List.mem_map] at this
  obtain ⟨j, hj, e⟩ := this
  rw [List.mem_filter, List.mem_range] at hj
  unfold dlS
  rw [← e]
  omega
abbrev sB2 (n : NetT) (bx ch : Nat) (s1 : Nat) (sk : List (W16 × W16)) (s2 : Nat) (dl : List Int) : Sg :=
  [(bx, .box [.d (.v (.int .i64 n.inn)), .d (gatesPV n.gates), .d (intsPV n.out), .o ch s1 sk.length, .o 902 s2 dl.length, .o 903 0 0]),
   (ch, .chain 126 2 s1 (sk.map sPV)), (902, .chain 3 1 s2 (dl.map iPV)), (903, .chain 125 1 0 [])]
def sk0 (n : NetT) : List (W16 × W16) := List.replicate (n.inn.toNat + n.gates.length) (0#16, 0#16)
theorem build_nil (n : NetT) (h1 : 1 ≤ n.inn) (h6 : n.inn ≤ 6) (hl : n.gates.length ≤ 24) :
    ACall Tryd.prog 63 [netAV n, .x (.d (.v (.map none)))] []
      (fun r σ' => ∃ s2, r = .x (.b 19 0) ∧ σ' = sB2 n 19 17 0 (sk0 n) s2 (dlS n n.gates.length)) := by
  refine ACall_of_AWD hTt Tryd.func63 rfl (by kernel_rfl) (res := [.tmp 4]) rfl Tryd.ntmps63 (by simp) fun w0 K0 B => ?_
  dsimp only [entry]
  repeat' first | with_reducible refine AW_seq ?_ | with_reducible refine AW_block ?_ | ((first | with_reducible refine AW_region hTt ?_ | refine AW_draw hTt hMix (id := 1) 8 true [0, 0, 2, 0, 8, 24, 62, 126, 255, 511, 1023] (by kernel_rfl) rfl rfl (by kernel_rfl) ?_ | refine ⟨_, wrap_of (by first | omega | (simp only [List.length_map]; omega)), ?_⟩ | refine andA ?_ | with_reducible refine And.intro (And.intro (by omega) (And.intro (by first | omega | (simp only [List.length_map]; omega)) (by first | omega | (simp only [List.length_map, List.length_set]; omega)))) ?_ | fail); conv => whnf) | fail
  have eN : (n.inn + ((List.map gPV n.gates).length : Int)).toNat = (sk0 n).length := by
    unfold sk0; rw [List.length_map, List.length_replicate]; omega
  have eC : List.replicate (n.inn + ((List.map gPV n.gates).length : Int)).toNat [PV.v (.int .u16 0), PV.v (.int .u16 0)] = (sk0 n).map sPV := by
    rw [eN]; unfold sk0; rw [List.length_replicate, List.map_replicate]; rfl
  refine AW_loop (fun _ : Unit => [(21, .x (.h 21)), (2, .x (.b 2 0)), (5, .x (.b 19 0))])
    (fun _ => [(21, .x (.mapIter none 0 [] 0)), (2, .box [.d (.v (.int .i64 n.inn)), .d (gatesPV n.gates), .d (intsPV n.out)]), (19, .box [.d (.v (.int .i64 n.inn)), .d (gatesPV n.gates), .d (intsPV n.out), .o 17 0 (sk0 n).length, .d (.v (.slice none 0 0)), .d (.v (.slice none 0 0))]), (17, .chain 126 2 0 ((sk0 n).map sPV))])
    (fun _ => True) (fun _ => 0) () trivial
    (Imp.forget ⟨rfl, rfl, rfl, trivial⟩ ⟨rfl, rfl, congrArg (fun k => some (Ob.box [.d (.v (.int .i64 n.inn)), .d (gatesPV n.gates), .d (intsPV n.out), .o 17 0 k, .d (.v (.slice none 0 0)), .d (.v (.slice none 0 0))])) eN, congrArg (fun l => some (Ob.chain 126 2 0 l)) eC, trivial⟩ rfl) ?_
  rintro ⟨⟩ -
  repeat' first | with_reducible refine AW_seq ?_ | with_reducible refine AW_block ?_ | ((first | with_reducible refine AW_exit ?_ | with_reducible refine AW_region hTt ?_ | fail); conv => whnf) | (refine AW_cond rfl (fun hb => absurd hb (by decide)) (fun _ => ?_)) | ((refine andA ?_); conv => whnf) | (refine fun hln => ?_; (try rw [List.length_map] at hln); unfold maxLen at hln; conv => whnf) | fail
  refine AW_imp (Imp.nil 902 3 1 (fr' := [(46, iv .i64 0), (45, iv .i64 n.gates.length), (44, .x (.d (gatesPV n.gates))), (2, .x (.b 2 0)), (5, .x (.b 19 0))])
    (σ' := [(2, .box [.d (.v (.int .i64 n.inn)), .d (gatesPV n.gates), .d (intsPV n.out)]), (19, .box [.d (.v (.int .i64 n.inn)), .d (gatesPV n.gates), .d (intsPV n.out), .o 17 0 (sk0 n).length, .o 902 0 0, .d (.v (.slice none 0 0))]), (17, .chain 126 2 0 ((sk0 n).map sPV))]) rfl ?_ ?_ rfl rfl) ?_
  · exact ⟨⟨_, rfl, .inl rfl⟩, ⟨_, congrArg (fun k : Nat => some (iv .i64 k)) (List.length_map _), .inl rfl⟩, ⟨_, rfl, .inl rfl⟩, ⟨_, rfl, .inl rfl⟩, ⟨_, rfl, .inl rfl⟩, trivial⟩
  · exact ⟨⟨_, rfl, .inl rfl⟩, ⟨_, rfl, .inr ⟨_, _, rfl, rfl, .inl rfl, .inl rfl, .inl rfl, .inl rfl, .inr ⟨rfl, rfl⟩, .inl rfl, trivial⟩⟩, ⟨_, rfl, .inl rfl⟩, trivial⟩
  refine AW_imp (Imp.nil 903 125 1 (fr' := [(46, iv .i64 0), (45, iv .i64 n.gates.length), (44, .x (.d (gatesPV n.gates))), (2, .x (.b 2 0)), (5, .x (.b 19 0))])
    (σ' := [(902, .chain 3 1 0 []), (2, .box [.d (.v (.int .i64 n.inn)), .d (gatesPV n.gates), .d (intsPV n.out)]), (19, .box [.d (.v (.int .i64 n.inn)), .d (gatesPV n.gates), .d (intsPV n.out), .o 17 0 (sk0 n).length, .o 902 0 0, .o 903 0 0]), (17, .chain 126 2 0 ((sk0 n).map sPV))]) rfl ?_ ?_ rfl rfl) ?_
  · exact ⟨⟨_, rfl, .inl rfl⟩, ⟨_, rfl, .inl rfl⟩, ⟨_, rfl, .inl rfl⟩, ⟨_, rfl, .inl rfl⟩, ⟨_, rfl, .inl rfl⟩, trivial⟩
  · exact ⟨⟨_, rfl, .inl rfl⟩, ⟨_, rfl, .inl rfl⟩, ⟨_, rfl, .inr ⟨_, _, rfl, rfl, .inl rfl, .inl rfl, .inl rfl, .inl rfl, .inl rfl, .inr ⟨rfl, rfl⟩, trivial⟩⟩, ⟨_, rfl, .inl rfl⟩, trivial⟩
  refine AW_loop (fun p : Nat × Nat => [(46, iv .i64 p.1), (45, iv .i64 n.gates.length), (44, .x (.d (gatesPV n.gates))), (2, .x (.b 2 0)), (5, .x (.b 19 0))])
    (fun p => (2, .box [.d (.v (.int .i64 n.inn)), .d (gatesPV n.gates), .d (intsPV n.out)]) :: sB2 n 19 17 0 (sk0 n) p.2 (dlS n p.1)) (fun p => p.1 ≤ n.gates.length) (fun p => n.gates.length - p.1) (0, 0) (Nat.zero_le _)
    (Imp.forget ⟨rfl, rfl, rfl, rfl, rfl, trivial⟩ ⟨rfl, rfl, rfl, rfl, rfl, trivial⟩ rfl) ?_
  rintro ⟨i, st⟩ hi
  dsimp only at hi ⊢
  have hdl := dlS_len n i hi
  have hdle := delays_le (n.gates.take i)
  rw [List.length_take] at hdle
  rcases Nat.lt_or_ge i n.gates.length with hil | hil
  · have hge : n.gates.getD i gate0 = n.gates[i] := by rw [List.getD_eq_getElem?_getD, List.getElem?_eq_getElem (by omega)]; rfl
    repeat' first | with_reducible refine AW_seq ?_ | with_reducible refine AW_block ?_ | ((first | with_reducible refine AW_skip ?_ | with_reducible refine AW_exit ?_ | with_reducible refine AW_ret ?_ | with_reducible refine AW_region hTt ?_ | refine AW_drawM hTt hMix (id := 10) 10 [0] true [0, 0, 2, 6, 14, 0, 32, 0, 224, 480, 1022, 2047, 4095, 8191] _ (by kernel_rfl) rfl rfl (by kernel_rfl) rfl (by kernel_rfl) (by kernel_rfl) ?_ | refine LateGo.mk ⟨_, rfl, ?_⟩ | fail); conv => whnf) | (exact absurd hb (by omega)) | (refine AW_cond rfl (fun hb => ?_) (fun hb => ?_) <;> first | (replace hb := of_decide_eq_true hb; try simp only [List.length_map] at hb) | (replace hb := of_decide_eq_false hb; try simp only [List.length_map] at hb)) | ((first | refine ⟨_, wrap_of (by first | omega | (simp only [List.length_map]; omega)), ?_⟩ | refine andA ?_ | with_reducible refine Exists.intro _ (And.intro (gd_any (And.intro (by omega) (map_get (by omega)))) ?_) | fail); conv => whnf) | ((refine And.intro (by refine ⟨?_, ?_, ?_⟩ <;> simp [chunk, maxLen] <;> omega) ?_); conv => whnf) | fail
    iterate 1
      · have e := dlS_succ n i
        rw [hge, if_pos hb] at e
        have l1 : (dlS n i).length + 1 = (dlS n (i + 1)).length := by rw [e]; simp
        have e1 : ((dlS n i).map iPV).take (dlS n i).length ++ [[PV.v (.int .i64 (n.inn + i))]] = (dlS n (i + 1)).map iPV := by
          rw [e, List.take_of_length_le (by simp), List.map_append]; rfl
        exact ⟨(i + 1, st + 1), by show i + 1 ≤ n.gates.length; omega, by show n.gates.length - (i + 1) < n.gates.length - i; omega,
          Imp.forget ⟨rfl, rfl, rfl, rfl, rfl, trivial⟩ ⟨rfl, congrArg (fun k => some (Ob.box [.d (.v (.int .i64 n.inn)), .d (gatesPV n.gates), .d (intsPV n.out), .o 17 0 (sk0 n).length, .o 902 (st + 1) k, .o 903 0 0])) l1, rfl, congrArg (fun l => some (Ob.chain 3 1 (st + 1) l)) e1, rfl, trivial⟩ rfl⟩
    · have e := dlS_succ n i
      rw [hge, if_neg hb] at e
      refine ⟨(i + 1, st), by show i + 1 ≤ n.gates.length; omega, by show n.gates.length - (i + 1) < n.gates.length - i; omega, ?_⟩
      dsimp only
      rw [e]
      exact Imp.forget ⟨rfl, rfl, rfl, rfl, rfl, trivial⟩ ⟨rfl, rfl, rfl, rfl, rfl, trivial⟩ rfl
  · have hie : i = n.gates.length := by omega
    subst hie
    repeat' first | with_reducible refine AW_seq ?_ | with_reducible refine AW_block ?_ | ((first | with_reducible refine AW_skip ?_ | with_reducible refine AW_exit ?_ | with_reducible refine AW_ret ?_ | with_reducible refine AW_region hTt ?_ | fail); conv => whnf) | (exact absurd hb (by omega)) | (refine AW_cond rfl (fun hb => ?_) (fun hb => ?_) <;> first | (replace hb := of_decide_eq_true hb; try simp only [List.length_map] at hb) | (replace hb := of_decide_eq_false hb; try simp only [List.length_map] at hb)) | fail
    exact ⟨_, sB2 n 19 17 0 (sk0 n) st (dlS n n.gates.length), ⟨rfl, rfl, rfl, rfl, trivial⟩, rfl, rfl, st, rfl, rfl⟩
end Go.Proofs.YtfghooojingdhaaDoor
namespace Go.Proofs.YtfghooojingdhaaDoor
open Go Go.QL
set_option maxHeartbeats 1600000
attribute [local irreducible] ACall FnC
def mkW (p : Nat → Bool) : Nat → W16
  | 0 => 0#16
  | m + 1 => if p m then mkW p m ||| BitVec.twoPow 16 m else mkW p m
theorem mkW_bit (p : Nat → Bool) (m l : Nat) (hm : m ≤ 16) : (mkW p m).getLsbD l = (decide (l < m) && p l) := by
  induction m with
  | zero => simp [mkW]
  | succ m ih =>
    unfold mkW
    by_cases hp : p m = true
    · rw [if_pos hp, BitVec.getLsbD_or, ih (by omega), BitVec.getLsbD_twoPow]
      by_cases h : m = l
      · subst h; simp [hp]; omega
      · have e : decide (l < m + 1) = decide (l < m) := decide_eq_decide.2 (by omega)
        rw [e]; simp [h]
    · rw [if_neg hp, ih (by omega)]
      by_cases h : l = m
      · subst h; simp [hp]
      · have e : decide (l < m + 1) = decide (l < m) := decide_eq_decide.2 (by omega)
        rw [e]
theorem mkW_or (p q : Nat → Bool) (a : Nat) (ha : a < 16) (h : ∀ l, l < 16 → q l = (p l || l == a)) : mkW p 16 ||| BitVec.twoPow 16 a = mkW q 16 := by
  apply BitVec.eq_of_getLsbD_eq
  intro l hl
  rw [BitVec.getLsbD_or, mkW_bit _ _ _ (Nat.le_refl _), mkW_bit _ _ _ (Nat.le_refl _), BitVec.getLsbD_twoPow, h l hl]
  simp [hl]
  by_cases e : a = l
  · subst e; simp [hl]
  · have : ¬ l = a := fun h => e h.symm
    simp [e, this]
theorem mkW_congr (p q : Nat → Bool) (h : ∀ l, p l = q l) : mkW p 16 = mkW q 16 := by rw [show p = q from funext h]
def metF (fs : List (Nat × FaultT)) (S : List Nat) (i v : Int) (l : Nat) : Bool :=
  S.any fun j => match fs[j]? with
    | some (l', f) => l' == l && (f.sig == i && f.at_ == v)
    | none => false
def skF (n : NetT) (fs : List (Nat × FaultT)) (S : List Nat) : List (W16 × W16) :=
  (List.range (n.inn.toNat + n.gates.length)).map fun (i : Nat) => (mkW (metF fs S i 0) 16, mkW (metF fs S i 1) 16)
theorem skF_len (n : NetT) (fs : List (Nat × FaultT)) (S : List Nat) : (skF n fs S).length = n.inn.toNat + n.gates.length := by simp [skF]
theorem skF_nil (n : NetT) (fs : List (Nat × FaultT)) : skF n fs [] = sk0 n := by
  unfold skF sk0
  apply List.ext_getElem
  · simp
  · intro i h1 h2
    have e : ∀ m, mkW (fun _ => false) m = 0#16 := by
      intro m
      induction m with
      | zero => rfl
      | succ m ih => simp [mkW, ih]
    have e2 : ∀ v, metF fs [] (i : Int) v = fun _ => false := fun v => by funext l; rfl
    simp only [List.getElem_map, List.getElem_range, List.getElem_replicate, e2, e]
theorem skF_all (n : NetT) (fs : List (Nat × FaultT)) (S : List Nat) (hS : ∀ i, i < fs.length → i ∈ S) : skF n fs S = skF n fs (List.range fs.length) := by
  have key : ∀ i v l, metF fs S i v l = metF fs (List.range fs.length) i v l := by
    intro i v l
    unfold metF
    rw [Bool.eq_iff_iff, List.any_eq_true, List.any_eq_true]
    constructor
    · rintro ⟨j, hj, h⟩
      refine ⟨j, ?_, h⟩
      rw [List.mem_range]
      cases e : fs[j]? with
      | none => rw [e] at h; cases h
      | some p => exact (List.getElem?_eq_some_iff.1 e).1
    · rintro ⟨j, hj, h⟩
      exact ⟨j, hS j (List.mem_range.1 hj), h⟩
  unfold skF
  congr 1
  funext i
  rw [mkW_congr _ _ (key i 0), mkW_congr _ _ (key i 1)]
theorem metF_snoc (fs : List (Nat × FaultT)) (S : List Nat) (j l0 : Nat) (f : FaultT) (hj : fs[j]? = some (l0, f)) (i v : Int) (l : Nat) :
    metF fs (S ++ [j]) i v l = (metF fs S i v l || (l0 == l && (f.sig == i && f.at_ == v))) := by
  unfold metF
  rw [List.any_append]
  simp [hj]
theorem one_shl (l : Nat) (hl : l < 16) : IntKind.u16.wrap (1 * 2 ^ (min ((l : Int)).toNat IntKind.u16.bits)) = wi (BitVec.twoPow 16 l) := by
  have := shl_bit 1 l hl
  unfold shlW at this
  simpa using this
def left (S : List Nat) : Nat → Nat
  | 0 => 0
  | m + 1 => left S m + if m ∈ S then 0 else 1
theorem left_le (S : List Nat) (j m : Nat) : left (S ++ [j]) m ≤ left S m := by
  induction m with
  | zero => exact Nat.le_refl _
  | succ m ih =>
    unfold left
    by_cases h : m ∈ S
    · have : m ∈ S ++ [j] := List.mem_append_left _ h
      rw [if_pos h, if_pos this]; omega
    · rw [if_neg h]; split <;> omega
theorem left_lt (S : List Nat) (j m : Nat) (hj : j < m) (hn : j ∉ S) : left (S ++ [j]) m < left S m := by
  induction m with
  | zero => omega
  | succ m ih =>
    have hle := left_le S j m
    unfold left
    by_cases e : j = m
    · subst e
      rw [if_pos (List.mem_append_right _ (List.mem_singleton.2 rfl)), if_neg hn]; omega
    · have := ih (by omega)
      by_cases h : m ∈ S
      · have : m ∈ S ++ [j] := List.mem_append_left _ h
        rw [if_pos h, if_pos this]; omega
      · rw [if_neg h]; split <;> omega
theorem skF_set (n : NetT) (fs : List (Nat × FaultT)) (S : List Nat) (j l0 : Nat) (f : FaultT) (hj : fs[j]? = some (l0, f)) (hl : l0 < 16) (h0 : 0 ≤ f.sig) (hs : f.sig.toNat < (skF n fs S).length) (e : List PV)
    (he : (f.at_ = 0 ∧ e = [.v (.int .u16 (wi ((skF n fs S)[f.sig.toNat].1 ||| BitVec.twoPow 16 l0))), .v (.int .u16 (wi (skF n fs S)[f.sig.toNat].2))]) ∨
      (f.at_ = 1 ∧ e = [.v (.int .u16 (wi (skF n fs S)[f.sig.toNat].1)), .v (.int .u16 (wi ((skF n fs S)[f.sig.toNat].2 ||| BitVec.twoPow 16 l0)))])) :
    ((skF n fs S).map sPV).set f.sig.toNat e = (skF n fs (S ++ [j])).map sPV := by
  have hsig : ((f.sig.toNat : Nat) : Int) = f.sig := by omega
  apply List.ext_getElem
  · simp [skF]
  · intro i h1 h2
    rw [List.getElem_set]
    by_cases hi : f.sig.toNat = i
    · subst hi
      rw [if_pos rfl]
      simp only [skF, List.getElem_map, List.getElem_range, sPV] at he ⊢
      rcases he with ⟨ha, rfl⟩ | ⟨ha, rfl⟩
      · rw [mkW_or _ (metF fs (S ++ [j]) (f.sig.toNat : Int) 0) l0 hl (fun l _ => by rw [metF_snoc fs S j l0 f hj, hsig, ha]; simp [eq_comm]; rw [Bool.beq_comm]),
          mkW_congr (metF fs (S ++ [j]) (f.sig.toNat : Int) 1) (metF fs S (f.sig.toNat : Int) 1) (fun l => by rw [metF_snoc fs S j l0 f hj, ha]; simp)]
      · rw [mkW_or _ (metF fs (S ++ [j]) (f.sig.toNat : Int) 1) l0 hl (fun l _ => by rw [metF_snoc fs S j l0 f hj, hsig, ha]; simp [eq_comm]; rw [Bool.beq_comm]),
          mkW_congr (metF fs (S ++ [j]) (f.sig.toNat : Int) 0) (metF fs S (f.sig.toNat : Int) 0) (fun l => by rw [metF_snoc fs S j l0 f hj, ha]; simp)]
    · rw [if_neg hi]
      have hne : (f.sig == (i : Int)) = false := by
        simp; omega
      simp only [skF, List.getElem_map, List.getElem_range, sPV]
      rw [mkW_congr (metF fs (S ++ [j]) (i : Int) 0) (metF fs S (i : Int) 0) (fun l => by rw [metF_snoc fs S j l0 f hj, hne]; simp),
          mkW_congr (metF fs (S ++ [j]) (i : Int) 1) (metF fs S (i : Int) 1) (fun l => by rw [metF_snoc fs S j l0 f hj, hne]; simp)]
end Go.Proofs.YtfghooojingdhaaDoor
namespace Go.Proofs.YtfghooojingdhaaDoor
open Go Go.QL
set_option maxHeartbeats 1600000
attribute [local irreducible] ACall FnC
def kvF (fs : List (Nat × FaultT)) : List (Value × AV) := fs.map fun p => (.int .i64 p.1, faultAV p.2)
abbrev mapF (fs : List (Nat × FaultT)) : Ob := .x (.map (.one (.int .i64)) (kvF fs))
theorem build_map (n : NetT) (h1 : 1 ≤ n.inn) (h6 : n.inn ≤ 6) (hl : n.gates.length ≤ 24) (fs : List (Nat × FaultT)) (hfs : ∀ i (h : i < fs.length), fs[i].1 < 16 ∧ 0 ≤ fs[i].2.sig ∧ fs[i].2.sig < n.inn + n.gates.length ∧ (fs[i].2.at_ = 0 ∨ fs[i].2.at_ = 1)) :
    ACall Tryd.prog 63 [netAV n, .x (.h 700)] [(700, mapF fs)]
      (fun r σ' => ∃ s2, r = .x (.b 19 0) ∧ σ' = (700, mapF fs) :: sB2 n 19 17 0 (skF n fs (List.range fs.length)) s2 (dlS n n.gates.length)) := by
  refine ACall_of_AWD hTt Tryd.func63 rfl (by kernel_rfl) (res := [.tmp 4]) rfl Tryd.ntmps63 (by simp) fun w0 K0 B => ?_
  dsimp only [entry]
  repeat' first | with_reducible refine AW_seq ?_ | with_reducible refine AW_block ?_ | ((first | with_reducible refine AW_region hTt ?_ | refine AW_draw hTt hMix (id := 1) 8 true [0, 0, 2, 0, 8, 24, 62, 126, 255, 511, 1023] (by kernel_rfl) rfl rfl (by kernel_rfl) ?_ | refine ⟨_, wrap_of (by first | omega | (simp only [List.length_map]; omega)), ?_⟩ | refine andA ?_ | with_reducible refine And.intro (And.intro (by omega) (And.intro (by first | omega | (simp only [List.length_map]; omega)) (by first | omega | (simp only [List.length_map, List.length_set]; omega)))) ?_ | fail); conv => whnf) | fail
  have eN : (n.inn + ((List.map gPV n.gates).length : Int)).toNat = (skF n fs []).length := by
    rw [skF_nil]; unfold sk0; rw [List.length_map, List.length_replicate]; omega
  have eC : List.replicate (n.inn + ((List.map gPV n.gates).length : Int)).toNat [PV.v (.int .u16 0), PV.v (.int .u16 0)] = (skF n fs []).map sPV := by
    rw [eN, skF_nil]; unfold sk0; rw [List.length_replicate, List.map_replicate]; rfl
  refine AW_loop (fun S : List Nat => [(21, .x (.h 21)), (2, .x (.b 2 0)), (5, .x (.b 19 0))])
    (fun S => [(21, .x (.mapIter (some 700) (kvF fs).length S (kvF fs).length)), (2, .box [.d (.v (.int .i64 n.inn)), .d (gatesPV n.gates), .d (intsPV n.out)]), (19, .box [.d (.v (.int .i64 n.inn)), .d (gatesPV n.gates), .d (intsPV n.out), .o 17 0 (skF n fs S).length, .d (.v (.slice none 0 0)), .d (.v (.slice none 0 0))]), (17, .chain 126 2 0 ((skF n fs S).map sPV)), (700, mapF fs)])
    (fun S => ∀ j ∈ S, j < fs.length) (fun S => left S fs.length) [] (fun j hj => by cases hj)
    (Imp.forget ⟨rfl, rfl, rfl, trivial⟩ ⟨rfl, rfl, congrArg (fun k => some (Ob.box [.d (.v (.int .i64 n.inn)), .d (gatesPV n.gates), .d (intsPV n.out), .o 17 0 k, .d (.v (.slice none 0 0)), .d (.v (.slice none 0 0))])) eN, congrArg (fun l => some (Ob.chain 126 2 0 l)) eC, rfl, trivial⟩ rfl) ?_
  intro S hS
  have hskl := skF_len n fs S
  repeat' first | with_reducible refine AW_seq ?_ | ((first | with_reducible refine AW_region hTt ?_ | refine andA ?_ | fail); conv => whnf) | fail
  refine ⟨fun j key v hj hn => ?_, fun hall => ?_⟩
  · have hjl : j < fs.length := by have := (List.getElem?_eq_some_iff.1 hj).1; simpa [kvF] using this
    obtain ⟨⟨l0, f⟩, hfj⟩ : ∃ p, fs[j] = p := ⟨_, rfl⟩
    have hfj' : fs[j]? = some (l0, f) := by rw [List.getElem?_eq_getElem hjl, hfj]
    have hkv : (kvF fs)[j]? = some (.int .i64 l0, faultAV f) := by unfold kvF; rw [List.getElem?_map, hfj']; rfl
    rw [hkv] at hj
    cases hj
    obtain ⟨hl16, hs0, hs1, hat⟩ := hfs j hjl
    rw [hfj] at hl16 hs0 hs1 hat
    dsimp only at hl16 hs0 hs1 hat
    obtain ⟨sg, av⟩ := f
    dsimp only at hs0 hs1 hat
    have hsl : sg.toNat < (skF n fs S).length := by rw [hskl]; omega
    rcases hat with rfl | rfl
    · have eS := skF_set n fs S j l0 ⟨sg, 0⟩ hfj' hl16 hs0 hsl _ (.inl ⟨rfl, rfl⟩)
      have eL : (skF n fs S).length = (skF n fs (S ++ [j])).length := by rw [skF_len, skF_len]
      conv => whnf
      repeat' first | with_reducible refine AW_seq ?_ | with_reducible refine AW_block ?_ | ((first | with_reducible refine AW_skip ?_ | with_reducible refine AW_region hTt ?_ | refine AW_draw hTt hMix (id := 5) 15 false [0, 1, 3, 7, 0, 16, 0, 64, 63, 511, 1023, 0, 2048, 8191, 63, 32767, 65535] (by kernel_rfl) rfl rfl (by kernel_rfl) ?_ | refine ⟨_, gd_any (map_get' (n := sg) hs0 hsl), ⟨Nat.le_of_ble_eq_true rfl, rfl⟩, ?_⟩ | refine ⟨_, map_get' (n := sg) hs0 hsl, Nat.le_of_ble_eq_true rfl, ?_⟩ | refine ⟨rfl, j, _, _, List.getLast?_concat, hkv, ?_⟩ | refine ⟨_, one_shl l0 hl16, ?_⟩ | refine ⟨_, w_or _ _, ?_⟩ | fail); conv => whnf) | (refine AW_cond rfl (fun _ => ?_) (fun hb => absurd hb (by decide))) | ((first | refine andA ?_ | with_reducible refine And.intro (gd_any (And.intro (by omega) (And.intro (by first | omega | (simp only [List.length_map]; omega)) (by first | omega | (simp only [List.length_map]; omega) | (simp only [List.length_set, List.length_map]; omega))))) ?_ | fail); conv => whnf) | fail
      exact ⟨S ++ [j], by
          intro x hx
          rcases List.mem_append.1 hx with hx | hx
          · exact hS x hx
          · rw [List.mem_singleton] at hx; omega,
        left_lt S j fs.length hjl hn,
        Imp.forget ⟨rfl, rfl, rfl, trivial⟩ ⟨rfl, rfl, congrArg (fun k => some (Ob.box [.d (.v (.int .i64 n.inn)), .d (gatesPV n.gates), .d (intsPV n.out), .o 17 0 k, .d (.v (.slice none 0 0)), .d (.v (.slice none 0 0))])) eL, congrArg (fun l => some (Ob.chain 126 2 0 l)) eS, rfl, trivial⟩ rfl⟩
    · have eS := skF_set n fs S j l0 ⟨sg, 1⟩ hfj' hl16 hs0 hsl _ (.inr ⟨rfl, rfl⟩)
      have eL : (skF n fs S).length = (skF n fs (S ++ [j])).length := by rw [skF_len, skF_len]
      conv => whnf
      repeat' first | with_reducible refine AW_seq ?_ | with_reducible refine AW_block ?_ | ((first | with_reducible refine AW_skip ?_ | with_reducible refine AW_region hTt ?_ | refine AW_draw hTt hMix (id := 5) 15 false [0, 1, 3, 7, 0, 16, 0, 64, 63, 511, 1023, 0, 2048, 8191, 63, 32767, 65535] (by kernel_rfl) rfl rfl (by kernel_rfl) ?_ | refine ⟨_, gd_any (map_get' (n := sg) hs0 hsl), ⟨Nat.le_of_ble_eq_true rfl, rfl⟩, ?_⟩ | refine ⟨_, map_get' (n := sg) hs0 hsl, Nat.le_of_ble_eq_true rfl, ?_⟩ | refine ⟨rfl, j, _, _, List.getLast?_concat, hkv, ?_⟩ | refine ⟨_, one_shl l0 hl16, ?_⟩ | refine ⟨_, w_or _ _, ?_⟩ | fail); conv => whnf) | (refine AW_cond rfl (fun _ => ?_) (fun hb => absurd hb (by decide))) | ((first | refine andA ?_ | with_reducible refine And.intro (gd_any (And.intro (by omega) (And.intro (by first | omega | (simp only [List.length_map]; omega)) (by first | omega | (simp only [List.length_map]; omega) | (simp only [List.length_set, List.length_map]; omega))))) ?_ | fail); conv => whnf) | fail
      exact ⟨S ++ [j], by
          intro x hx
          rcases List.mem_append.1 hx with hx | hx
          · exact hS x hx
          · rw [List.mem_singleton] at hx; omega,
        left_lt S j fs.length hjl hn,
        Imp.forget ⟨rfl, rfl, rfl, trivial⟩ ⟨rfl, rfl, congrArg (fun k => some (Ob.box [.d (.v (.int .i64 n.inn)), .d (gatesPV n.gates), .d (intsPV n.out), .o 17 0 k, .d (.v (.slice none 0 0)), .d (.v (.slice none 0 0))])) eL, congrArg (fun l => some (Ob.chain 126 2 0 l)) eS, rfl, trivial⟩ rfl⟩
  · have hall' : ∀ i, i < fs.length → i ∈ S := fun i hi => hall i (by unfold kvF; rw [List.length_map]; exact hi)
    clear hall
    conv => whnf
    repeat' first | with_reducible refine AW_seq ?_ | with_reducible refine AW_block ?_ | ((first | with_reducible refine AW_exit ?_ | with_reducible refine AW_region hTt ?_ | fail); conv => whnf) | (refine AW_cond rfl (fun hb => absurd hb (by decide)) (fun _ => ?_)) | ((refine andA ?_); conv => whnf) | (refine fun hln => ?_; (try rw [List.length_map] at hln); unfold maxLen at hln; conv => whnf) | fail
    refine AW_imp (Imp.nil 902 3 1 (fr' := [(46, iv .i64 0), (45, iv .i64 n.gates.length), (44, .x (.d (gatesPV n.gates))), (2, .x (.b 2 0)), (5, .x (.b 19 0))])
      (σ' := [(700, mapF fs), (2, .box [.d (.v (.int .i64 n.inn)), .d (gatesPV n.gates), .d (intsPV n.out)]), (19, .box [.d (.v (.int .i64 n.inn)), .d (gatesPV n.gates), .d (intsPV n.out), .o 17 0 (skF n fs S).length, .o 902 0 0, .d (.v (.slice none 0 0))]), (17, .chain 126 2 0 ((skF n fs S).map sPV))]) rfl ?_ ?_ rfl rfl) ?_
    · exact ⟨⟨_, rfl, .inl rfl⟩, ⟨_, congrArg (fun k : Nat => some (iv .i64 k)) (List.length_map _), .inl rfl⟩, ⟨_, rfl, .inl rfl⟩, ⟨_, rfl, .inl rfl⟩, ⟨_, rfl, .inl rfl⟩, trivial⟩
    · exact ⟨⟨_, rfl, .inl rfl⟩, ⟨_, rfl, .inl rfl⟩, ⟨_, rfl, .inr ⟨_, _, rfl, rfl, .inl rfl, .inl rfl, .inl rfl, .inl rfl, .inr ⟨rfl, rfl⟩, .inl rfl, trivial⟩⟩, ⟨_, rfl, .inl rfl⟩, trivial⟩
    refine AW_imp (Imp.nil 903 125 1 (fr' := [(46, iv .i64 0), (45, iv .i64 n.gates.length), (44, .x (.d (gatesPV n.gates))), (2, .x (.b 2 0)), (5, .x (.b 19 0))])
      (σ' := [(902, .chain 3 1 0 []), (700, mapF fs), (2, .box [.d (.v (.int .i64 n.inn)), .d (gatesPV n.gates), .d (intsPV n.out)]), (19, .box [.d (.v (.int .i64 n.inn)), .d (gatesPV n.gates), .d (intsPV n.out), .o 17 0 (skF n fs S).length, .o 902 0 0, .o 903 0 0]), (17, .chain 126 2 0 ((skF n fs S).map sPV))]) rfl ?_ ?_ rfl rfl) ?_
    · exact ⟨⟨_, rfl, .inl rfl⟩, ⟨_, rfl, .inl rfl⟩, ⟨_, rfl, .inl rfl⟩, ⟨_, rfl, .inl rfl⟩, ⟨_, rfl, .inl rfl⟩, trivial⟩
    · exact ⟨⟨_, rfl, .inl rfl⟩, ⟨_, rfl, .inl rfl⟩, ⟨_, rfl, .inl rfl⟩, ⟨_, rfl, .inr ⟨_, _, rfl, rfl, .inl rfl, .inl rfl, .inl rfl, .inl rfl, .inl rfl, .inr ⟨rfl, rfl⟩, trivial⟩⟩, ⟨_, rfl, .inl rfl⟩, trivial⟩
    refine AW_loop (fun p : Nat × Nat => [(46, iv .i64 p.1), (45, iv .i64 n.gates.length), (44, .x (.d (gatesPV n.gates))), (2, .x (.b 2 0)), (5, .x (.b 19 0))])
      (fun p => (700, mapF fs) :: (2, .box [.d (.v (.int .i64 n.inn)), .d (gatesPV n.gates), .d (intsPV n.out)]) :: sB2 n 19 17 0 (skF n fs S) p.2 (dlS n p.1)) (fun p => p.1 ≤ n.gates.length) (fun p => n.gates.length - p.1) (0, 0) (Nat.zero_le _)
      (Imp.forget ⟨rfl, rfl, rfl, rfl, rfl, trivial⟩ ⟨rfl, rfl, rfl, rfl, rfl, rfl, trivial⟩ rfl) ?_
    rintro ⟨i, st⟩ hi
    dsimp only at hi ⊢
    have hdl := dlS_len n i hi
    have hdle := delays_le (n.gates.take i)
    rw [List.length_take] at hdle
    rcases Nat.lt_or_ge i n.gates.length with hil | hil
    · have hge : n.gates.getD i gate0 = n.gates[i] := by rw [List.getD_eq_getElem?_getD, List.getElem?_eq_getElem (by omega)]; rfl
      repeat' first | with_reducible refine AW_seq ?_ | with_reducible refine AW_block ?_ | ((first | with_reducible refine AW_skip ?_ | with_reducible refine AW_exit ?_ | with_reducible refine AW_ret ?_ | with_reducible refine AW_region hTt ?_ | refine AW_drawM hTt hMix (id := 10) 10 [0] true [0, 0, 2, 6, 14, 0, 32, 0, 224, 480, 1022, 2047, 4095, 8191] _ (by kernel_rfl) rfl rfl (by kernel_rfl) rfl (by kernel_rfl) (by kernel_rfl) ?_ | refine LateGo.mk ⟨_, rfl, ?_⟩ | fail); conv => whnf) | (exact absurd hb (by omega)) | (refine AW_cond rfl (fun hb => ?_) (fun hb => ?_) <;> first | (replace hb := of_decide_eq_true hb; try simp only [List.length_map] at hb) | (replace hb := of_decide_eq_false hb; try simp only [List.length_map] at hb)) | ((first | refine ⟨_, wrap_of (by first | omega | (simp only [List.length_map]; omega)), ?_⟩ | refine andA ?_ | with_reducible refine Exists.intro _ (And.intro (gd_any (And.intro (by omega) (map_get (by omega)))) ?_) | fail); conv => whnf) | ((refine And.intro (by refine ⟨?_, ?_, ?_⟩ <;> simp [chunk, maxLen] <;> omega) ?_); conv => whnf) | fail
      iterate 1
        · have e := dlS_succ n i
          rw [hge, if_pos hb] at e
          have l1 : (dlS n i).length + 1 = (dlS n (i + 1)).length := by rw [e]; simp
          have e1 : ((dlS n i).map iPV).take (dlS n i).length ++ [[PV.v (.int .i64 (n.inn + i))]] = (dlS n (i + 1)).map iPV := by
            rw [e, List.take_of_length_le (by simp), List.map_append]; rfl
          exact ⟨(i + 1, st + 1), by show i + 1 ≤ n.gates.length; omega, by show n.gates.length - (i + 1) < n.gates.length - i; omega,
            Imp.forget ⟨rfl, rfl, rfl, rfl, rfl, trivial⟩ ⟨rfl, rfl, congrArg (fun k => some (Ob.box [.d (.v (.int .i64 n.inn)), .d (gatesPV n.gates), .d (intsPV n.out), .o 17 0 (skF n fs S).length, .o 902 (st + 1) k, .o 903 0 0])) l1, rfl, congrArg (fun l => some (Ob.chain 3 1 (st + 1) l)) e1, rfl, trivial⟩ rfl⟩
      · have e := dlS_succ n i
        rw [hge, if_neg hb] at e
        refine ⟨(i + 1, st), by show i + 1 ≤ n.gates.length; omega, by show n.gates.length - (i + 1) < n.gates.length - i; omega, ?_⟩
        dsimp only
        rw [e]
        exact Imp.forget ⟨rfl, rfl, rfl, rfl, rfl, trivial⟩ ⟨rfl, rfl, rfl, rfl, rfl, rfl, trivial⟩ rfl
    · have hie : i = n.gates.length := by omega
      subst hie
      repeat' first | with_reducible refine AW_seq ?_ | with_reducible refine AW_block ?_ | ((first | with_reducible refine AW_skip ?_ | with_reducible refine AW_exit ?_ | with_reducible refine AW_ret ?_ | with_reducible refine AW_region hTt ?_ | fail); conv => whnf) | (exact absurd hb (by omega)) | (refine AW_cond rfl (fun hb => ?_) (fun hb => ?_) <;> first | (replace hb := of_decide_eq_true hb; try simp only [List.length_map] at hb) | (replace hb := of_decide_eq_false hb; try simp only [List.length_map] at hb)) | fail
      exact ⟨_, (700, mapF fs) :: sB2 n 19 17 0 (skF n fs S) st (dlS n n.gates.length), ⟨rfl, rfl, rfl, rfl, rfl, trivial⟩, rfl, rfl, st, rfl, by rw [skF_all n fs S hall']⟩
end Go.Proofs.YtfghooojingdhaaDoor
namespace Go.Proofs.YtfghooojingdhaaDoor
open Go Go.QL
set_option maxHeartbeats 1600000
attribute [local irreducible] ACall FnC
theorem shl_one (k : Int) (h0 : 0 ≤ k) (h1 : k ≤ 32) : IntKind.i64.wrap (1 * 2 ^ (min k.toNat IntKind.i64.bits)) = 2 ^ k.toNat := by
  rw [show min k.toNat IntKind.i64.bits = k.toNat from Nat.min_eq_left (by show k.toNat ≤ 64; omega), Int.one_mul]
  have := pow64 (m := k.toNat) (by omega)
  exact wrap_of (by omega)
def topIn (n : NetT) : Int := 2 ^ n.inn.toNat - 1
abbrev netBox (n : NetT) : Ob := .box [.d (.v (.int .i64 n.inn)), .d (gatesPV n.gates), .d (intsPV n.out)]
theorem inchk_fn (n : NetT) (h1 : 1 ≤ n.inn) (h6 : n.inn ≤ 6) (x : Int) (rest : Sg) : ACall Tryd.prog 96 [iv .i64 x, .x (.b 2 0)] ((2, netBox n) :: rest)
    (fun r σ' => r = bv (outB x (topIn n)) ∧ σ' = (2, netBox n) :: rest) := by
  refine ACall_of_AW hTt Tryd.func96 rfl (by kernel_rfl) (res := [.tmp 3]) rfl Tryd.ntmps96 (by simp) fun w0 K0 B => ?_
  dsimp only [entry]
  have hp := pow64 (m := n.inn.toNat) (by omega)
  repeat' first | with_reducible refine AW_seq ?_ | ((first | with_reducible refine AW_ret ?_ | with_reducible refine AW_region hTt ?_ | ((refine ⟨_, (out_fn _ _).call rfl rfl, ?_⟩); (rintro _ _ ⟨rfl, rfl⟩)) | refine ⟨_, shl_one n.inn (by omega) (by omega), ?_⟩ | refine ⟨_, wrap_of (by first | omega | (simp only [List.length_map]; omega)), ?_⟩ | refine andA ?_ | fail); conv => whnf) | fail
  exact ⟨_, rfl, rfl, rfl⟩
theorem idxin_fn (n : NetT) (h1 : 1 ≤ n.inn) (h6 : n.inn ≤ 6) (l : List Int) (rest : Sg) : ACall Tryd.prog 56 [sl l, .x (.f (.func 96) [] [.b 2 0])] ((2, netBox n) :: rest)
    (fun r σ' => r = iv .i64 (firstBad (topIn n) l) ∧ σ' = (2, netBox n) :: rest) := by
  refine ACall_of_AW hTt Tryd.func56 rfl (by kernel_rfl) (res := [.tmp 4]) rfl Tryd.ntmps56 (by simp) fun w0 K0 B => ?_
  dsimp only [entry]
  repeat' first | with_reducible refine AW_seq ?_ | with_reducible refine AW_block ?_ | ((with_reducible refine AW_region hTt ?_); conv => whnf) | (refine fun hln => ?_; (try rw [List.length_map] at hln); unfold maxLen at hln; conv => whnf) | fail
  refine AW_loop (fun i : Nat => [(8, iv .i64 i), (7, iv .i64 l.length), (0, sl l), (1, .x (.f (.func 96) [] [.b 2 0]))]) (fun _ => (2, netBox n) :: rest)
    (fun i => i ≤ l.length ∧ firstOut (topIn n) l 0 = firstOut (topIn n) (l.drop i) i) (fun i => l.length - i) 0 (by simp) (Imp.slots ⟨rfl, congrArg (fun k : Nat => some (iv .i64 k)) (List.length_map _), rfl, rfl, trivial⟩) ?_
  rintro i ⟨hi, hfo⟩
  repeat' first | with_reducible refine AW_seq ?_ | with_reducible refine AW_block ?_ | ((first | with_reducible refine AW_skip ?_ | with_reducible refine AW_exit ?_ | with_reducible refine AW_ret ?_ | with_reducible refine AW_region hTt ?_ | ((refine ⟨_, inchk_fn n h1 h6 _ _, ?_⟩); (rintro _ _ ⟨rfl, rfl⟩)) | fail); conv => whnf) | (refine AW_cond rfl (fun hb => ?_) (fun hb => ?_) <;> first | (replace hb := of_decide_eq_true hb; try simp only [List.length_map] at hb) | (replace hb := of_decide_eq_false hb; try simp only [List.length_map] at hb) | skip) | ((first | refine ⟨_, wrap_of (by first | omega | (simp only [List.length_map]; omega)), ?_⟩ | refine andA ?_ | with_reducible refine Exists.intro _ (And.intro (gd_any (And.intro (by omega) (map_get (by omega)))) ?_) | fail); conv => whnf) | fail
  · have e : firstBad (topIn n) l = i := by
      unfold firstBad
      rw [hfo, List.drop_eq_getElem_cons (by omega)]
      simp only [firstOut]
      rw [outB_eq] at hb
      rw [if_neg (by simpa using hb)]
    exact ⟨_, rfl, by rw [e], rfl⟩
  · refine ⟨i + 1, ⟨by omega, ?_⟩, by omega, Imp.slots ⟨rfl, rfl, rfl, rfl, trivial⟩⟩
    rw [hfo, List.drop_eq_getElem_cons (by omega)]
    simp only [firstOut]
    rw [outB_eq] at hb
    rw [if_pos (by simpa using hb)]
  · have e : firstBad (topIn n) l = -1 := by
      unfold firstBad
      rw [hfo, List.drop_eq_nil_of_le (by omega)]; rfl
    exact ⟨_, rfl, by rw [e], rfl⟩
theorem contin_fn (n : NetT) (h1 : 1 ≤ n.inn) (h6 : n.inn ≤ 6) (l : List Int) (rest : Sg) : ACall Tryd.prog 95 [sl l, .x (.f (.func 96) [] [.b 2 0])] ((2, netBox n) :: rest)
    (fun r σ' => r = bv (decide (0 ≤ firstBad (topIn n) l)) ∧ σ' = (2, netBox n) :: rest) := by
  refine ACall_of_AW hTt Tryd.func95 rfl (by kernel_rfl) (res := [.tmp 4]) rfl Tryd.ntmps95 (by simp) fun w0 K0 B => ?_
  dsimp only [entry]
  repeat' first | with_reducible refine AW_seq ?_ | ((first | with_reducible refine AW_ret ?_ | with_reducible refine AW_region hTt ?_ | ((refine ⟨_, idxin_fn n h1 h6 _ _, ?_⟩); (rintro _ _ ⟨rfl, rfl⟩)) | fail); conv => whnf) | fail
  exact ⟨_, rfl, rfl, rfl⟩
def insErr (n : NetT) (l : List Int) : Int := if 32 < l.length then 3 else if 0 ≤ firstBad (topIn n) l then 7 else 0
theorem pins_fn (n : NetT) (h1 : 1 ≤ n.inn) (h6 : n.inn ≤ 6) (l : List Int) : FnC Tryd.prog 70 [netAV n, sl l] (iv .i64 (insErr n l)) := by
  refine FnC_of_AW hTt Tryd.func70 rfl (by kernel_rfl) (res := [.tmp 4]) rfl Tryd.ntmps70 (by simp) fun w0 K0 => ?_
  dsimp only [entry]
  repeat' first | with_reducible refine AW_seq ?_ | with_reducible refine AW_block ?_ | ((first | with_reducible refine AW_skip ?_ | with_reducible refine AW_ret ?_ | with_reducible refine AW_region hTt ?_ | ((refine ⟨_, contin_fn n h1 h6 _ _, ?_⟩); (rintro _ _ ⟨rfl, rfl⟩)) | fail); conv => whnf) | (refine AW_cond rfl (fun hb => ?_) (fun hb => ?_) <;> first | (replace hb := of_decide_eq_true hb; try simp only [List.length_map] at hb) | (replace hb := of_decide_eq_false hb; try simp only [List.length_map] at hb)) | (refine fun hln => ?_; (try rw [List.length_map] at hln); unfold maxLen at hln; conv => whnf) | fail
  · rw [show insErr n l = 3 from if_pos (by omega)]; rfl
  · rename_i hb1
    rw [show insErr n l = 7 from by unfold insErr; rw [if_neg (by omega), if_pos hb]]; rfl
  · rename_i hb1
    rw [show insErr n l = 0 from by unfold insErr; rw [if_neg (by omega), if_neg hb]]; rfl
theorem firstGate_none (inn : Int) (len : Nat) : ∀ (l : List GateT) (k : Nat), firstGate inn len l k = none → ∀ i (h : i < l.length), gateErr inn len (k + i) l[i] = 0
  | [], k, _, i, h => by simp at h
  | g :: r, k, hn, i, h => by
    unfold firstGate at hn
    by_cases hg : gateErr inn len k g = 0
    · rw [if_pos hg] at hn
      cases i with
      | zero => exact hg
      | succ i =>
        have := firstGate_none inn len r (k + 1) hn i (by simpa using h)
        rw [show k + 1 + i = k + (i + 1) by omega] at this
        exact this
    · rw [if_neg hg] at hn; cases hn
theorem firstOut_none (last : Int) : ∀ (l : List Int) (k : Nat), firstOut last l k = none → ∀ i (h : i < l.length), inB l[i] 0 last = true
  | [], k, _, i, h => by simp at h
  | x :: r, k, hn, i, h => by
    unfold firstOut at hn
    by_cases hg : inB x 0 last = true
    · rw [if_pos hg] at hn
      cases i with
      | zero => exact hg
      | succ i => exact firstOut_none last r (k + 1) hn i (by simpa using h)
    · rw [if_neg hg] at hn; cases hn
theorem gateErr_ok {inn : Int} {len i : Nat} {g : GateT} (h : gateErr inn len i g = 0) (hi : i < len) (h1 : 1 ≤ inn) :
    (1 ≤ g.kind ∧ g.kind ≤ 5) ∧ (0 ≤ g.a ∧ g.a < inn + len ∧ (g.kind ≠ 5 → g.a < inn + i)) ∧ (0 ≤ g.b ∧ g.b < inn + len ∧ (g.kind ≤ 3 → g.b < inn + i)) := by
  unfold gateErr at h
  by_cases hk : inB g.kind 1 5 = false
  · rw [if_pos hk] at h; cases h
  · rw [if_neg hk] at h
    have hk := inB_iff.1 (by simpa using hk : inB g.kind 1 5 = true)
    have hn : ¬ (inB g.a 0 (if g.kind = 5 then inn + len - 1 else inn + i - 1) = false ∨ inB g.b 0 (if g.kind = 4 ∨ g.kind = 5 then 0 else if g.kind = 5 then inn + len - 1 else inn + i - 1) = false) := fun hc => by
      dsimp only at h
      rw [if_pos hc] at h; cases h
    have hn := not_or.1 hn
    have ha := inB_iff.1 (by simpa using hn.1 : inB g.a 0 (if g.kind = 5 then inn + len - 1 else inn + i - 1) = true)
    have hb := inB_iff.1 (by simpa using hn.2 : inB g.b 0 (if g.kind = 4 ∨ g.kind = 5 then 0 else if g.kind = 5 then inn + len - 1 else inn + i - 1) = true)
    refine ⟨hk, ?_, ?_⟩
    · split at ha <;> refine ⟨by omega, by omega, fun _ => by omega⟩
    · split at hb
      · refine ⟨by omega, by omega, fun _ => by omega⟩
      · split at hb <;> refine ⟨by omega, by omega, fun _ => by omega⟩
theorem NetOK.of {n : NetT} (h : (checkR n).2.2 = 0) : NetOK n := by
  unfold checkR at h
  by_cases c1 : inB n.inn 1 6 = false
  · rw [if_pos c1] at h; cases h
  rw [if_neg c1] at h
  by_cases c2 : 24 < n.gates.length ∨ inB n.out.length 1 4 = false
  · rw [if_pos c2] at h; cases h
  rw [if_neg c2] at h
  have b1 := inB_iff.1 (by simpa using c1 : inB n.inn 1 6 = true)
  have c2 := not_or.1 c2
  have b2 := inB_iff.1 (by simpa using c2.2 : inB n.out.length 1 4 = true)
  cases c3 : firstGate n.inn n.gates.length n.gates 0 with
  | some p =>
    rw [c3] at h
    obtain ⟨i, e⟩ := p
    have h : e = 0 := h
    exfalso
    have key : ∀ (l : List GateT) (k : Nat) (p : Nat × Int), firstGate n.inn n.gates.length l k = some p → p.2 ≠ 0 := by
      intro l
      induction l with
      | nil => intro k p hp; cases hp
      | cons g r ih =>
        intro k p hp
        unfold firstGate at hp
        split at hp
        · exact ih _ _ hp
        · rename_i hg; cases hp; exact hg
    exact key _ _ _ c3 h
  | none =>
    rw [c3] at h
    dsimp only at h
    by_cases c4 : 5 < delays n.gates
    · rw [if_pos c4] at h; cases h
    rw [if_neg c4] at h
    cases c5 : firstOut (n.inn + n.gates.length - 1) n.out 0 with
    | some j => rw [c5] at h; cases h
    | none =>
      have g := fun i hi => gateErr_ok (by simpa using firstGate_none _ _ _ _ c3 i hi) hi b1.1
      have o := fun i hi => inB_iff.1 (firstOut_none _ _ _ c5 i hi)
      exact ⟨b1.1, b1.2, by omega, by omega, by omega, by omega, fun i hi => (g i hi).1, fun i hi => (g i hi).2.1, fun i hi => (g i hi).2.2, fun i hi => by have := o i hi; omega⟩
end Go.Proofs.YtfghooojingdhaaDoor
namespace Go.Proofs.YtfghooojingdhaaDoor
open Go Go.QL
set_option maxHeartbeats 1600000
attribute [local irreducible] ACall FnC
theorem okErr {n : NetT} (h : ¬ (checkR n).2.2 = 0) : ¬ (checkR n).2.2 = 0 := h
def sig0 (n : NetT) (states : List Int) (x : Int) : List W16 := sigW (sk0 n) n states x n.gates.length
def dl0 (n : NetT) : List Int := dlS n n.gates.length
def stepP (n : NetT) (state input : Int) : Int × Int × Int :=
  if (checkR n).2.2 ≠ 0 then (0, 0, (checkR n).2.2)
  else if outB state (2 ^ delays n.gates - 1) = true ∨ outB input (topIn n) = true then (0, 0, 7)
  else (nextW n (dl0 n) (sig0 n [state] input) 0 (dl0 n).length, outW n (sig0 n [state] input) 0 n.out.length, 0)
theorem pstep_fn (n : NetT) (hi : i64 n.inn) (state input : Int) : FnC Tryd.prog 29 [netAV n, iv .i64 state, iv .i64 input] (three (stepP n state input)) := by
  refine FnC_of_AW hTt Tryd.func29 rfl (by kernel_rfl) (res := [.tmp 6, .tmp 7, .tmp 8]) rfl Tryd.ntmps29 (by simp) fun w0 K0 => ?_
  dsimp only [entry]
  repeat' first | with_reducible refine AW_seq ?_ | ((first | with_reducible refine AW_skip ?_ | with_reducible refine AW_ret ?_ | with_reducible refine AW_region hTt ?_ | ((refine ⟨_, (pcheck_fn n hi).call rfl rfl, ?_⟩); (rintro _ _ ⟨rfl, rfl⟩)) | fail); conv => whnf) | (refine AW_cond rfl (fun hb => ?_) (fun hb => ?_) <;> first | (replace hb := of_decide_eq_true hb; try simp only [List.length_map] at hb) | (replace hb := of_decide_eq_false hb; try simp only [List.length_map] at hb) | (simp only [List.length_map, bne_iff_ne, ne_eq, beq_iff_eq, bne_eq_false_iff_eq, beq_eq_false_iff_ne, decide_eq_true_eq, decide_eq_false_iff_not, Bool.not_eq_true', Bool.not_eq_false', Int.natCast_inj] at hb)) | fail
  · rw [show stepP n state input = (0, 0, (checkR n).2.2) from if_pos hb]; rfl
  · have hz : (checkR n).2.2 = 0 := by simpa using hb
    have ok := NetOK.of hz
    have h1 := ok.h1; have h6 := ok.h6; have hl := ok.hl; have hd := ok.hd
    have hdl : (dlS n n.gates.length).length = delays n.gates := by rw [dlS_len n _ (Nat.le_refl _), List.take_of_length_le (Nat.le_refl _)]
    have hnl : (nexts n (dlS n n.gates.length) (sigW (sk0 n) n [state] input n.gates.length) [state].length).length = 1 := by simp [nexts_len]
    have hol : (outs n (sigW (sk0 n) n [state] input n.gates.length) [state].length).length = 1 := by simp [outs_len]
    have hp1 := pow64 (m := n.inn.toNat) (by omega)
    have hp2 := pow64 (m := delays n.gates) (by omega)
    have es1 : IntKind.i64.wrap (1 * 2 ^ (min (((dlS n n.gates.length).length : Int)).toNat IntKind.i64.bits)) = 2 ^ delays n.gates := by
      rw [shl_one _ (by omega) (by omega), Int.toNat_natCast, hdl]
    have hsk : (sk0 n).length = n.inn.toNat + n.gates.length := by simp [sk0]
    have hdr := fun m h => dlS_mem n n.gates.length m h
    have st0 : ¬ (checkR n).2.2 ≠ 0 := by simpa using hz
    repeat' first | with_reducible refine AW_seq ?_ | ((first | with_reducible refine AW_skip ?_ | with_reducible refine AW_ret ?_ | with_reducible refine AW_region hTt ?_ | refine AW_draw hTt hMix (id := 8) 7 false [0, 1, 3, 0, 8, 24, 7, 127, 255] (by kernel_rfl) rfl rfl (by kernel_rfl) ?_ | ((refine ⟨_, (build_nil n h1 h6 hl).frame (asc [(19, 900), (17, 901)]) (by repeat (first | exact trivial | refine ⟨rfl, ?_⟩)) rfl (by rintro _ _ ⟨_, rfl, rfl⟩; rfl), ?_⟩); (rintro _ _ ⟨_, _, ⟨_, rfl, rfl⟩, rfl, rfl⟩)) | refine ⟨_, es1, ?_⟩ | refine ⟨_, shl_one n.inn (by omega) (by omega), ?_⟩ | ((refine ⟨_, (out_fn _ _).call rfl rfl, ?_⟩); (rintro _ _ ⟨rfl, rfl⟩)) | refine ⟨_, fun _ => (out_fn _ _).call rfl rfl, ?_⟩ | ((refine ⟨_, (beat_fn ok (s1 := 0) (sk := sk0 n) (s2 := _) (dl := dlS n n.gates.length) (s3 := 0) (k := 0) (nw := []) hsk (by omega) hdr [state] (by simp) input).frame (asc []) (by repeat (first | exact trivial | refine ⟨rfl, ?_⟩)) rfl (by rintro _ _ ⟨_, rfl, rfl⟩; rfl), ?_⟩); (rintro _ _ ⟨_, _, ⟨_, rfl, rfl⟩, rfl, rfl⟩)) | fail); conv => whnf) | (refine AW_cond rfl (fun hb => ?_) (fun hb => ?_) <;> first | (replace hb := of_decide_eq_true hb; try simp only [List.length_map] at hb) | (replace hb := of_decide_eq_false hb; try simp only [List.length_map] at hb) | skip) | ((first | refine ⟨_, wrap_of (by first | omega | (simp only [List.length_map]; omega)), ?_⟩ | refine andA ?_ | with_reducible refine Exists.intro _ (And.intro (gd_any (And.intro (by omega) (map_get' (by omega) (by omega)))) ?_) | fail); conv => whnf) | (refine fun hln => ?_; (try rw [List.length_map] at hln); unfold maxLen at hln; conv => whnf) | fail
    · rw [show stepP n state input = (0, 0, 7) from by
        unfold stepP
        rw [if_neg st0, if_pos]
        revert hb
        cases outB state (2 ^ delays n.gates - 1) with
        | true => intro _; exact .inl rfl
        | false => intro hb; exact .inr hb]
      rfl
    · have e1 : (nexts n (dlS n n.gates.length) (sigW (sk0 n) n [state] input n.gates.length) [state].length)[Int.toNat 0] = nextW n (dl0 n) (sig0 n [state] input) 0 (dl0 n).length := by simp [nexts, dl0, sig0]
      have e2 : (outs n (sigW (sk0 n) n [state] input n.gates.length) [state].length)[Int.toNat 0] = outW n (sig0 n [state] input) 0 n.out.length := by simp [outs, sig0]
      rw [show stepP n state input = ((nexts n (dlS n n.gates.length) (sigW (sk0 n) n [state] input n.gates.length) [state].length)[Int.toNat 0], (outs n (sigW (sk0 n) n [state] input n.gates.length) [state].length)[Int.toNat 0], 0) from by
        unfold stepP
        rw [if_neg st0, if_neg, e1, e2]
        revert hb
        show (bif outB state (2 ^ delays n.gates - 1) then true else outB input (topIn n)) = false → _
        cases outB state (2 ^ delays n.gates - 1) with
        | true => intro h; cases h
        | false =>
          intro hb h
          rcases h with h | h
          · cases h
          · exact absurd (hb.symm.trans h) Bool.noConfusion]
      rfl
end Go.Proofs.YtfghooojingdhaaDoor
namespace Go.Proofs.YtfghooojingdhaaDoor
open Go Go.QL
set_option maxHeartbeats 1600000
attribute [local irreducible] ACall FnC
theorem pwrong_fn (n : NetT) (f : FaultT) (h1 : 1 ≤ n.inn) (h6 : n.inn ≤ 6) (hl : n.gates.length ≤ 24) : FnC Tryd.prog 68 [netAV n, faultAV f] (iv .i64 (faultErr n f)) := by
  refine FnC_of_AW hTt Tryd.func68 rfl (by kernel_rfl) (res := [.tmp 4]) rfl Tryd.ntmps68 (by simp) fun w0 K0 => ?_
  dsimp only [entry]
  repeat' first | with_reducible refine AW_seq ?_ | with_reducible refine AW_block ?_ | ((first | with_reducible refine AW_skip ?_ | with_reducible refine AW_ret ?_ | with_reducible refine AW_region hTt ?_ | ((refine ⟨_, (out_fn _ _).call rfl rfl, ?_⟩); (rintro _ _ ⟨rfl, rfl⟩)) | fail); conv => whnf) | (refine AW_cond rfl (fun hb => ?_) (fun hb => ?_) <;> first | (replace hb := of_decide_eq_true hb; try simp only [List.length_map] at hb) | (replace hb := of_decide_eq_false hb; try simp only [List.length_map] at hb) | (simp only [List.length_map, bne_iff_ne, ne_eq, beq_iff_eq, bne_eq_false_iff_eq, beq_eq_false_iff_ne, decide_eq_true_eq, decide_eq_false_iff_not, Bool.not_eq_true', Bool.not_eq_false', Int.natCast_inj] at hb) | skip) | ((first | refine ⟨_, wrap_of (by first | omega | (simp only [List.length_map]; omega)), ?_⟩ | refine andA ?_ | fail); conv => whnf) | (refine fun hln => ?_; (try rw [List.length_map] at hln); unfold maxLen at hln; conv => whnf) | fail
  · rw [show faultErr n f = 4 from by
      rw [outB_eq] at hb
      unfold faultErr; rw [if_pos (by simpa using hb)]]
    rfl
  · rename_i hb1
    rw [show faultErr n f = 7 from by
      rw [outB_eq] at hb1
      rw [outB_eq] at hb
      unfold faultErr; rw [if_neg (by simpa using hb1), if_pos (by simpa using hb)]]
    rfl
  · rename_i hb1
    rw [show faultErr n f = 0 from by
      rw [outB_eq] at hb1
      rw [outB_eq] at hb
      unfold faultErr; rw [if_neg (by simpa using hb1), if_neg (by simpa using hb)]]
    rfl
theorem kinds_fn : FnC Tryd.prog 86 [] (.x (.d (.s 1 ([[], [97, 110, 100], [111, 114], [120, 111, 114], [110, 111, 116], [100, 101, 108, 97, 121]].map fun (b : List UInt8) => [.v (.string ⟨b.toArray⟩)])))) := by
  refine FnC_of_AW hTt Tryd.func86 rfl (by kernel_rfl) (res := [.tmp 0]) rfl Tryd.ntmps86 (by simp) fun w0 K0 => ?_
  dsimp only [entry]
  repeat' first | with_reducible refine AW_seq ?_ | ((first | with_reducible refine AW_ret ?_ | with_reducible refine AW_region hTt ?_ | fail); conv => whnf) | fail
  rfl
end Go.Proofs.YtfghooojingdhaaDoor
namespace Go.Proofs.YtfghooojingdhaaDoor
open Go Go.QL
set_option maxHeartbeats 1600000
attribute [local irreducible] ACall FnC
def pairAV (p : Int × Int) : AV := .a [.d (.v (.int .i64 p.1)), .d (.v (.int .i64 p.2))]
def sigS (n : NetT) (sk : List (W16 × W16)) (states : List Int) (x : Int) : List W16 := sigW sk n states x n.gates.length
def showS (n : NetT) (sk : List (W16 × W16)) (p : Int × Int) (x : Int) : (Int × Int) × Bool :=
  ((nextW n (dl0 n) (sigS n sk [p.1, p.2] x) 0 (dl0 n).length, nextW n (dl0 n) (sigS n sk [p.1, p.2] x) 1 (dl0 n).length),
    outW n (sigS n sk [p.1, p.2] x) 0 n.out.length != outW n (sigS n sk [p.1, p.2] x) 1 n.out.length)
theorem showc_fn {n : NetT} (ok : NetOK n) {s1 : Nat} {sk : List (W16 × W16)} (hsk : sk.length = n.inn.toNat + n.gates.length) {s2 s3 k : Nat} {nw : List W16} (p : Int × Int) (x : Int) :
    ACall Tryd.prog 69 [pairAV p, iv .i64 x, .x (.b 910 0)] ((910, .box [.b 900 0]) :: sB n s1 sk s2 (dl0 n) s3 k nw)
      (fun r σ' => ∃ s3', r = .t [pairAV (showS n sk p x).1, bv (showS n sk p x).2] ∧ σ' = (910, .box [.b 900 0]) :: sB n s1 sk s2 (dl0 n) s3' (n.inn.toNat + n.gates.length) (sigS n sk [p.1, p.2] x)) := by
  have hd := ok.hd
  have hdl : (dl0 n).length = delays n.gates := by unfold dl0; rw [dlS_len n _ (Nat.le_refl _), List.take_of_length_le (Nat.le_refl _)]
  have hnl : (nexts n (dl0 n) (sigW sk n [p.1, p.2] x n.gates.length) [p.1, p.2].length).length = 2 := by simp [nexts_len]
  have hol : (outs n (sigW sk n [p.1, p.2] x n.gates.length) [p.1, p.2].length).length = 2 := by simp [outs_len]
  have hdr := fun m h => dlS_mem n n.gates.length m h
  refine ACall_of_AWD hTt Tryd.func69 rfl (by kernel_rfl) (res := [.cell 5 100, .tmp 6]) rfl Tryd.ntmps69 (by simp) fun w0 K0 B => ?_
  dsimp only [entry]
  repeat' first | with_reducible refine AW_seq ?_ | ((first | with_reducible refine AW_ret ?_ | with_reducible refine AW_region hTt ?_ | refine AW_drawM hTt hMix (id := 2) 14 [7, 8, 9, 10, 11, 12, 13] false [0, 1, 3, 0, 8, 24, 63, 0, 128, 384, 0, 1024, 3072, 8064, 127, 32767] _ (by kernel_rfl) rfl rfl (by kernel_rfl) rfl (by kernel_rfl) (by kernel_rfl) ?_ | refine LateGo.mk ⟨.x .j, rfl, ?_⟩ | ((refine ⟨_, (beat_fn ok (s1 := s1) (sk := sk) (s2 := s2) (dl := dl0 n) (s3 := s3) (k := k) (nw := nw) hsk (by omega) hdr [p.1, p.2] (by simp) x).frame (asc []) (by repeat (first | exact trivial | refine ⟨rfl, ?_⟩)) rfl (by rintro _ _ ⟨_, rfl, rfl⟩; rfl), ?_⟩); (rintro _ _ ⟨_, _, ⟨_, rfl, rfl⟩, rfl, rfl⟩)) | refine andA ?_ | with_reducible refine Exists.intro _ (And.intro (gd_any (And.intro (by omega) (map_get' (by omega) (by omega)))) ?_) | fail); conv => whnf) | fail
  have e1 : (nexts n (dl0 n) (sigW sk n [p.1, p.2] x n.gates.length) [p.1, p.2].length)[Int.toNat 0] = nextW n (dl0 n) (sigS n sk [p.1, p.2] x) 0 (dl0 n).length := by simp [nexts, sigS]
  have e2 : (nexts n (dl0 n) (sigW sk n [p.1, p.2] x n.gates.length) [p.1, p.2].length)[Int.toNat 1] = nextW n (dl0 n) (sigS n sk [p.1, p.2] x) 1 (dl0 n).length := by simp [nexts, sigS]
  have e3 : (outs n (sigW sk n [p.1, p.2] x n.gates.length) [p.1, p.2].length)[Int.toNat 0] = outW n (sigS n sk [p.1, p.2] x) 0 n.out.length := by simp [outs, sigS]
  have e4 : (outs n (sigW sk n [p.1, p.2] x n.gates.length) [p.1, p.2].length)[Int.toNat 1] = outW n (sigS n sk [p.1, p.2] x) 1 n.out.length := by simp [outs, sigS]
  have er : AV.t [pairAV (showS n sk p x).1, bv (showS n sk p x).2] = AV.t [pairAV ((nexts n (dl0 n) (sigW sk n [p.1, p.2] x n.gates.length) [p.1, p.2].length)[Int.toNat 0], (nexts n (dl0 n) (sigW sk n [p.1, p.2] x n.gates.length) [p.1, p.2].length)[Int.toNat 1]), bv ((outs n (sigW sk n [p.1, p.2] x n.gates.length) [p.1, p.2].length)[Int.toNat 0] != (outs n (sigW sk n [p.1, p.2] x n.gates.length) [p.1, p.2].length)[Int.toNat 1])] := by
    unfold showS; rw [e1, e2, e3, e4]
  exact ⟨_, (910, .box [.b 900 0]) :: sB n s1 sk s2 (dl0 n) _ (n.inn.toNat + n.gates.length) (sigS n sk [p.1, p.2] x), ⟨rfl, rfl, rfl, rfl, rfl, trivial⟩, rfl, rfl, _, er.symm, rfl⟩
end Go.Proofs.YtfghooojingdhaaDoor
namespace Go.Proofs.YtfghooojingdhaaDoor
open Go Go.QL
set_option maxHeartbeats 1600000
attribute [local irreducible] ACall FnC
def swS (l : List Int) (i : Nat) : List Int := (List.range l.length).map fun k => if k < i ∨ l.length - i ≤ k then l.getD (l.length - 1 - k) 0 else l.getD k 0
theorem swS_len (l : List Int) (i : Nat) : (swS l i).length = l.length := by simp [swS]
theorem swS_zero (l : List Int) : swS l 0 = l := by
  apply List.ext_getElem
  · simp [swS]
  · intro k h1 h2
    simp only [swS, List.getElem_map, List.getElem_range]
    rw [if_neg (by omega), List.getD_eq_getElem?_getD, List.getElem?_eq_getElem h2]; rfl
theorem swS_all (l : List Int) (i : Nat) (h : l.length ≤ 2 * i + 1) : swS l i = l.reverse := by
  apply List.ext_getElem
  · simp [swS]
  · intro k h1 h2
    simp only [List.length_reverse] at h2
    simp only [swS, List.getElem_map, List.getElem_range, List.getElem_reverse]
    by_cases c : k < i ∨ l.length - i ≤ k
    · rw [if_pos c, List.getD_eq_getElem?_getD, List.getElem?_eq_getElem (by omega)]; rfl
    · rw [if_neg c, List.getD_eq_getElem?_getD, List.getElem?_eq_getElem (by omega)]
      have : k = l.length - 1 - k := by omega
      simp only [Option.getD_some]
      congr 1
theorem swS_succ (l : List Int) (i : Nat) (h : 2 * i + 1 < l.length) :
    (((swS l i).map iPV).set i [.v (.int .i64 ((swS l i)[l.length - 1 - i]'(by rw [swS_len]; omega)))]).set (l.length - 1 - i) [.v (.int .i64 ((swS l i)[i]'(by rw [swS_len]; omega)))] = (swS l (i + 1)).map iPV := by
  apply List.ext_getElem
  · simp [swS]
  · intro k h1 h2
    simp only [List.length_set, List.length_map, swS_len] at h1
    rw [List.getElem_set, List.getElem_set]
    simp only [swS, List.getElem_map, List.getElem_range, iPV]
    by_cases c1 : l.length - 1 - i = k
    · rw [if_pos c1, if_neg (by omega), if_pos (by omega)]
      congr 3
      rw [show l.length - 1 - k = i by omega]
    · rw [if_neg c1]
      by_cases c2 : i = k
      · rw [if_pos c2, if_neg (by omega), if_pos (by omega)]
        subst c2; rfl
      · rw [if_neg c2]
        by_cases c3 : k < i ∨ l.length - i ≤ k
        · rw [if_pos c3, if_pos (by omega)]
        · rw [if_neg c3, if_neg (by omega)]
theorem reverse_fn (l : List Int) (st : Nat) (hl : l.length ≤ 4294967296) : ACall Tryd.prog 87 [.x (.o 700 st l.length)] [(700, .chain 3 1 st (l.map iPV))]
    (fun r σ' => r = .t [] ∧ σ' = [(700, .chain 3 1 st (l.reverse.map iPV))]) := by
  refine ACall_of_AWD hTt Tryd.func87 rfl (by kernel_rfl) (res := []) rfl Tryd.ntmps87 (by simp) fun w0 K0 B => ?_
  dsimp only [entry]
  repeat' first | with_reducible refine AW_seq ?_ | with_reducible refine AW_block ?_ | ((first | with_reducible refine AW_region hTt ?_ | refine ⟨_, wrap_of (by first | omega | (simp only [List.length_map]; omega)), ?_⟩ | refine andA ?_ | fail); conv => whnf) | (refine fun hln => ?_; (try rw [List.length_map] at hln); unfold maxLen at hln; conv => whnf) | fail
  refine AW_loop (fun i : Nat => [(2, iv .i64 i), (3, iv .i64 ((l.length : Int) - 1 - i)), (0, .x (.o 700 st l.length))]) (fun i => [(700, .chain 3 1 st ((swS l i).map iPV))]) (fun i => 2 * i ≤ l.length) (fun i => l.length - i) 0 (by simp)
    (Imp.forget ⟨rfl, congrArg (fun k : Int => some (iv .i64 k)) (by omega), rfl, trivial⟩ ⟨congrArg (fun l => some (Ob.chain 3 1 st (List.map iPV l))) (swS_zero l).symm, trivial⟩ rfl) ?_
  intro i hi
  have hsl := swS_len l i
  rcases Nat.lt_or_ge (2 * i + 1) l.length with hil | hil
  · have ej : ((l.length : Int) - 1 - i).toNat = l.length - 1 - i := by omega
    have e2 : (((swS l i).map iPV).set i [PV.v (.int .i64 ((swS l i)[((l.length : Int) - 1 - i).toNat]'(by omega)))])[((l.length : Int) - 1 - i).toNat]? = some (iPV ((swS l i)[((l.length : Int) - 1 - i).toNat]'(by omega))) := by
      rw [List.getElem?_set_ne (by omega)]
      exact map_get' (by omega) (by omega)
    repeat' first | with_reducible refine AW_seq ?_ | with_reducible refine AW_block ?_ | ((first | with_reducible refine AW_skip ?_ | with_reducible refine AW_exit ?_ | with_reducible refine AW_region hTt ?_ | refine AW_drawM hTt hMix (id := 3) 13 [2, 3] false [0, 0, 0, 0, 0, 0, 48, 112, 0, 0, 768, 1792, 4083, 8179, 16383, 32767] _ (by kernel_rfl) rfl rfl (by kernel_rfl) rfl (by kernel_rfl) (by kernel_rfl) ?_ | refine LateGo.mk ⟨.x .j, rfl, ?_⟩ | fail); conv => whnf) | (exact absurd hb (by omega)) | ((refine ⟨_, e2, Nat.le_of_ble_eq_true rfl, ?_⟩); conv => whnf) | (refine AW_cond rfl (fun hb => ?_) (fun hb => ?_) <;> first | (replace hb := of_decide_eq_true hb; try simp only [List.length_map] at hb) | (replace hb := of_decide_eq_false hb; try simp only [List.length_map] at hb)) | ((first | refine ⟨_, wrap_of (by first | omega | (simp only [List.length_map]; omega)), ?_⟩ | refine andA ?_ | with_reducible refine And.intro (gd_any (And.intro (by omega) (And.intro (by first | omega | (simp only [List.length_map]; omega)) (by first | omega | (simp only [List.length_map]; omega) | (simp only [List.length_set, List.length_map]; omega))))) ?_ | with_reducible refine Exists.intro _ (And.intro (gd_any (map_get' (by omega) (by omega))) (And.intro (And.intro (Nat.le_of_ble_eq_true rfl) rfl) ?_)) | with_reducible refine Exists.intro _ (And.intro (map_get' (by omega) (by omega)) (And.intro (Nat.le_of_ble_eq_true rfl) ?_)) | fail); conv => whnf) | fail
    have eS := swS_succ l i hil
    refine ⟨i + 1, by omega, by omega, Imp.forget ⟨rfl, congrArg (fun k : Int => some (iv .i64 k)) (by omega), rfl, trivial⟩ ⟨congrArg (fun l => some (Ob.chain 3 1 st l)) (Eq.trans ?_ eS), trivial⟩ rfl⟩
    simp only [← ej]; rfl
  · repeat' first | with_reducible refine AW_seq ?_ | with_reducible refine AW_block ?_ | ((first | with_reducible refine AW_skip ?_ | with_reducible refine AW_exit ?_ | with_reducible refine AW_region hTt ?_ | refine AW_drawM hTt hMix (id := 3) 13 [2, 3] false [0, 0, 0, 0, 0, 0, 48, 112, 0, 0, 768, 1792, 4083, 8179, 16383, 32767] _ (by kernel_rfl) rfl rfl (by kernel_rfl) rfl (by kernel_rfl) (by kernel_rfl) ?_ | fail); conv => whnf) | (exact absurd hb (by omega)) | (refine AW_cond rfl (fun hb => ?_) (fun hb => ?_) <;> first | (replace hb := of_decide_eq_true hb; try simp only [List.length_map] at hb) | (replace hb := of_decide_eq_false hb; try simp only [List.length_map] at hb)) | fail
    refine ⟨_, [(700, .chain 3 1 st ((swS l i).map iPV))], ⟨rfl, trivial⟩, rfl, rfl, rfl, ?_⟩
    rw [swS_all l i hil]
end Go.Proofs.YtfghooojingdhaaDoor
namespace Go.Proofs.YtfghooojingdhaaDoor
open Go Go.QL
set_option maxHeartbeats 1600000
attribute [local irreducible] ACall FnC
abbrev sB8 (n : NetT) (s1 : Nat) (sk : List (W16 × W16)) (s2 : Nat) (dl : List Int) (s3 k : Nat) (nw : List W16) : Sg :=
  [(800, .box [.d (.v (.int .i64 n.inn)), .d (gatesPV n.gates), .d (intsPV n.out), .o 801 s1 sk.length, .o 802 s2 dl.length, .o 803 s3 k]),
   (801, .chain 126 2 s1 (sk.map sPV)), (802, .chain 3 1 s2 (dl.map iPV)), (803, .chain 125 1 s3 (nw.map wPV))]
abbrev sAB (a b : NetT) (s2 s3 k : Nat) (nw : List W16) (t2 t3 l : Nat) (mw : List W16) : Sg :=
  (910, .box [.b 900 0]) :: (911, .box [.b 800 0]) ::
   (900, .box [.d (.v (.int .i64 a.inn)), .d (gatesPV a.gates), .d (intsPV a.out), .o 901 0 (sk0 a).length, .o 902 s2 (dl0 a).length, .o 903 s3 k]) ::
   (901, .chain 126 2 0 ((sk0 a).map sPV)) :: (902, .chain 3 1 s2 ((dl0 a).map iPV)) :: (903, .chain 125 1 s3 (nw.map wPV)) :: sB8 b 0 (sk0 b) t2 (dl0 b) t3 l mw
def diffS (a b : NetT) (p : Int × Int) (x : Int) : (Int × Int) × Bool :=
  ((nextW a (dl0 a) (sig0 a [p.1] x) 0 (dl0 a).length, nextW b (dl0 b) (sig0 b [p.2] x) 0 (dl0 b).length),
    outW a (sig0 a [p.1] x) 0 a.out.length != outW b (sig0 b [p.2] x) 0 b.out.length)
theorem diffc_fn {a b : NetT} (oka : NetOK a) (okb : NetOK b) {s2 s3 k t2 t3 l : Nat} {nw mw : List W16} (p : Int × Int) (x : Int) :
    ACall Tryd.prog 65 [pairAV p, iv .i64 x, .x (.b 910 0), .x (.b 911 0)] (sAB a b s2 s3 k nw t2 t3 l mw)
      (fun r σ' => ∃ s3' t3', r = .t [pairAV (diffS a b p x).1, bv (diffS a b p x).2] ∧ σ' = sAB a b s2 s3' (a.inn.toNat + a.gates.length) (sig0 a [p.1] x) t2 t3' (b.inn.toNat + b.gates.length) (sig0 b [p.2] x)) := by
  have hda := oka.hd; have hdb := okb.hd
  have hdla : (dl0 a).length = delays a.gates := by unfold dl0; rw [dlS_len a _ (Nat.le_refl _), List.take_of_length_le (Nat.le_refl _)]
  have hdlb : (dl0 b).length = delays b.gates := by unfold dl0; rw [dlS_len b _ (Nat.le_refl _), List.take_of_length_le (Nat.le_refl _)]
  have hska : (sk0 a).length = a.inn.toNat + a.gates.length := by simp [sk0]
  have hskb : (sk0 b).length = b.inn.toNat + b.gates.length := by simp [sk0]
  have hn1 : (nexts a (dl0 a) (sigW (sk0 a) a [p.1] x a.gates.length) [p.1].length).length = 1 := by simp [nexts_len]
  have ho1 : (outs a (sigW (sk0 a) a [p.1] x a.gates.length) [p.1].length).length = 1 := by simp [outs_len]
  have hn2 : (nexts b (dl0 b) (sigW (sk0 b) b [p.2] x b.gates.length) [p.2].length).length = 1 := by simp [nexts_len]
  have ho2 : (outs b (sigW (sk0 b) b [p.2] x b.gates.length) [p.2].length).length = 1 := by simp [outs_len]
  have hdra := fun m h => dlS_mem a a.gates.length m h
  have hdrb := fun m h => dlS_mem b b.gates.length m h
  refine ACall_of_AWD hTt Tryd.func65 rfl (by kernel_rfl) (res := [.cell 6 100, .tmp 7]) rfl Tryd.ntmps65 (by simp) fun w0 K0 B => ?_
  dsimp only [entry]
  repeat' first | with_reducible refine AW_seq ?_ | ((first | with_reducible refine AW_ret ?_ | with_reducible refine AW_region hTt ?_ | refine AW_drawM hTt hMix (id := 3) 14 [7, 8, 9, 10, 11, 12, 13] false [0, 1, 3, 0, 8, 24, 63, 0, 128, 384, 0, 1024, 3072, 8064, 127, 32767] _ (by kernel_rfl) rfl rfl (by kernel_rfl) rfl (by kernel_rfl) (by kernel_rfl) ?_ | refine LateGo.mk ⟨.x .j, rfl, ?_⟩ | ((refine ⟨_, (beat_fn oka (s1 := 0) (sk := sk0 a) (s2 := s2) (dl := dl0 a) (s3 := s3) (k := k) (nw := nw) hska (by omega) hdra [p.1] (by simp) x).frame (asc []) (by repeat (first | exact trivial | refine ⟨rfl, ?_⟩)) rfl (by rintro _ _ ⟨_, rfl, rfl⟩; rfl), ?_⟩); (rintro _ _ ⟨_, _, ⟨_, rfl, rfl⟩, rfl, rfl⟩)) | ((refine ⟨_, (beat_fn okb (s1 := 0) (sk := sk0 b) (s2 := t2) (dl := dl0 b) (s3 := t3) (k := l) (nw := mw) hskb (by omega) hdrb [p.2] (by simp) x).frame (asc [(900, 800), (901, 801), (902, 802), (903, 803)]) (by repeat (first | exact trivial | refine ⟨rfl, ?_⟩)) rfl (by rintro _ _ ⟨_, rfl, rfl⟩; rfl), ?_⟩); (rintro _ _ ⟨_, _, ⟨_, rfl, rfl⟩, rfl, rfl⟩)) | refine andA ?_ | with_reducible refine Exists.intro _ (And.intro (gd_any (And.intro (by omega) (map_get' (by omega) (by omega)))) ?_) | fail); conv => whnf) | fail
  have e1 : (nexts a (dl0 a) (sigW (sk0 a) a [p.1] x a.gates.length) [p.1].length)[Int.toNat 0] = nextW a (dl0 a) (sig0 a [p.1] x) 0 (dl0 a).length := by simp [nexts, sig0]
  have e2 : (nexts b (dl0 b) (sigW (sk0 b) b [p.2] x b.gates.length) [p.2].length)[Int.toNat 0] = nextW b (dl0 b) (sig0 b [p.2] x) 0 (dl0 b).length := by simp [nexts, sig0]
  have e3 : (outs a (sigW (sk0 a) a [p.1] x a.gates.length) [p.1].length)[Int.toNat 0] = outW a (sig0 a [p.1] x) 0 a.out.length := by simp [outs, sig0]
  have e4 : (outs b (sigW (sk0 b) b [p.2] x b.gates.length) [p.2].length)[Int.toNat 0] = outW b (sig0 b [p.2] x) 0 b.out.length := by simp [outs, sig0]
  have er : AV.t [pairAV (diffS a b p x).1, bv (diffS a b p x).2] = AV.t [pairAV ((nexts a (dl0 a) (sigW (sk0 a) a [p.1] x a.gates.length) [p.1].length)[Int.toNat 0], (nexts b (dl0 b) (sigW (sk0 b) b [p.2] x b.gates.length) [p.2].length)[Int.toNat 0]), bv ((outs a (sigW (sk0 a) a [p.1] x a.gates.length) [p.1].length)[Int.toNat 0] != (outs b (sigW (sk0 b) b [p.2] x b.gates.length) [p.2].length)[Int.toNat 0])] := by
    unfold diffS; rw [e1, e2, e3, e4]
  exact ⟨_, sAB a b s2 _ (a.inn.toNat + a.gates.length) (sig0 a [p.1] x) t2 _ (b.inn.toNat + b.gates.length) (sig0 b [p.2] x), ⟨rfl, rfl, rfl, rfl, rfl, rfl, rfl, rfl, rfl, rfl, trivial⟩, rfl, rfl, _, _, er.symm, rfl⟩
end Go.Proofs.YtfghooojingdhaaDoor
namespace Go.Proofs.YtfghooojingdhaaDoor
open Go Go.QL
set_option maxHeartbeats 1600000
attribute [local irreducible] ACall FnC
theorem ivE {k : IntKind} {a b : Int} (h : a = b) : some (iv k a) = some (iv k b) := by rw [h]
theorem oE {c st n m : Nat} (h : n = m) : some (AV.x (.o c st n)) = some (AV.x (.o c st m)) := by rw [h]
theorem chE {e : TypeId} {sz st : Nat} {l m : List (List PV)} (h : l = m) : some (Ob.chain e sz st l) = some (Ob.chain e sz st m) := by rw [h]
theorem impA {Γ : Cx} {fr fr' : Fr} {σ σ' : Sg}
    (hf : SubF fr fr' := by repeat' (first | exact trivial | refine And.intro ?_ ?_ | exact chE (by assumption) | rfl | exact ivE (by first | omega | (simp only [List.length_map, List.length_append, List.length_singleton] <;> omega)) | exact oE (by first | omega | (simp only [List.length_map, List.length_append, List.length_singleton] <;> omega))))
    (hs : SubS σ σ' := by repeat' (first | exact trivial | refine And.intro ?_ ?_ | exact chE (by assumption) | rfl | exact ivE (by first | omega | (simp only [List.length_map, List.length_append, List.length_singleton] <;> omega)) | exact oE (by first | omega | (simp only [List.length_map, List.length_append, List.length_singleton] <;> omega))))
    (hr : (rsFr σ' fr' && rsSg σ' σ') = true := by kernel_rfl) (hB : idsIn Γ.ids σ' = true := by kernel_rfl) (hD : dfsIn Γ.dfs σ σ' = true := by kernel_rfl) : Imp Γ fr σ fr' σ' := Imp.forget hf hs hr hB hD
theorem map_some {α β : Type} {f : α → β} {l : List α} {i : Nat} {x : α} (h : l[i]? = some x) : (l.map f)[((i : Int)).toNat]? = some (f x) := by simp [h]
theorem map_some' {α β : Type} {f : α → β} {l : List α} {i : Int} {x : α} (h : l[i.toNat]? = some x) : (l.map f)[i.toNat]? = some (f x) := by simp [h]
theorem gate_some {l : List GateT} {i : Nat} {k a b : Int} (h : l[i]? = some ⟨k, a, b⟩) : (l.map gPV)[((i : Int)).toNat]? = some [.v (.int .i64 k), .v (.int .i64 a), .v (.int .i64 b)] := by simp [h, gPV]
def sgn (f : FaultT) (i v : Int) : Int := if f.sig = i then f.at_ else v
def insR (f : FaultT) (x : Int) (i : Nat) : List Int := (List.range i).map fun (j : Nat) => sgn f j ((x / 2 ^ j) % 2)
def gateR (g : GateT) (s : List Int) (was : Int) : Int :=
  if g.kind = 1 then s.getD g.a.toNat 0 * s.getD g.b.toNat 0
  else if g.kind = 2 then (if s.getD g.b.toNat 0 > s.getD g.a.toNat 0 then s.getD g.b.toNat 0 else s.getD g.a.toNat 0)
  else if g.kind = 3 then (s.getD g.a.toNat 0 + s.getD g.b.toNat 0) % 2
  else if g.kind = 4 then 1 - s.getD g.a.toNat 0
  else if g.kind = 5 then was
  else 0
def sigR (n : NetT) (f : FaultT) (st x : Int) : Nat → List Int
  | 0 => insR f x n.inn.toNat
  | i + 1 => sigR n f st x i ++ [sgn f (n.inn + i) (gateR (n.gates.getD i gate0) (sigR n f st x i) (st / 2 ^ delays (n.gates.take i) % 2))]
def nextR (n : NetT) (s : List Int) : Nat → Int
  | 0 => 0
  | i + 1 => nextR n s i + if (n.gates.getD i gate0).kind = 5 then s.getD (n.gates.getD i gate0).a.toNat 0 * 2 ^ delays (n.gates.take i) else 0
def outR (n : NetT) (s : List Int) : Nat → Int
  | 0 => 0
  | i + 1 => outR n s i + s.getD (n.out.getD i 0).toNat 0 * 2 ^ i
def beatR (n : NetT) (f : FaultT) (st x : Int) : Int × Int :=
  (nextR n (sigR n f st x n.gates.length) n.gates.length, outR n (sigR n f st x n.gates.length) n.out.length)
def FltOK (f : FaultT) : Prop := f.sig < 0 ∨ f.at_ = 0 ∨ f.at_ = 1
theorem fine_ok : FltOK fine := .inl (by decide)
theorem sgn_bit {f : FaultT} (hf : FltOK f) {i v : Int} (hi : 0 ≤ i) (hv : v = 0 ∨ v = 1) : sgn f i v = 0 ∨ sgn f i v = 1 := by
  unfold sgn
  split
  · rcases hf with h | h
    · omega
    · exact h
  · exact hv
theorem getD_app {α : Type} (l : List α) (y d : α) (k : Nat) : (l ++ [y]).getD k d = if k < l.length then l.getD k d else if k = l.length then y else d := by
  rw [List.getD_eq_getElem?_getD, List.getD_eq_getElem?_getD]
  by_cases h1 : k < l.length
  · rw [if_pos h1, List.getElem?_append_left h1]
  · rw [if_neg h1, List.getElem?_append_right (by omega)]
    by_cases h2 : k = l.length
    · rw [if_pos h2, h2, Nat.sub_self]; rfl
    · rw [if_neg h2, List.getElem?_eq_none (by simp; omega)]; rfl
def Bits (s : List Int) : Prop := ∀ k, s.getD k 0 = 0 ∨ s.getD k 0 = 1
theorem Bits.snoc {s : List Int} (h : Bits s) {v : Int} (hv : v = 0 ∨ v = 1) : Bits (s ++ [v]) := by
  intro k
  rw [List.getD_eq_getElem?_getD]
  by_cases h1 : k < s.length
  · rw [List.getElem?_append_left h1, ← List.getD_eq_getElem?_getD]; exact h k
  · rw [List.getElem?_append_right (by omega)]
    by_cases h2 : k - s.length = 0
    · rw [h2]; exact hv
    · rw [List.getElem?_eq_none (by simp; omega)]; exact .inl rfl
theorem insR_len (f : FaultT) (x : Int) (i : Nat) : (insR f x i).length = i := by simp [insR]
theorem sigR_len (n : NetT) (f : FaultT) (st x : Int) (i : Nat) : (sigR n f st x i).length = n.inn.toNat + i := by
  induction i with
  | zero => exact insR_len _ _ _
  | succ i ih => simp [sigR, ih]; omega
theorem insR_bits {f : FaultT} (hf : FltOK f) (x : Int) (i : Nat) : Bits (insR f x i) := by
  intro k
  unfold insR
  rw [List.getD_eq_getElem?_getD, List.getElem?_map]
  by_cases h : k < i
  · rw [List.getElem?_range h]
    exact sgn_bit hf (by omega) (by omega)
  · rw [List.getElem?_eq_none (by simp; omega)]; exact .inl rfl
theorem gateR_bits {s : List Int} (h : Bits s) (g : GateT) (v : Int) : gateR g s (v % 2) = 0 ∨ gateR g s (v % 2) = 1 := by
  unfold gateR
  have ha := h g.a.toNat
  have hb := h g.b.toNat
  generalize s.getD g.a.toNat 0 = a at *
  generalize s.getD g.b.toNat 0 = b at *
  split
  · rcases ha with rfl | rfl <;> rcases hb with rfl | rfl <;> decide
  · split
    · split
      · exact hb
      · exact ha
    · split
      · omega
      · split
        · omega
        · split
          · omega
          · exact .inl rfl
theorem sigR_bits {n : NetT} (h1 : 0 ≤ n.inn) {f : FaultT} (hf : FltOK f) (st x : Int) (i : Nat) : Bits (sigR n f st x i) := by
  induction i with
  | zero => exact insR_bits hf x _
  | succ i ih => exact ih.snoc (sgn_bit hf (by omega) (gateR_bits ih _ _))
theorem nextR_lt {n : NetT} {s : List Int} (h : Bits s) (i : Nat) (hi : i ≤ n.gates.length) : 0 ≤ nextR n s i ∧ nextR n s i < 2 ^ delays (n.gates.take i) := by
  induction i with
  | zero => exact ⟨Int.le_refl _, by simp [nextR, delays]⟩
  | succ i ih =>
    obtain ⟨a, b⟩ := ih (by omega)
    have hge : n.gates.getD i gate0 = n.gates[i] := by rw [List.getD_eq_getElem?_getD, List.getElem?_eq_getElem (by omega)]; rfl
    rw [nextR, delays_take _ _ (by omega), hge]
    have hb := h n.gates[i].a.toNat
    have hp : (0 : Int) < 2 ^ delays (n.gates.take i) := Int.pow_pos (by decide)
    split
    · rw [Int.pow_succ]
      rcases hb with e | e <;> rw [e] <;> omega
    · rw [Nat.add_zero]; omega
theorem outR_lt {n : NetT} {s : List Int} (h : Bits s) (i : Nat) : 0 ≤ outR n s i ∧ outR n s i < 2 ^ i := by
  induction i with
  | zero => exact ⟨Int.le_refl _, by simp [outR]⟩
  | succ i ih =>
    obtain ⟨a, b⟩ := ih
    rw [outR, Int.pow_succ]
    have hb := h (n.out.getD i 0).toNat
    have hp : (0 : Int) < 2 ^ i := Int.pow_pos (by decide)
    rcases hb with e | e <;> rw [e] <;> omega
def SkLane (sk : List (W16 × W16)) (l : Nat) (f : FaultT) : Prop :=
  ∀ i (h : i < sk.length), sk[i].1.getLsbD l = decide (f.sig = i ∧ f.at_ = 0) ∧ sk[i].2.getLsbD l = decide (f.sig = i ∧ f.at_ = 1)
theorem lb_eq (w : W16) (l : Nat) : lb w l = if w.getLsbD l then 1 else 0 := rfl
theorem lb_stuck {sk : List (W16 × W16)} {l : Nat} {f : FaultT} (h : SkLane sk l f) (hf : FltOK f) {i : Nat} (hi : i < sk.length) (s : W16) : lb (stuckW (sk.getD i (0#16, 0#16)) s) l = sgn f i (lb s l) := by
  rw [List.getD_eq_getElem?_getD, List.getElem?_eq_getElem hi, Option.getD_some]
  obtain ⟨h1, h2⟩ := h i hi
  unfold lb stuckW sgn
  rw [BitVec.getLsbD_or, BitVec.getLsbD_and, BitVec.getLsbD_not, h1, h2]
  by_cases e : f.sig = i
  · rcases hf with hf | hf | hf
    · omega
    · simp [e, hf]
    · by_cases hl : l < 16
      · simp [e, hf]
      · simp [e, hf]
  · by_cases hl : l < 16
    · simp [e, hl]
    · have hg : s.getLsbD l = false := BitVec.getLsbD_of_ge s l (Nat.le_of_not_lt hl)
      simp [e, hg]
theorem lb_in (v : Int) {l : Nat} (hl : l < 16) : lb (inW v) l = v % 2 := by
  unfold lb inW
  have : v % 2 = 0 ∨ v % 2 = 1 := by omega
  rcases this with h | h
  · have e : (if v % 2 = 1 then BitVec.allOnes 16 else 0#16) = 0#16 := if_neg (by omega)
    rw [e, h]; simp
  · have e : (if v % 2 = 1 then BitVec.allOnes 16 else 0#16) = BitVec.allOnes 16 := if_pos h
    rw [e, h, BitVec.getLsbD_allOnes]; simp [hl]
theorem lane_bit (states : List Int) (d m l : Nat) (hl : l < 16) (hm : m ≤ 16) : (laneW states d m).getLsbD l = (decide (l < m) && decide (states.getD l 0 / 2 ^ d % 2 = 1)) := by
  induction m with
  | zero => simp [laneW]
  | succ m ih =>
    unfold laneW
    rw [BitVec.getLsbD_or, ih (by omega)]
    unfold shlW
    by_cases e : l = m
    · subst e
      by_cases h : states.getD l 0 / 2 ^ d % 2 = 1
      · rw [if_pos h, BitVec.getLsbD_twoPow, decide_eq_true h]; simp [hl]
      · rw [if_neg h, decide_eq_false h]; simp
    · have e1 : decide (l < m + 1) = decide (l < m) := decide_eq_decide.2 (by omega)
      rw [e1]
      split
      · rw [BitVec.getLsbD_twoPow]
        have : decide (m = l) = false := decide_eq_false fun h => e h.symm
        rw [this, Bool.and_false, Bool.or_false]
      · simp
theorem lb_lane (states : List Int) (d l : Nat) (hl : l < 16) (hs : l < states.length) (h16 : states.length ≤ 16) : lb (laneW states d states.length) l = states.getD l 0 / 2 ^ d % 2 := by
  unfold lb
  rw [lane_bit _ _ _ _ hl h16]
  have : states.getD l 0 / 2 ^ d % 2 = 0 ∨ states.getD l 0 / 2 ^ d % 2 = 1 := by omega
  rcases this with h | h <;> rw [h] <;> simp [hs]
theorem addW_lane {sk : List (W16 × W16)} {l : Nat} {f : FaultT} (h : SkLane sk l f) (hf : FltOK f) {nw : List W16} {s : List Int} (hlen : nw.length = s.length) (hlt : nw.length < sk.length)
    (heq : ∀ k, lb (nw.getD k 0#16) l = s.getD k 0) (w : W16) : ∀ k, lb ((addW sk nw w).getD k 0#16) l = (s ++ [sgn f nw.length (lb w l)]).getD k 0 := by
  intro k
  unfold addW
  rw [getD_app, getD_app, hlen]
  by_cases h1 : k < s.length
  · rw [if_pos h1, if_pos h1]; exact heq k
  · rw [if_neg h1, if_neg h1]
    by_cases h2 : k = s.length
    · rw [if_pos h2, if_pos h2, ← hlen]
      exact lb_stuck h hf hlt w
    · rw [if_neg h2, if_neg h2]; simp [lb]
theorem inpW_lane {sk : List (W16 × W16)} {l : Nat} {f : FaultT} (h : SkLane sk l f) (hf : FltOK f) (hl : l < 16) (x : Int) (i : Nat) (hi : i ≤ sk.length) : ∀ k, lb ((inpW sk x i).getD k 0#16) l = (insR f x i).getD k 0 := by
  induction i with
  | zero => intro k; simp [inpW, insR, lb]
  | succ i ih =>
    have := addW_lane h hf (nw := inpW sk x i) (s := insR f x i) (by rw [inpW_len, insR_len]) (by rw [inpW_len]; omega) (ih (by omega)) (inW (x / 2 ^ i))
    rw [inpW_len, lb_in _ hl] at this
    have e : insR f x (i + 1) = insR f x i ++ [sgn f i (x / 2 ^ i % 2)] := by unfold insR; rw [List.range_succ, List.map_append]; rfl
    rw [e]; exact this
theorem lb_and (a b : W16) (l : Nat) : lb (a &&& b) l = lb a l * lb b l := by
  unfold lb; rw [BitVec.getLsbD_and]
  cases a.getLsbD l <;> cases b.getLsbD l <;> rfl
theorem lb_or (a b : W16) (l : Nat) : lb (a ||| b) l = if lb b l > lb a l then lb b l else lb a l := by
  unfold lb; rw [BitVec.getLsbD_or]
  cases a.getLsbD l <;> cases b.getLsbD l <;> rfl
theorem lb_xor (a b : W16) (l : Nat) : lb (a ^^^ b) l = (lb a l + lb b l) % 2 := by
  unfold lb; rw [BitVec.getLsbD_xor]
  cases a.getLsbD l <;> cases b.getLsbD l <;> rfl
theorem lb_not (a : W16) (l : Nat) (hl : l < 16) : lb (~~~a) l = 1 - lb a l := by
  unfold lb; rw [BitVec.getLsbD_not]
  cases a.getLsbD l <;> simp [hl]
theorem sigW_lane {n : NetT} (ok : NetOK n) {sk : List (W16 × W16)} (hsk : sk.length = n.inn.toNat + n.gates.length) {l : Nat} {f : FaultT} (h : SkLane sk l f) (hf : FltOK f) (hl : l < 16) (states : List Int) (hs : l < states.length) (h16 : states.length ≤ 16) (x : Int)
    (i : Nat) (hi : i ≤ n.gates.length) : ∀ k, lb ((sigW sk n states x i).getD k 0#16) l = (sigR n f (states.getD l 0) x i).getD k 0 := by
  have h1 := ok.h1
  induction i with
  | zero => exact inpW_lane h hf hl x _ (by omega)
  | succ i ih =>
    have ih := ih (by omega)
    have hge : n.gates.getD i gate0 = n.gates[i] := by rw [List.getD_eq_getElem?_getD, List.getElem?_eq_getElem (by omega)]; rfl
    have hk := ok.hk i (by omega)
    have := addW_lane h hf (nw := sigW sk n states x i) (s := sigR n f (states.getD l 0) x i) (by rw [sigW_len, sigR_len]) (by rw [sigW_len]; omega) ih
      (gateW (n.gates.getD i gate0) (sigW sk n states x i) (if (n.gates.getD i gate0).kind = 5 then laneW states (delays (n.gates.take i)) states.length else 0#16))
    have e : lb (gateW (n.gates.getD i gate0) (sigW sk n states x i) (if (n.gates.getD i gate0).kind = 5 then laneW states (delays (n.gates.take i)) states.length else 0#16)) l =
        gateR (n.gates.getD i gate0) (sigR n f (states.getD l 0) x i) (states.getD l 0 / 2 ^ delays (n.gates.take i) % 2) := by
      rw [hge]
      unfold gateW gateR
      split
      · rw [lb_and, ih, ih]
      · split
        · rw [lb_or, ih, ih]
        · split
          · rw [lb_xor, ih, ih]
          · split
            · rw [lb_not _ _ hl, ih]
            · have h5 : n.gates[i].kind = 5 := by omega
              rw [if_pos h5, if_pos h5, lb_lane _ _ _ hl hs h16]
    rw [e, sigW_len] at this
    rw [show ((n.inn.toNat + i : Nat) : Int) = n.inn + i by omega] at this
    exact this
theorem nextW_app (n : NetT) (dl : List Int) (y : Int) (nw : List W16) (l m : Nat) (hm : m ≤ dl.length) : nextW n (dl ++ [y]) nw l m = nextW n dl nw l m := by
  induction m with
  | zero => rfl
  | succ m ih =>
    unfold nextW
    rw [ih (by omega), getD_app dl y 0 m, if_pos (by omega)]
theorem nextW_lane {n : NetT} (ok : NetOK n) {nw : List W16} {s : List Int} {l : Nat} (heq : ∀ k, lb (nw.getD k 0#16) l = s.getD k 0) (i : Nat) (hi : i ≤ n.gates.length) :
    nextW n (dlS n i) nw l (dlS n i).length = nextR n s i := by
  induction i with
  | zero => rfl
  | succ i ih =>
    have ih := ih (by omega)
    have hge : n.gates.getD i gate0 = n.gates[i] := by rw [List.getD_eq_getElem?_getD, List.getElem?_eq_getElem (by omega)]; rfl
    have hlen := dlS_len n i (by omega)
    have h1 := ok.h1
    rw [dlS_succ, nextR]
    split
    · rw [List.length_append, List.length_singleton, nextW, nextW_app _ _ _ _ _ _ (Nat.le_refl _), ih, List.getD_eq_getElem?_getD (l := dlS n i ++ _), List.getElem?_append_right (Nat.le_refl _), Nat.sub_self]
      simp only [List.getElem?_cons_zero, Option.getD_some]
      rw [show (n.inn + (i : Int) - n.inn).toNat = i by omega, heq, hlen]
    · rw [ih]; omega
theorem outW_lane {n : NetT} {nw : List W16} {s : List Int} {l : Nat} (heq : ∀ k, lb (nw.getD k 0#16) l = s.getD k 0) (i : Nat) : outW n nw l i = outR n s i := by
  induction i with
  | zero => rfl
  | succ i ih => rw [outW, outR, ih, heq]
theorem lane_beat {n : NetT} (ok : NetOK n) {sk : List (W16 × W16)} (hsk : sk.length = n.inn.toNat + n.gates.length) {l : Nat} {f : FaultT} (h : SkLane sk l f) (hf : FltOK f) (hl : l < 16) (states : List Int) (hs : l < states.length) (h16 : states.length ≤ 16) (x : Int) :
    nextW n (dl0 n) (sigW sk n states x n.gates.length) l (dl0 n).length = (beatR n f (states.getD l 0) x).1 ∧ outW n (sigW sk n states x n.gates.length) l n.out.length = (beatR n f (states.getD l 0) x).2 := by
  have heq := sigW_lane ok hsk h hf hl states hs h16 x n.gates.length (Nat.le_refl _)
  exact ⟨nextW_lane ok heq _ (Nat.le_refl _), outW_lane heq _⟩
theorem sk0_lane (n : NetT) (l : Nat) : SkLane (sk0 n) l fine := by
  intro i h
  have e : (sk0 n)[i] = (0#16, 0#16) := List.eq_of_mem_replicate (List.getElem_mem h)
  rw [e]
  have : ¬ (fine.sig = (i : Int)) := by show ¬ ((-1 : Int) = i); omega
  simp [this]
theorem skF_lane (n : NetT) (fs : List (Nat × FaultT)) (l : Nat) (hl : l < 16) (f : FaultT) (h : ∀ (j l' : Nat) (f' : FaultT), fs[j]? = some (l', f') → l' = l → f' = f) (h2 : (∃ j : Nat, fs[j]? = some (l, f)) ∨ (f = fine ∧ ∀ (j : Nat) (f' : FaultT), fs[j]? ≠ some (l, f'))) : SkLane (skF n fs (List.range fs.length)) l f := by
  intro i hi
  simp only [skF, List.getElem_map, List.getElem_range]
  have key : ∀ v : Int, metF fs (List.range fs.length) i v l = decide (f.sig = i ∧ f.at_ = v) := by
    intro v
    unfold metF
    rw [Bool.eq_iff_iff, List.any_eq_true, decide_eq_true_iff]
    constructor
    · rintro ⟨j, hj, hm⟩
      cases e : fs[j]? with
      | none => rw [e] at hm; cases hm
      | some p =>
        obtain ⟨l', f'⟩ := p
        rw [e] at hm
        simp only [Bool.and_eq_true, beq_iff_eq] at hm
        obtain ⟨e1, e2, e3⟩ := hm
        have := h j l' f' e e1
        subst this
        exact ⟨e2, e3⟩
    · rintro ⟨e1, e2⟩
      rcases h2 with ⟨j, hj⟩ | ⟨rfl, _⟩
      · refine ⟨j, List.mem_range.2 (List.getElem?_eq_some_iff.1 hj).1, ?_⟩
        rw [hj]; simp [e1, e2]
      · exact absurd e1 (by show ¬ ((-1 : Int) = i); omega)
  rw [mkW_bit _ _ _ (Nat.le_refl _), mkW_bit _ _ _ (Nat.le_refl _), key, key]
  simp [hl]
end Go.Proofs.YtfghooojingdhaaDoor
namespace Go.Proofs.YtfghooojingdhaaDoor
open Go Go.QL
set_option maxHeartbeats 3200000
attribute [local irreducible] ACall FnC
abbrev fltBox (f : FaultT) : Ob := .box [.d (.v (.int .i64 f.sig)), .d (.v (.int .i64 f.at_))]
abbrev netCells (n : NetT) : Ob := .box [.d (.v (.int .i64 n.inn)), .d (gatesPV n.gates), .d (intsPV n.out)]
theorem tmod2 {v : Int} (h : 0 ≤ v) : v.tmod 2 = v % 2 := Int.tmod_eq_emod_of_nonneg h
theorem two_lt (i : Nat) (h : i ≤ 30) : (1 : Int) ≤ 2 ^ i ∧ (2 : Int) ^ i ≤ 1073741824 := two_le i h
theorem getI {s : List Int} {k : Nat} (h : k < s.length) : s[k] = s.getD k 0 := by
  rw [List.getD_eq_getElem?_getD, List.getElem?_eq_getElem h]; rfl
theorem mul_bit {s : List Int} (h : Bits s) {a b : Nat} (ha : a < s.length) (hb : b < s.length) : IntKind.i64.wrap (s[a] * s[b]) = s[a] * s[b] := by
  have h1 := h a; have h2 := h b
  rw [← getI ha] at h1; rw [← getI hb] at h2
  rcases h1 with e | e <;> rcases h2 with e' | e' <;> rw [e, e'] <;> decide
theorem mul_pow {s : List Int} (h : Bits s) {a i : Nat} (ha : a < s.length) (hi : i ≤ 30) : IntKind.i64.wrap (s[a] * 2 ^ i) = s[a] * 2 ^ i := by
  have h1 := h a
  have h2 := two_lt i hi
  rw [← getI ha] at h1
  rcases h1 with e | e <;> rw [e]
  · rw [Int.zero_mul]; decide
  · rw [Int.one_mul]; exact wrap_of (by omega)
theorem beat_ref (n : NetT) (ok : NetOK n) (f : FaultT) (hf : FltOK f) (st x : Int) (hs : 0 ≤ st ∧ st ≤ 9223372036854775807) (hx : 0 ≤ x ∧ x ≤ 9223372036854775807) :
    FnC Tryd.prog 72 [netAV n, faultAV f, iv .i64 st, iv .i64 x] (.t [iv .i64 (beatR n f st x).1, iv .i64 (beatR n f st x).2]) := by
  have h1 := ok.h1; have h6 := ok.h6; have hl := ok.hl; have ho4 := ok.o4
  refine FnC_of_AW hTt Tryd.func72 rfl (by kernel_rfl) (res := [.tmp 8, .tmp 9]) rfl Tryd.ntmps72 (by simp) fun w0 K0 => ?_
  dsimp only [entry]
  repeat' first | with_reducible refine AW_seq ?_ | with_reducible refine AW_block ?_ | ((with_reducible refine AW_region hTt ?_); conv => whnf) | fail
  refine AW_imp (Imp.nil 10 3 1 (fr' := [(10, .x (.o 10 0 0)), (11, iv .i64 0), (5, .x (.b 5 0)), (4, .x (.b 4 0)), (2, iv .i64 st), (3, iv .i64 x)])
    (σ' := [(5, fltBox f), (4, netCells n)]) rfl ?_ ?_ rfl rfl) ?_
  · exact ⟨⟨_, rfl, .inr ⟨rfl, rfl⟩⟩, ⟨_, rfl, .inl rfl⟩, ⟨_, rfl, .inl rfl⟩, ⟨_, rfl, .inl rfl⟩, ⟨_, rfl, .inl rfl⟩, ⟨_, rfl, .inl rfl⟩, trivial⟩
  · exact ⟨⟨_, rfl, .inl rfl⟩, ⟨_, rfl, .inl rfl⟩, trivial⟩
  refine AW_loop (fun i : Nat => [(10, .x (.o 10 i i)), (11, iv .i64 i), (5, .x (.b 5 0)), (4, .x (.b 4 0)), (2, iv .i64 st), (3, iv .i64 x)])
    (fun i => [(10, .chain 3 1 i ((insR f x i).map iPV)), (5, fltBox f), (4, netCells n)])
    (fun i => i ≤ n.inn.toNat) (fun i => n.inn.toNat - i) 0 (by simp) impA ?_
  intro i hi
  have hil := insR_len f x i
  repeat' first | with_reducible refine AW_seq ?_ | with_reducible refine AW_block ?_ | ((first | with_reducible refine AW_skip ?_ | with_reducible refine AW_exit ?_ | with_reducible refine AW_region hTt ?_ | refine AW_draw hTt hMix (id := 5) 10 true [0, 0, 0, 0, 0, 16, 56, 120, 254, 510, 1023, 2047] (by kernel_rfl) rfl rfl (by kernel_rfl) ?_ | refine ⟨_, fun _ => (two_small i (by omega)).call rfl rfl, ?_⟩ | refine And.intro (gd_none (two_ne _)) ?_ | refine ⟨_, bit_of hx.1 hx.2 i, ?_⟩ | refine ⟨_, bit2 hx.1 i, ?_⟩ | refine ⟨_, fun _ => (signal_fn f _ _).call rfl rfl, ?_⟩ | fail); conv => whnf) | ((refine And.intro (by refine ⟨?_, ?_, ?_⟩ <;> simp [chunk, maxLen, insR] <;> omega) ?_); conv => whnf) | (refine AW_cond rfl (fun hb => ?_) (fun hb => ?_) <;> first | (replace hb := of_decide_eq_true hb; try simp only [List.length_map] at hb) | (replace hb := of_decide_eq_false hb; try simp only [List.length_map] at hb)) | ((first | refine ⟨_, wrap_of (by first | omega | (simp only [List.length_map]; omega)), ?_⟩ | refine andA ?_ | fail); conv => whnf) | fail
  · have e : ((insR f x i).map iPV).take i ++ [[PV.v (.int .i64 (sgn f i (x / 2 ^ i % 2)))]] = (insR f x (i + 1)).map iPV := by
      rw [List.take_of_length_le (by simp [hil])]
      unfold insR
      rw [List.range_succ, List.map_append, List.map_append]; rfl
    exact ⟨i + 1, by omega, by omega, impA⟩
  have hie : i = n.inn.toNat := by omega
  subst hie
  refine AW_loop (fun i : Nat => [(13, iv .i64 i), (12, iv .i64 (delays (n.gates.take i))), (10, .x (.o 10 (n.inn.toNat + i) (n.inn.toNat + i))), (5, .x (.b 5 0)), (4, .x (.b 4 0)), (2, iv .i64 st), (3, iv .i64 x)])
    (fun i => [(10, .chain 3 1 (n.inn.toNat + i) ((sigR n f st x i).map iPV)), (5, fltBox f), (4, netCells n)])
    (fun i => i ≤ n.gates.length) (fun i => n.gates.length - i) 0 (by simp) impA ?_
  intro i hi
  clear hil hb
  have hsl := sigR_len n f st x i
  have hbits := sigR_bits (by omega : 0 ≤ n.inn) hf st x i
  rcases Nat.lt_or_ge i n.gates.length with hig | hig
  · obtain ⟨⟨k, a, b⟩, hg⟩ : ∃ g, n.gates[i] = g := ⟨_, rfl⟩
    have hg? : n.gates[i]? = some ⟨k, a, b⟩ := by rw [List.getElem?_eq_getElem hig, hg]
    have hgD : n.gates.getD i gate0 = ⟨k, a, b⟩ := by rw [List.getD_eq_getElem?_getD, hg?]; rfl
    have hkk := ok.hk i hig
    have haa := ok.ha i hig
    have hbb := ok.hb i hig
    rw [hg] at hkk haa hbb
    dsimp only at hkk haa hbb
    have hdt := delays_take n.gates i hig
    rw [hg] at hdt
    dsimp only at hdt
    have hdle := delays_le (n.gates.take i)
    rw [List.length_take] at hdle
    have k5 : k = 1 ∨ k = 2 ∨ k = 3 ∨ k = 4 ∨ k = 5 := by omega
    have step : ∀ v : Int, sgn f (n.inn + i) (gateR ⟨k, a, b⟩ (sigR n f st x i) (st / 2 ^ delays (n.gates.take i) % 2)) = v →
        ((sigR n f st x i).map iPV).take (n.inn.toNat + i) ++ [[PV.v (.int .i64 v)]] = (sigR n f st x (i + 1)).map iPV := by
      intro v hv
      rw [List.take_of_length_le (by simp [hsl]), sigR, List.map_append, hgD, hv]; rfl
    have hA := hbits a.toNat
    have hB := hbits b.toNat
    have hni : ((n.inn.toNat + i : Nat) : Int) = n.inn + i := by omega
    have hD := hs.1
    rcases k5 with rfl | rfl | rfl | rfl | rfl
    · have ha' : a.toNat < (sigR n f st x i).length := by omega
      have hb' : b.toNat < (sigR n f st x i).length := by omega
      rw [← getI ha'] at hA
      rw [← getI hb'] at hB
      repeat' first | with_reducible refine AW_seq ?_ | with_reducible refine AW_block ?_ | ((first | with_reducible refine AW_skip ?_ | with_reducible refine AW_exit ?_ | with_reducible refine AW_region hTt ?_ | refine AW_draw hTt hMix (id := 13) 10 false [0, 0, 2, 7, 15, 0, 0, 64, 224, 480, 1023, 2047] (by kernel_rfl) rfl rfl (by kernel_rfl) ?_ | fail); conv => whnf) | (exact absurd hb (by omega)) | ((first | with_reducible refine Exists.intro _ (And.intro (gd_any (And.intro (by omega) (gate_some hg?))) ?_) | refine ⟨_, mul_bit hbits ha' hb', ?_⟩ | ((refine ⟨_, (signal_fn f _ _).call rfl rfl, ?_⟩); (rintro _ _ ⟨rfl, rfl⟩)) | fail); conv => whnf) | (refine AW_cond rfl (fun _ => ?_) (fun hb => absurd hb (by decide))) | (refine AW_cond rfl (fun hb => absurd hb (by decide)) (fun _ => ?_)) | (refine AW_cond rfl (fun hb => ?_) (fun hb => ?_) <;> first | (replace hb := of_decide_eq_true hb; try simp only [List.length_map] at hb) | (replace hb := of_decide_eq_false hb; try simp only [List.length_map] at hb)) | ((first | refine ⟨_, wrap_of (by first | omega | (simp only [List.length_map]; omega)), ?_⟩ | refine andA ?_ | with_reducible refine And.intro (gd_any (And.intro (by omega) (And.intro (by first | omega | (simp only [List.length_map]; omega)) (by first | omega | (simp only [List.length_map]; omega) | (simp only [List.length_set, List.length_map]; omega))))) ?_ | with_reducible refine Exists.intro _ (And.intro (gd_any (map_get' (by omega) (by omega))) (And.intro (And.intro (Nat.le_of_ble_eq_true rfl) rfl) ?_)) | fail); conv => whnf) | ((refine And.intro (by refine ⟨?_, ?_, ?_⟩ <;> simp [chunk, maxLen] <;> omega) ?_); conv => whnf) | (refine fun hln => ?_; (try rw [List.length_map] at hln); unfold maxLen at hln; conv => whnf) | fail
      have hdt' : delays (n.gates.take (i + 1)) = delays (n.gates.take i) := by simpa using hdt
      exact ⟨i + 1, by omega, by omega, (Imp.forget (by repeat' (first | exact trivial | refine And.intro ?_ ?_ | exact chE (step _ (by rw [sgn, hni, getI ha', getI hb']; rfl)) | rfl | exact ivE (by first | omega | (simp only [List.length_map, List.length_append, List.length_singleton] <;> omega)) | exact oE (by first | omega | (simp only [List.length_map, List.length_append, List.length_singleton] <;> omega)))) (by repeat' (first | exact trivial | refine And.intro ?_ ?_ | exact chE (step _ (by rw [sgn, hni, getI ha', getI hb']; rfl)) | rfl | exact ivE (by first | omega | (simp only [List.length_map, List.length_append, List.length_singleton] <;> omega)) | exact oE (by first | omega | (simp only [List.length_map, List.length_append, List.length_singleton] <;> omega)))) (by kernel_rfl) (by kernel_rfl) (by kernel_rfl))⟩
    · have ha' : a.toNat < (sigR n f st x i).length := by omega
      have hb' : b.toNat < (sigR n f st x i).length := by omega
      repeat' first | with_reducible refine AW_seq ?_ | with_reducible refine AW_block ?_ | ((first | with_reducible refine AW_skip ?_ | with_reducible refine AW_exit ?_ | with_reducible refine AW_region hTt ?_ | refine AW_draw hTt hMix (id := 15) 10 false [0, 0, 2, 7, 15, 0, 0, 64, 224, 480, 1023, 2047] (by kernel_rfl) rfl rfl (by kernel_rfl) ?_ | fail); conv => whnf) | (exact absurd hb (by omega)) | ((first | with_reducible refine Exists.intro _ (And.intro (gd_any (And.intro (by omega) (gate_some hg?))) ?_) | ((refine ⟨_, (signal_fn f _ _).call rfl rfl, ?_⟩); (rintro _ _ ⟨rfl, rfl⟩)) | fail); conv => whnf) | (refine AW_cond rfl (fun _ => ?_) (fun hb => absurd hb (by decide))) | (refine AW_cond rfl (fun hb => absurd hb (by decide)) (fun _ => ?_)) | (refine AW_cond rfl (fun hb => ?_) (fun hb => ?_) <;> first | (replace hb := of_decide_eq_true hb; try simp only [List.length_map] at hb) | (replace hb := of_decide_eq_false hb; try simp only [List.length_map] at hb)) | ((first | refine ⟨_, wrap_of (by first | omega | (simp only [List.length_map]; omega)), ?_⟩ | refine andA ?_ | with_reducible refine And.intro (gd_any (And.intro (by omega) (And.intro (by first | omega | (simp only [List.length_map]; omega)) (by first | omega | (simp only [List.length_map]; omega) | (simp only [List.length_set, List.length_map]; omega))))) ?_ | with_reducible refine Exists.intro _ (And.intro (gd_any (map_get' (by omega) (by omega))) (And.intro (And.intro (Nat.le_of_ble_eq_true rfl) rfl) ?_)) | fail); conv => whnf) | ((refine And.intro (by refine ⟨?_, ?_, ?_⟩ <;> simp [chunk, maxLen] <;> omega) ?_); conv => whnf) | (refine fun hln => ?_; (try rw [List.length_map] at hln); unfold maxLen at hln; conv => whnf) | fail
      have hdt' : delays (n.gates.take (i + 1)) = delays (n.gates.take i) := by simpa using hdt
      exact ⟨i + 1, by omega, by omega, (Imp.forget (by repeat' (first | exact trivial | refine And.intro ?_ ?_ | exact chE (step _ (by rw [sgn, hni, getI ha', getI hb']; rfl)) | rfl | exact ivE (by first | omega | (simp only [List.length_map, List.length_append, List.length_singleton] <;> omega)) | exact oE (by first | omega | (simp only [List.length_map, List.length_append, List.length_singleton] <;> omega)))) (by repeat' (first | exact trivial | refine And.intro ?_ ?_ | exact chE (step _ (by rw [sgn, hni, getI ha', getI hb']; rfl)) | rfl | exact ivE (by first | omega | (simp only [List.length_map, List.length_append, List.length_singleton] <;> omega)) | exact oE (by first | omega | (simp only [List.length_map, List.length_append, List.length_singleton] <;> omega)))) (by kernel_rfl) (by kernel_rfl) (by kernel_rfl))⟩
    · have ha' : a.toNat < (sigR n f st x i).length := by omega
      have hb' : b.toNat < (sigR n f st x i).length := by omega
      rw [← getI ha'] at hA
      rw [← getI hb'] at hB
      repeat' first | with_reducible refine AW_seq ?_ | with_reducible refine AW_block ?_ | ((first | with_reducible refine AW_skip ?_ | with_reducible refine AW_exit ?_ | with_reducible refine AW_region hTt ?_ | refine AW_draw hTt hMix (id := 17) 10 false [0, 0, 2, 7, 15, 0, 0, 64, 224, 480, 1023, 2047, 4095] (by kernel_rfl) rfl rfl (by kernel_rfl) ?_ | fail); conv => whnf) | (exact absurd hb (by omega)) | ((first | with_reducible refine Exists.intro _ (And.intro (gd_any (And.intro (by omega) (gate_some hg?))) ?_) | refine ⟨_, tmod2 (by omega), ?_⟩ | ((refine ⟨_, (signal_fn f _ _).call rfl rfl, ?_⟩); (rintro _ _ ⟨rfl, rfl⟩)) | fail); conv => whnf) | (refine AW_cond rfl (fun _ => ?_) (fun hb => absurd hb (by decide))) | (refine AW_cond rfl (fun hb => absurd hb (by decide)) (fun _ => ?_)) | (refine AW_cond rfl (fun hb => ?_) (fun hb => ?_) <;> first | (replace hb := of_decide_eq_true hb; try simp only [List.length_map] at hb) | (replace hb := of_decide_eq_false hb; try simp only [List.length_map] at hb)) | ((first | refine ⟨_, wrap_of (by first | omega | (simp only [List.length_map]; omega)), ?_⟩ | refine andA ?_ | with_reducible refine And.intro (gd_any (And.intro (by omega) (And.intro (by first | omega | (simp only [List.length_map]; omega)) (by first | omega | (simp only [List.length_map]; omega) | (simp only [List.length_set, List.length_map]; omega))))) ?_ | with_reducible refine Exists.intro _ (And.intro (gd_any (map_get' (by omega) (by omega))) (And.intro (And.intro (Nat.le_of_ble_eq_true rfl) rfl) ?_)) | fail); conv => whnf) | ((refine And.intro (by refine ⟨?_, ?_, ?_⟩ <;> simp [chunk, maxLen] <;> omega) ?_); conv => whnf) | (refine fun hln => ?_; (try rw [List.length_map] at hln); unfold maxLen at hln; conv => whnf) | fail
      have hdt' : delays (n.gates.take (i + 1)) = delays (n.gates.take i) := by simpa using hdt
      exact ⟨i + 1, by omega, by omega, (Imp.forget (by repeat' (first | exact trivial | refine And.intro ?_ ?_ | exact chE (step _ (by rw [sgn, hni, getI ha', getI hb']; rfl)) | rfl | exact ivE (by first | omega | (simp only [List.length_map, List.length_append, List.length_singleton] <;> omega)) | exact oE (by first | omega | (simp only [List.length_map, List.length_append, List.length_singleton] <;> omega)))) (by repeat' (first | exact trivial | refine And.intro ?_ ?_ | exact chE (step _ (by rw [sgn, hni, getI ha', getI hb']; rfl)) | rfl | exact ivE (by first | omega | (simp only [List.length_map, List.length_append, List.length_singleton] <;> omega)) | exact oE (by first | omega | (simp only [List.length_map, List.length_append, List.length_singleton] <;> omega)))) (by kernel_rfl) (by kernel_rfl) (by kernel_rfl))⟩
    · have ha' : a.toNat < (sigR n f st x i).length := by omega
      rw [← getI ha'] at hA
      repeat' first | with_reducible refine AW_seq ?_ | with_reducible refine AW_block ?_ | ((first | with_reducible refine AW_skip ?_ | with_reducible refine AW_exit ?_ | with_reducible refine AW_region hTt ?_ | fail); conv => whnf) | (exact absurd hb (by omega)) | ((first | with_reducible refine Exists.intro _ (And.intro (gd_any (And.intro (by omega) (gate_some hg?))) ?_) | ((refine ⟨_, (signal_fn f _ _).call rfl rfl, ?_⟩); (rintro _ _ ⟨rfl, rfl⟩)) | fail); conv => whnf) | (refine AW_cond rfl (fun _ => ?_) (fun hb => absurd hb (by decide))) | (refine AW_cond rfl (fun hb => absurd hb (by decide)) (fun _ => ?_)) | (refine AW_cond rfl (fun hb => ?_) (fun hb => ?_) <;> first | (replace hb := of_decide_eq_true hb; try simp only [List.length_map] at hb) | (replace hb := of_decide_eq_false hb; try simp only [List.length_map] at hb)) | ((first | refine ⟨_, wrap_of (by first | omega | (simp only [List.length_map]; omega)), ?_⟩ | refine andA ?_ | with_reducible refine And.intro (gd_any (And.intro (by omega) (And.intro (by first | omega | (simp only [List.length_map]; omega)) (by first | omega | (simp only [List.length_map]; omega) | (simp only [List.length_set, List.length_map]; omega))))) ?_ | with_reducible refine Exists.intro _ (And.intro (gd_any (map_get' (by omega) (by omega))) (And.intro (And.intro (Nat.le_of_ble_eq_true rfl) rfl) ?_)) | fail); conv => whnf) | ((refine And.intro (by refine ⟨?_, ?_, ?_⟩ <;> simp [chunk, maxLen] <;> omega) ?_); conv => whnf) | (refine fun hln => ?_; (try rw [List.length_map] at hln); unfold maxLen at hln; conv => whnf) | fail
      have hdt' : delays (n.gates.take (i + 1)) = delays (n.gates.take i) := by simpa using hdt
      exact ⟨i + 1, by omega, by omega, (Imp.forget (by repeat' (first | exact trivial | refine And.intro ?_ ?_ | exact chE (step _ (by rw [sgn, hni, getI ha']; rfl)) | rfl | exact ivE (by first | omega | (simp only [List.length_map, List.length_append, List.length_singleton] <;> omega)) | exact oE (by first | omega | (simp only [List.length_map, List.length_append, List.length_singleton] <;> omega)))) (by repeat' (first | exact trivial | refine And.intro ?_ ?_ | exact chE (step _ (by rw [sgn, hni, getI ha']; rfl)) | rfl | exact ivE (by first | omega | (simp only [List.length_map, List.length_append, List.length_singleton] <;> omega)) | exact oE (by first | omega | (simp only [List.length_map, List.length_append, List.length_singleton] <;> omega)))) (by kernel_rfl) (by kernel_rfl) (by kernel_rfl))⟩
    · repeat' first | with_reducible refine AW_seq ?_ | with_reducible refine AW_block ?_ | ((first | with_reducible refine AW_skip ?_ | with_reducible refine AW_exit ?_ | with_reducible refine AW_region hTt ?_ | fail); conv => whnf) | (exact absurd hb (by omega)) | ((first | with_reducible refine Exists.intro _ (And.intro (gd_any (And.intro (by omega) (gate_some hg?))) ?_) | ((refine ⟨_, (two_small (delays (n.gates.take i)) (by omega)).call rfl rfl, ?_⟩); (rintro _ _ ⟨rfl, rfl⟩)) | refine And.intro (gd_none (two_ne _)) ?_ | refine ⟨_, bit_of hs.1 hs.2 _, ?_⟩ | refine ⟨_, bit2 hs.1 _, ?_⟩ | ((refine ⟨_, (signal_fn f _ _).call rfl rfl, ?_⟩); (rintro _ _ ⟨rfl, rfl⟩)) | fail); conv => whnf) | (refine AW_cond rfl (fun _ => ?_) (fun hb => absurd hb (by decide))) | (refine AW_cond rfl (fun hb => absurd hb (by decide)) (fun _ => ?_)) | (refine AW_cond rfl (fun hb => ?_) (fun hb => ?_) <;> first | (replace hb := of_decide_eq_true hb; try simp only [List.length_map] at hb) | (replace hb := of_decide_eq_false hb; try simp only [List.length_map] at hb)) | ((first | refine ⟨_, wrap_of (by first | omega | (simp only [List.length_map]; omega)), ?_⟩ | refine andA ?_ | fail); conv => whnf) | ((refine And.intro (by refine ⟨?_, ?_, ?_⟩ <;> simp [chunk, maxLen] <;> omega) ?_); conv => whnf) | (refine fun hln => ?_; (try rw [List.length_map] at hln); unfold maxLen at hln; conv => whnf) | fail
      have hdt' : delays (n.gates.take (i + 1)) = delays (n.gates.take i) + 1 := hdt
      exact ⟨i + 1, by omega, by omega, (Imp.forget (by repeat' (first | exact trivial | refine And.intro ?_ ?_ | exact chE (step _ (by rw [sgn, hni]; rfl)) | rfl | exact ivE (by first | omega | (simp only [List.length_map, List.length_append, List.length_singleton] <;> omega)) | exact oE (by first | omega | (simp only [List.length_map, List.length_append, List.length_singleton] <;> omega)))) (by repeat' (first | exact trivial | refine And.intro ?_ ?_ | exact chE (step _ (by rw [sgn, hni]; rfl)) | rfl | exact ivE (by first | omega | (simp only [List.length_map, List.length_append, List.length_singleton] <;> omega)) | exact oE (by first | omega | (simp only [List.length_map, List.length_append, List.length_singleton] <;> omega)))) (by kernel_rfl) (by kernel_rfl) (by kernel_rfl))⟩
  · have hie : i = n.gates.length := by omega
    subst hie
    have htake : n.gates.take n.gates.length = n.gates := List.take_of_length_le (Nat.le_refl _)
    repeat' first | with_reducible refine AW_seq ?_ | with_reducible refine AW_block ?_ | ((first | with_reducible refine AW_skip ?_ | with_reducible refine AW_exit ?_ | with_reducible refine AW_region hTt ?_ | fail); conv => whnf) | (exact absurd hb (by omega)) | (refine AW_cond rfl (fun hb => ?_) (fun hb => ?_) <;> first | (replace hb := of_decide_eq_true hb; try simp only [List.length_map] at hb) | (replace hb := of_decide_eq_false hb; try simp only [List.length_map] at hb)) | ((refine andA ?_); conv => whnf) | (refine fun hln => ?_; (try rw [List.length_map] at hln); unfold maxLen at hln; conv => whnf) | fail
    generalize hsg : sigR n f st x n.gates.length = sg at *
    refine AW_loop (fun i : Nat => [(18, iv .i64 i), (12, iv .i64 (delays (n.gates.take i))), (16, iv .i64 (nextR n sg i)), (17, iv .i64 0), (10, .x (.o 10 (n.inn.toNat + n.gates.length) (n.inn.toNat + n.gates.length))), (4, .x (.b 4 0))])
      (fun i => [(10, .chain 3 1 (n.inn.toNat + n.gates.length) (sg.map iPV)), (4, netCells n)])
      (fun i => i ≤ n.gates.length) (fun i => n.gates.length - i) 0 (by simp) impA ?_
    intro i hi
    have hdle := delays_le (n.gates.take i)
    rw [List.length_take] at hdle
    have hd5 := ok.hd
    rcases Nat.lt_or_ge i n.gates.length with hig | hig
    · obtain ⟨⟨k, a, b⟩, hg⟩ : ∃ g, n.gates[i] = g := ⟨_, rfl⟩
      have hg? : n.gates[i]? = some ⟨k, a, b⟩ := by rw [List.getElem?_eq_getElem hig, hg]
      have hgD : n.gates.getD i gate0 = ⟨k, a, b⟩ := by rw [List.getD_eq_getElem?_getD, hg?]; rfl
      have haa := ok.ha i hig
      rw [hg] at haa
      dsimp only at haa
      have hdt := delays_take n.gates i hig
      rw [hg] at hdt
      dsimp only at hdt
      have hnl := nextR_lt hbits i hi
      have hpw := two_lt (delays (n.gates.take i)) (by omega)
      have hA := hbits a.toNat
      have ha' : a.toNat < sg.length := by omega
      rw [← getI ha'] at hA
      have hab : 0 ≤ sg[a.toNat] * 2 ^ delays (n.gates.take i) ∧ sg[a.toNat] * 2 ^ delays (n.gates.take i) ≤ 1073741824 := by
        rcases hA with e | e <;> rw [e] <;> omega
      repeat' first | with_reducible refine AW_seq ?_ | with_reducible refine AW_block ?_ | ((first | with_reducible refine AW_skip ?_ | with_reducible refine AW_exit ?_ | with_reducible refine AW_region hTt ?_ | refine AW_draw hTt hMix (id := 30) 13 false [0, 0, 0, 4, 0, 28, 60, 124, 254, 510, 0, 1024, 4094, 8191, 16383] (by kernel_rfl) rfl rfl (by kernel_rfl) ?_ | fail); conv => whnf) | (exact absurd hb (by omega)) | ((first | with_reducible refine Exists.intro _ (And.intro (gd_any (And.intro (by omega) (gate_some hg?))) ?_) | refine ⟨_, fun _ => (two_small (delays (n.gates.take i)) (by omega)).call rfl rfl, ?_⟩ | refine ⟨_, mul_pow hbits ha' (by omega), ?_⟩ | fail); conv => whnf) | (refine AW_cond rfl (fun hb => ?_) (fun hb => ?_) <;> first | (replace hb := of_decide_eq_true hb; try simp only [List.length_map] at hb) | (replace hb := of_decide_eq_false hb; try simp only [List.length_map] at hb)) | ((first | refine ⟨_, wrap_of (by first | omega | (simp only [List.length_map]; omega)), ?_⟩ | refine andA ?_ | with_reducible refine And.intro (gd_any (And.intro (by omega) (And.intro (by first | omega | (simp only [List.length_map]; omega)) (by first | omega | (simp only [List.length_map]; omega) | (simp only [List.length_set, List.length_map]; omega))))) ?_ | with_reducible refine Exists.intro _ (And.intro (gd_any (map_get' (by omega) (by omega))) (And.intro (And.intro (Nat.le_of_ble_eq_true rfl) rfl) ?_)) | fail); conv => whnf) | (refine fun hln => ?_; (try rw [List.length_map] at hln); unfold maxLen at hln; conv => whnf) | fail
      · have e5 : k = 5 := by simpa using hb
        have en : nextR n sg (i + 1) = nextR n sg i + sg[a.toNat] * 2 ^ delays (n.gates.take i) := by rw [nextR, hgD, if_pos e5, getI ha']
        have hdt' : delays (n.gates.take (i + 1)) = delays (n.gates.take i) + 1 := by rw [hdt, if_pos e5]
        exact ⟨i + 1, by omega, by omega, impA⟩
      · have e5 : ¬ k = 5 := by simpa using hb
        have en : nextR n sg (i + 1) = nextR n sg i := by rw [nextR, hgD, if_neg e5, Int.add_zero]
        have hdt' : delays (n.gates.take (i + 1)) = delays (n.gates.take i) := by rw [hdt, if_neg e5]; rfl
        exact ⟨i + 1, by omega, by omega, impA⟩
    · have hie : i = n.gates.length := by omega
      subst hie
      repeat' first | with_reducible refine AW_seq ?_ | with_reducible refine AW_block ?_ | ((first | with_reducible refine AW_skip ?_ | with_reducible refine AW_exit ?_ | with_reducible refine AW_region hTt ?_ | fail); conv => whnf) | (exact absurd hb (by omega)) | (refine AW_cond rfl (fun hb => ?_) (fun hb => ?_) <;> first | (replace hb := of_decide_eq_true hb; try simp only [List.length_map] at hb) | (replace hb := of_decide_eq_false hb; try simp only [List.length_map] at hb)) | ((refine andA ?_); conv => whnf) | (refine fun hln => ?_; (try rw [List.length_map] at hln); unfold maxLen at hln; conv => whnf) | fail
      refine AW_loop (fun i : Nat => [(19, iv .i64 i), (16, iv .i64 (nextR n sg n.gates.length)), (17, iv .i64 (outR n sg i)), (10, .x (.o 10 (n.inn.toNat + n.gates.length) (n.inn.toNat + n.gates.length))), (4, .x (.b 4 0))])
        (fun i => [(10, .chain 3 1 (n.inn.toNat + n.gates.length) (sg.map iPV)), (4, netCells n)])
        (fun i => i ≤ n.out.length) (fun i => n.out.length - i) 0 (by simp) impA ?_
      intro i hi
      rcases Nat.lt_or_ge i n.out.length with hio | hio
      · have hoo := ok.ho i hio
        obtain ⟨a, hg⟩ : ∃ g, n.out[i] = g := ⟨_, rfl⟩
        have hg? : n.out[i]? = some a := by rw [List.getElem?_eq_getElem hio, hg]
        have hgD : n.out.getD i 0 = a := by rw [List.getD_eq_getElem?_getD, hg?]; rfl
        rw [hg] at hoo
        have hnl := outR_lt (n := n) hbits i
        have hpw := two_lt i (by omega)
        have hA := hbits a.toNat
        have ha' : a.toNat < sg.length := by omega
        rw [← getI ha'] at hA
        have hab : 0 ≤ sg[a.toNat] * 2 ^ i ∧ sg[a.toNat] * 2 ^ i ≤ 1073741824 := by
          rcases hA with e | e <;> rw [e] <;> omega
        repeat' first | with_reducible refine AW_seq ?_ | with_reducible refine AW_block ?_ | ((first | with_reducible refine AW_skip ?_ | with_reducible refine AW_exit ?_ | with_reducible refine AW_ret ?_ | with_reducible refine AW_region hTt ?_ | refine AW_draw hTt hMix (id := 35) 12 false [0, 0, 0, 4, 0, 28, 60, 126, 254, 0, 512, 2046, 4095, 8191] (by kernel_rfl) rfl rfl (by kernel_rfl) ?_ | fail); conv => whnf) | (exact absurd hb (by omega)) | ((first | with_reducible refine Exists.intro _ (And.intro (gd_any (And.intro (by omega) (map_some hg?))) ?_) | refine ⟨_, fun _ => (two_small i (by omega)).call rfl rfl, ?_⟩ | refine ⟨_, mul_pow hbits ha' (by omega), ?_⟩ | fail); conv => whnf) | (refine AW_cond rfl (fun hb => ?_) (fun hb => ?_) <;> first | (replace hb := of_decide_eq_true hb; try simp only [List.length_map] at hb) | (replace hb := of_decide_eq_false hb; try simp only [List.length_map] at hb)) | ((first | refine ⟨_, wrap_of (by first | omega | (simp only [List.length_map]; omega)), ?_⟩ | refine andA ?_ | with_reducible refine And.intro (gd_any (And.intro (by omega) (And.intro (by first | omega | (simp only [List.length_map]; omega)) (by first | omega | (simp only [List.length_map]; omega) | (simp only [List.length_set, List.length_map]; omega))))) ?_ | with_reducible refine Exists.intro _ (And.intro (gd_any (map_get' (by omega) (by omega))) (And.intro (And.intro (Nat.le_of_ble_eq_true rfl) rfl) ?_)) | fail); conv => whnf) | (refine fun hln => ?_; (try rw [List.length_map] at hln); unfold maxLen at hln; conv => whnf) | fail
        have en : outR n sg (i + 1) = outR n sg i + sg[a.toNat] * 2 ^ i := by rw [outR, hgD, getI ha']
        exact ⟨i + 1, by omega, by omega, impA⟩
      · have hie : i = n.out.length := by omega
        subst hie
        repeat' first | with_reducible refine AW_seq ?_ | with_reducible refine AW_block ?_ | ((first | with_reducible refine AW_skip ?_ | with_reducible refine AW_exit ?_ | with_reducible refine AW_ret ?_ | with_reducible refine AW_region hTt ?_ | refine AW_draw hTt hMix (id := 35) 12 false [0, 0, 0, 4, 0, 28, 60, 126, 254, 0, 512, 2046, 4095, 8191] (by kernel_rfl) rfl rfl (by kernel_rfl) ?_ | fail); conv => whnf) | (exact absurd hb (by omega)) | (refine AW_cond rfl (fun hb => ?_) (fun hb => ?_) <;> first | (replace hb := of_decide_eq_true hb; try simp only [List.length_map] at hb) | (replace hb := of_decide_eq_false hb; try simp only [List.length_map] at hb)) | ((refine andA ?_); conv => whnf) | (refine fun hln => ?_; (try rw [List.length_map] at hln); unfold maxLen at hln; conv => whnf) | fail
        subst hsg
        rfl
end Go.Proofs.YtfghooojingdhaaDoor
namespace Go.QL
open Go Go.RowKit
def PostL (tt : TT) (res : List ResultVar) (r : AV) : Exit → Fr → Sg → Prop
  | .normal, fr, σ | .ret, fr, σ => ∃ r', outcome tt res fr σ = some r' ∧ LeAV r' r
  | _, _, _ => False
theorem LeAV.refl (x : AV) : LeAV x x := by
  cases x with
  | t xs =>
    refine ⟨xs, rfl, ?_⟩
    induction xs with
    | nil => trivial
    | cons x r ih => exact ⟨LeAV1.refl x, ih⟩
  | x s => exact LeAV1.refl (.x s)
  | a s => exact LeAV1.refl (.a s)
  | g c s => exact LeAV1.refl (.g c s)
section
variable {P : Program}
theorem FnC_of_AWL {tt : TT} (htt : tt.ok P) {f : FuncId} {fn : Func} {c : Code} {args : List AV} {r : AV} {res : List ResultVar} (hf : P.funcs[f]? = some fn) (hb : fn.body = some c)
    (hname : (fn.name == "runtime.NumGoroutine") = false) (hres : fn.results = res.toArray) {nt : Nat} (hnt : fn.ntmps = nt) (hle : args.length ≤ nt)
    (h : ∀ w0 K0, AW P (Cx.lone w0 K0 nt) c (PostL tt res r) (entry 0 args) []) : FnC P f args r := by
  refine ⟨⟨fn, hf, by rw [hb]; rfl, hname⟩, fun K w vs hK hs hv => ?_⟩
  refine calls_of_wp hf hb ((wpIn_wide (n := 0)).1 ?_)
  have hrel : Rel (Cx.lone w ⟨K, (· < w.heap.size)⟩ nt) (entry 0 args) [] ⟨K, fun _ => undef⟩ ⟨vs ++ Array.replicate (fn.ntmps - vs.size) undef, []⟩ w := by
    refine ⟨⟨.refl _ _, fun _ h => h, .refl _ _, fun _ _ _ h => h, hK, (fun id ob hid => by cases hid), (fun id b hi => by cases hi), (fun i j b hi => by cases hi)⟩, fun t x ht => ?_, by simp; omega, DR.empty, fun s v hb => hb.elim⟩
    obtain ⟨_, hx⟩ := lk_entry args 0 t x ht
    rw [Nat.sub_zero] at hx
    have hlt : t < args.length := (List.getElem?_eq_some_iff.1 hx).1
    refine ⟨by show t < nt; omega, ?_⟩
    have hvt : vs[t]? = some (vs[t]'(by omega)) := Array.getElem?_eq_getElem (by omega)
    have e : (vs ++ Array.replicate (fn.ntmps - vs.size) undef).getD t undef = vs[t]'(by omega) := by
      rw [Array.getD_eq_getD_getElem?, Array.getElem?_append_left (by omega), hvt]; rfl
    show VR _ _ _ _ ((vs ++ Array.replicate (fn.ntmps - vs.size) undef).getD t undef)
    rw [e]
    exact VR_of_VR2 (hv t x _ hx hvt)
  refine wpIn_mono ((h w ⟨K, (· < w.heap.size)⟩).use hrel) ?_
  intro e a' w' ⟨fr, σ, g, hr, hq⟩
  have fin : (∃ r', outcome tt res fr σ = some r' ∧ LeAV r' r) → a'.defers = [] ∧ ∃ v, (results fn a'.tmps).run P w' = .ok v w' ∧ ∃ v_1 K', Ending.returned v = .returned v_1 ∧ Below w.heap.size w w' ∧ Ext K w K' w' ∧
      (∀ b o, b < w.heap.size → K' b o → K b o) ∧ (∀ b o, K' b o → b < w'.heap.size) ∧ VR2 [] ⟨K', fun _ => undef⟩ w' r v_1 := by
    rintro ⟨r', ho, hle⟩
    obtain ⟨v, hrun, hvr⟩ := outcome_ok htt hr hres ho (μ := fun _ => undef)
    exact ⟨hr.defers.nil, v, hrun, v, Kall σ g w', rfl, hr.hp.kept.below, hr.hp.ext.trans Kall_ext, Kall_old hr.hp, Kall_val hr.hp, hle.ok hvr⟩
  cases e with
  | normal => exact fin hq
  | ret => exact fin hq
  | _ => exact hq.elim
theorem AW_len1 {Γ : Cx} {fr : Fr} {σ : Sg} {c : Code} {Q : Exit → Fr → Sg → Prop} (t : Nat) {sz : Nat} {xs : List (List PV)} (h1 : lk t fr = some (.x (.d (.s sz xs))))
    (h : xs.length ≤ maxLen → AW P Γ c Q fr σ) : AW P Γ c Q fr σ := by
  refine AW.mk fun g a w hr => ?_
  have hv : SR σ g w (.d (.s sz xs)) (a.tmps.getD t undef) := (hr.fr t _ h1).2
  refine (h ?_).use hr
  generalize a.tmps.getD t undef = u at hv
  cases hv with
  | d _ _ hp =>
    cases hp with
    | s _ _ _ cap _ _ _ hcap hmax => exact Nat.le_trans hcap hmax
end
end Go.QL
namespace Go.Proofs.YtfghooojingdhaaDoor
open Go Go.QL
set_option maxHeartbeats 1600000
attribute [local irreducible] ACall FnC
def stR (n : NetT) (f : FaultT) (xs : List Int) : Nat → Int
  | 0 => 0
  | t + 1 => (beatR n f (stR n f xs t) (xs.getD t 0)).1
def outsR (n : NetT) (f : FaultT) (xs : List Int) (t : Nat) : List Int := (List.range t).map fun u => (beatR n f (stR n f xs u) (xs.getD u 0)).2
theorem outsR_len (n : NetT) (f : FaultT) (xs : List Int) (t : Nat) : (outsR n f xs t).length = t := by simp [outsR]
theorem outsR_succ (n : NetT) (f : FaultT) (xs : List Int) (t : Nat) : outsR n f xs (t + 1) = outsR n f xs t ++ [(beatR n f (stR n f xs t) (xs.getD t 0)).2] := by simp [outsR, List.range_succ]
theorem beatR_st {n : NetT} (ok : NetOK n) {f : FaultT} (hf : FltOK f) (st x : Int) : 0 ≤ (beatR n f st x).1 ∧ (beatR n f st x).1 < 2 ^ delays n.gates := by
  have h1 := ok.h1
  have := nextR_lt (n := n) (sigR_bits (by omega : 0 ≤ n.inn) hf st x n.gates.length) n.gates.length (Nat.le_refl _)
  rw [List.take_of_length_le (Nat.le_refl _)] at this
  exact this
theorem pow32 {d : Nat} (h : d ≤ 5) : (1 : Int) ≤ 2 ^ d ∧ (2 : Int) ^ d ≤ 32 := by
  have h1 : 0 < 2 ^ d := Nat.pow_pos (by decide)
  have h2 : 2 ^ d ≤ 2 ^ 5 := Nat.pow_le_pow_right (by decide) h
  have e : ((2 ^ d : Nat) : Int) = (2 : Int) ^ d := Int.natCast_pow 2 d
  rw [← e]; omega
theorem stR_lt {n : NetT} (ok : NetOK n) {f : FaultT} (hf : FltOK f) (xs : List Int) (t : Nat) : 0 ≤ stR n f xs t ∧ stR n f xs t < 2 ^ delays n.gates := by
  cases t with
  | zero => have := pow32 ok.hd; simp only [stR]; omega
  | succ t => exact beatR_st ok hf _ _
def InsOK (n : NetT) (xs : List Int) : Prop := ∀ i (h : i < xs.length), 0 ≤ xs[i] ∧ xs[i] ≤ topIn n
theorem topIn_le {n : NetT} (h6 : n.inn ≤ 6) : topIn n ≤ 63 := by
  unfold topIn
  have h2 : 2 ^ n.inn.toNat ≤ 2 ^ 6 := Nat.pow_le_pow_right (by decide) (by omega)
  have e : ((2 ^ n.inn.toNat : Nat) : Int) = (2 : Int) ^ n.inn.toNat := Int.natCast_pow 2 _
  rw [← e]; omega
theorem getDI {xs : List Int} {i : Nat} (h : i < xs.length) : xs.getD i 0 = xs[i] := by
  rw [List.getD_eq_getElem?_getD, List.getElem?_eq_getElem h]; rfl
theorem out_ref (n : NetT) (ok : NetOK n) (f : FaultT) (hf : FltOK f) (xs : List Int) (hx : InsOK n xs) (hl : xs.length ≤ 4096) :
    FnC Tryd.prog 32 [netAV n, faultAV f, sl xs] (sl (outsR n f xs xs.length)) := by
  refine FnC_of_AW hTt Tryd.func32 rfl (by kernel_rfl) (res := [.tmp 6]) rfl Tryd.ntmps32 (by simp) fun w0 K0 => ?_
  dsimp only [entry]
  repeat' first | with_reducible refine AW_seq ?_ | with_reducible refine AW_block ?_ | ((with_reducible refine AW_region hTt ?_); conv => whnf) | fail
  refine AW_imp (Imp.nil 7 3 1 (fr' := [(7, .x (.o 7 0 0)), (8, iv .i64 0), (9, iv .i64 0), (4, .x (.b 4 0)), (3, .x (.b 3 0)), (2, sl xs)])
    (σ' := [(4, fltBox f), (3, netCells n)]) rfl ?_ ?_ rfl rfl) ?_
  · exact ⟨⟨_, rfl, .inr ⟨rfl, rfl⟩⟩, ⟨_, rfl, .inl rfl⟩, ⟨_, rfl, .inl rfl⟩, ⟨_, rfl, .inl rfl⟩, ⟨_, rfl, .inl rfl⟩, ⟨_, rfl, .inl rfl⟩, trivial⟩
  · exact ⟨⟨_, rfl, .inl rfl⟩, ⟨_, rfl, .inl rfl⟩, trivial⟩
  refine AW_loop (fun i : Nat => [(7, .x (.o 7 i i)), (8, iv .i64 (stR n f xs i)), (9, iv .i64 i), (4, .x (.b 4 0)), (3, .x (.b 3 0)), (2, sl xs)])
    (fun i => [(7, .chain 3 1 i ((outsR n f xs i).map iPV)), (4, fltBox f), (3, netCells n)])
    (fun i => i ≤ xs.length) (fun i => xs.length - i) 0 (by simp) impA ?_
  intro i hi
  have hol := outsR_len n f xs i
  have hst := stR_lt ok hf xs i
  have hp := pow32 ok.hd
  rcases Nat.lt_or_ge i xs.length with hig | hig
  · have hxi := hx i hig
    have htop := topIn_le ok.h6
    have hbeat := beat_ref n ok f hf (stR n f xs i) xs[i] (by omega) (by omega)
    repeat' first | with_reducible refine AW_seq ?_ | with_reducible refine AW_block ?_ | ((first | with_reducible refine AW_skip ?_ | with_reducible refine AW_exit ?_ | with_reducible refine AW_ret ?_ | with_reducible refine AW_region hTt ?_ | refine AW_draw hTt hMix (id := 6) 12 false [0, 0, 0, 0, 0, 24, 56, 127, 255, 511, 511, 1023, 4095] (by kernel_rfl) rfl rfl (by kernel_rfl) ?_ | fail); conv => whnf) | (exact absurd hb (by omega)) | ((refine ⟨_, fun _ => (hbeat).call rfl rfl, ?_⟩); conv => whnf) | (refine AW_cond rfl (fun hb => ?_) (fun hb => ?_) <;> first | (replace hb := of_decide_eq_true hb; try simp only [List.length_map] at hb) | (replace hb := of_decide_eq_false hb; try simp only [List.length_map] at hb)) | ((first | refine ⟨_, wrap_of (by first | omega | (simp only [List.length_map]; omega)), ?_⟩ | refine andA ?_ | with_reducible refine Exists.intro _ (And.intro (gd_any (And.intro (by omega) (map_get (by omega)))) ?_) | fail); conv => whnf) | ((refine And.intro (by refine ⟨?_, ?_, ?_⟩ <;> simp [chunk, maxLen] <;> omega) ?_); conv => whnf) | (refine fun hln => ?_; (try rw [List.length_map] at hln); unfold maxLen at hln; conv => whnf) | fail
    have e : ((outsR n f xs i).map iPV).take i ++ [[PV.v (.int .i64 (beatR n f (stR n f xs i) xs[i]).2)]] = (outsR n f xs (i + 1)).map iPV := by
      rw [List.take_of_length_le (by simp [hol]), outsR_succ, List.map_append, getDI hig]; rfl
    have e2 : (beatR n f (stR n f xs i) xs[i]).1 = stR n f xs (i + 1) := by rw [stR, getDI hig]
    exact ⟨i + 1, by omega, by omega, (Imp.forget (by repeat' (first | exact trivial | refine And.intro ?_ ?_ | exact chE e | exact ivE e2 | rfl | exact ivE (by first | omega | (simp only [List.length_map, List.length_append, List.length_singleton] <;> omega)) | exact oE (by first | omega | (simp only [List.length_map, List.length_append, List.length_singleton] <;> omega)))) (by repeat' (first | exact trivial | refine And.intro ?_ ?_ | exact chE e | exact ivE e2 | rfl | exact ivE (by first | omega | (simp only [List.length_map, List.length_append, List.length_singleton] <;> omega)) | exact oE (by first | omega | (simp only [List.length_map, List.length_append, List.length_singleton] <;> omega)))) (by kernel_rfl) (by kernel_rfl) (by kernel_rfl))⟩
  · have hie : i = xs.length := by omega
    subst hie
    repeat' first | with_reducible refine AW_seq ?_ | with_reducible refine AW_block ?_ | ((first | with_reducible refine AW_skip ?_ | with_reducible refine AW_exit ?_ | with_reducible refine AW_ret ?_ | with_reducible refine AW_region hTt ?_ | refine AW_draw hTt hMix (id := 6) 12 false [0, 0, 0, 0, 0, 24, 56, 127, 255, 511, 511, 1023, 4095] (by kernel_rfl) rfl rfl (by kernel_rfl) ?_ | fail); conv => whnf) | (exact absurd hb (by omega)) | (refine AW_cond rfl (fun hb => ?_) (fun hb => ?_) <;> first | (replace hb := of_decide_eq_true hb; try simp only [List.length_map] at hb) | (replace hb := of_decide_eq_false hb; try simp only [List.length_map] at hb)) | (refine fun hln => ?_; (try rw [List.length_map] at hln); unfold maxLen at hln; conv => whnf) | fail
    show viewAV [(7, Ob.chain 3 1 xs.length ((outsR n f xs xs.length).map iPV)), (4, fltBox f), (3, netCells n)] (.x (.o 7 xs.length xs.length)) = _
    simp [viewAV, viewAV1, viewSV, lk, sl, hol]
    exact List.take_of_length_le (by simp [hol])
theorem insErr_eq (n : NetT) (m : Nat) (hm : n.inn = m) (xs : List Int) : inputsErr m xs = insErr n xs := by
  have ht : topIn n = 2 ^ m - 1 := by unfold topIn; rw [hm, Int.toNat_natCast]
  unfold inputsErr insErr firstBad
  rw [ht]
  split
  · rfl
  · cases firstOut (2 ^ m - 1) xs 0 with
    | some j => rw [if_pos (Int.natCast_nonneg j)]
    | none => rfl
theorem insErr_ok {n : NetT} {xs : List Int} (h : insErr n xs = 0) : xs.length ≤ 32 ∧ InsOK n xs := by
  unfold insErr at h
  split at h
  · cases h
  · split at h
    · cases h
    · rename_i h1 h2
      refine ⟨by omega, fun i hi => ?_⟩
      unfold firstBad at h2
      cases c : firstOut (topIn n) xs 0 with
      | some j => rw [c] at h2; exact absurd (Int.natCast_nonneg j) h2
      | none => exact inB_iff.1 (firstOut_none _ _ _ c i hi)
theorem faultErr_ok {n : NetT} {f : FaultT} (h : faultErr n f = 0) : 0 ≤ f.sig ∧ f.sig < n.inn + n.gates.length ∧ (f.at_ = 0 ∨ f.at_ = 1) := by
  unfold faultErr at h
  split at h
  · cases h
  · split at h
    · cases h
    · rename_i h1 h2
      have a := inB_iff.1 (by simpa using h1 : inB f.sig 0 (n.inn + n.gates.length - 1) = true)
      have b := inB_iff.1 (by simpa using h2 : inB f.at_ 0 1 = true)
      omega
theorem faultErr_flt {n : NetT} {f : FaultT} (h : faultErr n f = 0) : FltOK f := .inr (faultErr_ok h).2.2
theorem ref_ins (n : NetT) (ok : NetOK n) (xs : List Int) : FnC Tryd.prog 80 [netAV n, sl xs] (iv .i64 (insErr n xs)) := by
  have h1 := ok.h1; have h6 := ok.h6
  have hm : n.inn = (n.inn.toNat : Int) := by omega
  rw [← insErr_eq n n.inn.toNat hm xs]
  exact inputs_fn n n.inn.toNat hm (by omega) xs
def runR (n : NetT) (xs : List Int) : List Int × Int :=
  if (checkR n).2.2 = 0 then (if insErr n xs = 0 then (outsR n fine xs xs.length, 0) else ([], insErr n xs)) else ([], (checkR n).2.2)
def stuckR (n : NetT) (f : FaultT) (xs : List Int) : List Int × Int :=
  if (checkR n).2.2 = 0 then (if faultErr n f = 0 then (if insErr n xs = 0 then (outsR n f xs xs.length, 0) else ([], insErr n xs)) else ([], faultErr n f)) else ([], (checkR n).2.2)
def outE (p : List Int × Int) : AV := .t [sl p.1, iv .i64 p.2]
theorem run_ref (n : NetT) (xs : List Int) : FnC Tryd.prog 42 [netAV n, sl xs] (outE (runR n xs)) := by
  refine FnC_of_AWL hTt Tryd.func42 rfl (by kernel_rfl) (res := [.tmp 4, .tmp 5]) rfl Tryd.ntmps42 (by simp) fun w0 K0 => ?_
  dsimp only [entry]
  by_cases hc : (checkR n).2.2 = 0
  · have ok := NetOK.of hc
    by_cases hi : insErr n xs = 0
    · have hi' := insErr_ok hi
      rw [show runR n xs = (outsR n fine xs xs.length, 0) from by unfold runR; rw [if_pos hc, if_pos hi]]
      repeat' first | with_reducible refine AW_seq ?_ | ((first | with_reducible refine AW_skip ?_ | with_reducible refine AW_ret ?_ | with_reducible refine AW_region hTt ?_ | refine AW_draw hTt hMix (id := 6) 3 false [0, 0, 0, 7, 15, 31] (by kernel_rfl) rfl rfl (by kernel_rfl) ?_ | fail); conv => whnf) | (exact absurd hb (by omega)) | ((first | ((refine ⟨_, (check_fn n).call rfl rfl, ?_⟩); (rintro _ _ ⟨rfl, rfl⟩)) | ((refine ⟨_, (ref_ins n ok xs).call rfl rfl, ?_⟩); (rintro _ _ ⟨rfl, rfl⟩)) | refine ⟨_, fun _ => (fine_fn).call rfl rfl, ?_⟩ | ((refine ⟨_, (out_ref n ok fine fine_ok xs hi'.2 (by omega)).call rfl rfl, ?_⟩); (rintro _ _ ⟨rfl, rfl⟩)) | fail); conv => whnf) | (refine AW_cond rfl (fun hb => ?_) (fun hb => ?_) <;> first | (replace hb := of_decide_eq_true hb; try simp only [List.length_map] at hb) | (replace hb := of_decide_eq_false hb; try simp only [List.length_map] at hb) | (simp only [List.length_map, bne_iff_ne, ne_eq, beq_iff_eq, bne_eq_false_iff_eq, beq_eq_false_iff_ne, decide_eq_true_eq, decide_eq_false_iff_not, Bool.not_eq_true', Bool.not_eq_false', Int.natCast_inj] at hb)) | ((refine andA ?_); conv => whnf) | fail
      exact ⟨_, rfl, LeAV.refl _⟩
    · rw [show runR n xs = ([], insErr n xs) from by unfold runR; rw [if_pos hc, if_neg hi]]
      repeat' first | with_reducible refine AW_seq ?_ | ((first | with_reducible refine AW_skip ?_ | with_reducible refine AW_ret ?_ | with_reducible refine AW_region hTt ?_ | refine AW_draw hTt hMix (id := 6) 3 false [0, 0, 0, 7, 15, 31] (by kernel_rfl) rfl rfl (by kernel_rfl) ?_ | fail); conv => whnf) | (exact absurd hb (by omega)) | ((first | ((refine ⟨_, (check_fn n).call rfl rfl, ?_⟩); (rintro _ _ ⟨rfl, rfl⟩)) | ((refine ⟨_, (ref_ins n ok xs).call rfl rfl, ?_⟩); (rintro _ _ ⟨rfl, rfl⟩)) | fail); conv => whnf) | (refine AW_cond rfl (fun hb => ?_) (fun hb => ?_) <;> first | (replace hb := of_decide_eq_true hb; try simp only [List.length_map] at hb) | (replace hb := of_decide_eq_false hb; try simp only [List.length_map] at hb) | (simp only [List.length_map, bne_iff_ne, ne_eq, beq_iff_eq, bne_eq_false_iff_eq, beq_eq_false_iff_ne, decide_eq_true_eq, decide_eq_false_iff_not, Bool.not_eq_true', Bool.not_eq_false', Int.natCast_inj] at hb)) | fail
      exact ⟨_, rfl, _, rfl, LeAV1.nil 1, LeAV1.refl _, trivial⟩
  · rw [show runR n xs = ([], (checkR n).2.2) from by unfold runR; rw [if_neg hc]]
    repeat' first | with_reducible refine AW_seq ?_ | ((first | with_reducible refine AW_skip ?_ | with_reducible refine AW_ret ?_ | with_reducible refine AW_region hTt ?_ | refine AW_draw hTt hMix (id := 6) 3 false [0, 0, 0, 7, 15, 31] (by kernel_rfl) rfl rfl (by kernel_rfl) ?_ | fail); conv => whnf) | (exact absurd hb (by omega)) | ((refine ⟨_, (check_fn n).call rfl rfl, ?_⟩); (rintro _ _ ⟨rfl, rfl⟩); conv => whnf) | (refine AW_cond rfl (fun hb => ?_) (fun hb => ?_) <;> first | (replace hb := of_decide_eq_true hb; try simp only [List.length_map] at hb) | (replace hb := of_decide_eq_false hb; try simp only [List.length_map] at hb) | (simp only [List.length_map, bne_iff_ne, ne_eq, beq_iff_eq, bne_eq_false_iff_eq, beq_eq_false_iff_ne, decide_eq_true_eq, decide_eq_false_iff_not, Bool.not_eq_true', Bool.not_eq_false', Int.natCast_inj] at hb)) | fail
    exact ⟨_, rfl, _, rfl, LeAV1.nil 1, LeAV1.refl _, trivial⟩
theorem stuck_ref (n : NetT) (f : FaultT) (xs : List Int) : FnC Tryd.prog 44 [netAV n, faultAV f, sl xs] (outE (stuckR n f xs)) := by
  refine FnC_of_AWL hTt Tryd.func44 rfl (by kernel_rfl) (res := [.tmp 6, .tmp 7]) rfl Tryd.ntmps44 (by simp) fun w0 K0 => ?_
  dsimp only [entry]
  by_cases hc : (checkR n).2.2 = 0
  · have ok := NetOK.of hc
    by_cases hf : faultErr n f = 0
    · by_cases hi : insErr n xs = 0
      · have hi' := insErr_ok hi
        rw [show stuckR n f xs = (outsR n f xs xs.length, 0) from by unfold stuckR; rw [if_pos hc, if_pos hf, if_pos hi]]
        repeat' first | with_reducible refine AW_seq ?_ | ((first | with_reducible refine AW_skip ?_ | with_reducible refine AW_ret ?_ | with_reducible refine AW_region hTt ?_ | fail); conv => whnf) | (exact absurd hb (by omega)) | ((first | ((refine ⟨_, (check_fn n).call rfl rfl, ?_⟩); (rintro _ _ ⟨rfl, rfl⟩)) | ((refine ⟨_, (fault_fn n f ok.h1 ok.h6 ok.hl).call rfl rfl, ?_⟩); (rintro _ _ ⟨rfl, rfl⟩)) | ((refine ⟨_, (ref_ins n ok xs).call rfl rfl, ?_⟩); (rintro _ _ ⟨rfl, rfl⟩)) | ((refine ⟨_, (out_ref n ok f (faultErr_flt hf) xs hi'.2 (by omega)).call rfl rfl, ?_⟩); (rintro _ _ ⟨rfl, rfl⟩)) | fail); conv => whnf) | (refine AW_cond rfl (fun hb => ?_) (fun hb => ?_) <;> first | (replace hb := of_decide_eq_true hb; try simp only [List.length_map] at hb) | (replace hb := of_decide_eq_false hb; try simp only [List.length_map] at hb) | (simp only [List.length_map, bne_iff_ne, ne_eq, beq_iff_eq, bne_eq_false_iff_eq, beq_eq_false_iff_ne, decide_eq_true_eq, decide_eq_false_iff_not, Bool.not_eq_true', Bool.not_eq_false', Int.natCast_inj] at hb)) | fail
        exact ⟨_, rfl, LeAV.refl _⟩
      · rw [show stuckR n f xs = ([], insErr n xs) from by unfold stuckR; rw [if_pos hc, if_pos hf, if_neg hi]]
        repeat' first | with_reducible refine AW_seq ?_ | ((first | with_reducible refine AW_skip ?_ | with_reducible refine AW_ret ?_ | with_reducible refine AW_region hTt ?_ | fail); conv => whnf) | (exact absurd hb (by omega)) | ((first | ((refine ⟨_, (check_fn n).call rfl rfl, ?_⟩); (rintro _ _ ⟨rfl, rfl⟩)) | ((refine ⟨_, (fault_fn n f ok.h1 ok.h6 ok.hl).call rfl rfl, ?_⟩); (rintro _ _ ⟨rfl, rfl⟩)) | ((refine ⟨_, (ref_ins n ok xs).call rfl rfl, ?_⟩); (rintro _ _ ⟨rfl, rfl⟩)) | fail); conv => whnf) | (refine AW_cond rfl (fun hb => ?_) (fun hb => ?_) <;> first | (replace hb := of_decide_eq_true hb; try simp only [List.length_map] at hb) | (replace hb := of_decide_eq_false hb; try simp only [List.length_map] at hb) | (simp only [List.length_map, bne_iff_ne, ne_eq, beq_iff_eq, bne_eq_false_iff_eq, beq_eq_false_iff_ne, decide_eq_true_eq, decide_eq_false_iff_not, Bool.not_eq_true', Bool.not_eq_false', Int.natCast_inj] at hb)) | fail
        exact ⟨_, rfl, _, rfl, LeAV1.nil 1, LeAV1.refl _, trivial⟩
    · rw [show stuckR n f xs = ([], faultErr n f) from by unfold stuckR; rw [if_pos hc, if_neg hf]]
      repeat' first | with_reducible refine AW_seq ?_ | ((first | with_reducible refine AW_skip ?_ | with_reducible refine AW_ret ?_ | with_reducible refine AW_region hTt ?_ | fail); conv => whnf) | (exact absurd hb (by omega)) | ((first | ((refine ⟨_, (check_fn n).call rfl rfl, ?_⟩); (rintro _ _ ⟨rfl, rfl⟩)) | ((refine ⟨_, (fault_fn n f ok.h1 ok.h6 ok.hl).call rfl rfl, ?_⟩); (rintro _ _ ⟨rfl, rfl⟩)) | fail); conv => whnf) | (refine AW_cond rfl (fun hb => ?_) (fun hb => ?_) <;> first | (replace hb := of_decide_eq_true hb; try simp only [List.length_map] at hb) | (replace hb := of_decide_eq_false hb; try simp only [List.length_map] at hb) | (simp only [List.length_map, bne_iff_ne, ne_eq, beq_iff_eq, bne_eq_false_iff_eq, beq_eq_false_iff_ne, decide_eq_true_eq, decide_eq_false_iff_not, Bool.not_eq_true', Bool.not_eq_false', Int.natCast_inj] at hb)) | fail
      exact ⟨_, rfl, _, rfl, LeAV1.nil 1, LeAV1.refl _, trivial⟩
  · rw [show stuckR n f xs = ([], (checkR n).2.2) from by unfold stuckR; rw [if_neg hc]]
    repeat' first | with_reducible refine AW_seq ?_ | ((first | with_reducible refine AW_skip ?_ | with_reducible refine AW_ret ?_ | with_reducible refine AW_region hTt ?_ | fail); conv => whnf) | (exact absurd hb (by omega)) | ((refine ⟨_, (check_fn n).call rfl rfl, ?_⟩); (rintro _ _ ⟨rfl, rfl⟩); conv => whnf) | (refine AW_cond rfl (fun hb => ?_) (fun hb => ?_) <;> first | (replace hb := of_decide_eq_true hb; try simp only [List.length_map] at hb) | (replace hb := of_decide_eq_false hb; try simp only [List.length_map] at hb) | (simp only [List.length_map, bne_iff_ne, ne_eq, beq_iff_eq, bne_eq_false_iff_eq, beq_eq_false_iff_ne, decide_eq_true_eq, decide_eq_false_iff_not, Bool.not_eq_true', Bool.not_eq_false', Int.natCast_inj] at hb)) | fail
    exact ⟨_, rfl, _, rfl, LeAV1.nil 1, LeAV1.refl _, trivial⟩
def stepR (n : NetT) (st x : Int) : Int × Int × Int :=
  if (checkR n).2.2 = 0 then (if inB st 0 (2 ^ delays n.gates - 1) = true ∧ inB x 0 (topIn n) = true then ((beatR n fine st x).1, (beatR n fine st x).2, 0) else (0, 0, 7)) else (0, 0, (checkR n).2.2)
theorem step_ref (n : NetT) (st x : Int) : FnC Tryd.prog 41 [netAV n, iv .i64 st, iv .i64 x] (three (stepR n st x)) := by
  refine FnC_of_AW hTt Tryd.func41 rfl (by kernel_rfl) (res := [.tmp 6, .tmp 7, .tmp 8]) rfl Tryd.ntmps41 (by simp) fun w0 K0 => ?_
  dsimp only [entry]
  by_cases hc : (checkR n).2.2 = 0
  · have ok := NetOK.of hc
    have h1 := ok.h1; have h6 := ok.h6
    obtain ⟨m, hm⟩ : ∃ m : Nat, n.inn = m := ⟨n.inn.toNat, by omega⟩
    have htop : topIn n = 2 ^ m - 1 := by unfold topIn; rw [hm, Int.toNat_natCast]
    have htl := topIn_le h6
    have hp := pow32 ok.hd
    have hd5 := ok.hd
    have hpm := two_lt m (by omega)
    have hn : netAV n = .a [.d (.v (.int .i64 m)), .d (gatesPV n.gates), .d (intsPV n.out)] := by unfold netAV; rw [hm]
    have hck : FnC Tryd.prog 18 [.a [.d (.v (.int .i64 m)), .d (gatesPV n.gates), .d (intsPV n.out)]] (.t [iv .i64 (checkR n).1, iv .i64 (checkR n).2.1, iv .i64 0]) := by
      have := check_fn n
      rw [hn, three, hc] at this; exact this
    have hdl : FnC Tryd.prog 60 [.a [.d (.v (.int .i64 m)), .d (gatesPV n.gates), .d (intsPV n.out)]] (iv .i64 (delays n.gates)) := by
      have := delays_fn n
      rw [hn] at this; exact this
    rw [hn]
    by_cases hs : inB st 0 (2 ^ delays n.gates - 1) = true
    · by_cases hi : inB x 0 (topIn n) = true
      · have hs' := inB_iff.1 hs
        have hi' := inB_iff.1 hi
        rw [show stepR n st x = ((beatR n fine st x).1, (beatR n fine st x).2, 0) from by unfold stepR; rw [if_pos hc, if_pos ⟨hs, hi⟩]]
        rw [htop] at hi
        have hbt := beat_ref n ok fine fine_ok st x (by omega) (by omega)
        rw [hn] at hbt
        repeat' first | with_reducible refine AW_seq ?_ | ((first | with_reducible refine AW_skip ?_ | with_reducible refine AW_ret ?_ | with_reducible refine AW_region hTt ?_ | refine AW_draw hTt hMix (id := 6) 9 false [0, 0, 0, 0, 15, 31, 63, 63, 127, 511] (by kernel_rfl) rfl rfl (by kernel_rfl) ?_ | fail); conv => whnf) | (exfalso; simp [hs, hi] at hb; done) | ((first | ((refine ⟨_, (hck).call rfl rfl, ?_⟩); (rintro _ _ ⟨rfl, rfl⟩)) | refine ⟨_, fun _ => (hdl).call rfl rfl, ?_⟩ | refine ⟨_, fun _ => (two_small (delays n.gates) (by omega)).call rfl rfl, ?_⟩ | refine ⟨_, fun _ => (two_small m (by omega)).call rfl rfl, ?_⟩ | refine ⟨_, fun _ => (in_fn _ _ _).call rfl rfl, ?_⟩ | refine ⟨_, fun _ => (fine_fn).call rfl rfl, ?_⟩ | refine ⟨_, fun _ => (hbt).call rfl rfl, ?_⟩ | fail); conv => whnf) | (refine AW_cond rfl (fun hb => absurd hb (by decide)) (fun _ => ?_)) | (refine AW_cond rfl (fun hb => ?_) (fun hb => ?_) <;> first | (replace hb := of_decide_eq_true hb; try simp only [List.length_map] at hb) | (replace hb := of_decide_eq_false hb; try simp only [List.length_map] at hb) | skip) | ((first | refine ⟨_, wrap_of (by first | omega | (simp only [List.length_map]; omega)), ?_⟩ | refine andA ?_ | fail); conv => whnf) | fail
        rfl
      · rw [show stepR n st x = (0, 0, 7) from by unfold stepR; rw [if_pos hc, if_neg (fun h => hi h.2)]]
        rw [htop] at hi
        repeat' first | with_reducible refine AW_seq ?_ | ((first | with_reducible refine AW_skip ?_ | with_reducible refine AW_ret ?_ | with_reducible refine AW_region hTt ?_ | fail); conv => whnf) | (exfalso; simp [hs, hi] at hb; done) | ((first | ((refine ⟨_, (hck).call rfl rfl, ?_⟩); (rintro _ _ ⟨rfl, rfl⟩)) | refine ⟨_, fun _ => (hdl).call rfl rfl, ?_⟩ | refine ⟨_, fun _ => (two_small (delays n.gates) (by omega)).call rfl rfl, ?_⟩ | refine ⟨_, fun _ => (two_small m (by omega)).call rfl rfl, ?_⟩ | refine ⟨_, fun _ => (in_fn _ _ _).call rfl rfl, ?_⟩ | fail); conv => whnf) | (refine AW_cond rfl (fun _ => ?_) (fun hb => absurd hb (by decide))) | (refine AW_cond rfl (fun hb => ?_) (fun hb => ?_) <;> first | (replace hb := of_decide_eq_true hb; try simp only [List.length_map] at hb) | (replace hb := of_decide_eq_false hb; try simp only [List.length_map] at hb) | skip) | ((first | refine ⟨_, wrap_of (by first | omega | (simp only [List.length_map]; omega)), ?_⟩ | refine andA ?_ | fail); conv => whnf) | fail
        rfl
    · rw [show stepR n st x = (0, 0, 7) from by unfold stepR; rw [if_pos hc, if_neg (fun h => hs h.1)]]
      repeat' first | with_reducible refine AW_seq ?_ | ((first | with_reducible refine AW_skip ?_ | with_reducible refine AW_ret ?_ | with_reducible refine AW_region hTt ?_ | fail); conv => whnf) | (exfalso; simp [hs] at hb; done) | ((first | ((refine ⟨_, (hck).call rfl rfl, ?_⟩); (rintro _ _ ⟨rfl, rfl⟩)) | refine ⟨_, fun _ => (hdl).call rfl rfl, ?_⟩ | refine ⟨_, fun _ => (two_small (delays n.gates) (by omega)).call rfl rfl, ?_⟩ | refine ⟨_, fun _ => (two_small m (by omega)).call rfl rfl, ?_⟩ | refine ⟨_, fun _ => (in_fn _ _ _).call rfl rfl, ?_⟩ | fail); conv => whnf) | (refine AW_cond rfl (fun _ => ?_) (fun hb => absurd hb (by decide))) | (refine AW_cond rfl (fun hb => ?_) (fun hb => ?_) <;> first | (replace hb := of_decide_eq_true hb; try simp only [List.length_map] at hb) | (replace hb := of_decide_eq_false hb; try simp only [List.length_map] at hb) | skip) | ((first | refine ⟨_, wrap_of (by first | omega | (simp only [List.length_map]; omega)), ?_⟩ | refine andA ?_ | fail); conv => whnf) | fail
      rfl
  · rw [show stepR n st x = (0, 0, (checkR n).2.2) from by unfold stepR; rw [if_neg hc]]
    repeat' first | with_reducible refine AW_seq ?_ | ((first | with_reducible refine AW_skip ?_ | with_reducible refine AW_ret ?_ | with_reducible refine AW_region hTt ?_ | refine AW_draw hTt hMix (id := 6) 9 false [0, 0, 0, 0, 15, 31, 63, 63, 127, 511] (by kernel_rfl) rfl rfl (by kernel_rfl) ?_ | fail); conv => whnf) | (exfalso; simp [hc] at hb; done) | ((first | ((refine ⟨_, (check_fn n).call rfl rfl, ?_⟩); (rintro _ _ ⟨rfl, rfl⟩)) | refine ⟨_, fun _ => (in_fn _ _ _).call rfl rfl, ?_⟩ | refine ⟨_, fun _ => (delays_fn n).call rfl rfl, ?_⟩ | refine ⟨iv .i64 0, fun h => absurd h ?_, ?_⟩; focus (simp [hc]; done) | refine And.intro ?_ ?_; focus (first | (exact trivial) | (intro h1; exact absurd h1 (by simp [hc]); done) | (intro h1 h2; simp_all; done)) | fail); conv => whnf) | (refine AW_cond rfl (fun hb => ?_) (fun hb => ?_) <;> first | (replace hb := of_decide_eq_true hb; try simp only [List.length_map] at hb) | (replace hb := of_decide_eq_false hb; try simp only [List.length_map] at hb) | (simp only [List.length_map, bne_iff_ne, ne_eq, beq_iff_eq, bne_eq_false_iff_eq, beq_eq_false_iff_ne, decide_eq_true_eq, decide_eq_false_iff_not, Bool.not_eq_true', Bool.not_eq_false', Int.natCast_inj] at hb) | skip) | ((refine ⟨_, wrap_of (by first | omega | (simp only [List.length_map]; omega)), ?_⟩); conv => whnf) | fail
    rfl
end Go.Proofs.YtfghooojingdhaaDoor
namespace Go.Proofs.YtfghooojingdhaaDoor
open Go Go.QL
set_option maxHeartbeats 1600000
attribute [local irreducible] ACall FnC
def stsL (n : NetT) (flt : Nat → FaultT) (xs : List Int) (k t : Nat) : List Int := (List.range k).map fun l => stR n (flt l) xs t
def otsL (n : NetT) (flt : Nat → FaultT) (xs : List Int) (k t : Nat) : List Int := (List.range k).map fun l => (beatR n (flt l) (stR n (flt l) xs t) (xs.getD t 0)).2
theorem stsL_len (n : NetT) (flt : Nat → FaultT) (xs : List Int) (k t : Nat) : (stsL n flt xs k t).length = k := by simp [stsL]
theorem otsL_len (n : NetT) (flt : Nat → FaultT) (xs : List Int) (k t : Nat) : (otsL n flt xs k t).length = k := by simp [otsL]
theorem otsL_get {n : NetT} {flt : Nat → FaultT} {xs : List Int} {k t l : Nat} (h : l < k) : (otsL n flt xs k t)[l]? = some (beatR n (flt l) (stR n (flt l) xs t) (xs.getD t 0)).2 := by
  unfold otsL; rw [List.getElem?_map, List.getElem?_range h]; rfl
def LanesOK (sk : List (W16 × W16)) (flt : Nat → FaultT) (k : Nat) : Prop := ∀ l, l < k → SkLane sk l (flt l) ∧ FltOK (flt l)
theorem beat_lanes {n : NetT} (ok : NetOK n) {s1 : Nat} {sk : List (W16 × W16)} (hsk : sk.length = n.inn.toNat + n.gates.length) {s2 s3 k' : Nat} {nw : List W16}
    {flt : Nat → FaultT} {k : Nat} (hk : k ≤ 16) (hl : LanesOK sk flt k) (xs : List Int) (t : Nat) (x : Int) (hx : xs.getD t 0 = x) :
    ACall Tryd.prog 66 [.x (.b 900 0), sl (stsL n flt xs k t), iv .i64 x] (sB n s1 sk s2 (dl0 n) s3 k' nw)
      (fun r σ' => ∃ p : Nat × Nat × List W16, r = .t [sl (stsL n flt xs k (t + 1)), sl (otsL n flt xs k t)] ∧ σ' = sB n s1 sk s2 (dl0 n) p.1 p.2.1 p.2.2) := by
  have hdl : (dl0 n).length = delays n.gates := by unfold dl0; rw [dlS_len n _ (Nat.le_refl _), List.take_of_length_le (Nat.le_refl _)]
  have hd := ok.hd
  have hsl := stsL_len n flt xs k t
  have hdr := fun m h => dlS_mem n n.gates.length m h
  refine (beat_fn ok (s1 := s1) (sk := sk) (s2 := s2) (dl := dl0 n) (s3 := s3) (k := k') (nw := nw) hsk (by omega) hdr (stsL n flt xs k t) (by omega) x).mono ?_
  rintro r σ' ⟨s3', rfl, rfl⟩
  refine ⟨(s3', _, _), ?_, rfl⟩
  have key : ∀ l, l < k → nextW n (dl0 n) (sigW sk n (stsL n flt xs k t) x n.gates.length) l (dl0 n).length = stR n (flt l) xs (t + 1) ∧ outW n (sigW sk n (stsL n flt xs k t) x n.gates.length) l n.out.length = (beatR n (flt l) (stR n (flt l) xs t) (xs.getD t 0)).2 := by
    intro l hlk
    have h := lane_beat ok hsk (hl l hlk).1 (hl l hlk).2 (by omega) (stsL n flt xs k t) (by omega) (by omega) x
    have e : (stsL n flt xs k t).getD l 0 = stR n (flt l) xs t := by unfold stsL; rw [List.getD_eq_getElem?_getD, List.getElem?_map, List.getElem?_range hlk]; rfl
    rw [e] at h
    rw [stR, hx]; exact h
  have e1 : nexts n (dl0 n) (sigW sk n (stsL n flt xs k t) x n.gates.length) (stsL n flt xs k t).length = stsL n flt xs k (t + 1) := by
    rw [hsl]; unfold nexts
    rw [show stsL n flt xs k (t + 1) = (List.range k).map fun l => stR n (flt l) xs (t + 1) from rfl]
    exact List.map_congr_left fun l hl' => (key l (List.mem_range.1 hl')).1
  have e2 : outs n (sigW sk n (stsL n flt xs k t) x n.gates.length) (stsL n flt xs k t).length = otsL n flt xs k t := by
    rw [hsl]; unfold outs otsL
    exact List.map_congr_left fun l hl' => (key l (List.mem_range.1 hl')).2
  rw [e1, e2]
def bt (l' l : Nat) : Nat := bif Nat.blt l' l then 1 else 0
theorem rowPV_o {σ σ' : Sg} {c e sz st n : Nat} {xs : List (List PV)} (h : lk c σ' = none) (h1 : lk c σ = some (.chain e sz st xs)) (hn : n = xs.length) : rowPV σ σ' (.o c st n) = some (.s sz xs) := by
  subst hn
  simp [rowPV, h, viewSV, h1]
theorem rowPVs_cons {σ σ' : Sg} {s : SV} {p : PV} {r : List SV} {l : List PV} (h : rowPV σ σ' s = some p) (hr : rowPVs σ σ' r = some l) : rowPVs σ σ' (s :: r) = some (p :: l) := by
  unfold rowPVs; rw [h, hr]
theorem keepRows {σ σ' : Sg} {id n cap : Nat} {cs : List SV} {ps : List PV} (h : lk id σ' = none) (h1 : lk id σ = some (.box cs)) (h2 : rowPVs σ σ' cs = some ps) (hn : n = ps.length) :
    keepAV1 σ σ' (.x (.sb id 0 n cap)) = some (.x (.d (.s 1 (ps.map fun p => [p])))) := by
  subst hn
  simp [keepAV1, keepSV, h, h1, h2]
abbrev rwOb (n : NetT) (f : FaultT) (xs : List Int) (t : Nat) : Ob := .chain 3 1 t ((outsR n f xs t).map iPV)
abbrev frR (n : NetT) (flt : Nat → FaultT) (xs : List Int) (k : Nat) : Fr := [(20, iv .i64 0), (19, iv .i64 xs.length), (18, sl xs), (7, .x (.sb 15 0 k k)), (8, sl (stsL n flt xs k 0)), (0, .x (.b 900 0))]
def chN : Nat → Sg → Sg
  | 0, r => r
  | j + 1, r => (600 + j, .chain 3 1 0 []) :: chN j r
def cellsN : Nat → Nat → Nat → List SV
  | 0, _, _ => []
  | m + 1, j, c => (bif Nat.blt j c then .o (600 + j) 0 0 else .d (.v (.slice none 0 0))) :: cellsN m (j + 1) c
theorem bt_self (l : Nat) : bt l l = 0 := by
  unfold bt
  cases h : Nat.blt l l with
  | false => rfl
  | true => exact absurd (Nat.le_of_ble_eq_true h) (by omega)
theorem bt_next (l : Nat) : bt l (l + 1) = 1 := by
  unfold bt
  cases h : Nat.blt l (l + 1) with
  | true => rfl
  | false => exact absurd (show Nat.ble (l + 1) (l + 1) = true from Nat.ble_eq_true_of_le (Nat.le_refl _)) (by rw [show Nat.ble (l + 1) (l + 1) = Nat.blt l (l + 1) from rfl, h]; decide)
theorem ots_at (n : NetT) (flt : Nat → FaultT) (xs : List Int) {k : Nat} (t : Nat) {l : Nat} (h : l < k) : ((otsL n flt xs k t).map fun n => [PV.v (.int .i64 n)])[((l : Nat) : Int).toNat]? = some [PV.v (.int .i64 (beatR n (flt l) (stR n (flt l) xs t) (xs.getD t 0)).2)] := by
  rw [List.getElem?_map, Int.toNat_natCast, otsL_get h]; rfl
theorem row_app (n : NetT) (f : FaultT) (xs : List Int) (t l : Nat) : ((outsR n f xs (t + bt l l)).map iPV).take (t + bt l l) ++ [[PV.v (.int .i64 (beatR n f (stR n f xs t) (xs.getD t 0)).2)]] = (outsR n f xs (t + bt l (l + 1))).map iPV := by
  rw [bt_self, bt_next, Nat.add_zero, List.take_of_length_le (by simp [outsR_len]), outsR_succ, List.map_append]; rfl
end Go.Proofs.YtfghooojingdhaaDoor
namespace Go.Proofs.YtfghooojingdhaaDoor
open Go Go.QL
set_option maxHeartbeats 3200000
attribute [local irreducible] ACall FnC
theorem run_5 {n : NetT} (ok : NetOK n) {s1 : Nat} {sk : List (W16 × W16)} (hsk : sk.length = n.inn.toNat + n.gates.length) {s2 s3 k' : Nat} {nw : List W16}
    {flt : Nat → FaultT} (hl : LanesOK sk flt 5) (xs : List Int) (hxl : xs.length ≤ 4096) :
    ACall Tryd.prog 71 [.x (.b 900 0), iv .i64 5, sl xs] (sB n s1 sk s2 (dl0 n) s3 k' nw)
      (fun r σ' => ∃ p : Nat × Nat × List W16, r = rowsAV ((List.range 5).map fun l => outsR n (flt l) xs xs.length) ∧ σ' = sB n s1 sk s2 (dl0 n) p.1 p.2.1 p.2.2) := by
  refine ACall_of_AWD hTt Tryd.func71 rfl (by kernel_rfl) (res := [.tmp 6]) rfl Tryd.ntmps71 (by simp) fun w0 K0 B => ?_
  dsimp only [entry]
  repeat' first | with_reducible refine AW_seq ?_ | with_reducible refine AW_block ?_ | ((first | with_reducible refine AW_region hTt ?_ | refine AW_draw hTt hMix (id := 1) 5 true [0, 1, 0, 4, 3, 31] (by kernel_rfl) rfl rfl (by kernel_rfl) ?_ | refine Or.inr ?_ | refine andA ?_ | fail); conv => whnf) | (refine fun hln => ?_; (try rw [List.length_map] at hln); unfold maxLen at hln; conv => whnf) | fail
  refine AW_imp (Imp.freeze 17 (fr' := frR n flt xs 5) (σ' := (15, .box (cellsN 5 0 0)) :: sB n s1 sk s2 (dl0 n) s3 k' nw) rfl ?_ ?_ rfl rfl) ?_
  · exact ⟨⟨_, rfl, .inl rfl⟩, ⟨_, congrArg (fun k : Nat => some (iv .i64 k)) (List.length_map _), .inl rfl⟩, ⟨_, rfl, .inl rfl⟩, ⟨_, rfl, .inl rfl⟩, ⟨_, rfl, .inr ⟨5, rfl, Nat.le_of_ble_eq_true rfl, rfl⟩⟩, ⟨_, rfl, .inl rfl⟩, trivial⟩
  · exact ⟨rfl, rfl, rfl, rfl, rfl, trivial⟩
  refine AW_imp (Imp.nil 600 3 1 (fr' := frR n flt xs 5) (σ' := chN 0 ((15, .box (cellsN 5 0 1)) :: sB n s1 sk s2 (dl0 n) s3 k' nw)) rfl ⟨⟨_, rfl, .inl rfl⟩, ⟨_, rfl, .inl rfl⟩, ⟨_, rfl, .inl rfl⟩, ⟨_, rfl, .inl rfl⟩, ⟨_, rfl, .inl rfl⟩, ⟨_, rfl, .inl rfl⟩, trivial⟩ ?_ rfl rfl) ?_
  · exact ⟨⟨_, rfl, .inr ⟨_, _, rfl, rfl, .inr ⟨rfl, rfl⟩, .inl rfl, .inl rfl, .inl rfl, .inl rfl, trivial⟩⟩, ⟨_, rfl, .inl rfl⟩, ⟨_, rfl, .inl rfl⟩, ⟨_, rfl, .inl rfl⟩, ⟨_, rfl, .inl rfl⟩, trivial⟩
  refine AW_imp (Imp.nil 601 3 1 (fr' := frR n flt xs 5) (σ' := chN 1 ((15, .box (cellsN 5 0 2)) :: sB n s1 sk s2 (dl0 n) s3 k' nw)) rfl ⟨⟨_, rfl, .inl rfl⟩, ⟨_, rfl, .inl rfl⟩, ⟨_, rfl, .inl rfl⟩, ⟨_, rfl, .inl rfl⟩, ⟨_, rfl, .inl rfl⟩, ⟨_, rfl, .inl rfl⟩, trivial⟩ ?_ rfl rfl) ?_
  · exact ⟨⟨_, rfl, .inl rfl⟩, ⟨_, rfl, .inr ⟨_, _, rfl, rfl, .inl rfl, .inr ⟨rfl, rfl⟩, .inl rfl, .inl rfl, .inl rfl, trivial⟩⟩, ⟨_, rfl, .inl rfl⟩, ⟨_, rfl, .inl rfl⟩, ⟨_, rfl, .inl rfl⟩, ⟨_, rfl, .inl rfl⟩, trivial⟩
  refine AW_imp (Imp.nil 602 3 1 (fr' := frR n flt xs 5) (σ' := chN 2 ((15, .box (cellsN 5 0 3)) :: sB n s1 sk s2 (dl0 n) s3 k' nw)) rfl ⟨⟨_, rfl, .inl rfl⟩, ⟨_, rfl, .inl rfl⟩, ⟨_, rfl, .inl rfl⟩, ⟨_, rfl, .inl rfl⟩, ⟨_, rfl, .inl rfl⟩, ⟨_, rfl, .inl rfl⟩, trivial⟩ ?_ rfl rfl) ?_
  · exact ⟨⟨_, rfl, .inl rfl⟩, ⟨_, rfl, .inl rfl⟩, ⟨_, rfl, .inr ⟨_, _, rfl, rfl, .inl rfl, .inl rfl, .inr ⟨rfl, rfl⟩, .inl rfl, .inl rfl, trivial⟩⟩, ⟨_, rfl, .inl rfl⟩, ⟨_, rfl, .inl rfl⟩, ⟨_, rfl, .inl rfl⟩, ⟨_, rfl, .inl rfl⟩, trivial⟩
  refine AW_imp (Imp.nil 603 3 1 (fr' := frR n flt xs 5) (σ' := chN 3 ((15, .box (cellsN 5 0 4)) :: sB n s1 sk s2 (dl0 n) s3 k' nw)) rfl ⟨⟨_, rfl, .inl rfl⟩, ⟨_, rfl, .inl rfl⟩, ⟨_, rfl, .inl rfl⟩, ⟨_, rfl, .inl rfl⟩, ⟨_, rfl, .inl rfl⟩, ⟨_, rfl, .inl rfl⟩, trivial⟩ ?_ rfl rfl) ?_
  · exact ⟨⟨_, rfl, .inl rfl⟩, ⟨_, rfl, .inl rfl⟩, ⟨_, rfl, .inl rfl⟩, ⟨_, rfl, .inr ⟨_, _, rfl, rfl, .inl rfl, .inl rfl, .inl rfl, .inr ⟨rfl, rfl⟩, .inl rfl, trivial⟩⟩, ⟨_, rfl, .inl rfl⟩, ⟨_, rfl, .inl rfl⟩, ⟨_, rfl, .inl rfl⟩, ⟨_, rfl, .inl rfl⟩, trivial⟩
  refine AW_imp (Imp.nil 604 3 1 (fr' := frR n flt xs 5) (σ' := chN 4 ((15, .box (cellsN 5 0 5)) :: sB n s1 sk s2 (dl0 n) s3 k' nw)) rfl ⟨⟨_, rfl, .inl rfl⟩, ⟨_, rfl, .inl rfl⟩, ⟨_, rfl, .inl rfl⟩, ⟨_, rfl, .inl rfl⟩, ⟨_, rfl, .inl rfl⟩, ⟨_, rfl, .inl rfl⟩, trivial⟩ ?_ rfl rfl) ?_
  · exact ⟨⟨_, rfl, .inl rfl⟩, ⟨_, rfl, .inl rfl⟩, ⟨_, rfl, .inl rfl⟩, ⟨_, rfl, .inl rfl⟩, ⟨_, rfl, .inr ⟨_, _, rfl, rfl, .inl rfl, .inl rfl, .inl rfl, .inl rfl, .inr ⟨rfl, rfl⟩, trivial⟩⟩, ⟨_, rfl, .inl rfl⟩, ⟨_, rfl, .inl rfl⟩, ⟨_, rfl, .inl rfl⟩, ⟨_, rfl, .inl rfl⟩, trivial⟩
  refine AW_loop (fun p : Nat × Nat × Nat × List W16 => [(20, iv .i64 p.1), (19, iv .i64 xs.length), (18, sl xs), (7, .x (.sb 15 0 5 5)), (8, sl (stsL n flt xs 5 p.1)), (0, .x (.b 900 0))])
    (fun p => (15, .box [.o 600 (p.1) (p.1), .o 601 (p.1) (p.1), .o 602 (p.1) (p.1), .o 603 (p.1) (p.1), .o 604 (p.1) (p.1)]) :: (600, rwOb n (flt 0) xs (p.1)) :: (601, rwOb n (flt 1) xs (p.1)) :: (602, rwOb n (flt 2) xs (p.1)) :: (603, rwOb n (flt 3) xs (p.1)) :: (604, rwOb n (flt 4) xs (p.1)) :: sB n s1 sk s2 (dl0 n) p.2.1 p.2.2.1 p.2.2.2)
    (fun p => p.1 ≤ xs.length) (fun p => xs.length - p.1) (0, s3, k', nw) (Nat.zero_le _) impA ?_
  rintro ⟨t, a, b, c⟩ ht
  dsimp only at ht ⊢
  rcases Nat.lt_or_ge t xs.length with htl | htl
  · have hbeat := fun s3 k' nw => beat_lanes ok (s1 := s1) hsk (s2 := s2) (s3 := s3) (k' := k') (nw := nw) (k := 5) (by decide) hl xs t xs[t] (getDI htl)
    have hol := otsL_len n flt xs 5 t
    repeat' first | with_reducible refine AW_seq ?_ | with_reducible refine AW_block ?_ | ((first | with_reducible refine AW_skip ?_ | with_reducible refine AW_exit ?_ | with_reducible refine AW_ret ?_ | with_reducible refine AW_region hTt ?_ | fail); conv => whnf) | (exact absurd hb (by omega)) | ((refine ⟨_, (hbeat a b c).frame (asc []) (by repeat (first | exact trivial | refine ⟨rfl, ?_⟩)) rfl (by rintro _ _ ⟨_, rfl, rfl⟩; rfl), ?_⟩); (rintro _ _ ⟨_, _, ⟨_, rfl, rfl⟩, rfl, rfl⟩); conv => whnf) | (refine AW_cond rfl (fun hb => ?_) (fun hb => ?_) <;> first | (replace hb := of_decide_eq_true hb; try simp only [List.length_map] at hb) | (replace hb := of_decide_eq_false hb; try simp only [List.length_map] at hb) | (simp only [List.length_map, bne_iff_ne, ne_eq, beq_iff_eq, bne_eq_false_iff_eq, beq_eq_false_iff_ne, decide_eq_true_eq, decide_eq_false_iff_not, Bool.not_eq_true', Bool.not_eq_false', Int.natCast_inj] at hb) | skip) | ((first | refine andA ?_ | with_reducible refine Exists.intro _ (And.intro (gd_any (And.intro (by omega) (map_get (by omega)))) ?_) | fail); conv => whnf) | (refine fun hln => ?_; (try rw [List.length_map] at hln); unfold maxLen at hln; conv => whnf) | fail
    rename_i pp
    refine AW_loop (fun l : Nat => [(33, iv .i64 l), (32, iv .i64 5), (31, sl (otsL n flt xs 5 t)), (20, iv .i64 t), (19, iv .i64 xs.length), (18, sl xs), (7, .x (.sb 15 0 5 5)), (8, sl (stsL n flt xs 5 (t + 1))), (0, .x (.b 900 0))])
      (fun l => (15, .box [.o 600 (t + bt 0 l) (t + bt 0 l), .o 601 (t + bt 1 l) (t + bt 1 l), .o 602 (t + bt 2 l) (t + bt 2 l), .o 603 (t + bt 3 l) (t + bt 3 l), .o 604 (t + bt 4 l) (t + bt 4 l)]) :: (600, rwOb n (flt 0) xs (t + bt 0 l)) :: (601, rwOb n (flt 1) xs (t + bt 1 l)) :: (602, rwOb n (flt 2) xs (t + bt 2 l)) :: (603, rwOb n (flt 3) xs (t + bt 3 l)) :: (604, rwOb n (flt 4) xs (t + bt 4 l)) :: sB n s1 sk s2 (dl0 n) pp.1 pp.2.1 pp.2.2) (fun l => l ≤ 5) (fun l => 5 - l) 0 (Nat.zero_le _) impA ?_
    intro l hlk
    rcases Nat.lt_or_ge l 5 with hll | hll
    · have hg := ots_at n flt xs t hll
      have e := row_app n (flt l) xs t l
      have hq := bt_self l
      have hz := outsR_len n (flt l) xs (t + bt l l)
      obtain ⟨j, hj⟩ : ∃ j, j = l + 1 := ⟨_, rfl⟩
      have hl' : l = 0 ∨ l = 1 ∨ l = 2 ∨ l = 3 ∨ l = 4 := by omega
      clear hol hbeat ht hlk hll
      rcases hl' with rfl | rfl | rfl | rfl | rfl
      all_goals
        repeat' first | with_reducible refine AW_seq ?_ | with_reducible refine AW_block ?_ | ((first | with_reducible refine AW_skip ?_ | with_reducible refine AW_region hTt ?_ | with_reducible refine Exists.intro _ (And.intro (gd_any (And.intro (by omega) hg)) ?_) | refine And.intro (gd_any (And.intro (by decide) (by decide))) ?_ | fail); conv => whnf) | ((refine And.intro ?_ ?_; focus (refine ⟨?_, ?_, ?_⟩ <;> simp [chunk, maxLen] <;> omega)); conv => whnf) | (refine AW_cond rfl (fun _ => ?_) (fun hb => absurd hb (by decide))) | ((first | refine ⟨_, wrap_of (by first | omega | (simp only [List.length_map]; omega)), ?_⟩ | refine andA ?_ | fail); conv => whnf) | fail
        exact ⟨j, by omega, by omega, by subst hj; exact impA⟩
    have hle : l = 5 := by omega
    subst hle
    repeat' first | with_reducible refine AW_seq ?_ | ((first | with_reducible refine AW_exit ?_ | with_reducible refine AW_region hTt ?_ | fail); conv => whnf) | (refine AW_cond rfl (fun hb => absurd hb (by decide)) (fun _ => ?_)) | ((refine ⟨_, wrap_of (by first | omega | (simp only [List.length_map]; omega)), ?_⟩); conv => whnf) | fail
    exact ⟨(t + 1, pp.1, pp.2.1, pp.2.2), by show t + 1 ≤ xs.length; omega, by show xs.length - (t + 1) < xs.length - t; omega, impA⟩
  · have hte : t = xs.length := by omega
    subst hte
    repeat' first | with_reducible refine AW_seq ?_ | with_reducible refine AW_block ?_ | ((first | with_reducible refine AW_skip ?_ | with_reducible refine AW_exit ?_ | with_reducible refine AW_ret ?_ | with_reducible refine AW_region hTt ?_ | fail); conv => whnf) | (exact absurd hb (by omega)) | (refine AW_cond rfl (fun hb => ?_) (fun hb => ?_) <;> first | (replace hb := of_decide_eq_true hb; try simp only [List.length_map] at hb) | (replace hb := of_decide_eq_false hb; try simp only [List.length_map] at hb) | (simp only [List.length_map, bne_iff_ne, ne_eq, beq_iff_eq, bne_eq_false_iff_eq, beq_eq_false_iff_ne, decide_eq_true_eq, decide_eq_false_iff_not, Bool.not_eq_true', Bool.not_eq_false', Int.natCast_inj] at hb) | skip) | fail
    refine ⟨_, sB n s1 sk s2 (dl0 n) a b c, ⟨rfl, rfl, rfl, rfl, trivial⟩, rfl, (?_ : _ = some (rowsAV ((List.range 5).map fun l => outsR n (flt l) xs xs.length))), (a, b, c), rfl, rfl⟩
    have hk := keepRows (σ := (15, .box [.o 600 xs.length xs.length, .o 601 xs.length xs.length, .o 602 xs.length xs.length, .o 603 xs.length xs.length, .o 604 xs.length xs.length]) :: (600, rwOb n (flt 0) xs xs.length) :: (601, rwOb n (flt 1) xs xs.length) :: (602, rwOb n (flt 2) xs xs.length) :: (603, rwOb n (flt 3) xs xs.length) :: (604, rwOb n (flt 4) xs xs.length) :: sB n s1 sk s2 (dl0 n) a b c) (σ' := sB n s1 sk s2 (dl0 n) a b c) (id := 15) (n := 5) (cap := 5) (ps := [PV.s 1 ((outsR n (flt 0) xs xs.length).map iPV), PV.s 1 ((outsR n (flt 1) xs xs.length).map iPV), PV.s 1 ((outsR n (flt 2) xs xs.length).map iPV), PV.s 1 ((outsR n (flt 3) xs xs.length).map iPV), PV.s 1 ((outsR n (flt 4) xs xs.length).map iPV)]) rfl rfl
      (by repeat' first | exact rfl | refine rowPVs_cons (rowPV_o rfl rfl (by rw [List.length_map, outsR_len])) ?_) rfl
    exact outKeep1 (x := .x (.sb 15 0 5 5)) rfl hk
end Go.Proofs.YtfghooojingdhaaDoor
namespace Go.Proofs.YtfghooojingdhaaDoor
open Go Go.QL
set_option maxHeartbeats 3200000
attribute [local irreducible] ACall FnC YC
def nxL (l : List Int) : Nat := match l.getLast? with
  | some y => (y + 1).toNat
  | none => 0
def extL (many : Nat) : Nat → List Int → List (List Int)
  | 0, l => [l]
  | k + 1, l => (List.range' (nxL l) (many - nxL l)).flatMap fun (i : Nat) => extL many k (l ++ [(i : Int)])
def goC (H : List Int → Bool) : List (List Int) → PV → Bool × PV
  | [], x => (true, x)
  | l :: r, x => if H l = true then (false, intsPV l) else goC H r (intsPV l)
theorem goC_app (H : List Int → Bool) (b : List (List Int)) : ∀ (a : List (List Int)) (x : PV), goC H (a ++ b) x = if (goC H a x).1 = true then goC H b (goC H a x).2 else goC H a x
  | [], x => by simp [goC]
  | l :: r, x => by
    simp only [List.cons_append, goC]
    by_cases h : H l = true
    · simp [h]
    · simp only [h]; exact goC_app H b r (intsPV l)
section
variable (asg bdy : Code)
abbrev frC : Fr := [(5, .x (.f (.func 105) [] [.b 950 0])), (4, .x (.b 964 0)), (3, .x (.b 963 0))]
abbrev lpC (go : Bool) : Ob := .x (bif go then .loop .ready none #[6] asg bdy 11 frC 931 else .loop .done (some (.exit 0)) #[6] asg bdy 11 frC 931)
abbrev sgC (go : Bool) (x : PV) (many : Nat) (rows al : PV) : Sg :=
  [(930, lpC asg bdy go), (931, .x .dfr), (964, .box [.d x]), (963, .box [.f (.func 102) [] [.b 940 0, .b 941 0, .b 942 0]]), (950, .box [.d (.v (.int .i64 many))]),
    (940, .box [.d rows]), (941, .box [.f (.func 98) [] [.b 940 0]]), (942, .box [.d al])]
abbrev sgG (s : Nat) (go : Bool) (x : PV) (many : Nat) (rows al : PV) : Sg :=
  (3, .box [.d (.v (.int .i64 s))]) :: (2, .box [.h 930]) :: (4, .box [.f (.func 106) [] [.b 3 0, .b 2 0, .b 950 0, .b 4 0]]) :: sgC asg bdy go x many rows al
end
theorem sgG_ok (asg bdy : Code) (s : Nat) (go : Bool) (x x0 : PV) (many : Nat) (rows al : PV) : (rsSg (sgG asg bdy s go x many rows al) (sgG asg bdy s go x many rows al) && idsIn ((sgG asg bdy s true x0 many rows al).map (·.1)) (sgG asg bdy s go x many rows al)) = true := by
  cases go <;> rfl
theorem clip_fn (l : List Int) : FnC Tryd.prog 107 [sl l] (.x (.d (.c 1 (l.map fun n => [.v (.int .i64 n)])))) := by
  refine FnC_of_AW hTt Tryd.func107 rfl (by kernel_rfl) (res := [.tmp 2]) rfl Tryd.ntmps107 (by simp) fun w0 K0 => ?_
  dsimp only [entry]
  repeat' first | with_reducible refine AW_seq ?_ | ((first | with_reducible refine AW_ret ?_ | with_reducible refine AW_region hTt ?_ | refine And.intro (gd_any ⟨by omega, by omega⟩) ?_ | refine And.intro ⟨rfl, rfl⟩ ?_ | fail); conv => whnf) | (refine fun hln => ?_; (try rw [List.length_map] at hln); unfold maxLen at hln; conv => whnf) | fail
  show some _ = some _
  rw [Int.toNat_natCast, List.take_of_length_le (Nat.le_refl _)]
theorem sl_snoc (l : List Int) (y : Int) : sl (l ++ [y]) = .x (.d (.s 1 ((l.map fun n => [PV.v (.int .i64 n)]) ++ [[.v (.int .i64 y)]]))) := by
  unfold sl; rw [List.map_append]; rfl
theorem nxL_snoc (l : List Int) (y : Int) : nxL (l ++ [y]) = (y + 1).toNat := by unfold nxL; rw [List.getLast?_concat]
theorem grow_fn {asg bdy : Code} {H : List Int → Bool} {s many : Nat} {rows al : PV} (hm : many ≤ 100) (hs : s ≤ many)
    (hy : ∀ (x : PV) (l : List Int), (∀ i ∈ l, 0 ≤ i ∧ i < many) → YC Tryd.prog 930 [sl l] (sgG asg bdy s true x many rows al) (fun r σ' => r = bv (!H l) ∧ σ' = sgG asg bdy s (!H l) (intsPV l) many rows al)) :
    ∀ (k : Nat) (l : List Int) (x : PV), l.length + k = s → (∀ y ∈ l, 0 ≤ y ∧ y < many) → ACall Tryd.prog 106 [sl l, .x (.b 3 0), .x (.b 2 0), .x (.b 950 0), .x (.b 4 0)] (sgG asg bdy s true x many rows al)
      (fun r σ' => r = bv (goC H (extL many k l) x).1 ∧ σ' = sgG asg bdy s (goC H (extL many k l) x).1 (goC H (extL many k l) x).2 many rows al) := by
  intro k
  induction k with
  | zero =>
    intro l x hl hr
    have hy := hy x l hr
    have hg : goC H (extL many 0 l) x = (!H l, intsPV l) := by
      show (if H l = true then (false, intsPV l) else (true, intsPV l)) = _
      cases H l <;> rfl
    rw [hg]
    refine ACall_of_AWD hTt Tryd.func106 rfl (by kernel_rfl) (res := [.tmp 6]) rfl Tryd.ntmps106 (by simp) fun w0 K0 B => ?_
    dsimp only [entry]
    repeat' first | with_reducible refine AW_seq ?_ | ((first | with_reducible refine AW_skip ?_ | with_reducible refine AW_ret ?_ | with_reducible refine AW_region hTt ?_ | fail); conv => whnf) | (exact absurd hb (by omega)) | ((refine ⟨_, hy, ?_⟩); (rintro _ _ ⟨rfl, rfl⟩); conv => whnf) | (refine AW_cond rfl (fun hb => ?_) (fun hb => ?_) <;> first | (replace hb := of_decide_eq_true hb; try simp only [List.length_map] at hb) | (replace hb := of_decide_eq_false hb; try simp only [List.length_map] at hb)) | (refine fun hln => ?_; (try rw [List.length_map] at hln); unfold maxLen at hln; conv => whnf) | fail
    exact ⟨_, sgG asg bdy s (!H l) (intsPV l) many rows al, ⟨rfl, rfl, rfl, rfl, rfl, rfl, rfl, rfl, rfl, rfl, rfl, trivial⟩, sgG_ok _ _ _ _ _ _ _ _ _, rfl, rfl, rfl⟩
  | succ k ih =>
    intro l x hl hr
    have hnx : nxL l ≤ many := by
      unfold nxL
      cases hg : l.getLast? with
      | none => exact Nat.zero_le _
      | some y => have := hr y (List.mem_of_getLast? hg); show (y + 1).toNat ≤ many; omega
    have hstep : ∀ (i : Nat) (y : PV), i < many → goC H ((List.range' i (many - i)).flatMap fun (i : Nat) => extL many k (l ++ [(i : Int)])) y =
        if (goC H (extL many k (l ++ [(i : Int)])) y).1 = true then goC H ((List.range' (i + 1) (many - (i + 1))).flatMap fun (i : Nat) => extL many k (l ++ [(i : Int)])) (goC H (extL many k (l ++ [(i : Int)])) y).2 else goC H (extL many k (l ++ [(i : Int)])) y := by
      intro i y hi
      rw [show many - i = (many - (i + 1)) + 1 by omega, List.range'_succ, List.flatMap_cons, goC_app]
    have hend : ∀ (y : PV), goC H ((List.range' many (many - many)).flatMap fun (i : Nat) => extL many k (l ++ [(i : Int)])) y = (true, y) := by
      intro y
      rw [Nat.sub_self]; rfl
    have hgo : goC H (extL many (k + 1) l) x = goC H ((List.range' (nxL l) (many - nxL l)).flatMap fun (i : Nat) => extL many k (l ++ [(i : Int)])) x := rfl
    rw [hgo]
    clear hgo
    refine ACall_of_AWD hTt Tryd.func106 rfl (by kernel_rfl) (res := [.tmp 6]) rfl Tryd.ntmps106 (by simp) fun w0 K0 B => ?_
    dsimp only [entry]
    have key : (l = [] ∧ nxL l = 0) ∨ ∃ (l0 : List Int) (y : Int), l = l0 ++ [y] ∧ 0 ≤ y ∧ y < many ∧ nxL l = (y + 1).toNat := by
      rcases List.eq_nil_or_concat l with h | ⟨l0, y, h⟩
      · subst h; exact .inl ⟨rfl, rfl⟩
      · right
        rw [List.concat_eq_append] at h
        subst h
        have := hr y (List.mem_append_right _ List.mem_cons_self)
        exact ⟨l0, y, rfl, this.1, this.2, nxL_snoc _ _⟩
    generalize hX : goC H ((List.range' (nxL l) (many - nxL l)).flatMap fun (i : Nat) => extL many k (l ++ [(i : Int)])) x = X
    have hlen : l.length < s := by omega
    rcases key with ⟨h0, hn0⟩ | ⟨l0, y, h0, hy0, hy1, hn0⟩
    case' inl =>
      repeat' first | with_reducible refine AW_seq ?_ | with_reducible refine AW_block ?_ | ((first | with_reducible refine AW_skip ?_ | with_reducible refine AW_region hTt ?_ | fail); conv => whnf) | (exact absurd hb (by omega)) | (exfalso; rw [h0] at hb; simp at hb; done) | (refine AW_cond rfl (fun hb => ?_) (fun hb => ?_) <;> first | (replace hb := of_decide_eq_true hb; try simp only [List.length_map] at hb) | (replace hb := of_decide_eq_false hb; try simp only [List.length_map] at hb)) | (refine fun hln => ?_; (try rw [List.length_map] at hln); unfold maxLen at hln; conv => whnf) | fail
      refine AW_loop (fun p : Nat × PV => [(8, iv .i64 p.1), (0, sl l), (1, .x (.b 3 0)), (2, .x (.b 2 0)), (3, .x (.b 950 0)), (4, .x (.b 4 0))]) (fun p => sgG asg bdy s true p.2 many rows al)
        (fun p => p.1 ≤ many ∧ X = goC H ((List.range' p.1 (many - p.1)).flatMap fun (i : Nat) => extL many k (l ++ [(i : Int)])) p.2) (fun p => many - p.1) (nxL l, x) ⟨hnx, hX.symm⟩ (Imp.forget (by repeat' (first | exact trivial | refine And.intro ?_ ?_ | exact ivE (by omega) | rfl | exact ivE (by first | omega | (simp only [List.length_map, List.length_append, List.length_singleton] <;> omega)) | exact oE (by first | omega | (simp only [List.length_map, List.length_append, List.length_singleton] <;> omega)))) (by repeat' (first | exact trivial | refine And.intro ?_ ?_ | exact ivE (by omega) | rfl | exact ivE (by first | omega | (simp only [List.length_map, List.length_append, List.length_singleton] <;> omega)) | exact oE (by first | omega | (simp only [List.length_map, List.length_append, List.length_singleton] <;> omega)))) (by kernel_rfl) (by kernel_rfl) (by kernel_rfl)) ?_
    case' inr =>
      have hly : l[l.length - 1]? = some y := by rw [h0]; simp
      have hl1 : 1 ≤ l.length := by rw [h0]; simp
      have hlr : (l.map fun n => [PV.v (.int .i64 n)])[((l.length : Int) - 1).toNat]? = some [PV.v (.int .i64 y)] := by
        rw [List.getElem?_map, show ((l.length : Int) - 1).toNat = l.length - 1 by omega, hly]; rfl
      have hwr : IntKind.i64.wrap (((l.map fun n => [PV.v (.int .i64 n)]).length : Int) - 1) = (l.length : Int) - 1 := by
        rw [List.length_map]; exact wrap_of (by omega)
      repeat' first | with_reducible refine AW_seq ?_ | with_reducible refine AW_block ?_ | ((first | with_reducible refine AW_skip ?_ | with_reducible refine AW_region hTt ?_ | fail); conv => whnf) | (exact absurd hb (by omega)) | ((first | refine ⟨_, hwr, ?_⟩ | with_reducible refine Exists.intro _ (And.intro (gd_any (And.intro (by omega) hlr)) ?_) | fail); conv => whnf) | (refine AW_cond rfl (fun hb => ?_) (fun hb => ?_) <;> first | (replace hb := of_decide_eq_true hb; try simp only [List.length_map] at hb) | (replace hb := of_decide_eq_false hb; try simp only [List.length_map] at hb)) | ((first | refine ⟨_, wrap_of (by first | omega | (simp only [List.length_map]; omega)), ?_⟩ | refine andA ?_ | fail); conv => whnf) | (refine fun hln => ?_; (try rw [List.length_map] at hln); unfold maxLen at hln; conv => whnf) | fail
      refine AW_loop (fun p : Nat × PV => [(8, iv .i64 p.1), (0, sl l), (1, .x (.b 3 0)), (2, .x (.b 2 0)), (3, .x (.b 950 0)), (4, .x (.b 4 0))]) (fun p => sgG asg bdy s true p.2 many rows al)
        (fun p => p.1 ≤ many ∧ X = goC H ((List.range' p.1 (many - p.1)).flatMap fun (i : Nat) => extL many k (l ++ [(i : Int)])) p.2) (fun p => many - p.1) (nxL l, x) ⟨hnx, hX.symm⟩ (Imp.forget (by repeat' (first | exact trivial | refine And.intro ?_ ?_ | exact ivE (by omega) | rfl | exact ivE (by first | omega | (simp only [List.length_map, List.length_append, List.length_singleton] <;> omega)) | exact oE (by first | omega | (simp only [List.length_map, List.length_append, List.length_singleton] <;> omega)))) (by repeat' (first | exact trivial | refine And.intro ?_ ?_ | exact ivE (by omega) | rfl | exact ivE (by first | omega | (simp only [List.length_map, List.length_append, List.length_singleton] <;> omega)) | exact oE (by first | omega | (simp only [List.length_map, List.length_append, List.length_singleton] <;> omega)))) (by kernel_rfl) (by kernel_rfl) (by kernel_rfl)) ?_
    all_goals
      clear hX hnx
      rintro ⟨i, z⟩ ⟨hi, hX⟩
      dsimp only at hi hX ⊢
      rcases Nat.lt_or_ge i many with hil | hil
      · rw [hstep i z hil] at hX
        have hih := ih (l ++ [(i : Int)]) z (by rw [List.length_append, List.length_singleton]; omega) (fun y hy => by
          rcases List.mem_append.1 hy with h | h
          · exact hr y h
          · rw [List.mem_singleton.1 h]; omega)
        rw [sl_snoc] at hih
        generalize goC H (extL many k (l ++ [(i : Int)])) z = Y at hih hX
        obtain ⟨go, z'⟩ := Y
        dsimp only at hih hX
        clear ih hstep hend hy hr
        cases go with
        | true =>
          rw [if_pos rfl] at hX
          repeat' first | with_reducible refine AW_seq ?_ | with_reducible refine AW_block ?_ | ((first | with_reducible refine AW_skip ?_ | with_reducible refine AW_exit ?_ | with_reducible refine AW_ret ?_ | with_reducible refine AW_region hTt ?_ | refine AW_drawM hTt hMix (id := 9) 5 [0] true [0, 0, 2, 0, 8, 30, 63, 127] _ (by kernel_rfl) rfl rfl (by kernel_rfl) rfl (by kernel_rfl) (by kernel_rfl) ?_ | refine LateGo.mk ⟨_, rfl, ?_⟩ | fail); conv => whnf) | (exact absurd hb (by omega)) | ((first | refine ⟨_, fun _ => (clip_fn _).call rfl rfl, ?_⟩ | ((refine ⟨_, hih, ?_⟩); (rintro _ _ ⟨rfl, rfl⟩)) | refine And.intro ⟨by rw [List.length_map]; show l.length + 1 ≤ maxLen; unfold maxLen; omega, by rw [List.length_map]; show (l.length + 1) * 8 ≤ 140737488355328; omega⟩ ?_ | fail); conv => whnf) | (refine AW_cond rfl (fun hb => absurd hb (by decide)) (fun _ => ?_)) | (refine AW_cond rfl (fun hb => ?_) (fun hb => ?_) <;> first | (replace hb := of_decide_eq_true hb; try simp only [List.length_map] at hb) | (replace hb := of_decide_eq_false hb; try simp only [List.length_map] at hb)) | ((first | refine ⟨_, wrap_of (by first | omega | (simp only [List.length_map]; omega)), ?_⟩ | refine andA ?_ | fail); conv => whnf) | fail
          exact ⟨(i + 1, z'), ⟨by show i + 1 ≤ many; omega, hX⟩, by show many - (i + 1) < many - i; omega, impA⟩
        | false =>
          rw [if_neg (by decide)] at hX
          subst hX
          repeat' first | with_reducible refine AW_seq ?_ | with_reducible refine AW_block ?_ | ((first | with_reducible refine AW_skip ?_ | with_reducible refine AW_exit ?_ | with_reducible refine AW_ret ?_ | with_reducible refine AW_region hTt ?_ | refine AW_drawM hTt hMix (id := 9) 5 [0] true [0, 0, 2, 0, 8, 30, 63, 127] _ (by kernel_rfl) rfl rfl (by kernel_rfl) rfl (by kernel_rfl) (by kernel_rfl) ?_ | refine LateGo.mk ⟨_, rfl, ?_⟩ | fail); conv => whnf) | (exact absurd hb (by omega)) | ((first | refine ⟨_, fun _ => (clip_fn _).call rfl rfl, ?_⟩ | ((refine ⟨_, hih, ?_⟩); (rintro _ _ ⟨rfl, rfl⟩)) | refine And.intro ⟨by rw [List.length_map]; show l.length + 1 ≤ maxLen; unfold maxLen; omega, by rw [List.length_map]; show (l.length + 1) * 8 ≤ 140737488355328; omega⟩ ?_ | fail); conv => whnf) | (refine AW_cond rfl (fun _ => ?_) (fun hb => absurd hb (by decide))) | (refine AW_cond rfl (fun hb => ?_) (fun hb => ?_) <;> first | (replace hb := of_decide_eq_true hb; try simp only [List.length_map] at hb) | (replace hb := of_decide_eq_false hb; try simp only [List.length_map] at hb)) | ((refine andA ?_); conv => whnf) | fail
          exact ⟨_, sgG asg bdy s false z' many rows al, ⟨rfl, rfl, rfl, rfl, rfl, rfl, rfl, rfl, rfl, rfl, rfl, trivial⟩, sgG_ok _ _ _ _ _ _ _ _ _, rfl, rfl, rfl⟩
      · have hie : i = many := by omega
        subst hie
        rw [hend] at hX
        subst hX
        repeat' first | with_reducible refine AW_seq ?_ | with_reducible refine AW_block ?_ | ((first | with_reducible refine AW_skip ?_ | with_reducible refine AW_exit ?_ | with_reducible refine AW_ret ?_ | with_reducible refine AW_region hTt ?_ | refine AW_drawM hTt hMix (id := 9) 5 [0] true [0, 0, 2, 0, 8, 30, 63, 127] _ (by kernel_rfl) rfl rfl (by kernel_rfl) rfl (by kernel_rfl) (by kernel_rfl) ?_ | fail); conv => whnf) | (exact absurd hb (by omega)) | (refine AW_cond rfl (fun hb => ?_) (fun hb => ?_) <;> first | (replace hb := of_decide_eq_true hb; try simp only [List.length_map] at hb) | (replace hb := of_decide_eq_false hb; try simp only [List.length_map] at hb)) | fail
        exact ⟨_, sgG asg bdy s true z i rows al, ⟨rfl, rfl, rfl, rfl, rfl, rfl, rfl, rfl, rfl, rfl, rfl, trivial⟩, sgG_ok _ _ _ _ _ _ _ _ _, rfl, rfl, rfl⟩
end Go.Proofs.YtfghooojingdhaaDoor
namespace Go.Proofs.YtfghooojingdhaaDoor
open Go Go.QL
set_option maxHeartbeats 3200000
attribute [local irreducible] ACall FnC YC
def allL (many : Nat) : List (List Int) := (List.range' 0 (many + 1)).flatMap fun (s : Nat) => extL many s []
theorem sgC_ok (asg bdy : Code) (go : Bool) (x x0 : PV) (many : Nat) (rows al : PV) : (rsSg (sgC asg bdy go x many rows al) (sgC asg bdy go x many rows al) && idsIn ((sgC asg bdy true x0 many rows al).map (·.1)) (sgC asg bdy go x many rows al)) = true := by
  cases go <;> rfl
theorem choices1_fn {asg bdy : Code} {H : List Int → Bool} {many : Nat} {rows al : PV} (hm : many ≤ 100)
    (hy : ∀ (s : Nat) (x : PV) (l : List Int), (∀ i ∈ l, 0 ≤ i ∧ i < many) → YC Tryd.prog 930 [sl l] (sgG asg bdy s true x many rows al) (fun r σ' => r = bv (!H l) ∧ σ' = sgG asg bdy s (!H l) (intsPV l) many rows al)) (x : PV) :
    ACall Tryd.prog 105 [.x (.h 930), .x (.b 950 0)] (sgC asg bdy true x many rows al)
      (fun r σ' => r = .t [] ∧ σ' = sgC asg bdy (goC H (allL many) x).1 (goC H (allL many) x).2 many rows al) := by
  have hgrow : ∀ (s : Nat) (z : PV), s ≤ many → ACall Tryd.prog 106 [.x (.d (.v (.slice none 0 0))), .x (.b 3 0), .x (.b 2 0), .x (.b 950 0), .x (.b 4 0)] (sgG asg bdy s true z many rows al)
      (fun r σ' => r = bv (goC H (extL many s []) z).1 ∧ σ' = sgG asg bdy s (goC H (extL many s []) z).1 (goC H (extL many s []) z).2 many rows al) := fun s z hs =>
    (grow_fn hm hs (hy s) s [] z (by simp) (fun y hy => by cases hy)).leA ⟨LeAV1.nil 1, LeAV1.refl _, LeAV1.refl _, LeAV1.refl _, LeAV1.refl _, trivial⟩
  have hstep : ∀ (s : Nat) (y : PV), s < many + 1 → goC H ((List.range' s (many + 1 - s)).flatMap fun (s : Nat) => extL many s []) y =
      if (goC H (extL many s []) y).1 = true then goC H ((List.range' (s + 1) (many + 1 - (s + 1))).flatMap fun (s : Nat) => extL many s []) (goC H (extL many s []) y).2 else goC H (extL many s []) y := by
    intro s y hs
    rw [show many + 1 - s = (many + 1 - (s + 1)) + 1 by omega, List.range'_succ, List.flatMap_cons, goC_app]
  have hend : ∀ (y : PV), goC H ((List.range' (many + 1) (many + 1 - (many + 1))).flatMap fun (s : Nat) => extL many s []) y = (true, y) := by
    intro y
    rw [Nat.sub_self]; rfl
  generalize hX : goC H (allL many) x = X
  clear hy
  refine ACall_of_AWD hTt Tryd.func105 rfl (by kernel_rfl) (res := []) rfl Tryd.ntmps105 (by simp) fun w0 K0 B => ?_
  dsimp only [entry]
  repeat' first | with_reducible refine AW_seq ?_ | with_reducible refine AW_block ?_ | ((first | with_reducible refine AW_region hTt ?_ | refine ⟨_, wrap_of (by first | omega | (simp only [List.length_map]; omega)), ?_⟩ | fail); conv => whnf) | fail
  refine AW_loop (fun p : Nat × PV => [(7, iv .i64 p.1), (6, iv .i64 ((many : Int) + 1)), (2, .x (.b 2 0)), (1, .x (.b 950 0))]) (fun p => (2, .box [.h 930]) :: sgC asg bdy true p.2 many rows al)
    (fun p => p.1 ≤ many + 1 ∧ X = goC H ((List.range' p.1 (many + 1 - p.1)).flatMap fun (s : Nat) => extL many s []) p.2) (fun p => many + 1 - p.1) (0, x) ⟨Nat.zero_le _, hX.symm⟩ impA ?_
  clear hX
  rintro ⟨s, z⟩ ⟨hs, hX⟩
  dsimp only at hs hX ⊢
  rcases Nat.lt_or_ge s (many + 1) with hsl | hsl
  · rw [hstep s z hsl] at hX
    have hg := hgrow s z (by omega)
    generalize goC H (extL many s []) z = Y at hg hX
    obtain ⟨go, z'⟩ := Y
    dsimp only at hg hX
    clear hstep hend hgrow
    cases go with
    | true =>
      rw [if_pos rfl] at hX
      repeat' first | with_reducible refine AW_seq ?_ | with_reducible refine AW_block ?_ | ((first | with_reducible refine AW_skip ?_ | with_reducible refine AW_exit ?_ | with_reducible refine AW_region hTt ?_ | fail); conv => whnf) | (exact absurd hb (by omega)) | ((refine ⟨_, (hg).frame (asc []) (by repeat (first | exact trivial | refine ⟨rfl, ?_⟩)) rfl (by rintro _ _ ⟨rfl, rfl⟩; rfl), ?_⟩); (rintro _ _ ⟨_, _, ⟨rfl, rfl⟩, rfl, rfl⟩); conv => whnf) | (refine AW_cond rfl (fun hb => absurd hb (by decide)) (fun _ => ?_)) | (refine AW_cond rfl (fun hb => ?_) (fun hb => ?_) <;> first | (replace hb := of_decide_eq_true hb; try simp only [List.length_map] at hb) | (replace hb := of_decide_eq_false hb; try simp only [List.length_map] at hb)) | ((refine ⟨_, wrap_of (by first | omega | (simp only [List.length_map]; omega)), ?_⟩); conv => whnf) | fail
      exact ⟨(s + 1, z'), ⟨by show s + 1 ≤ many + 1; omega, hX⟩, by show many + 1 - (s + 1) < many + 1 - s; omega, impA⟩
    | false =>
      rw [if_neg (by decide)] at hX
      subst hX
      repeat' first | with_reducible refine AW_seq ?_ | with_reducible refine AW_block ?_ | ((first | with_reducible refine AW_skip ?_ | with_reducible refine AW_exit ?_ | with_reducible refine AW_ret ?_ | with_reducible refine AW_region hTt ?_ | fail); conv => whnf) | (exact absurd hb (by omega)) | ((refine ⟨_, (hg).frame (asc []) (by repeat (first | exact trivial | refine ⟨rfl, ?_⟩)) rfl (by rintro _ _ ⟨rfl, rfl⟩; rfl), ?_⟩); (rintro _ _ ⟨_, _, ⟨rfl, rfl⟩, rfl, rfl⟩); conv => whnf) | (refine AW_cond rfl (fun _ => ?_) (fun hb => absurd hb (by decide))) | (refine AW_cond rfl (fun hb => ?_) (fun hb => ?_) <;> first | (replace hb := of_decide_eq_true hb; try simp only [List.length_map] at hb) | (replace hb := of_decide_eq_false hb; try simp only [List.length_map] at hb)) | fail
      exact ⟨_, sgC asg bdy false z' many rows al, ⟨rfl, rfl, rfl, rfl, rfl, rfl, rfl, rfl, trivial⟩, sgC_ok _ _ _ _ _ _ _ _, rfl, rfl, rfl⟩
  · have hse : s = many + 1 := by omega
    subst hse
    rw [hend] at hX
    subst hX
    repeat' first | with_reducible refine AW_seq ?_ | with_reducible refine AW_block ?_ | ((first | with_reducible refine AW_skip ?_ | with_reducible refine AW_exit ?_ | with_reducible refine AW_region hTt ?_ | fail); conv => whnf) | (exact absurd hb (by omega)) | (refine AW_cond rfl (fun hb => ?_) (fun hb => ?_) <;> first | (replace hb := of_decide_eq_true hb; try simp only [List.length_map] at hb) | (replace hb := of_decide_eq_false hb; try simp only [List.length_map] at hb)) | fail
    exact ⟨_, sgC asg bdy true z many rows al, ⟨rfl, rfl, rfl, rfl, rfl, rfl, rfl, rfl, trivial⟩, sgC_ok _ _ _ _ _ _ _ _, rfl, rfl, rfl⟩
end Go.Proofs.YtfghooojingdhaaDoor
namespace Go.Proofs.YtfghooojingdhaaDoor
open Go Go.QL
set_option maxHeartbeats 1600000
attribute [local irreducible] ACall FnC
def firstErr : List Int → Int
  | [] => 0
  | e :: r => if e = 0 then firstErr r else e
def askedR (n : NetT) (fs : List FaultT) (ts : List (List Int)) : Int :=
  if (checkR n).2.2 = 0 then (if 12 < fs.length ∨ 10 < ts.length then 3 else firstErr (fs.map (faultErr n) ++ ts.map (insErr n))) else (checkR n).2.2
theorem fault_some {fs : List FaultT} {i : Nat} {f : FaultT} (h : fs[i]? = some f) : (fs.map faultPV)[((i : Int)).toNat]? = some [.v (.int .i64 f.sig), .v (.int .i64 f.at_)] := by simp [h, faultPV]
theorem row_some {ts : List (List Int)} {i : Nat} {t : List Int} (h : ts[i]? = some t) : (ts.map fun r => [intsPV r])[((i : Int)).toNat]? = some [intsPV t] := by simp [h]
theorem firstErr_cons {e : Int} {r : List Int} : firstErr (e :: r) = if e = 0 then firstErr r else e := rfl
theorem three_err' {n : NetT} {c : Int} (h : (checkR n).2.2 = c) : three (checkR n) = .t [iv .i64 (checkR n).1, iv .i64 (checkR n).2.1, iv .i64 c] := by
  unfold three; rw [h]
end Go.Proofs.YtfghooojingdhaaDoor
namespace Go.Proofs.YtfghooojingdhaaDoor
open Go Go.QL
set_option maxHeartbeats 400000
def sameInts (a b : List Int) : Bool := decide (a = b)
theorem ints_fn (a b : List Int) : FnC Tryd.prog 25 [sl a, sl b] (bv (sameInts a b)) := by
  refine FnC_of_AW hTt Tryd.func25 rfl (by kernel_rfl) (res := [.tmp 4]) rfl Tryd.ntmps25 (by simp) fun w0 K0 => ?_
  dsimp only [entry]
  repeat' first | with_reducible refine AW_seq ?_ | with_reducible refine AW_block ?_ | ((first | with_reducible refine AW_skip ?_ | with_reducible refine AW_ret ?_ | with_reducible refine AW_region hTt ?_ | fail); conv => whnf) | (refine AW_cond rfl (fun hb => ?_) (fun hb => ?_) <;> first | (replace hb := of_decide_eq_true hb; try simp only [List.length_map] at hb) | (replace hb := of_decide_eq_false hb; try simp only [List.length_map] at hb) | (simp only [List.length_map, bne_iff_ne, ne_eq, beq_iff_eq, bne_eq_false_iff_eq, beq_eq_false_iff_ne, decide_eq_true_eq, decide_eq_false_iff_not, Bool.not_eq_true', Bool.not_eq_false', Int.natCast_inj] at hb)) | (refine fun hln => ?_; (try rw [List.length_map] at hln); unfold maxLen at hln; conv => whnf) | fail
  · have : sameInts a b = false := by
      unfold sameInts
      exact decide_eq_false fun h => hb (by rw [h])
    rw [this]; rfl
  · skip
    refine AW_loop (fun i : Nat => [(5, iv .i64 i), (0, sl a), (1, sl b)]) (fun _ => []) (fun i => i ≤ a.length ∧ a.take i = b.take i) (fun i => a.length - i) 0 (by simp) (Imp.forget ⟨rfl, rfl, rfl, trivial⟩ trivial rfl) ?_
    rintro i ⟨hi, htk⟩
    repeat' first | with_reducible refine AW_seq ?_ | with_reducible refine AW_block ?_ | ((first | with_reducible refine AW_skip ?_ | with_reducible refine AW_exit ?_ | with_reducible refine AW_ret ?_ | with_reducible refine AW_region hTt ?_ | refine AW_draw hTt hMix (id := 6) 8 false [0, 0, 3, 7, 0, 0, 48, 112, 255] (by kernel_rfl) rfl rfl (by kernel_rfl) ?_ | fail); conv => whnf) | (refine AW_cond rfl (fun hb => ?_) (fun hb => ?_) <;> first | (replace hb := of_decide_eq_true hb; try simp only [List.length_map] at hb) | (replace hb := of_decide_eq_false hb; try simp only [List.length_map] at hb) | (simp only [List.length_map, bne_iff_ne, ne_eq, beq_iff_eq, bne_eq_false_iff_eq, beq_eq_false_iff_ne, decide_eq_true_eq, decide_eq_false_iff_not, Bool.not_eq_true', Bool.not_eq_false', Int.natCast_inj] at hb)) | ((first | refine ⟨_, wrap_of (by first | omega | (simp only [List.length_map]; omega)), ?_⟩ | refine andA ?_ | with_reducible refine Exists.intro _ (And.intro (gd_any (And.intro (by omega) (map_get (by omega)))) ?_) | fail); conv => whnf) | (refine fun hln => ?_; (try rw [List.length_map] at hln); unfold maxLen at hln; conv => whnf) | fail
    · have hne : a ≠ b := fun h => hb (by simp [h])
      have : sameInts a b = false := decide_eq_false hne
      rw [this]; rfl
    · refine ⟨i + 1, ⟨by omega, ?_⟩, by omega, Imp.forget ⟨rfl, rfl, rfl, trivial⟩ trivial rfl⟩
      rw [List.take_add_one, List.take_add_one, htk, List.getElem?_eq_getElem (by omega), List.getElem?_eq_getElem (by omega), hb]
    · have : sameInts a b = true := decide_eq_true (by
        have h1 := List.take_of_length_le (l := a) (i := i) (by omega)
        have h2 := List.take_of_length_le (l := b) (i := i) (by omega)
        rw [← h1, ← h2, htk])
      rw [this]; rfl
end Go.Proofs.YtfghooojingdhaaDoor
namespace Go.Proofs.YtfghooojingdhaaDoor
open Go Go.QL
set_option maxHeartbeats 3200000
attribute [local irreducible] ACall FnC
theorem firstErr_all {l : List Int} (h : firstErr l = 0) : ∀ e ∈ l, e = 0 := by
  induction l with
  | nil => intro e he; cases he
  | cons x r ih =>
    rw [firstErr_cons] at h
    split at h
    · rename_i hx
      intro e he
      rcases List.mem_cons.1 he with rfl | he
      · exact hx
      · exact ih h e he
    · rename_i hx; exact absurd h hx
structure AskOK (n : NetT) (fs : List FaultT) (ts : List (List Int)) : Prop where
  ok : NetOK n
  chk : (checkR n).2.2 = 0
  fl : fs.length ≤ 12
  tl : ts.length ≤ 10
  f : ∀ f ∈ fs, faultErr n f = 0
  t : ∀ t ∈ ts, insErr n t = 0
theorem AskOK.of {n : NetT} {fs : List FaultT} {ts : List (List Int)} (h : askedR n fs ts = 0) : AskOK n fs ts := by
  unfold askedR at h
  split at h
  · rename_i hc
    split at h
    · cases h
    · rename_i hl
      have := firstErr_all h
      refine ⟨NetOK.of hc, hc, by omega, by omega, fun f hf => this _ (List.mem_append_left _ (List.mem_map.2 ⟨f, hf, rfl⟩)), fun t ht => this _ (List.mem_append_right _ (List.mem_map.2 ⟨t, ht, rfl⟩))⟩
  · rename_i hc; exact absurd h hc
def oR (n : NetT) (f : FaultT) (t : List Int) : List Int := outsR n f t t.length
theorem AskOK.out {n : NetT} {fs : List FaultT} {ts : List (List Int)} (h : AskOK n fs ts) {f : FaultT} (hf : FltOK f) {t : List Int} (ht : t ∈ ts) : FnC Tryd.prog 32 [netAV n, faultAV f, sl t] (sl (oR n f t)) := by
  have := insErr_ok (h.t t ht)
  exact out_ref n h.ok f hf t this.2 (by omega)
def bPV (b : Bool) : List PV := [.v (.bool b)]
def boolsPV (l : List Bool) : PV := .s 1 (l.map bPV)
def tableAV (l : List (List Bool)) : AV := .x (.d (.s 1 (l.map fun r => [boolsPV r])))
def rowR (n : NetT) (fs : List FaultT) (t : List Int) : List Bool := fs.map fun f => !sameInts (oR n fine t) (oR n f t)
def tableR (n : NetT) (fs : List FaultT) (ts : List (List Int)) : List (List Bool) × Int :=
  if askedR n fs ts = 0 then (ts.map fun t => rowR n fs t, 0) else ([], askedR n fs ts)
def apartR (n : NetT) (a b : FaultT) (ts : List (List Int)) (list : List Int) : Bool := list.any fun i => !sameInts (oR n a (ts.getD i.toNat [])) (oR n b (ts.getD i.toNat []))
def InT (ts : List (List Int)) (list : List Int) : Prop := ∀ x ∈ list, 0 ≤ x ∧ x < ts.length
def findsR (n : NetT) (fs : List FaultT) (ts : List (List Int)) (list others : List Int) : Bool := fs.all fun f => !(apartR n fine f ts others && !apartR n fine f ts list)
end Go.Proofs.YtfghooojingdhaaDoor
namespace Go.Proofs.YtfghooojingdhaaDoor
open Go Go.QL
set_option maxHeartbeats 3200000
attribute [local irreducible] ACall FnC YC
def bitR (R : List (List Bool)) (i k : Nat) : Bool := (R.getD i []).getD k false
def hasR (R : List (List Bool)) (l : List Int) (k : Nat) : Bool := l.any fun i => bitR R i.toNat k
def firstB (p : Int → Bool) : List Int → Nat → Option Nat
  | [], _ => none
  | x :: r, j => if p x = true then some j else firstB p r (j + 1)
def idxB (p : Int → Bool) (l : List Int) : Int := match firstB p l 0 with
  | some j => j
  | none => -1
theorem firstB_cons (p : Int → Bool) (x : Int) (r : List Int) (j : Nat) : firstB p (x :: r) j = if p x = true then some j else firstB p r (j + 1) := rfl
theorem firstB_any (p : Int → Bool) : ∀ (l : List Int) (j : Nat), (firstB p l j).isSome = l.any p
  | [], _ => rfl
  | x :: r, j => by
    simp only [firstB, List.any_cons]
    by_cases h : p x = true
    · simp [h]
    · simp only [h, Bool.false_or]
      exact firstB_any p r (j + 1)
theorem idxB_any (p : Int → Bool) (l : List Int) : decide (0 ≤ idxB p l) = l.any p := by
  rw [← firstB_any p l 0]
  unfold idxB
  cases firstB p l 0 with
  | none => rfl
  | some j => simp
def rowsB (R : List (List Bool)) : PV := .s 1 (R.map fun r => [boolsPV r])
def Wide (R : List (List Bool)) (m : Nat) : Prop := ∀ r ∈ R, r.length = m
theorem has11_fn {R : List (List Bool)} {m : Nat} (hw : Wide R m) {k : Nat} (hk : k < m) (i : Int) (hi : 0 ≤ i ∧ i < R.length) :
    ACall Tryd.prog 99 [iv .i64 i, .x (.b 940 0), .x (.b 4 0)] [(4, .box [.d (.v (.int .i64 k))]), (940, .box [.d (rowsB R)])]
      (fun r σ' => r = bv (bitR R i.toNat k) ∧ σ' = [(4, .box [.d (.v (.int .i64 k))]), (940, .box [.d (rowsB R)])]) := by
  obtain ⟨row, hr⟩ : ∃ row, R[i.toNat]? = some row := ⟨_, List.getElem?_eq_getElem (by omega)⟩
  have hrl := hw row (List.mem_of_getElem? hr)
  obtain ⟨b, hb⟩ : ∃ b, row[k]? = some b := ⟨_, List.getElem?_eq_getElem (by omega)⟩
  have hr' : (R.map fun r => [boolsPV r])[i.toNat]? = some [boolsPV row] := by rw [List.getElem?_map, hr]; rfl
  have hb' : (row.map bPV)[((k : Int)).toNat]? = some [.v (.bool b)] := by rw [Int.toNat_natCast, List.getElem?_map, hb]; rfl
  have e : bitR R i.toNat k = b := by
    unfold bitR
    rw [List.getD_eq_getElem?_getD (l := R), hr, Option.getD_some, List.getD_eq_getElem?_getD, hb]; rfl
  rw [e]
  refine ACall_of_AWD hTt Tryd.func99 rfl (by kernel_rfl) (res := [.tmp 4]) rfl Tryd.ntmps99 (by simp) fun w0 K0 B => ?_
  dsimp only [entry]
  repeat' first | with_reducible refine AW_seq ?_ | ((first | with_reducible refine AW_ret ?_ | with_reducible refine AW_region hTt ?_ | refine AW_draw hTt hMix (id := 1) 5 false [0, 0, 3, 7, 0, 31, 63, 127] (by kernel_rfl) rfl rfl (by kernel_rfl) ?_ | refine ⟨_, gd_none ⟨hi.1, hr'⟩, ?_⟩ | refine ⟨_, gd_none ⟨by omega, hb'⟩, ?_⟩ | refine andA ?_ | fail); conv => whnf) | fail
  exact ⟨_, [(4, .box [.d (.v (.int .i64 k))]), (940, .box [.d (rowsB R)])], ⟨rfl, rfl, trivial⟩, rfl, rfl, rfl, rfl⟩
theorem idxh_fn {R : List (List Bool)} {m : Nat} (hw : Wide R m) {k : Nat} (hk : k < m) (l : List Int) (hl : ∀ i ∈ l, 0 ≤ i ∧ i < R.length) :
    ACall Tryd.prog 56 [sl l, .x (.f (.func 99) [] [.b 940 0, .b 4 0])] [(4, .box [.d (.v (.int .i64 k))]), (940, .box [.d (rowsB R)])]
      (fun r σ' => r = iv .i64 (idxB (fun i => bitR R i.toNat k) l) ∧ σ' = [(4, .box [.d (.v (.int .i64 k))]), (940, .box [.d (rowsB R)])]) := by
  refine ACall_of_AWD hTt Tryd.func56 rfl (by kernel_rfl) (res := [.tmp 4]) rfl Tryd.ntmps56 (by simp) fun w0 K0 B => ?_
  dsimp only [entry]
  repeat' first | with_reducible refine AW_seq ?_ | with_reducible refine AW_block ?_ | ((with_reducible refine AW_region hTt ?_); conv => whnf) | (refine fun hln => ?_; (try rw [List.length_map] at hln); unfold maxLen at hln; conv => whnf) | fail
  refine AW_loop (fun i : Nat => [(8, iv .i64 i), (7, iv .i64 l.length), (0, sl l), (1, .x (.f (.func 99) [] [.b 940 0, .b 4 0]))]) (fun _ => [(4, .box [.d (.v (.int .i64 k))]), (940, .box [.d (rowsB R)])])
    (fun i => i ≤ l.length ∧ firstB (fun i => bitR R i.toNat k) l 0 = firstB (fun i => bitR R i.toNat k) (l.drop i) i) (fun i => l.length - i) 0 (by simp) impA ?_
  rintro i ⟨hi, hfo⟩
  rcases Nat.lt_or_ge i l.length with hil | hil
  · obtain ⟨x, hx⟩ : ∃ x, l[i]? = some x := ⟨_, List.getElem?_eq_getElem hil⟩
    have hdr : l.drop i = x :: l.drop (i + 1) := by
      rw [List.drop_eq_getElem_cons hil]
      congr 1
      rw [List.getElem?_eq_getElem hil] at hx
      exact Option.some.inj hx
    have h11 := has11_fn hw hk x (hl x (List.mem_of_getElem? hx))
    rw [hdr, firstB_cons] at hfo
    generalize bitR R x.toNat k = b at h11 hfo
    cases b with
    | true =>
      rw [if_pos rfl] at hfo
      rw [show idxB (fun i => bitR R i.toNat k) l = i from by unfold idxB; rw [hfo]]
      repeat' first | with_reducible refine AW_seq ?_ | with_reducible refine AW_block ?_ | ((first | with_reducible refine AW_skip ?_ | with_reducible refine AW_exit ?_ | with_reducible refine AW_ret ?_ | with_reducible refine AW_region hTt ?_ | fail); conv => whnf) | (exact absurd hb (by omega)) | ((first | with_reducible refine Exists.intro _ (And.intro (gd_any (And.intro (by omega) (map_some hx))) ?_) | ((refine ⟨_, h11, ?_⟩); (rintro _ _ ⟨rfl, rfl⟩)) | fail); conv => whnf) | (refine AW_cond rfl (fun _ => ?_) (fun hb => absurd hb (by decide))) | (refine AW_cond rfl (fun hb => ?_) (fun hb => ?_) <;> first | (replace hb := of_decide_eq_true hb; try simp only [List.length_map] at hb) | (replace hb := of_decide_eq_false hb; try simp only [List.length_map] at hb)) | ((refine andA ?_); conv => whnf) | fail
      exact ⟨_, [(4, .box [.d (.v (.int .i64 k))]), (940, .box [.d (rowsB R)])], ⟨rfl, rfl, trivial⟩, rfl, rfl, rfl, rfl⟩
    | false =>
      rw [if_neg (by decide)] at hfo
      repeat' first | with_reducible refine AW_seq ?_ | with_reducible refine AW_block ?_ | ((first | with_reducible refine AW_skip ?_ | with_reducible refine AW_exit ?_ | with_reducible refine AW_ret ?_ | with_reducible refine AW_region hTt ?_ | fail); conv => whnf) | (exact absurd hb (by omega)) | ((first | with_reducible refine Exists.intro _ (And.intro (gd_any (And.intro (by omega) (map_some hx))) ?_) | ((refine ⟨_, h11, ?_⟩); (rintro _ _ ⟨rfl, rfl⟩)) | fail); conv => whnf) | (refine AW_cond rfl (fun hb => absurd hb (by decide)) (fun _ => ?_)) | (refine AW_cond rfl (fun hb => ?_) (fun hb => ?_) <;> first | (replace hb := of_decide_eq_true hb; try simp only [List.length_map] at hb) | (replace hb := of_decide_eq_false hb; try simp only [List.length_map] at hb)) | ((first | refine ⟨_, wrap_of (by first | omega | (simp only [List.length_map]; omega)), ?_⟩ | refine andA ?_ | fail); conv => whnf) | fail
      exact ⟨i + 1, ⟨by omega, hfo⟩, by omega, impA⟩
  · rw [show idxB (fun i => bitR R i.toNat k) l = -1 from by unfold idxB; rw [hfo, List.drop_eq_nil_of_le hil]; rfl]
    repeat' first | with_reducible refine AW_seq ?_ | with_reducible refine AW_block ?_ | ((first | with_reducible refine AW_skip ?_ | with_reducible refine AW_exit ?_ | with_reducible refine AW_ret ?_ | with_reducible refine AW_region hTt ?_ | fail); conv => whnf) | (exact absurd hb (by omega)) | (refine AW_cond rfl (fun hb => ?_) (fun hb => ?_) <;> first | (replace hb := of_decide_eq_true hb; try simp only [List.length_map] at hb) | (replace hb := of_decide_eq_false hb; try simp only [List.length_map] at hb)) | fail
    exact ⟨_, [(4, .box [.d (.v (.int .i64 k))]), (940, .box [.d (rowsB R)])], ⟨rfl, rfl, trivial⟩, rfl, rfl, rfl, rfl⟩
theorem conh_fn {R : List (List Bool)} {m : Nat} (hw : Wide R m) {k : Nat} (hk : k < m) (l : List Int) (hl : ∀ i ∈ l, 0 ≤ i ∧ i < R.length) :
    ACall Tryd.prog 95 [sl l, .x (.f (.func 99) [] [.b 940 0, .b 4 0])] [(4, .box [.d (.v (.int .i64 k))]), (940, .box [.d (rowsB R)])]
      (fun r σ' => r = bv (hasR R l k) ∧ σ' = [(4, .box [.d (.v (.int .i64 k))]), (940, .box [.d (rowsB R)])]) := by
  have h := idxh_fn hw hk l hl
  rw [show hasR R l k = decide (0 ≤ idxB (fun i => bitR R i.toNat k) l) from (idxB_any _ l).symm]
  refine ACall_of_AWD hTt Tryd.func95 rfl (by kernel_rfl) (res := [.tmp 4]) rfl Tryd.ntmps95 (by simp) fun w0 K0 B => ?_
  dsimp only [entry]
  repeat' first | with_reducible refine AW_seq ?_ | ((first | with_reducible refine AW_ret ?_ | with_reducible refine AW_region hTt ?_ | ((refine ⟨_, h, ?_⟩); (rintro _ _ ⟨rfl, rfl⟩)) | fail); conv => whnf) | fail
  exact ⟨_, [(4, .box [.d (.v (.int .i64 k))]), (940, .box [.d (rowsB R)])], ⟨rfl, rfl, trivial⟩, rfl, rfl, rfl, rfl⟩
theorem has_fn {R : List (List Bool)} {m : Nat} (hw : Wide R m) {k : Nat} (hk : k < m) (l : List Int) (hl : ∀ i ∈ l, 0 ≤ i ∧ i < R.length) :
    ACall Tryd.prog 98 [sl l, iv .i64 k, .x (.b 940 0)] [(940, .box [.d (rowsB R)])] (fun r σ' => r = bv (hasR R l k) ∧ σ' = [(940, .box [.d (rowsB R)])]) := by
  have h := conh_fn hw hk l hl
  refine ACall_of_AWD hTt Tryd.func98 rfl (by kernel_rfl) (res := [.tmp 5]) rfl Tryd.ntmps98 (by simp) fun w0 K0 B => ?_
  dsimp only [entry]
  repeat' first | with_reducible refine AW_seq ?_ | ((first | with_reducible refine AW_ret ?_ | with_reducible refine AW_region hTt ?_ | ((refine ⟨_, h, ?_⟩); (rintro _ _ ⟨rfl, rfl⟩)) | fail); conv => whnf) | fail
  exact ⟨_, [(940, .box [.d (rowsB R)])], ⟨rfl, trivial⟩, rfl, rfl, rfl, rfl⟩
def holdsR (R : List (List Bool)) (all : List Int) (m : Nat) (l : List Int) : Bool := (List.range m).all fun k => !(hasR R all k && !hasR R l k)
abbrev sgH (R : List (List Bool)) (all : List Int) : Sg := [(940, .box [.d (rowsB R)]), (941, .box [.f (.func 98) [] [.b 940 0]]), (942, .box [.d (intsPV all)])]
theorem hasH_fn {R : List (List Bool)} {m : Nat} (hw : Wide R m) {k : Nat} (hk : k < m) (all l : List Int) (hl : ∀ i ∈ l, 0 ≤ i ∧ i < R.length) :
    ACall Tryd.prog 98 [sl l, iv .i64 k, .x (.b 940 0)] (sgH R all) (fun r σ' => r = bv (hasR R l k) ∧ σ' = sgH R all) :=
  ((has_fn hw hk l hl).frame (asc []) (by repeat (first | exact trivial | refine ⟨rfl, ?_⟩)) rfl (by rintro _ _ ⟨rfl, rfl⟩; rfl)).mono (by rintro _ _ ⟨_, _, ⟨rfl, rfl⟩, rfl, rfl⟩; exact ⟨rfl, rfl⟩)
theorem holds_fn {R : List (List Bool)} {m : Nat} (hm : m ≤ 4096) (hw : Wide R m) (hR : R = [] → m = 0) (all l : List Int) (ha : ∀ i ∈ all, 0 ≤ i ∧ i < R.length) (hl : ∀ i ∈ l, 0 ≤ i ∧ i < R.length) :
    ACall Tryd.prog 102 [sl l, .x (.b 940 0), .x (.b 941 0), .x (.b 942 0)] (sgH R all) (fun r σ' => r = bv (holdsR R all m l) ∧ σ' = sgH R all) := by
  refine ACall_of_AWD hTt Tryd.func102 rfl (by kernel_rfl) (res := [.tmp 5]) rfl Tryd.ntmps102 (by simp) fun w0 K0 B => ?_
  dsimp only [entry]
  repeat' first | with_reducible refine AW_seq ?_ | with_reducible refine AW_block ?_ | ((with_reducible refine AW_region hTt ?_); conv => whnf) | fail
  refine AW_loop (fun k : Nat => [(6, iv .i64 k), (0, sl l), (1, .x (.b 940 0)), (2, .x (.b 941 0)), (3, .x (.b 942 0))]) (fun _ => sgH R all)
    (fun k => k ≤ m ∧ ((List.range k).all fun k => !(hasR R all k && !hasR R l k)) = true) (fun k => m - k) 0 ⟨Nat.zero_le _, rfl⟩ impA ?_
  rintro k ⟨hk, hs⟩
  cases hRe : R with
  | nil =>
    have hm0 : m = 0 := hR hRe
    subst hRe
    subst hm0
    have g0 : decide ((0 : Int) < ((([] : List (List Bool)).map fun r => [boolsPV r]).length : Int)) ≠ true := by simp
    have e0 : ∀ {p : Prop}, Gd (some (decide ((0 : Int) < ((([] : List (List Bool)).map fun r => [boolsPV r]).length : Int)))) p := fun {p} => gd_some (fun h => absurd h g0)
    repeat' first | with_reducible refine AW_seq ?_ | with_reducible refine AW_block ?_ | ((first | with_reducible refine AW_skip ?_ | with_reducible refine AW_exit ?_ | with_reducible refine AW_ret ?_ | with_reducible refine AW_region hTt ?_ | fail); conv => whnf) | (exfalso; simp at hb; done) | ((first | with_reducible refine Exists.intro [boolsPV []] (And.intro e0 ?_) | refine And.intro ?_ ?_; focus (first | (exact trivial) | (intro h1; exact h1) | (intro h1 h2; simp_all; done) | (intro h1 h2; exact h1)) | fail); conv => whnf) | (refine AW_cond rfl (fun hb => ?_) (fun hb => ?_) <;> first | (replace hb := of_decide_eq_true hb; try simp only [List.length_map] at hb) | (replace hb := of_decide_eq_false hb; try simp only [List.length_map] at hb) | (simp only [List.length_map, bne_iff_ne, ne_eq, beq_iff_eq, bne_eq_false_iff_eq, beq_eq_false_iff_ne, decide_eq_true_eq, decide_eq_false_iff_not, Bool.not_eq_true', Bool.not_eq_false', Int.natCast_inj] at hb)) | ((refine andA ?_); conv => whnf) | (refine fun hln => ?_; (try rw [List.length_map] at hln); unfold maxLen at hln; conv => whnf) | fail
    exact ⟨_, sgH [] all, ⟨rfl, rfl, rfl, trivial⟩, rfl, rfl, rfl, rfl⟩
  | cons r0 R' =>
    subst hRe
    have hr0 : r0.length = m := hw r0 List.mem_cons_self
    have h00 : ((r0 :: R').map fun r => [boolsPV r])[(0 : Int).toNat]? = some [boolsPV r0] := rfl
    rcases Nat.lt_or_ge k m with hkm | hkm
    · have hp := hasH_fn hw hkm all all ha
      have hq := hasH_fn hw hkm all l hl
      have hF : hasR (r0 :: R') all k = true → hasR (r0 :: R') l k = false → holdsR (r0 :: R') all m l = false := by
        intro h1 h2
        unfold holdsR
        rw [List.all_eq_false]
        exact ⟨k, List.mem_range.2 hkm, by simp [h1, h2]⟩
      have hst : ((List.range (k + 1)).all fun k => !(hasR (r0 :: R') all k && !hasR (r0 :: R') l k)) = !(hasR (r0 :: R') all k && !hasR (r0 :: R') l k) := by
        rw [List.range_succ, List.all_append, hs]; simp
      generalize hasR (r0 :: R') all k = p at hp hF hst
      generalize hasR (r0 :: R') l k = q at hq hF hst
      clear hs hw hR ha hl
      cases p with
      | false =>
        cases q with
        | false =>
          clear hF
          repeat' first | with_reducible refine AW_seq ?_ | with_reducible refine AW_block ?_ | ((first | with_reducible refine AW_skip ?_ | with_reducible refine AW_exit ?_ | with_reducible refine AW_ret ?_ | with_reducible refine AW_region hTt ?_ | fail); conv => whnf) | (exfalso; simp [hr0] at hb; omega) | ((first | with_reducible refine Exists.intro _ (And.intro (gd_any (And.intro (by omega) h00)) ?_) | refine And.intro ?_ ?_; focus (first | (exact trivial) | (intro h1; exact h1) | (intro h1 h2; simp_all; done) | (intro h1 h2; exact h1)) | ((refine ⟨_, hp, ?_⟩); (rintro _ _ ⟨rfl, rfl⟩)) | refine ⟨_, fun _ => hq, ?_⟩ | fail); conv => whnf) | (refine AW_cond rfl (fun hb => absurd hb (by decide)) (fun _ => ?_)) | (refine AW_cond rfl (fun hb => ?_) (fun hb => ?_) <;> first | (replace hb := of_decide_eq_true hb; try simp only [List.length_map] at hb) | (replace hb := of_decide_eq_false hb; try simp only [List.length_map] at hb) | (simp only [List.length_map, bne_iff_ne, ne_eq, beq_iff_eq, bne_eq_false_iff_eq, beq_eq_false_iff_ne, decide_eq_true_eq, decide_eq_false_iff_not, Bool.not_eq_true', Bool.not_eq_false', Int.natCast_inj] at hb)) | ((first | refine ⟨_, wrap_of (by first | omega | (simp only [List.length_map]; omega)), ?_⟩ | refine andA ?_ | fail); conv => whnf) | (refine fun hln => ?_; (try rw [List.length_map] at hln); unfold maxLen at hln; conv => whnf) | fail
          exact ⟨k + 1, ⟨hkm, hst⟩, by omega, impA⟩
        | true =>
          clear hF
          repeat' first | with_reducible refine AW_seq ?_ | with_reducible refine AW_block ?_ | ((first | with_reducible refine AW_skip ?_ | with_reducible refine AW_exit ?_ | with_reducible refine AW_ret ?_ | with_reducible refine AW_region hTt ?_ | fail); conv => whnf) | (exfalso; simp [hr0] at hb; omega) | ((first | with_reducible refine Exists.intro _ (And.intro (gd_any (And.intro (by omega) h00)) ?_) | refine And.intro ?_ ?_; focus (first | (exact trivial) | (intro h1; exact h1) | (intro h1 h2; simp_all; done) | (intro h1 h2; exact h1)) | ((refine ⟨_, hp, ?_⟩); (rintro _ _ ⟨rfl, rfl⟩)) | refine ⟨_, fun _ => hq, ?_⟩ | fail); conv => whnf) | (refine AW_cond rfl (fun hb => absurd hb (by decide)) (fun _ => ?_)) | (refine AW_cond rfl (fun hb => ?_) (fun hb => ?_) <;> first | (replace hb := of_decide_eq_true hb; try simp only [List.length_map] at hb) | (replace hb := of_decide_eq_false hb; try simp only [List.length_map] at hb) | (simp only [List.length_map, bne_iff_ne, ne_eq, beq_iff_eq, bne_eq_false_iff_eq, beq_eq_false_iff_ne, decide_eq_true_eq, decide_eq_false_iff_not, Bool.not_eq_true', Bool.not_eq_false', Int.natCast_inj] at hb)) | ((first | refine ⟨_, wrap_of (by first | omega | (simp only [List.length_map]; omega)), ?_⟩ | refine andA ?_ | fail); conv => whnf) | (refine fun hln => ?_; (try rw [List.length_map] at hln); unfold maxLen at hln; conv => whnf) | fail
          exact ⟨k + 1, ⟨hkm, hst⟩, by omega, impA⟩
      | true =>
        cases q with
        | false =>
          rw [hF rfl rfl]
          clear hst hF
          repeat' first | with_reducible refine AW_seq ?_ | with_reducible refine AW_block ?_ | ((first | with_reducible refine AW_skip ?_ | with_reducible refine AW_exit ?_ | with_reducible refine AW_ret ?_ | with_reducible refine AW_region hTt ?_ | fail); conv => whnf) | (exfalso; simp [hr0] at hb; omega) | ((first | with_reducible refine Exists.intro _ (And.intro (gd_any (And.intro (by omega) h00)) ?_) | refine And.intro ?_ ?_; focus (first | (exact trivial) | (intro h1; exact h1) | (intro h1 h2; simp_all; done) | (intro h1 h2; exact h1)) | ((refine ⟨_, hp, ?_⟩); (rintro _ _ ⟨rfl, rfl⟩)) | refine ⟨_, fun _ => hq, ?_⟩ | fail); conv => whnf) | (refine AW_cond rfl (fun _ => ?_) (fun hb => absurd hb (by decide))) | (refine AW_cond rfl (fun hb => ?_) (fun hb => ?_) <;> first | (replace hb := of_decide_eq_true hb; try simp only [List.length_map] at hb) | (replace hb := of_decide_eq_false hb; try simp only [List.length_map] at hb) | (simp only [List.length_map, bne_iff_ne, ne_eq, beq_iff_eq, bne_eq_false_iff_eq, beq_eq_false_iff_ne, decide_eq_true_eq, decide_eq_false_iff_not, Bool.not_eq_true', Bool.not_eq_false', Int.natCast_inj] at hb)) | ((refine andA ?_); conv => whnf) | (refine fun hln => ?_; (try rw [List.length_map] at hln); unfold maxLen at hln; conv => whnf) | fail
          exact ⟨_, sgH (r0 :: R') all, ⟨rfl, rfl, rfl, trivial⟩, rfl, rfl, rfl, rfl⟩
        | true =>
          clear hF
          repeat' first | with_reducible refine AW_seq ?_ | with_reducible refine AW_block ?_ | ((first | with_reducible refine AW_skip ?_ | with_reducible refine AW_exit ?_ | with_reducible refine AW_ret ?_ | with_reducible refine AW_region hTt ?_ | fail); conv => whnf) | (exfalso; simp [hr0] at hb; omega) | ((first | with_reducible refine Exists.intro _ (And.intro (gd_any (And.intro (by omega) h00)) ?_) | refine And.intro ?_ ?_; focus (first | (exact trivial) | (intro h1; exact h1) | (intro h1 h2; simp_all; done) | (intro h1 h2; exact h1)) | ((refine ⟨_, hp, ?_⟩); (rintro _ _ ⟨rfl, rfl⟩)) | refine ⟨_, fun _ => hq, ?_⟩ | fail); conv => whnf) | (refine AW_cond rfl (fun hb => absurd hb (by decide)) (fun _ => ?_)) | (refine AW_cond rfl (fun hb => ?_) (fun hb => ?_) <;> first | (replace hb := of_decide_eq_true hb; try simp only [List.length_map] at hb) | (replace hb := of_decide_eq_false hb; try simp only [List.length_map] at hb) | (simp only [List.length_map, bne_iff_ne, ne_eq, beq_iff_eq, bne_eq_false_iff_eq, beq_eq_false_iff_ne, decide_eq_true_eq, decide_eq_false_iff_not, Bool.not_eq_true', Bool.not_eq_false', Int.natCast_inj] at hb)) | ((first | refine ⟨_, wrap_of (by first | omega | (simp only [List.length_map]; omega)), ?_⟩ | refine andA ?_ | fail); conv => whnf) | (refine fun hln => ?_; (try rw [List.length_map] at hln); unfold maxLen at hln; conv => whnf) | fail
          exact ⟨k + 1, ⟨hkm, hst⟩, by omega, impA⟩
    · have hke : k = m := by omega
      subst hke
      rw [show holdsR (r0 :: R') all k l = true from hs]
      repeat' first | with_reducible refine AW_seq ?_ | with_reducible refine AW_block ?_ | ((first | with_reducible refine AW_skip ?_ | with_reducible refine AW_exit ?_ | with_reducible refine AW_ret ?_ | with_reducible refine AW_region hTt ?_ | fail); conv => whnf) | (exfalso; simp [hr0] at hb; done) | ((first | with_reducible refine Exists.intro _ (And.intro (gd_any (And.intro (by omega) h00)) ?_) | refine And.intro ?_ ?_; focus (first | (exact trivial) | (intro h1; exact h1) | (intro h1 h2; simp_all; done) | (intro h1 h2; exact h1)) | fail); conv => whnf) | (refine AW_cond rfl (fun hb => ?_) (fun hb => ?_) <;> first | (replace hb := of_decide_eq_true hb; try simp only [List.length_map] at hb) | (replace hb := of_decide_eq_false hb; try simp only [List.length_map] at hb) | (simp only [List.length_map, bne_iff_ne, ne_eq, beq_iff_eq, bne_eq_false_iff_eq, beq_eq_false_iff_ne, decide_eq_true_eq, decide_eq_false_iff_not, Bool.not_eq_true', Bool.not_eq_false', Int.natCast_inj] at hb)) | ((refine andA ?_); conv => whnf) | (refine fun hln => ?_; (try rw [List.length_map] at hln); unfold maxLen at hln; conv => whnf) | fail
      exact ⟨_, sgH (r0 :: R') all, ⟨rfl, rfl, rfl, trivial⟩, rfl, rfl, rfl, rfl⟩
end Go.Proofs.YtfghooojingdhaaDoor
namespace Go.QL
open Go Go.RowKit
def FzSV (c sz st : Nat) (xs : List (List PV)) (s s' : SV) : Prop := s = s' ∨ ∃ n, s = .o c st n ∧ n ≤ xs.length ∧ s' = .d (.s sz (xs.take n))
def FzCells (c sz st : Nat) (xs : List (List PV)) : List SV → List SV → Prop
  | [], [] => True
  | s :: r, s' :: r' => FzSV c sz st xs s s' ∧ FzCells c sz st xs r r'
  | _, _ => False
def FzOb (c sz st : Nat) (xs : List (List PV)) (o o' : Ob) : Prop := o = o' ∨ ∃ cs cs', o = .box cs ∧ o' = .box cs' ∧ FzCells c sz st xs cs cs'
def FzS (c sz st : Nat) (xs : List (List PV)) (σ : Sg) : Sg → Prop
  | [] => True
  | (i, o') :: r => (∃ o, lk i σ = some o ∧ FzOb c sz st xs o o') ∧ FzS c sz st xs σ r
theorem FzS_ok {c sz st : Nat} {xs : List (List PV)} {σ : Sg} : ∀ {σ' : Sg}, FzS c sz st xs σ σ' → ∀ t v', lk t σ' = some v' → ∃ v, lk t σ = some v ∧ FzOb c sz st xs v v'
  | [], _, t, v, h => by cases h
  | (s, x) :: r, hs, t, v, h => by
    rw [lk_cons] at h
    by_cases e : s = t
    · subst e; rw [if_pos rfl] at h; cases h; exact hs.1
    · rw [if_neg e] at h; exact FzS_ok hs.2 t v h
theorem FzCells_get {c sz st : Nat} {xs : List (List PV)} : ∀ {cs cs' : List SV}, FzCells c sz st xs cs cs' → cs.length = cs'.length ∧ ∀ (i : Nat) (s' : SV), cs'[i]? = some s' → ∃ s, cs[i]? = some s ∧ FzSV c sz st xs s s'
  | [], [], _ => ⟨rfl, fun i s h => by simp at h⟩
  | s :: r, s' :: r', h => by
    obtain ⟨h1, h2⟩ := FzCells_get h.2
    refine ⟨by simp [h1], fun i x hx => ?_⟩
    cases i with
    | zero => cases hx; exact ⟨s, rfl, h.1⟩
    | succ i => exact h2 i x hx
  | [], _ :: _, h => h.elim
  | _ :: _, [], h => h.elim
section
variable {P : Program} {Γ : Cx} {fr fr' : Fr} {σ σ' : Sg} {g : Gh} {a : Act} {w : World} {Q : Exit → Fr → Sg → Prop}
theorem Imp.freezeB {fr' : Fr} {σ' : Sg} (c : Nat) {ce sz st : Nat} {xs : List (List PV)} (hc : lk c σ = some (.chain ce sz st xs)) (hf : FzF c sz st xs fr fr') (hs : FzS c sz st xs σ σ') (hn : lk c σ' = none)
    (hr : (rsFr σ' fr' && rsSg σ' σ') = true) (hB : idsIn Γ.ids σ' = true := by rfl) (hD : dfsIn Γ.dfs σ σ' = true := by rfl) : Imp Γ fr σ fr' σ' := by
  intro g a w hrel
  simp only [Bool.and_eq_true] at hr
  let K' : Nat → Nat → Prop := fun b o => g.K b o ∨ (blk (g.μ c) = some b ∧ b < w.heap.size)
  let g' : Gh := ⟨K', g.μ⟩
  have hext : Ext g.K w K' w := ⟨fun _ _ h => .inl h, fun _ _ _ => rfl⟩
  have hbox : ∀ i cs, lk i σ = some (.box cs) → (lk i σ').isSome → ∃ cs', lk i σ' = some (.box cs') := by
    intro i cs hi hi'
    obtain ⟨o', ho'⟩ := Option.isSome_iff_exists.1 hi'
    obtain ⟨o, ho, hnl⟩ := FzS_ok hs i o' ho'
    rw [hi] at ho; cases ho
    rcases hnl with rfl | ⟨cs1, cs', h1, h2, _⟩
    · exact ⟨cs, ho'⟩
    · exact ⟨cs', by rw [ho', h2]⟩
  have hch : ∀ i e0 sz0 st xs, lk i σ = some (.chain e0 sz0 st xs) → (lk i σ').isSome → lk i σ' = some (.chain e0 sz0 st xs) := by
    intro i e0 sz0 st xs hi hi'
    obtain ⟨o', ho'⟩ := Option.isSome_iff_exists.1 hi'
    obtain ⟨o, ho, hnl⟩ := FzS_ok hs i o' ho'
    rw [hi] at ho; cases ho
    rcases hnl with rfl | ⟨cs1, cs', h1, _⟩
    · exact ho'
    · cases h1
  have hoth : ∀ i o, lk i σ = some (.x o) → (lk i σ').isSome → lk i σ' = some (.x o) := by
    intro i o hi hi'
    obtain ⟨o', ho'⟩ := Option.isSome_iff_exists.1 hi'
    obtain ⟨o1, ho, hnl⟩ := FzS_ok hs i o' ho'
    rw [hi] at ho; cases ho
    rcases hnl with rfl | ⟨cs1, cs', h1, _⟩
    · exact ho'
    · cases h1
  have sr1 : ∀ s v, rs1 σ' s = true → SR σ g w s v → SR σ' g' w s v := by
    intro s v hrs hv
    have up : ∀ i, (lk i σ).isSome → (lk i σ').isSome = true → (lk i σ').isSome ∧ g'.μ i = g.μ i := fun i hi hi' => by
      exact ⟨hi', rfl⟩
    cases hv with
    | d x v h => exact .d x v (h.mono hext)
    | old c0 st n e0 sz0 st' xs v hl hlt h1 =>
      have hs0 : (lk c0 σ).isSome := by rw [hl]; rfl
      obtain ⟨h2, h3⟩ := up c0 hs0 hrs
      exact .old c0 st n e0 sz0 st' xs v (hch _ _ _ _ _ hl h2) hlt h1
    | o c0 st n e0 sz0 xs a cap hl hn hμ =>
      have hs0 : (lk c0 σ).isSome := by rw [hl]; rfl
      obtain ⟨h2, h3⟩ := up c0 hs0 hrs
      exact .o c0 st n e0 sz0 xs a cap (hch _ _ _ _ _ hl h2) hn (by rw [h3, hμ])
    | b id off cs k hl hμ =>
      have hs0 : (lk id σ).isSome := by rw [hl]; rfl
      obtain ⟨h2, h3⟩ := up id hs0 hrs
      obtain ⟨cs', hcs'⟩ := hbox _ _ hl h2
      exact .b id off cs' k (hcs') (by rw [h3, hμ])
    | se e off k l vs h1 h2 h3 => exact .se e off k l vs (fun j hj => .inl (h1 j hj)) h2 (fun j x hj => (h3 j x hj).mono hext)
    | oeold c0 st i off e0 sz0 st' xs v hl hlt h1 =>
      have hs0 : (lk c0 σ).isSome := by rw [hl]; rfl
      obtain ⟨h2, h3⟩ := up c0 hs0 hrs
      exact .oeold c0 st i off e0 sz0 st' xs v (hch _ _ _ _ _ hl h2) hlt h1
    | oe c0 st i off e0 sz0 xs k cap hl hμ =>
      have hs0 : (lk c0 σ).isSome := by rw [hl]; rfl
      obtain ⟨h2, h3⟩ := up c0 hs0 hrs
      exact .oe c0 st i off e0 sz0 xs k cap (hch _ _ _ _ _ hl h2) (by rw [h3, hμ])
    | f => cases hrs
    | j v h1 => exact .j v h1
    | h id o k hl hμ =>
      have hs0 : (lk id σ).isSome := by rw [hl]; rfl
      obtain ⟨h2, h3⟩ := up id hs0 hrs
      exact .h id o k (hoth _ _ hl h2) (by rw [h3, hμ])
    | sb id off n cap cs k hl hμ hn hcc =>
      have hs0 : (lk id σ).isSome := by rw [hl]; rfl
      obtain ⟨h2, h3⟩ := up id hs0 hrs
      obtain ⟨cs', hcs'⟩ := hbox _ _ hl h2
      exact .sb id off n cap cs' k (hcs') (by rw [h3, hμ]) hn hcc
  have sr : ∀ s v, rsSV σ' s = true → SR σ g w s v → SR σ' g' w s v := by
    intro s v hrs hv
    cases s with
    | f fn a b =>
      simp only [rsSV, Bool.and_eq_true, List.all_eq_true] at hrs
      cases hv with
      | f _ _ _ v1 v2 h1 h2 r1 r2 =>
        exact .f fn a b v1 v2 h1 h2 (fun i s v hi hv => sr1 _ _ (hrs.1 s (List.mem_of_getElem? hi)) (r1 i s v hi hv)) (fun i s v hi hv => sr1 _ _ (hrs.2 s (List.mem_of_getElem? hi)) (r2 i s v hi hv))
    | d x => exact sr1 _ _ hrs hv
    | o c st n => exact sr1 _ _ hrs hv
    | b id off => exact sr1 _ _ hrs hv
    | se e off => exact sr1 _ _ hrs hv
    | oe c st i off => exact sr1 _ _ hrs hv
    | j => exact sr1 _ _ hrs hv
    | h id => exact sr1 _ _ hrs hv
    | sb id off n cap => exact sr1 _ _ hrs hv
  have srfz : ∀ n v, n ≤ xs.length → SR σ g w (.o c st n) v → SR σ' g' w (.d (.s sz (xs.take n))) v := fun n v hn hv =>
    Imp.freeze.freeze_one (a := { a with tmps := #[v] }) (t := 0) (σ' := σ') hrel.hp hc hn hv
  have vr1 : ∀ x v, rsAV1 σ' x = true → VR1 σ g w x v → VR1 σ' g' w x v := by
    intro x v hrs hv
    cases x with
    | x s => exact sr _ _ hrs hv
    | a cs =>
      obtain ⟨vs, rfl, hl, hr⟩ := hv
      simp only [rsAV1, List.all_eq_true] at hrs
      exact ⟨vs, rfl, hl, fun i s u hi hu => sr _ _ (hrs s (List.mem_of_getElem? hi)) (hr i s u hi hu)⟩
    | _ => exact hv.elim
  have vr2 : ∀ x v, rsAV2 σ' x = true → VR2 σ g w x v → VR2 σ' g' w x v := by
    intro x v hrs hv
    cases x with
    | t xs =>
      obtain ⟨vs, rfl, hl, hr⟩ := hv
      simp only [rsAV2, List.all_eq_true] at hrs
      exact ⟨vs, rfl, hl, fun i s u hi hu => vr1 _ _ (hrs s (List.mem_of_getElem? hi)) (hr i s u hi hu)⟩
    | x s => exact vr1 (.x s) _ hrs hv
    | a cs => exact vr1 (.a cs) _ hrs hv
    | g _ _ => exact hv.elim
  have vr : ∀ x v, rsAV σ' x = true → VR σ g w x v → VR σ' g' w x v := by
    intro x v hrs hv
    cases x with
    | g c0 y => exact ⟨fun hc0 => vr2 _ _ hrs (hv.1 hc0), hv.2⟩
    | x s => exact vr2 (.x s) _ hrs hv
    | a cs => exact vr2 (.a cs) _ hrs hv
    | t xs => exact vr2 (.t xs) _ hrs hv
  have upI : ∀ i, (lk i σ).isSome → i ∈ Γ.ids → (lk i σ').isSome ∧ g'.μ i = g.μ i := fun i hi hi' => ⟨idsIn_ok hB hi', rfl⟩
  have srI : ∀ s v, SR σ g w s v → InI Γ.ids s → SR σ' g' w s v := by
    intro s v hv
    induction hv with
    | d x v h => exact fun _ => .d x v (h.mono hext)
    | old c0 st n e0 sz0 st' xs v hl hlt h1 =>
      intro h; cases h with
      | o _ _ _ h =>
        have hs0 : (lk c0 σ).isSome := by rw [hl]; rfl
        obtain ⟨h2, h3⟩ := upI c0 hs0 h
        exact .old c0 st n e0 sz0 st' xs v (hch _ _ _ _ _ hl h2) hlt h1
    | o c0 st n e0 sz0 xs a cap hl hn hμ =>
      intro h; cases h with
      | o _ _ _ h =>
        have hs0 : (lk c0 σ).isSome := by rw [hl]; rfl
        obtain ⟨h2, h3⟩ := upI c0 hs0 h
        exact .o c0 st n e0 sz0 xs a cap (hch _ _ _ _ _ hl h2) hn (by rw [h3, hμ])
    | b id off cs k hl hμ =>
      intro h; cases h with
      | b _ _ h =>
        have hs0 : (lk id σ).isSome := by rw [hl]; rfl
        obtain ⟨h2, h3⟩ := upI id hs0 h
        obtain ⟨cs', hcs'⟩ := hbox _ _ hl h2
        exact .b id off cs' k (hcs') (by rw [h3, hμ])
    | se e off k l vs h1 h2 h3 => exact fun _ => .se e off k l vs (fun j hj => .inl (h1 j hj)) h2 (fun j x hj => (h3 j x hj).mono hext)
    | oeold c0 st i off e0 sz0 st' xs v hl hlt h1 =>
      intro h; cases h with
      | oe _ _ _ _ h =>
        have hs0 : (lk c0 σ).isSome := by rw [hl]; rfl
        obtain ⟨h2, h3⟩ := upI c0 hs0 h
        exact .oeold c0 st i off e0 sz0 st' xs v (hch _ _ _ _ _ hl h2) hlt h1
    | oe c0 st i off e0 sz0 xs k cap hl hμ =>
      intro h; cases h with
      | oe _ _ _ _ h =>
        have hs0 : (lk c0 σ).isSome := by rw [hl]; rfl
        obtain ⟨h2, h3⟩ := upI c0 hs0 h
        exact .oe c0 st i off e0 sz0 xs k cap (hch _ _ _ _ _ hl h2) (by rw [h3, hμ])
    | f fn a b v1 v2 h1 h2 _ _ ih1 ih2 =>
      intro h
      cases h with
      | f _ _ _ k1 k2 => exact .f fn a b v1 v2 h1 h2 (fun i s v hi hv => ih1 i s v hi hv (k1 s (List.mem_of_getElem? hi))) (fun i s v hi hv => ih2 i s v hi hv (k2 s (List.mem_of_getElem? hi)))
    | j v h1 => exact fun _ => .j v h1
    | h id o k hl hμ =>
      intro h; cases h with
      | h _ h =>
        have hs0 : (lk id σ).isSome := by rw [hl]; rfl
        obtain ⟨h2, h3⟩ := upI id hs0 h
        exact .h id o k (hoth _ _ hl h2) (by rw [h3, hμ])
    | sb id off n cap cs k hl hμ hn hcc =>
      intro h; cases h with
      | sb _ _ _ _ h =>
        have hs0 : (lk id σ).isSome := by rw [hl]; rfl
        obtain ⟨h2, h3⟩ := upI id hs0 h
        obtain ⟨cs', hcs'⟩ := hbox _ _ hl h2
        exact .sb id off n cap cs' k (hcs') (by rw [h3, hμ]) hn hcc
  have ins : ∀ i, (lk i σ').isSome → (lk i σ).isSome := fun i hi => by
    obtain ⟨o', ho'⟩ := Option.isSome_iff_exists.1 hi
    obtain ⟨o, ho, _⟩ := FzS_ok hs i o' ho'
    rw [ho]; rfl
  have hap : ∀ i, (lk i σ').isSome → ∀ b, blk (g.μ i) = some b → blk (g.μ c) ≠ some b := by
    intro i hi b hb hb'
    have := hrel.hp.inj i c b (ins i hi) (by rw [hc]; rfl) hb hb'
    subst this; rw [hn] at hi; cases hi
  have hK : ∀ id ob b, lk id σ' = some ob → blk (g.μ id) = some b → (∀ o, ¬ g.K b o) → ∀ o, ¬ K' b o :=
    fun id ob b hid hb hk o h => h.elim (hk o) (fun h => hap id (by rw [hid]; rfl) b hb h.1)
  refine ⟨g', ⟨⟨hrel.hp.kept, hrel.hp.flt, hrel.hp.ext.trans hext, ?_, ?_, ?_, fun i b hi hb => hrel.hp.own i b (ins i hi) hb, fun i j b hi hj => hrel.hp.inj i j b (ins i hi) (ins j hj)⟩, ?_, hrel.size,
    hrel.defers.map (fun i d hi hl hμ => ⟨hoth _ _ hl (dfsIn_ok hD hi hl ▸ rfl), hμ⟩), fun s v hb => ⟨srI _ _ (hrel.base s v hb).1 (hrel.base s v hb).2, (hrel.base s v hb).2⟩⟩⟩
  · intro b o hb hk
    rcases hk with hk | ⟨hk, _⟩
    · exact hrel.hp.old b o hb hk
    · exact absurd hb (hrel.hp.own c b (by rw [hc]; rfl) hk)
  · intro b o hk
    rcases hk with hk | ⟨_, hk⟩
    · exact hrel.hp.val b o hk
    · exact hk
  · intro id ob hid
    obtain ⟨o, ho, hnl⟩ := FzS_ok hs id ob hid
    have hO := hrel.hp.obs id o ho
    cases ob with
    | x o1 =>
      have : o = .x o1 := by
        rcases hnl with h | ⟨cs1, cs', _, h2, _⟩
        · exact h
        · cases h2
      subst this
      have hrb := rsSg_get hr.2 _ _ hid
      obtain ⟨b, k1, k2, k3, k4⟩ := hO
      refine ⟨b, k1, k2, ?_, hK _ _ b hid (by rw [k1]; rfl) k4⟩
      cases o1 with
      | map kt kvs => obtain ⟨es, h1, h2, h3, h4⟩ := k3; exact ⟨es, h1, h2, fun i k x hi => let ⟨e, a, c, d, f⟩ := h3 i k x hi; ⟨e, a, c, d, vr1 _ _ (rsAV1_dat (h4.2.2 i k x hi)) f⟩, h4⟩
      | mapIter m since seen last =>
        cases m with
        | some m => obtain ⟨mb, h1, h2⟩ := k3; exact ⟨mb, h1, sr1 (.h m) _ hrb h2⟩
        | none => exact k3
      | strIter s pos => exact k3
      | loop st pend params assign body nt fr dfr =>
        simp only [rsOb, rsO2, Bool.and_eq_true] at hrb
        obtain ⟨f, tmps, d, h1, h2, h3, h4⟩ := k3
        exact ⟨f, tmps, d, h1, h2, fun t v ht => ⟨(h3 t v ht).1, vr _ _ (rsFr_get hrb.1 t v ht) (h3 t v ht).2⟩, sr1 (.h dfr) _ hrb.2 h4⟩
      | dfr => exact k3
    | chain e0 sz0 st0 xs0 =>
      have : o = .chain e0 sz0 st0 xs0 := by
        rcases hnl with h | ⟨cs1, cs', _, h2, _⟩
        · exact h
        · cases h2
      subst this
      obtain ⟨vs, h1, h2, h3, h4, h5⟩ := hO
      exact ⟨vs, h1, h2, h3, fun i x hi j p hp => let ⟨v, q, r⟩ := h4 i x hi j p hp; ⟨v, q, r.mono hext⟩, fun b hb => hK _ _ b hid hb (h5 b hb)⟩
    | box cs' =>
      have hrb := rsSg_get hr.2 _ _ hid
      simp only [rsOb, List.all_eq_true] at hrb
      rcases hnl with h | ⟨cs, cs1, h1, h2, h3⟩
      · subst h
        obtain ⟨b, vs, T, k1, k2, k3, k4, k5, k6⟩ := hO
        exact ⟨b, vs, T, k1, k2, k3, k4, fun i s hi => let ⟨v, p, q⟩ := k5 i s hi; ⟨v, p, sr _ _ (hrb s (List.mem_of_getElem? hi)) q⟩, hK _ _ b hid (by rw [k1]; rfl) k6⟩
      · subst h1; cases h2
        obtain ⟨b, vs, T, k1, k2, k3, k4, k5, k6⟩ := hO
        obtain ⟨hl, hg⟩ := FzCells_get h3
        refine ⟨b, vs, T, k1, k2, k3, by rw [k4, hl], fun i s hi => ?_, hK _ _ b hid (by rw [k1]; rfl) k6⟩
        obtain ⟨s0, hs0, hnl0⟩ := hg i s hi
        obtain ⟨v, p, q⟩ := k5 i s0 hs0
        refine ⟨v, p, ?_⟩
        rcases hnl0 with rfl | ⟨n, rfl, hn1, rfl⟩
        · exact sr _ _ (hrb _ (List.mem_of_getElem? hi)) q
        · exact srfz _ _ hn1 q
  · intro t v' ht
    obtain ⟨v, hv, hnl⟩ := FzF_ok hf t v' ht
    obtain ⟨hlt, hvr⟩ := hrel.fr t v hv
    refine ⟨hlt, ?_⟩
    rcases hnl with rfl | ⟨n, rfl, hn1, rfl⟩
    · exact vr _ _ (rsFr_get hr.1 t v ht) hvr
    · exact srfz _ _ hn1 hvr
end
end Go.QL
namespace Go.Proofs.YtfghooojingdhaaDoor
open Go Go.QL
set_option maxHeartbeats 3200000
attribute [local irreducible] ACall FnC YC
abbrev sgF (R : List (List Bool)) (all : List Int) : Sg := (950, .box [.d (.v (.int .i64 R.length))]) :: sgH R all
abbrev frX : Fr := [(5, .x (.f (.func 105) [] [.b 950 0])), (4, .x (.b 4 0)), (3, .x (.b 3 0))]
abbrev sgX (asg bdy : Code) (go : Bool) (x : PV) (many : Nat) (rows al : PV) : Sg :=
  [(930, .x (bif go then .loop .ready none #[6] asg bdy 11 frX 931 else .loop .done (some (.exit 0)) #[6] asg bdy 11 frX 931)), (931, .x .dfr), (4, .box [.d x]), (3, .box [.f (.func 102) [] [.b 940 0, .b 941 0, .b 942 0]]),
    (950, .box [.d (.v (.int .i64 many))]), (940, .box [.d rows]), (941, .box [.f (.func 98) [] [.b 940 0]]), (942, .box [.d al])]
theorem choices1_fr {asg bdy : Code} {H : List Int → Bool} {many : Nat} {rows al : PV} (hm : many ≤ 100)
    (hy : ∀ (s : Nat) (x : PV) (l : List Int), (∀ i ∈ l, 0 ≤ i ∧ i < many) → YC Tryd.prog 930 [sl l] (sgG asg bdy s true x many rows al) (fun r σ' => r = bv (!H l) ∧ σ' = sgG asg bdy s (!H l) (intsPV l) many rows al)) (x : PV) :
    ACall Tryd.prog 105 [.x (.h 930), .x (.b 950 0)] (sgX asg bdy true x many rows al)
      (fun r σ' => r = .t [] ∧ σ' = sgX asg bdy (goC H (allL many) x).1 (goC H (allL many) x).2 many rows al) := by
  refine ((choices1_fn hm hy x).frame (σ := sgX asg bdy true x many rows al) (asc [(963, 3), (964, 4)]) (by repeat (first | exact trivial | refine ⟨rfl, ?_⟩)) rfl ?_).mono ?_
  · rintro _ _ ⟨rfl, rfl⟩
    generalize goC H (allL many) x = Y
    obtain ⟨go, z⟩ := Y
    cases go <;> rfl
  · rintro _ _ ⟨_, _, ⟨rfl, rfl⟩, rfl, rfl⟩
    refine ⟨rfl, ?_⟩
    generalize goC H (allL many) x = Y
    obtain ⟨go, z⟩ := Y
    cases go <;> rfl
theorem first_fn {R : List (List Bool)} {m : Nat} (hm : m ≤ 4096) (hw : Wide R m) (hR : R = [] → m = 0) (hn : R.length ≤ 100) (all : List Int) (ha : ∀ i ∈ all, 0 ≤ i ∧ i < R.length) :
    ACall Tryd.prog 100 [.x (.f (.func 105) [] [.b 950 0]), .x (.f (.func 102) [] [.b 940 0, .b 941 0, .b 942 0])] (sgF R all)
      (fun r σ' => r = .x (.d (goC (holdsR R all m) (allL R.length) (.v (.slice none 0 0))).2) ∧ σ' = sgF R all) := by
  have hh := fun l hl => holds_fn hm hw hR all l ha hl
  clear hw hR ha
  generalize holdsR R all m = H at hh
  refine ACall_of_AWM hTt [931] Tryd.func100 rfl (by kernel_rfl) (res := [.cell 4 23]) rfl Tryd.ntmps100 (by simp) fun w0 K0 B => ?_
  dsimp only [entry]
  repeat' first | with_reducible refine AW_seq ?_ | with_reducible refine AW_block ?_ | ((with_reducible refine AW_region hTt ?_); conv => whnf) | fail
  refine AW_imp (Imp.forget (fr' := [(5, .x (.f (.func 105) [] [.b 950 0])), (4, .x (.b 4 0)), (3, .x (.b 3 0))]) (σ' := (4, .box [.d (.v (.slice none 0 0))]) :: (3, .box [.f (.func 102) [] [.b 940 0, .b 941 0, .b 942 0]]) :: sgF R all)
    ⟨rfl, rfl, rfl, trivial⟩ ⟨rfl, rfl, rfl, rfl, rfl, rfl, trivial⟩ rfl) ?_
  refine AW_rangeFunc 930 931 rfl rfl rfl (by decide) (by simp) rfl _ (choices1_fr (H := H) (rows := rowsB R) (al := intsPV all) hn ?hy (.v (.slice none 0 0))) ?hk
  case hk =>
    generalize goC H (allL R.length) (.v (.slice none 0 0)) = Y
    obtain ⟨go, z⟩ := Y
    rintro rv σ' ⟨rfl, rfl⟩
    cases go with
    | true =>
      refine ⟨rfl, .ready, none, rfl, by decide, ?_⟩
      dsimp only
      conv => whnf
      repeat' first | with_reducible refine AW_seq ?_ | ((first | with_reducible refine AW_ret ?_ | with_reducible refine AW_region hTt ?_ | fail); conv => whnf) | fail
      exact ⟨[(4, .x (.b 4 0))], (4, .box [.d z]) :: sgF R all, ⟨rfl, trivial⟩, ⟨rfl, rfl, rfl, rfl, rfl, trivial⟩, rfl, .x (.d z), sgF R all, ⟨rfl, rfl, rfl, rfl, trivial⟩, rfl, rfl, rfl, rfl⟩
    | false =>
      refine ⟨rfl, .done, some (.exit 0), rfl, by decide, ?_⟩
      dsimp only
      repeat' first | with_reducible refine AW_seq ?_ | ((first | with_reducible refine AW_exit ?_ | with_reducible refine AW_ret ?_ | with_reducible refine AW_region hTt ?_ | fail); conv => whnf) | fail
      exact ⟨[(4, .x (.b 4 0))], (4, .box [.d z]) :: sgF R all, ⟨rfl, trivial⟩, ⟨rfl, rfl, rfl, rfl, rfl, trivial⟩, rfl, .x (.d z), sgF R all, ⟨rfl, rfl, rfl, rfl, trivial⟩, rfl, rfl, rfl, rfl⟩
  case hy =>
    intro s x l hl
    have hh := hh l hl
    generalize H l = hit at hh
    refine YC_of_AW (pend := none) rfl rfl (by decide) rfl ?_
    intro w0 K0 B b
    dsimp only [bindP]
    repeat' first | ((with_reducible refine AW_region hTt ?_); conv => whnf) | fail
    refine ⟨_, rfl, ?_⟩
    cases hit with
    | true =>
      repeat' first | with_reducible refine AW_seq ?_ | with_reducible refine AW_block ?_ | ((first | with_reducible refine AW_exit ?_ | with_reducible refine AW_region hTt ?_ | ((refine ⟨_, (hh).frame (asc []) (by repeat (first | exact trivial | refine ⟨rfl, ?_⟩)) rfl (by rintro _ _ ⟨rfl, rfl⟩; rfl), ?_⟩); (rintro _ _ ⟨_, _, ⟨rfl, rfl⟩, rfl, rfl⟩)) | fail); conv => whnf) | (refine AW_cond rfl (fun _ => ?_) (fun hb => absurd hb (by decide))) | fail
      refine ⟨setOb 930 (.x (.loop .busy none #[6] ?a ?b 11 frC 931)) (sgG ?a ?b s true (intsPV l) R.length (rowsB R) (intsPV all)), none, ?h1, ?h2, ?h3, ?h4⟩
      case h3 => exact rfl
      case h1 => exact ⟨rfl, rfl, rfl, rfl, rfl, rfl, rfl, rfl, rfl, rfl, rfl, trivial⟩
      case h2 => rfl
      case h4 => exact ⟨rfl, rfl⟩
    | false =>
      repeat' first | with_reducible refine AW_seq ?_ | with_reducible refine AW_block ?_ | ((first | with_reducible refine AW_skip ?_ | with_reducible refine AW_region hTt ?_ | ((refine ⟨_, (hh).frame (asc []) (by repeat (first | exact trivial | refine ⟨rfl, ?_⟩)) rfl (by rintro _ _ ⟨rfl, rfl⟩; rfl), ?_⟩); (rintro _ _ ⟨_, _, ⟨rfl, rfl⟩, rfl, rfl⟩)) | fail); conv => whnf) | (refine AW_cond rfl (fun hb => absurd hb (by decide)) (fun _ => ?_)) | fail
      refine ⟨setOb 930 (.x (.loop .busy none #[6] ?a ?b 11 frC 931)) (sgG ?a ?b s true (intsPV l) R.length (rowsB R) (intsPV all)), none, ?h1, ?h2, ?h3, ?h4⟩
      case h3 => exact rfl
      case h1 => exact ⟨rfl, rfl, rfl, rfl, rfl, rfl, rfl, rfl, rfl, rfl, rfl, trivial⟩
      case h2 => rfl
      case h4 => exact ⟨rfl, rfl⟩
end Go.Proofs.YtfghooojingdhaaDoor
