/- GateMore: a further gate at the end, which is no output, changes nothing. Condition: what the arguments read as is of bulk at most 1048576. -/
import Derived.Test.YtfghooojingdhaaDoorMMoreW0
import Derived.Test.YtfghooojingdhaaDoorCm
set_option linter.all false
namespace Go.Proofs.YtfghooojingdhaaDoor
open Go Go.QL Go.RowKit
theorem FnC_at {P : Program} {fid : FuncId} {avs : List AV} (hF : FnC P fid avs (.x (.d (.v (.bool true))))) (W : World) (args : Array Value) (hsz : args.size = avs.length) (hav : ∀ (i : Nat) (x : AV) (v : Value), avs[i]? = some x → args[i]? = some v → ArgOK W x v) :
    Calls P fid args W fun e W' => ∃ v, e = .returned v ∧ Below W.heap.size W W' ∧ v = .bool true := by
  refine (hF.2 (fun b _ => b < W.heap.size) W args (fun b o h => h) hsz hav).mono fun e W' ⟨v, K', he, hb, _, _, _, hr'⟩ => ?_
  refine ⟨v, he, hb, ?_⟩
  have h1 : SR [] ⟨K', fun _ => undef⟩ W' (.d (.v (.bool true))) v := hr'
  cases h1 with
  | d _ _ h => cases h with
    | v _ _ => rfl
end Go.Proofs.YtfghooojingdhaaDoor
namespace Go.Proofs.YtfghooojingdhaaDoor
open Go Go.QL Go.ChangeShapes Go.WideShapes Go.ChangeAt Go.RowKit Go.Deep
set_option maxHeartbeats 800000
attribute [local irreducible] ACall FnC
theorem bulk_one {H : Type} (d : DataW H) : 1 ≤ Rows.uptoBulk d := by
  cases d with
  | lit l => cases l <;> simp [Rows.uptoBulk]
  | nil => simp [Rows.uptoBulk]
  | ptr d => simp [Rows.uptoBulk]
  | slice elems spare => simp [Rows.uptoBulk]
  | agg parts => simp [Rows.uptoBulk]
  | iface t d => simp [Rows.uptoBulk]
  | map entries => simp [Rows.uptoBulk]
  | held h => simp [Rows.uptoBulk]
theorem bulk_part {H : Type} {d : DataW H} {l : List (DataW H)} (h : d ∈ l) : Rows.uptoBulk d ≤ Rows.uptoBulkAll l := by
  induction l with
  | nil => cases h
  | cons x r ih =>
    simp only [Rows.uptoBulkAll]
    cases List.mem_cons.1 h with
    | inl e => subst e; omega
    | inr e => have := ih e; omega
theorem bulk_len {H : Type} (l : List (DataW H)) : l.length ≤ Rows.uptoBulkAll l := by
  induction l with
  | nil => simp [Rows.uptoBulkAll]
  | cons x r ih => have := bulk_one x; simp only [Rows.uptoBulkAll, List.length_cons]; omega
section
variable {H : Type} {enc : TypeId × Value → H} {P : Program} {w : World} {base : Nat} {sp : Nat → Bool} {held : Bool}
theorem slice_bulk {t e : TypeId} {fuel : Nat} {a : Option Addr} {len cap : Nat} {x : DataW H × List MemPlace} (ht : P.underlying t = some (.slice e)) (h : DataW.trod enc P w base sp held fuel t [.slice a len cap] = some x) : len ≤ Rows.uptoBulk x.1 := by
  rcases open_slice ht h with ⟨h1, rfl⟩ | ⟨a', len', cap', m, n, D, Pl, h1, _, _, _, _, rfl, _⟩
  · cases h1; exact Nat.zero_le _
  · cases h1
    have := bulk_len ((List.range len).map D)
    rw [List.length_map, List.length_range] at this
    simp only [Rows.uptoBulk]
    omega
theorem pr_len {K : Nat → Nat → Prop} {m : Nat} {xs : List (List PV)} {v : Value} (h : PR K w (.s m xs) v) : ∃ a cap, v = .slice a xs.length cap := by
  cases h with
  | s _ _ a cap => exact ⟨a, cap, rfl⟩
theorem agg_lenI {m : Nat} {xs : List (List PV)} {cs : List SV} {v : Value} {t e : TypeId} {fs : Array Field} {f0 : Field} {d : DataW H} {ps : List MemPlace} (i : Nat) (ht : P.underlying t = some (.struct fs)) (hf0 : fs[i]? = some f0) (ho : f0.offset = i) (hc : P.cellsOf f0.type = 1) (he : P.underlying f0.type = some (.slice e))
    (hcs : cs[i]? = some (.d (.s m xs))) (ha : ArgOK w (.a cs) v) (h : DataW.Trod enc P w base sp held t v d ps) : xs.length ≤ Rows.uptoBulk d := by
  have ha' : VR1 [] ⟨fun b _ => b < w.heap.size, fun _ => undef⟩ w (.a cs) v := ha
  obtain ⟨vs, rfl, hsz, hv⟩ := ha'
  have hil : i < vs.size := by rw [hsz]; exact (List.getElem?_eq_some_iff.1 hcs).1
  obtain ⟨u, hu⟩ : ∃ u, vs[i]? = some u := ⟨_, Array.getElem?_eq_getElem hil⟩
  have h1 := hv i _ u hcs hu
  obtain ⟨a, cap, rfl⟩ : ∃ a cap, u = .slice a xs.length cap := by
    cases h1 with
    | d _ _ h => exact pr_len h
  obtain ⟨fuel, hf⟩ := h
  obtain ⟨ys, n, rfl, hx, hl, hlen, hfs⟩ := DataW.trod_struct ht hf
  have h2 := hfs i f0 hf0
  have h3 : (((Value.agg vs).cells.toList.drop f0.offset).take (P.cellsOf f0.type)) = [.slice a xs.length cap] := by
    rw [ho, hc]
    have h4 : (Value.agg vs).cells.toList = vs.toList := rfl
    rw [h4]
    have h5 : vs.toList[i]? = some (.slice a xs.length cap) := by simpa using hu
    have h6 : (vs.toList.drop i)[0]? = some (.slice a xs.length cap) := by rw [List.getElem?_drop]; simpa using h5
    cases hvl : vs.toList.drop i with
    | nil => rw [hvl] at h6; simp at h6
    | cons z zs => rw [hvl] at h6; simp at h6; rw [h6]; rfl
  rw [h3] at h2
  cases hy : ys[i]? with
  | none =>
    have : i < fs.size := by
      rcases Nat.lt_or_ge i fs.size with h | h
      · exact h
      · rw [Array.getElem?_eq_none h] at hf0; cases hf0
    rw [List.getElem?_eq_none_iff] at hy
    omega
  | some y =>
    rw [hy] at h2
    have h6 := slice_bulk he h2
    have h7 : d = .agg (ys.map (·.1)) := congrArg Prod.fst hx
    have h8 := bulk_part (List.mem_map.2 ⟨y, List.mem_of_getElem? hy, rfl⟩ : y.1 ∈ ys.map (·.1))
    rw [h7]
    simp only [Rows.uptoBulk]
    omega
theorem law_contract1 {fid : FuncId} {f : Func} {s : ChangeSpec} {tb : TypeId}
    (hl : laidOutB P = true) (hv : s.vars = []) (hr : f.resultTypes = #[tb]) (htb : P.underlying tb = some .bool) (hts : ∀ t ∈ f.params.toList, P.readableRec t = true ∧ t < P.types.size)
    (hsp : ∀ ds : List (DataW H), ds.length = f.params.size → s.fn H ds = { results := [.lit (.bool true)], args := ds })
    (W : World) (args : Array Value) (ds gs : List (DataW H)) (before : List MemPlace)
    (hopen : ∀ p, DataW.TrodAll enc P W 0 (fun _ => true) true f.params.toList args.toList ds p →
      ∃ avs : List AV, FnC P fid avs (.x (.d (.v (.bool true)))) ∧ args.size = avs.length ∧ ∀ (i : Nat) (x : AV) (v : Value), avs[i]? = some x → args[i]? = some v → ArgOK W x v)
    (hW : DataW.Whole enc P f.params.toList s.vars false W args.toList ds gs before) :
    Calls P fid args W fun e W' => ∃ v, e = .returned v ∧ s.post enc P f false true false false W args v W' := by
  have hW' := hW
  obtain ⟨p, q, hA, hV, rfl, _, _⟩ := hW
  obtain ⟨avs, hF, hsz, hav⟩ := hopen p hA
  have hF2 := (show FnC P fid avs (.x (.d (.v (.bool true)))) from hF)
  refine (FnC_at hF2 W args hsz hav).mono fun e W' ⟨v, he, hb, hr'⟩ => ?_
  subst hr'
  exact ⟨_, he, law_post hl hv hr htb hts (hsp ds) hW' hb⟩
end
end Go.Proofs.YtfghooojingdhaaDoor
namespace Go.Proofs.YtfghooojingdhaaDoor.gateMore
open Go Go.QL Go.ChangeShapes Go.WideShapes Go.ChangeAt Go.RowKit
set_option maxHeartbeats 1600000
set_option maxRecDepth 100000
attribute [local irreducible] ACall FnC
def Contract : Prop := ∀ (n0 : NetT) (g1 : GateT) (xs2 : List Int), (i64 n0.inn) → (∀ x ∈ xs2, i64 x) → n0.gates.length ≤ 1048576 → FnC Tryd.prog 8 [netAV n0, gateAV g1, sl xs2] (bv true)
theorem opened (hf : Contract) (H : Type) (enc : TypeId × Value → H) (W : World) (base : Nat) (args : Array Value) (ds : List (DataW H)) (p : List MemPlace)
    (hval : ∀ (j : Nat) t v, Tryd.f8.params[j]? = some t → args[j]? = some v → Value.okWide Tryd.prog W .any base t v)
    (hA : DataW.TrodAll enc Tryd.prog W 0 (fun _ => true) true Tryd.f8.params.toList args.toList ds p) (hbk : Rows.uptoBulkAll ds ≤ 1048576) :
    ∃ avs : List AV, FnC Tryd.prog 8 avs (bv true) ∧ args.size = avs.length ∧ ∀ (i : Nat) (x : AV) (v : Value), avs[i]? = some x → args[i]? = some v → ArgOK W x v := by
  rw [Tryd.params8] at hA hval
  obtain ⟨v0, vs0, d0, ds0, p0, q0, hargs, rfl, rfl, h0, r0⟩ := trodAll_cons hA
  obtain ⟨v1, vs1, d1, ds1, p1, q1, hvs1, rfl, rfl, h1, r1⟩ := trodAll_cons r0
  obtain ⟨v2, vs2, d2, ds2, p2, q2, hvs2, rfl, rfl, h2, r2⟩ := trodAll_cons r1
  obtain ⟨hend, rfl, rfl⟩ := trodAll_nil r2
  obtain rfl : args = #[v0, v1, v2] := by cases args; simp_all
  obtain ⟨cs0, e0, _⟩ := okWide_struct Tryd.underlying25 (hval 0 25 v0 rfl rfl)
  obtain ⟨pv0, ⟨n0, rfl, hn0⟩, a0⟩ := arg_agg o_net e0 h0
  obtain ⟨cs1, e1, _⟩ := okWide_struct Tryd.underlying51 (hval 1 51 v1 rfl rfl)
  obtain ⟨pv1, ⟨g1, rfl, _⟩, a1⟩ := arg_agg o_gate e1 h1
  obtain ⟨pv2, ⟨xs2, j2, hx2⟩, a2⟩ := arg_one o_ints (one_slice Tryd.underlying23 (hval 2 23 v2 rfl rfl)) h2
  cases j2
  simp only [Rows.uptoBulkAll] at hbk
  have L1 : n0.gates.length ≤ 1048576 := by
    have := agg_lenI (xs := n0.gates.map gPV) 1 Tryd.underlying25 rfl rfl (by kernel_rfl) Tryd.underlying22 rfl a0 h0
    rw [List.length_map] at this
    omega
  refine ⟨[netAV n0, gateAV g1, sl xs2], hf n0 g1 xs2 hn0 hx2 L1, rfl, fun i x v hx hv => ?_⟩
  match i with
  | 0 => cases hx; cases hv; exact a0
  | 1 => cases hx; cases hv; exact a1
  | 2 => cases hx; cases hv; exact a2
  | i + 3 => simp at hx
theorem contract (hf : Contract) (H : Type) (enc : TypeId × Value → H) (W : World) (base : Nat) (args : Array Value) (ds gs : List (DataW H)) (before : List MemPlace)
    (hval : ∀ (j : Nat) t v, Tryd.f8.params[j]? = some t → args[j]? = some v → Value.okWide Tryd.prog W .any base t v)
    (hW : DataW.Whole enc Tryd.prog Tryd.f8.params.toList Rows.gateMoreSpec.vars false W args.toList ds gs before) (hk : Rows.uptoSmall H (ds ++ gs) = true) :
    Calls Tryd.prog 8 args W fun e W' => ∃ v, e = .returned v ∧ Rows.gateMoreSpec.post enc Tryd.prog Tryd.f8 false true false false W args v W' := by
  have hgs : gs = [] := by
    obtain ⟨p, q, _, hV, _, _, _⟩ := hW
    exact (trodVars_none hV).1
  have hbk : Rows.uptoBulkAll ds ≤ 1048576 := by
    rw [hgs, List.append_nil] at hk
    simpa [Rows.uptoSmall] using hk
  exact law_contract1 (tb := 4) laidOut_is rfl rfl Tryd.underlying4
    (by rw [Tryd.params8]; intro t ht; simp only [List.mem_cons, List.not_mem_nil, or_false] at ht; rcases ht with rfl | rfl | rfl <;> exact ⟨by kernel_rfl, of_decide_eq_true (by kernel_rfl)⟩)
    (fun ds hd => by
      rw [Tryd.params8] at hd
      match ds, hd with
      | [d0, d1, d2], _ => rfl)
    W args ds gs before (fun p hA => opened hf H enc W base args ds p hval hA hbk) hW
theorem laid_met (os : Os) : laidMet Tryd.prog Rows.gateMoreUptoRow.laid ((laidWorld os).forCall (fun _ _ => 0) ⟨#[], #[.agg #[.int .i64 0, .slice none 0 0, .slice none 0 0], .agg #[.int .i64 0, .int .i64 0, .int .i64 0], .slice none 0 0], []⟩).memory :=
  laidMet_of_run' 8 (by kernel_rfl) (by kernel_rfl)
theorem reads (os : Os) {H : Type} (enc : TypeId × Value → H) : ∃ places, DataW.whole enc Tryd.prog ((laidWorld os).forCall (fun _ _ => 0) ⟨#[], #[.agg #[.int .i64 0, .slice none 0 0, .slice none 0 0], .agg #[.int .i64 0, .int .i64 0, .int .i64 0], .slice none 0 0], []⟩).memory Tryd.f8.params.toList Rows.gateMoreSpec.vars false (#[.agg #[.int .i64 0, .slice none 0 0, .slice none 0 0], .agg #[.int .i64 0, .int .i64 0, .int .i64 0], .slice none 0 0] : Array Value).toList 8 = some ([.agg [.lit (.int .i64 0), .nil, .nil], .agg [.lit (.int .i64 0), .lit (.int .i64 0), .lit (.int .i64 0)], .nil], [], places) :=
  ⟨[], by kernel_rfl⟩
theorem lifted (hf : Contract) (os : Os) (started : os.Started) (H : Type) (enc : TypeId × Value → H) (F : Stop.Interp) :
    ReturnsInHanded {} Tryd.checked os 8 .any ((Rows.OpenSpec.upto Rows.gateMoreSpec).preRow enc Tryd.prog Tryd.f8 Rows.gateMoreUptoRow.domain false Rows.gateMoreUptoRow.laid) (((Rows.OpenSpec.upto Rows.gateMoreSpec).at F).post enc Tryd.prog Tryd.f8 false true false false) := by
  obtain ⟨places, hx⟩ := reads os enc
  refine returnsInHanded_of_row (C := Tryd.checked) (s := Rows.OpenSpec.upto Rows.gateMoreSpec) ownKnob_is started (by kernel_rfl) Tryd.func8
    (witness_row_at (enc := enc) (C := Tryd.checked) false (laidWorld os) #[.agg #[.int .i64 0, .slice none 0 0, .slice none 0 0], .agg #[.int .i64 0, .int .i64 0, .int .i64 0], .slice none 0 0] rfl (by kernel_rfl) (by kernel_rfl) (by kernel_rfl)
      (OpenSpec.preRow_of_cond 8 hx (by kernel_rfl) (fun k hk => by cases hk; kernel_rfl) (by kernel_rfl) (laid_met os))) ?_
  intro W base args ds gs before hval hW _ hk _ _ _ _
  exact contract hf H enc W base args ds gs before hval hW (hk _ rfl)
theorem said (hf : Contract) : Rows.GateMoreUptoSaid :=
  OpenClaim.holds_of_cond 8 Tryd.f8 rfl rfl rfl rfl rfl rfl rfl ⟨rfl, rfl, rfl, rfl, rfl⟩ rfl rfl rfl rfl rfl (by kernel_rfl) Tryd.func8 (by kernel_rfl)
    (of_decide_eq_true (by kernel_rfl)) (by unfold Func.isWrapper; first | (rw [if_pos (by decide +kernel)]; kernel_rfl) | (rw [if_neg (by decide +kernel)]; exact ⟨rfl, rfl⟩))
    (fun os started H enc _ F => by rw [OpenClaim.pre_eq_preRow]; exact lifted hf os started H enc F)
theorem plain (f : FuncId) (fn : Func) (hf : Tryd.pinned.checked.prog.funcNamed Rows.gateMoreUptoRow.func = some f) (hfn : Tryd.pinned.checked.prog.funcs[f]? = some fn) :
    false = Tryd.pinned.checked.prog.looks [] ∧ ∀ (j : Nat) t, fn.params[j]? = some t → Tryd.pinned.checked.prog.wantsStandIn t = false := by
  obtain rfl : f = 8 := Option.some.inj ((show Tryd.prog.funcNamed Rows.gateMoreUptoRow.func = some 8 by kernel_rfl).symm.trans hf) |>.symm
  obtain rfl : fn = Tryd.f8 := (Option.some.inj (Tryd.func8.symm.trans hfn)).symm
  refine ⟨by kernel_rfl, fun j t ht => ?_⟩
  rw [Tryd.params8] at ht
  have hm := Array.mem_of_getElem? ht
  simp at hm
  rcases hm with rfl | rfl | rfl
  · exact (show Tryd.prog.wantsStandIn 25 = false by kernel_rfl)
  · exact (show Tryd.prog.wantsStandIn 51 = false by kernel_rfl)
  · exact (show Tryd.prog.wantsStandIn 23 = false by kernel_rfl)
theorem card (hf : Contract) : Rows.GateMoreUptoCardSaid :=
  Claim7.holds_tied_plain_at .later [] _ _ _ _ (said hf) (fun _ h => by cases h) (by kernel_rfl) (fun _ h => by cases h) gateMoreUpto_row_tie rfl ⟨rfl, rfl⟩ (by kernel_rfl) rfl plain (by kernel_rfl)
end Go.Proofs.YtfghooojingdhaaDoor.gateMore
namespace Go.Proofs.YtfghooojingdhaaDoor
open Go Go.QL
theorem gateMore_true : Rows.GateMoreUptoCardSaid := gateMore.card fun n g xs hn _ hl => gmore_fn n hn g xs hl
end Go.Proofs.YtfghooojingdhaaDoor
