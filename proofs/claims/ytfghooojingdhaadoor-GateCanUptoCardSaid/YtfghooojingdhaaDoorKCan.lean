/- GateCan: the fault that a net has is one of Can, and -1 is, if there is none; with a further test none is added. Condition: what the arguments read as is of bulk at most 1048576. -/
import Derived.Test.YtfghooojingdhaaDoorKCanW0
import Derived.Test.YtfghooojingdhaaDoorCk
set_option linter.all false
namespace Go.Proofs.YtfghooojingdhaaDoor
open Go Go.QL Go.ChangeShapes Go.WideShapes Go.ChangeAt Go.RowKit
theorem wf_u8 {n : Int} (hw : (Lit.int .u8 n).wf = true) : 0 ≤ n ∧ n < 256 := by
  simp only [Lit.wf, Bool.and_eq_true, decide_eq_true_eq] at hw
  have h1 := hw.1
  have h2 := hw.2
  simp [IntKind.min, IntKind.max, IntKind.signed, IntKind.bits] at h1 h2
  omega
theorem wf_u16 {n : Int} (hw : (Lit.int .u16 n).wf = true) : 0 ≤ n ∧ n < 65536 := by
  simp only [Lit.wf, Bool.and_eq_true, decide_eq_true_eq] at hw
  have h1 := hw.1
  have h2 := hw.2
  simp [IntKind.min, IntKind.max, IntKind.signed, IntKind.bits] at h1 h2
  omega
theorem wf_u32 {n : Int} (hw : (Lit.int .u32 n).wf = true) : 0 ≤ n ∧ n < 4294967296 := by
  simp only [Lit.wf, Bool.and_eq_true, decide_eq_true_eq] at hw
  have h1 := hw.1
  have h2 := hw.2
  simp [IntKind.min, IntKind.max, IntKind.signed, IntKind.bits] at h1 h2
  omega
theorem o_u8 : Opens Tryd.prog 5 1 (fun pv => ∃ n, pv = [.v (.int .u8 n)] ∧ 0 ≤ n ∧ n < 256) := (opens_int Tryd.underlying5).mono fun pv ⟨n, h, hw⟩ => ⟨n, h, wf_u8 hw⟩
theorem o_u16 : Opens Tryd.prog 70 1 (fun pv => ∃ n, pv = [.v (.int .u16 n)] ∧ 0 ≤ n ∧ n < 65536) := (opens_int Tryd.underlying70).mono fun pv ⟨n, h, hw⟩ => ⟨n, h, wf_u16 hw⟩
theorem o_u32 : Opens Tryd.prog 40 1 (fun pv => ∃ n, pv = [.v (.int .u32 n)] ∧ 0 ≤ n ∧ n < 4294967296) := (opens_int Tryd.underlying40).mono fun pv ⟨n, h, hw⟩ => ⟨n, h, wf_u32 hw⟩
theorem o_bytes : Opens Tryd.prog 45 1 (fun pv => ∃ bs : List Int, pv = [.s 1 (bs.map fun n => [.v (.int .u8 n)])] ∧ ∀ x ∈ bs, 0 ≤ x ∧ x < 256) :=
  (opens_slice Tryd.underlying45 (by kernel_rfl) (by decide) o_u8).mono fun pv ⟨xs, h, hx⟩ => by
    obtain ⟨l, rfl, hl⟩ := list_map (F := fun n : Int => [PV.v (.int .u8 n)]) hx
    exact ⟨l, h, hl⟩
end Go.Proofs.YtfghooojingdhaaDoor
namespace Go.Proofs.YtfghooojingdhaaDoor
open Go Go.QL Go.ChangeShapes Go.WideShapes Go.ChangeAt Go.RowKit
set_option maxHeartbeats 800000
attribute [local irreducible] ACall FnC
theorem o_choice : Opens Tryd.prog 72 2 (fun pv => ∃ (ts : List (List Int)) (b : Int), pv = [.s 1 (ts.map fun r => [intsPV r]), .v (.int .u16 b)] ∧ (∀ t ∈ ts, ∀ x ∈ t, i64 x) ∧ 0 ≤ b ∧ b < 65536) :=
  (opens_struct [(1, _), (1, _)] Tryd.underlying72 (by kernel_rfl) rfl ⟨rfl, by kernel_rfl, o_rows, rfl, by kernel_rfl, o_u16, trivial⟩).mono fun pv h => by
    obtain ⟨a, b, rfl, _, ⟨x, rfl, hx⟩, c, d, rfl, _, ⟨y, rfl, hy⟩, rfl⟩ := h
    exact ⟨x, y, rfl, hx, hy⟩
end Go.Proofs.YtfghooojingdhaaDoor
namespace Go.Proofs.YtfghooojingdhaaDoor
open Go Go.QL Go.RowKit
theorem FnC_at {P : Program} {fid : FuncId} {avs : List AV} (hF : FnC P fid avs (.x (.d (.v (.bool true))))) (W : World) (args : Array Value) (hsz : args.size = avs.length) (hav : ∀ (i : Nat) (x : AV) (v : Value), avs[i]? = some x → args[i]? = some v → ArgOK W x v) :
    Calls P fid args W fun e W' => ∃ v, e = .returned v ∧ Below W.heap.size W W' ∧ v = .bool true := by
  refine (hF.2 (fun b _ => b < W.heap.size) W args (fun b o h => h) hsz hav).mono fun e W' ⟨v, K', he, hb, _, _, _, hr'⟩ => ?_
  refine ⟨v, he, hb, ?_⟩
  have h1 : SR [] ⟨K', fun _ => undef⟩ W' (.d (.v (.bool true))) v := hr'
  cases h1 with
  | d _ _ h => cases h with
    | v _ _ => rfl
end Go.Proofs.YtfghooojingdhaaDoor
namespace Go.Proofs.YtfghooojingdhaaDoor
open Go Go.QL Go.ChangeShapes Go.WideShapes Go.ChangeAt Go.RowKit Go.Deep
set_option maxHeartbeats 800000
attribute [local irreducible] ACall FnC
theorem bulk_one {H : Type} (d : DataW H) : 1 ≤ Rows.uptoBulk d := by
  cases d with
  | lit l => cases l <;> simp [Rows.uptoBulk]
  | nil => simp [Rows.uptoBulk]
  | ptr d => simp [Rows.uptoBulk]
  | slice elems spare => simp [Rows.uptoBulk]
  | agg parts => simp [Rows.uptoBulk]
  | iface t d => simp [Rows.uptoBulk]
  | map entries => simp [Rows.uptoBulk]
  | held h => simp [Rows.uptoBulk]
theorem bulk_part {H : Type} {d : DataW H} {l : List (DataW H)} (h : d ∈ l) : Rows.uptoBulk d ≤ Rows.uptoBulkAll l := by
  induction l with
  | nil => cases h
  | cons x r ih =>
    simp only [Rows.uptoBulkAll]
    cases List.mem_cons.1 h with
    | inl e => subst e; omega
    | inr e => have := ih e; omega
theorem bulk_len {H : Type} (l : List (DataW H)) : l.length ≤ Rows.uptoBulkAll l := by
  induction l with
  | nil => simp [Rows.uptoBulkAll]
  | cons x r ih => have := bulk_one x; simp only [Rows.uptoBulkAll, List.length_cons]; omega
section
variable {H : Type} {enc : TypeId × Value → H} {P : Program} {w : World} {base : Nat} {sp : Nat → Bool} {held : Bool}
theorem slice_bulk {t e : TypeId} {fuel : Nat} {a : Option Addr} {len cap : Nat} {x : DataW H × List MemPlace} (ht : P.underlying t = some (.slice e)) (h : DataW.trod enc P w base sp held fuel t [.slice a len cap] = some x) : len ≤ Rows.uptoBulk x.1 := by
  rcases open_slice ht h with ⟨h1, rfl⟩ | ⟨a', len', cap', m, n, D, Pl, h1, _, _, _, _, rfl, _⟩
  · cases h1; exact Nat.zero_le _
  · cases h1
    have := bulk_len ((List.range len).map D)
    rw [List.length_map, List.length_range] at this
    simp only [Rows.uptoBulk]
    omega
theorem pr_len {K : Nat → Nat → Prop} {m : Nat} {xs : List (List PV)} {v : Value} (h : PR K w (.s m xs) v) : ∃ a cap, v = .slice a xs.length cap := by
  cases h with
  | s _ _ a cap => exact ⟨a, cap, rfl⟩
theorem arg_len {m : Nat} {xs : List (List PV)} {v : Value} {t e : TypeId} {d : DataW H} {ps : List MemPlace} (ht : P.underlying t = some (.slice e)) (ha : ArgOK w (.x (.d (.s m xs))) v) (h : DataW.Trod enc P w base sp held t v d ps) : xs.length ≤ Rows.uptoBulk d := by
  have h1 : SR [] ⟨fun b _ => b < w.heap.size, fun _ => undef⟩ w (.d (.s m xs)) v := ha
  obtain ⟨a, cap, rfl⟩ : ∃ a cap, v = .slice a xs.length cap := by
    cases h1 with
    | d _ _ h => exact pr_len h
  obtain ⟨fuel, hf⟩ := h
  exact slice_bulk ht hf
theorem agg_len {m : Nat} {xs : List (List PV)} {r : List SV} {v : Value} {t e : TypeId} {fs : Array Field} {f0 : Field} {d : DataW H} {ps : List MemPlace} (ht : P.underlying t = some (.struct fs)) (hf0 : fs[0]? = some f0) (ho : f0.offset = 0) (hc : P.cellsOf f0.type = 1) (he : P.underlying f0.type = some (.slice e))
    (ha : ArgOK w (.a (.d (.s m xs) :: r)) v) (h : DataW.Trod enc P w base sp held t v d ps) : xs.length ≤ Rows.uptoBulk d := by
  have ha' : VR1 [] ⟨fun b _ => b < w.heap.size, fun _ => undef⟩ w (.a (.d (.s m xs) :: r)) v := ha
  obtain ⟨vs, rfl, hsz, hv⟩ := ha'
  obtain ⟨u, hu⟩ : ∃ u, vs[0]? = some u := ⟨_, Array.getElem?_eq_getElem (by rw [hsz]; simp)⟩
  have h1 := hv 0 _ u rfl hu
  obtain ⟨a, cap, rfl⟩ : ∃ a cap, u = .slice a xs.length cap := by
    cases h1 with
    | d _ _ h => exact pr_len h
  obtain ⟨fuel, hf⟩ := h
  obtain ⟨ys, n, rfl, hx, hl, hlen, hfs⟩ := DataW.trod_struct ht hf
  have h2 := hfs 0 f0 hf0
  have h3 : (((Value.agg vs).cells.toList.drop f0.offset).take (P.cellsOf f0.type)) = [.slice a xs.length cap] := by
    rw [ho, hc]
    have h4 : (Value.agg vs).cells.toList = vs.toList := rfl
    rw [h4, List.drop_zero]
    have h5 : vs.toList[0]? = some (.slice a xs.length cap) := by simpa using hu
    cases hvl : vs.toList with
    | nil => rw [hvl] at h5; simp at h5
    | cons z zs => rw [hvl] at h5; simp at h5; rw [h5]; rfl
  rw [h3] at h2
  cases hy : ys[0]? with
  | none =>
    have : fs.size ≠ 0 := by intro h0; rw [Array.getElem?_eq_none (by omega)] at hf0; cases hf0
    rw [List.getElem?_eq_none_iff] at hy
    omega
  | some y =>
    rw [hy] at h2
    have h6 := slice_bulk he h2
    have h7 : d = .agg (ys.map (·.1)) := congrArg Prod.fst hx
    have h8 := bulk_part (List.mem_map.2 ⟨y, List.mem_of_getElem? hy, rfl⟩ : y.1 ∈ ys.map (·.1))
    rw [h7]
    simp only [Rows.uptoBulk]
    omega
theorem law_contract1 {fid : FuncId} {f : Func} {s : ChangeSpec} {tb : TypeId}
    (hl : laidOutB P = true) (hv : s.vars = []) (hr : f.resultTypes = #[tb]) (htb : P.underlying tb = some .bool) (hts : ∀ t ∈ f.params.toList, P.readableRec t = true ∧ t < P.types.size)
    (hsp : ∀ ds : List (DataW H), ds.length = f.params.size → s.fn H ds = { results := [.lit (.bool true)], args := ds })
    (W : World) (args : Array Value) (ds gs : List (DataW H)) (before : List MemPlace)
    (hopen : ∀ p, DataW.TrodAll enc P W 0 (fun _ => true) true f.params.toList args.toList ds p →
      ∃ avs : List AV, FnC P fid avs (.x (.d (.v (.bool true)))) ∧ args.size = avs.length ∧ ∀ (i : Nat) (x : AV) (v : Value), avs[i]? = some x → args[i]? = some v → ArgOK W x v)
    (hW : DataW.Whole enc P f.params.toList s.vars false W args.toList ds gs before) :
    Calls P fid args W fun e W' => ∃ v, e = .returned v ∧ s.post enc P f false true false false W args v W' := by
  have hW' := hW
  obtain ⟨p, q, hA, hV, rfl, _, _⟩ := hW
  obtain ⟨avs, hF, hsz, hav⟩ := hopen p hA
  have hF2 := (show FnC P fid avs (.x (.d (.v (.bool true)))) from hF)
  refine (FnC_at hF2 W args hsz hav).mono fun e W' ⟨v, he, hb, hr'⟩ => ?_
  subst hr'
  exact ⟨_, he, law_post hl hv hr htb hts (hsp ds) hW' hb⟩
end
end Go.Proofs.YtfghooojingdhaaDoor
namespace Go.Proofs.YtfghooojingdhaaDoor.gateCan
open Go Go.QL Go.ChangeShapes Go.WideShapes Go.ChangeAt Go.RowKit
set_option maxHeartbeats 1600000
set_option maxRecDepth 100000
attribute [local irreducible] ACall FnC
def Contract : Prop := ∀ (n0 : NetT) (fs1 : List FaultT) (ts2 : List (List Int)) (b2 : Int), (i64 n0.inn) → (∀ t ∈ ts2, ∀ x ∈ t, i64 x) → (0 ≤ b2 ∧ b2 < 65536) → fs1.length ≤ 1048576 → ts2.length ≤ 1048576 → FnC Tryd.prog 15 [netAV n0, faultsAV fs1, choiceAV ts2 b2] (bv true)
theorem opened (hf : Contract) (H : Type) (enc : TypeId × Value → H) (W : World) (base : Nat) (args : Array Value) (ds : List (DataW H)) (p : List MemPlace)
    (hval : ∀ (j : Nat) t v, Tryd.f15.params[j]? = some t → args[j]? = some v → Value.okWide Tryd.prog W .any base t v)
    (hA : DataW.TrodAll enc Tryd.prog W 0 (fun _ => true) true Tryd.f15.params.toList args.toList ds p) (hbk : Rows.uptoBulkAll ds ≤ 1048576) :
    ∃ avs : List AV, FnC Tryd.prog 15 avs (bv true) ∧ args.size = avs.length ∧ ∀ (i : Nat) (x : AV) (v : Value), avs[i]? = some x → args[i]? = some v → ArgOK W x v := by
  rw [Tryd.params15] at hA hval
  obtain ⟨v0, vs0, d0, ds0, p0, q0, hargs, rfl, rfl, h0, r0⟩ := trodAll_cons hA
  obtain ⟨v1, vs1, d1, ds1, p1, q1, hvs1, rfl, rfl, h1, r1⟩ := trodAll_cons r0
  obtain ⟨v2, vs2, d2, ds2, p2, q2, hvs2, rfl, rfl, h2, r2⟩ := trodAll_cons r1
  obtain ⟨hend, rfl, rfl⟩ := trodAll_nil r2
  obtain rfl : args = #[v0, v1, v2] := by cases args; simp_all
  obtain ⟨cs0, e0, _⟩ := okWide_struct Tryd.underlying25 (hval 0 25 v0 rfl rfl)
  obtain ⟨pv0, ⟨n0, rfl, hn0⟩, a0⟩ := arg_agg o_net e0 h0
  obtain ⟨pv1, ⟨fs1, j1⟩, a1⟩ := arg_one o_faults (one_slice Tryd.underlying53 (hval 1 53 v1 rfl rfl)) h1
  cases j1
  obtain ⟨cs2, e2, _⟩ := okWide_struct Tryd.underlying72 (hval 2 72 v2 rfl rfl)
  obtain ⟨pv2, ⟨ts2, b2, rfl, hr2, hb2⟩, a2⟩ := arg_agg o_choice e2 h2
  simp only [Rows.uptoBulkAll] at hbk
  have L1 : fs1.length ≤ 1048576 := by
    have := arg_len (xs := fs1.map faultPV) Tryd.underlying53 a1 h1
    rw [List.length_map] at this
    omega
  have L2 : ts2.length ≤ 1048576 := by
    have := agg_len (xs := ts2.map fun r => [intsPV r]) Tryd.underlying72 rfl rfl (by kernel_rfl) Tryd.underlying54 a2 h2
    rw [List.length_map] at this
    omega
  refine ⟨[netAV n0, faultsAV fs1, choiceAV ts2 b2], hf n0 fs1 ts2 b2 hn0 hr2 hb2 L1 L2, rfl, fun i x v hx hv => ?_⟩
  match i with
  | 0 => cases hx; cases hv; exact a0
  | 1 => cases hx; cases hv; exact a1
  | 2 => cases hx; cases hv; exact a2
  | i + 3 => simp at hx
theorem contract (hf : Contract) (H : Type) (enc : TypeId × Value → H) (W : World) (base : Nat) (args : Array Value) (ds gs : List (DataW H)) (before : List MemPlace)
    (hval : ∀ (j : Nat) t v, Tryd.f15.params[j]? = some t → args[j]? = some v → Value.okWide Tryd.prog W .any base t v)
    (hW : DataW.Whole enc Tryd.prog Tryd.f15.params.toList Rows.gateCanSpec.vars false W args.toList ds gs before) (hk : Rows.uptoSmall H (ds ++ gs) = true) :
    Calls Tryd.prog 15 args W fun e W' => ∃ v, e = .returned v ∧ Rows.gateCanSpec.post enc Tryd.prog Tryd.f15 false true false false W args v W' := by
  have hgs : gs = [] := by
    obtain ⟨p, q, _, hV, _, _, _⟩ := hW
    exact (trodVars_none hV).1
  have hbk : Rows.uptoBulkAll ds ≤ 1048576 := by
    rw [hgs, List.append_nil] at hk
    simpa [Rows.uptoSmall] using hk
  exact law_contract1 (tb := 4) laidOut_is rfl rfl Tryd.underlying4
    (by rw [Tryd.params15]; intro t ht; simp only [List.mem_cons, List.not_mem_nil, or_false] at ht; rcases ht with rfl | rfl | rfl <;> exact ⟨by kernel_rfl, of_decide_eq_true (by kernel_rfl)⟩)
    (fun ds hd => by
      rw [Tryd.params15] at hd
      match ds, hd with
      | [d0, d1, d2], _ => rfl)
    W args ds gs before (fun p hA => opened hf H enc W base args ds p hval hA hbk) hW
theorem laid_met (os : Os) : laidMet Tryd.prog Rows.gateCanUptoRow.laid ((laidWorld os).forCall (fun _ _ => 0) ⟨#[], #[.agg #[.int .i64 0, .slice none 0 0, .slice none 0 0], .slice none 0 0, .agg #[.slice none 0 0, .int .u16 0]], []⟩).memory :=
  laidMet_of_run' 8 (by kernel_rfl) (by kernel_rfl)
theorem reads (os : Os) {H : Type} (enc : TypeId × Value → H) : ∃ places, DataW.whole enc Tryd.prog ((laidWorld os).forCall (fun _ _ => 0) ⟨#[], #[.agg #[.int .i64 0, .slice none 0 0, .slice none 0 0], .slice none 0 0, .agg #[.slice none 0 0, .int .u16 0]], []⟩).memory Tryd.f15.params.toList Rows.gateCanSpec.vars false (#[.agg #[.int .i64 0, .slice none 0 0, .slice none 0 0], .slice none 0 0, .agg #[.slice none 0 0, .int .u16 0]] : Array Value).toList 8 = some ([.agg [.lit (.int .i64 0), .nil, .nil], .nil, .agg [.nil, .lit (.int .u16 0)]], [], places) :=
  ⟨[], by kernel_rfl⟩
theorem lifted (hf : Contract) (os : Os) (started : os.Started) (H : Type) (enc : TypeId × Value → H) (F : Stop.Interp) :
    ReturnsInHanded {} Tryd.checked os 15 .any ((Rows.OpenSpec.upto Rows.gateCanSpec).preRow enc Tryd.prog Tryd.f15 Rows.gateCanUptoRow.domain false Rows.gateCanUptoRow.laid) (((Rows.OpenSpec.upto Rows.gateCanSpec).at F).post enc Tryd.prog Tryd.f15 false true false false) := by
  obtain ⟨places, hx⟩ := reads os enc
  refine returnsInHanded_of_row (C := Tryd.checked) (s := Rows.OpenSpec.upto Rows.gateCanSpec) ownKnob_is started (by kernel_rfl) Tryd.func15
    (witness_row_at (enc := enc) (C := Tryd.checked) false (laidWorld os) #[.agg #[.int .i64 0, .slice none 0 0, .slice none 0 0], .slice none 0 0, .agg #[.slice none 0 0, .int .u16 0]] rfl (by kernel_rfl) (by kernel_rfl) (by kernel_rfl)
      (OpenSpec.preRow_of_cond 8 hx (by kernel_rfl) (fun k hk => by cases hk; kernel_rfl) (by kernel_rfl) (laid_met os))) ?_
  intro W base args ds gs before hval hW _ hk _ _ _ _
  exact contract hf H enc W base args ds gs before hval hW (hk _ rfl)
theorem said (hf : Contract) : Rows.GateCanUptoSaid :=
  OpenClaim.holds_of_cond 15 Tryd.f15 rfl rfl rfl rfl rfl rfl rfl ⟨rfl, rfl, rfl, rfl, rfl⟩ rfl rfl rfl rfl rfl (by kernel_rfl) Tryd.func15 (by kernel_rfl)
    (of_decide_eq_true (by kernel_rfl)) (by unfold Func.isWrapper; first | (rw [if_pos (by decide +kernel)]; kernel_rfl) | (rw [if_neg (by decide +kernel)]; exact ⟨rfl, rfl⟩))
    (fun os started H enc _ F => by rw [OpenClaim.pre_eq_preRow]; exact lifted hf os started H enc F)
theorem plain (f : FuncId) (fn : Func) (hf : Tryd.pinned.checked.prog.funcNamed Rows.gateCanUptoRow.func = some f) (hfn : Tryd.pinned.checked.prog.funcs[f]? = some fn) :
    false = Tryd.pinned.checked.prog.looks [] ∧ ∀ (j : Nat) t, fn.params[j]? = some t → Tryd.pinned.checked.prog.wantsStandIn t = false := by
  obtain rfl : f = 15 := Option.some.inj ((show Tryd.prog.funcNamed Rows.gateCanUptoRow.func = some 15 by kernel_rfl).symm.trans hf) |>.symm
  obtain rfl : fn = Tryd.f15 := (Option.some.inj (Tryd.func15.symm.trans hfn)).symm
  refine ⟨by kernel_rfl, fun j t ht => ?_⟩
  rw [Tryd.params15] at ht
  have hm := Array.mem_of_getElem? ht
  simp at hm
  rcases hm with rfl | rfl | rfl
  · exact (show Tryd.prog.wantsStandIn 25 = false by kernel_rfl)
  · exact (show Tryd.prog.wantsStandIn 53 = false by kernel_rfl)
  · exact (show Tryd.prog.wantsStandIn 72 = false by kernel_rfl)
theorem card (hf : Contract) : Rows.GateCanUptoCardSaid :=
  Claim7.holds_tied_plain_at .later [] _ _ _ _ (said hf) (fun _ h => by cases h) (by kernel_rfl) (fun _ h => by cases h) gateCanUpto_row_tie rfl ⟨rfl, rfl⟩ (by kernel_rfl) rfl plain (by kernel_rfl)
end Go.Proofs.YtfghooojingdhaaDoor.gateCan
namespace Go.Proofs.YtfghooojingdhaaDoor
open Go Go.QL
theorem gateCan_true : Rows.GateCanUptoCardSaid := gateCan.card fun n fs ts b hn _ hb h1 h2 => gcan_fn n hn fs ts b hb h1 h2
end Go.Proofs.YtfghooojingdhaaDoor
