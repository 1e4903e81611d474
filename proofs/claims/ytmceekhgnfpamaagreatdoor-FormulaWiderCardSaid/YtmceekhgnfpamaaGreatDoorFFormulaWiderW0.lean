/- What the functions that this law reaches return: part 0. No condition. -/
import Derived.Test.YtmceekhgnfpamaaGreatDoorB05
set_option linter.all false
namespace Go.Proofs.YtmceekhgnfpamaaGreatDoor
open Go Go.QL FoT
set_option maxHeartbeats 3200000
attribute [local irreducible] ACall FnC
theorem zoA {regs : List FloT} {steps : List StepT} (h : (zaC regs steps).2.2 ≠ 0) : (zaC regs steps).1 = [] := by
 unfold zaC at h ⊢
 by_cases h1 : ¬ (1 ≤ regs.length ∧ regs.length ≤ 8) ∨ 40 < steps.length
 ·rw [if_pos h1]
 rw [if_neg h1] at h ⊢
 cases h2 : za8 regs 0 with
 | some i => rfl
 | none =>
  rw [h2] at h
  dsimp only at h ⊢
  cases h3 : zag regs.length steps 0 with
  | some p => rfl
  | none =>
   rw [h3] at h
   dsimp only at h ⊢
   cases h4 : runS steps 0 regs with
   | error p => rfl
   | ok l => rw [h4] at h; exact absurd rfl h
theorem zc8 {x : FloT} (h : zG x) : i64 x.mant := by
 have := zI h
 unfold zau at this
 unfold i64
 omega
theorem zpg {n : Nat} (h : n ≤ 2 ^ 63 - 1) : IntKind.i64.wrap ((n : Int) + 1) ≠ 0 := by
 rcases Nat.lt_or_ge n (2 ^ 63 - 1) with h1 | h1
 ·rw [zg (by omega)]; omega
 ·obtain rfl : n = 2 ^ 63 - 1 := by omega
  decide
theorem cut_fn (regs : List FloT) (steps : List StepT) (c : UInt8) (hr : ∀ x ∈ regs, i64 x.mant) : FnC Tryz.prog 14 [zdT regs, zhW steps, iv .u8 c.toNat] (bv true) := by
 have aw := zcK
 have k1 := za5 regs steps hr
 have hls : (steps.map stPV).length = steps.length := List.length_map _
 by_cases he : (zaC regs steps).2.2 = 0
 ·obtain ⟨h1, h2, h3, h4, _⟩ := zgu he
  obtain ⟨k, hk⟩ : ∃ k : Nat, k = c.toNat % (steps.length + 1) := ⟨_, rfl⟩
  have hkl : k ≤ steps.length := by have := Nat.mod_lt c.toNat (show 0 < steps.length + 1 by omega); omega
  have hki : Int.tmod (c.toNat : Int) ((steps.length : Int) + 1) = k := by rw [hk]; rfl
  obtain ⟨m, l, c1, c2, c3⟩ := zoz he k
  rw [c3] at k1
  have k2 := za5 regs (steps.take k) hr
  rw [c1] at k2
  have k3 := za5 m (steps.drop k) (fun x hx => zc8 ((zgu (show (zaC m (steps.drop k)).2.2 = 0 by rw [c2])).2.2.1 x hx))
  rw [c2] at k3
  have fl := zfC l
  have q2 : PV.s 4 (List.drop (Int.toNat 0) (List.take (k : Int).toNat (steps.map stPV))) = .s 4 ((steps.take k).map stPV) := by
   rw [Int.toNat_natCast, List.map_take]; rfl
  have q3 : PV.s 4 (List.drop (k : Int).toNat (List.take (((steps.map stPV).length : Int)).toNat (steps.map stPV))) = .s 4 ((steps.drop k).map stPV) := by
   rw [Int.toNat_natCast, Int.toNat_natCast, List.take_length, List.map_drop]
  have k2 : FnC Tryz.prog 32 [zdT regs, .x (.d (.s 4 (List.drop (Int.toNat 0) (List.take (k : Int).toNat (steps.map stPV)))))] (cAV (m, 0, 0)) := by rw [q2]; exact k2
  have k3 : FnC Tryz.prog 32 [zdT m, .x (.d (.s 4 (List.drop (k : Int).toNat (List.take (((steps.map stPV).length : Int)).toNat (steps.map stPV)))))] (cAV (l, 0, 0)) := by rw [q3]; exact k3
  have hc8 := c.toNat_lt
  have hkw : (c.toNat : Int).tmod (((steps.map stPV).length : Int) + 1) = k := by rw [hls, hki]
  refine zj hTt Tryz.func14 rfl (by kernel_rfl) (res := [.tmp 6]) rfl Tryz.ntmps14 (by simp) fun w0 K0 => ?_
  dsimp only [entry]
  repeat' first | refine zd ?_ | ((first | refine zf ?_ | refine zi ?_ | refine zb hTt ?_ | fail); conv => whnf) | (exact absurd hb (by omega)) | ((first | ((refine ⟨_, (k1).call rfl rfl, ?_⟩); (rintro _ _ ⟨rfl, rfl⟩)) | ((refine ⟨_, (k2).call rfl rfl, ?_⟩); (rintro _ _ ⟨rfl, rfl⟩)) | ((refine ⟨_, (k3).call rfl rfl, ?_⟩); (rintro _ _ ⟨rfl, rfl⟩)) | refine ⟨_, fun _ => (fl).call rfl rfl, ?_⟩ | refine ⟨_, fun _ => (aw).call rfl rfl, ?_⟩ | refine And.intro ?_ ?_; focus (first | (exact trivial) | (exact fun h => h) | (exact zu) | (exact zw) | (exact zx) | (exact zE) | (exact fun h _ => h) | fail) | refine ⟨_, hkw, ?_⟩ | fail); conv => whnf) | (refine za rfl (fun hb => absurd (show false = true from hb) (by decide)) (fun _ => ?_)) | (refine za rfl (fun hb => ?_) (fun hb => ?_) <;> first | (replace hb := of_decide_eq_true hb; try simp only [List.length_map] at hb) | (replace hb := of_decide_eq_false hb; try simp only [List.length_map] at hb)) | ((first | refine ⟨_, zg (by first | omega | (simp only [List.length_map]; omega)), ?_⟩ | refine andA ?_ | fail); conv => whnf) | (refine fun hln => ?_; (try rw [List.length_map] at hln); unfold maxLen at hln; conv => whnf) | fail
  rfl
 ·have hl := zoA he
  obtain ⟨⟨l, i, e⟩, hR⟩ : ∃ p, zaC regs steps = p := ⟨_, rfl⟩
  rw [hR] at he hl k1
  dsimp only at he hl k1
  subst hl
  have hcf : (bif (bif (e != 0) then decide ((((([] : List FloT).map flPV).length : Nat) : Int) > 0) else false) then true else (bif e == 0 then i != 0 else false)) = false := by simp [he]
  have hct : (bif (e != 0) then true else decide (((steps.map stPV).length : Int) > 40)) = true := by simp [he]
  refine zj hTt Tryz.func14 rfl (by kernel_rfl) (res := [.tmp 6]) rfl Tryz.ntmps14 (by simp) fun w0 K0 => ?_
  dsimp only [entry]
  repeat' first | refine zd ?_ | ((first | refine zf ?_ | refine zi ?_ | refine zb hTt ?_ | fail); conv => whnf) | (refine za rfl (zM hcf) (fun _ => ?_)) | (refine za rfl (fun _ => ?_) (zaf hct)) | ((first | ((refine ⟨_, (k1).call rfl rfl, ?_⟩); (rintro _ _ ⟨rfl, rfl⟩)) | ((refine ⟨_, (aw).call rfl rfl, ?_⟩); (rintro _ _ ⟨rfl, rfl⟩)) | refine And.intro ?_ ?_; focus (first | (exact trivial) | (exact fun h => h) | (exact zu) | (exact zw) | (exact zx) | (exact zE) | (exact fun h _ => h) | fail) | refine And.intro (ze (zpg (by rw [hls]; exact hln))) ?_ | refine ⟨_, rfl, ?_⟩ | fail); conv => whnf) | (refine fun hln => ?_; (try rw [List.length_map] at hln); unfold maxLen at hln; conv => whnf) | fail
  rfl
end Go.Proofs.YtmceekhgnfpamaaGreatDoor
namespace Go.Proofs.YtmceekhgnfpamaaGreatDoor
open Go Go.QL FoT
set_option maxHeartbeats 3200000
attribute [local irreducible] ACall FnC z8
theorem zry (f : FormT) (spans : List SpanT) (words : List UInt32) (hs64 : ∀ s ∈ spans, i64 s.lo ∧ i64 s.hi) : FnC Tryz.prog 10 [zaB f, zsd spans words] (bv true) := by
 have aw := zcK
 have g1 := zeg f spans
 have hls : (spans.map spPV).length = spans.length := List.length_map _
 have hlw : (words.map fun w => [PV.v (.int .u32 w.toNat)]).length = words.length := List.length_map _
 obtain ⟨⟨r, at_, e⟩, hR⟩ : ∃ p, z8 f spans = p := ⟨_, rfl⟩
 rw [hR] at g1
 by_cases hc : e ≠ 0 ∨ words.length = 0
 ·have hct : (bif (e != 0) then true else (((words.map fun w => [PV.v (.int .u32 w.toNat)]).length : Int) == 0)) = true := by
   rcases hc with h | h
   ·rw [bne_iff_ne.2 h]; rfl
   ·rw [hlw, h]; cases (e != 0) <;> rfl
  refine zj hTt Tryz.func10 rfl (by kernel_rfl) (res := [.tmp 4]) rfl Tryz.ntmps10 (by simp) fun w0 K0 => ?_
  dsimp only [entry]
  repeat' first | refine zd ?_ | ((first | refine zi ?_ | refine zb hTt ?_ | fail); conv => whnf) | (refine za rfl (fun _ => ?_) (zaf hct)) | ((first | ((refine ⟨_, (g1).call rfl rfl, ?_⟩); (rintro _ _ ⟨rfl, rfl⟩)) | ((refine ⟨_, (aw).call rfl rfl, ?_⟩); (rintro _ _ ⟨rfl, rfl⟩)) | refine And.intro ?_ ?_; focus (first | (exact trivial) | (exact fun h => h) | (exact zu) | (exact zw) | (exact zx) | (exact zE) | (exact fun h _ => h) | fail) | fail); conv => whnf) | fail
  rfl
 ·have he : e = 0 := Classical.not_not.1 fun h => hc (.inl h)
  have hw : 0 < words.length := by rcases Nat.eq_zero_or_pos words.length with h | h; exact absurd (.inr h) hc; exact h
  subst he
  have hcf : (bif ((0 : Int) != 0) then true else (((words.map fun w => [PV.v (.int .u32 w.toNat)]).length : Int) == 0)) = false := by
   rw [hlw]; show ((words.length : Int) == 0) = false; rw [beq_eq_false_iff_ne]; omega
  refine zj hTt Tryz.func10 rfl (by kernel_rfl) (res := [.tmp 4]) rfl Tryz.ntmps10 (by simp) fun w0 K0 => ?_
  dsimp only [entry]
  repeat' first | refine zd ?_ | refine zc ?_ | ((first | refine zf ?_ | refine zb hTt ?_ | fail); conv => whnf) | (refine za rfl (zM hcf) (fun _ => ?_)) | ((first | ((refine ⟨_, (g1).call rfl rfl, ?_⟩); (rintro _ _ ⟨rfl, rfl⟩)) | refine And.intro ?_ ?_; focus (first | (exact trivial) | (exact fun h => h) | (exact zu) | (exact zw) | (exact zx) | (exact zE) | (exact fun h _ => h) | fail) | fail); conv => whnf) | fail
  obtain ⟨hchk, hlen, hsp, _⟩ := zhq (show (z8 f spans).2.2 = 0 by rw [hR])
  obtain ⟨hv8, _, _⟩ := zbD hchk
  refine zaq (Imp.nil 900 40 2 (fr' := [(9, iv .i64 0), (8, .x (.o 900 0 0)), (5, .x (.b 5 0)), (4, bv false), (3, .x (.b 3 0)), (2, .x (.b 2 0))])
   (σ' := [(5, .box [.d (.v (.int .i64 r.lo)), .d (.v (.int .i64 r.hi)), .d (.v (.int .i64 r.err))]), (3, .box [.d (zcS spans), .d (zkE words)]), (2, .box [.d (zac f.vars), .d (zS f.code)])]) rfl ?_ ?_ rfl rfl) ?_
  ·exact ⟨⟨_, rfl, .inl rfl⟩, ⟨_, rfl, .inr ⟨rfl, rfl⟩⟩, ⟨_, rfl, .inl rfl⟩, ⟨_, rfl, .inl rfl⟩, ⟨_, rfl, .inl rfl⟩, ⟨_, rfl, .inl rfl⟩, trivial⟩
  ·exact ⟨⟨_, rfl, .inl rfl⟩, ⟨_, rfl, .inl rfl⟩, ⟨_, rfl, .inl rfl⟩, trivial⟩
  refine zJ (fun x : Nat × List SpanT => [(9, iv .i64 x.1), (8, .x (.o 900 x.1 x.2.length)), (5, .x (.b 5 0)), (4, bv false), (3, .x (.b 3 0)), (2, .x (.b 2 0))])
   (fun x => [(900, .chain 40 2 x.1 (x.2.map spPV)), (5, .box [.d (.v (.int .i64 r.lo)), .d (.v (.int .i64 r.hi)), .d (.v (.int .i64 r.err))]), (3, .box [.d (zcS spans), .d (zkE words)]), (2, .box [.d (zac f.vars), .d (zS f.code)])])
   (fun x => x.1 ≤ spans.length ∧ x.2.length = x.1 ∧ ∀ j (h1 : j < x.2.length) (h2 : j < spans.length), SubP x.2[j] spans[j]) (fun x => spans.length - x.1) (0, []) ⟨Nat.zero_le _, rfl, fun j h => absurd h (by simp)⟩ impA ?_
  rintro ⟨i, L⟩ ⟨hi, hL, hsub⟩
  dsimp only at hi hL hsub ⊢
  rcases Nat.lt_or_ge i spans.length with hil | hil
  ·obtain ⟨k, hk⟩ : ∃ k : Nat, i % words.length = k := ⟨_, rfl⟩
   have hkl : k < words.length := by rw [← hk]; exact Nat.mod_lt _ hw
   have hrem : (i : Int).tmod ((words.map fun w => [PV.v (.int .u32 w.toNat)]).length : Int) = k := by rw [hlw, ← hk]; rfl
   have hgw : (words.map fun w => [PV.v (.int .u32 w.toNat)])[(k : Int).toNat]? = some [PV.v (.int .u32 words[k].toNat)] := by
    rw [Int.toNat_natCast, List.getElem?_map, List.getElem?_eq_getElem hkl]; rfl
   have hn32 := words[k].toNat_lt
   obtain ⟨q1, q2, q3⟩ := hsp spans[i] (List.getElem_mem hil)
   unfold zC at q1 q2
   rw [Bool.or_eq_false_iff, decide_eq_false_iff_not, decide_eq_false_iff_not] at q1 q2
   generalize words[k].toNat = n at hgw hn32
   obtain ⟨a, ha⟩ : ∃ a : Int, (n : Int).tmod (spans[i].hi - spans[i].lo + 1) = a := ⟨_, rfl⟩
   have ha1 : 0 ≤ a := by rw [← ha]; exact Int.tmod_nonneg _ (by omega)
   have ha2 : a < spans[i].hi - spans[i].lo + 1 := by rw [← ha]; exact Int.tmod_lt_of_pos _ (by omega)
   have hd7 : (n : Int).tdiv 7 = ((n / 7 : Nat) : Int) := by rw [Int.tdiv_eq_ediv_of_nonneg (by omega)]; omega
   obtain ⟨b, hb2⟩ : ∃ b : Int, (((n / 7 : Nat) : Int)).tmod (spans[i].hi - (spans[i].lo + a) + 1) = b := ⟨_, rfl⟩
   have hb1 : 0 ≤ b := by rw [← hb2]; exact Int.tmod_nonneg _ (by omega)
   have hb3 : b < spans[i].hi - (spans[i].lo + a) + 1 := by rw [← hb2]; exact Int.tmod_lt_of_pos _ (by omega)
   have hw7 : IntKind.i64.wrap ((n : Int).tdiv 7) = ((n / 7 : Nat) : Int) := by rw [hd7, zg (by omega)]
   have sp := zln (spans[i].lo + a) (spans[i].lo + a + b)
   have g0 : L.length ≤ (L.map spPV).length := by rw [List.length_map]; exact Nat.le_refl _
   have g1 : L.length + [spPV ⟨spans[i].lo + a, spans[i].lo + a + b⟩].length ≤ maxLen := by show L.length + 1 ≤ _; unfold maxLen; omega
   have g2 : (L.length + [spPV ⟨spans[i].lo + a, spans[i].lo + a + b⟩].length) * 16 ≤ 140737488355328 := by show (L.length + 1) * 16 ≤ _; omega
   have e2 : (L.map spPV).take L.length ++ [spPV ⟨spans[i].lo + a, spans[i].lo + a + b⟩] = (L ++ [(⟨spans[i].lo + a, spans[i].lo + a + b⟩ : SpanT)]).map spPV := by rw [List.take_of_length_le (by rw [List.length_map]; exact Nat.le_refl _), List.map_append]; rfl
   have el : L.length + 1 = (L ++ [(⟨spans[i].lo + a, spans[i].lo + a + b⟩ : SpanT)]).length := by rw [List.length_append]; rfl
   have hsub' : ∀ j (h1 : j < (L ++ [(⟨spans[i].lo + a, spans[i].lo + a + b⟩ : SpanT)]).length) (h2 : j < spans.length), SubP (L ++ [(⟨spans[i].lo + a, spans[i].lo + a + b⟩ : SpanT)])[j] spans[j] := by
    intro j h1 h2
    rcases Nat.lt_or_ge j L.length with h | h
    ·rw [List.getElem_append_left h]; exact hsub j h h2
    ·have hj : j = i := by rw [← el] at h1; omega
     subst hj
     rw [List.getElem_append_right h]
     simp only [List.getElem_singleton]
     exact ⟨by dsimp only; omega, by dsimp only; omega, by dsimp only; omega⟩
   repeat' first | refine zd ?_ | refine zc ?_ | ((first | refine zf ?_ | refine zk ?_ | refine zi ?_ | refine zb hTt ?_ | refine zW hTt hMix (id := 8) 16 [5, 6, 7, 8, 9, 10, 11, 12, 13, 14] true [0, 1, 0, 7, 15, 0, 32, 0, 0, 256, 768, 1920, 4064, 8160, 16352, 0, 32799, 131071] _ (by kernel_rfl) rfl rfl (by kernel_rfl) rfl (by kernel_rfl) (by kernel_rfl) ?_ | refine zl hTt hMix (id := 11) 10 false [0, 1, 0, 0, 8, 0, 32, 120, 248, 508, 1023, 2047] (by kernel_rfl) rfl rfl (by kernel_rfl) ?_ | refine LateGo.mk ⟨.x .j, rfl, ?_⟩ | fail); conv => whnf) | (exact absurd hb (by omega)) | ((first | refine And.intro ⟨g0, g1, g2⟩ ?_ | refine ⟨_, hrem, ?_⟩ | refine ⟨_, ze ⟨by omega, hgw⟩, ?_⟩ | refine ⟨_, ha, ?_⟩ | refine ⟨_, hb2, ?_⟩ | refine ⟨_, hw7, ?_⟩ | ((refine ⟨_, (sp).call rfl rfl, ?_⟩); (rintro _ _ ⟨rfl, rfl⟩)) | fail); conv => whnf) | (refine za rfl (fun hb => ?_) (fun hb => ?_) <;> first | (replace hb := of_decide_eq_true hb; try simp only [List.length_map] at hb) | (replace hb := of_decide_eq_false hb; try simp only [List.length_map] at hb)) | ((first | refine ⟨_, zg (by first | omega | (simp only [List.length_map]; omega)), ?_⟩ | refine andA ?_ | with_reducible refine Exists.intro _ (And.intro (ze (And.intro (by omega) (zn (by omega)))) ?_) | fail); conv => whnf) | (refine fun hln => ?_; (try rw [List.length_map] at hln); unfold maxLen at hln; conv => whnf) | fail
   exact ⟨(i + 1, L ++ [⟨spans[i].lo + a, spans[i].lo + a + b⟩]), ⟨by show i + 1 ≤ _; omega, by rw [← el, hL], hsub'⟩, by show spans.length - (i + 1) < spans.length - i; omega, (Imp.forget (by repeat' (first | exact trivial | refine And.intro ?_ ?_ | exact chE e2 | exact congrArg (fun k : Nat => some (AV.x (.o 900 (i + 1) k))) el | rfl | exact ivE (by first | omega | (simp only [List.length_map, List.length_append, List.length_singleton] <;> omega)) | exact oE (by first | omega | (simp only [List.length_map, List.length_append, List.length_singleton] <;> omega)))) (by repeat' (first | exact trivial | refine And.intro ?_ ?_ | exact chE e2 | exact congrArg (fun k : Nat => some (AV.x (.o 900 (i + 1) k))) el | rfl | exact ivE (by first | omega | (simp only [List.length_map, List.length_append, List.length_singleton] <;> omega)) | exact oE (by first | omega | (simp only [List.length_map, List.length_append, List.length_singleton] <;> omega)))) (by kernel_rfl) (by kernel_rfl) (by kernel_rfl))⟩
  ·have hie : i = spans.length := by omega
   have wp := zi2 (f := f) (spans := spans) (less := L) (show (z8 f spans).2.2 = 0 by rw [hR]) (by omega) hsub
   rw [hR] at wp
   have g2 := zeg f L
   obtain ⟨⟨q, at2, e2⟩, hQ⟩ : ∃ p, z8 f L = p := ⟨_, rfl⟩
   rw [hQ] at wp g2
   obtain ⟨w1, w2, w3, w4⟩ := wp
   dsimp only at w1 w2 w3 w4
   subst w1
   have hle : L.length ≤ (L.map spPV).length := by rw [List.length_map]; exact Nat.le_refl _
   have hz : AV.x (.d (zcS L)) = .x (.d (.s 2 ((L.map spPV).take L.length))) := by rw [List.take_of_length_le (by rw [List.length_map]; exact Nat.le_refl _)]; rfl
   have hfin : (bif (bif (bif (bif ((0 : Int) == 0) then decide (q.lo ≥ r.lo) else false) then decide (q.hi ≤ r.hi) else false) then decide (q.err ≤ r.err) else false) then true else false) = true := by
    rw [decide_eq_true (show q.lo ≥ r.lo from w2), decide_eq_true w3, decide_eq_true w4]; rfl
   refine zaq (Imp.freeze 900 (fr' := [(9, iv .i64 i), (8, .x (.d (zcS L))), (5, .x (.b 5 0)), (4, bv false), (3, .x (.b 3 0)), (2, .x (.b 2 0))])
    (σ' := [(5, .box [.d (.v (.int .i64 r.lo)), .d (.v (.int .i64 r.hi)), .d (.v (.int .i64 r.err))]), (3, .box [.d (zcS spans), .d (zkE words)]), (2, .box [.d (zac f.vars), .d (zS f.code)])]) rfl
    ⟨⟨_, rfl, .inl rfl⟩, ⟨_, rfl, .inr ⟨_, rfl, hle, hz⟩⟩, ⟨_, rfl, .inl rfl⟩, ⟨_, rfl, .inl rfl⟩, ⟨_, rfl, .inl rfl⟩, ⟨_, rfl, .inl rfl⟩, trivial⟩ ⟨rfl, rfl, rfl, trivial⟩ rfl rfl) ?_
   repeat' first | refine zd ?_ | refine zc ?_ | ((first | refine zf ?_ | refine zk ?_ | refine zi ?_ | refine zb hTt ?_ | refine zW hTt hMix (id := 8) 16 [5, 6, 7, 8, 9, 10, 11, 12, 13, 14] true [0, 1, 0, 7, 15, 0, 32, 0, 0, 256, 768, 1920, 4064, 8160, 16352, 0, 32799, 131071] _ (by kernel_rfl) rfl rfl (by kernel_rfl) rfl (by kernel_rfl) (by kernel_rfl) ?_ | fail); conv => whnf) | (exact absurd hb (by omega)) | ((first | ((refine ⟨_, (g2).call rfl rfl, ?_⟩); (rintro _ _ ⟨rfl, rfl⟩)) | refine ⟨_, fun _ => (aw).call rfl rfl, ?_⟩ | refine And.intro ?_ ?_; focus (first | (exact trivial) | (exact fun h => h) | (exact zu) | (exact zw) | (exact zx) | (exact zE) | (exact fun h _ => h) | fail) | fail); conv => whnf) | (refine za rfl (fun hb => ?_) (fun hb => ?_) <;> first | (replace hb := of_decide_eq_true hb; try simp only [List.length_map] at hb) | (replace hb := of_decide_eq_false hb; try simp only [List.length_map] at hb)) | (refine fun hln => ?_; (try rw [List.length_map] at hln); unfold maxLen at hln; conv => whnf) | fail
   exact congrArg some (congrArg bv hfin)
end Go.Proofs.YtmceekhgnfpamaaGreatDoor
