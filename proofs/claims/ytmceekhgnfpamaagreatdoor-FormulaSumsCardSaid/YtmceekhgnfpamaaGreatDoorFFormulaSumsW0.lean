/- What the functions that this law reaches return: part 0. No condition. -/
import Derived.Test.YtmceekhgnfpamaaGreatDoorB05
set_option linter.all false
namespace Go.Proofs.YtmceekhgnfpamaaGreatDoor
open Go Go.QL FoT
set_option maxHeartbeats 3200000
attribute [local irreducible] ACall FnC
theorem zc8 {x : FloT} (h : zG x) : i64 x.mant := by
 have := zI h
 unfold zau at this
 unfold i64
 omega
theorem zpg {n : Nat} (h : n ≤ 2 ^ 63 - 1) : IntKind.i64.wrap ((n : Int) + 1) ≠ 0 := by
 rcases Nat.lt_or_ge n (2 ^ 63 - 1) with h1 | h1
 ·rw [zg (by omega)]; omega
 ·obtain rfl : n = 2 ^ 63 - 1 := by omega
  decide
end Go.Proofs.YtmceekhgnfpamaaGreatDoor
namespace Go.Proofs.YtmceekhgnfpamaaGreatDoor
open Go Go.QL FoT
set_option maxHeartbeats 1600000
attribute [local irreducible] ACall FnC
theorem zoS (n lo hi : Int) : FnC Tryz.prog 61 [iv .i64 n, iv .i64 lo, iv .i64 hi] (bv (bif decide (lo ≤ n) then decide (n ≤ hi) else false)) := by
 refine zj hTt Tryz.func61 rfl (by kernel_rfl) (res := [.tmp 6]) rfl Tryz.ntmps61 (by simp) fun w0 K0 => ?_
 dsimp only [entry]
 repeat' first | refine zd ?_ | ((first | refine zi ?_ | refine zb hTt ?_ | refine And.intro ?_ ?_; focus (first | (exact trivial) | (exact fun h => h) | (exact zu) | (exact zw) | (exact zx) | (exact zE) | (exact fun h _ => h) | fail) | fail); conv => whnf) | fail
 rfl
theorem b3 (a b c : Prop) [Decidable a] [Decidable b] [Decidable c] : (bif (bif decide a then decide b else false) then decide c else false) = decide (a ∧ b ∧ c) := by
 by_cases a <;> by_cases b <;> by_cases c <;> simp [*]
end Go.Proofs.YtmceekhgnfpamaaGreatDoor
namespace Go.Proofs.YtmceekhgnfpamaaGreatDoor
open Go Go.QL FoT
set_option maxHeartbeats 3200000
attribute [local irreducible] ACall FnC
theorem znT : FnC Tryz.prog 101 [] (iv .i64 4194304) := by
 refine zj hTt Tryz.func101 rfl (by kernel_rfl) (res := [.tmp 0]) rfl Tryz.ntmps101 (by simp) fun w0 K0 => ?_
 dsimp only [entry]
 repeat' first | refine zd ?_ | ((first | refine zi ?_ | refine zb hTt ?_ | fail); conv => whnf) | fail
 rfl
theorem zpN : FnC Tryz.prog 102 [] (iv .i64 8388607) := by
 refine zj hTt Tryz.func102 rfl (by kernel_rfl) (res := [.tmp 0]) rfl Tryz.ntmps102 (by simp) fun w0 K0 => ?_
 dsimp only [entry]
 repeat' first | refine zd ?_ | ((first | refine zi ?_ | refine zb hTt ?_ | fail); conv => whnf) | fail
 rfl
theorem flB (m e : Int) (h : i64 m) : (bif eqL [Value.int .i64 m, Value.int .i64 e] [Value.int .i64 0, Value.int .i64 0] then true else bif (bif decide (4194304 ≤ (bif true then (if IntKind.i64.wrap (0 - m) > m then IntKind.i64.wrap (0 - m) else m) else (if IntKind.i64.wrap (0 - m) < m then IntKind.i64.wrap (0 - m) else m))) then
  decide ((bif true then (if IntKind.i64.wrap (0 - m) > m then IntKind.i64.wrap (0 - m) else m) else (if IntKind.i64.wrap (0 - m) < m then IntKind.i64.wrap (0 - m) else m)) ≤ 8388607) else false) then (bif decide (-64 ≤ e) then decide (e ≤ 63) else false) else false) = decide (zG ⟨m, e⟩) := by
 have hM : ∃ M : Int, (bif true then (if IntKind.i64.wrap (0 - m) > m then IntKind.i64.wrap (0 - m) else m) else (if IntKind.i64.wrap (0 - m) < m then IntKind.i64.wrap (0 - m) else m)) = M ∧ ((M = m.natAbs) ∨ (m = -9223372036854775808 ∧ M = m)) := by
  refine ⟨_, rfl, ?_⟩
  rw [cond_true]
  by_cases hm : m = -9223372036854775808
  ·right; subst hm; exact ⟨rfl, by decide⟩
  ·left
   unfold i64 at h
   rw [zg (by omega)]
   split <;> omega
 obtain ⟨M, hM, hc⟩ := hM
 rw [hM, zrh, Bool.eq_iff_iff, decide_eq_true_iff]
 unfold zG zeroFl
 simp only [FloT.mk.injEq, Bool.cond_eq_ite]
 have e1 : (decide (m = 0) && decide (e = 0)) = true ↔ m = 0 ∧ e = 0 := by simp
 by_cases h0 : m = 0 ∧ e = 0
 ·rw [if_pos (e1.2 h0)]; simp [h0]
 ·rw [if_neg (fun h => h0 (e1.1 h))]
  by_cases a1 : 4194304 ≤ M <;> by_cases a2 : M ≤ 8388607 <;> by_cases a3 : -64 ≤ e <;> by_cases a4 : e ≤ 63 <;> simp [a1, a2, a3, a4, h0] <;> omega
theorem zbu (x : FloT) (h : i64 x.mant) : FnC Tryz.prog 41 [flAV x] (bv (decide (zG x))) := by
 have ri := zoS
 have le := znT
 have mo := zpN
 refine zj hTt Tryz.func41 rfl (by kernel_rfl) (res := [.tmp 2]) rfl Tryz.ntmps41 (by simp) fun w0 K0 => ?_
 dsimp only [entry]
 repeat' first | refine zd ?_ | ((first | refine zi ?_ | refine zb hTt ?_ | refine zl hTt hMix (id := 1) 12 false [0, 0, 3, 7, 15, 31, 15, 79, 207, 511, 15, 1039, 4095, 8191, 16383, 32767, 65535, 131071, 262143, 524287] (by kernel_rfl) rfl rfl (by kernel_rfl) ?_ | refine ⟨_, fun _ => ((ri _ _ _)).call rfl rfl, ?_⟩ | refine ⟨_, fun _ _ => (le).call rfl rfl, ?_⟩ | refine ⟨_, fun _ _ => (mo).call rfl rfl, ?_⟩ | refine And.intro ?_ ?_; focus (first | (exact trivial) | (exact fun h => h) | (exact zu) | (exact zw) | (exact zx) | (exact zE) | (exact fun h _ => h) | fail) | refine ⟨_, rfl, ?_⟩ | refine andA ?_ | fail); conv => whnf) | fail
 exact congrArg some (congrArg bv (flB x.mant x.exp h))
end Go.Proofs.YtmceekhgnfpamaaGreatDoor
namespace Go.Proofs.YtmceekhgnfpamaaGreatDoor
open Go Go.QL FoT
set_option maxHeartbeats 3200000
attribute [local irreducible] ACall FnC
end Go.Proofs.YtmceekhgnfpamaaGreatDoor
namespace Go.Proofs.YtmceekhgnfpamaaGreatDoor
open Go Go.QL FoT
set_option maxHeartbeats 3200000
attribute [local irreducible] ACall FnC
theorem zcV (n : Nat) (hn : n ≤ 62) : FnC Tryz.prog 42 [iv .i64 n] (iv .i64 ((2 : Int) ^ n)) := by
 have hp : ∀ i : Nat, i ≤ 62 → (2 : Int) ^ i ≤ 4611686018427387904 ∧ 1 ≤ (2 : Int) ^ i := by
  intro i hi
  have h1 : (2 : Nat) ^ i ≤ 2 ^ 62 := Nat.pow_le_pow_right (by decide) hi
  have h2 : 1 ≤ (2 : Nat) ^ i := Nat.one_le_two_pow
  have e : (2 : Int) ^ i = ((2 ^ i : Nat) : Int) := by norm_cast
  rw [e]
  omega
 refine zj hTt Tryz.func42 rfl (by kernel_rfl) (res := [.tmp 2]) rfl Tryz.ntmps42 (by simp) fun w0 K0 => ?_
 dsimp only [entry]
 repeat' first | refine zd ?_ | refine zc ?_ | ((refine zb hTt ?_); conv => whnf) | fail
 refine zJ (fun i : Nat => [(4, iv .i64 i), (3, iv .i64 ((2 : Int) ^ i)), (0, iv .i64 n)]) (fun _ => []) (fun i => i ≤ n) (fun i => n - i) 0 (Nat.zero_le _) impA ?_
 intro i hi
 rcases Nat.lt_or_ge i n with hil | hil
 ·have h1 := hp (i + 1) (by omega)
  have e1 : (2 : Int) ^ (i + 1) = 2 * 2 ^ i := by rw [Int.pow_succ, Int.mul_comm]
  rw [e1] at h1
  generalize (2 : Int) ^ i = p at h1 e1
  repeat' first | refine zd ?_ | refine zc ?_ | ((first | refine zf ?_ | refine zk ?_ | refine zi ?_ | refine zb hTt ?_ | fail); conv => whnf) | (exact absurd hb (by omega)) | (refine za rfl (fun hb => ?_) (fun hb => ?_) <;> first | (replace hb := of_decide_eq_true hb; try simp only [List.length_map] at hb) | (replace hb := of_decide_eq_false hb; try simp only [List.length_map] at hb)) | ((refine ⟨_, zg (by first | omega | (simp only [List.length_map]; omega)), ?_⟩); conv => whnf) | fail
  exact ⟨i + 1, by omega, by omega, (Imp.forget (by repeat' (first | exact trivial | refine And.intro ?_ ?_ | exact ivE e1.symm | rfl | exact ivE (by first | omega | (simp only [List.length_map, List.length_append, List.length_singleton] <;> omega)) | exact oE (by first | omega | (simp only [List.length_map, List.length_append, List.length_singleton] <;> omega)))) (by repeat' (first | exact trivial | refine And.intro ?_ ?_ | exact ivE e1.symm | rfl | exact ivE (by first | omega | (simp only [List.length_map, List.length_append, List.length_singleton] <;> omega)) | exact oE (by first | omega | (simp only [List.length_map, List.length_append, List.length_singleton] <;> omega)))) (by kernel_rfl) (by kernel_rfl) (by kernel_rfl))⟩
 ·obtain rfl : i = n := by omega
  repeat' first | refine zd ?_ | refine zc ?_ | ((first | refine zf ?_ | refine zk ?_ | refine zi ?_ | refine zb hTt ?_ | fail); conv => whnf) | (exact absurd hb (by omega)) | (refine za rfl (fun hb => ?_) (fun hb => ?_) <;> first | (replace hb := of_decide_eq_true hb; try simp only [List.length_map] at hb) | (replace hb := of_decide_eq_false hb; try simp only [List.length_map] at hb)) | fail
  rfl
end Go.Proofs.YtmceekhgnfpamaaGreatDoor
namespace Go.Proofs.YtmceekhgnfpamaaGreatDoor
open Go Go.QL FoT
set_option maxHeartbeats 3200000
attribute [local irreducible] ACall FnC
theorem zlZ (x : FloT) (n exp : Int) (h0 : x.mant = 0) (he : -1000 ≤ exp ∧ exp ≤ 1000) (hx : -1000 ≤ x.exp ∧ x.exp ≤ 1000) : FnC Tryz.prog 43 [flAV x, iv .i64 n, iv .i64 exp] (bv (decide (n = 0))) := by
 have hct : (bif (bif (x.mant == 0) then true else decide (x.exp - 23 - exp < 0)) then true else decide (x.exp - 23 - exp > 40)) = true := by simp [h0]
 have hfin : (bif (x.mant == 0) then (n == 0) else false) = decide (n = 0) := by rw [h0]; rfl
 refine zj hTt Tryz.func43 rfl (by kernel_rfl) (res := [.tmp 6]) rfl Tryz.ntmps43 (by simp) fun w0 K0 => ?_
 dsimp only [entry]
 repeat' first | refine zd ?_ | ((first | refine zi ?_ | refine zb hTt ?_ | fail); conv => whnf) | (refine za rfl (fun _ => ?_) (zaf hct)) | ((first | refine And.intro ?_ ?_; focus (first | (exact trivial) | (exact fun h => h) | (exact zu) | (exact zw) | (exact zx) | (exact zE) | (exact fun h _ => h) | fail) | refine ⟨_, zg (by first | omega | (simp only [List.length_map]; omega)), ?_⟩ | fail); conv => whnf) | fail
 exact congrArg some (congrArg bv hfin)
theorem zoZ (x : FloT) (n exp : Int) (hx : zG x) (hn : n.natAbs < 4611686018427387904) (he : -1000 ≤ exp ∧ exp ≤ 1000) (h : zij x n exp) : FnC Tryz.prog 43 [flAV x, iv .i64 n, iv .i64 exp] (bv true) := by
 have hxe : -1000 ≤ x.exp ∧ x.exp ≤ 1000 := by
  rcases hx with rfl | h
  ·exact ⟨by decide, by decide⟩
  ·omega
 have hxm : -8388607 ≤ x.mant ∧ x.mant ≤ 8388607 := by
  rcases hx with rfl | h
  ·exact ⟨by decide, by decide⟩
  ·omega
 unfold zij at h
 dsimp only at h
 by_cases h0 : x.mant = 0
 ·rw [if_pos (.inl h0)] at h
  have := zlZ x n exp h0 he hxe
  rw [decide_eq_true h.2] at this
  exact this
 ·by_cases h1 : x.exp - 23 - exp < 0 ∨ 40 < x.exp - 23 - exp
  ·rw [if_pos (.inr h1)] at h; exact absurd h.1 h0
  ·rw [if_neg (fun hc => hc.elim h0 h1)] at h
   obtain ⟨k, hk⟩ : ∃ k : Nat, x.exp - 23 - exp = k := ⟨(x.exp - 23 - exp).toNat, by omega⟩
   have t2 := zcV k (by omega)
   rw [hk, Int.toNat_natCast] at h
   rw [← hk] at t2
   have t21 : FnC Tryz.prog 42 [iv .i64 21] (iv .i64 2097152) := zcV 21 (by decide)
   have hp : 1 ≤ (2 : Int) ^ k ∧ (2 : Int) ^ k ≤ 1099511627776 := by
    have h1 : (2 : Nat) ^ k ≤ 2 ^ 40 := Nat.pow_le_pow_right (by decide) (by omega)
    have h2 : 1 ≤ (2 : Nat) ^ k := Nat.one_le_two_pow
    have e : (2 : Int) ^ k = ((2 ^ k : Nat) : Int) := by norm_cast
    rw [e]; omega
   generalize (2 : Int) ^ k = p at h t2 hp
   have hq : -9223370937343148032 ≤ x.mant * p ∧ x.mant * p ≤ 9223370937343148032 := by
    constructor
    ·have h1 : (-8388607) * p ≤ x.mant * p := Int.mul_le_mul_of_nonneg_right hxm.1 (by omega)
     omega
    ·have h1 : x.mant * p ≤ 8388607 * p := Int.mul_le_mul_of_nonneg_right hxm.2 (by omega)
     omega
   have hcf : (bif (bif (x.mant == 0) then true else decide (x.exp - 23 - exp < 0)) then true else decide (x.exp - 23 - exp > 40)) = false := by
    rw [beq_eq_false_iff_ne.2 h0, decide_eq_false (by omega), decide_eq_false (by omega)]; rfl
   generalize hqq : x.mant * p = q at h hq
   have hw : IntKind.i64.wrap (x.mant * p) = q := by rw [hqq, zg (by omega)]
   refine zj hTt Tryz.func43 rfl (by kernel_rfl) (res := [.tmp 6]) rfl Tryz.ntmps43 (by simp) fun w0 K0 => ?_
   dsimp only [entry]
   repeat' first | refine zd ?_ | ((first | refine zf ?_ | refine zi ?_ | refine zb hTt ?_ | refine zl hTt hMix (id := 4) 6 false [0, 1, 0, 4, 15, 0, 63, 127] (by kernel_rfl) rfl rfl (by kernel_rfl) ?_ | fail); conv => whnf) | (refine za rfl (zM hcf) (fun _ => ?_)) | ((first | refine ⟨_, hw, ?_⟩ | refine ⟨_, fun _ => (t2).call rfl rfl, ?_⟩ | ((refine ⟨_, (t21).call rfl rfl, ?_⟩); (rintro _ _ ⟨rfl, rfl⟩)) | refine And.intro ?_ ?_; focus (first | (exact trivial) | (exact fun h => h) | (exact zu) | (exact zw) | (exact zx) | (exact zE) | (exact fun h _ => h) | fail) | refine ⟨_, zg (by first | omega | (simp only [List.length_map]; omega)), ?_⟩ | refine ⟨IntKind.wrap _ _, rfl, ?_⟩ | refine andA ?_ | fail); conv => whnf) | fail
   refine congrArg some (congrArg bv (decide_eq_true ?_))
   show (if 0 - (q - n) > q - n then 0 - (q - n) else q - n) ≤ IntKind.i64.wrap ((if 0 - n > n then 0 - n else n).tdiv 2097152)
   have e1 : (if 0 - (q - n) > q - n then 0 - (q - n) else q - n) = max (q - n) (-(q - n)) := by split <;> omega
   have e2 : (if 0 - n > n then 0 - n else n) = max n (-n) := by split <;> omega
   rw [e1, e2, Int.tdiv_eq_ediv_of_nonneg (by omega), zg (by omega)]
   exact h
end Go.Proofs.YtmceekhgnfpamaaGreatDoor
namespace Go.Proofs.YtmceekhgnfpamaaGreatDoor
open Go Go.QL FoT
set_option maxHeartbeats 6400000
attribute [local irreducible] ACall FnC zaj FoT.stepM
def Cut3 (P : Program) (Γ : Cx) (x y z : Code) (Q : Exit → Fr → Sg → Prop) (fr' : Fr) (σ' : Sg) (fr : Fr) (σ : Sg) : Prop :=
 ∀ K : Fr → Sg → Prop, (∀ fr σ, Imp Γ fr σ fr' σ' → K fr σ) → AW P Γ x (Exit.thn (AW P Γ y (Exit.thn (AW P Γ z (Exit.thn K Q)) Q)) Q) fr σ
theorem Cut3.all {P : Program} {Γ : Cx} {fr : Fr} {σ : Sg} {Q : Exit → Fr → Sg → Prop} {x y z : Code} {fr' : Fr} {σ' : Sg}
  (h : ∀ K : Fr → Sg → Prop, (∀ fr σ, Imp Γ fr σ fr' σ' → K fr σ) → AW P Γ x (Exit.thn (AW P Γ y (Exit.thn (AW P Γ z (Exit.thn K Q)) Q)) Q) fr σ) : Cut3 P Γ x y z Q fr' σ' fr σ := h
theorem znc {P : Program} {Γ : Cx} {fr : Fr} {σ : Sg} {Q : Exit → Fr → Sg → Prop} {x y z r : Code} (fr' : Fr) (σ' : Sg)
  (h : Cut3 P Γ x y z Q fr' σ' fr σ) (k : AW P Γ r Q fr' σ') : AW P Γ (.seq x (.seq y (.seq z r))) Q fr σ := by
 refine zd (znb (h (AW P Γ r Q) fun _ _ i => zaq i k) ?_)
 intro e fr σ hq
 cases e <;> first | exact hq | exact zd (znb hq (fun e fr σ hq => by cases e <;> first | exact hq | exact zd hq))
attribute [irreducible] Cut3
theorem zoy {op : Int} (ho : op = 3 ∨ op = 5 ∨ op = 6) {a b : FloT} (ha : zG a) (hb : zG b) : zaC [a, b] [⟨op, 0, 1, 0⟩] = if (FoT.stepM op a b).2 = 0 then ([(FoT.stepM op a b).1, b], 0, 0) else ([], 0, (FoT.stepM op a b).2) := by
 have h1 : za8 [a, b] 0 = none := zbk.2 (by intro x hx; simp at hx; rcases hx with rfl | rfl <;> assumption)
 have h2 : zag ([a, b].length : Int) [⟨op, 0, 1, 0⟩] 0 = none := zaz.2 (by
  intro s hs; simp at hs; subst hs; rcases ho with rfl | rfl | rfl <;> rfl)
 unfold zaC
 rw [if_neg (by simp), h1]
 dsimp only
 rw [h2]
 dsimp only
 have h3 : runS [⟨op, 0, 1, 0⟩] 0 [a, b] = (if (FoT.stepM op a b).2 = 0 then runS [] 1 ([a, b].set 0 (FoT.stepM op a b).1) else .error (0, (FoT.stepM op a b).2)) := rfl
 rw [h3]
 by_cases h : (FoT.stepM op a b).2 = 0
 ·rw [if_pos h, if_pos h]; rfl
 ·rw [if_neg h, if_neg h]; rfl
abbrev bxS (a b : FloT) : Sg := [(3, .box [.d (.v (.int .i64 b.mant)), .d (.v (.int .i64 b.exp))]), (2, .box [.d (.v (.int .i64 a.mant)), .d (.v (.int .i64 a.exp))])]
abbrev frS : Fr := [(4, bv false), (3, .x (.b 3 0)), (2, .x (.b 2 0))]
theorem zrR (a b : FloT) (ha64 : i64 a.mant) (hb64 : i64 b.mant) : FnC Tryz.prog 12 [flAV a, flAV b] (bv true) := by
 have aw := zcK
 have fa := zbu a ha64
 have fb := zbu b hb64
 by_cases hab : zG a ∧ zG b
 ·obtain ⟨ha, hb'⟩ := hab
  rw [decide_eq_true ha] at fa
  rw [decide_eq_true hb'] at fb
  have h64 : ∀ x ∈ [a, b], i64 x.mant := by intro x hx; simp at hx; rcases hx with rfl | rfl <;> assumption
  have k5 := za5 [a, b] [⟨5, 0, 1, 0⟩] h64
  have k3 := za5 [a, b] [⟨3, 0, 1, 0⟩] h64
  have k6 := za5 [a, b] [⟨6, 0, 1, 0⟩] h64
  rw [zoy (by decide) ha hb'] at k5 k3 k6
  have ea := zb6 ha
  have eb := zb6 hb'
  have sa := zI ha
  have sb := zI hb'
  unfold zau at sa sb
  have ms := znS ha hb'
  have ml := zik (zI ha) (zI hb')
  have e5 : FoT.stepM 5 a b = zaj (a.mant * b.mant) (a.exp + b.exp - 46) := by unfold FoT.stepM; rfl
  have f5 := zbf (exp := a.exp + b.exp - 46) ml
  rw [← e5] at ms f5
  have near5 : (FoT.stepM 5 a b).2 = 0 → ∃ nb, FnC Tryz.prog 43 [flAV (FoT.stepM 5 a b).1, iv .i64 (a.mant * b.mant), iv .i64 (a.exp + b.exp - 46)] (bv nb) ∧ (nb = true ∨ (FoT.stepM 5 a b).1.mant = 0 ∧ a.exp + b.exp ≤ -64) := fun h => by
   rcases ms.1 h with h1 | ⟨h1, h2⟩
   ·exact ⟨_, zoZ _ _ _ f5 ml (by omega) h1, .inl rfl⟩
   ·exact ⟨_, zlZ _ (a.mant * b.mant) (a.exp + b.exp - 46) h1 (by omega) (by have := zb6 f5; omega), .inr ⟨h1, h2⟩⟩
  obtain ⟨n5, h5⟩ : ∃ n, a.mant * b.mant = n := ⟨_, rfl⟩
  have hw5 : IntKind.i64.wrap (a.mant * b.mant) = n5 := by rw [h5] at ml; rw [h5, zg (by omega)]
  rw [h5] at near5
  refine zj hTt Tryz.func12 rfl (by kernel_rfl) (res := [.tmp 4]) rfl Tryz.ntmps12 (by simp) fun w0 K0 => ?_
  dsimp only [entry]
  repeat' first | ((with_reducible refine znc (x := .region 3 _ _) frS (bxS a b) ?_ ?_) <;> conv => whnf) | ((with_reducible refine znc (x := .region 8 _ _) frS (bxS a b) ?_ ?_) <;> conv => whnf) | refine zd ?_ | ((first | refine zf ?_ | refine zb hTt ?_ | ((refine ⟨_, (fa).call rfl rfl, ?_⟩); (rintro _ _ ⟨rfl, rfl⟩)) | refine ⟨_, fun _ => (fb).call rfl rfl, ?_⟩ | refine And.intro ?_ ?_; focus (first | (exact trivial) | (exact fun h => h) | (exact zu) | (exact zw) | (exact zx) | (exact zE) | (exact fun h _ => h) | fail) | fail); conv => whnf) | (refine za rfl (fun hb => absurd (show false = true from hb) (by decide)) (fun _ => ?_)) | fail
  ·refine Cut3.all fun K hK => ?_
   by_cases he : (FoT.stepM 5 a b).2 = 0
   ·obtain ⟨nb, hnear, hnb⟩ := near5 he
    rw [if_pos he] at k5
    have g5 := zbu (FoT.stepM 5 a b).1 (zc8 f5)
    rw [decide_eq_true f5] at g5
    generalize (FoT.stepM 5 a b).1 = x5 at *
    clear k3 k6 near5 ms
    have hcf : (bif ((0 : Int) == 0) then (bif (bif (((2 : Nat) : Int) != 2) then true else !true) then true else (bif !nb then (bif x5.mant != 0 then true else decide (a.exp + b.exp > -64)) else false)) else false) = false := by
     rcases hnb with h | ⟨h, h2⟩
     ·subst h; rfl
     ·rw [h, decide_eq_false (by omega)]; cases nb <;> rfl
    repeat' first | refine zd ?_ | refine zc ?_ | refine zA ?_ | ((first | refine zf ?_ | refine zB ?_ | refine zk ?_ | refine zi ?_ | refine zb hTt ?_ | refine zl hTt hMix (id := 4) 41 false [0, 1, 3, 7, 15, 31, 63, 127, 255, 511, 1023, 2047, 4095, 8191, 16383, 32767, 65535, 16383, 147455, 16383, 540671, 1982463, 16383, 4210687, 16383, 16793599, 62930943, 130039807, 268435455, 536870911, 1073741823, 2147483647, 4294967295, 8589934591, 17179869183, 34359738367, 68719476735, 137438953471, 274877906943, 137438953471, 687194767359, 2199023255551, 4398046511103, 8796093022207, 17592186044415, 35184372088831, 70368744177663] (by kernel_rfl) rfl rfl (by kernel_rfl) ?_ | refine zl hTt hMix (id := 13) 13 true [0, 1, 0, 4, 15, 0, 32, 127, 0, 256, 768, 0, 2303, 8191] (by kernel_rfl) rfl rfl (by kernel_rfl) ?_ | refine zl hTt hMix (id := 16) 10 false [0, 1, 3, 7, 15, 7, 7, 71, 199, 487, 1023, 2047, 4095, 8191, 16383, 32767] (by kernel_rfl) rfl rfl (by kernel_rfl) ?_ | refine zl hTt hMix (id := 32) 5 false [0, 1, 0, 4, 12, 31, 63] (by kernel_rfl) rfl rfl (by kernel_rfl) ?_ | refine zl hTt hMix (id := 33) 21 false [0, 1, 0, 4, 15, 0, 63, 0, 0, 256, 0, 1024, 3840, 8064, 16383, 0, 0, 65536, 229376, 0, 1015808, 2097151, 4194303, 8388607, 16777215, 33554431] (by kernel_rfl) rfl rfl (by kernel_rfl) ?_ | refine LateGo.mk ⟨_, rfl, ?_⟩ | refine LateGo.mk ⟨.x .j, rfl, ?_⟩ | fail); conv => whnf) | (refine za rfl (zM hcf) (fun _ => ?_)) | ((first | ((refine ⟨_, (k5).call rfl rfl, ?_⟩); (rintro _ _ ⟨rfl, rfl⟩)) | refine ⟨_, fun _ => (k5).call rfl rfl, ?_⟩ | refine ⟨_, fun _ _ => (k5).call rfl rfl, ?_⟩ | ((refine ⟨_, (g5).call rfl rfl, ?_⟩); (rintro _ _ ⟨rfl, rfl⟩)) | refine ⟨_, fun _ => (g5).call rfl rfl, ?_⟩ | refine ⟨_, fun _ _ => (g5).call rfl rfl, ?_⟩ | ((refine ⟨_, (hnear).call rfl rfl, ?_⟩); (rintro _ _ ⟨rfl, rfl⟩)) | refine ⟨_, fun _ => (hnear).call rfl rfl, ?_⟩ | refine ⟨_, fun _ _ => (hnear).call rfl rfl, ?_⟩ | refine And.intro ?_ ?_; focus (first | (exact trivial) | (exact fun h => h) | (exact zu) | (exact zw) | (exact zx) | (exact zE) | (exact fun h _ => h) | fail) | refine ⟨_, hw5, ?_⟩ | refine ⟨_, ze ⟨by decide, rfl⟩, ?_⟩ | fail); conv => whnf) | (exact hK _ _ impA) | (refine za rfl (fun _ => ?_) (fun hb => absurd (show true = false from hb) (by decide))) | (refine za rfl (fun hb => absurd (show false = true from hb) (by decide)) (fun _ => ?_)) | (refine za rfl (fun _ => ?_) (fun hb => absurd hb (by decide))) | (refine za rfl (fun hb => absurd hb (by decide)) (fun _ => ?_)) | (refine za rfl (fun hb => ?_) (fun hb => ?_) <;> first | (replace hb := of_decide_eq_true hb; try simp only [List.length_map] at hb) | (replace hb := of_decide_eq_false hb; try simp only [List.length_map] at hb)) | ((first | refine ⟨_, zg (by first | omega | (simp only [List.length_map]; omega)), ?_⟩ | refine ⟨IntKind.wrap _ _, rfl, ?_⟩ | refine andA ?_ | with_reducible refine Exists.intro _ (And.intro (ze (And.intro (by omega) (zn (by omega)))) ?_) | with_reducible refine And.intro (ze (And.intro (by omega) (And.intro (by first | omega | (simp only [List.length_map]; omega)) (by first | omega | (simp only [List.length_map]; omega) | (simp only [List.length_set, List.length_map]; omega))))) ?_ | with_reducible refine Exists.intro _ (And.intro (ze (zh (by omega) (by omega))) (And.intro (And.intro (Nat.le_of_ble_eq_true rfl) rfl) ?_)) | with_reducible refine Exists.intro _ (And.intro (ze (And.intro (by omega) (zh (by omega) (by omega)))) ?_) | with_reducible refine And.intro (And.intro (by omega) (And.intro (by first | omega | (simp only [List.length_map]; omega)) (by first | omega | (simp only [List.length_map, List.length_set]; omega)))) ?_ | with_reducible refine Exists.intro _ (And.intro (zh (by omega) (by omega)) (And.intro (Nat.le_of_ble_eq_true rfl) ?_)) | fail); conv => whnf) | ((refine And.intro (by refine ⟨?_, ?_, ?_⟩ <;> simp [zO, maxLen] <;> omega) ?_); conv => whnf) | (refine fun hln => ?_; (try rw [List.length_map] at hln); unfold maxLen at hln; conv => whnf) | fail
   ·rw [if_neg he] at k5
    obtain ⟨e1, e2⟩ := ms.2 he
    rw [e1] at k5
    have hcf : (bif ((171 : Int) != 0) then (bif ((171 : Int) != 171) then true else decide (a.exp + b.exp < 63)) else false) = false := by rw [decide_eq_false (show ¬ a.exp + b.exp < 63 by omega)]; rfl
    clear k3 k6 near5 ms
    repeat' first | refine zd ?_ | refine zc ?_ | refine zA ?_ | ((first | refine zf ?_ | refine zB ?_ | refine zk ?_ | refine zi ?_ | refine zb hTt ?_ | refine zl hTt hMix (id := 4) 41 false [0, 1, 3, 7, 15, 31, 63, 127, 255, 511, 1023, 2047, 4095, 8191, 16383, 32767, 65535, 16383, 147455, 16383, 540671, 1982463, 16383, 4210687, 16383, 16793599, 62930943, 130039807, 268435455, 536870911, 1073741823, 2147483647, 4294967295, 8589934591, 17179869183, 34359738367, 68719476735, 137438953471, 274877906943, 137438953471, 687194767359, 2199023255551, 4398046511103, 8796093022207, 17592186044415, 35184372088831, 70368744177663] (by kernel_rfl) rfl rfl (by kernel_rfl) ?_ | refine zl hTt hMix (id := 13) 13 true [0, 1, 0, 4, 15, 0, 32, 127, 0, 256, 768, 0, 2303, 8191] (by kernel_rfl) rfl rfl (by kernel_rfl) ?_ | refine zl hTt hMix (id := 16) 10 false [0, 1, 3, 7, 15, 7, 7, 71, 199, 487, 1023, 2047, 4095, 8191, 16383, 32767] (by kernel_rfl) rfl rfl (by kernel_rfl) ?_ | refine zl hTt hMix (id := 32) 5 false [0, 1, 0, 4, 12, 31, 63] (by kernel_rfl) rfl rfl (by kernel_rfl) ?_ | refine zl hTt hMix (id := 33) 21 false [0, 1, 0, 4, 15, 0, 63, 0, 0, 256, 0, 1024, 3840, 8064, 16383, 0, 0, 65536, 229376, 0, 1015808, 2097151, 4194303, 8388607, 16777215, 33554431] (by kernel_rfl) rfl rfl (by kernel_rfl) ?_ | refine LateGo.mk ⟨_, rfl, ?_⟩ | refine LateGo.mk ⟨.x .j, rfl, ?_⟩ | fail); conv => whnf) | (exact absurd hb (by omega)) | (refine za rfl (zM hcf) (fun _ => ?_)) | ((first | ((refine ⟨_, (k5).call rfl rfl, ?_⟩); (rintro _ _ ⟨rfl, rfl⟩)) | refine ⟨_, fun _ => (k5).call rfl rfl, ?_⟩ | refine ⟨_, fun _ _ => (k5).call rfl rfl, ?_⟩ | refine And.intro ?_ ?_; focus (first | (exact trivial) | (exact fun h => h) | (exact zu) | (exact zw) | (exact zx) | (exact zE) | (exact fun h _ => h) | fail) | refine ⟨flPV zeroFl, zax (fun h => absurd h (by decide)), ?_⟩ | refine ⟨bv true, zax (fun h => absurd h (by decide)), ?_⟩ | refine ⟨_, hw5, ?_⟩ | fail); conv => whnf) | (exact hK _ _ impA) | (refine za rfl (fun _ => ?_) (fun hb => absurd (show true = false from hb) (by decide))) | (refine za rfl (fun hb => absurd (show false = true from hb) (by decide)) (fun _ => ?_)) | (refine za rfl (fun _ => ?_) (fun hb => absurd hb (by decide))) | (refine za rfl (fun hb => absurd hb (by decide)) (fun _ => ?_)) | (refine za rfl (fun hb => ?_) (fun hb => ?_) <;> first | (replace hb := of_decide_eq_true hb; try simp only [List.length_map] at hb) | (replace hb := of_decide_eq_false hb; try simp only [List.length_map] at hb)) | ((first | refine ⟨_, zg (by first | omega | (simp only [List.length_map]; omega)), ?_⟩ | refine ⟨IntKind.wrap _ _, rfl, ?_⟩ | refine andA ?_ | with_reducible refine Exists.intro _ (And.intro (ze (And.intro (by omega) (zn (by omega)))) ?_) | with_reducible refine And.intro (ze (And.intro (by omega) (And.intro (by first | omega | (simp only [List.length_map]; omega)) (by first | omega | (simp only [List.length_map]; omega) | (simp only [List.length_set, List.length_map]; omega))))) ?_ | with_reducible refine Exists.intro _ (And.intro (ze (zh (by omega) (by omega))) (And.intro (And.intro (Nat.le_of_ble_eq_true rfl) rfl) ?_)) | with_reducible refine Exists.intro _ (And.intro (ze (And.intro (by omega) (zh (by omega) (by omega)))) ?_) | with_reducible refine And.intro (And.intro (by omega) (And.intro (by first | omega | (simp only [List.length_map]; omega)) (by first | omega | (simp only [List.length_map, List.length_set]; omega)))) ?_ | with_reducible refine Exists.intro _ (And.intro (zh (by omega) (by omega)) (And.intro (Nat.le_of_ble_eq_true rfl) ?_)) | fail); conv => whnf) | ((refine And.intro (by refine ⟨?_, ?_, ?_⟩ <;> simp [zO, maxLen] <;> omega) ?_); conv => whnf) | (refine fun hln => ?_; (try rw [List.length_map] at hln); unfold maxLen at hln; conv => whnf) | fail
  ·refine Cut3.all fun K hK => ?_
   clear k5 k6 near5 ms hw5
   have e3 : FoT.stepM 3 a b = zbz a b := by unfold FoT.stepM; rfl
   have f3 : zG (FoT.stepM 3 a b).1 := zeN ha hb'
   have ps := zlM ha hb'
   rw [← e3] at ps
   by_cases he : (FoT.stepM 3 a b).2 = 0
   ·rw [if_pos he] at k3
    by_cases hc : 0 ≤ a.exp - b.exp ∧ a.exp - b.exp ≤ 30 ∧ a.mant ≠ 0 ∧ b.mant ≠ 0
    ·obtain ⟨c1, c2, c3, c4⟩ := hc
     have ps := ps c3 c4 rfl c1 c2 he
     have g3 := zbu (FoT.stepM 3 a b).1 (zc8 f3)
     rw [decide_eq_true f3] at g3
     generalize (FoT.stepM 3 a b).1 = x3 at *
     have ex := zb6 f3
     have sx := zI f3
     unfold zau at sx
     obtain ⟨k, hk⟩ : ∃ k : Nat, a.exp - b.exp = k := ⟨(a.exp - b.exp).toNat, by omega⟩
     have t2 := zcV k (by omega)
     rw [hk, Int.toNat_natCast] at ps
     rw [← hk] at t2
     have hp : 1 ≤ (2 : Int) ^ k ∧ (2 : Int) ^ k ≤ 1073741824 := by
      have h1 : (2 : Nat) ^ k ≤ 2 ^ 30 := Nat.pow_le_pow_right (by decide) (by omega)
      have h2 : 1 ≤ (2 : Nat) ^ k := Nat.one_le_two_pow
      have e : (2 : Int) ^ k = ((2 ^ k : Nat) : Int) := by norm_cast
      rw [e]; omega
     generalize (2 : Int) ^ k = p at ps t2 hp
     have hq : -9007199254740992 ≤ a.mant * p ∧ a.mant * p ≤ 9007199254740992 := by
      constructor
      ·have h1 : (-8388607) * p ≤ a.mant * p := Int.mul_le_mul_of_nonneg_right (by omega) (by omega)
       omega
      ·have h1 : a.mant * p ≤ 8388607 * p := Int.mul_le_mul_of_nonneg_right (by omega) (by omega)
       omega
     generalize hqq : a.mant * p = q at ps hq
     have hw : IntKind.i64.wrap (a.mant * p) = q := by rw [hqq, zg (by omega)]
     have hct : (bif (bif (bif (bif ((0 : Int) == 0) then decide (a.exp - b.exp ≥ 0) else false) then decide (a.exp - b.exp ≤ 30) else false) then (a.mant != 0) else false) then (b.mant != 0) else false) = true := by
      rw [decide_eq_true (show a.exp - b.exp ≥ 0 from c1), decide_eq_true c2, bne_iff_ne.2 c3, bne_iff_ne.2 c4]; rfl
     by_cases hsh : x3.mant ≠ 0 ∧ x3.exp - b.exp < 0
     ·obtain ⟨q1, q2⟩ := ps.1 hsh
      obtain ⟨k2, hk2⟩ : ∃ k2 : Nat, 0 - (x3.exp - b.exp) = k2 := ⟨(-(x3.exp - b.exp)).toNat, by omega⟩
      have t3 := zcV k2 (by omega)
      rw [show (-(x3.exp - b.exp)).toNat = k2 by omega] at q2
      rw [← hk2] at t3
      generalize (2 : Int) ^ k2 = p2 at q2 t3
      have hw2 : IntKind.i64.wrap ((q + b.mant) * p2) = x3.mant := by rw [← q2, zg (by omega)]
      have hcs : (bif x3.mant != 0 then decide (x3.exp - b.exp < 0) else false) = true := by rw [bne_iff_ne.2 hsh.1, decide_eq_true hsh.2]; rfl
      have hfin : (bif (bif decide (x3.exp - b.exp > -24) then x3.mant == x3.mant else false) then true else false) = true := by rw [decide_eq_true (show x3.exp - b.exp > -24 from q1), beq_self_eq_true]; rfl
      clear ps
      repeat' first | refine zd ?_ | ((first | refine zf ?_ | refine zi ?_ | refine zb hTt ?_ | refine zl hTt hMix (id := 13) 13 true [0, 1, 0, 4, 15, 0, 32, 127, 0, 256, 768, 0, 2303, 8191] (by kernel_rfl) rfl rfl (by kernel_rfl) ?_ | refine zl hTt hMix (id := 16) 10 false [0, 1, 3, 7, 15, 7, 7, 71, 199, 487, 1023, 2047, 4095, 8191, 16383, 32767] (by kernel_rfl) rfl rfl (by kernel_rfl) ?_ | fail); conv => whnf) | (refine za rfl (fun _ => ?_) (zaf hct)) | (refine za rfl (fun _ => ?_) (zaf hcs)) | ((first | ((refine ⟨_, (k3).call rfl rfl, ?_⟩); (rintro _ _ ⟨rfl, rfl⟩)) | refine ⟨_, fun _ => (g3).call rfl rfl, ?_⟩ | refine ⟨_, fun _ => (t2).call rfl rfl, ?_⟩ | refine ⟨_, fun _ _ => (t3).call rfl rfl, ?_⟩ | refine ⟨_, fun _ => (aw).call rfl rfl, ?_⟩ | refine And.intro ?_ ?_; focus (first | (exact trivial) | (exact fun h => h) | (exact zu) | (exact zw) | (exact zx) | (exact zE) | (exact fun h _ => h) | fail) | refine ⟨_, hw, ?_⟩ | refine ⟨_, hw2, ?_⟩ | refine ⟨_, ze ⟨by decide, rfl⟩, ?_⟩ | fail); conv => whnf) | (refine za rfl (fun hb => absurd (show false = true from hb) (by decide)) (fun _ => ?_)) | ((first | refine ⟨_, zg (by first | omega | (simp only [List.length_map]; omega)), ?_⟩ | refine andA ?_ | fail); conv => whnf) | (refine fun hln => ?_; (try rw [List.length_map] at hln); unfold maxLen at hln; conv => whnf) | fail
      all_goals exact congrArg some (congrArg bv hfin)
     ·have hn : (q + b.mant).natAbs < 4611686018427387904 := by omega
      obtain ⟨nb, hnear, hnb⟩ : ∃ nb, FnC Tryz.prog 43 [flAV x3, iv .i64 (q + b.mant), iv .i64 (b.exp - 23)] (bv nb) ∧ (nb = true ∨ x3.mant = 0 ∧ b.exp < -40) := by
       rcases ps.2 hsh with h1 | ⟨h1, h2⟩
       ·exact ⟨_, zoZ _ _ _ f3 hn (by omega) h1, .inl rfl⟩
       ·exact ⟨_, zlZ _ (q + b.mant) (b.exp - 23) h1 (by omega) (by omega), .inr ⟨h1, h2⟩⟩
      have hcs : (bif x3.mant != 0 then decide (x3.exp - b.exp < 0) else false) = false := by
       by_cases h0 : x3.mant = 0
       ·rw [h0]; rfl
       ·rw [decide_eq_false (fun h => hsh ⟨h0, h⟩)]; cases (x3.mant != 0) <;> rfl
      have hcn : (bif !nb then (bif x3.mant != 0 then true else decide (b.exp ≥ -40)) else false) = false := by
       rcases hnb with h | ⟨h, h2⟩
       ·subst h; rfl
       ·rw [h, decide_eq_false (by omega)]; cases nb <;> rfl
      clear ps
      repeat' first | refine zd ?_ | refine zc ?_ | refine zA ?_ | ((first | refine zf ?_ | refine zB ?_ | refine zk ?_ | refine zi ?_ | refine zb hTt ?_ | refine zl hTt hMix (id := 4) 41 false [0, 1, 3, 7, 15, 31, 63, 127, 255, 511, 1023, 2047, 4095, 8191, 16383, 32767, 65535, 16383, 147455, 16383, 540671, 1982463, 16383, 4210687, 16383, 16793599, 62930943, 130039807, 268435455, 536870911, 1073741823, 2147483647, 4294967295, 8589934591, 17179869183, 34359738367, 68719476735, 137438953471, 274877906943, 137438953471, 687194767359, 2199023255551, 4398046511103, 8796093022207, 17592186044415, 35184372088831, 70368744177663] (by kernel_rfl) rfl rfl (by kernel_rfl) ?_ | refine zl hTt hMix (id := 13) 13 true [0, 1, 0, 4, 15, 0, 32, 127, 0, 256, 768, 0, 2303, 8191] (by kernel_rfl) rfl rfl (by kernel_rfl) ?_ | refine zl hTt hMix (id := 16) 10 false [0, 1, 3, 7, 15, 7, 7, 71, 199, 487, 1023, 2047, 4095, 8191, 16383, 32767] (by kernel_rfl) rfl rfl (by kernel_rfl) ?_ | refine zl hTt hMix (id := 32) 5 false [0, 1, 0, 4, 12, 31, 63] (by kernel_rfl) rfl rfl (by kernel_rfl) ?_ | refine zl hTt hMix (id := 33) 21 false [0, 1, 0, 4, 15, 0, 63, 0, 0, 256, 0, 1024, 3840, 8064, 16383, 0, 0, 65536, 229376, 0, 1015808, 2097151, 4194303, 8388607, 16777215, 33554431] (by kernel_rfl) rfl rfl (by kernel_rfl) ?_ | refine LateGo.mk ⟨_, rfl, ?_⟩ | refine LateGo.mk ⟨.x .j, rfl, ?_⟩ | fail); conv => whnf) | (exact absurd hb (by omega)) | (refine za rfl (fun _ => ?_) (zaf hct)) | (refine za rfl (zM hcs) (fun _ => ?_)) | (refine za rfl (zM hcn) (fun _ => ?_)) | ((first | ((refine ⟨_, (k3).call rfl rfl, ?_⟩); (rintro _ _ ⟨rfl, rfl⟩)) | refine ⟨_, fun _ => (k3).call rfl rfl, ?_⟩ | refine ⟨_, fun _ _ => (k3).call rfl rfl, ?_⟩ | ((refine ⟨_, (g3).call rfl rfl, ?_⟩); (rintro _ _ ⟨rfl, rfl⟩)) | refine ⟨_, fun _ => (g3).call rfl rfl, ?_⟩ | refine ⟨_, fun _ _ => (g3).call rfl rfl, ?_⟩ | ((refine ⟨_, (t2).call rfl rfl, ?_⟩); (rintro _ _ ⟨rfl, rfl⟩)) | refine ⟨_, fun _ => (t2).call rfl rfl, ?_⟩ | refine ⟨_, fun _ _ => (t2).call rfl rfl, ?_⟩ | ((refine ⟨_, (hnear).call rfl rfl, ?_⟩); (rintro _ _ ⟨rfl, rfl⟩)) | refine ⟨_, fun _ => (hnear).call rfl rfl, ?_⟩ | refine ⟨_, fun _ _ => (hnear).call rfl rfl, ?_⟩ | refine And.intro ?_ ?_; focus (first | (exact trivial) | (exact fun h => h) | (exact zu) | (exact zw) | (exact zx) | (exact zE) | (exact fun h _ => h) | fail) | refine ⟨_, hw, ?_⟩ | refine ⟨_, ze ⟨by decide, rfl⟩, ?_⟩ | refine ⟨_, ⟨by decide, rfl⟩, ?_⟩ | fail); conv => whnf) | (exact hK _ _ impA) | (refine za rfl (fun _ => ?_) (fun hb => absurd (show true = false from hb) (by decide))) | (refine za rfl (fun hb => absurd (show false = true from hb) (by decide)) (fun _ => ?_)) | (refine za rfl (fun _ => ?_) (fun hb => absurd hb (by decide))) | (refine za rfl (fun hb => absurd hb (by decide)) (fun _ => ?_)) | (refine za rfl (fun hb => ?_) (fun hb => ?_) <;> first | (replace hb := of_decide_eq_true hb; try simp only [List.length_map] at hb) | (replace hb := of_decide_eq_false hb; try simp only [List.length_map] at hb)) | ((first | refine ⟨_, zg (by first | omega | (simp only [List.length_map]; omega)), ?_⟩ | refine ⟨IntKind.wrap _ _, rfl, ?_⟩ | refine andA ?_ | with_reducible refine Exists.intro _ (And.intro (ze (And.intro (by omega) (zn (by omega)))) ?_) | with_reducible refine And.intro (ze (And.intro (by omega) (And.intro (by first | omega | (simp only [List.length_map]; omega)) (by first | omega | (simp only [List.length_map]; omega) | (simp only [List.length_set, List.length_map]; omega))))) ?_ | with_reducible refine Exists.intro _ (And.intro (ze (zh (by omega) (by omega))) (And.intro (And.intro (Nat.le_of_ble_eq_true rfl) rfl) ?_)) | with_reducible refine Exists.intro _ (And.intro (ze (And.intro (by omega) (zh (by omega) (by omega)))) ?_) | with_reducible refine And.intro (And.intro (by omega) (And.intro (by first | omega | (simp only [List.length_map]; omega)) (by first | omega | (simp only [List.length_map, List.length_set]; omega)))) ?_ | with_reducible refine Exists.intro _ (And.intro (zh (by omega) (by omega)) (And.intro (Nat.le_of_ble_eq_true rfl) ?_)) | fail); conv => whnf) | ((refine And.intro (by refine ⟨?_, ?_, ?_⟩ <;> simp [zO, maxLen] <;> omega) ?_); conv => whnf) | (refine fun hln => ?_; (try rw [List.length_map] at hln); unfold maxLen at hln; conv => whnf) | fail
    ·have hcf : (bif (bif (bif (bif ((0 : Int) == 0) then decide (a.exp - b.exp ≥ 0) else false) then decide (a.exp - b.exp ≤ 30) else false) then (a.mant != 0) else false) then (b.mant != 0) else false) = false := by
      by_cases c3 : a.mant = 0
      ·simp [c3]
      ·by_cases c4 : b.mant = 0
       ·simp [c4]
       ·by_cases c1 : a.exp - b.exp ≥ 0
        ·rw [decide_eq_false (show ¬ a.exp - b.exp ≤ 30 from fun h => hc ⟨c1, h, c3, c4⟩)]; cases decide (a.exp - b.exp ≥ 0) <;> rfl
        ·rw [decide_eq_false c1]; rfl
     generalize (FoT.stepM 3 a b).1 = x3 at *
     clear ps
     repeat' first | refine zd ?_ | refine zc ?_ | refine zA ?_ | ((first | refine zf ?_ | refine zB ?_ | refine zk ?_ | refine zi ?_ | refine zb hTt ?_ | refine zl hTt hMix (id := 4) 41 false [0, 1, 3, 7, 15, 31, 63, 127, 255, 511, 1023, 2047, 4095, 8191, 16383, 32767, 65535, 16383, 147455, 16383, 540671, 1982463, 16383, 4210687, 16383, 16793599, 62930943, 130039807, 268435455, 536870911, 1073741823, 2147483647, 4294967295, 8589934591, 17179869183, 34359738367, 68719476735, 137438953471, 274877906943, 137438953471, 687194767359, 2199023255551, 4398046511103, 8796093022207, 17592186044415, 35184372088831, 70368744177663] (by kernel_rfl) rfl rfl (by kernel_rfl) ?_ | refine zl hTt hMix (id := 13) 13 true [0, 1, 0, 4, 15, 0, 32, 127, 0, 256, 768, 0, 2303, 8191] (by kernel_rfl) rfl rfl (by kernel_rfl) ?_ | refine zl hTt hMix (id := 16) 10 false [0, 1, 3, 7, 15, 7, 7, 71, 199, 487, 1023, 2047, 4095, 8191, 16383, 32767] (by kernel_rfl) rfl rfl (by kernel_rfl) ?_ | refine zl hTt hMix (id := 32) 5 false [0, 1, 0, 4, 12, 31, 63] (by kernel_rfl) rfl rfl (by kernel_rfl) ?_ | refine zl hTt hMix (id := 33) 21 false [0, 1, 0, 4, 15, 0, 63, 0, 0, 256, 0, 1024, 3840, 8064, 16383, 0, 0, 65536, 229376, 0, 1015808, 2097151, 4194303, 8388607, 16777215, 33554431] (by kernel_rfl) rfl rfl (by kernel_rfl) ?_ | refine LateGo.mk ⟨_, rfl, ?_⟩ | refine LateGo.mk ⟨.x .j, rfl, ?_⟩ | fail); conv => whnf) | (exact absurd hb (by omega)) | (refine za rfl (zM hcf) (fun _ => ?_)) | ((first | ((refine ⟨_, (k3).call rfl rfl, ?_⟩); (rintro _ _ ⟨rfl, rfl⟩)) | refine ⟨_, fun _ => (k3).call rfl rfl, ?_⟩ | refine ⟨_, fun _ _ => (k3).call rfl rfl, ?_⟩ | refine And.intro ?_ ?_; focus (first | (exact trivial) | (exact fun h => h) | (exact zu) | (exact zw) | (exact zx) | (exact zE) | (exact fun h _ => h) | fail) | fail); conv => whnf) | (exact hK _ _ impA) | (refine za rfl (fun _ => ?_) (fun hb => absurd (show true = false from hb) (by decide))) | (refine za rfl (fun hb => absurd (show false = true from hb) (by decide)) (fun _ => ?_)) | (refine za rfl (fun _ => ?_) (fun hb => absurd hb (by decide))) | (refine za rfl (fun hb => absurd hb (by decide)) (fun _ => ?_)) | (refine za rfl (fun hb => ?_) (fun hb => ?_) <;> first | (replace hb := of_decide_eq_true hb; try simp only [List.length_map] at hb) | (replace hb := of_decide_eq_false hb; try simp only [List.length_map] at hb)) | ((first | refine ⟨_, zg (by first | omega | (simp only [List.length_map]; omega)), ?_⟩ | refine ⟨IntKind.wrap _ _, rfl, ?_⟩ | refine andA ?_ | with_reducible refine Exists.intro _ (And.intro (ze (And.intro (by omega) (zn (by omega)))) ?_) | with_reducible refine And.intro (ze (And.intro (by omega) (And.intro (by first | omega | (simp only [List.length_map]; omega)) (by first | omega | (simp only [List.length_map]; omega) | (simp only [List.length_set, List.length_map]; omega))))) ?_ | with_reducible refine Exists.intro _ (And.intro (ze (zh (by omega) (by omega))) (And.intro (And.intro (Nat.le_of_ble_eq_true rfl) rfl) ?_)) | with_reducible refine Exists.intro _ (And.intro (ze (And.intro (by omega) (zh (by omega) (by omega)))) ?_) | with_reducible refine And.intro (And.intro (by omega) (And.intro (by first | omega | (simp only [List.length_map]; omega)) (by first | omega | (simp only [List.length_map, List.length_set]; omega)))) ?_ | with_reducible refine Exists.intro _ (And.intro (zh (by omega) (by omega)) (And.intro (Nat.le_of_ble_eq_true rfl) ?_)) | fail); conv => whnf) | ((refine And.intro (by refine ⟨?_, ?_, ?_⟩ <;> simp [zO, maxLen] <;> omega) ?_); conv => whnf) | (refine fun hln => ?_; (try rw [List.length_map] at hln); unfold maxLen at hln; conv => whnf) | fail
   ·rw [if_neg he] at k3
    generalize (FoT.stepM 3 a b).2 = e at *
    have hcf : (bif (bif (bif (bif (e == 0) then decide (a.exp - b.exp ≥ 0) else false) then decide (a.exp - b.exp ≤ 30) else false) then (a.mant != 0) else false) then (b.mant != 0) else false) = false := by
     rw [beq_eq_false_iff_ne.2 he]; rfl
    clear ps
    repeat' first | refine zd ?_ | refine zc ?_ | refine zA ?_ | ((first | refine zf ?_ | refine zB ?_ | refine zk ?_ | refine zi ?_ | refine zb hTt ?_ | refine zl hTt hMix (id := 4) 41 false [0, 1, 3, 7, 15, 31, 63, 127, 255, 511, 1023, 2047, 4095, 8191, 16383, 32767, 65535, 16383, 147455, 16383, 540671, 1982463, 16383, 4210687, 16383, 16793599, 62930943, 130039807, 268435455, 536870911, 1073741823, 2147483647, 4294967295, 8589934591, 17179869183, 34359738367, 68719476735, 137438953471, 274877906943, 137438953471, 687194767359, 2199023255551, 4398046511103, 8796093022207, 17592186044415, 35184372088831, 70368744177663] (by kernel_rfl) rfl rfl (by kernel_rfl) ?_ | refine zl hTt hMix (id := 13) 13 true [0, 1, 0, 4, 15, 0, 32, 127, 0, 256, 768, 0, 2303, 8191] (by kernel_rfl) rfl rfl (by kernel_rfl) ?_ | refine zl hTt hMix (id := 16) 10 false [0, 1, 3, 7, 15, 7, 7, 71, 199, 487, 1023, 2047, 4095, 8191, 16383, 32767] (by kernel_rfl) rfl rfl (by kernel_rfl) ?_ | refine zl hTt hMix (id := 32) 5 false [0, 1, 0, 4, 12, 31, 63] (by kernel_rfl) rfl rfl (by kernel_rfl) ?_ | refine zl hTt hMix (id := 33) 21 false [0, 1, 0, 4, 15, 0, 63, 0, 0, 256, 0, 1024, 3840, 8064, 16383, 0, 0, 65536, 229376, 0, 1015808, 2097151, 4194303, 8388607, 16777215, 33554431] (by kernel_rfl) rfl rfl (by kernel_rfl) ?_ | refine LateGo.mk ⟨_, rfl, ?_⟩ | refine LateGo.mk ⟨.x .j, rfl, ?_⟩ | fail); conv => whnf) | (exact absurd hb (by omega)) | (refine za rfl (zM hcf) (fun _ => ?_)) | ((first | ((refine ⟨_, (k3).call rfl rfl, ?_⟩); (rintro _ _ ⟨rfl, rfl⟩)) | refine ⟨_, fun _ => (k3).call rfl rfl, ?_⟩ | refine ⟨_, fun _ _ => (k3).call rfl rfl, ?_⟩ | refine And.intro ?_ ?_; focus (first | (exact trivial) | (exact fun h => h) | (exact zu) | (exact zw) | (exact zx) | (exact zE) | (exact fun h _ => h) | fail) | fail); conv => whnf) | (exact hK _ _ impA) | (refine za rfl (fun _ => ?_) (fun hb => absurd (show true = false from hb) (by decide))) | (refine za rfl (fun hb => absurd (show false = true from hb) (by decide)) (fun _ => ?_)) | (refine za rfl (fun _ => ?_) (fun hb => absurd hb (by decide))) | (refine za rfl (fun hb => absurd hb (by decide)) (fun _ => ?_)) | (refine za rfl (fun hb => ?_) (fun hb => ?_) <;> first | (replace hb := of_decide_eq_true hb; try simp only [List.length_map] at hb) | (replace hb := of_decide_eq_false hb; try simp only [List.length_map] at hb)) | ((first | refine ⟨_, zg (by first | omega | (simp only [List.length_map]; omega)), ?_⟩ | refine ⟨IntKind.wrap _ _, rfl, ?_⟩ | refine andA ?_ | with_reducible refine Exists.intro _ (And.intro (ze (And.intro (by omega) (zn (by omega)))) ?_) | with_reducible refine And.intro (ze (And.intro (by omega) (And.intro (by first | omega | (simp only [List.length_map]; omega)) (by first | omega | (simp only [List.length_map]; omega) | (simp only [List.length_set, List.length_map]; omega))))) ?_ | with_reducible refine Exists.intro _ (And.intro (ze (zh (by omega) (by omega))) (And.intro (And.intro (Nat.le_of_ble_eq_true rfl) rfl) ?_)) | with_reducible refine Exists.intro _ (And.intro (ze (And.intro (by omega) (zh (by omega) (by omega)))) ?_) | with_reducible refine And.intro (And.intro (by omega) (And.intro (by first | omega | (simp only [List.length_map]; omega)) (by first | omega | (simp only [List.length_map, List.length_set]; omega)))) ?_ | with_reducible refine Exists.intro _ (And.intro (zh (by omega) (by omega)) (And.intro (Nat.le_of_ble_eq_true rfl) ?_)) | fail); conv => whnf) | ((refine And.intro (by refine ⟨?_, ?_, ?_⟩ <;> simp [zO, maxLen] <;> omega) ?_); conv => whnf) | (refine fun hln => ?_; (try rw [List.length_map] at hln); unfold maxLen at hln; conv => whnf) | fail
  ·clear k5 k3 near5 ms hw5
   by_cases hb0 : b.mant = 0
   ·have e6 : FoT.stepM 6 a b = (zeroFl, 8) := by unfold FoT.stepM; rw [if_neg (by decide), if_neg (by decide), if_neg (by decide), if_pos hb0]
    rw [e6, if_neg (by decide)] at k6
    repeat' first | refine zd ?_ | ((first | refine zf ?_ | refine zi ?_ | refine zb hTt ?_ | fail); conv => whnf) | (exact absurd hb (by omega)) | ((first | ((refine ⟨_, (k6).call rfl rfl, ?_⟩); (rintro _ _ ⟨rfl, rfl⟩)) | refine ⟨_, fun _ => (aw).call rfl rfl, ?_⟩ | refine And.intro ?_ ?_; focus (first | (exact trivial) | (exact fun h => h) | (exact zu) | (exact zw) | (exact zx) | (exact zE) | (exact fun h _ => h) | fail) | fail); conv => whnf) | (refine za rfl (fun hb => ?_) (fun hb => ?_) <;> first | (replace hb := of_decide_eq_true hb; try simp only [List.length_map] at hb) | (replace hb := of_decide_eq_false hb; try simp only [List.length_map] at hb)) | fail
    all_goals rfl
   ·have e6 : FoT.stepM 6 a b = zaj ((a.mant * 1073741824).tdiv b.mant) (a.exp - b.exp - 30) := by unfold FoT.stepM; rw [if_neg (by decide), if_neg (by decide), if_neg (by decide), if_neg hb0]
    have ds := zop ha hb' hb0
    rw [← e6] at ds
    obtain ⟨d1, d2, d3⟩ := ds
    by_cases he : (FoT.stepM 6 a b).2 = 0
    ·rw [if_pos he] at k6
     have d2 := d2 he
     have d3 := d3 he
     generalize (FoT.stepM 6 a b).1 = x6 at *
     by_cases h0 : x6.mant = 0
     ·have hfin : (bif (bif a.mant == 0 then true else decide (a.exp - b.exp ≤ -64)) then true else false) = true := by
       rcases d2 h0 with h | h
       ·rw [h]; rfl
       ·rw [decide_eq_true h]; cases (a.mant == 0) <;> rfl
      repeat' first | refine zd ?_ | ((first | refine zf ?_ | refine zi ?_ | refine zb hTt ?_ | fail); conv => whnf) | (exact absurd hb (by omega)) | ((first | ((refine ⟨_, (k6).call rfl rfl, ?_⟩); (rintro _ _ ⟨rfl, rfl⟩)) | refine ⟨_, fun _ => (aw).call rfl rfl, ?_⟩ | refine And.intro ?_ ?_; focus (first | (exact trivial) | (exact fun h => h) | (exact zu) | (exact zw) | (exact zx) | (exact zE) | (exact fun h _ => h) | fail) | refine ⟨_, ze ⟨by decide, rfl⟩, ?_⟩ | fail); conv => whnf) | (refine za rfl (fun hb => absurd (show false = true from hb) (by decide)) (fun _ => ?_)) | (refine za rfl (fun hb => ?_) (fun hb => ?_) <;> first | (replace hb := of_decide_eq_true hb; try simp only [List.length_map] at hb) | (replace hb := of_decide_eq_false hb; try simp only [List.length_map] at hb)) | ((first | refine ⟨_, zg (by first | omega | (simp only [List.length_map]; omega)), ?_⟩ | refine andA ?_ | fail); conv => whnf) | (refine fun hln => ?_; (try rw [List.length_map] at hln); unfold maxLen at hln; conv => whnf) | fail
      all_goals exact congrArg some (congrArg bv hfin)
     ·obtain ⟨f6, s1, s2, s3⟩ := d3 h0
      have g6 := zbu x6 (zc8 f6)
      rw [decide_eq_true f6] at g6
      have ex := zb6 f6
      have sx := zI f6
      unfold zau at sx
      obtain ⟨k, hk⟩ : ∃ k : Nat, 0 - (x6.exp + b.exp - 23 - a.exp) = k := ⟨(-(x6.exp + b.exp - 23 - a.exp)).toNat, by omega⟩
      have t2 := zcV k (by omega)
      rw [show (-(x6.exp + b.exp - 23 - a.exp)).toNat = k by omega] at s3
      rw [← hk] at t2
      have t21 : FnC Tryz.prog 42 [iv .i64 21] (iv .i64 2097152) := zcV 21 (by decide)
      have hp : 1 ≤ (2 : Int) ^ k ∧ (2 : Int) ^ k ≤ 8388608 := by
       have h1 : (2 : Nat) ^ k ≤ 2 ^ 23 := Nat.pow_le_pow_right (by decide) (by omega)
       have h2 : 1 ≤ (2 : Nat) ^ k := Nat.one_le_two_pow
       have e : (2 : Int) ^ k = ((2 ^ k : Nat) : Int) := by norm_cast
       rw [e]; omega
      generalize (2 : Int) ^ k = p at s3 t2 hp
      have hq : -70368744177664 ≤ a.mant * p ∧ a.mant * p ≤ 70368744177664 := by
       constructor
       ·have h1 : (-8388607) * p ≤ a.mant * p := Int.mul_le_mul_of_nonneg_right (by omega) (by omega)
        omega
       ·have h1 : a.mant * p ≤ 8388607 * p := Int.mul_le_mul_of_nonneg_right (by omega) (by omega)
        omega
      have hx := zik (zI f6) (zI hb')
      generalize hqq : a.mant * p = q at s3 hq
      generalize hxx : x6.mant * b.mant = r at s3 hx
      have hw : IntKind.i64.wrap (a.mant * p) = q := by rw [hqq, zg (by omega)]
      have hw2 : IntKind.i64.wrap (x6.mant * b.mant) = r := by rw [hxx, zg (by omega)]
      have hcf : (bif (bif !true then true else decide (x6.exp + b.exp - 23 - a.exp < -23)) then true else decide (x6.exp + b.exp - 23 - a.exp > -22)) = false := by rw [decide_eq_false (by omega), decide_eq_false (by omega)]; rfl
      clear d2 d3
      repeat' first | refine zd ?_ | ((first | refine zf ?_ | refine zi ?_ | refine zb hTt ?_ | refine zl hTt hMix (id := 32) 5 false [0, 1, 0, 4, 12, 31, 63] (by kernel_rfl) rfl rfl (by kernel_rfl) ?_ | refine zl hTt hMix (id := 33) 21 false [0, 1, 0, 4, 15, 0, 63, 0, 0, 256, 0, 1024, 3840, 8064, 16383, 0, 0, 65536, 229376, 0, 1015808, 2097151, 4194303, 8388607, 16777215, 33554431] (by kernel_rfl) rfl rfl (by kernel_rfl) ?_ | fail); conv => whnf) | (exact absurd hb (by omega)) | (refine za rfl (zM hcf) (fun _ => ?_)) | ((first | ((refine ⟨_, (k6).call rfl rfl, ?_⟩); (rintro _ _ ⟨rfl, rfl⟩)) | ((refine ⟨_, (g6).call rfl rfl, ?_⟩); (rintro _ _ ⟨rfl, rfl⟩)) | refine ⟨_, fun _ => (t2).call rfl rfl, ?_⟩ | refine ⟨_, fun _ => (t21).call rfl rfl, ?_⟩ | refine ⟨_, fun _ => (aw).call rfl rfl, ?_⟩ | refine And.intro ?_ ?_; focus (first | (exact trivial) | (exact fun h => h) | (exact zu) | (exact zw) | (exact zx) | (exact zE) | (exact fun h _ => h) | fail) | refine ⟨_, hw, ?_⟩ | refine ⟨_, hw2, ?_⟩ | refine ⟨_, ze ⟨by decide, rfl⟩, ?_⟩ | fail); conv => whnf) | (refine za rfl (fun hb => absurd (show false = true from hb) (by decide)) (fun _ => ?_)) | (refine za rfl (fun hb => ?_) (fun hb => ?_) <;> first | (replace hb := of_decide_eq_true hb; try simp only [List.length_map] at hb) | (replace hb := of_decide_eq_false hb; try simp only [List.length_map] at hb)) | ((first | refine ⟨_, zg (by first | omega | (simp only [List.length_map]; omega)), ?_⟩ | refine ⟨IntKind.wrap _ _, rfl, ?_⟩ | refine andA ?_ | fail); conv => whnf) | (refine fun hln => ?_; (try rw [List.length_map] at hln); unfold maxLen at hln; conv => whnf) | fail
      refine congrArg some (congrArg bv (?_ : (_ : Bool) = true))
      have e1 : (bif true then (if q - r > r - q then q - r else r - q) else (if q - r < r - q then q - r else r - q)) = max (r - q) (q - r) := by rw [cond_true]; split <;> omega
      have e2 : (bif true then (if 0 - q > q then 0 - q else q) else (if 0 - q < q then 0 - q else q)) = max q (-q) := by rw [cond_true]; split <;> omega
      rw [e1, e2, Int.tdiv_eq_ediv_of_nonneg (by omega), zg (by omega), decide_eq_true s3]
      rfl
    ·obtain ⟨q1, q2⟩ := d1 he
     rw [if_neg he, q1] at k6
     have hfin : (bif (bif ((171 : Int) == 171) then decide (a.exp - b.exp ≥ 63) else false) then true else false) = true := by rw [decide_eq_true (show a.exp - b.exp ≥ 63 from q2)]; rfl
     repeat' first | refine zd ?_ | ((first | refine zf ?_ | refine zi ?_ | refine zb hTt ?_ | fail); conv => whnf) | (exact absurd hb (by omega)) | ((first | ((refine ⟨_, (k6).call rfl rfl, ?_⟩); (rintro _ _ ⟨rfl, rfl⟩)) | refine ⟨_, fun _ => (aw).call rfl rfl, ?_⟩ | refine And.intro ?_ ?_; focus (first | (exact trivial) | (exact fun h => h) | (exact zu) | (exact zw) | (exact zx) | (exact zE) | (exact fun h _ => h) | fail) | fail); conv => whnf) | (refine za rfl (fun _ => ?_) (fun hb => absurd (show true = false from hb) (by decide))) | (refine za rfl (fun hb => ?_) (fun hb => ?_) <;> first | (replace hb := of_decide_eq_true hb; try simp only [List.length_map] at hb) | (replace hb := of_decide_eq_false hb; try simp only [List.length_map] at hb)) | ((refine ⟨_, zg (by first | omega | (simp only [List.length_map]; omega)), ?_⟩); conv => whnf) | fail
     all_goals exact congrArg some (congrArg bv hfin)
 ·by_cases ha : zG a
  ·have hb' : ¬ zG b := fun h => hab ⟨ha, h⟩
   rw [decide_eq_true ha] at fa
   rw [decide_eq_false hb'] at fb
   refine zj hTt Tryz.func12 rfl (by kernel_rfl) (res := [.tmp 4]) rfl Tryz.ntmps12 (by simp) fun w0 K0 => ?_
   dsimp only [entry]
   repeat' first | refine zd ?_ | ((first | refine zi ?_ | refine zb hTt ?_ | ((refine ⟨_, (fa).call rfl rfl, ?_⟩); (rintro _ _ ⟨rfl, rfl⟩)) | refine ⟨_, fun _ => (fb).call rfl rfl, ?_⟩ | refine And.intro ?_ ?_; focus (first | (exact trivial) | (exact fun h => h) | (exact zu) | (exact zw) | (exact zx) | (exact zE) | (exact fun h _ => h) | fail) | ((refine ⟨_, (aw).call rfl rfl, ?_⟩); (rintro _ _ ⟨rfl, rfl⟩)) | fail); conv => whnf) | (refine za rfl (fun _ => ?_) (fun hb => absurd (show true = false from hb) (by decide))) | fail
   rfl
  ·rw [decide_eq_false ha] at fa
   refine zj hTt Tryz.func12 rfl (by kernel_rfl) (res := [.tmp 4]) rfl Tryz.ntmps12 (by simp) fun w0 K0 => ?_
   dsimp only [entry]
   repeat' first | refine zd ?_ | ((first | refine zi ?_ | refine zb hTt ?_ | ((refine ⟨_, (fa).call rfl rfl, ?_⟩); (rintro _ _ ⟨rfl, rfl⟩)) | refine ⟨_, fun _ => (fb).call rfl rfl, ?_⟩ | refine And.intro ?_ ?_; focus (first | (exact trivial) | (exact fun h => h) | (exact zu) | (exact zw) | (exact zx) | (exact zE) | (exact fun h _ => h) | fail) | ((refine ⟨_, (aw).call rfl rfl, ?_⟩); (rintro _ _ ⟨rfl, rfl⟩)) | fail); conv => whnf) | (refine za rfl (fun _ => ?_) (fun hb => absurd (show true = false from hb) (by decide))) | fail
   rfl
end Go.Proofs.YtmceekhgnfpamaaGreatDoor
