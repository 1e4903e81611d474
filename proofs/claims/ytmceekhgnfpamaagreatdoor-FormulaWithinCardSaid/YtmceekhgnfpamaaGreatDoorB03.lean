/- The logic of walks, and what the functions of the program return: part 3. No condition. -/
import Derived.Test.YtmceekhgnfpamaaGreatDoorB02
import Derived.RecoverIn
import Derived.Shelf.LaysM
import Derived.Shelf.LaysC
import Derived.Shelf.Strconv.Itoa3
import Derived.Shelf.Strconv.AtoiAll
import Derived.Shelf.Strconv.ErrVarAll
import Derived.Shelf.Strings.BuilderK
import Derived.Shelf.Strings.Repeat
import Derived.Shelf.Small.Wraps
import Derived.Test.YtmceekhgnfpamaaGreatDoorProg
import Derived.Lib.AppendIntMem
import Derived.Lib.ItoaLen
import Derived.Lib.AtoiErrMem
import Derived.Lib.CutLaws
import Derived.Lib.AtoiTie
set_option linter.all false
namespace FoT
theorem zop {a b : FloT} (ha : zG a) (hb : zG b) (hb0 : b.mant ≠ 0) :
  let q := zaj ((a.mant * 1073741824).tdiv b.mant) (a.exp - b.exp - 30)
  let shift := q.1.exp + b.exp - 23 - a.exp
  (q.2 ≠ 0 → q.2 = 171 ∧ 63 ≤ a.exp - b.exp) ∧
  (q.2 = 0 → q.1.mant = 0 → a.mant = 0 ∨ a.exp - b.exp ≤ -64) ∧
  (q.2 = 0 → q.1.mant ≠ 0 → zG q.1 ∧ -23 ≤ shift ∧ shift ≤ -22 ∧
   max (q.1.mant * b.mant - a.mant * 2 ^ (-shift).toNat) (a.mant * 2 ^ (-shift).toNat - q.1.mant * b.mant) ≤ max (a.mant * 2 ^ (-shift).toNat) (-(a.mant * 2 ^ (-shift).toNat)) / 2097152) := by
 have h2 := zcI hb hb0
 by_cases ha0 : a.mant = 0
 ·rw [ha0, Int.zero_mul, Int.zero_tdiv, zb3]
  exact ⟨fun h => absurd rfl h, fun _ _ => .inl rfl, fun _ h => absurd rfl h⟩
 have h1 := zcI ha ha0
 have hflt := zbf (exp := a.exp - b.exp - 30) (zkq (b := b) (zI ha))
 have hlt := zkq (b := b) (zI ha)
 have hN : ((a.mant * 1073741824).tdiv b.mant).natAbs = a.mant.natAbs * 1073741824 / b.mant.natAbs := by
  rw [Int.natAbs_tdiv, Int.natAbs_mul]; rfl
 have hlo : 2 ^ 29 ≤ a.mant.natAbs * 1073741824 / b.mant.natAbs := by
  rw [Nat.le_div_iff_mul_le (by omega)]
  show 536870912 * _ ≤ _
  omega
 have hhi : a.mant.natAbs * 1073741824 / b.mant.natAbs < 2 ^ 31 := by
  rw [Nat.div_lt_iff_lt_mul (by omega)]
  show _ < 2147483648 * _
  omega
 have hsgN : sg ((a.mant * 1073741824).tdiv b.mant) * sg b.mant = sg a.mant := by
  have hb1 : 0 < b.mant.natAbs := by omega
  have hpos : 0 < (a.mant.natAbs * 1073741824 / b.mant.natAbs) := by omega
  generalize hq : (a.mant * 1073741824).tdiv b.mant = q at *
  rcases zaH a.mant with ⟨a0, ha, _⟩ | ⟨a0, ha, _⟩ <;> rcases zaH b.mant with ⟨b0, hb', _⟩ | ⟨b0, hb', _⟩ <;> rw [ha, hb']
  ·have : 0 ≤ q := by rw [← hq]; exact Int.tdiv_nonneg (by omega) b0
   unfold sg; rw [if_neg (by omega)]; rfl
  ·have : q ≤ 0 := by rw [← hq]; exact Int.tdiv_nonpos_of_nonneg_of_nonpos (by omega) (by omega)
   unfold sg; rw [if_pos (by omega)]; rfl
  ·have : q ≤ 0 := by
    have h3 : 0 ≤ (-(a.mant * 1073741824)).tdiv b.mant := Int.tdiv_nonneg (by omega) b0
    rw [Int.neg_tdiv, hq] at h3; omega
   unfold sg; rw [if_pos (by omega)]; rfl
  ·have : 0 ≤ q := by
    have h3 : (-(a.mant * 1073741824)).tdiv b.mant ≤ 0 := Int.tdiv_nonpos_of_nonneg_of_nonpos (by omega) (by omega)
    rw [Int.neg_tdiv, hq] at h3; omega
   unfold sg; rw [if_neg (by omega)]; rfl
 have hN0 : (a.mant * 1073741824).tdiv b.mant ≠ 0 := by intro h; rw [h] at hN; simp at hN; omega
 obtain ⟨s, M, E, hc, m1, m2, hr⟩ := zcv (exp := a.exp - b.exp - 30) hN0 hlt
 rw [hN] at hc
 rcases hc with ⟨_, hM, hE⟩ | ⟨hc, _⟩
 ·have s1 := zc6 (by rw [← hM]; exact m1) (by rw [← hM]; exact m2) hhi (by omega)
  have s2 := zcz (by rw [← hM]; exact m2) hlo
  dsimp only
  rcases hr with ⟨hE2, hr⟩ | ⟨hE2, hr⟩ | ⟨hE2, hE3, hr⟩
  ·rw [hr]
   exact ⟨fun h => absurd rfl h, fun _ _ => .inr (by omega), fun _ h => absurd rfl h⟩
  ·rw [hr]
   exact ⟨fun _ => ⟨rfl, by omega⟩, fun h => absurd h (by decide), fun h => absurd h (by decide)⟩
  ·rw [hr] at hflt ⊢
   dsimp only at hflt ⊢
   have hm0 : sg ((a.mant * 1073741824).tdiv b.mant) * (M : Int) ≠ 0 := by rcases zaH ((a.mant * 1073741824).tdiv b.mant) with ⟨_, h, _⟩ | ⟨_, h, _⟩ <;> rw [h] <;> omega
   refine ⟨fun h => absurd rfl h, fun _ h => absurd h hm0, fun _ _ => ⟨hflt, by omega, by omega, ?_⟩⟩
   have hsh : (-(E + b.exp - 23 - a.exp)).toNat = 30 - s := by omega
   rw [hsh]
   have hp30 : (1073741824 : Nat) = 2 ^ (30 - s) * 2 ^ s := by rw [← Nat.pow_add, show 30 - s + s = 30 by omega]
   have hMb : M = a.mant.natAbs * 2 ^ (30 - s) / b.mant.natAbs := by
    rw [hM, Nat.div_div_eq_div_mul, Nat.mul_comm b.mant.natAbs, ← Nat.div_div_eq_div_mul, hp30, ← Nat.mul_assoc, Nat.mul_div_cancel _ (Nat.two_pow_pos s)]
   have hx := Nat.div_add_mod (a.mant.natAbs * 2 ^ (30 - s)) b.mant.natAbs
   have hy := Nat.mod_lt (a.mant.natAbs * 2 ^ (30 - s)) (show 0 < b.mant.natAbs by omega)
   rw [← hMb] at hx
   have hz := Nat.mul_le_mul_left b.mant.natAbs m1
   have eX : sg ((a.mant * 1073741824).tdiv b.mant) * (M : Int) * b.mant = sg a.mant * ((b.mant.natAbs * M : Nat) : Int) := by
    rw [← hsgN]
    have := zfZ b.mant
    push_cast
    generalize (b.mant.natAbs : Int) = B at this ⊢
    rw [← this]
    have hq : sg b.mant * sg b.mant = 1 := by unfold sg; split <;> rfl
    grind
   have eA : a.mant * 2 ^ (30 - s) = sg a.mant * ((a.mant.natAbs * 2 ^ (30 - s) : Nat) : Int) := by
    have := zfZ a.mant
    push_cast
    rw [← Int.mul_assoc, this]
   rw [eX, eA]
   generalize a.mant.natAbs * 2 ^ (30 - s) = A at *
   generalize b.mant.natAbs * M = X at *
   rcases zaH a.mant with ⟨_, h, _⟩ | ⟨_, h, _⟩ <;> rw [h] <;> omega
 ·omega
theorem zmF {n exp : Int} (hn : n.natAbs ≤ 70368744177664) (h : (zaj n exp).2 = 0) :
  let x := (zaj n exp).1
  let shift := x.exp - 23 - exp
  (x.mant = 0 → n = 0 ∨ ∀ top : Nat, 2 ^ top ≤ n.natAbs → exp + top + 1 ≤ -65) ∧
  (x.mant ≠ 0 → -23 ≤ shift ∧ shift ≤ 30 ∧ (shift ≤ 0 → x.mant = n * 2 ^ (-shift).toNat) ∧
   (0 < shift → let d := n - x.mant * 2 ^ shift.toNat
    max d (-d) < 2 ^ shift.toNat ∧ max d (-d) * 65536 ≤ max n (-n) / 64 ∧ (d = 0 ∨ (0 < d ↔ 0 < n)))) := by
 by_cases h0 : n = 0
 ·subst h0
  rw [zb3]
  exact ⟨fun _ => .inl rfl, fun h => absurd rfl h⟩
 obtain ⟨s, M, E, hc, m1, m2, hr⟩ := zcv (exp := exp) h0 (by omega)
 dsimp only
 rcases hr with ⟨hE2, hr⟩ | ⟨hE2, hr⟩ | ⟨hE2, hE3, hr⟩
 ·rw [hr]
  refine ⟨fun _ => .inr fun top ht => ?_, fun h => absurd rfl h⟩
  rcases hc with ⟨_, hM, hE⟩ | ⟨hc, hs, hM, hE⟩
  ·have := zcz (by rw [← hM]; exact m2) ht
   omega
  ·have h3 := Nat.mul_le_mul_right (2 ^ s) ht
   rw [← hM, ← Nat.pow_add] at h3
   rcases Nat.lt_or_ge (top + s) 23 with hq | hq
   ·omega
   ·have := zdK hq; omega
 ·rw [hr] at h; exact absurd h (by decide)
 ·rw [hr]
  dsimp only
  have hm0 : sg n * (M : Int) ≠ 0 := by rcases zaH n with ⟨_, h, _⟩ | ⟨_, h, _⟩ <;> rw [h] <;> omega
  refine ⟨fun h => absurd h hm0, fun _ => ?_⟩
  rcases hc with ⟨hb, hM, hE⟩ | ⟨hc, hs, hM, hE⟩
  ·have s1 := zc6 (A := 47) (by rw [← hM]; exact m1) (by rw [← hM]; exact m2) (by omega) (by omega)
   have s2 := zcz (A := 23) (by rw [← hM]; exact m2) (by omega)
   refine ⟨by omega, by omega, fun h => by omega, fun _ => ?_⟩
   obtain ⟨p, q⟩ := zcJ n.natAbs s
   rw [← hM] at p q
   have hp := Nat.mul_le_mul_right (2 ^ s) m1
   rw [show (E - 23 - exp).toNat = s by omega]
   have e2 : (2 : Int) ^ s = ((2 ^ s : Nat) : Int) := by push_cast; rfl
   rw [e2]
   generalize 2 ^ s = t at *
   have e3 : ((M * t : Nat) : Int) = (M : Int) * (t : Int) := by push_cast; rfl
   rcases zaH n with ⟨_, h, hn⟩ | ⟨_, h, hn⟩
   ·rw [h, Int.one_mul, ← e3]
    generalize M * t = u at *
    refine ⟨by omega, by omega, by omega⟩
   ·rw [h, show (-1 * (M : Int) * t) = -((M : Int) * t) by grind, ← e3]
    generalize M * t = u at *
    refine ⟨by omega, by omega, by omega⟩
  ·refine ⟨by omega, by omega, fun _ => ?_, fun h => by omega⟩
   rw [show (-(E - 23 - exp)).toNat = s by omega, hM]
   push_cast
   rw [← Int.mul_assoc, zfZ]
theorem zkK {a b : FloT} (h : a.exp = b.exp) : zfh a b = zfh b a := by
 unfold zfh zbd
 rw [h, Int.sub_self, if_pos (by decide), if_pos (by decide)]
 have : (2 : Int) ^ (0 : Int).toNat = 1 := rfl
 rw [this, Int.tdiv_one, Int.tdiv_one, Int.add_comm]
theorem zfJ {a : FloT} (h : zG a) (h0 : a.mant = 0) : a = zeroFl := by
 rcases h with h | h
 ·exact h
 ·omega
theorem zlO {a b : FloT} (ha : zG a) (hb : zG b) : zbz a b = zbz b a := by
 unfold zbz
 by_cases a0 : a.mant = 0
 ·rw [if_pos a0]
  by_cases b0 : b.mant = 0
  ·rw [if_pos b0, zfJ ha a0, zfJ hb b0]
  ·rw [if_neg b0, if_pos a0]
 ·rw [if_neg a0]
  by_cases b0 : b.mant = 0
  ·rw [if_pos b0, if_pos b0]
  ·rw [if_neg b0, if_neg b0, if_neg a0]
   by_cases h1 : a.exp < b.exp
   ·rw [if_pos h1, if_neg (by omega)]
   ·rw [if_neg h1]
    by_cases h2 : b.exp < a.exp
    ·rw [if_pos h2]
    ·rw [if_neg h2, zkK (by omega)]
theorem zlk {op : Int} (ho : op = 3 ∨ op = 5) {a b : FloT} (ha : zG a) (hb : zG b) : stepM op a b = stepM op b a := by
 rcases ho with rfl | rfl
 ·exact zlO ha hb
 ·show zaj _ _ = zaj _ _
  rw [Int.mul_comm, Int.add_comm]
def zqS : FloT := ⟨4194304, 1⟩
theorem sub_self {a : FloT} (ha : zG a) : stepM 4 a a = (zeroFl, 0) := by
 show zbz a ⟨-a.mant, a.exp⟩ = _
 by_cases a0 : a.mant = 0
 ·rw [zfJ ha a0]; rfl
 ·unfold zbz
  rw [if_neg a0, if_neg (by dsimp only; omega), if_neg (by dsimp only; omega)]
  unfold zfh zbd
  dsimp only
  rw [Int.sub_self, if_pos (by decide)]
  have : (2 : Int) ^ (0 : Int).toNat = 1 := rfl
  rw [this, Int.tdiv_one, show a.mant * 1073741824 + -a.mant * 1073741824 = 0 by omega, zb3]
theorem mul_one {a : FloT} (ha : zG a) : stepM 5 a zqS = (a, 0) := by
 show zaj (a.mant * 4194304) (a.exp + 1 - 46) = _
 by_cases a0 : a.mant = 0
 ·rw [a0, Int.zero_mul, zb3, zfJ ha a0]
 ·have h1 := zcI ha a0
  have hN0 : a.mant * 4194304 ≠ 0 := by omega
  have habs : (a.mant * 4194304).natAbs = a.mant.natAbs * 2 ^ 22 := by rw [Int.natAbs_mul]; rfl
  obtain ⟨s, M, E, hc, m1, m2, hr⟩ := zcv (exp := a.exp + 1 - 46) hN0 (by omega)
  rw [habs] at hc
  have hsg : sg (a.mant * 4194304) = sg a.mant := by
   unfold sg
   by_cases hh : a.mant < 0
   ·rw [if_pos hh, if_pos (by omega)]
   ·rw [if_neg hh, if_neg (by omega)]
  rcases hc with ⟨_, hM, hE⟩ | ⟨hc, _⟩
  ·have s1 := zc6 (A := 45) (by rw [← hM]; exact m1) (by rw [← hM]; exact m2) (by omega) (by omega)
   have s2 := zcz (A := 44) (by rw [← hM]; exact m2) (by omega)
   have hs : s = 22 := by omega
   subst hs
   have hM2 : M = a.mant.natAbs := by rw [hM, Nat.mul_div_cancel _ (Nat.two_pow_pos _)]
   rcases hr with ⟨hE2, hr⟩ | ⟨hE2, hr⟩ | ⟨hE2, hE3, hr⟩
   ·omega
   ·omega
   ·rw [hr, hsg, hM2, zfZ, show E = a.exp by omega]
  ·omega
theorem add_zero {a : FloT} (ha : zG a) : stepM 3 a zeroFl = (a, 0) := by
 show zbz a zeroFl = _
 unfold zbz
 by_cases a0 : a.mant = 0
 ·rw [if_pos a0, zfJ ha a0]
 ·rw [if_neg a0, if_pos (show zeroFl.mant = 0 from rfl)]
end FoT
namespace FoT
end FoT
namespace FoT
end FoT
namespace FoT
theorem zi9 {s : Bs8} {a e : Nat} (ha : a < s.length) (hae : a < e) (he : e ≤ s.length) (hrow : ∀ k (h : k < s.length), a < k → k < e → zaM s[k] = true) (h1 : a + 1 < e → zaM s[a] = true)
  (hstop : zaM s[a] = true → ∀ h : e < s.length, zaM s[e] = false) :
  tk a none (s.drop a) = (if s[a] = 32 then [] else [(a, (s.take e).drop a)]) ++ tk e none (s.drop e) := by
 rw [List.drop_eq_getElem_cons ha]
 by_cases hr : zaM s[a] = true
 ·have h32 : s[a] ≠ 32 := fun h => by rw [h] at hr; exact absurd hr (by decide)
  rw [if_neg h32]
  have e1 : tk a none (s[a] :: s.drop (a + 1)) = tk (a + 1) (some (a, [s[a]])) (s.drop (a + 1)) := by rw [tk, if_pos hr]
  have e2 : s.drop (a + 1) = (s.take e).drop (a + 1) ++ s.drop e := by
   rw [← List.drop_append_of_le_length (by rw [List.length_take]; omega), List.take_append_drop]
  have hl : ((s.take e).drop (a + 1)).length = e - (a + 1) := by rw [List.length_drop, List.length_take]; omega
  have hmid : ∀ c ∈ (s.take e).drop (a + 1), zaM c = true := fun c hc => by
   obtain ⟨i, hi, rfl⟩ := List.getElem_of_mem hc
   rw [hl] at hi
   rw [List.getElem_drop, List.getElem_take]
   exact hrow _ (by omega) (by omega) (by omega)
  rw [e1, e2, zlg _ _ _ _ _ hmid, hl, show a + 1 + (e - (a + 1)) = e by omega]
  have e3 : [s[a]] ++ (s.take e).drop (a + 1) = (s.take e).drop a := by
   rw [List.drop_eq_getElem_cons (l := s.take e) (i := a) (by rw [List.length_take]; omega), List.getElem_take]; rfl
  rw [e3]
  rcases Nat.lt_or_ge e s.length with hel | hel
  ·rw [List.drop_eq_getElem_cons hel, zd5 _ _ (hstop hr hel)]; rfl
  ·rw [List.drop_eq_nil_of_le hel, zhS]; rfl
 ·have he1 : e = a + 1 := by
   rcases Nat.lt_or_ge (a + 1) e with h | h
   ·exact absurd (h1 h) hr
   ·omega
  subst he1
  rw [tk, if_neg hr]
  have e3 : (s.take (a + 1)).drop a = [s[a]] := by
   rw [List.drop_eq_getElem_cons (l := s.take (a + 1)) (i := a) (by rw [List.length_take]; omega), List.getElem_take, List.drop_eq_nil_of_le (by rw [List.length_take]; omega)]
  rw [e3]
  rfl
theorem zqE (a : Nat) : tk a none [] = [(a, [])] := rfl
end FoT
namespace Go.QL
open Go Go.RowKit
section
variable {w0 : World} {K0 : Bs} {σ : Sg} {g : Gh} {w : World}
theorem zgX (h : Hp w0 K0 σ g w) {c e sz st n : Nat} {xs : List (List PV)} (hl : lk c σ = some (.chain e sz st xs)) (hn : n ≤ xs.length) {v : Value} (hv : SR σ g w (.o c st n) v) :
  ∃ g', Did w0 K0 σ g w (zat c (.chain e sz (st + 1) []) σ) g' w ∧ SR (zat c (.chain e sz (st + 1) []) σ) g' w (.d (.s sz (xs.take n))) v := by
 have hsome : (lk c σ).isSome := by rw [hl]; rfl
 let K' : Nat → Nat → Prop := fun b o => g.K b o ∨ (blk (g.μ c) = some b ∧ b < w.heap.size)
 let g' : Gh := ⟨K', upd g.μ c (.slice none 0 0)⟩
 have hext : Ext g.K w K' w := ⟨fun _ _ h => .inl h, fun _ _ _ => rfl⟩
 have hc : Compat σ g (zat c (.chain e sz (st + 1) []) σ) g' := by
  refine ⟨fun i cs hi => ?_, fun i e1 sz1 st1 xs1 hi => ?_, fun i o hi => ?_⟩
  ·have hne : i ≠ c := fun e => by rw [e, hl] at hi; cases hi
   exact ⟨zo _ _ hne, cs, by rw [zt _ _ _ _ hne]; exact hi⟩
  ·by_cases hne : i = c
   ·subst hne
    rw [hl] at hi; cases hi
    exact .inl ⟨_, _, _, _, zab _ _ _ hsome, Nat.lt_succ_self _⟩
   ·exact .inr ⟨zo _ _ hne, xs1, by rw [zt _ _ _ _ hne]; exact hi, rfl⟩
  ·have hne : i ≠ c := fun e => by rw [e, hl] at hi; cases hi
   exact ⟨zo _ _ hne, o, by rw [zt _ _ _ _ hne]; exact hi, rfl⟩
 have hkeep : ∀ s u, SR σ g w s u → SR (zat c (.chain e sz (st + 1) []) σ) g' w s u := fun s u hs => hs.keep hc hext
 refine ⟨g', ⟨⟨h.kept, h.flt, h.ext.trans hext, ?_, ?_, ?_, ?_, ?_⟩, hkeep⟩, ?_⟩
 ·intro b o hb hk
  rcases hk with hk | ⟨hk, _⟩
  ·exact h.old b o hb hk
  ·exact absurd hb (h.own c b hsome hk)
 ·intro b o hk
  rcases hk with hk | ⟨_, hk⟩
  ·exact h.val b o hk
  ·exact hk
 ·intro i ob hi
  by_cases hne : i = c
  ·subst hne
   rw [zab _ _ _ hsome] at hi; cases hi
   refine ⟨[], ?_, ⟨none, 0, zy _ _ _, Nat.le_refl _, by simp [maxLen]⟩, fun x hx => by simp at hx, fun i x hi => by simp at hi, fun b hb => ?_⟩
   ·show World.ownsRow w 0 e sz (upd g.μ i (.slice none 0 0) i) 0 []
    rw [zy]; exact World.ownsRow_nil w _ _ _
   ·have hb : blk (upd g.μ i (.slice none 0 0) i) = some b := hb
    rw [zy] at hb; cases hb
  ·rw [zt _ _ _ _ hne] at hi
   have hO := h.obs i ob hi
   refine hO.keep hkeep hext (zo _ _ hne) (fun _ _ => rfl) (fun b hb o hk => ?_)
   rcases hk with hk | ⟨hk, _⟩
   ·exact h.notK hi hb o hk
   ·exact hne (h.inj i c b (by rw [hi]; rfl) hsome hb hk)
 ·intro i b hi hb
  have hb : blk (upd g.μ c (.slice none 0 0) i) = some b := hb
  by_cases hne : i = c
  ·subst hne; rw [zy] at hb; cases hb
  ·rw [zt _ _ _ _ hne] at hi
   rw [zo _ _ hne] at hb
   exact h.own i b hi hb
 ·intro i j b hi hj hbi hbj
  have hbi : blk (upd g.μ c (.slice none 0 0) i) = some b := hbi
  have hbj : blk (upd g.μ c (.slice none 0 0) j) = some b := hbj
  by_cases e1 : i = c
  ·subst e1; rw [zy] at hbi; cases hbi
  ·by_cases e2 : j = c
   ·subst e2; rw [zy] at hbj; cases hbj
   ·rw [zt _ _ _ _ e1] at hi
    rw [zt _ _ _ _ e2] at hj
    rw [zo _ _ e1] at hbi
    rw [zo _ _ e2] at hbj
    exact h.inj i j b hi hj hbi hbj
 ·obtain ⟨vs, hown, ⟨a0, cap0, hμ0, hcap0, hmax0⟩, hsz, hpr, _⟩ := h.obs _ _ hl
  cases hv with
  | old _ _ _ e1 sz1 st1 xs1 v hl1 hlt1 _ => rw [hl] at hl1; cases hl1; omega
  | o _ _ _ e1 sz1 xs1 a cap hl1 hn1 hμ1 =>
   rw [hl] at hl1; cases hl1
   have hmax1 : cap ≤ maxLen := by rw [hμ1] at hμ0; cases hμ0; exact hmax0
   have hcap1 : xs.length ≤ cap := by rw [hμ1] at hμ0; cases hμ0; exact hcap0
   have htl : (xs.take n).length = n := by simp; omega
   rcases hown.2 with ⟨hnil, hz⟩ | ⟨gb, cap', cur, hv', hB, hg, _⟩
   ·have hx : xs = [] := List.eq_nil_of_length_eq_zero hz
    subst hx
    have hn0 : n = 0 := by simpa using hn
    subst hn0
    have := PR.s (K := K') (w := w) sz ([] : List (List PV)) a cap 0 0 (fun _ _ => undef) (Nat.zero_le _) hmax1 (by simp) (fun h => absurd rfl h) (fun i e hi => by simp at hi) (fun i e hi => by simp at hi) (fun i e hi => by simp at hi)
    exact .d _ _ (by simpa using this)
   ·rw [hμ1] at hv'; cases hv'
    have hbl : blk (g.μ c) = some gb := by rw [hμ1]; rfl
    have hlt : gb < w.heap.size := (h.obs _ _ hl).blk_lt hbl |>.2
    have hcell := hown.cells (g := gb) (by rw [hμ1]; rfl)
    have := PR.s (K := K') (w := w) sz (xs.take n) (some ⟨gb, 0, none⟩) cap gb 0 (fun i j => vs.getD (i * sz + j) undef) (by rw [htl]; omega) hmax1 (fun x hx => hsz x (List.mem_of_mem_take hx)) (fun _ => rfl)
     (fun i e hi j hj => .inr ⟨hbl, hlt⟩) (fun i e hi j hj => by
      rw [List.getElem?_take] at hi
      by_cases hin : i < n
      ·rw [if_pos hin] at hi
       obtain ⟨u, hu, _⟩ := hpr i e hi j _ (List.getElem?_eq_getElem hj)
       have := hcell _ _ hu
       rw [zad] at this
       rw [this]; simp [hu]
      ·rw [if_neg hin] at hi; cases hi) (fun i e hi j p hp' => by
      rw [List.getElem?_take] at hi
      by_cases hin : i < n
      ·rw [if_pos hin] at hi
       obtain ⟨u, hu, hpu⟩ := hpr i e hi j p hp'
       have e2 : vs.getD (i * sz + j) undef = u := by simp [hu]
       rw [e2]; exact hpu.mono hext
      ·rw [if_neg hin] at hi; cases hi)
    rw [htl] at this
    exact .d _ _ this
def FzGo (on : Bool) (σ : Sg) (v : AV) (k : AV → Sg → Prop) : Prop :=
 bif on then (match v with
  | .x (.o c st n) => (match lk c σ with
   | some (.chain e sz st' xs) => (st' = st ∧ n ≤ xs.length) ∧ k (.x (.d (.s sz (xs.take n)))) (zat c (.chain e sz (st + 1) []) σ)
   | _ => False)
  | _ => False)
 else k v σ
theorem zqt {P : Program} {Γ : Cx} {on : Bool} {v : AV} {k : AV → Sg → Prop} (h : FzGo on σ v k) : ∃ v' σ', k v' σ' ∧ ∀ (d : Option Tmp) (fr : Fr) (g : Gh) (a : Act) (w : World), Rel Γ (zbl d v fr) σ g a w → ∃ g', Rel Γ (zbl d v' fr) σ' g' a w := by
 unfold FzGo at h
 cases on with
 | false => exact ⟨v, σ, h, fun d fr g a w hr => ⟨g, hr⟩⟩
 | true =>
  simp only [cond_true] at h
  split at h
  ·rename_i c st n
   split at h
   ·rename_i e sz st' xs hl
    obtain ⟨⟨rfl, hn⟩, hk⟩ := h
    refine ⟨_, _, hk, fun d fr g a w hr => ?_⟩
    cases d with
    | none =>
     have hO := hr.hp.obs _ _ hl
     obtain ⟨vs, hown, ⟨a0, cap0, hμ0, hcap0, hmax0⟩, hsz, hpr, _⟩ := hO
     obtain ⟨g', hd, _⟩ := zgX hr.hp hl hn (SR.o c st' n e sz xs a0 cap0 hl hn hμ0)
     exact ⟨g', hr.did hd⟩
    | some t =>
     have ht := hr.fr t (.x (.o c st' n)) (by show lk t ((t, _) :: fr) = _; rw [zr, if_pos rfl])
     obtain ⟨g', hd, hv⟩ := zgX hr.hp hl hn (show SR σ g w (.o c st' n) _ from ht.2)
     refine ⟨g', hd.hp, fun s x hs => ?_, hr.size, (hr.did hd).defers, (hr.did hd).base⟩
     have hs : lk s ((t, _) :: fr) = some x := hs
     rw [zr] at hs
     by_cases e1 : t = s
     ·subst e1
      rw [if_pos rfl] at hs; cases hs
      exact ⟨ht.1, hv⟩
     ·rw [if_neg e1] at hs
      refine (hr.did hd).fr s x ?_
      show lk s ((t, _) :: fr) = some x
      rw [zr, if_neg e1]; exact hs
   ·exact h.elim
  ·exact h.elim
end
structure Stg where
 w : Nat
 ob : Bool
 fz : Bool
 re : List Nat
 fl : List Nat
def vcFl (P : Program) (tt : TT) (nt : Nat) (ops : List Oper) (ms : List Nat) (fr0 : Fr) (σ : Sg) (k : List En → Prop) : List Nat → List En → Prop
 | [], es => k es
 | i :: r, es => match ops[i]? with
  | some o => opDr P tt ops false (selF (frs (zaK (ms.getD i 0) es) ++ fr0) (looks ops o)) σ 0 o fun gd v nob => nob = none ∧ putE nt o.dst gd v fun x => vcFl P tt nt ops ms fr0 σ k r (⟨i, o.dst, x, none⟩ :: es)
  | none => False
def getE : List En → Nat → Option AV
 | [], _ => none
 | ⟨j, _, x, _⟩ :: r, i => bif Nat.beq j i then some x else getE r i
def vcRe (P : Program) (tt : TT) (nt : Nat) (ops : List Oper) (ms : List Nat) (fr0 : Fr) (es : List En) (σ : Sg) (k : Prop) : List Nat → Prop
 | [] => k
 | l :: r => match ops[l]? with
  | some o => opDr P tt ops false (selF (frs (zaK (ms.getD l 0) es) ++ fr0) (looks ops o)) σ 0 o fun gd v nob => nob = none ∧ putE nt o.dst gd v fun x => getE es l = some x ∧ vcRe P tt nt ops ms fr0 es σ k r
  | none => False
def vcSt (P : Program) (tt : TT) (nt : Nat) (ops : List Oper) (ms : List Nat) (fr0 : Fr) (k : Fr → Sg → Prop) : List Stg → List En → Sg → Prop
 | [], es, σ => k (frs es ++ fr0) σ
 | ⟨w, mk, fz, re, fl⟩ :: r, es, σ => match ops[w]? with
  | none => False
  | some o =>
   bif mk then
    zhE σ o.dst fun id => opDr P tt ops true (selF (frs (zaK (ms.getD w 0) es) ++ fr0) (looks ops o)) σ id o fun gd v nob => putE nt o.dst gd v fun x =>
     FzGo fz (zdZ nob σ) x fun x σ2 => vcRe P tt nt ops ms fr0 (⟨w, o.dst, x, none⟩ :: es) σ2 (vcFl P tt nt ops ms fr0 σ2 (fun es' => vcSt P tt nt ops ms fr0 k r es' σ2) fl (⟨w, o.dst, x, none⟩ :: es)) re
   else
    zah P tt nt ops (fun fr2 σ2 => LateGo o.dst fr2 (selF (frs (zaK (ms.getD w 0) es) ++ fr0) (looks ops o)) fun x => FzGo fz σ2 x fun x σ2 =>
     vcRe P tt nt ops ms fr0 (⟨w, o.dst, x, none⟩ :: es) σ2 (vcFl P tt nt ops ms fr0 σ2 (fun es' => vcSt P tt nt ops ms fr0 k r es' σ2) fl (⟨w, o.dst, x, none⟩ :: es)) re)
     [o] (selF (frs (zaK (ms.getD w 0) es) ++ fr0) (looks ops o)) σ
def inL (l : List Nat) (i : Nat) : Bool := l.any (Nat.beq i)
def zlV (ms : List Nat) (m i : Nat) (ls : List Nat) : Bool := Nat.blt i m && !inL ls i && (List.range m).all fun b => !Nat.testBit (ms.getD i 0) b || inL ls b
def okFl (ms : List Nat) (m : Nat) (k : List Nat → Bool) : List Nat → List Nat → Bool
 | [], ls => k ls
 | i :: r, ls => zlV ms m i ls && okFl ms m k r (i :: ls)
def okSt (ms : List Nat) (m : Nat) : List Stg → List Nat → Bool
 | [], ls => (List.range m).all (inL ls)
 | s :: r, ls => zlV ms m s.w ls && (ls.all fun i => Nat.testBit (ms.getD s.w 0) i || inL s.re i) && (s.re.all (inL ls)) &&
   ((List.range m).all fun i => inL ls i || Nat.beq i s.w || Nat.testBit (ms.getD i 0) s.w) && okFl ms m (okSt ms m r) s.fl (s.w :: ls)
theorem zgk {l : List Nat} {i : Nat} : inL l i = true ↔ i ∈ l := by
 unfold inL
 rw [List.any_eq_true]
 constructor
 ·rintro ⟨x, hx, e⟩
  have := Nat.eq_of_beq_eq_true e
  subst this; exact hx
 ·intro h; exact ⟨i, h, by simp⟩
theorem zkn {i : Nat} {x : AV} : ∀ {es : List En}, getE es i = some x → ∃ e ∈ es, e.i = i ∧ e.x = x
 | [], h => by cases h
 | ⟨j, d, y, ob⟩ :: r, h => by
  unfold getE at h
  cases hb : Nat.beq j i with
  | true =>
   rw [hb] at h; cases h
   exact ⟨_, List.mem_cons_self, Nat.eq_of_beq_eq_true hb, rfl⟩
  | false =>
   rw [hb] at h
   obtain ⟨e, he, h'⟩ := zkn (es := r) h
   exact ⟨e, List.mem_cons_of_mem _ he, h'⟩
section
variable {P : Program} {Γ : Cx} {fr : Fr} {σ : Sg} {Q : Exit → Fr → Sg → Prop}
structure GoodS (ops : List Oper) (ms : List Nat) (m nt : Nat) (es : List En) : Prop where
 idx : ∀ e ∈ es, ∀ e' ∈ es, e.i = e'.i → e = e'
 lt : ∀ e ∈ es, e.i < m
 op : ∀ e ∈ es, ∃ o, ops[e.i]? = some o ∧ e.d = o.dst ∧ ∀ t, o.dst = some t → t < nt
 cl : ∀ e ∈ es, ∀ b, (ms.getD e.i 0).testBit b = true → b < m → b ∈ es.map (·.i)
def SemF (P : Program) (Γ : Cx) (ops : List Oper) (ms : List Nat) (fr0 : Fr) (es : List En) (σ : Sg) (e : En) : Prop :=
 ∃ o, ops[e.i]? = some o ∧ SemE P Γ ops false (selF (frs (zaK (ms.getD e.i 0) es) ++ fr0) (looks ops o)) σ e.i o e.x none
theorem zft {ms : List Nat} {m i : Nat} {ls : List Nat} (h : zlV ms m i ls = true) : i < m ∧ i ∉ ls ∧ ∀ b, b < m → (ms.getD i 0).testBit b = true → b ∈ ls := by
 unfold zlV at h
 simp only [Bool.and_eq_true, List.all_eq_true] at h
 obtain ⟨⟨h1, h2⟩, h3⟩ := h
 refine ⟨Nat.le_of_ble_eq_true h1, fun hm => ?_, fun b hb hbit => ?_⟩
 ·rw [zgk.2 hm] at h2; cases h2
 ·have := h3 b (List.mem_range.2 hb)
  rw [hbit] at this
  exact zgk.1 (by simpa using this)
theorem GoodS.add {ops : List Oper} {ms : List Nat} {m nt : Nat} {es : List En} (hg : GoodS ops ms m nt es) {i : Nat} {o : Oper} {x : AV} {ob : Option (Nat × Ob)} (ho : ops[i]? = some o) (h1 : zlV ms m i (es.map (·.i)) = true) (hd : ∀ t, o.dst = some t → t < nt) :
  GoodS ops ms m nt (⟨i, o.dst, x, ob⟩ :: es) := by
 obtain ⟨h1, h2, h3⟩ := zft h1
 have hn : ∀ e ∈ es, e.i ≠ i := fun e he hi => h2 (List.mem_map.2 ⟨e, he, hi⟩)
 refine ⟨fun e he e' he' hii => ?_, fun e he => ?_, fun e he => ?_, fun e he b hb hbm => ?_⟩
 ·rcases List.mem_cons.1 he with rfl | he <;> rcases List.mem_cons.1 he' with rfl | he'
  ·rfl
  ·exact absurd hii.symm (hn e' he')
  ·exact absurd hii (hn e he)
  ·exact hg.idx e he e' he' hii
 ·rcases List.mem_cons.1 he with rfl | he
  ·exact h1
  ·exact hg.lt e he
 ·rcases List.mem_cons.1 he with rfl | he
  ·exact ⟨o, ho, rfl, hd⟩
  ·exact hg.op e he
 ·rcases List.mem_cons.1 he with rfl | he
  ·exact List.mem_cons_of_mem _ (h3 b hbm hb)
  ·exact List.mem_cons_of_mem _ (hg.cl e he b hb hbm)
theorem zgS {ms k : Nat} {e : En} {es : List En} (h : ms.testBit e.i = false) : zaK ms (e :: es) = zaK ms es := by
 obtain ⟨i, d, x, ob⟩ := e
 show (bif zm3 ms i then _ else _) = _
 rw [zeC, h]; rfl
theorem SemF.add {ops : List Oper} {ms : List Nat} {m nt : Nat} {fr0 : Fr} {es : List En} {σ : Sg} (hg : GoodS ops ms m nt es) {en : En} (hen : en.i ∉ es.map (·.i)) (hm : en.i < m) {e : En} (he : e ∈ es) (h : SemF P Γ ops ms fr0 es σ e) : SemF P Γ ops ms fr0 (en :: es) σ e := by
 obtain ⟨o, ho, hs⟩ := h
 refine ⟨o, ho, ?_⟩
 rw [zgS (k := 0)]
 ·exact hs
 ·cases hb : (ms.getD e.i 0).testBit en.i with
  | false => rfl
  | true => exact absurd (hg.cl e he en.i hb hm) hen
theorem zi3 {tt : TT} (htt : tt.ok P) (hL : Laid P Γ.K0.K Γ.w0) {ops : List Oper} {ms : List Nat} {m : Nat} (hmk : MaskOK ops.toArray ms m) {fr0 : Fr} {σ : Sg} {k : List En → Prop} {kb : List Nat → Bool} : ∀ {l : List Nat} {es : List En},
  vcFl P tt Γ.nt ops ms fr0 σ k l es → okFl ms m kb l (es.map (·.i)) = true → GoodS ops ms m Γ.nt es →
  ∃ es', k es' ∧ kb (es'.map (·.i)) = true ∧ GoodS ops ms m Γ.nt es' ∧ (∀ e ∈ es, e ∈ es') ∧ (∀ e ∈ es', e ∈ es ∨ SemF P Γ ops ms fr0 es' σ e) ∧ (∀ e ∈ es, SemF P Γ ops ms fr0 es σ e → SemF P Γ ops ms fr0 es' σ e)
 | [], es, h, hb, hg => ⟨es, h, hb, hg, fun e he => he, fun e he => .inl he, fun e _ hs => hs⟩
 | i :: r, es, h, hb, hg => by
  unfold vcFl at h
  unfold okFl at hb
  rw [Bool.and_eq_true] at hb
  cases ho : ops[i]? with
  | none => rw [ho] at h; exact h.elim
  | some o =>
   rw [ho] at h
   simp only at h
   obtain ⟨gd, x, nob, ⟨hn, hk⟩, _, hsem⟩ := zdM (Γ := Γ) htt hL h i
   subst hn
   obtain ⟨hk, hd⟩ := zdJ hk
   obtain ⟨h1, h2, h3⟩ := zft hb.1
   have hg' := hg.add (x := zeI gd x) (ob := none) ho hb.1 hd
   obtain ⟨es', k1, k2, k3, k4, k5, k6⟩ := zi3 htt hL hmk hk hb.2 hg'
   have hself : SemF P Γ ops ms fr0 (⟨i, o.dst, zeI gd x, none⟩ :: es) σ ⟨i, o.dst, zeI gd x, none⟩ := by
    refine ⟨o, ho, ?_⟩
    rw [zgS (k := 0)]
    ·exact hsem
    ·cases hbt : (ms.getD i 0).testBit i with
     | false => rfl
     | true => have := hmk.lt i o (by simpa using ho) i hbt; omega
   refine ⟨es', k1, k2, k3, fun e he => k4 e (List.mem_cons_of_mem _ he), fun e he => ?_, fun e he hs => k6 e (List.mem_cons_of_mem _ he) (hs.add hg h2 h1 he)⟩
   rcases k5 e he with he | hs
   ·rcases List.mem_cons.1 he with rfl | he
    ·exact .inr (k6 _ List.mem_cons_self hself)
    ·exact .inl he
   ·exact .inr hs
theorem zlc {tt : TT} (htt : tt.ok P) (hL : Laid P Γ.K0.K Γ.w0) {ops : List Oper} {ms : List Nat} {m : Nat} {fr0 : Fr} {es : List En} (hg : GoodS ops ms m Γ.nt es) {σ : Sg} {k : Prop} : ∀ {l : List Nat}, vcRe P tt Γ.nt ops ms fr0 es σ k l →
  k ∧ ∀ e ∈ es, e.i ∈ l → SemF P Γ ops ms fr0 es σ e
 | [], h => ⟨h, fun e _ he => by cases he⟩
 | i :: r, h => by
  unfold vcRe at h
  cases ho : ops[i]? with
  | none => rw [ho] at h; exact h.elim
  | some o =>
   rw [ho] at h
   simp only at h
   obtain ⟨gd, x, nob, ⟨hn, hk⟩, _, hsem⟩ := zdM (Γ := Γ) htt hL h i
   subst hn
   obtain ⟨⟨hx, hr⟩, _⟩ := zdJ hk
   obtain ⟨h1, h2⟩ := zlc htt hL hg hr
   refine ⟨h1, fun e he hi => ?_⟩
   rcases List.mem_cons.1 hi with hi | hi
   ·obtain ⟨e', he', hi', hx'⟩ := zkn hx
    have := hg.idx e he e' he' (hi.trans hi'.symm)
    subst this
    refine ⟨o, by rw [hi]; exact ho, ?_⟩
    rw [hi, hx']; exact hsem
   ·exact h2 e he hi
theorem zkA {tt : TT} (htt : tt.ok P) (hmix : P.follows .mixedOrders = true) (m : Nat) (fl0 : List Nat) (sts : List Stg) (ms : List Nat) {id : Nat} {ops : List Oper} (hms : zbe ms m ops 0 = true) (hlen : Nat.ble m ops.length = true)
  (hds : zc2 (ops.take m) [] = true) (hrd : zcn ops ms (ops.take m) (ops.take m) 0 = true) (hst : okFl ms m (okSt ms m sts) fl0 [] = true)
  (h : vcFl P tt Γ.nt ops ms fr σ (fun es => vcSt P tt Γ.nt ops ms fr (fun fr' σ' => zah P tt Γ.nt ops (Q .normal) (ops.drop m) fr' σ') sts es σ) fl0 []) : AW P Γ (.region id ops.toArray true) Q fr σ := by
 refine AW.mk fun hLd g a w hr => ?_
 have hm := MaskOK.of hms
 have hlen : m ≤ ops.length := Nat.le_of_ble_eq_true hlen
 obtain ⟨es0, hk0, hb0, hg0, _, hs0, _⟩ := zi3 (Γ := Γ) htt hLd hm h hst ⟨fun e he => by simp at he, fun e he => by simp at he, fun e he => by simp at he, fun e he => by simp at he⟩
 have hs0 : ∀ e ∈ es0, SemF P Γ ops ms fr es0 σ e := fun e he => (hs0 e he).resolve_left (by simp)
 clear h hst
 obtain ⟨_, hd1⟩ := zb1 hds
 have hrd := fun j o h => zaV (zbR hrd j o h)
 simp only [Nat.zero_add] at hrd
 have htk : ∀ {i : Nat} {o : Oper}, i < m → ops[i]? = some o → (ops.take m)[i]? = some o := fun hi ho => by rw [List.getElem?_take, if_pos hi]; exact ho
 have hfF : ∀ es, GoodS ops ms m Γ.nt es → ∀ p ∈ frs es, ∀ q ∈ frs es, p.1 = q.1 → p = q := by
  intro es hg p hp q hq hpq
  obtain ⟨e, he, h1, h2⟩ := zY.1 hp
  obtain ⟨e', he', h1', h2'⟩ := zY.1 hq
  obtain ⟨o, ho, hd, _⟩ := hg.op e he
  obtain ⟨o', ho', hd', _⟩ := hg.op e' he'
  have := hd1 e.i e'.i o o' p.1 (htk (hg.lt e he) ho) (htk (hg.lt e' he') ho') (by rw [← hd, h1]) (by rw [← hd', h1', hpq])
  have := hg.idx e he e' he' this
  subst this
  obtain ⟨p1, p2⟩ := p; obtain ⟨q1, q2⟩ := q
  simp only at *
  subst hpq; subst h2; subst h2'; rfl
 let InvA : (Nat → Prop) → Act → World → Prop := fun L a w => ∃ (E es : List En) (σ1 : Sg) (rest : List Stg) (g : Gh), GoodS ops ms m Γ.nt es ∧ okSt ms m rest (es.map (·.i)) = true ∧
  vcSt P tt Γ.nt ops ms fr (fun fr' σ' => zah P tt Γ.nt ops (Q .normal) (ops.drop m) fr' σ') rest es σ1 ∧ (∀ e ∈ es, ¬ L e.i → SemF P Γ ops ms fr es σ1 e) ∧
  (∀ e ∈ E, e ∈ es) ∧ (∀ j, L j ↔ ∃ e ∈ E, e.i = j) ∧ (∀ k, L k → ∀ b, (ms.getD k 0).testBit b = true → L b) ∧ Rel Γ (frs E ++ fr) σ1 g a w
 let InvB : (Nat → Prop) → Act → World → Prop := fun L a w => ∃ j, m ≤ j ∧ j ≤ ops.length ∧ (∀ b, L b ↔ b < j) ∧ wpLs Γ.ro P ops.toArray (Lift Γ Q) (ops.drop j) a w
 have conv : ∀ L a w, InvA L a w → (∀ b, b < m → L b) → InvB L a w := by
  intro L a w ⟨E, es, σ1, rest, g, hg, hb, hk, _, h1, h2, _, h3⟩ hall
  cases rest with
  | cons s r =>
   unfold okSt at hb
   simp only [Bool.and_eq_true] at hb
   obtain ⟨k1, k2, _⟩ := zft hb.1.1.1.1
   obtain ⟨e, he, hi⟩ := (h2 s.w).1 (hall s.w k1)
   exact absurd (List.mem_map.2 ⟨e, h1 e he, hi⟩) k2
  | nil =>
   refine ⟨m, Nat.le_refl _, hlen, fun b => ⟨fun hb => ?_, hall b⟩, ?_⟩
   ·obtain ⟨e, he, hi⟩ := (h2 b).1 hb
    rw [← hi]; exact hg.lt e (h1 e he)
   ·have hsub : ∀ e ∈ es, e ∈ E := by
     intro e he
     obtain ⟨e', he', hi⟩ := (h2 e.i).1 (hall e.i (hg.lt e he))
     have := hg.idx e' (h1 e' he') e he hi
     subst this; exact he'
    have hf := hfF es hg
    have hr' : Rel Γ (frs es ++ fr) σ1 g a w := h3.subF (zb4 (fun p hp q hq => hf p ((zq h1) p hp) q ((zq h1) q hq)) (fun p => ⟨zq hsub p, zq h1 p⟩))
    exact zcc htt hLd (fun _ _ h => h) (ops.drop m) _ _ hk g a w hr'
 have look : ∀ (L : Nat → Prop) (E es : List En) (i : Nat) (o : Oper), GoodS ops ms m Γ.nt es → (∀ e ∈ E, e ∈ es) → (∀ j, L j ↔ ∃ e ∈ E, e.i = j) → (∀ k, L k → ∀ b, (ms.getD k 0).testBit b = true → L b) → ¬ L i → i < m → ops[i]? = some o →
   (∀ b, (ms.getD i 0).testBit b = true → L b) → Sup (selF (frs (zaK (ms.getD i 0) es) ++ fr) (looks ops o)) (frs E ++ fr) := by
  intro L E es i o hg h1 h2 hcl hL him ho hbits t v hl
  have hf := hfF es hg
  obtain ⟨ht, hl⟩ := zbF hl
  have hpE : ∀ e ∈ zaK (ms.getD i 0) es, e ∈ E := fun e he => by
   obtain ⟨he, hbit⟩ := zap he
   obtain ⟨e', he', hi'⟩ := (h2 e.i).1 (hbits e.i hbit)
   have := hg.idx e' (h1 e' he') e he hi'
   subst this; exact he'
  rcases zdB hl with hl | ⟨hn, hl⟩
  ·exact zas (fun p hp q hq => hf p (zq h1 p hp) q (zq h1 q hq)) (zq hpE _ hl)
  ·rw [zU]
   ·exact hl
   ·intro p hp hpt
    obtain ⟨e, he, h1', h2'⟩ := zY.1 hp
    obtain ⟨oe, hoe, hde, _⟩ := hg.op e (h1 e he)
    have hLe : L e.i := (h2 e.i).2 ⟨e, he, rfl⟩
    rcases hrd i o (htk him ho) e.i oe t (htk (hg.lt e (h1 e he)) hoe) (by rw [← hde, h1', hpt]) ht with hk | hk | hk
    ·exact hL (hk ▸ hLe)
    ·exact hn p (zY.2 ⟨e, zbt (h1 e he) hk, h1', h2'⟩) hpt
    ·exact hL (hcl e.i hLe i hk)
 refine wpIn_region_any hmix ?_
 refine zbU hm (fun L a w => InvA L a w ∨ InvB L a w) ?_ ?_ _ _ _ _ (by simp) ?_ ?_ ?_
 ·-- a step
  intro L a w hinv i hi hL hbits
  have hi' : i < ops.length := by simpa using hi
  have stepB : InvB L a w → wpOpIn (FX Γ.ro) 0 P ops.toArray (Lift Γ Q) i (fun a w => InvA (fun j => L j ∨ j = i) a w ∨ InvB (fun j => L j ∨ j = i) a w) a w := by
   intro ⟨j, hj1, hj2, hj3, hj4⟩
   have hji : j ≤ i := by
    rcases Nat.lt_or_ge i j with h' | h'
    ·exact absurd ((hj3 i).2 h') hL
    ·exact h'
   have hij : i = j := by
    rcases Nat.lt_or_ge j i with h' | h'
    ·have := hm.tail i _ (Array.getElem?_eq_getElem (by simpa using hi')) (by omega) j h'
     have := (hj3 j).1 (hbits j this)
     omega
    ·omega
   subst hij
   rw [List.drop_eq_getElem_cons hi'] at hj4
   have hoi : ops.toArray[i]? = some ops[i] := by simp [hi']
   have hnew : ∀ a w, wpLs Γ.ro P ops.toArray (Lift Γ Q) (ops.drop (i + 1)) a w → InvA (fun j => L j ∨ j = i) a w ∨ InvB (fun j => L j ∨ j = i) a w := by
    intro a w hw
    refine .inr ⟨i + 1, by omega, by omega, fun b => ?_, hw⟩
    show (L b ∨ b = i) ↔ b < i + 1
    rw [hj3 b]; omega
   unfold wpOpIn
   simp only [hoi]
   unfold wpLs wpLk at hj4
   split
   ·rename_i hwant
    rw [if_pos hwant] at hj4
    exact Oper.wpIn_mono hnew hj4
   ·rename_i hwant
    rw [if_neg hwant] at hj4
    exact ⟨fun _ _ => trivial, hnew _ _ hj4⟩
  rcases hinv with hA | hB
  ·rcases Nat.lt_or_ge i m with him | him
   ·obtain ⟨E, es, σ1, rest, g, hg, hb, hk, hsF, h1, h2, hcl, h3⟩ := hA
    have hcl' : ∀ k, (L k ∨ k = i) → ∀ b, (ms.getD k 0).testBit b = true → (L b ∨ b = i) := by
     intro k hk b hb
     rcases hk with hk | rfl
     ·exact .inl (hcl k hk b hb)
     ·exact .inl (hbits b hb)
    have hL2 : ∀ (en : En), en.i = i → ∀ j, (L j ∨ j = i) ↔ ∃ e ∈ en :: E, e.i = j := by
     intro en hen j
     rw [h2 j]
     constructor
     ·rintro (⟨e, he, h'⟩ | rfl)
      ·exact ⟨e, List.mem_cons_of_mem _ he, h'⟩
      ·exact ⟨en, List.mem_cons_self, hen⟩
     ·rintro ⟨e, he, h'⟩
      rcases List.mem_cons.1 he with rfl | he
      ·exact .inr (h'.symm.trans hen)
      ·exact .inl ⟨e, he, h'⟩
    by_cases hin : i ∈ es.map (·.i)
    ·-- one that floats
     obtain ⟨en, hen, heni⟩ := List.mem_map.1 hin
     obtain ⟨o, ho, hsem⟩ := hsF en hen (by rw [heni]; exact hL)
     obtain ⟨o', ho', hd, hdn⟩ := hg.op en hen
     rw [ho] at ho'; cases ho'
     rw [heni] at ho hsem
     refine hsem _ (frs E ++ fr) σ1 g a w (look L E es i o hg h1 h2 hcl hL him ho hbits) (fun _ _ h => h) (fun _ => rfl) (fun p hp => by cases hp) h3 _ (fun v g' w' hr' hv => .inl ?_) (by simpa using ho)
     refine ⟨en :: E, es, σ1, rest, g', hg, hb, hk, fun e he hn => hsF e he (fun h => hn (.inl h)), fun e he => ?_, hL2 en heni, hcl', ?_⟩
     ·rcases List.mem_cons.1 he with rfl | he
      ·exact hen
      ·exact h1 e he
     ·rw [← zbO, hd]
      have hr' : Rel Γ (frs E ++ fr) σ1 g' a w' := hr'
      cases hdd : o.dst with
      | none => exact hr'
      | some d => exact hr'.put (hdn d hdd) hv
    ·-- the next one that writes
     cases rest with
     | nil =>
      unfold okSt at hb
      rw [List.all_eq_true] at hb
      exact absurd (zgk.1 (hb i (List.mem_range.2 him))) hin
     | cons s r =>
      obtain ⟨sw, mk, fz, re, fl⟩ := s
      unfold okSt at hb
      simp only [Bool.and_eq_true] at hb
      obtain ⟨⟨⟨⟨hone, hre⟩, _⟩, hrst⟩, hfl⟩ := hb
      obtain ⟨k1, k2, k3⟩ := zft hone
      have hiw : i = sw := by
       rw [List.all_eq_true] at hrst
       have := hrst i (List.mem_range.2 him)
       simp only [Bool.or_eq_true] at this
       rcases this with (h' | h') | h'
       ·exact absurd (zgk.1 h') hin
       ·exact Nat.eq_of_beq_eq_true h'
       ·obtain ⟨e, he, hi2⟩ := (h2 sw).1 (hbits sw h')
        exact absurd (List.mem_map.2 ⟨e, h1 e he, hi2⟩) k2
      subst hiw
      unfold vcSt at hk
      have ho : ops[i]? = some ops[i] := List.getElem?_eq_getElem hi'
      rw [ho] at hk
      simp only at hk
      generalize ops[i] = o at ho hk
      have hoi : ops.toArray[i]? = some o := by simpa using ho
      have hsup := look L E es i o hg h1 h2 hcl hL him ho hbits
      have fin : ∀ (x : AV) (σ2 : Sg), (∀ t, o.dst = some t → t < Γ.nt) → (FzGo fz σ2 x fun x σ2 =>
        vcRe P tt Γ.nt ops ms fr (⟨i, o.dst, x, none⟩ :: es) σ2 (vcFl P tt Γ.nt ops ms fr σ2 (fun es' => vcSt P tt Γ.nt ops ms fr (fun fr' σ' => zah P tt Γ.nt ops (Q .normal) (ops.drop m) fr' σ') r es' σ2) fl (⟨i, o.dst, x, none⟩ :: es)) re) →
        ∀ g2 a2 w2, Rel Γ (zbl o.dst x (frs E ++ fr)) σ2 g2 a2 w2 → InvA (fun j => L j ∨ j = i) a2 w2 := by
       intro x1 σ3 hdn hk2 g3 a2 w2 hr3
       obtain ⟨x, σ2, hk2, hfz⟩ := zqt (P := P) (Γ := Γ) hk2
       obtain ⟨g2, hr2⟩ := hfz _ _ g3 a2 w2 hr3
       have hg' := hg.add (x := x) (ob := none) ho hone hdn
       obtain ⟨hk3, hre2⟩ := zlc (Γ := Γ) htt hLd hg' hk2
       obtain ⟨es', q1, q2, q3, q4, q5, q6⟩ := zi3 (Γ := Γ) htt hLd hm hk3 hfl hg'
       refine ⟨⟨i, o.dst, x, none⟩ :: E, es', σ2, r, g2, q3, q2, q1, fun e he hn => ?_, fun e he => ?_, hL2 _ rfl, hcl', ?_⟩
       ·rcases q5 e he with he' | hs
        ·refine q6 e he' (hre2 e he' ?_)
         rcases List.mem_cons.1 he' with rfl | he'
         ·exact absurd (.inr rfl) hn
         ·rw [List.all_eq_true] at hre
          have := hre e.i (List.mem_map.2 ⟨e, he', rfl⟩)
          rw [Bool.or_eq_true] at this
          rcases this with h' | h'
          ·exact absurd (.inl (hbits e.i h')) hn
          ·exact zgk.1 h'
        ·exact hs
       ·rcases List.mem_cons.1 he with rfl | he
        ·exact q4 _ List.mem_cons_self
        ·exact q4 e (List.mem_cons_of_mem _ (h1 e he))
       ·rw [← zbO]; exact hr2
      cases mk with
      | true =>
       simp only [cond_true] at hk
       obtain ⟨id, hid, hk⟩ := zfA hk
       obtain ⟨gd, x, nob, hk, hnob, hsem⟩ := zdM (Γ := Γ) htt hLd hk i
       obtain ⟨hk, hdn⟩ := zdJ hk
       refine hsem _ (frs E ++ fr) σ1 g a w hsup (fun _ _ h => h) (fun _ => rfl) (fun p hp => ?_) h3 _ (fun v g' w' hr' hv => .inl ?_) hoi
       ·rcases hnob with hn | ⟨_, _, b, hb⟩
        ·rw [hn] at hp; cases hp
        ·rw [hb] at hp; cases hp; exact hid
       ·refine fin (zeI gd x) (zdZ nob σ1) hdn hk g' _ w' ?_
        cases hdd : o.dst with
        | none => exact hr'
        | some d => exact hr'.put (hdn d hdd) hv
      | false =>
       simp only [cond_false] at hk
       generalize hF : selF (frs (zaK (ms.getD i 0) es) ++ fr) (looks ops o) = F at hk hsup
       have hr' : Rel Γ F σ1 g a w := h3.subF hsup
       let Γ' : Cx := ⟨Γ.w0, Γ.K0, Γ.nt, SR σ1 g w, σ1.map (·.1), Γ.ro, Γ.dfs, Γ.bs⟩
       have hr2 : Rel Γ' F σ1 g a w := ⟨hr'.hp, hr'.fr, hr'.size, hr'.defers, fun s v hb => ⟨hb, SR.inI hb⟩⟩
       have hw := zaJ (Γ := Γ') htt hLd (Qx := Lift Γ Q) (K := fun a w => ∃ g2 fr2 σ2, Rel Γ' fr2 σ2 g2 a w ∧ ∃ v, fr2 = zbl o.dst v F ∧ FzGo fz σ2 v fun v σ2 =>
        vcRe P tt Γ.nt ops ms fr (⟨i, o.dst, v, none⟩ :: es) σ2 (vcFl P tt Γ.nt ops ms fr σ2 (fun es' => vcSt P tt Γ.nt ops ms fr (fun fr' σ' => zah P tt Γ.nt ops (Q .normal) (ops.drop m) fr' σ') r es' σ2) fl (⟨i, o.dst, v, none⟩ :: es)) re)
        (fun fr2 σ2 g2 a2 w2 hr2 hk2 => ⟨g2, fr2, σ2, hr2, hk2.ex⟩) [o] _ _ hk g a w hr2
       have hw2 : wpOpIn (FX Γ.ro) 0 P ops.toArray (Lift Γ Q) i (fun a w => ∃ g2 fr2 σ2, Rel Γ' fr2 σ2 g2 a w ∧ ∃ v, fr2 = zbl o.dst v F ∧ FzGo fz σ2 v fun v σ2 =>
        vcRe P tt Γ.nt ops ms fr (⟨i, o.dst, v, none⟩ :: es) σ2 (vcFl P tt Γ.nt ops ms fr σ2 (fun es' => vcSt P tt Γ.nt ops ms fr (fun fr' σ' => zah P tt Γ.nt ops (Q .normal) (ops.drop m) fr' σ') r es' σ2) fl (⟨i, o.dst, v, none⟩ :: es)) re) a w := by
        unfold wpOpIn
        simp only [hoi]
        unfold wpLk at hw
        split
        ·rename_i hwant
         rw [if_pos hwant] at hw
         exact hw
        ·rename_i hwant
         rw [if_neg hwant] at hw
         exact ⟨fun _ _ => trivial, hw⟩
       refine wpOpIn_mono ?_ (zgC hoi hw2)
       rintro a2 w2 ⟨⟨g2, fr2, σ2, hr2, v, rfl, hk2⟩, v', htm⟩
       have hdn : ∀ t, o.dst = some t → t < Γ.nt := fun t hd => (hr2.fr t v (by rw [hd]; show lk t ((t, v) :: F) = _; rw [zr, if_pos rfl])).1
       refine .inl (fin v σ2 hdn hk2 g2 a2 w2 ?_)
       have keep : ∀ s u, SR σ1 g w s u → SR σ2 g2 w2 s u := fun s u hsu => (hr2.base s u hsu).1
       refine ⟨hr2.hp, fun t x ht => ?_, hr2.size, hr2.defers, fun s u hb => ⟨keep s u (h3.base s u hb).1, (h3.base s u hb).2⟩⟩
       by_cases hdt : o.dst = some t
       ·have : lk t (zbl o.dst v F) = some x := by
         rw [hdt] at ht ⊢
         have ht : lk t ((t, v) :: (frs E ++ fr)) = some x := ht
         show lk t ((t, v) :: _) = some x
         rw [zr, if_pos rfl] at ht ⊢; exact ht
        exact hr2.fr t x this
       ·have ht : lk t (frs E ++ fr) = some x := by
         cases hd : o.dst with
         | none => rw [hd] at ht; exact ht
         | some d =>
          rw [hd] at ht
          have ht : lk t ((d, v) :: (frs E ++ fr)) = some x := ht
          rw [zr, if_neg (fun e => hdt (by rw [hd, e]))] at ht
          exact ht
        have h4 := h3.fr t x ht
        refine ⟨h4.1, ?_⟩
        have e : a2.tmps.getD t undef = a.tmps.getD t undef := by
         rw [htm]
         cases hd : o.dst with
         | none => rfl
         | some d =>
          have : ¬ d = t := fun e => hdt (by rw [hd, e])
          simp [Act.put, this]
        rw [e]
        exact h4.2.keep keep
   ·have hall : ∀ b, b < i → L b := fun b hb => hbits b (hm.tail i _ (Array.getElem?_eq_getElem (by simpa using hi')) him b hb)
    exact stepB (conv L a w hA fun b hb => hall b (by omega))
  ·exact stepB hB
 ·-- the end
  intro L a w hinv hall
  have hB : InvB L a w := by
   rcases hinv with hA | hB
   ·exact conv L a w hA fun b hb => hall b (by simp; omega)
   ·exact hB
  obtain ⟨j, hj1, hj2, hj3, hj4⟩ := hB
  have : j = ops.length := by
   rcases Nat.lt_or_ge j ops.length with h' | h'
   ·have := (hj3 j).1 (hall j (by simpa using h')); omega
   ·omega
  subst this
  rw [List.drop_length] at hj4
  exact hj4
 ·intro i hi
  have : (Array.replicate ops.length false)[i]?.getD false = false := by
   rw [Array.getElem?_replicate]; split <;> rfl
  simp [this] at hi
 ·unfold unl
  refine Nat.le_trans (List.length_filter_le _ _) (by simp)
 ·left
  refine ⟨[], es0, σ, sts, g, hg0, hb0, hk0, fun e he _ => hs0 e he, fun e he => by simp at he, fun j => ?_, fun k hk => ?_, hr.drawn _⟩
  rotate_left
  ·have : (Array.replicate ops.length false)[k]?.getD false = false := by
    rw [Array.getElem?_replicate]; split <;> rfl
   simp [this] at hk
  have : (Array.replicate ops.length false)[j]?.getD false = false := by
   rw [Array.getElem?_replicate]; split <;> rfl
  simp [this]
end
end Go.QL
namespace Go.QL
open Go Go.RowKit
def allN (g : Nat → Oper → Prop) : List Oper → Nat → Prop
 | [], _ => True
 | o :: r, i => g i o ∧ allN g r (i + 1)
theorem zhJ {g : Nat → Oper → Prop} : ∀ {l : List Oper} {k : Nat}, allN g l k → ∀ (j : Nat) (o : Oper), l[j]? = some o → g (k + j) o
 | [], _, _, j, o, h => by simp at h
 | x :: r, k, h, 0, o, hj => by cases hj; exact h.1
 | x :: r, k, h, j + 1, o, hj => by
  have := zhJ h.2 j o hj
  rwa [show k + 1 + j = k + (j + 1) by omega] at this
section
variable {P : Program} {Γ : Cx} {fr : Fr} {σ : Sg} {Q : Exit → Fr → Sg → Prop}
theorem zkf {d i : Nat} (h : d.testBit i = false) : Nat.land d (Nat.pow 2 i) = 0 := by
 show d &&& 2 ^ i = 0
 apply Nat.eq_of_testBit_eq
 intro j
 rw [Nat.testBit_and, Nat.zero_testBit, Nat.testBit_two_pow]
 by_cases e : i = j
 ·subst e; simp [h]
 ·simp [e]
theorem zke {m d : Nat} (h : ∀ b, m.testBit b = true → d.testBit b = true) : Nat.land m d = m := by
 show m &&& d = m
 apply Nat.eq_of_testBit_eq
 intro j
 rw [Nat.testBit_and]
 cases hm : m.testBit j with
 | false => rfl
 | true => rw [h j hm]; rfl
end
end Go.QL
namespace Go.QL
open Go Go.RowKit
def zsk (tt : TT) (res : List ResultVar) (r : AV) : Exit → Fr → Sg → Prop
 | .normal, fr, σ | .ret, fr, σ => ∃ r', za6 tt res fr σ = some r' ∧ LeAV r' r
 | _, _, _ => False
theorem LeAV.refl (x : AV) : LeAV x x := by
 cases x with
 | t xs =>
  refine ⟨xs, rfl, ?_⟩
  induction xs with
  | nil => trivial
  | cons x r ih => exact ⟨LeAV1.refl x, ih⟩
 | x s => exact LeAV1.refl (.x s)
 | a s => exact LeAV1.refl (.a s)
 | g c s => exact LeAV1.refl (.g c s)
section
variable {P : Program}
theorem zg7 {tt : TT} (htt : tt.ok P) {f : FuncId} {fn : Func} {c : Code} {args : List AV} {r : AV} {res : List ResultVar} (hf : P.funcs[f]? = some fn) (hb : fn.body = some c)
  (hname : (fn.name == "runtime.NumGoroutine") = false) (hres : fn.results = res.toArray) {nt : Nat} (hnt : fn.ntmps = nt) (hle : args.length ≤ nt)
  (h : ∀ w0 K0, AW P (Cx.lone w0 K0 nt) c (zsk tt res r) (entry 0 args) []) : FnC P f args r := by
 refine ⟨⟨fn, hf, by rw [hb]; rfl, hname⟩, fun K w vs hL hK hs hv => ?_⟩
 refine calls_of_wp hf hb ((wpIn_wide (n := 0)).1 ?_)
 have hrel : Rel (Cx.lone w ⟨K, (· < w.heap.size)⟩ nt) (entry 0 args) [] ⟨K, fun _ => undef⟩ ⟨vs ++ Array.replicate (fn.ntmps - vs.size) undef, []⟩ w := by
  refine ⟨⟨.refl _ _, fun _ h => h, .refl _ _, fun _ _ _ h => h, hK, (fun id ob hid => by cases hid), (fun id b hi => by cases hi), (fun i j b hi => by cases hi)⟩, fun t x ht => ?_, by simp; omega, DRb.empty, fun s v hb => hb.elim⟩
  obtain ⟨_, hx⟩ := zbm args 0 t x ht
  rw [Nat.sub_zero] at hx
  have hlt : t < args.length := (List.getElem?_eq_some_iff.1 hx).1
  refine ⟨by show t < nt; omega, ?_⟩
  have hvt : vs[t]? = some (vs[t]'(by omega)) := Array.getElem?_eq_getElem (by omega)
  have e : (vs ++ Array.replicate (fn.ntmps - vs.size) undef).getD t undef = vs[t]'(by omega) := by
   rw [Array.getD_eq_getD_getElem?, Array.getElem?_append_left (by omega), hvt]; rfl
  show VR _ _ _ _ ((vs ++ Array.replicate (fn.ntmps - vs.size) undef).getD t undef)
  rw [e]
  exact zZ (hv t x _ hx hvt)
 refine wpIn_mono ((h w ⟨K, (· < w.heap.size)⟩).use hL hrel) ?_
 intro e a' w' ⟨fr, σ, g, hr, hq⟩
 have fin : (∃ r', za6 tt res fr σ = some r' ∧ LeAV r' r) → a'.defers = [] ∧ ∃ v, (results fn a'.tmps).run P w' = .ok v w' ∧ ∃ v_1 K', Ending.returned v = .returned v_1 ∧ Below w.heap.size w w' ∧ Ext K w K' w' ∧
   (∀ b o, b < w.heap.size → K' b o → K b o) ∧ (∀ b o, K' b o → b < w'.heap.size) ∧ VR2 [] ⟨K', fun _ => undef⟩ w' r v_1 := by
  rintro ⟨r', ho, hle⟩
  obtain ⟨v, hrun, hvr⟩ := zeW htt hr hres ho (μ := fun _ => undef)
  exact ⟨hr.defers.nil, v, hrun, v, Kall σ g w', rfl, hr.hp.kept.below, hr.hp.ext.trans zcM, zfH hr.hp, zeF hr.hp, hle.ok hvr⟩
 cases e with
 | normal => exact fin hq
 | ret => exact fin hq
 | _ => exact hq.elim
end
end Go.QL
namespace Go.QL.DC
open Go Go.RowKit Go.QL
structure En where
 i : Nat
 d : Option Tmp
 x : AV
 ob : Sg
def frs : List En → Fr
 | [] => []
 | ⟨_, d, x, _⟩ :: r => match d with | some d => (d, x) :: frs r | none => frs r
def obs : List En → Sg
 | [] => []
 | ⟨_, _, _, ob⟩ :: r => ob ++ obs r
def zaK (m : Nat) : List En → List En
 | [] => []
 | ⟨i, d, x, ob⟩ :: r => bif zm3 m i then ⟨i, d, x, ob⟩ :: zaK m r else zaK m r
def zdZ (ob : Sg) (σ : Sg) : Sg := ob ++ σ
def ndB : List Nat → Bool
 | [] => true
 | x :: r => r.all (fun y => !Nat.beq x y) && ndB r
def zcF (nob σ : Sg) : Bool := nob.all (fun p => !(lk p.1 σ).isSome) && ndB (nob.map (·.1))
def oL : Option (Nat × Ob) → Sg
 | some p => [p]
 | none => []
def zpI (P : Program) (tt : TT) (all : List Oper) (ob : Bool) (fr : Fr) (σ σt : Sg) (id : Nat) (o : Oper) (kk : Option Bool → AV → Sg → Prop) : Prop :=
 match o.op with
 | .call ⟨.value f, args, _⟩ => zix all fr o.guard fun gd => ev1 fr gd f fun fv => evL fr gd args.toList fun vs =>
  (match fv, gd with
  | .x (.f (.func fid) first captured), none => ∃ rv nob, (ob && zcF nob σt) = true ∧ (∀ σE, (∀ p ∈ nob, lk p.1 σE = none) → ACall P fid (first.map .x ++ vs ++ captured.map .x) σE fun r' σ' => r' = rv ∧ σ' = nob ++ σE) ∧ kk none rv nob
  | _, _ => False)
 | _ => opDr P tt all ob fr σ id o fun gd v nob => kk gd v (oL nob)
def vcDr (P : Program) (tt : TT) (nt : Nat) (all : List Oper) (ob : Bool) (ms : List Nat) (fr0 : Fr) (σ0 : Sg) (k : Fr → Sg → Prop) : List Oper → List En → Nat → Fr → Sg → Prop
 | [], _, _, fr, σ => k fr σ
 | o :: r, es, i, fr, σ =>
  zhE σ o.dst fun id => zpI P tt all ob (selF (frs (zaK (ms.getD i 0) es) ++ fr0) (looks all o)) (obs (zaK (ms.getD i 0) es) ++ σ0) σ id o fun gd v nob =>
   putE nt o.dst gd v fun x => vcDr P tt nt all ob ms fr0 σ0 k r (⟨i, o.dst, x, nob⟩ :: es) (i + 1) (zbl o.dst x fr) (zdZ nob σ)
section
variable {P : Program} {Γ : Cx} {Qq : Exit → Act → World → Prop}
def SemE (P : Program) (Γ : Cx) (all : List Oper) (ob : Bool) (fr : Fr) (σ : Sg) (i : Nat) (o : Oper) (x : AV) (nob : Sg) : Prop :=
 ∀ (Qq : Exit → Act → World → Prop) (frE : Fr) (σE : Sg) (g : Gh) (a : Act) (w : World), Sup fr frE → Sup σ σE → (ob = false → σE = σ) → (∀ p, p ∈ nob → lk p.1 σE = none) → Rel Γ frE σE g a w →
  ∀ K : Act → World → Prop, (∀ v g' w', Rel Γ frE (zdZ nob σE) g' a w' → VR (zdZ nob σE) g' w' x v → K (a.put o.dst v) w') → all.toArray[i]? = some o → wpOpIn (FX Γ.ro) 0 P all.toArray Qq i K a w
theorem SemE.of {all : List Oper} {ob : Bool} {fr : Fr} {σ : Sg} {i : Nat} {o : Oper} {x : AV} {nob : Option (Nat × Ob)} (h : QL.SemE P Γ all ob fr σ i o x nob) : SemE P Γ all ob fr σ i o x (oL nob) := by
 intro Qq frE σE g a w hf hs hob hid hr K hK ho
 refine h Qq frE σE g a w hf hs hob (fun p hp => hid p (by subst hp; exact List.mem_singleton.2 rfl)) hr K (fun v g' w' hr' hv => hK v g' w' ?_ ?_) ho
 ·cases nob <;> exact hr'
 ·cases nob <;> exact hv
theorem znL {tt : TT} (htt : tt.ok P) (hL : Laid P Γ.K0.K Γ.w0) {all : List Oper} {ob : Bool} {fr : Fr} {σ σt : Sg} {id : Nat} (hid : lk id σt = none) {o : Oper} {kk : Option Bool → AV → Sg → Prop}
  (h : zpI P tt all ob fr σ σt id o kk) (i : Nat) :
  ∃ gd x nob, kk gd x nob ∧ (nob = [] ∨ (ob = true ∧ zcF nob σt = true)) ∧ SemE P Γ all ob fr σ i o (zeI gd x) nob := by
 unfold zpI at h
 split at h
 ·rename_i f args ts hop
  have hnd : ∀ c, o.op ≠ .defer c := fun c hc => by rw [hc] at hop; cases hop
  obtain ⟨gd, h, hgd⟩ := zgl h
  obtain ⟨fv, h2, hfv⟩ := zK h
  clear h
  obtain ⟨vs, h, hl, hvs⟩ := zbE h2
  clear h2
  split at h
  ·rename_i fid first captured
   obtain ⟨rv, nob, hnn, hac, hk⟩ := h
   simp only [Bool.and_eq_true] at hnn
   refine ⟨none, rv, nob, hk, .inr hnn, ?_⟩
   intro Qq frE σE g a w hf hs hob hid' hr K hK ho
   obtain ⟨hwant, _⟩ := hgd Γ σE g a w (hr.subF hf) o rfl
   unfold wpOpIn
   simp only [ho]
   rw [if_pos (hwant.2 (.inl rfl))]
   have hac := hac σE hid'
   have hrD := hr.subF hf
   have hsr : SR σE g w (.f (.func fid) first captured) (a.eval f) := hfv (.inl rfl) Γ σE g a w hrD
   generalize hae : a.eval f = fval at hsr
   cases hsr with
   | f _ _ _ v1 v2 s1 s2 r1 r2 =>
    have hvl : vs.length = (args.map a.eval).size := by simpa using hl
    have hargs := zde (us := args.map a.eval) s1 s2 r1 r2 hvl (fun j x v hx hv => by
     rw [Array.getElem?_map] at hv
     cases ha : args[j]? with
     | none => rw [ha] at hv; cases hv
     | some y => rw [ha] at hv; cases hv; exact hvs (.inl rfl) Γ σE g a w hrD _ x y hx (by simpa using ha))
    have hsize : (v1 ++ args.map a.eval ++ v2).size = (first.map AV.x ++ vs ++ captured.map AV.x).length := by
     simp at hvl; simp [s1, s2, hvl]
    refine ⟨fun _ _ => trivial, ?_⟩
    rw [Oper.semAt_eq _ _ o hnd, zdl hop hae hac.1 w]
    refine ⟨zfc, zbi.2 ?_⟩
    refine (hac.2 Γ.w0 Γ.K0 g w _ hL hr.hp hsize hargs).mono fun e w' ⟨v, g', σ', r, he, hd, hv, hR⟩ => ?_
    obtain ⟨rfl, rfl⟩ := hR
    subst he
    exact hK v g' w' (hr.did hd) (zZ hv)
  ·exact h.elim
 ·obtain ⟨gd, x, nob, hk, hn, hs⟩ := zdM (Γ := Γ) htt hL h i
  refine ⟨gd, x, oL nob, hk, ?_, SemE.of hs⟩
  rcases hn with rfl | ⟨h1, _, b, rfl⟩
  ·exact .inl rfl
  ·exact .inr ⟨h1, by simp [zcF, oL, hid, ndB]⟩
theorem zY {E : List En} {p : Nat × AV} : p ∈ frs E ↔ ∃ e ∈ E, e.d = some p.1 ∧ e.x = p.2 := by
 induction E with
 | nil => simp [frs]
 | cons e r ih =>
  unfold frs
  cases hd : e.d with
  | none =>
   simp only [ih, List.mem_cons]
   constructor
   ·rintro ⟨e', h, h'⟩; exact ⟨e', .inr h, h'⟩
   ·rintro ⟨e', rfl | h, h'⟩
    ·rw [hd] at h'; cases h'.1
    ·exact ⟨e', h, h'⟩
  | some d =>
   simp only [List.mem_cons, ih]
   constructor
   ·rintro (rfl | ⟨e', h, h'⟩)
    ·exact ⟨e, .inl rfl, hd, rfl⟩
    ·exact ⟨e', .inr h, h'⟩
   ·rintro ⟨e', rfl | h, h1, h2⟩
    ·left; rw [hd] at h1; cases h1; obtain ⟨a, b⟩ := p; cases h2; rfl
    ·exact .inr ⟨e', h, h1, h2⟩
theorem zF {E : List En} {p : Nat × Ob} : p ∈ obs E ↔ ∃ e ∈ E, p ∈ e.ob := by
 induction E with
 | nil => simp [obs]
 | cons e r ih =>
  unfold obs
  rw [List.mem_append, ih]
  constructor
  ·rintro (h | ⟨e', h, h'⟩)
   ·exact ⟨e, List.mem_cons_self, h⟩
   ·exact ⟨e', List.mem_cons_of_mem _ h, h'⟩
  ·rintro ⟨e', h, h'⟩
   rcases List.mem_cons.1 h with rfl | h
   ·exact .inl h'
   ·exact .inr ⟨e', h, h'⟩
theorem zap {m : Nat} {e : En} : ∀ {E : List En}, e ∈ zaK m E → e ∈ E ∧ m.testBit e.i = true
 | [], h => by simp [zaK] at h
 | x :: r, h => by
  unfold zaK at h
  rw [zeC] at h
  cases hb : m.testBit x.i with
  | true =>
   rw [hb] at h
   rcases List.mem_cons.1 h with rfl | h
   ·exact ⟨List.mem_cons_self, hb⟩
   ·exact ⟨List.mem_cons_of_mem _ (zap h).1, (zap h).2⟩
  | false =>
   rw [hb] at h
   exact ⟨List.mem_cons_of_mem _ (zap h).1, (zap h).2⟩
theorem zbt {m : Nat} {e : En} : ∀ {E : List En}, e ∈ E → m.testBit e.i = true → e ∈ zaK m E
 | [], h, _ => by simp at h
 | x :: r, h, hb => by
  unfold zaK
  rw [zeC]
  rcases List.mem_cons.1 h with rfl | h
  ·rw [hb]; exact List.mem_cons_self
  ·cases m.testBit x.i with
   | true => exact List.mem_cons_of_mem _ (zbt h hb)
   | false => exact zbt h hb
theorem zbO (e : En) (E : List En) (fr0 : Fr) : zbl e.d e.x (frs E ++ fr0) = frs (e :: E) ++ fr0 := by
 unfold zbl; simp only [frs]; cases e.d <;> rfl
theorem zcL (e : En) (E : List En) (σ0 : Sg) : zdZ e.ob (obs E ++ σ0) = obs (e :: E) ++ σ0 := by
 unfold zdZ; simp only [obs]; rw [List.append_assoc]
theorem zo0 : ∀ {l : Sg}, ndB (l.map (·.1)) = true → ∀ p ∈ l, ∀ q ∈ l, p.1 = q.1 → p = q
 | [], _, p, hp, _, _, _ => by cases hp
 | x :: r, h, p, hp, q, hq, e => by
  simp only [List.map_cons, ndB, Bool.and_eq_true, List.all_eq_true] at h
  have hx : ∀ y ∈ r, x.1 ≠ y.1 := fun y hy he => by
   have := h.1 y.1 (List.mem_map.2 ⟨y, hy, rfl⟩)
   rw [he] at this; simp at this
  rcases List.mem_cons.1 hp with hp1 | hp1 <;> rcases List.mem_cons.1 hq with hq1 | hq1
  ·rw [hp1, hq1]
  ·exact absurd (by rw [← hp1]; exact e) (hx q hq1)
  ·exact absurd (by rw [← hq1]; exact e.symm) (hx p hp1)
  ·exact zo0 h.2 p hp1 q hq1 e
theorem zjn {nob σ : Sg} (h : zcF nob σ = true) : (∀ p ∈ nob, lk p.1 σ = none) ∧ ∀ p ∈ nob, ∀ q ∈ nob, p.1 = q.1 → p = q := by
 unfold zcF at h
 simp only [Bool.and_eq_true, List.all_eq_true] at h
 refine ⟨fun p hp => ?_, zo0 h.2⟩
 have := h.1 p hp
 cases hl : lk p.1 σ with
 | none => rfl
 | some _ => rw [hl] at this; cases this
structure GoodE (P : Program) (Γ : Cx) (all : List Oper) (ob : Bool) (ms : List Nat) (fr0 : Fr) (σ0 : Sg) (es : List En) : Prop where
 idx : ∀ e ∈ es, ∀ e' ∈ es, e.i = e'.i → e = e'
 ids : ∀ e ∈ es, ∀ e' ∈ es, ∀ p q, p ∈ e.ob → q ∈ e'.ob → p.1 = q.1 → e = e' ∧ p = q
 id0 : ∀ e ∈ es, ∀ p, p ∈ e.ob → lk p.1 σ0 = none ∧ ob = true
 sem : ∀ e ∈ es, ∃ o D, all[e.i]? = some o ∧ e.d = o.dst ∧ (∀ t, o.dst = some t → t < Γ.nt) ∧ (∀ e' ∈ D, e' ∈ es ∧ (ms.getD e.i 0).testBit e'.i = true) ∧ (∀ e' ∈ es, (ms.getD e.i 0).testBit e'.i = true → e'.i < e.i → e' ∈ D) ∧
  SemE P Γ all ob (selF (frs D ++ fr0) (looks all o)) (obs D ++ σ0) e.i o e.x e.ob
theorem zdH {tt : TT} (htt : tt.ok P) (hL : Laid P Γ.K0.K Γ.w0) {all : List Oper} {ob : Bool} {ms : List Nat} {fr0 : Fr} {σ0 : Sg} {k : Fr → Sg → Prop} : ∀ (rest : List Oper) (es : List En) (i : Nat),
  vcDr P tt Γ.nt all ob ms fr0 σ0 k rest es i (frs es ++ fr0) (obs es ++ σ0) → (∀ (j : Nat) (o : Oper), rest[j]? = some o → all[i + j]? = some o) → (∀ e ∈ es, e.i < i) → (∀ j, j < i → ∃ e ∈ es, e.i = j) → GoodE P Γ all ob ms fr0 σ0 es →
  ∃ es', k (frs es' ++ fr0) (obs es' ++ σ0) ∧ GoodE P Γ all ob ms fr0 σ0 es' ∧ (∀ e ∈ es', e.i < i + rest.length) ∧ (∀ j, j < i + rest.length → ∃ e ∈ es', e.i = j)
 | [], es, i, h, _, hlt, hcov, hg => ⟨es, h, hg, hlt, hcov⟩
 | o :: rest, es, i, h, hall, hlt, hcov, hg => by
  unfold vcDr at h
  obtain ⟨id, hidn, h⟩ := zfA h
  obtain ⟨gd, x, nob, hk, hnob, hsem⟩ := znL (Γ := Γ) htt hL hidn h i
  obtain ⟨hk, hd⟩ := zdJ hk
  let en : En := ⟨i, o.dst, zeI gd x, nob⟩
  have e1 := zbO en es fr0
  have e2 := zcL en es σ0
  have hk : vcDr P tt Γ.nt all ob ms fr0 σ0 k rest (en :: es) (i + 1) (frs (en :: es) ++ fr0) (obs (en :: es) ++ σ0) := by
   rw [← e1, ← e2]; exact hk
  have hfresh : ob = true ∧ zcF nob (obs es ++ σ0) = true → (∀ p ∈ nob, ∀ e ∈ es, ∀ q ∈ e.ob, q.1 ≠ p.1) ∧ (∀ p ∈ nob, lk p.1 σ0 = none) ∧ ∀ p ∈ nob, ∀ q ∈ nob, p.1 = q.1 → p = q := by
   rintro ⟨_, hn⟩
   obtain ⟨h1, h2⟩ := zjn hn
   have key : ∀ (L l0 : List (Nat × Ob)) (t : Nat), lk t (L ++ l0) = none → ∀ p ∈ L, p.1 ≠ t := by
    intro L l0 t
    induction L with
    | nil => intro _ p hp; simp at hp
    | cons q r ih =>
     intro h p hp
     obtain ⟨j, y⟩ := q
     rw [List.cons_append, zr] at h
     by_cases ej : j = t
     ·rw [if_pos ej] at h; cases h
     ·rw [if_neg ej] at h
      rcases List.mem_cons.1 hp with rfl | hp
      ·exact ej
      ·exact ih h p hp
   refine ⟨fun p hp e he q hq => key _ _ _ (h1 p hp) q (zF.2 ⟨e, he, hq⟩), fun p hp => ?_, h2⟩
   rw [← zU (L := obs es) (key _ _ _ (h1 p hp))]; exact h1 p hp
  have hnob : ∀ p ∈ nob, ob = true ∧ zcF nob (obs es ++ σ0) = true := fun p hp => by
   rcases hnob with hn | hn
   ·rw [hn] at hp; cases hp
   ·exact hn
  have := zdH htt hL rest (en :: es) (i + 1) hk (fun j o' hj => by
   have := hall (j + 1) o' hj
   rwa [Nat.add_assoc, Nat.add_comm 1 j]) (fun e he => by
   rcases List.mem_cons.1 he with rfl | he
   ·exact Nat.lt_succ_self _
   ·exact Nat.lt_succ_of_lt (hlt e he)) (fun j hj => by
   by_cases hji : j = i
   ·exact ⟨en, List.mem_cons_self, hji.symm⟩
   ·obtain ⟨e, he, h'⟩ := hcov j (by omega); exact ⟨e, List.mem_cons_of_mem _ he, h'⟩) ?_
  ·obtain ⟨es', h1, h2, h3, h4⟩ := this
   refine ⟨es', h1, h2, fun e he => ?_, fun j hj => ?_⟩
   ·have := h3 e he; simp; omega
   ·exact h4 j (by simp at hj; omega)
  ·refine ⟨fun e he e' he' hii => ?_, fun e he e' he' p q hp hq hpq => ?_, fun e he p hp => ?_, fun e he => ?_⟩
   ·rcases List.mem_cons.1 he with rfl | he <;> rcases List.mem_cons.1 he' with rfl | he'
    ·rfl
    ·have := hlt e' he'; have : i = e'.i := hii; omega
    ·have := hlt e he; have : e.i = i := hii; omega
    ·exact hg.idx e he e' he' hii
   ·rcases List.mem_cons.1 he with rfl | he <;> rcases List.mem_cons.1 he' with rfl | he'
    ·exact ⟨rfl, (hfresh (hnob p hp)).2.2 p hp q hq hpq⟩
    ·exact absurd hpq.symm ((hfresh (hnob p hp)).1 p hp e' he' q hq)
    ·exact absurd hpq ((hfresh (hnob q hq)).1 q hq e he p hp)
    ·exact hg.ids e he e' he' p q hp hq hpq
   ·rcases List.mem_cons.1 he with rfl | he
    ·exact ⟨(hfresh (hnob p hp)).2.1 p hp, (hnob p hp).1⟩
    ·exact hg.id0 e he p hp
   ·rcases List.mem_cons.1 he with rfl | he
    ·refine ⟨o, zaK (ms.getD i 0) es, by simpa using hall 0 o rfl, rfl, hd, fun e' he' => ⟨List.mem_cons_of_mem _ (zap he').1, (zap he').2⟩, fun e' he' hb hlt' => ?_, hsem⟩
     rcases List.mem_cons.1 he' with rfl | he'
     ·exact absurd hlt' (Nat.lt_irrefl _)
     ·exact zbt he' hb
    ·obtain ⟨o', D, a1, a2, a3, a4, a6, a5⟩ := hg.sem e he
     refine ⟨o', D, a1, a2, a3, fun e' he' => ⟨List.mem_cons_of_mem _ (a4 e' he').1, (a4 e' he').2⟩, fun e' he' hb hlt' => ?_, a5⟩
     rcases List.mem_cons.1 he' with rfl | he'
     ·have := hlt e he; have hlt' : i < e.i := hlt'; omega
     ·exact a6 e' he' hb hlt'
theorem zq {D E : List En} (h : ∀ e ∈ D, e ∈ E) : ∀ p, p ∈ frs D → p ∈ frs E := fun p hp => by
 obtain ⟨e, he, h'⟩ := zY.1 hp; exact zY.2 ⟨e, h e he, h'⟩
variable {fr : Fr} {σ : Sg} {Q : Exit → Fr → Sg → Prop}
end
end Go.QL.DC
namespace Go.QL
open Go Go.RowKit
def PCall (P : Program) (f : FuncId) (args : List AV) (σ : Sg) (R : AV → Sg → Prop) (Rp : Value → Sg → Prop) : Prop :=
 Good P f ∧ ∀ (w0 : World) (K0 : Bs) (g : Gh) (w : World) (vs : Array Value), Laid P K0.K w0 → Hp w0 K0 σ g w → vs.size = args.length →
  (∀ (i : Nat) (x : AV) (v : Value), args[i]? = some x → vs[i]? = some v → VR2 σ g w x v) →
  Calls P f vs w (fun e w' => (∃ v g' σ' r, e = .returned v ∧ Did w0 K0 σ g w σ' g' w' ∧ VR2 σ' g' w' r v ∧ R r σ') ∨
   ∃ v g' σ', e = .panicked [{ v := v, recovered := false }] ∧ Did w0 K0 σ g w σ' g' w' ∧ Rp v σ')
theorem ACall.toP {P : Program} {f : FuncId} {args : List AV} {σ : Sg} {R : AV → Sg → Prop} (h : ACall P f args σ R) : PCall P f args σ R fun _ _ => False :=
 ⟨h.1, fun w0 K0 g w vs hL hp hs hv => (h.2 w0 K0 g w vs hL hp hs hv).mono fun e w' h => .inl h⟩
theorem PCall.toA {P : Program} {f : FuncId} {args : List AV} {σ : Sg} {R : AV → Sg → Prop} (h : PCall P f args σ R fun _ _ => False) : ACall P f args σ R :=
 ⟨h.1, fun w0 K0 g w vs hL hp hs hv => (h.2 w0 K0 g w vs hL hp hs hv).mono fun e w' h => h.elim id fun ⟨_, _, _, _, _, h⟩ => h.elim⟩
theorem PCall.mono {P : Program} {f : FuncId} {args : List AV} {σ : Sg} {R R' : AV → Sg → Prop} {Rp Rp' : Value → Sg → Prop} (h : PCall P f args σ R Rp) (hr : ∀ r σ', R r σ' → R' r σ') (hp : ∀ v σ', Rp v σ' → Rp' v σ') : PCall P f args σ R' Rp' :=
 ⟨h.1, fun w0 K0 g w vs hL hp' hs hv => (h.2 w0 K0 g w vs hL hp' hs hv).mono fun e w' h => h.elim (fun ⟨v, g', σ', r, a, b, c, d⟩ => .inl ⟨v, g', σ', r, a, b, c, hr _ _ d⟩) fun ⟨v, g', σ', a, b, c⟩ => .inr ⟨v, g', σ', a, b, hp _ _ c⟩⟩
def zhH (P : Program) (T : TypeId) : Prop := ∃ d, P.underlying T = some d ∧ (match d with | .interface _ => false | _ => true) = true
def zp2 (op : BinOp) (u : AV) (k : AV → Prop) : Prop :=
 match op, u with
 | .eql, .x (.f _ _ _) => k (bv false)
 | .neq, .x (.f _ _ _) => k (bv true)
 | .eql, .x (.d (.v .nilFunc)) => k (bv true)
 | .neq, .x (.d (.v .nilFunc)) => k (bv false)
 | _, _ => False
def opP (P : Program) (tt : TT) (nt : Nat) (all : List Oper) (kp : Value → Fr → Sg → Prop) (o : Oper) (fr : Fr) (σ : Sg) (k : Fr → Sg → Prop) : Prop :=
 match o.guard, o.op with
 | none, .panic x => ev1 fr none x fun u => (match u with | .x (.d (.v (.iface T v))) => kp (.iface T v) fr σ | _ => False)
 | none, .makeInterface T x => zhH P T ∧ ev1 fr none x fun u => (match u with | .x (.d (.v v)) => zba nt o.dst none (.x (.d (.v (.iface T v)))) fr fun fr' => k fr' σ | _ => False)
 | none, .typeAssert x _ T false => zhH P T ∧ ev1 fr none x fun u => (match u with | .x (.d (.v (.iface S v))) => S = T ∧ v.oneCell' = true ∧ zba nt o.dst none (.x (.d (.v v))) fr fun fr' => k fr' σ | _ => False)
 | none, .binOp op xT x (.const .nilIface) _ => (∃ ms, P.underlying xT = some (.interface ms)) ∧ ev1 fr none x fun u => zgg op u fun v => zba nt o.dst none v fr fun fr' => k fr' σ
 | none, .binOp op xT x (.const .nilFunc) _ => (∃ ps rs v, P.underlying xT = some (.func ps rs v)) ∧ ev1 fr none x fun u => zp2 op u fun v => zba nt o.dst none v fr fun fr' => k fr' σ
 | none, .call ⟨.value f, args, _⟩ => ev1 fr none f fun fv => evL fr none args.toList fun vs =>
   (match fv with
   | .x (.f (.func fid) first captured) => ∃ R Rp, PCall P fid (first.map .x ++ vs ++ captured.map .x) σ R Rp ∧ (∀ rv σ', R rv σ' → zba nt o.dst none rv fr fun fr' => k fr' σ') ∧ ∀ v σ', Rp v σ' → kp v fr σ'
   | _ => False)
 | _, _ => zah P tt nt all k [o] fr σ
def zhO (P : Program) (tt : TT) (nt : Nat) (all : List Oper) (kp : Value → Fr → Sg → Prop) (k : Fr → Sg → Prop) : List Oper → Fr → Sg → Prop
 | [], fr, σ => k fr σ
 | o :: r, fr, σ => opP P tt nt all kp o fr σ (zhO P tt nt all kp k r)
section
variable {P : Program} {Γ : Cx} {fr : Fr} {σ : Sg} {Q : Exit → Fr → Sg → Prop}
theorem znq {op : BinOp} {xT : TypeId} {ps rs : Array TypeId} {va : Bool} (hu : P.underlying xT = some (.func ps rs va)) {X : Operand} {u : AV} {k : AV → Prop} (h : zp2 op u k) {g : Gh} {w : World} {v : Value} (hv : VR2 σ g w u v) :
  ∃ b, k (bv b) ∧ (do eqGuard op xT X (.const .nilFunc) v .nilFunc; binOp op xT v .nilFunc : Sem Value).run P w = .ok (.bool b) w := by
 have hun := run_underlying hu w
 have e1 : ∀ f a b, (Op.equal xT (.func f a b) .nilFunc).run P w = .ok false w := fun f a b => by
  show (Op.equalIn (Op.maxDepth - 1 + 1) xT (.func f a b) .nilFunc).run P w = _
  rw [Op.equalIn, Sem.run_bind, hun]; rfl
 have e2 : (Op.equal xT .nilFunc .nilFunc).run P w = .ok true w := by
  show (Op.equalIn (Op.maxDepth - 1 + 1) xT .nilFunc .nilFunc).run P w = _
  rw [Op.equalIn, Sem.run_bind, hun]; rfl
 unfold zp2 at h
 split at h
 ·cases hv with
  | f _ _ _ v1 v2 s1 s2 r1 r2 =>
   refine ⟨_, h, ?_⟩
   show ((do pure (.bool (← Op.equal xT _ .nilFunc)) : Sem Value)).run P w = _
   rw [Sem.run_bind, e1]; rfl
 ·cases hv with
  | f _ _ _ v1 v2 s1 s2 r1 r2 =>
   refine ⟨_, h, ?_⟩
   show ((do pure (.bool (!(← Op.equal xT _ .nilFunc))) : Sem Value)).run P w = _
   rw [Sem.run_bind, e1]; rfl
 ·have := zm hv; subst this
  refine ⟨_, h, ?_⟩
  show ((do pure (.bool (← Op.equal xT .nilFunc .nilFunc)) : Sem Value)).run P w = _
  rw [Sem.run_bind, e2]; rfl
 ·have := zm hv; subst this
  refine ⟨_, h, ?_⟩
  show ((do pure (.bool (!(← Op.equal xT .nilFunc .nilFunc))) : Sem Value)).run P w = _
  rw [Sem.run_bind, e2]; rfl
 ·exact h.elim
theorem zlT {tt : TT} (htt : tt.ok P) (hL : Laid P Γ.K0.K Γ.w0) {all : List Oper} {E : Exit → Act → World → Prop} {kp : Value → Fr → Sg → Prop} {k : Fr → Sg → Prop} {K : Act → World → Prop}
  (hE : ∀ v fr σ g a w, Rel Γ fr σ g a w → kp v fr σ → E (.panic [{ v := v, recovered := false }]) a w) (rest : List Oper) (hk : ∀ fr σ g a w, Rel Γ fr σ g a w → k fr σ → wpLk Γ.ro P all.toArray E K rest a w)
  (o : Oper) (fr : Fr) (σ : Sg) (h : opP P tt Γ.nt all kp o fr σ k) (g : Gh) (a : Act) (w : World) (hr : Rel Γ fr σ g a w) : wpLk Γ.ro P all.toArray E K (o :: rest) a w := by
 have easy : zah P tt Γ.nt all k [o] fr σ → wpLk Γ.ro P all.toArray E K (o :: rest) a w := fun h => by
  have h2 := zaJ (Γ := Γ) htt hL (Qx := E) (K := wpLk Γ.ro P all.toArray E K rest) hk [o] fr σ h g a w hr
  unfold wpLk at h2 ⊢
  exact h2
 unfold opP at h
 have val : o.guard = none → ∀ (x : AV) (v : Value), (execOp a.eval o).run P w = .ok (.value v) w → (∀ c, ¬ o.op = .defer c) → VR2 σ g w x v → zba Γ.nt o.dst none x fr (fun fr' => k fr' σ) → wpLk Γ.ro P all.toArray E K (o :: rest) a w := by
  intro hg x v hrun hnc hv hput
  unfold wpLk
  rw [if_pos (show Region.wanted o _ = true by simp [Region.wanted, hg])]
  refine ⟨fun _ _ => trivial, ?_⟩
  rw [Oper.semAt_eq _ _ o hnc, hrun]
  obtain ⟨fr', hk', hr''⟩ := zcf hr hput (v := v) (zZ hv)
  exact hk _ _ _ _ _ hr'' hk'
 split at h
 ·rename_i x hg ho
  obtain ⟨u, hk, hu⟩ := zK h
  split at hk
  ·rename_i T v
   have hv := zm (hu (.inl rfl) Γ σ g a w hr)
   unfold wpLk
   rw [if_pos (show Region.wanted o _ = true by simp [Region.wanted, hg])]
   refine ⟨fun _ _ => trivial, ?_⟩
   rw [Oper.semAt_eq _ _ o (by intro c hc; rw [ho] at hc; cases hc)]
   have hrun : (execOp a.eval o).run P w = .halt (.panic (.iface T v)) w := by
    simp only [execOp, ho]
    rw [hv]
    rfl
   rw [hrun]
   exact hE _ _ _ _ _ _ hr hk
  ·exact hk.elim
 ·rename_i T x hg ho
  obtain ⟨⟨d, hd, hdc⟩, h⟩ := h
  obtain ⟨u, hk, hu⟩ := zK h
  split at hk
  ·rename_i v
   have hv := zm (hu (.inl rfl) Γ σ g a w hr)
   refine val hg _ (.iface T v) ?_ (by intro c hc; rw [ho] at hc; cases hc) (zL _ rfl) hk
   simp only [execOp, ho]
   rw [hv]
   simp only [Instr.makeInterface, Sem.run_bind, run_underlying hd, Result.andThen_ok]
   cases d <;> first | (cases hdc; done) | rfl
  ·exact hk.elim
 ·rename_i x xT T hg ho
  obtain ⟨⟨d, hd, hdc⟩, h⟩ := h
  obtain ⟨u, hk, hu⟩ := zK h
  split at hk
  ·rename_i S v
   obtain ⟨rfl, h1, hk⟩ := hk
   have hv := zm (hu (.inl rfl) Γ σ g a w hr)
   refine val hg _ v ?_ (by intro c hc; rw [ho] at hc; cases hc) (zL _ h1) hk
   simp only [execOp, ho]
   rw [hv]
   simp only [Instr.typeAssert, Sem.run_bind, run_underlying hd, Result.andThen_ok]
   cases d <;> first | (cases hdc; done) | simp
  ·exact hk.elim
 ·rename_i op xT x yT hg ho
  obtain ⟨⟨ms, hms⟩, h⟩ := h
  obtain ⟨u, hk, hu⟩ := zK h
  obtain ⟨b, hb, hrun⟩ := zj1 (X := x) hms hk (hu (.inl rfl) Γ σ g a w hr)
  refine val hg _ (.bool b) ?_ (by intro c hc; rw [ho] at hc; cases hc) (zL _ rfl) hb
  simp only [execOp, ho]
  show ((do eqGuard op xT x (.const .nilIface) (a.eval x) .nilIface; binOp op xT (a.eval x) .nilIface) >>= fun x => pure (Next.value x) : Sem Next).run P w = _
  rw [Sem.run_bind, hrun]; rfl
 ·rename_i op xT x yT hg ho
  obtain ⟨⟨ps, rs, va, hms⟩, h⟩ := h
  obtain ⟨u, hk, hu⟩ := zK h
  obtain ⟨b, hb, hrun⟩ := znq (X := x) hms hk (hu (.inl rfl) Γ σ g a w hr)
  refine val hg _ (.bool b) ?_ (by intro c hc; rw [ho] at hc; cases hc) (zL _ rfl) hb
  simp only [execOp, ho]
  show ((do eqGuard op xT x (.const .nilFunc) (a.eval x) .nilFunc; binOp op xT (a.eval x) .nilFunc) >>= fun x => pure (Next.value x) : Sem Next).run P w = _
  rw [Sem.run_bind, hrun]; rfl
 ·rename_i f args ts hg ho
  obtain ⟨fv, h2, hfv⟩ := zK h
  clear h
  obtain ⟨vs, h, hl, hvs⟩ := zbE h2
  clear h2
  split at h
  ·rename_i fid first captured
   obtain ⟨R, Rp, hac, hcont, hpan⟩ := h
   unfold wpLk
   rw [if_pos (show Region.wanted o _ = true by simp [Region.wanted, hg])]
   refine ⟨fun _ _ => trivial, ?_⟩
   rw [Oper.semAt_eq _ _ o (by intro c hc; rw [ho] at hc; cases hc)]
   have hsr : SR σ g w (.f (.func fid) first captured) (a.eval f) := hfv (.inl rfl) Γ σ g a w hr
   generalize hae : a.eval f = fval at hsr
   cases hsr with
   | f _ _ _ v1 v2 s1 s2 r1 r2 =>
    have hvl : vs.length = (args.map a.eval).size := by simpa using hl
    have hargs := zde (us := args.map a.eval) s1 s2 r1 r2 hvl (fun j x v hx hv => by
     rw [Array.getElem?_map] at hv
     cases ha : args[j]? with
     | none => rw [ha] at hv; cases hv
     | some y => rw [ha] at hv; cases hv; exact hvs (.inl rfl) Γ σ g a w hr _ x y hx (by simpa using ha))
    have hsize : (v1 ++ args.map a.eval ++ v2).size = (first.map AV.x ++ vs ++ captured.map AV.x).length := by
     simp at hvl; simp [s1, s2, hvl]
    rw [zdl ho hae hac.1 w]
    refine ⟨zfc, zbi.2 ?_⟩
    refine (hac.2 Γ.w0 Γ.K0 g w _ hL hr.hp hsize hargs).mono fun e w' h => ?_
    rcases h with ⟨v, g', σ', r, he, hd, hv, hR⟩ | ⟨v, g', σ', he, hd, hR⟩
    ·subst he
     have hr' := hr.did hd
     obtain ⟨fr', hk', hr''⟩ := zcf hr' (hcont r σ' hR) (v := v) (zZ hv)
     exact hk _ _ _ _ _ hr'' hk'
    ·subst he
     exact hE _ _ _ _ _ _ (hr.did hd) (hpan v σ' hR)
  ·exact h.elim
 ·exact easy h
theorem zgF {tt : TT} (htt : tt.ok P) (hL : Laid P Γ.K0.K Γ.w0) {all : List Oper} {E : Exit → Act → World → Prop} {kp : Value → Fr → Sg → Prop} {k : Fr → Sg → Prop} {K : Act → World → Prop}
  (hE : ∀ v fr σ g a w, Rel Γ fr σ g a w → kp v fr σ → E (.panic [{ v := v, recovered := false }]) a w) (hk : ∀ fr σ g a w, Rel Γ fr σ g a w → k fr σ → K a w) :
  ∀ (rest : List Oper) (fr : Fr) (σ : Sg), zhO P tt Γ.nt all kp k rest fr σ → ∀ (g : Gh) (a : Act) (w : World), Rel Γ fr σ g a w → wpLk Γ.ro P all.toArray E K rest a w
 | [], fr, σ, h, g, a, w, hr => by unfold zhO at h; exact hk _ _ _ _ _ hr h
 | o :: rest, fr, σ, h, g, a, w, hr => by
  unfold zhO at h
  exact zlT htt hL hE rest (fun fr σ g a w hr hh => zgF htt hL hE hk rest fr σ hh g a w hr) o fr σ h g a w hr
theorem zH {tt : TT} (htt : tt.ok P) {id : Nat} {ops : List Oper} (h : zhO P tt Γ.nt ops (fun v fr σ => Q (.panic [{ v := v, recovered := false }]) fr σ) (Q .normal) ops fr σ) : AW P Γ (.region id ops.toArray false) Q fr σ :=
 AW.mk fun hL g a w hr => zbT (zgF htt hL (E := Lift Γ Q) (fun _ _ _ _ _ _ hr hq => ⟨_, _, _, hr, hq⟩) (fun _ _ _ _ _ hr hq => ⟨_, _, _, hr, hq⟩) ops fr σ h g a w hr)
def zfR (P : Program) (tt : TT) (nt : Nat) (all : List Oper) (kp : Value → Fr → Sg → Prop) (ms : List Nat) (full : Nat) (k : Fr → Sg → Prop) : Nat → Nat → Fr → Sg → Prop
 | 0, done, fr, σ => bif Nat.beq done full then k fr σ else False
 | f + 1, done, fr, σ => bif Nat.beq done full then k fr σ else
  allN (fun i o => bif Nat.beq (Nat.land done (Nat.pow 2 i)) 0 && Nat.beq (Nat.land (ms.getD i 0) done) (ms.getD i 0) then
   opP P tt nt all kp o fr σ (fun fr' σ' => zfR P tt nt all kp ms full k f (Nat.lor done (Nat.pow 2 i)) fr' σ') else True) all 0
theorem zoL {tt : TT} (htt : tt.ok P) (hmix : P.follows .mixedOrders = true) (ms : List Nat) {id : Nat} {ops : List Oper} (hms : zbe ms ops.length ops 0 = true) (fr' : Fr) (σ' : Sg)
  (h : zfR P tt Γ.nt ops (fun v fr σ => Q (.panic [{ v := v, recovered := false }]) fr σ) ms (Nat.sub (Nat.pow 2 ops.length) 1) (fun fr1 σ1 => Imp Γ fr1 σ1 fr' σ') ops.length 0 fr σ) (hk : Q .normal fr' σ') : AW P Γ (.region id ops.toArray true) Q fr σ := by
 refine AW.mk fun hLd g a w hr => ?_
 have hm := MaskOK.of hms
 generalize hfull : Nat.sub (Nat.pow 2 ops.length) 1 = full at h
 have hfb : ∀ j, full.testBit j = decide (j < ops.length) := by
  intro j; rw [← hfull]; exact Nat.testBit_two_pow_sub_one ops.length j
 let Inv : (Nat → Prop) → Act → World → Prop := fun L a w => ∃ (fr1 : Fr) (σ1 : Sg) (g : Gh) (f done : Nat), Rel Γ fr1 σ1 g a w ∧ zfR P tt Γ.nt ops (fun v fr σ => Q (.panic [{ v := v, recovered := false }]) fr σ) ms full (fun fr1 σ1 => Imp Γ fr1 σ1 fr' σ') f done fr1 σ1 ∧ (∀ j, L j ↔ done.testBit j = true) ∧ (∀ j, L j → j < ops.length)
 refine wpIn_region_any hmix ?_
 refine zbU hm Inv ?_ ?_ _ _ _ _ (by simp) ?_ ?_ ?_
 ·intro L a w ⟨fr1, σ1, g1, f, done, hr1, hv, hL, hlt⟩ i hi hLi hbits
  have hi' : i < ops.length := by simpa using hi
  have hdi : done.testBit i = false := by
   cases hb : done.testBit i with
   | false => rfl
   | true => exact absurd ((hL i).2 hb) hLi
  have hne : Nat.beq done full = false := by
   cases hb : Nat.beq done full with
   | false => rfl
   | true =>
    have := Nat.eq_of_beq_eq_true hb
    rw [this, hfb] at hdi
    simp [hi'] at hdi
  cases f with
  | zero => unfold zfR at hv; rw [hne] at hv; exact hv.elim
  | succ f =>
   unfold zfR at hv
   rw [hne] at hv
   simp only [cond_false] at hv
   have hoi : ops.toArray[i]? = some ops[i] := by simp [hi']
   have h1 := zhJ hv i ops[i] (List.getElem?_eq_getElem hi')
   rw [Nat.zero_add, zkf hdi, zke (fun b hb => (hL b).1 (hbits b hb))] at h1
   have e1 : Nat.beq 0 0 = true := rfl
   have e2 : Nat.beq (ms.getD i 0) (ms.getD i 0) = true := by rw [Nat.beq_eq]
   rw [e1, e2] at h1
   simp only [Bool.and_self, cond_true] at h1
   have h2 := zlT (Γ := Γ) htt hLd (E := Lift Γ Q) (K := Inv (fun j => L j ∨ j = i)) (fun _ _ _ _ _ _ hr hq => ⟨_, _, _, hr, hq⟩) [] (fun fr2 σ2 g2 a2 w2 hr2 hv2 => by
    refine ⟨fr2, σ2, g2, f, _, hr2, hv2, fun j => ?_, fun j hj => ?_⟩
    ·show (L j ∨ j = i) ↔ (done ||| 2 ^ i).testBit j = true
     rw [Nat.testBit_or, Nat.testBit_two_pow, hL j]
     simp only [Bool.or_eq_true, decide_eq_true_eq]
     exact ⟨fun h => h.elim .inl (fun e => .inr e.symm), fun h => h.elim .inl (fun e => .inr e.symm)⟩
    ·rcases hj with hj | rfl
     ·exact hlt j hj
     ·exact hi') ops[i] fr1 σ1 h1 g1 a w hr1
   unfold wpOpIn
   simp only [hoi]
   unfold wpLk at h2
   split
   ·rename_i hwant
    rw [if_pos hwant] at h2
    exact Oper.wpIn_mono (fun a w h => h) h2
   ·rename_i hwant
    rw [if_neg hwant] at h2
    exact ⟨fun _ _ => trivial, h2⟩
 ·intro L a w ⟨fr1, σ1, g1, f, done, hr1, hv, hL, hlt⟩ hall
  have hd : done = full := by
   apply Nat.eq_of_testBit_eq
   intro j
   rw [hfb]
   by_cases hj : j < ops.length
   ·rw [(hL j).1 (hall j (by simpa using hj))]; simp [hj]
   ·cases hb : done.testBit j with
    | true => exact absurd (hlt j ((hL j).2 hb)) hj
    | false => simp [hj]
  have hb : Nat.beq done full = true := by rw [hd, Nat.beq_eq]
  have hi : Imp Γ fr1 σ1 fr' σ' := by
   cases f with
   | zero => unfold zfR at hv; rw [hb] at hv; exact hv
   | succ f => unfold zfR at hv; rw [hb] at hv; exact hv
  obtain ⟨g', hr'⟩ := hi g1 a w hr1
  exact ⟨fr', σ', g', hr', hk⟩
 ·intro i hi
  have : (Array.replicate ops.length false)[i]?.getD false = false := by
   rw [Array.getElem?_replicate]; split <;> rfl
  simp [this] at hi
 ·unfold unl
  refine Nat.le_trans (List.length_filter_le _ _) (by simp)
 ·refine ⟨fr, σ, g, ops.length, 0, hr.drawn _, h, fun j => ?_, fun j hj => ?_⟩
  ·have : (Array.replicate ops.length false)[j]?.getD false = false := by
    rw [Array.getElem?_replicate]; split <;> rfl
   simp [this]
  ·have : (Array.replicate ops.length false)[j]?.getD false = false := by
    rw [Array.getElem?_replicate]; split <;> rfl
   simp [this] at hj
def zsj (tt : TT) (res : List ResultVar) (ids : List Nat) (R : AV → Sg → Prop) (Rp : Value → Sg → Prop) : Exit → Fr → Sg → Prop
 | .normal, fr, σ | .ret, fr, σ => ∃ r σ', SubS σ σ' ∧ (rsSg σ' σ' && zbC ids σ') = true ∧ zb0 tt res fr σ σ' = some r ∧ R r σ'
 | .panic ch, fr, σ => ∃ v σ', ch = [{ v := v, recovered := false }] ∧ SubS σ σ' ∧ (rsSg σ' σ' && zbC ids σ') = true ∧ Rp v σ'
 | _, _, _ => False
theorem z6 {tt : TT} (htt : tt.ok P) {f : FuncId} {fn : Func} {c : Code} {args : List AV} {σ : Sg} {R : AV → Sg → Prop} {Rp : Value → Sg → Prop} {res : List ResultVar} (hf : P.funcs[f]? = some fn) (hb : fn.body = some c)
  (hname : (fn.name == "runtime.NumGoroutine") = false) (hres : fn.results = res.toArray) {nt : Nat} (hnt : fn.ntmps = nt) (hle : args.length ≤ nt)
  (h : ∀ w0 K0 B, AW P ⟨w0, K0, nt, B, σ.map (·.1), none, [], []⟩ c (zsj tt res (σ.map (·.1)) R Rp) (entry 0 args) σ) : PCall P f args σ R Rp := by
 refine ⟨⟨fn, hf, by rw [hb]; rfl, hname⟩, fun w0 K0 g w vs hL hp hs hv => ?_⟩
 refine calls_of_wp hf hb ((wpIn_wide (n := 0)).1 ?_)
 have hrel : Rel ⟨w0, K0, nt, SR σ g w, σ.map (·.1), none, [], []⟩ (entry 0 args) σ g ⟨vs ++ Array.replicate (fn.ntmps - vs.size) undef, []⟩ w := by
  refine ⟨hp, fun t x ht => ?_, by simp; omega, DRb.empty, fun s v hb => ⟨hb, SR.inI hb⟩⟩
  obtain ⟨_, hx⟩ := zbm args 0 t x ht
  rw [Nat.sub_zero] at hx
  have hlt : t < args.length := (List.getElem?_eq_some_iff.1 hx).1
  refine ⟨by show t < nt; omega, ?_⟩
  have hvt : vs[t]? = some (vs[t]'(by omega)) := Array.getElem?_eq_getElem (by omega)
  have e : (vs ++ Array.replicate (fn.ntmps - vs.size) undef).getD t undef = vs[t]'(by omega) := by
   rw [Array.getD_eq_getD_getElem?, Array.getElem?_append_left (by omega), hvt]; rfl
  show VR _ _ _ _ ((vs ++ Array.replicate (fn.ntmps - vs.size) undef).getD t undef)
  rw [e]
  exact zZ (hv t x _ hx hvt)
 refine wpIn_mono ((h w0 K0 _).use hL hrel) ?_
 intro e a' w' ⟨fr, τ, g', hr, hq⟩
 have fin : (∃ r σ', SubS τ σ' ∧ (rsSg σ' σ' && zbC (σ.map (·.1)) σ') = true ∧ zb0 tt res fr τ σ' = some r ∧ R r σ') →
   a'.defers = [] ∧ ∃ v, (results fn a'.tmps).run P w' = .ok v w' ∧ ((∃ v_1 g'' σ'' r, Ending.returned v = .returned v_1 ∧ Did w0 K0 σ g w σ'' g'' w' ∧ VR2 σ'' g'' w' r v_1 ∧ R r σ'') ∨
    ∃ v_1 g'' σ'', Ending.returned v = .panicked [{ v := v_1, recovered := false }] ∧ Did w0 K0 σ g w σ'' g'' w' ∧ Rp v_1 σ'') := by
  rintro ⟨r, σ', hss, hc, ho, hR⟩
  simp only [Bool.and_eq_true] at hc
  have hsup := za9 hss
  obtain ⟨v, hrun, hvr⟩ := zbQ htt hr hsup hres ho
  exact ⟨hr.defers.nil, v, hrun, .inl ⟨v, _, σ', r, rfl, ⟨hr.hp.atEnd hsup hc.1, fun s u hs => zak (zai hsup hc.2 (hr.base s u hs).1 (hr.base s u hs).2)⟩, hvr, hR⟩⟩
 cases e with
 | normal => exact fin hq
 | ret => exact fin hq
 | panic ch =>
  obtain ⟨v, σ', rfl, hss, hc, hR⟩ := hq
  simp only [Bool.and_eq_true] at hc
  have hsup := za9 hss
  exact ⟨hr.defers.nil, .inr ⟨v, g', σ', rfl, ⟨hr.hp.weaken hsup hc.1, fun s u hs => zai hsup hc.2 (hr.base s u hs).1 (hr.base s u hs).2⟩, hR⟩⟩
 | exit id => exact hq.elim
 | goto l => exact hq.elim
 | outgrown => exact hq.elim
end
end Go.QL
namespace Go.QL
open Go Go.RowKit
def zm8 (P : Program) (f : FuncId) (args : List AV) (σ : Sg) (u : FrameMode) (R : FrameMode → Sg → Prop) : Prop :=
 Good P f ∧ ∀ (w0 : World) (K0 : Bs) (g : Gh) (w : World) (vs : Array Value), Laid P K0.K w0 → Hp w0 K0 σ g w → vs.size = args.length →
  (∀ (i : Nat) (x : AV) (v : Value), args[i]? = some x → vs[i]? = some v → VR2 σ g w x v) →
  CallsDIn Fence.wide 0 P f vs u w fun e u' w' => ∃ v g' σ', e = .returned v ∧ Did w0 K0 σ g w σ' g' w' ∧ R u' σ'
def AWx (P : Program) (Γ : Cx) (c : Code) (E : Exit → Act → World → Prop) (fr : Fr) (σ : Sg) : Prop :=
 Laid P Γ.K0.K Γ.w0 → ∀ g a w, Rel Γ fr σ g a w → c.wpIn (FX Γ.ro) 0 P E a w
def DF (B B' : SV → Value → Prop) (fid : FuncId) (first captured : List SV) (d : Deferred) : Prop :=
 (∀ s v, B s v → B' s v) ∧ ∃ v1 v2, B' (.f (.func fid) first captured) (.func (.func fid) v1 v2) ∧ d = ⟨.fn (.func fid) v2, v1⟩
abbrev Cx.dfrd (Γ : Cx) (σ : Sg) (B' : SV → Value → Prop) (d : Deferred) : Cx := ⟨Γ.w0, Γ.K0, Γ.nt, B', σ.map (·.1), Γ.ro, Γ.dfs, d :: Γ.bs⟩
def zjQ (P : Program) (tt : TT) (Γ : Cx) (all : List Oper) (k : Cx → Fr → Sg → Prop) : List Oper → Fr → Sg → Prop
 | [], _, _ => False
 | o :: r, fr, σ =>
  match o.guard, o.dst, o.op with
  | none, none, .defer ⟨.value f, args, _⟩ => args.toList = [] ∧ ev1 fr none f fun fv =>
   (match fv with
   | .x (.f (.func fid) first captured) => (Γ.dfs.all fun i => !(lk i σ).isSome) = true ∧ ∀ B' d, DF Γ.B B' fid first captured d → zah P tt Γ.nt all (fun fr' σ' => k (Γ.dfrd σ B' d) fr' σ') r fr σ
   | _ => False)
  | _, _, _ => zah P tt Γ.nt all (fun fr' σ' => zjQ P tt Γ all k r fr' σ') [o] fr σ
section
variable {P : Program} {Γ : Cx} {fr : Fr} {σ : Sg}
theorem zrx {c : Code} {Q : Exit → Fr → Sg → Prop} {E : Exit → Act → World → Prop} (h : AW P Γ c Q fr σ) (hq : ∀ e fr σ g a w, Rel Γ fr σ g a w → Q e fr σ → E e a w) : AWx P Γ c E fr σ :=
 fun hL g a w hr => wpIn_mono (h.use hL hr) fun e a w ⟨fr, σ, g, r, q⟩ => hq e fr σ g a w r q
theorem zm9 {x y : Code} {Q : Exit → Fr → Sg → Prop} {E : Exit → Act → World → Prop} (h : AW P Γ x (Exit.thn (AWx P Γ y E) Q) fr σ) (hq : ∀ e fr σ g a w, Rel Γ fr σ g a w → Q e fr σ → E e a w) : AWx P Γ (.seq x y) E fr σ := by
 intro hL g a w hr
 refine wpIn_seq (wpIn_mono (h.use hL hr) ?_)
 intro e a w ⟨fr, σ, g, r, q⟩
 cases e with
 | normal => exact q hL g a w r
 | ret => exact hq _ _ _ _ _ _ r q
 | exit _ => exact hq _ _ _ _ _ _ r q
 | goto _ => exact hq _ _ _ _ _ _ r q
 | panic _ => exact hq _ _ _ _ _ _ r q
 | outgrown => exact hq _ _ _ _ _ _ r q
theorem Rel.dfrd {g : Gh} {a : Act} {w : World} (hr : Rel Γ fr σ g a w) (hno : (Γ.dfs.all fun i => !(lk i σ).isSome) = true) (d : Deferred) : Rel (Γ.dfrd σ (SR σ g w) d) fr σ g { a with defers := d :: a.defers } w := by
 refine ⟨hr.hp, hr.fr, hr.size, ?_, fun s v h => ⟨h, h.inI⟩⟩
 obtain ⟨ms, hms, is, h1, h2, h3⟩ := hr.defers
 have : ms = [] := by
  cases ms with
  | nil => rfl
  | cons x r =>
   cases is with
   | nil => cases h2
   | cons i r' =>
    obtain ⟨hi, hl, _⟩ := h3 0 i x rfl rfl
    rw [List.all_eq_true] at hno
    have := hno i hi
    rw [hl] at this; cases this
 subst this
 exact ⟨[], by show d :: a.defers = _; rw [hms]; rfl, DR.empty⟩
theorem zhP {tt : TT} (htt : tt.ok P) (hro : Γ.ro = none) (hL : Laid P Γ.K0.K Γ.w0) {all : List Oper} {k : Cx → Fr → Sg → Prop} {E : Exit → Act → World → Prop} {K : Act → World → Prop}
  (hk : ∀ σ0 B' d fr σ g a w, Rel (Γ.dfrd σ0 B' d) fr σ g a w → k (Γ.dfrd σ0 B' d) fr σ → K a w) : ∀ (rest : List Oper) (fr : Fr) (σ : Sg), zjQ P tt Γ all k rest fr σ →
  ∀ (g : Gh) (a : Act) (w : World), Rel Γ fr σ g a w → wpLk Γ.ro P all.toArray E K rest a w
 | [], fr, σ, h, g, a, w, hr => h.elim
 | o :: rest, fr, σ, h, g, a, w, hr => by
  have ih := fun fr σ => zhP htt hro hL (all := all) (E := E) hk rest fr σ
  unfold zjQ at h
  split at h
  ·rename_i f args ts hg hdst ho
   obtain ⟨ha, h⟩ := h
   obtain ⟨fv, h, hfv⟩ := zK h
   split at h
   ·rename_i fid first captured
    obtain ⟨hno, h⟩ := h
    have hsr : SR σ g w (.f (.func fid) first captured) (a.eval f) := hfv (.inl rfl) Γ σ g a w hr
    generalize hae : a.eval f = fval at hsr
    have hsr0 := hsr
    cases hsr with
    | f _ _ _ v1 v2 s1 s2 r1 r2 =>
     unfold wpLk
     rw [if_pos (show Region.wanted o _ = true by simp [Region.wanted, hg])]
     refine ⟨fun _ _ => trivial, ?_⟩
     obtain ⟨args⟩ := args
     simp only at ha
     subst ha
     have hrun : (o.semAt (FX Γ.ro).round a.eval).run P w = .ok (.defer ⟨.fn (.func fid) v2, v1⟩) w := by
      rw [show (FX Γ.ro).round = none from hro, Oper.semAt_none]
      simp [execOp, ho, resolve, Deferred.ofValue, hae]
     rw [hrun]
     show wpLk Γ.ro P all.toArray E K rest ({ a with defers := ⟨.fn (.func fid) v2, v1⟩ :: a.defers }.put o.dst undef) w
     rw [hdst]
     show wpLk Γ.ro P all.toArray E K rest { a with defers := ⟨.fn (.func fid) v2, v1⟩ :: a.defers } w
     have hr' := hr.dfrd hno ⟨.fn (.func fid) v2, v1⟩
     exact zaJ (Γ := Γ.dfrd σ (SR σ g w) ⟨.fn (.func fid) v2, v1⟩) htt hL (Qx := E) (K := K) (fun fr σ g a w hr h => hk _ _ _ _ _ _ _ _ hr h) rest fr σ
      (h (SR σ g w) _ ⟨fun s v hb => (hr.base s v hb).1, v1, v2, hsr0, rfl⟩) g _ w hr'
   ·exact h.elim
  ·have h2 := zaJ (Γ := Γ) htt hL (Qx := E) (K := wpLk Γ.ro P all.toArray E K rest) (fun fr2 σ2 g2 a2 w2 hr2 hv2 => ih fr2 σ2 hv2 g2 a2 w2 hr2) [o] fr σ h g a w hr
   unfold wpLk at h2 ⊢
   exact h2
theorem zna {tt : TT} (htt : tt.ok P) (hro : Γ.ro = none) {id : Nat} {ops : List Oper} {y : Code} {E : Exit → Act → World → Prop} (h : zjQ P tt Γ ops (fun Γ' fr σ => AWx P Γ' y E fr σ) ops fr σ) : AWx P Γ (.seq (.region id ops.toArray false) y) E fr σ := by
 intro hL g a w hr
 refine wpIn_seq (zbT ?_)
 exact zhP htt hro hL (E := Exit.then (y.wpIn (FX Γ.ro) 0 P E) E) (K := fun a w => y.wpIn (FX Γ.ro) 0 P E a w) (fun σ0 B' d fr σ g a w hr h => h hL g a w hr) ops fr σ h g a w hr
end
section
variable {P : Program} {Γ : Cx} {w0 : World} {K0 : Bs} {fr : Fr} {σ σ' : Sg} {g : Gh} {a : Act} {w : World}
theorem zhk (hs : Sup σ' σ) (hr : rsSg σ' σ' = true) : ∀ (is : List Nat) (ds : List Deferred) (w : World), is.Nodup → is.length = ds.length → Hp w0 K0 σ' g w →
  (∀ i ∈ is, lk i σ' = none) →
  (∀ (k i : Nat) (x : Deferred), is[k]? = some i → ds[k]? = some x → ∃ d, g.μ i = .pointer (some ⟨d, 0, none⟩) ∧ x = ⟨.collected d, #[]⟩ ∧ w.heap[d]? = some (.deferred (some [])) ∧ (∀ o, ¬ g.K d o) ∧ ¬ K0.F d ∧ (∀ id, (lk id σ').isSome → blk (g.μ id) ≠ some d)) →
  (∀ (i j : Nat), i ∈ is → j ∈ is → ∀ b, blk (g.μ i) = some b → blk (g.μ j) = some b → i = j) →
  ∃ w1, Hp w0 K0 σ' g w1 ∧ (∀ s v, SR σ' g w s v → SR σ' g w1 s v) ∧ w1.heap.size = w.heap.size ∧
   ∀ (F : Fence) (n : Nat) (fn : Func) (tmps : Array Value) (R : Ending → World → Prop), ∀ (u : FrameMode) (bs : List Deferred), u ≠ .run → LeavesInM F n P fn tmps R bs u w1 → LeavesInM F n P fn tmps R (ds ++ bs) u w
 | [], ds, w, _, hl, hp, _, _, _ => by
  cases ds with
  | nil => exact ⟨w, hp, fun _ _ h => h, rfl, fun _ _ _ _ _ _ _ _ h => h⟩
  | cons _ _ => cases hl
 | i :: is, ds, w, hnd, hl, hp, hno, hx, hinj => by
  cases ds with
  | nil => cases hl
  | cons x ds =>
   rw [List.nodup_cons] at hnd
   obtain ⟨d, hμ, rfl, hheap, hK, hF, hother⟩ := hx 0 i x rfl rfl
   have hbi : blk (g.μ i) = some d := by rw [hμ]; rfl
   let w1 := putO w d (.deferred none)
   have hext : Ext g.K w g.K w1 := ⟨fun _ _ h => h, fun b o hk => World.cell?_of_block (w := w) (a := ⟨b, o, none⟩) (zan (fun e => hK o (e ▸ hk)))⟩
   have hkeep : ∀ s v, SR σ' g w s v → SR σ' g w1 s v := fun s v h =>
    SR.keep (σ := σ') (σ' := σ') (g := g) (g' := g) (w := w) (w' := w1) (Compat.refl σ' g) hext h
   have hp1 : Hp w0 K0 σ' g w1 := by
    refine ⟨?_, hp.flt, hp.ext.trans hext, hp.old, fun b o hk => by have := hp.val b o hk; simpa [w1] using this, fun id obj hid => ?_, hp.own, hp.inj⟩
    ·exact hp.kept.trans ⟨rfl, rfl, rfl, by simp [w1], fun k hk => zan (fun e => hF (e ▸ hk))⟩
    ·exact (hp.obs id obj hid).keep hkeep hext rfl (fun b hb => zan (fun e => hother id (by rw [hid]; rfl) (e ▸ hb))) (fun b hb o => hp.notK hid hb o)
   have ih := zhk hs hr is ds w1 hnd.2 (by simpa using hl) hp1 (fun j hj => hno j (List.mem_cons_of_mem _ hj)) (fun k j y hj hy => ?_) (fun j k hj hk => hinj j k (List.mem_cons_of_mem _ hj) (List.mem_cons_of_mem _ hk))
   ·obtain ⟨w2, q1, q2, q3, q4⟩ := ih
    refine ⟨w2, q1, fun s v h => q2 s v (hkeep s v h), by rw [q3]; simp [w1], fun F n fn tmps R u bs hu h => ?_⟩
    refine ⟨hu, .inl ⟨d, w1, rfl, run_takeDeferred hheap, q4 F n fn tmps R u bs hu h⟩⟩
   ·obtain ⟨d', p1, p2, p3, p4, p5, p6⟩ := hx (k + 1) j y hj hy
    refine ⟨d', p1, p2, ?_, p4, p5, p6⟩
    have hjm : j ∈ is := List.mem_of_getElem? hj
    have hne : d' ≠ d := fun e => by
     have := hinj j i (List.mem_cons_of_mem _ hjm) (by simp) d (by rw [p1, e]; rfl) hbi
     subst this; exact hnd.1 hjm
    show (putO w d (.deferred none)).heap[d']? = _
    rw [zan hne]; exact p3
def EndX (P : Program) (fn : Func) (w0 : World) (K0 : Bs) (σ : Sg) (g : Gh) (w : World) (R : AV → Sg → Prop) : Exit → Act → World → Prop :=
 bodyPostM Fence.wide 0 P fn fun e w' => ∃ v g' σ' r, e = .returned v ∧ Did w0 K0 σ g w σ' g' w' ∧ VR2 σ' g' w' r v ∧ R r σ'
theorem zg8 {tt : TT} (htt : tt.ok P) {fn : Func} {res : List ResultVar} (hres : fn.results = res.toArray) {nt : Nat} {dfs : List Nat} {R : AV → Sg → Prop} {e : Exit} {fr : Fr} {τ : Sg} {g' : Gh} {a' : Act} {w' : World}
  (hr : Rel ⟨w0, K0, nt, SR σ g w, σ.map (·.1), none, dfs, []⟩ fr τ g' a' w') (hq : zk6 tt res (σ.map (·.1)) dfs R e fr τ) : EndX P fn w0 K0 σ g w R e a' w' := by
 have fin : zk6 tt res (σ.map (·.1)) dfs R .ret fr τ →
   LeavesInM Fence.wide 0 P fn a'.tmps (fun e w' => ∃ v g' σ' r, e = .returned v ∧ Did w0 K0 σ g w σ' g' w' ∧ VR2 σ' g' w' r v ∧ R r σ') a'.defers .returning w' := by
  rintro ⟨fr1, σ1, hsf, hss, hc, r, σ', hsub, hc2, ho, hR⟩
  simp only [Bool.and_eq_true, List.all_eq_true, Bool.not_eq_true'] at hc hc2
  obtain ⟨⟨hcf, hcs⟩, hno⟩ := hc
  have hsf := ze8 hsf
  have hss := za9 hss
  have hp1 := hr.hp.weaken hss hcs
  obtain ⟨ms, hms, is, q1, q2, q3⟩ := hr.defers
  obtain rfl : ms = a'.defers := by simpa using hms.symm
  have hnone : ∀ i ∈ is, lk i σ1 = none := fun i hi => by
   obtain ⟨k, hk, he⟩ := List.getElem_of_mem hi
   have := (q3 k i (a'.defers[k]'(by omega)) (by rw [List.getElem?_eq_getElem hk, he]) (List.getElem?_eq_getElem (by omega))).1
   have := hno i this
   cases hl : lk i σ1 with
   | none => rfl
   | some _ => rw [hl] at this; cases this
  have hdfr : ∀ i ∈ is, lk i τ = some (.x .dfr) := fun i hi => by
   obtain ⟨k, hk, he⟩ := List.getElem_of_mem hi
   exact (q3 k i (a'.defers[k]'(by omega)) (by rw [List.getElem?_eq_getElem hk, he]) (List.getElem?_eq_getElem (by omega))).2.1
  obtain ⟨w1, s1, s2, s3, s4⟩ := zhk (P := P) (w0 := w0) (K0 := K0) (g := g') hss hcs is a'.defers w' q1 q2 hp1 hnone (fun k i x hi hx => by
   obtain ⟨b1, b2, d, b3, b4⟩ := q3 k i x hi hx
   have hbi : blk (g'.μ i) = some d := by rw [b3]; rfl
   obtain ⟨b', h1, h2, h3, h4⟩ := hr.hp.obs i _ b2
   rw [b3] at h1; cases h1
   refine ⟨d, b3, b4, h3, h4, hr.hp.own i d (by rw [b2]; rfl) hbi, fun id hid hb => ?_⟩
   obtain ⟨ob, hob⟩ := Option.isSome_iff_exists.1 hid
   have := hr.hp.inj id i d (by rw [hss _ _ hob]; rfl) (by rw [b2]; rfl) hb hbi
   subst this
   rw [hnone id (List.mem_of_getElem? hi)] at hob; cases hob)
   (fun i j hi hj b hb1 hb2 => hr.hp.inj i j b (by rw [hdfr i hi]; rfl) (by rw [hdfr j hj]; rfl) hb1 hb2)
  rw [← List.append_nil a'.defers]
  refine s4 Fence.wide 0 fn a'.tmps _ _ [] (by simp) ?_
  have hrel1 : Rel ⟨w0, K0, nt, SR σ g w, σ.map (·.1), none, [], []⟩ fr1 σ1 g' { a' with defers := [] } w1 := by
   refine ⟨s1, fun t v ht => ⟨(hr.fr t v (hsf t v ht)).1, ?_⟩, hr.size, DRb.empty, fun s v hb => ⟨s2 _ _ (zai hss hc2.2 (hr.base s v hb).1 (hr.base s v hb).2), (hr.base s v hb).2⟩⟩
   exact (zeQ hss (zaO hcf t v ht) (hr.fr t v (hsf t v ht)).2).keep s2
  have hsup := za9 hsub
  obtain ⟨v, hrun, hvr⟩ := zbQ htt hrel1 hsup hres ho
  refine zdC hrun ?_
  exact ⟨v, _, σ', r, rfl, ⟨hrel1.hp.atEnd hsup hc2.1.1, fun s u hs => zak (zai hsup hc2.1.2 (hrel1.base s u hs).1 (hrel1.base s u hs).2)⟩, hvr, hR⟩
 cases e with
 | normal => exact fin hq
 | ret => exact fin hq
 | _ => exact hq.elim
theorem Rel.unmark {nt : Nat} {B : SV → Value → Prop} {ids dfs : List Nat} {bs : List Deferred} {fr fr1 : Fr} {τ σ1 : Sg} {g' : Gh} {a' : Act} {w' : World} (hr : Rel ⟨w0, K0, nt, B, ids, none, dfs, bs⟩ fr τ g' a' w') (hsf : SubF fr fr1) (hss : SubS τ σ1)
  (hc : (rsFr σ1 fr1 && rsSg σ1 σ1 && dfs.all (fun i => !(lk i σ1).isSome) && zbC ids σ1) = true) :
  ∃ w1, Rel ⟨w0, K0, nt, B, ids, none, [], bs⟩ fr1 σ1 g' { a' with defers := bs } w1 ∧ ∀ (fn : Func) (tmps : Array Value) (R : Ending → World → Prop) (u : FrameMode), u ≠ .run → LeavesInM Fence.wide 0 P fn tmps R bs u w1 → LeavesInM Fence.wide 0 P fn tmps R a'.defers u w' := by
 simp only [Bool.and_eq_true, List.all_eq_true, Bool.not_eq_true'] at hc
 obtain ⟨⟨⟨hcf, hcs⟩, hno⟩, hids⟩ := hc
 have hsf := ze8 hsf
 have hss := za9 hss
 have hp1 := hr.hp.weaken hss hcs
 obtain ⟨ms, hms, is, q1, q2, q3⟩ := hr.defers
 have hdi : ∀ i ∈ is, i ∈ dfs ∧ lk i τ = some (.x .dfr) := fun i hi => by
  obtain ⟨k, hk, he⟩ := List.getElem_of_mem hi
  have := q3 k i (ms[k]'(by omega)) (by rw [List.getElem?_eq_getElem hk, he]) (List.getElem?_eq_getElem (by omega))
  exact ⟨this.1, this.2.1⟩
 have hnone : ∀ i ∈ is, lk i σ1 = none := fun i hi => by
  have := hno i (hdi i hi).1
  cases hl : lk i σ1 with
  | none => rfl
  | some _ => rw [hl] at this; cases this
 obtain ⟨w1, s1, s2, s3, s4⟩ := zhk (P := P) (w0 := w0) (K0 := K0) (g := g') hss hcs is ms w' q1 q2 hp1 hnone (fun k i x hi hx => by
  obtain ⟨b1, b2, d, b3, b4⟩ := q3 k i x hi hx
  have hbi : blk (g'.μ i) = some d := by rw [b3]; rfl
  obtain ⟨b', h1, h2, h3, h4⟩ := hr.hp.obs i _ b2
  rw [b3] at h1; cases h1
  refine ⟨d, b3, b4, h3, h4, hr.hp.own i d (by rw [b2]; rfl) hbi, fun id hid hb => ?_⟩
  obtain ⟨ob, hob⟩ := Option.isSome_iff_exists.1 hid
  have := hr.hp.inj id i d (by rw [hss _ _ hob]; rfl) (by rw [b2]; rfl) hb hbi
  subst this
  rw [hnone id (List.mem_of_getElem? hi)] at hob; cases hob)
  (fun i j hi hj b hb1 hb2 => hr.hp.inj i j b (by rw [(hdi i hi).2]; rfl) (by rw [(hdi j hj).2]; rfl) hb1 hb2)
 refine ⟨w1, ⟨s1, fun t v ht => ⟨(hr.fr t v (hsf t v ht)).1, ?_⟩, hr.size, DRb.empty, fun s v hb => ⟨s2 _ _ (zai hss hids (hr.base s v hb).1 (hr.base s v hb).2), (hr.base s v hb).2⟩⟩, fun fn tmps R u hu h => ?_⟩
 ·exact (zeQ hss (zaO hcf t v ht) (hr.fr t v (hsf t v ht)).2).keep s2
 ·rw [show a'.defers = ms ++ bs from hms]
  exact s4 Fence.wide 0 fn tmps R u bs hu h
def zhL (P : Program) (tt : TT) (res : List ResultVar) (ids ids' dfs : List Nat) (R : AV → Sg → Prop) (fid : FuncId) (first captured : List SV) (u : FrameMode) (fr : Fr) (τ : Sg) : Prop :=
 ∃ fr1 σ1, SubF fr fr1 ∧ SubS τ σ1 ∧ (rsFr σ1 fr1 && rsSg σ1 σ1 && dfs.all (fun i => !(lk i σ1).isSome) && zbC ids' σ1) = true ∧
  ∃ Rd, zm8 P fid (first.map .x ++ captured.map .x) σ1 u Rd ∧ ∀ u' σ2, Rd u' σ2 → settle u' = .returning ∧
   ∃ r σ', SubS σ2 σ' ∧ (rsSg σ' σ' && zbC ids σ') = true ∧ zb0 tt res fr1 σ2 σ' = some r ∧ R r σ'
def zpc (P : Program) (tt : TT) (res : List ResultVar) (ids ids' dfs : List Nat) (R : AV → Sg → Prop) (fid : FuncId) (first captured : List SV) : Exit → Fr → Sg → Prop
 | .normal, fr, τ | .ret, fr, τ => zhL P tt res ids ids' dfs R fid first captured .returning fr τ
 | .panic ch, fr, τ => zhL P tt res ids ids' dfs R fid first captured (.panicking ch) fr τ
 | _, _, _ => False
theorem zoJ {tt : TT} (htt : tt.ok P) (hL : Laid P K0.K w0) {fn : Func} {res : List ResultVar} (hres : fn.results = res.toArray) {nt : Nat} {dfs ids' : List Nat} {R : AV → Sg → Prop} {fid : FuncId} {first captured : List SV} {B' : SV → Value → Prop} {d : Deferred}
  (hd : DF (SR σ g w) B' fid first captured d) {e : Exit} {fr : Fr} {τ : Sg} {g' : Gh} {a' : Act} {w' : World}
  (hr : Rel ⟨w0, K0, nt, B', ids', none, dfs, [d]⟩ fr τ g' a' w') (hq : zpc P tt res (σ.map (·.1)) ids' dfs R fid first captured e fr τ) : EndX P fn w0 K0 σ g w R e a' w' := by
 have fin : ∀ u, u ≠ .run → zhL P tt res (σ.map (·.1)) ids' dfs R fid first captured u fr τ →
   LeavesInM Fence.wide 0 P fn a'.tmps (fun e w' => ∃ v g' σ' r, e = .returned v ∧ Did w0 K0 σ g w σ' g' w' ∧ VR2 σ' g' w' r v ∧ R r σ') a'.defers u w' := by
  rintro u hu ⟨fr1, σ1, hsf, hss, hc, Rd, hdc, hR⟩
  obtain ⟨w1, hr1, hl⟩ := Rel.unmark (P := P) hr hsf hss hc
  refine hl fn a'.tmps _ u hu ?_
  obtain ⟨hB, v1, v2, hf, rfl⟩ := hd
  have hsr := (hr1.base _ _ hf).1
  have hargs : ∀ (i : Nat) (x : AV) (v : Value), (first.map AV.x ++ [] ++ captured.map AV.x)[i]? = some x → (v1 ++ #[] ++ v2)[i]? = some v → VR2 σ1 g' w1 x v := by
   cases hsr with
   | f _ _ _ _ _ s1 s2 r1 r2 => exact zde (us := #[]) (vs := []) s1 s2 r1 r2 rfl (fun j x v hx hv => by simp at hx)
  have hsz : (v1 ++ v2).size = (first.map AV.x ++ captured.map AV.x).length := by
   cases hsr with
   | f _ _ _ _ _ s1 s2 r1 r2 => simp [s1, s2]
  obtain ⟨hgood, hcall⟩ := hdc
  have hinv : (invoke (.fn (.func fid) v2) v1).run P w1 = .ok (.enter fid (v1 ++ v2)) w1 := by
   obtain ⟨fn, h1, h2, h3⟩ := hgood
   have hb : ¬ fn.body = none := fun e => by rw [e] at h2; cases h2
   have h3' : ¬ fn.name = "runtime.NumGoroutine" := by simpa using h3
   simp [invoke, callFunc, h1, h3', hb]
  refine ⟨hu, .inr ⟨(fun h => by cases h), .func fid, v2, fid, v1 ++ v2, rfl, hinv, fun _ _ => trivial, ?_⟩⟩
  refine (hcall w0 K0 g' w1 (v1 ++ v2) hL hr1.hp hsz (fun i x v hx hv => hargs i x v (by simpa using hx) (by simpa using hv))).mono fun e u' w2 ⟨v, g2, σ2, he, hdid, hRd⟩ => ?_
  subst he
  obtain ⟨hset, r, σ', hsub, hc2, ho, hRr⟩ := hR u' σ2 hRd
  simp only [Bool.and_eq_true] at hc2
  have hr2 := hr1.did hdid
  have hsup := za9 hsub
  obtain ⟨v', hrun, hvr⟩ := zbQ htt hr2 hsup hres ho
  show LeavesInM Fence.wide 0 P fn a'.tmps _ [] (settle u') w2
  rw [hset]
  refine ⟨v', hrun, v', _, σ', r, rfl, ⟨hr2.hp.atEnd hsup hc2.1, fun s u hs => ?_⟩, hvr, hRr⟩
  exact zak (zai hsup hc2.2 (hr2.base s u (hB _ _ hs)).1 hs.inI)
 cases e with
 | normal => exact fin .returning (by simp) hq
 | ret => exact fin .returning (by simp) hq
 | panic ch => exact fin (.panicking ch) (by simp) hq
 | exit id => exact hq.elim
 | goto l => exact hq.elim
 | outgrown => exact hq.elim
theorem zi0 {f : FuncId} {fn : Func} {c : Code} {args : List AV} {σ : Sg} {R : AV → Sg → Prop} (dfs : List Nat) (hf : P.funcs[f]? = some fn) (hb : fn.body = some c)
  (hname : (fn.name == "runtime.NumGoroutine") = false) {nt : Nat} (hnt : fn.ntmps = nt) (hle : args.length ≤ nt)
  (h : ∀ w0 K0 g w, Laid P K0.K w0 → AWx P ⟨w0, K0, nt, SR σ g w, σ.map (·.1), none, dfs, []⟩ c (EndX P fn w0 K0 σ g w R) (entry 0 args) σ) : ACall P f args σ R := by
 refine ⟨⟨fn, hf, by rw [hb]; rfl, hname⟩, fun w0 K0 g w vs hL hp hs hv => ?_⟩
 refine callsIn_wide.1 (callsIn_of_wp_marks (F := Fence.wide) (n := 0) hf hb trivial ?_)
 have hrel : Rel ⟨w0, K0, nt, SR σ g w, σ.map (·.1), none, dfs, []⟩ (entry 0 args) σ g ⟨vs ++ Array.replicate (fn.ntmps - vs.size) undef, []⟩ w := by
  refine ⟨hp, fun t x ht => ?_, by simp; omega, DRb.empty, fun s v hb => ⟨hb, SR.inI hb⟩⟩
  obtain ⟨_, hx⟩ := zbm args 0 t x ht
  rw [Nat.sub_zero] at hx
  have hlt : t < args.length := (List.getElem?_eq_some_iff.1 hx).1
  refine ⟨by show t < nt; omega, ?_⟩
  have hvt : vs[t]? = some (vs[t]'(by omega)) := Array.getElem?_eq_getElem (by omega)
  have e : (vs ++ Array.replicate (fn.ntmps - vs.size) undef).getD t undef = vs[t]'(by omega) := by
   rw [Array.getD_eq_getD_getElem?, Array.getElem?_append_left (by omega), hvt]; rfl
  show VR _ _ _ _ ((vs ++ Array.replicate (fn.ntmps - vs.size) undef).getD t undef)
  rw [e]
  exact zZ (hv t x _ hx hvt)
 exact h w0 K0 g w hL hL g _ w hrel
inductive Rcv : FrameMode → Value → FrameMode → Prop
 | none : Rcv .returning .nilIface .returning
 | some (v : Value) : Rcv (.panicking [{ v := v, recovered := false }]) v (.panicking [{ v := v, recovered := true }])
theorem Rcv.recoverD {u u' : FrameMode} {rv : Value} (h : Rcv u rv u') (c₀ : Frame) (cs : List Frame) (hu : c₀.mode = u) :
  (Go.recoverD (c₀ :: cs) = Option.some (rv, { c₀ with mode := u' } :: cs)) ∨ (Go.recoverD (c₀ :: cs) = Option.none ∧ rv = .nilIface ∧ { c₀ with mode := u' } = c₀) := by
 cases h with
 | none => exact .inr ⟨by simp [Go.recoverD, hu], rfl, by rw [← hu]⟩
 | some v => exact .inl (by simp [Go.recoverD, hu])
theorem zfe {Q : Exit → Act → List Frame → World → Prop} {cs : List Frame} {c₀ : Frame} {u u' : FrameMode} {rv : Value} (hu : Rcv u rv u') (hc : c₀.mode = u) {id : Nat} {o : Oper} {ops : List Oper} {ts : Array TypeId} (ho : o.op = .call ⟨.builtin .recover, #[], ts⟩) (hg : o.guard = none)
  (h : wpLs none P (o :: ops).toArray (fun e a w => Q e a ({ c₀ with mode := u' } :: cs) w) ops (a.put o.dst rv) w) : (Code.region id (o :: ops).toArray false).wpSIn Fence.wide 0 P Q a (c₀ :: cs) w := by
 intro b k hb hro hF hroom
 have hx := zcU (ro := none) (P := P) (ops := (o :: ops).toArray) ops 1 (fun j => by simp [Nat.add_comm 1 j]) _ w h
 obtain ⟨e, a', w', hq, harr⟩ := wp_opsIn (F := FX none) (n := 0) _ _ w hx b k ({ c₀ with mode := u' } :: cs) hro hF hroom
 have hgo : ((o :: ops).toArray)[0]? = Option.some o := by simp
 have hw : Region.wanted o (yielded (o :: ops).toArray a.tmps) = true := by simp [Region.wanted, hg]
 have hgs := stepGR_op (P := P) (b := b) (a := a) (k := k) (cs := c₀ :: cs) (w := w) (rest := List.range' 1 ops.length) hgo hw
 rw [hro, Oper.semAt_none] at hgs
 have hfin : ∀ v, (b.atR a (.inRegion (o :: ops).toArray (0 :: List.range' 1 ops.length) :: k)).finish v = b.atR (a.put o.dst v) (.inRegion (o :: ops).toArray (List.range' 1 ops.length) :: k) := by
  intro v; rw [Frame.finish_atR, hgo]; rfl
 have hk : (b.atR a (.inRegion (o :: ops).toArray (0 :: List.range' 1 ops.length) :: k)).kind = .deferred := hb
 have htr := tryRecover_deferred hk (c₀ :: cs)
 have hr : (execOp a.eval o).run P w = .ok .recover w := by
  simp [execOp, ho, resolve, invoke, builtin]
 have hrange : List.range ((o :: ops).toArray).size = 0 :: List.range' 1 ops.length := by
  rw [List.range_eq_range']; simp [List.range'_succ]
 have hstep : step P (lone (b.atR a (.inRegion (o :: ops).toArray (0 :: List.range' 1 ops.length) :: k)) (c₀ :: cs) w) = .next (lone (b.atR (a.put o.dst rv) (.inRegion (o :: ops).toArray (List.range' 1 ops.length) :: k)) ({ c₀ with mode := u' } :: cs) w) := by
  refine step_lone_go ?_
  rw [hgs, ← hfin]
  rcases hu.recoverD c₀ cs hc with hrec | ⟨hrec, rfl, heq⟩
  ·simp only [Frame.atR, hro] at htr ⊢
   simp [stepG.apply, hr, htr, hrec]
  ·rw [heq]
   simp only [Frame.atR, hro] at htr ⊢
   simp [stepG.apply, hr, htr, hrec]
 refine ⟨e, a', _, w', by simp, hq, .of_steps (.head (fenced_calm hF hroom rfl) stepR_region (.one ?_ (hrange ▸ hstep))) harr⟩
 rw [hrange]
 exact fenced_oper hF hroom hgo (fun f hf => trivial)
theorem zcR {tt : TT} (htt : tt.ok P) {f : FuncId} {fn : Func} {id : Nat} {o : Oper} {ops : List Oper} {ts : Array TypeId} {y : Code} {args : List AV} {σ : Sg} {Rd : FrameMode → Sg → Prop} {res : List ResultVar} {u u' : FrameMode} {rv : Value}
  (hu : Rcv u rv u') (h1 : rv.oneCell' = true) (hf : P.funcs[f]? = Option.some fn) (hb : fn.body = Option.some (.seq (.region id (o :: ops).toArray false) y)) (ho : o.op = .call ⟨.builtin .recover, #[], ts⟩) (hg : o.guard = none)
  (hname : (fn.name == "runtime.NumGoroutine") = false) (hres : fn.results = res.toArray) {nt : Nat} (hnt : fn.ntmps = nt) (hle : args.length ≤ nt)
  (h : ∀ w0 K0 B, zba nt o.dst none (.x (.d (.v rv))) (entry 0 args) fun fr' => zah P tt nt (o :: ops) (AW P ⟨w0, K0, nt, B, σ.map (·.1), none, [], []⟩ y (zqs tt res (σ.map (·.1)) fun _ σ' => Rd u' σ')) ops fr' σ) : zm8 P f args σ u Rd := by
 refine ⟨⟨fn, hf, by rw [hb]; rfl, hname⟩, fun w0 K0 g w vs hL hp hs hv => ?_⟩
 refine callsDIn_of_wpSIn hf hb trivial fun c₀ cs hc => ?_
 have hrel : Rel ⟨w0, K0, nt, SR σ g w, σ.map (·.1), none, [], []⟩ (entry 0 args) σ g ⟨vs ++ Array.replicate (fn.ntmps - vs.size) undef, []⟩ w := by
  refine ⟨hp, fun t x ht => ?_, by simp; omega, DRb.empty, fun s v hb => ⟨hb, SR.inI hb⟩⟩
  obtain ⟨_, hx⟩ := zbm args 0 t x ht
  rw [Nat.sub_zero] at hx
  have hlt : t < args.length := (List.getElem?_eq_some_iff.1 hx).1
  refine ⟨by show t < nt; omega, ?_⟩
  have hvt : vs[t]? = Option.some (vs[t]'(by omega)) := Array.getElem?_eq_getElem (by omega)
  have e : (vs ++ Array.replicate (fn.ntmps - vs.size) undef).getD t undef = vs[t]'(by omega) := by
   rw [Array.getD_eq_getD_getElem?, Array.getElem?_append_left (by omega), hvt]; rfl
  show VR _ _ _ _ ((vs ++ Array.replicate (fn.ntmps - vs.size) undef).getD t undef)
  rw [e]
  exact zZ (hv t x _ hx hvt)
 refine wpSIn_seq (zfe hu hc ho hg ?_)
 obtain ⟨fr', hk, hrel'⟩ := zcf hrel (h w0 K0 (SR σ g w)) (v := rv) (zL _ h1)
 have fin : ∀ e a w', Lift ⟨w0, K0, nt, SR σ g w, σ.map (·.1), none, [], []⟩ (zqs tt res (σ.map (·.1)) fun _ σ' => Rd u' σ') e a w' →
   bodyPostS P fn c₀ cs (fun e u' w' => ∃ v g' σ', e = .returned v ∧ Did w0 K0 σ g w σ' g' w' ∧ Rd u' σ') e a ({ c₀ with mode := u' } :: cs) w' := by
  intro e a' w' ⟨fr, τ, g', hr, hq⟩
  have fin2 : (∃ r σ', SubS τ σ' ∧ (rsSg σ' σ' && zbC (σ.map (·.1)) σ') = true ∧ zb0 tt res fr τ σ' = Option.some r ∧ Rd u' σ') →
    a'.defers = [] ∧ ∃ u'', ({ c₀ with mode := u' } :: cs : List Frame) = { c₀ with mode := u'' } :: cs ∧ ∃ v, (results fn a'.tmps).run P w' = .ok v w' ∧ ∃ v1 g'' σ'', Ending.returned v = .returned v1 ∧ Did w0 K0 σ g w σ'' g'' w' ∧ Rd u'' σ'' := by
   rintro ⟨r, σ', hsub, hc, ho, hR⟩
   simp only [Bool.and_eq_true] at hc
   have hsup := za9 hsub
   obtain ⟨v, hrun, hvr⟩ := zbQ htt hr hsup hres ho
   exact ⟨hr.defers.nil, u', rfl, v, hrun, v, _, σ', rfl, ⟨hr.hp.atEnd hsup hc.1, fun s u hs => zak (zai hsup hc.2 (hr.base s u hs).1 (hr.base s u hs).2)⟩, hR⟩
  cases e with
  | normal => exact fin2 hq
  | ret => exact fin2 hq
  | _ => exact hq.elim
 refine zaJ (Γ := ⟨w0, K0, nt, SR σ g w, σ.map (·.1), none, [], []⟩) htt hL ?_ ops fr' σ hk g _ w hrel'
 intro fr σ1 g1 a1 w1 hr1 haw
 show y.wpSIn Fence.wide 0 P _ a1 _ w1
 exact wpSIn_of_wpIn rfl (wpIn_mono (haw.use hL hr1) fin)
end
end Go.QL
namespace Go.QL
open Go Go.RowKit
def FnP (P : Program) (f : FuncId) (args : List AV) (r : Option AV) (pv : Value) : Prop :=
 Good P f ∧ ∀ (K : Nat → Nat → Prop) (w : World) (vs : Array Value), Laid P K w → (∀ b o, K b o → b < w.heap.size) → vs.size = args.length →
  (∀ (i : Nat) (x : AV) (v : Value), args[i]? = some x → vs[i]? = some v → VR2 [] ⟨K, fun _ => undef⟩ w x v) →
  Calls P f vs w (fun e w' => ∃ K', Below w.heap.size w w' ∧ Ext K w K' w' ∧ (∀ b o, b < w.heap.size → K' b o → K b o) ∧ (∀ b o, K' b o → b < w'.heap.size) ∧
   ((∃ v x, r = some x ∧ e = .returned v ∧ VR2 [] ⟨K', fun _ => undef⟩ w' x v) ∨ (r = none ∧ e = .panicked [{ v := pv, recovered := false }])))
def zrX : Option AV → Bool
 | some x => zf6 x
 | none => true
theorem FnP.call {P : Program} {f : FuncId} {args : List AV} {r : Option AV} {pv : Value} (h : FnP P f args r pv) {σ : Sg} (hp : args.all zf6 = true) (hr : zrX r = true) :
  PCall P f args σ (fun r' σ' => r = some r' ∧ σ' = σ) fun v σ' => r = none ∧ v = pv ∧ σ' = σ := by
 refine ⟨h.1, fun w0 K0 g w vs hL hhp hs hv => ?_⟩
 rw [List.all_eq_true] at hp
 refine (h.2 g.K w vs (hL.mono hhp.ext) hhp.val hs fun i x v hi hu => zcY (g := g) (g' := ⟨g.K, fun _ => undef⟩) (hp x (List.mem_of_getElem? hi)) (Ext.refl _ _) (hv i x v hi hu)).mono ?_
 intro e w' ⟨K', hb, hext, hold, hval, hvr⟩
 rcases hvr with ⟨v, x, rfl, rfl, hvr⟩ | ⟨rfl, rfl⟩
 ·exact .inl ⟨v, ⟨K', g.μ⟩, σ, x, rfl, hhp.grow hb hext hold hval, zcY hr (Ext.refl K' w') hvr, rfl, rfl⟩
 ·exact .inr ⟨pv, ⟨K', g.μ⟩, σ, rfl, hhp.grow hb hext hold hval, rfl, rfl, rfl⟩
end Go.QL
namespace Go.Proofs.YtmceekhgnfpamaaGreatDoor
open Go Go.QL FoT
set_option maxHeartbeats 1600000
attribute [local irreducible] ACall FnC YC FnP PCall
abbrev rowX (c : UInt8) : Bool := bif (bif (bif (bif (bif decide ((c.toNat : Int) ≥ 97) then decide ((c.toNat : Int) ≤ 122) else false) then true else (bif decide ((c.toNat : Int) ≥ 65) then decide ((c.toNat : Int) ≤ 90) else false)) then true else (bif decide ((c.toNat : Int) ≥ 48) then decide ((c.toNat : Int) ≤ 57) else false)) then true else ((c.toNat : Int) == 95)) then true else ((c.toNat : Int) == 46)
theorem zpy (c : UInt8) : rowX c = zaM c := by
 have e : ∀ k : UInt8, (c == k) = ((c.toNat : Int) == k.toNat) := fun k => by
  rw [Bool.eq_iff_iff, beq_iff_eq, beq_iff_eq, ← UInt8.toNat_inj]
  omega
 unfold zaM
 rw [Bool.eq_iff_iff, e 95, e 46]
 simp only [rowX, Bool.cond_eq_ite]
 simp [zpj]
theorem zpx (c : UInt8) : FnC Tryz.prog 104 [iv .u8 c.toNat] (bv (zaM c)) := by
 rw [← zpy]
 refine hdC Tryz.func104 Tryz.ntmps104 (res := [.tmp 2]) fun w0 K0 => ?_
 repeat' first | refine zd ?_ | ((first | refine zi ?_ | refine regA ?_ | refine pkA ?_ | fail); conv => whnf) | fail
 rfl
abbrev Toks := List (Nat × Bs8)
def atPV (l : Toks) : PV := zR (l.map fun p => (p.1 : Int))
def tkPV (l : Toks) : PV := zac (l.map (·.2))
abbrev rdS (V : List Bs8) (C : List FNode) (sv sc : Nat) (l : Toks) : Sg := [(70, .box [.o 71 sv V.length, .o 72 sc C.length, .d (atPV l), .d (tkPV l)]), (71, .chain 9 1 sv (V.map zaa)), (72, .chain 95 4 sc (C.map ndPV))]
theorem bxR {x y : SV} {a b c d : PV} (h : a = c) (k : b = d) : some (Ob.box [x, y, .d a, .d b]) = some (Ob.box [x, y, .d c, .d d]) := by rw [h, k]
theorem bxN {x : SV} {p q : PV} {c st n m : Nat} (h : n = m) : some (Ob.box [x, .o c st n, .d p, .d q]) = some (Ob.box [x, .o c st m, .d p, .d q]) := by rw [h]
theorem zkv {sz : Nat} (x : List PV) (l : List (List PV)) : PV.s sz (List.drop (Int.toNat 1) (List.take (((x :: l).length : Nat) : Int).toNat (x :: l))) = .s sz l := by simp
theorem zhh (some : List Bs8) (V : List Bs8) (C : List FNode) (s1 s2 a : Nat) (t : Bs8) (l : Toks) (h : t ∉ some) :
  ACall Tryz.prog 106 [.x (.b 70 0), .x (.d (zac some))] (rdS V C s1 s2 ((a, t) :: l)) (fun r σ' => r = .t [sv (bs []), bv false] ∧ σ' = rdS V C s1 s2 ((a, t) :: l)) := by
 have cf := zdW some t
 rw [decide_eq_false h] at cf
 refine hdD Tryz.func106 Tryz.ntmps106 (res := [.tmp 4, .tmp 5]) fun w0 K0 B => ?_
 repeat' first | refine zd ?_ | ((first | refine zi ?_ | refine regA ?_ | refine ⟨_, ze ⟨by omega, rfl⟩, ?_⟩ | refine zsn (cf) ?_ | fail); conv => whnf) | (refine zst rfl ?_) | ((refine andA ?_); conv => whnf) | fail
 exact ⟨_, rdS V C s1 s2 ((a, t) :: l), ⟨rfl, rfl, rfl, trivial⟩, rfl, rfl, rfl, rfl⟩
theorem zfl (some : List Bs8) (V : List Bs8) (C : List FNode) (s1 s2 a : Nat) (t : Bs8) (l : Toks) (h : t ∈ some) :
  ACall Tryz.prog 106 [.x (.b 70 0), .x (.d (zac some))] (rdS V C s1 s2 ((a, t) :: l)) (fun r σ' => r = .t [sv (bs t), bv true] ∧ σ' = rdS V C s1 s2 l) := by
 have cf := zdW some t
 rw [decide_eq_true h] at cf
 refine hdD Tryz.func106 Tryz.ntmps106 (res := [.tmp 4, .tmp 5]) fun w0 K0 B => ?_
 repeat' first | refine zd ?_ | ((first | refine zf ?_ | refine zi ?_ | refine regA ?_ | refine drM (id := 4) 14 [1, 11] false [0, 0, 0, 4, 12, 28, 60, 0, 128, 384, 896, 1920, 2045, 6141, 14333, 32767, 65535, 131071] ?_ | refine LateGo.mk ⟨.x .j, rfl, ?_⟩ | refine ⟨_, ze ⟨by omega, rfl⟩, ?_⟩ | refine zsn (cf) ?_ | fail); conv => whnf) | (refine zss rfl ?_) | ((refine andA ?_); conv => whnf) | ((refine And.intro (by refine ⟨?_, ?_, ?_⟩ <;> simp [zO, maxLen] <;> omega) ?_); conv => whnf) | fail
 exact ⟨_, rdS V C s1 s2 l, ⟨bxR (zkv _ _) (zkv _ _), rfl, rfl, trivial⟩, rfl, rfl, rfl, rfl⟩
theorem zga (n : FNode) (V : List Bs8) (C : List FNode) (s1 s2 : Nat) (l : Toks) (hC : C.length ≤ 100000) :
  ACall Tryz.prog 107 [.x (.b 70 0), ndAV n] (rdS V C s1 s2 l) (fun r σ' => r = .t [] ∧ σ' = rdS V (C ++ [n]) s1 (s2 + 1) l) := by
 have hCl : (C.map ndPV).length = C.length := List.length_map _
 have g0 : C.length ≤ (C.map ndPV).length := by omega
 have g1 : C.length + [ndPV n].length ≤ maxLen := by show C.length + 1 ≤ _; unfold maxLen; omega
 have g2 : (C.length + [ndPV n].length) * 32 ≤ 140737488355328 := by show (C.length + 1) * 32 ≤ _; omega
 have e : (C.map ndPV).take C.length ++ [ndPV n] = (C ++ [n]).map ndPV := by rw [List.take_of_length_le (by omega), List.map_append]; rfl
 have el : C.length + 1 = (C ++ [n]).length := by rw [List.length_append]; rfl
 refine hdD Tryz.func107 Tryz.ntmps107 (res := []) fun w0 K0 B => ?_
 repeat' first | refine zd ?_ | ((first | refine regA ?_ | refine drM (id := 1) 8 [0] true [0, 0, 2, 6, 14, 30, 0, 64, 254, 511, 1023, 2047, 4095] ?_ | refine LateGo.mk ⟨_, rfl, ?_⟩ | refine And.intro ⟨g0, g1, g2⟩ ?_ | refine andA ?_ | fail); conv => whnf) | fail
 exact ⟨_, rdS V (C ++ [n]) s1 (s2 + 1) l, ⟨bxN el, rfl, chE e, trivial⟩, rfl, rfl, rfl, rfl⟩
theorem zfv (V : List Bs8) (C : List FNode) (s1 s2 a : Nat) (t : Bs8) (l : Toks) :
  PCall Tryz.prog 162 [.x (.b 70 0), sv (bs t)] (rdS V C s1 s2 ((a, t) :: l)) (fun r σ' => r = .t [] ∧ σ' = rdS V C s1 s2 l) (fun _ _ => False) := by
 have tk := zfl [t] V C s1 s2 a t l (by simp)
 refine z6 hTt Tryz.func162 rfl (by kernel_rfl) (res := []) rfl Tryz.ntmps162 (by simp) fun w0 K0 B => ?_
 dsimp only [entry]
 repeat' first | refine zd ?_ | ((first | refine zf ?_ | refine regA ?_ | refine frA (tk) [] ?_ | fail); conv => whnf) | (refine zss rfl ?_) | fail
 exact ⟨_, rdS V C s1 s2 l, ⟨rfl, rfl, rfl, trivial⟩, rfl, rfl, rfl, rfl⟩
theorem zfF : zhH Tryz.prog 3 := ⟨_, Tryz.underlying3, rfl⟩
abbrev errA (a : Nat) : Value := .iface 3 (.int .i64 a)
theorem zpM (w : Bs8) (V : List Bs8) (C : List FNode) (s1 s2 a : Nat) (t : Bs8) (l : Toks) (h : t ≠ w) :
  PCall Tryz.prog 162 [.x (.b 70 0), sv (bs w)] (rdS V C s1 s2 ((a, t) :: l)) (fun _ _ => False) (fun v σ' => v = errA a ∧ σ' = rdS V C s1 s2 ((a, t) :: l)) := by
 have tk := zhh [w] V C s1 s2 a t l (by simp [h])
 refine z6 hTt Tryz.func162 rfl (by kernel_rfl) (res := []) rfl Tryz.ntmps162 (by simp) fun w0 K0 B => ?_
 dsimp only [entry]
 repeat' first | ((with_reducible refine zH hTt (id := 2) ?_); conv => whnf) | refine zd ?_ | ((first | refine regA ?_ | refine frA (tk) [] ?_ | refine ⟨_, ze ⟨by omega, rfl⟩, ?_⟩ | fail); conv => whnf) | (refine And.intro zfF ?_; conv => whnf) | (refine zst rfl ?_) | ((refine andA ?_); conv => whnf) | fail
 exact ⟨_, rdS V C s1 s2 ((a, t) :: l), rfl, ⟨rfl, rfl, rfl, trivial⟩, rfl, rfl, rfl⟩
end Go.Proofs.YtmceekhgnfpamaaGreatDoor
namespace Go.Proofs
open Go.Shelf
def Tryz.laysM171_ren : Go.Shelf.Ren := ⟨fun | 129 => 175 | 171 => 51 | 243 => 112 | 246 => 150 | 283 => 165 | 284 => 166 | 285 => 167 | 286 => 168 | 317 => 174 | 318 => 176 | 319 => 177 | 320 => 178 | 337 => 182 | 338 => 183 | n => n, fun | 0 => 0 | 2 => 2 | 3 => 3 | 4 => 4 | 5 => 5 | 9 => 9 | 20 => 20 | 37 => 171 | 46 => 128 | 51 => 69 | 53 => 210 | 171 => 221 | 173 => 224 | 212 => 231 | 213 => 232 | 232 => 242 | 233 => 243 | n => n, fun | 17 => 0 | 18 => 2 | 19 => 3 | n => n⟩
theorem Tryz.laysM171 : Go.Proofs.LaysM.n171 Tryz.prog Tryz.laysM171_ren := {
 mixed := by kernel_rfl
 f129 := Tryz.func175.trans (congrArg some (by kernel_rfl))
 f171 := Tryz.func51.trans (congrArg some (by kernel_rfl))
 f243 := Tryz.func112.trans (congrArg some (by kernel_rfl))
 f246 := Tryz.func150.trans (congrArg some (by kernel_rfl))
 f283 := Tryz.func165.trans (congrArg some (by kernel_rfl))
 f284 := Tryz.func166.trans (congrArg some (by kernel_rfl))
 f285 := Tryz.func167.trans (congrArg some (by kernel_rfl))
 f286 := Tryz.func168.trans (congrArg some (by kernel_rfl))
 f317 := Tryz.func174.trans (congrArg some (by kernel_rfl))
 f318 := Tryz.func176.trans (congrArg some (by kernel_rfl))
 f319 := Tryz.func177.trans (congrArg some (by kernel_rfl))
 f320 := Tryz.func178.trans (congrArg some (by kernel_rfl))
 f337 := Tryz.func182.trans (congrArg some (by kernel_rfl))
 f338 := Tryz.func183.trans (congrArg some (by kernel_rfl))
 t0 := Tryz.underlying0
 a0 := Tryz.isAgg0
 z0 := Tryz.sizeOf0
 v0 := Tryz.zeroValue0
 t2 := Tryz.underlying2
 a2 := Tryz.isAgg2
 z2 := Tryz.sizeOf2
 v2 := Tryz.zeroValue2
 t3 := Tryz.underlying3
 a3 := Tryz.isAgg3
 z3 := Tryz.sizeOf3
 v3 := Tryz.zeroValue3
 t4 := Tryz.underlying4
 a4 := Tryz.isAgg4
 z4 := Tryz.sizeOf4
 v4 := Tryz.zeroValue4
 t5 := Tryz.underlying5
 a5 := Tryz.isAgg5
 z5 := Tryz.sizeOf5
 v5 := Tryz.zeroValue5
 t9 := Tryz.underlying9
 a9 := Tryz.isAgg9
 z9 := Tryz.sizeOf9
 v9 := Tryz.zeroValue9
 t20 := Tryz.underlying20
 a20 := Tryz.isAgg20
 z20 := Tryz.sizeOf20
 v20 := Tryz.zeroValue20
 t37 := Tryz.underlying171
 a37 := Tryz.isAgg171
 z37 := Tryz.sizeOf171
 v37 := Tryz.zeroValue171
 t46 := Tryz.underlying128
 a46 := Tryz.isAgg128
 z46 := Tryz.sizeOf128
 v46 := Tryz.zeroValue128
 t51 := Tryz.underlying69
 a51 := Tryz.isAgg69
 z51 := Tryz.sizeOf69
 v51 := Tryz.zeroValue69
 t53 := Tryz.underlying210
 a53 := Tryz.isAgg210
 z53 := Tryz.sizeOf210
 v53 := Tryz.zeroValue210
 t171 := Tryz.underlying221
 a171 := Tryz.isAgg221
 z171 := Tryz.sizeOf221
 v171 := Tryz.zeroValue221
 t173 := Tryz.underlying224
 a173 := Tryz.isAgg224
 z173 := Tryz.sizeOf224
 v173 := Tryz.zeroValue224
 t212 := Tryz.underlying231
 a212 := Tryz.isAgg231
 z212 := Tryz.sizeOf231
 v212 := Tryz.zeroValue231
 t213 := Tryz.underlying232
 a213 := Tryz.isAgg232
 z213 := Tryz.sizeOf232
 t232 := Tryz.underlying242
 a232 := Tryz.isAgg242
 z232 := Tryz.sizeOf242
 v232 := Tryz.zeroValue242
 t233 := Tryz.underlying243
 a233 := Tryz.isAgg243
 z233 := Tryz.sizeOf243
 v233 := Tryz.zeroValue243
 g17 := by kernel_rfl
 g18 := by kernel_rfl
 g19 := by kernel_rfl
 i0 := by kernel_rfl
 i2 := by kernel_rfl
 i3 := by kernel_rfl
 i4 := by kernel_rfl
 i5 := by kernel_rfl
 i9 := by kernel_rfl
 i20 := by kernel_rfl
 i37 := by kernel_rfl
 i46 := by kernel_rfl
 i51 := by kernel_rfl
 i53 := by kernel_rfl
 i171 := by kernel_rfl
 i173 := by kernel_rfl
 i212 := by kernel_rfl
 i232 := by kernel_rfl
 i233 := by kernel_rfl
 m17 := by kernel_rfl
 m18 := by kernel_rfl
 m19 := by kernel_rfl }
def Tryz.laysC172_ren : Go.Shelf.Ren := ⟨fun | 129 => 175 | 171 => 51 | 172 => 173 | 205 => 191 | 243 => 112 | 244 => 180 | 245 => 181 | 246 => 150 | 247 => 184 | 279 => 185 | 280 => 186 | 281 => 187 | 282 => 188 | 283 => 165 | 284 => 166 | 285 => 167 | 286 => 168 | 287 => 189 | 316 => 190 | 317 => 174 | 318 => 176 | 319 => 177 | 320 => 178 | 321 => 192 | 322 => 193 | 337 => 182 | 338 => 183 | n => n, fun | 0 => 0 | 2 => 2 | 3 => 3 | 4 => 4 | 5 => 5 | 9 => 9 | 20 => 20 | 21 => 21 | 37 => 171 | 46 => 128 | 51 => 69 | 53 => 210 | 75 => 176 | 76 => 177 | 80 => 179 | 85 => 237 | 127 => 213 | 143 => 251 | 145 => 253 | 167 => 236 | 168 => 239 | 171 => 221 | 173 => 224 | 175 => 244 | 210 => 248 | 212 => 231 | 213 => 232 | 232 => 242 | 233 => 243 | n => n, fun | 15 => 4 | 16 => 5 | 17 => 0 | 18 => 2 | 19 => 3 | n => n⟩
theorem Tryz.laysC172 : Go.Proofs.LaysC.n172 Tryz.prog Tryz.laysC172_ren := {
 mixed := by kernel_rfl
 f129 := Tryz.func175.trans (congrArg some (by kernel_rfl))
 f171 := Tryz.func51.trans (congrArg some (by kernel_rfl))
 f172 := Tryz.func173.trans (congrArg some (by kernel_rfl))
 f205 := Tryz.func191.trans (congrArg some (by kernel_rfl))
 f243 := Tryz.func112.trans (congrArg some (by kernel_rfl))
 f244 := Tryz.func180.trans (congrArg some (by kernel_rfl))
 f245 := Tryz.func181.trans (congrArg some (by kernel_rfl))
 f246 := Tryz.func150.trans (congrArg some (by kernel_rfl))
 f247 := Tryz.func184.trans (congrArg some (by kernel_rfl))
 f279 := Tryz.func185.trans (congrArg some (by kernel_rfl))
 f280 := Tryz.func186.trans (congrArg some (by kernel_rfl))
 f281 := Tryz.func187.trans (congrArg some (by kernel_rfl))
 f282 := Tryz.func188.trans (congrArg some (by kernel_rfl))
 f283 := Tryz.func165.trans (congrArg some (by kernel_rfl))
 f284 := Tryz.func166.trans (congrArg some (by kernel_rfl))
 f285 := Tryz.func167.trans (congrArg some (by kernel_rfl))
 f286 := Tryz.func168.trans (congrArg some (by kernel_rfl))
 f287 := Tryz.func189.trans (congrArg some (by kernel_rfl))
 f316 := Tryz.func190.trans (congrArg some (by kernel_rfl))
 f317 := Tryz.func174.trans (congrArg some (by kernel_rfl))
 f318 := Tryz.func176.trans (congrArg some (by kernel_rfl))
 f319 := Tryz.func177.trans (congrArg some (by kernel_rfl))
 f320 := Tryz.func178.trans (congrArg some (by kernel_rfl))
 f321 := Tryz.func192.trans (congrArg some (by kernel_rfl))
 f322 := Tryz.func193.trans (congrArg some (by kernel_rfl))
 f337 := Tryz.func182.trans (congrArg some (by kernel_rfl))
 f338 := Tryz.func183.trans (congrArg some (by kernel_rfl))
 t0 := Tryz.underlying0
 a0 := Tryz.isAgg0
 z0 := Tryz.sizeOf0
 v0 := Tryz.zeroValue0
 t2 := Tryz.underlying2
 a2 := Tryz.isAgg2
 z2 := Tryz.sizeOf2
 v2 := Tryz.zeroValue2
 t3 := Tryz.underlying3
 a3 := Tryz.isAgg3
 z3 := Tryz.sizeOf3
 v3 := Tryz.zeroValue3
 t4 := Tryz.underlying4
 a4 := Tryz.isAgg4
 z4 := Tryz.sizeOf4
 v4 := Tryz.zeroValue4
 t5 := Tryz.underlying5
 a5 := Tryz.isAgg5
 z5 := Tryz.sizeOf5
 v5 := Tryz.zeroValue5
 t9 := Tryz.underlying9
 a9 := Tryz.isAgg9
 z9 := Tryz.sizeOf9
 v9 := Tryz.zeroValue9
 t20 := Tryz.underlying20
 a20 := Tryz.isAgg20
 z20 := Tryz.sizeOf20
 v20 := Tryz.zeroValue20
 t21 := Tryz.underlying21
 a21 := Tryz.isAgg21
 z21 := Tryz.sizeOf21
 v21 := Tryz.zeroValue21
 t37 := Tryz.underlying171
 a37 := Tryz.isAgg171
 z37 := Tryz.sizeOf171
 v37 := Tryz.zeroValue171
 t46 := Tryz.underlying128
 a46 := Tryz.isAgg128
 z46 := Tryz.sizeOf128
 v46 := Tryz.zeroValue128
 t51 := Tryz.underlying69
 a51 := Tryz.isAgg69
 z51 := Tryz.sizeOf69
 v51 := Tryz.zeroValue69
 t53 := Tryz.underlying210
 a53 := Tryz.isAgg210
 z53 := Tryz.sizeOf210
 v53 := Tryz.zeroValue210
 t75 := Tryz.underlying176
 a75 := Tryz.isAgg176
 z75 := Tryz.sizeOf176
 v75 := Tryz.zeroValue176
 t76 := Tryz.underlying177
 a76 := Tryz.isAgg177
 z76 := Tryz.sizeOf177
 v76 := Tryz.zeroValue177
 t85 := Tryz.underlying237
 a85 := Tryz.isAgg237
 z85 := Tryz.sizeOf237
 v85 := Tryz.zeroValue237
 t127 := Tryz.underlying213
 a127 := Tryz.isAgg213
 z127 := Tryz.sizeOf213
 v127 := Tryz.zeroValue213
 t143 := Tryz.underlying251
 a143 := Tryz.isAgg251
 z143 := Tryz.sizeOf251
 v143 := Tryz.zeroValue251
 t145 := Tryz.underlying253
 a145 := Tryz.isAgg253
 z145 := Tryz.sizeOf253
 v145 := Tryz.zeroValue253
 t167 := Tryz.underlying236
 a167 := Tryz.isAgg236
 z167 := Tryz.sizeOf236
 v167 := Tryz.zeroValue236
 t168 := Tryz.underlying239
 a168 := Tryz.isAgg239
 z168 := Tryz.sizeOf239
 v168 := Tryz.zeroValue239
 t171 := Tryz.underlying221
 a171 := Tryz.isAgg221
 z171 := Tryz.sizeOf221
 v171 := Tryz.zeroValue221
 t173 := Tryz.underlying224
 a173 := Tryz.isAgg224
 z173 := Tryz.sizeOf224
 v173 := Tryz.zeroValue224
 t175 := Tryz.underlying244
 a175 := Tryz.isAgg244
 z175 := Tryz.sizeOf244
 v175 := Tryz.zeroValue244
 t210 := Tryz.underlying248
 a210 := Tryz.isAgg248
 z210 := Tryz.sizeOf248
 v210 := Tryz.zeroValue248
 t212 := Tryz.underlying231
 a212 := Tryz.isAgg231
 z212 := Tryz.sizeOf231
 v212 := Tryz.zeroValue231
 t213 := Tryz.underlying232
 a213 := Tryz.isAgg232
 z213 := Tryz.sizeOf232
 t232 := Tryz.underlying242
 a232 := Tryz.isAgg242
 z232 := Tryz.sizeOf242
 v232 := Tryz.zeroValue242
 t233 := Tryz.underlying243
 a233 := Tryz.isAgg243
 z233 := Tryz.sizeOf243
 v233 := Tryz.zeroValue243
 g15 := by kernel_rfl
 g16 := by kernel_rfl
 g17 := by kernel_rfl
 g18 := by kernel_rfl
 g19 := by kernel_rfl
 t80 := Tryz.underlying179
 a80 := Tryz.isAgg179
 z80 := Tryz.sizeOf179
 v80 := Tryz.zeroValue179
 i0 := by kernel_rfl
 i2 := by kernel_rfl
 i3 := by kernel_rfl
 i4 := by kernel_rfl
 i5 := by kernel_rfl
 i9 := by kernel_rfl
 i20 := by kernel_rfl
 i21 := by kernel_rfl
 i37 := by kernel_rfl
 i46 := by kernel_rfl
 i51 := by kernel_rfl
 i53 := by kernel_rfl
 i75 := by kernel_rfl
 i76 := by kernel_rfl
 i80 := by kernel_rfl
 i85 := by kernel_rfl
 i127 := by kernel_rfl
 i143 := by kernel_rfl
 i145 := by kernel_rfl
 i167 := by kernel_rfl
 i168 := by kernel_rfl
 i171 := by kernel_rfl
 i173 := by kernel_rfl
 i175 := by kernel_rfl
 i210 := by kernel_rfl
 i212 := by kernel_rfl
 i232 := by kernel_rfl
 i233 := by kernel_rfl
 m15 := by kernel_rfl
 m16 := by kernel_rfl
 m17 := by kernel_rfl
 m18 := by kernel_rfl
 m19 := by kernel_rfl
 c0 := by kernel_rfl
 c2 := by kernel_rfl
 c3 := by kernel_rfl
 c4 := by kernel_rfl
 c5 := by kernel_rfl
 c9 := by kernel_rfl
 c20 := by kernel_rfl
 c21 := by kernel_rfl
 c37 := by kernel_rfl
 c46 := by kernel_rfl
 c51 := by kernel_rfl
 c53 := by kernel_rfl
 c75 := by kernel_rfl
 c76 := by kernel_rfl
 c80 := by kernel_rfl
 c85 := by kernel_rfl
 c127 := by kernel_rfl
 c143 := by kernel_rfl
 c145 := by kernel_rfl
 c167 := by kernel_rfl
 c168 := by kernel_rfl
 c171 := by kernel_rfl
 c173 := by kernel_rfl
 c175 := by kernel_rfl
 c210 := by kernel_rfl
 c212 := by kernel_rfl
 c213 := by kernel_rfl
 c232 := by kernel_rfl
 c233 := by kernel_rfl }
def Tryz.lays105_ren : Go.Shelf.Ren := ⟨fun | 99 => 114 | 105 => 52 | 165 => 115 | 166 => 116 | 169 => 118 | 170 => 117 | 206 => 153 | 212 => 113 | 240 => 154 | 241 => 155 | 263 => 151 | 264 => 152 | 276 => 169 | 277 => 170 | n => n, fun | 0 => 0 | 3 => 3 | 4 => 4 | 5 => 5 | 9 => 9 | 20 => 20 | 37 => 171 | 46 => 128 | 51 => 69 | 53 => 210 | 70 => 170 | 72 => 173 | 75 => 176 | 76 => 177 | 80 => 179 | 109 => 167 | 127 => 213 | 146 => 208 | 148 => 211 | 164 => 226 | n => n, fun | n => n⟩
theorem Tryz.lays105 : Go.Proofs.Lays.n105 Tryz.prog Tryz.lays105_ren := {
 mixed := by kernel_rfl
 f99 := Tryz.func114.trans (congrArg some (by kernel_rfl))
 f105 := Tryz.func52.trans (congrArg some (by kernel_rfl))
 f165 := Tryz.func115.trans (congrArg some (by kernel_rfl))
 f166 := Tryz.func116.trans (congrArg some (by kernel_rfl))
 f169 := Tryz.func118.trans (congrArg some (by kernel_rfl))
 f170 := Tryz.func117.trans (congrArg some (by kernel_rfl))
 f206 := Tryz.func153.trans (congrArg some (by kernel_rfl))
 f212 := Tryz.func113.trans (congrArg some (by kernel_rfl))
 f240 := Tryz.func154.trans (congrArg some (by kernel_rfl))
 f241 := Tryz.func155.trans (congrArg some (by kernel_rfl))
 f263 := Tryz.func151.trans (congrArg some (by kernel_rfl))
 f264 := Tryz.func152.trans (congrArg some (by kernel_rfl))
 f276 := Tryz.func169.trans (congrArg some (by kernel_rfl))
 f277 := Tryz.func170.trans (congrArg some (by kernel_rfl))
 t0 := Tryz.underlying0
 a0 := Tryz.isAgg0
 z0 := Tryz.sizeOf0
 v0 := Tryz.zeroValue0
 t3 := Tryz.underlying3
 a3 := Tryz.isAgg3
 z3 := Tryz.sizeOf3
 v3 := Tryz.zeroValue3
 t4 := Tryz.underlying4
 a4 := Tryz.isAgg4
 z4 := Tryz.sizeOf4
 v4 := Tryz.zeroValue4
 t5 := Tryz.underlying5
 a5 := Tryz.isAgg5
 z5 := Tryz.sizeOf5
 v5 := Tryz.zeroValue5
 t9 := Tryz.underlying9
 a9 := Tryz.isAgg9
 z9 := Tryz.sizeOf9
 v9 := Tryz.zeroValue9
 t20 := Tryz.underlying20
 a20 := Tryz.isAgg20
 z20 := Tryz.sizeOf20
 v20 := Tryz.zeroValue20
 t37 := Tryz.underlying171
 a37 := Tryz.isAgg171
 z37 := Tryz.sizeOf171
 v37 := Tryz.zeroValue171
 t46 := Tryz.underlying128
 a46 := Tryz.isAgg128
 z46 := Tryz.sizeOf128
 v46 := Tryz.zeroValue128
 t51 := Tryz.underlying69
 a51 := Tryz.isAgg69
 z51 := Tryz.sizeOf69
 v51 := Tryz.zeroValue69
 t53 := Tryz.underlying210
 a53 := Tryz.isAgg210
 z53 := Tryz.sizeOf210
 v53 := Tryz.zeroValue210
 t70 := Tryz.underlying170
 a70 := Tryz.isAgg170
 z70 := Tryz.sizeOf170
 v70 := Tryz.zeroValue170
 t72 := Tryz.underlying173
 a72 := Tryz.isAgg173
 z72 := Tryz.sizeOf173
 v72 := Tryz.zeroValue173
 t75 := Tryz.underlying176
 a75 := Tryz.isAgg176
 z75 := Tryz.sizeOf176
 v75 := Tryz.zeroValue176
 t76 := Tryz.underlying177
 a76 := Tryz.isAgg177
 z76 := Tryz.sizeOf177
 v76 := Tryz.zeroValue177
 t109 := Tryz.underlying167
 a109 := Tryz.isAgg167
 z109 := Tryz.sizeOf167
 v109 := Tryz.zeroValue167
 t127 := Tryz.underlying213
 a127 := Tryz.isAgg213
 z127 := Tryz.sizeOf213
 v127 := Tryz.zeroValue213
 t146 := Tryz.underlying208
 a146 := Tryz.isAgg208
 z146 := Tryz.sizeOf208
 v146 := Tryz.zeroValue208
 t148 := Tryz.underlying211
 a148 := Tryz.isAgg211
 z148 := Tryz.sizeOf211
 v148 := Tryz.zeroValue211
 t164 := Tryz.underlying226
 a164 := Tryz.isAgg226
 z164 := Tryz.sizeOf226
 v164 := Tryz.zeroValue226 }
theorem Tryz.bx105 : Builder.Extra Tryz.prog Tryz.lays105_ren := {
 sizeBuilder := by kernel_rfl
 liesBuilder := by kernel_rfl
 t5 := Tryz.underlying5
 a5 := Tryz.isAgg5
 z5 := Tryz.sizeOf5
 v5 := Tryz.zeroValue5
 infoByte := by kernel_rfl
 cellsByte := by kernel_rfl
 sizeByte := by kernel_rfl
 neB5 := by decide }
def Tryz.lays103_ren : Go.Shelf.Ren := ⟨fun | 103 => 172 | 206 => 153 | 210 => 179 | n => n, fun | 3 => 3 | 4 => 4 | 9 => 9 | 24 => 158 | n => n, fun | n => n⟩
theorem Tryz.lays103 : Go.Proofs.Lays.n103 Tryz.prog Tryz.lays103_ren := {
 mixed := by kernel_rfl
 f103 := Tryz.func172.trans (congrArg some (by kernel_rfl))
 f206 := Tryz.func153.trans (congrArg some (by kernel_rfl))
 f210 := Tryz.func179.trans (congrArg some (by kernel_rfl))
 t3 := Tryz.underlying3
 a3 := Tryz.isAgg3
 z3 := Tryz.sizeOf3
 v3 := Tryz.zeroValue3
 t4 := Tryz.underlying4
 a4 := Tryz.isAgg4
 z4 := Tryz.sizeOf4
 v4 := Tryz.zeroValue4
 t9 := Tryz.underlying9
 a9 := Tryz.isAgg9
 z9 := Tryz.sizeOf9
 v9 := Tryz.zeroValue9
 t24 := Tryz.underlying158
 a24 := Tryz.isAgg158
 z24 := Tryz.sizeOf158
 v24 := Tryz.zeroValue158 }
end Go.Proofs
namespace Go.Proofs.YtmceekhgnfpamaaGreatDoor
open Go Go.QL Go.RowKit FoT
set_option maxHeartbeats 1600000
attribute [local irreducible] ACall FnC YC
theorem zod (n : Int) (h0 : -9223372036854775808 ≤ n) (h1 : n ≤ 9223372036854775807) : FnC Tryz.prog 51 [iv .i64 n] (sv ⟨(Lib.itoa n).toArray⟩) := by
 unfold FnC
 refine ⟨⟨_, Tryz.func51, rfl, rfl⟩, fun K w vs hL hK hs hv => ?_⟩
 obtain ⟨v, rfl⟩ : ∃ v, vs = #[v] := by
  match vs, hs with
  | ⟨[v]⟩, _ => exact ⟨v, rfl⟩
 have h2 := hv 0 (iv .i64 n) v rfl rfl
 have hvi : v = .int .i64 n := by
  cases h2 with
  | d _ _ h => cases h; rfl
 subst hvi
 refine Calls.mono (show Calls Tryz.prog 51 #[.int .i64 n] w _ from Any.strconv_Itoa Tryz.laysM171 n h0 h1 w (hL.tab (by decide +kernel) (by kernel_rfl : _ = some 0))) ?_
 rintro e w' ⟨rfl, k, os, rfl⟩
 have hb := Lib.below_grow w.heap.size w (Nat.le_refl _) k os
 refine ⟨_, K, rfl, hb, ⟨fun _ _ h => h, fun b o hk => ?_⟩, fun _ _ _ h => h, fun b o hk => Nat.lt_of_lt_of_le (hK b o hk) hb.size, zL _ rfl⟩
 exact hb.cell (hK b o hk)
theorem zlA (s : ByteArray) (c : Nat) (hc : c ≤ 1000) (hs : s.size ≤ 1000) : FnC Tryz.prog 52 [sv s, iv .i64 c] (sv ⟨(Lib.repeatL s.data.toList c).toArray⟩) := by
 unfold FnC
 refine ⟨⟨_, Tryz.func52, rfl, rfl⟩, fun K w vs hL hK hs' hv => ?_⟩
 obtain ⟨u, v, rfl⟩ : ∃ u v, vs = #[u, v] := by
  match vs, hs' with
  | ⟨[u, v]⟩, _ => exact ⟨u, v, rfl⟩
 have h1 := hv 0 (sv s) u rfl rfl
 have h2 := hv 1 (iv .i64 c) v rfl rfl
 obtain rfl : u = .string s := by
  cases h1 with
  | d _ _ h => cases h; rfl
 obtain rfl : v = .int .i64 c := by
  cases h2 with
  | d _ _ h => cases h; rfl
 have hm : s.size * c ≤ 1000 * 1000 := Nat.mul_le_mul hs hc
 refine Calls.mono (show Calls Tryz.prog 52 #[.string s, .int .i64 c] w _ from Any.strings_Repeat Tryz.lays105 Tryz.bx105 s c w (by omega) (by omega)) ?_
 rintro e w' ⟨rfl, hb⟩
 refine ⟨_, K, rfl, hb, ⟨fun _ _ h => h, fun b o hk => ?_⟩, fun _ _ _ h => h, fun b o hk => Nat.lt_of_lt_of_le (hK b o hk) hb.size, zL _ rfl⟩
 exact hb.cell (hK b o hk)
theorem tup2 {σ : Sg} {g : Gh} {w : World} {a b : Value} (ha : a.oneCell' = true) (hb : b.oneCell' = true) : VR2 σ g w (.t [.x (.d (.v a)), .x (.d (.v b))]) (.tuple #[a, b]) := by
 refine ⟨#[a, b], rfl, rfl, fun i x v hi hv => ?_⟩
 match i with
 | 0 => cases hi; cases hv; exact zL _ ha
 | 1 => cases hi; cases hv; exact zL _ hb
 | i + 2 => simp at hi
theorem zql (s p : ByteArray) : FnC Tryz.prog 172 [sv s, sv p] (.t [sv ⟨(Lib.trimPrefix s.data.toList p.data.toList).toArray⟩, bv (Lib.hasPrefix s.data.toList p.data.toList)]) := by
 unfold FnC
 refine ⟨⟨_, Tryz.func172, rfl, rfl⟩, fun K w vs hL hK hs' hv => ?_⟩
 obtain ⟨u, v, rfl⟩ : ∃ u v, vs = #[u, v] := by
  match vs, hs' with
  | ⟨[u, v]⟩, _ => exact ⟨u, v, rfl⟩
 have h2 := zm (hv 0 (sv s) u rfl rfl)
 have h3 := zm (hv 1 (sv p) v rfl rfl)
 subst h2; subst h3
 refine Calls.mono (show Calls Tryz.prog 172 #[.string s, .string p] w _ from Any.strings_CutPrefix Tryz.lays103 s p w) ?_
 rintro e w' ⟨rfl, rfl⟩
 exact ⟨_, K, rfl, Below.refl _ _, Ext.refl _ _, fun _ _ _ h => h, hK, tup2 rfl rfl⟩
def ziW (s : ByteArray) (r : AV) : Prop :=
 match Lib.atoiAll s.data.toList with
 | .ok v => r = .t [iv .i64 v, .x (.d (.v .nilIface))]
 | _ => ∃ u t p, r = .t [iv .i64 u, .x (.d (.v (.iface t p)))]
theorem ziV (s : ByteArray) (hs : s.size ≤ 281474976710656) {σ : Sg} : ACall Tryz.prog 173 [sv s] σ (fun r σ' => σ' = σ ∧ ziW s r) := by
 unfold ACall
 refine ⟨⟨_, Tryz.func173, rfl, rfl⟩, fun w0 K0 g w vs hL hhp hs' hv => ?_⟩
 obtain ⟨v, rfl⟩ : ∃ v, vs = #[v] := by
  match vs, hs' with
  | ⟨[v]⟩, _ => exact ⟨v, rfl⟩
 have h2 := zm (hv 0 (sv s) v rfl rfl)
 subst h2
 have hLw := hL.mono hhp.ext
 have fin : ∀ (w' : World) (a b : Value) (ha : a.oneCell' = true) (hb : b.oneCell' = true), Below w.heap.size w w' → ziW s (.t [.x (.d (.v a)), .x (.d (.v b))]) →
   ∃ v g' σ' r, Ending.returned (.tuple #[a, b]) = .returned v ∧ Did w0 K0 σ g w σ' g' w' ∧ VR2 σ' g' w' r v ∧ σ' = σ ∧ ziW s r := by
  intro w' a b ha hb hbl hR
  refine ⟨_, ⟨g.K, g.μ⟩, σ, _, rfl, hhp.grow hbl ⟨fun _ _ h => h, fun b o hk => hbl.cell (hhp.val b o hk)⟩ (fun _ _ _ h => h) (fun b o hk => Nat.lt_of_lt_of_le (hhp.val b o hk) hbl.size), tup2 ha hb, rfl, hR⟩
 cases h : Lib.atoiAll s.data.toList with
 | ok v =>
  refine (show Calls Tryz.prog 173 #[.string s] w _ from Any.strconv_Atoi_ok Tryz.laysC172 s (by omega) v h w).mono ?_
  rintro e w' ⟨rfl, hw⟩
  have hbl : Below w.heap.size w w' := by
   rcases hw with rfl | ⟨t, rfl⟩
   ·exact Below.refl _ _
   ·exact Lib.bytesWorld_below w _ t
  exact fin w' _ _ rfl rfl hbl (by unfold ziW; rw [h])
 | range =>
  obtain ⟨tp, p, hvar⟩ := hLw.err (nm := "strconv.ErrRange") (by decide +kernel) (by kernel_rfl : _ = some 5)
  refine (show Calls Tryz.prog 173 #[.string s] w _ from Any.strconv_Atoi_range_var Tryz.laysC172 s hs h tp p w hvar).mono ?_
  rintro e w' ⟨N, rfl, _, _, hbl⟩
  exact fin w' _ _ rfl rfl hbl (by unfold ziW; rw [h]; exact ⟨_, _, _, rfl⟩)
 | _ =>
  obtain ⟨tp, p, hvar⟩ := hLw.err (nm := "strconv.ErrSyntax") (by decide +kernel) (by kernel_rfl : _ = some 4)
  refine (show Calls Tryz.prog 173 #[.string s] w _ from Any.strconv_Atoi_syntax_var Tryz.laysC172 s hs h tp p w hvar).mono ?_
  rintro e w' ⟨N, rfl, _, _, hbl⟩
  exact fin w' _ _ rfl rfl hbl (by unfold ziW; rw [h]; exact ⟨_, _, _, rfl⟩)
theorem zm5 {s : ByteArray} (hs : s.size ≤ 281474976710656) {v : Int} (h : Lib.atoiAll s.data.toList = .ok v) {σ : Sg} : ACall Tryz.prog 173 [sv s] σ (fun r σ' => r = .t [iv .i64 v, .x (.d (.v .nilIface))] ∧ σ' = σ) :=
 (ziV s hs).mono fun r σ' ⟨e, hr⟩ => ⟨by unfold ziW at hr; rw [h] at hr; exact hr, e⟩
theorem zkx {s : ByteArray} (hs : s.size ≤ 281474976710656) (h : ∀ v, Lib.atoiAll s.data.toList ≠ .ok v) {σ : Sg} : ACall Tryz.prog 173 [sv s] σ (fun r σ' => (∃ u t p, r = .t [iv .i64 u, .x (.d (.v (.iface t p)))]) ∧ σ' = σ) :=
 (ziV s hs).mono fun r σ' ⟨e, hr⟩ => ⟨by
  unfold ziW at hr
  cases hc : Lib.atoiAll s.data.toList with
  | ok v => exact absurd hc (h v)
  | range => rw [hc] at hr; exact hr
  | _ => rw [hc] at hr; exact hr, e⟩
theorem zic : ∀ k, padD k 0 = List.replicate k 48
 | 0 => rfl
 | k + 1 => by
  rw [padD, zic k, List.replicate_succ']
  rfl
theorem zqM : ∀ k, Lib.repeatL [48] k = List.replicate k 48
 | 0 => rfl
 | k + 1 => by rw [Lib.repeatL, zqM k]; rfl
theorem zlP : ∀ (k n : Nat), 1 ≤ k → n < 10 ^ k → (Lib.decDigits n).length ≤ k ∧ List.replicate (k - (Lib.decDigits n).length) 48 ++ Lib.decDigits n = padD k n
 | 0, n, h, _ => absurd h (by omega)
 | k + 1, n, _, hn => by
  rw [Lib.decDigits]
  by_cases h10 : n < 10
  ·rw [dif_pos h10, padD, Nat.div_eq_of_lt h10, zic, Nat.mod_eq_of_lt h10]
   exact ⟨by simp, by simp⟩
  ·rw [dif_neg h10]
   have hk : 1 ≤ k := by
    rcases Nat.eq_zero_or_pos k with rfl | h
    ·simp at hn; omega
    ·exact h
   obtain ⟨h1, h2⟩ := zlP k (n / 10) hk (by rw [Nat.pow_succ] at hn; omega)
   refine ⟨by simp; omega, ?_⟩
   rw [padD, ← h2, List.length_append, List.length_singleton, ← List.append_assoc]
   congr 3
   omega
end Go.Proofs.YtmceekhgnfpamaaGreatDoor
namespace Go.Proofs.YtmceekhgnfpamaaGreatDoor
open Go Go.QL FoT
set_option maxHeartbeats 1600000
attribute [local irreducible] ACall FnC
theorem eqL4 {a b c d e f g h : Int} : eqL [.int .i64 a, .int .i64 b, .int .i64 c, .int .i64 d] [.int .i64 e, .int .i64 f, .int .i64 g, .int .i64 h] = (decide (a = e) && (decide (b = f) && (decide (c = g) && decide (d = h)))) := by
 rw [Bool.eq_iff_iff]; simp [eqL, eqV]
theorem zrb {nv : Nat} {n : FNode} (h : n.kind = 1) : (bif (!(eqL [.int .i64 n.kind, .int .i64 0, .int .i64 n.num, .int .i64 n.places] [.int .i64 n.kind, .int .i64 0, .int .i64 0, .int .i64 0])) then true else outB n.var 0 ((nv : Int) - 1)) = !decide (fine nv n) := by
 have e : fine nv n ↔ (0 ≤ n.var ∧ n.var ≤ (nv : Int) - 1 ∧ n.num = 0 ∧ n.places = 0) := by unfold fine; rw [if_pos h]
 rw [eqL4, zcE, Bool.eq_iff_iff]
 simp only [Bool.cond_eq_ite, Bool.not_eq_true', decide_eq_false_iff_not, e]
 simp
 omega
theorem zra {nv : Nat} {n : FNode} (h1 : n.kind ≠ 1) (h2 : n.kind ≠ 2) : (!(eqL [.int .i64 n.kind, .int .i64 n.var, .int .i64 n.num, .int .i64 n.places] [.int .i64 n.kind, .int .i64 0, .int .i64 0, .int .i64 0])) = !decide (fine nv n) := by
 have e : fine nv n ↔ (n.var = 0 ∧ n.num = 0 ∧ n.places = 0) := by unfold fine; rw [if_neg h1, if_neg h2]
 rw [eqL4, Bool.eq_iff_iff]
 simp only [Bool.not_eq_true', decide_eq_false_iff_not, e]
 simp
theorem zgA {nv : Nat} {n : FNode} (h2 : n.kind = 2) : fine nv n ↔ n.var = 0 ∧ (1 ≤ n.places ∧ n.places ≤ 6) ∧ (0 ≤ n.num ∧ n.num ≤ ten n - 1) ∧ (n.places ≤ 1 ∨ n.num % 10 ≠ 0) := by
 unfold fine ten
 rw [if_neg (by omega), if_pos h2]
 constructor
 ·rintro ⟨a, b, c, d, e, f⟩
  exact ⟨a, ⟨b, c⟩, ⟨d, e⟩, by omega⟩
 ·rintro ⟨a, ⟨b, c⟩, ⟨d, e⟩, f⟩
  exact ⟨a, b, c, d, e, by omega⟩
theorem zdk {n : FNode} (h : 1 ≤ n.places ∧ n.places ≤ 6) : zqG[n.places.toNat]? = some (.d (.v (.int .i64 (ten n)))) ∧ 10 ≤ ten n ∧ ten n ≤ 1000000 := by
 unfold ten
 have : n.places = 1 ∨ n.places = 2 ∨ n.places = 3 ∨ n.places = 4 ∨ n.places = 5 ∨ n.places = 6 := by omega
 rcases this with e | e | e | e | e | e <;> rw [e] <;> refine ⟨rfl, ?_, ?_⟩ <;> decide
abbrev CkR (f : FormT) (i : Nat) (s : CS) : Prop := zav f.vars.length f.code ⟨0, 0, true⟩ = zav f.vars.length (f.code.drop i) s
theorem zmY {f : FormT} {i : Nat} {s s' : CS} (hil : i < f.code.length) (h : CkR f i s) (hs : zbx f.vars.length f.code[i] s = .ok s') : CkR f (i + 1) s' := by
 unfold CkR at *
 rw [h, List.drop_eq_getElem_cons hil, zav, hs]
theorem zmX {f : FormT} {i : Nat} {s : CS} {e : Int} (hv : zaw [] f.vars = none) (h0 : ¬ (8 < f.vars.length ∨ ¬ (1 ≤ f.code.length ∧ f.code.length ≤ 40))) (hil : i < f.code.length) (h : CkR f i s) (hs : zbx f.vars.length f.code[i] s = .error e) : zD f = e := by
 unfold CkR at h
 unfold zD
 rw [if_neg h0, hv]
 dsimp only
 rw [h, List.drop_eq_getElem_cons hil, zav, hs]
theorem zhi {nv : Nat} {n : FNode} {s : CS} (h1 : 1 ≤ n.kind ∧ n.kind ≤ 5) (hf : fine nv n) : zbx nv n s = if 3 ≤ n.kind ∧ s.p < 2 then .error 6 else if 12 < (if 3 ≤ n.kind then s.p - 2 else s.p) + 1 then .error 3
  else .ok ⟨(if 3 ≤ n.kind then s.p - 2 else s.p) + 1, if n.kind = 1 ∧ n.var = s.u then s.u + 1 else s.u, s.b && !(decide (n.kind = 1) && decide ((s.u : Int) < n.var))⟩ := by
 unfold zbx zbA
 rw [if_pos h1, if_pos hf, if_neg (by decide)]
theorem zrT {nv : Nat} {n : FNode} {s : CS} (k2 : n.kind = 2) (hf : fine nv n) : zbx nv n s = if 12 < s.p + 1 then .error 3 else .ok ⟨s.p + 1, s.u, s.b⟩ := by
 rw [zhi (by omega) hf, if_neg (by omega), if_neg (by omega : ¬ 3 ≤ n.kind), if_neg (by omega : ¬ (n.kind = 1 ∧ n.var = s.u)), decide_eq_false (by omega : ¬ n.kind = 1)]
 simp
theorem zqJ {nv : Nat} {n : FNode} {s : CS} (k3 : 3 ≤ n.kind) (k5 : n.kind ≤ 5) (hp : s.p ≤ 12) (hf : fine nv n) : zbx nv n s = if s.p < 2 then .error 6 else .ok ⟨s.p - 2 + 1, s.u, s.b⟩ := by
 rw [zhi (by omega) hf]
 by_cases h : s.p < 2
 ·rw [if_pos ⟨k3, h⟩, if_pos h]
 ·rw [if_neg (by omega), if_neg h, if_pos k3, if_neg (by omega), if_neg (by omega : ¬ (n.kind = 1 ∧ n.var = s.u)), decide_eq_false (by omega : ¬ n.kind = 1)]
  simp
theorem zjY {nv : Nat} {n : FNode} {s : CS} (h1 : 1 ≤ n.kind ∧ n.kind ≤ 5) (hf : ¬ fine nv n) : zbx nv n s = .error 7 := by
 unfold zbx zbA
 rw [if_pos h1, if_neg hf, if_pos (by decide)]
theorem zjZ {nv : Nat} {n : FNode} {s : CS} (h1 : ¬ (1 ≤ n.kind ∧ n.kind ≤ 5)) : zbx nv n s = .error 2 := by
 unfold zbx zbA
 rw [if_neg h1, if_pos (by decide)]
end Go.Proofs.YtmceekhgnfpamaaGreatDoor
namespace Go.Proofs.YtmceekhgnfpamaaGreatDoor
open Go Go.QL FoT
set_option maxHeartbeats 12800000
attribute [local irreducible] ACall FnC YC FnP PCall
theorem zkt : ∀ (l : Bs8) (acc : Nat), Lib.decFrom acc l = digs acc l
 | [], acc => rfl
 | c :: r, acc => by
  rw [Lib.decFrom, digs]
  unfold Lib.digitVal
  by_cases h : 48 ≤ c.toNat ∧ c.toNat ≤ 57
  ·rw [if_pos h, if_pos h]
   dsimp only
   rw [zkt r, Nat.mul_comm]
  ·rw [if_neg h, if_neg h]
theorem ziU {l : Bs8} (hl : l.length ≤ 18) (h1 : 1 ≤ l.length) (h48 : 48 ≤ (l.headD 0).toNat) : Lib.atoiAll l = match digs 0 l with | some n => .ok (n : Int) | none => .syntax := by
 rw [Lib.atoiAll_short l hl]
 match l, h1 with
 | c :: r, _ =>
  have hc : 48 ≤ c.toNat := h48
  have e1 : (c == 45) = false := by rw [beq_eq_false_iff_ne]; rintro rfl; exact absurd hc (by decide)
  have e2 : (c == 43) = false := by rw [beq_eq_false_iff_ne]; rintro rfl; exact absurd hc (by decide)
  rw [Lib.atoi, e1, e2]
  simp only [Bool.false_eq_true, if_false]
  unfold Lib.decNat
  rw [if_neg (by simp), zkt]
  cases digs 0 (c :: r) <;> rfl
theorem zjI {l : Bs8} (h1 : 1 ≤ l.length) (h : ¬ 48 ≤ (l.headD 0).toNat) : digs 0 l = none := by
 match l, h1 with
 | c :: r, _ =>
  have hc : ¬ 48 ≤ c.toNat := h
  rw [digs, if_neg (by omega)]
theorem zot (t : Bs8) : zaW t = if Lib.hasPrefix t [48, 46] = true ∧ (1 ≤ (t.drop 2).length ∧ (t.drop 2).length ≤ 6) ∧ 48 ≤ ((t.drop 2).headD 0).toNat then
  (match digs 0 (t.drop 2) with | some n => if (t.drop 2).length = 1 ∨ n % 10 ≠ 0 then some ⟨2, 0, n, (t.drop 2).length⟩ else none | none => none) else none := by
 match t with
 | [] => rfl
 | [a] => unfold Lib.hasPrefix; simp [zaW]
 | a :: b :: ds =>
  have hp : Lib.hasPrefix (a :: b :: ds) [48, 46] = (decide (a = 48) && decide (b = 46)) := by
   unfold Lib.hasPrefix
   simp [List.isPrefixOf, Bool.beq_eq_decide_eq, eq_comm]
  rw [hp]
  unfold zaW
  dsimp only [List.drop]
  by_cases h1 : a = 48 ∧ b = 46 ∧ 1 ≤ ds.length ∧ ds.length ≤ 6
  ·rw [if_pos h1]
   by_cases h2 : 48 ≤ (ds.headD 0).toNat
   ·exact (if_pos ⟨by simp [h1], ⟨h1.2.2.1, h1.2.2.2⟩, h2⟩).symm
   ·rw [zjI h1.2.2.1 h2]
    exact (if_neg (fun h => h2 h.2.2)).symm
  ·rw [if_neg h1]
   refine (if_neg ?_).symm
   rintro ⟨h3, h4, _⟩
   simp at h3
   exact h1 ⟨h3.1, h3.2, h4.1, h4.2⟩
theorem zmH {l : Bs8} (h : 1 ≤ l.length) : l[0]? = some (l.headD 0) := by
 match l, h with
 | c :: r, _ => rfl
theorem zor {t ds : Bs8} {v : Int} (ce : zaW t = if true = true ∧ (1 ≤ ds.length ∧ ds.length ≤ 6) ∧ 48 ≤ (ds.headD 0).toNat then
  (match digs 0 ds with | some n => if ds.length = 1 ∨ n % 10 ≠ 0 then some ⟨2, 0, n, ds.length⟩ else none | none => none) else none) (hv : Lib.atoiAll ds = .ok v) (hl : 1 ≤ ds.length ∧ ds.length ≤ 6) :
  (bif (bif (bif (bif true then true else false) then !false else false) then decide (((ds.headD 0).toNat : Int) ≥ 48) else false) then (bif (((bs ds).size : Int) == 1) then true else decide (v.tmod 10 > 0)) else false) = (zaW t).isSome ∧
  ∀ n, zaW t = some n → (⟨2, 0, v, ((bs ds).size : Int)⟩ : FNode) = n := by
 have hsz := zbj ds
 by_cases h48 : 48 ≤ (ds.headD 0).toNat
 ·have hat := ziU (by omega) hl.1 h48
  rw [hv] at hat
  rw [if_pos ⟨rfl, hl, h48⟩] at ce
  cases hdg : digs 0 ds with
  | none => rw [hdg] at hat; cases hat
  | some n =>
   rw [hdg] at hat ce
   have hvn : v = n := by injection hat
   dsimp only at ce
   have hb4 : decide (((ds.headD 0).toNat : Int) ≥ 48) = true := decide_eq_true (by omega)
   rw [hb4]
   show (bif (((bs ds).size : Int) == 1) then true else decide (v.tmod 10 > 0)) = _ ∧ _
   rw [hvn, Int.tmod_eq_emod_of_nonneg (by omega)]
   by_cases hfin : ds.length = 1 ∨ n % 10 ≠ 0
   ·rw [if_pos hfin] at ce
    rw [ce]
    refine ⟨?_, fun m hm => ?_⟩
    ·by_cases h1 : ds.length = 1
     ·rw [beq_iff_eq.2 (show ((bs ds).size : Int) = 1 by omega)]; rfl
     ·rw [decide_eq_true (show (n : Int) % 10 > 0 by omega)]; cases (((bs ds).size : Int) == 1) <;> rfl
    ·injection hm
   ·rw [if_neg hfin] at ce
    rw [ce]
    refine ⟨?_, fun m hm => by cases hm⟩
    rw [beq_eq_false_iff_ne.2 (show ((bs ds).size : Int) ≠ 1 by omega), decide_eq_false (show ¬ (n : Int) % 10 > 0 by omega)]; rfl
 ·rw [if_neg (fun h => h48 h.2.2)] at ce
  rw [ce]
  refine ⟨?_, fun m hm => by cases hm⟩
  rw [decide_eq_false (show ¬ ((ds.headD 0).toNat : Int) ≥ 48 by omega)]; rfl
theorem zmS {t ds : Bs8} (ce : zaW t = if true = true ∧ (1 ≤ ds.length ∧ ds.length ≤ 6) ∧ 48 ≤ (ds.headD 0).toNat then
  (match digs 0 ds with | some n => if ds.length = 1 ∨ n % 10 ≠ 0 then some ⟨2, 0, n, ds.length⟩ else none | none => none) else none) (hv : ∀ v, Lib.atoiAll ds ≠ .ok v) : zaW t = none := by
 rw [ce]
 split
 ·rename_i h
  have hat := ziU (by omega) h.2.1.1 h.2.2
  cases hdg : digs 0 ds with
  | none => rfl
  | some n => rw [hdg] at hat; exact absurd hat (hv _)
 ·rfl
theorem zjJ (t : Bs8) (ht : t.length ≤ 1000) {σ : Sg} : ACall Tryz.prog 163 [sv (bs t)] [] (fun r σ' => (∃ m : FNode, r = .t [ndAV m, bv (zaW t).isSome] ∧ (∀ n, zaW t = some n → m = n)) ∧ σ' = []) := by
 have ce := zot t
 have cp := zql (bs t) (bs [48, 46])
 rw [zco, zco] at cp
 have hcase : ∀ l : Bs8, (∃ v, Lib.atoiAll l = .ok v) ∨ ∀ v, Lib.atoiAll l ≠ .ok v := fun l => by
  cases h : Lib.atoiAll l with
  | ok v => exact .inl ⟨v, rfl⟩
  | range => exact .inr fun v h => by cases h
  | _ => exact .inr fun v h => by cases h
 cases hp : Lib.hasPrefix t [48, 46] with
 | false =>
  have hn : zaW t = none := by rw [ce, hp, if_neg (by simp)]
  have htr : Lib.trimPrefix t [48, 46] = t := by unfold Lib.trimPrefix; rw [hp]; rfl
  rw [hp, htr] at cp
  rw [hn]
  have hO := fun k => zaL k 1 6
  rcases hcase t with ⟨v, hv⟩ | hv
  ·have ao := fun {σ : Sg} => zm5 (σ := σ) (s := bs t) (by rw [zbj]; omega) (by rw [zco]; exact hv)
   refine hdD Tryz.func163 Tryz.ntmps163 (res := [.cell 2 95, .tmp 3]) fun w0 K0 B => ?_
   repeat' first | refine zd ?_ | ((first | refine zi ?_ | refine regA ?_ | refine drM (id := 4) 27 [22, 23, 24, 25, 26] false [0, 0, 2, 6, 14, 30, 62, 126, 254, 510, 1022, 2046, 4094, 8190, 16382, 32766, 65534, 131070, 262142, 524286, 1048574, 2097150, 4194302, 8388606, 16777214, 33554430, 67108862, 4194303, 268435455] ?_ | refine LateGo.mk ⟨.x .j, rfl, ?_⟩ | refine zsn (cp) ?_ | ((refine ⟨_, ao, ?_⟩); (rintro _ _ ⟨rfl, rfl⟩)) | refine zsr ((hO _)) ?_ | refine ⟨0, zax (fun h => absurd (show false = true from h) (by decide)), ?_⟩ | refine ⟨Int.tmod _ 10, rfl, ?_⟩ | refine pkA ?_ | refine andA ?_ | fail); conv => whnf) | fail
   exact ⟨_, [], trivial, rfl, rfl, ⟨⟨⟨2, 0, _, _⟩, rfl, fun n h => (by cases h)⟩, rfl⟩⟩
  ·have ab := fun {σ : Sg} => zkx (σ := σ) (s := bs t) (by rw [zbj]; omega) (by rw [zco]; exact hv)
   refine hdD Tryz.func163 Tryz.ntmps163 (res := [.cell 2 95, .tmp 3]) fun w0 K0 B => ?_
   repeat' first | refine zd ?_ | ((first | refine zi ?_ | refine regA ?_ | refine drM (id := 4) 27 [22, 23, 24, 25, 26] false [0, 0, 2, 6, 14, 30, 62, 126, 254, 510, 1022, 2046, 4094, 8190, 16382, 32766, 65534, 131070, 262142, 524286, 1048574, 2097150, 4194302, 8388606, 16777214, 33554430, 67108862, 4194303, 268435455] ?_ | refine LateGo.mk ⟨.x .j, rfl, ?_⟩ | refine zsn (cp) ?_ | ((refine ⟨_, ab, ?_⟩); (rintro _ _ ⟨⟨_, _, _, rfl⟩, rfl⟩)) | refine zsr ((hO _)) ?_ | refine ⟨0, zax (fun h => absurd (show false = true from h) (by decide)), ?_⟩ | refine ⟨Int.tmod _ 10, rfl, ?_⟩ | refine pkA ?_ | refine andA ?_ | fail); conv => whnf) | fail
   exact ⟨_, [], trivial, rfl, rfl, ⟨⟨⟨2, 0, _, _⟩, rfl, fun n h => (by cases h)⟩, rfl⟩⟩
 | true =>
  have htr : Lib.trimPrefix t [48, 46] = t.drop 2 := by unfold Lib.trimPrefix; rw [hp]; rfl
  rw [hp, htr] at cp
  rw [hp] at ce
  generalize hds : t.drop 2 = ds at *
  have hdl : ds.length ≤ 1000 := by rw [← hds, List.length_drop]; omega
  have hO := zaL (bs ds).size 1 6
  have hsz := zbj ds
  rcases hcase ds with ⟨v, hv⟩ | hv
  ·have ao := fun {σ : Sg} => zm5 (σ := σ) (s := bs ds) (by rw [zbj]; omega) (by rw [zco]; exact hv)
   by_cases hl : 1 ≤ ds.length ∧ ds.length ≤ 6
   ·rw [zQ.2 (by omega)] at hO
    have hg : (bs ds).data.toList[(0 : Int).toNat]? = some (ds.headD 0) := by rw [zco]; exact zmH hl.1
    obtain ⟨hB, hN⟩ := zor ce hv hl
    refine hdD Tryz.func163 Tryz.ntmps163 (res := [.cell 2 95, .tmp 3]) fun w0 K0 B => ?_
    repeat' first | refine zd ?_ | ((first | refine zi ?_ | refine regA ?_ | refine drM (id := 4) 27 [22, 23, 24, 25, 26] false [0, 0, 2, 6, 14, 30, 62, 126, 254, 510, 1022, 2046, 4094, 8190, 16382, 32766, 65534, 131070, 262142, 524286, 1048574, 2097150, 4194302, 8388606, 16777214, 33554430, 67108862, 4194303, 268435455] ?_ | refine LateGo.mk ⟨.x .j, rfl, ?_⟩ | refine zsn (cp) ?_ | ((refine ⟨_, ao, ?_⟩); (rintro _ _ ⟨rfl, rfl⟩)) | refine zsr (hO) ?_ | refine ⟨ds.headD 0, ze ⟨by omega, hg⟩, ?_⟩ | refine ⟨Int.tmod _ 10, rfl, ?_⟩ | refine pkA ?_ | refine andA ?_ | fail); conv => whnf) | fail
    exact ⟨_, [], trivial, rfl, rfl, ⟨⟨⟨2, 0, v, ((bs ds).size : Int)⟩, congrArg (fun b => AV.t [ndAV ⟨2, 0, v, ((bs ds).size : Int)⟩, bv b]) hB, hN⟩, rfl⟩⟩
   ·rw [outB_true.2 (by omega)] at hO
    rw [if_neg (fun h => hl h.2.1)] at ce
    rw [ce]
    refine hdD Tryz.func163 Tryz.ntmps163 (res := [.cell 2 95, .tmp 3]) fun w0 K0 B => ?_
    repeat' first | refine zd ?_ | ((first | refine zi ?_ | refine regA ?_ | refine drM (id := 4) 27 [22, 23, 24, 25, 26] false [0, 0, 2, 6, 14, 30, 62, 126, 254, 510, 1022, 2046, 4094, 8190, 16382, 32766, 65534, 131070, 262142, 524286, 1048574, 2097150, 4194302, 8388606, 16777214, 33554430, 67108862, 4194303, 268435455] ?_ | refine LateGo.mk ⟨.x .j, rfl, ?_⟩ | refine zsn (cp) ?_ | ((refine ⟨_, ao, ?_⟩); (rintro _ _ ⟨rfl, rfl⟩)) | refine zsr (hO) ?_ | refine ⟨0, zax (fun h => absurd (show false = true from h) (by decide)), ?_⟩ | refine ⟨Int.tmod _ 10, rfl, ?_⟩ | refine pkA ?_ | refine andA ?_ | fail); conv => whnf) | fail
    exact ⟨_, [], trivial, rfl, rfl, ⟨⟨⟨2, 0, _, _⟩, rfl, fun n h => (by cases h)⟩, rfl⟩⟩
  ·have ab := fun {σ : Sg} => zkx (σ := σ) (s := bs ds) (by rw [zbj]; omega) (by rw [zco]; exact hv)
   rw [zmS ce hv]
   by_cases hl : 1 ≤ ds.length ∧ ds.length ≤ 6
   ·rw [zQ.2 (by omega)] at hO
    refine hdD Tryz.func163 Tryz.ntmps163 (res := [.cell 2 95, .tmp 3]) fun w0 K0 B => ?_
    repeat' first | refine zd ?_ | ((first | refine zi ?_ | refine regA ?_ | refine drM (id := 4) 27 [22, 23, 24, 25, 26] false [0, 0, 2, 6, 14, 30, 62, 126, 254, 510, 1022, 2046, 4094, 8190, 16382, 32766, 65534, 131070, 262142, 524286, 1048574, 2097150, 4194302, 8388606, 16777214, 33554430, 67108862, 4194303, 268435455] ?_ | refine LateGo.mk ⟨.x .j, rfl, ?_⟩ | refine zsn (cp) ?_ | ((refine ⟨_, ab, ?_⟩); (rintro _ _ ⟨⟨_, _, _, rfl⟩, rfl⟩)) | refine zsr (hO) ?_ | refine ⟨0, zax (fun h => absurd (show false = true from h) (by decide)), ?_⟩ | refine ⟨Int.tmod _ 10, rfl, ?_⟩ | refine pkA ?_ | refine andA ?_ | fail); conv => whnf) | fail
    exact ⟨_, [], trivial, rfl, rfl, ⟨⟨⟨2, 0, _, _⟩, rfl, fun n h => (by cases h)⟩, rfl⟩⟩
   ·rw [outB_true.2 (by omega)] at hO
    refine hdD Tryz.func163 Tryz.ntmps163 (res := [.cell 2 95, .tmp 3]) fun w0 K0 B => ?_
    repeat' first | refine zd ?_ | ((first | refine zi ?_ | refine regA ?_ | refine drM (id := 4) 27 [22, 23, 24, 25, 26] false [0, 0, 2, 6, 14, 30, 62, 126, 254, 510, 1022, 2046, 4094, 8190, 16382, 32766, 65534, 131070, 262142, 524286, 1048574, 2097150, 4194302, 8388606, 16777214, 33554430, 67108862, 4194303, 268435455] ?_ | refine LateGo.mk ⟨.x .j, rfl, ?_⟩ | refine zsn (cp) ?_ | ((refine ⟨_, ab, ?_⟩); (rintro _ _ ⟨⟨_, _, _, rfl⟩, rfl⟩)) | refine zsr (hO) ?_ | refine ⟨0, zax (fun h => absurd (show false = true from h) (by decide)), ?_⟩ | refine ⟨Int.tmod _ 10, rfl, ?_⟩ | refine pkA ?_ | refine andA ?_ | fail); conv => whnf) | fail
    exact ⟨_, [], trivial, rfl, rfl, ⟨⟨⟨2, 0, _, _⟩, rfl, fun n h => (by cases h)⟩, rfl⟩⟩
end Go.Proofs.YtmceekhgnfpamaaGreatDoor
namespace FoT
def RInv (N : Nat) (st : PS) : Prop := (∃ p a, st.toks = p ++ [(a, [])]) ∧ (∀ p ∈ st.toks, p.2.length ≤ 1000) ∧ st.code.length + st.toks.length ≤ N ∧ st.vars.length + st.toks.length ≤ N
theorem RInv.cons {N : Nat} {st : PS} (h : RInv N st) : ∃ a t rest, st.toks = (a, t) :: rest ∧ t.length ≤ 1000 := by
 obtain ⟨⟨p, a, hp⟩, hl, _, _⟩ := h
 match hs : st.toks with
 | [] => rw [hs] at hp; simp at hp
 | (b, t) :: rest => exact ⟨b, t, rest, rfl, hl (b, t) (by rw [hs]; exact List.mem_cons_self ..)⟩
theorem RInv.next {N : Nat} {toks : List (Nat × Bs8)} {vars : List Bs8} {code : List FNode} {a : Nat} {t : Bs8} {rest : List (Nat × Bs8)} (h : RInv N ⟨toks, vars, code⟩) (ht : toks = (a, t) :: rest) (hn : t ≠ []) : RInv N ⟨rest, vars, code⟩ ∧ code.length + rest.length + 1 ≤ N ∧ vars.length + rest.length + 1 ≤ N := by
 subst ht
 obtain ⟨⟨p, b, hp⟩, hl, h1, h2⟩ := h
 dsimp only [List.length_cons] at hp hl h1 h2
 match p with
 | [] => injection hp with hp _; injection hp with _ hp; exact absurd hp hn
 | x :: p =>
  injection hp with _ hp
  exact ⟨⟨⟨p, b, hp⟩, fun q hq => hl q (List.mem_cons_of_mem _ hq), by dsimp only; omega, by dsimp only; omega⟩, by omega, by omega⟩
theorem znV (vars : List Bs8) : zen vars [] = none := rfl
theorem zl9 {vars vs : List Bs8} {t : Bs8} {n : FNode} (h : zen vars t = some (n, vs)) : vs.length ≤ vars.length + 1 := by
 unfold zen at h
 split at h
 ·split at h
  ·cases h; omega
  ·cases h; rw [List.length_append]; exact Nat.le_refl _
 ·split at h
  ·cases h; omega
  ·cases h
theorem zdn (N : Nat) : ∀ k : Nat, (∀ st st', RInv N st → opM k st = some (.ok st') → RInv N st' ∧ st'.code.length + st'.toks.length ≤ st.code.length + st.toks.length) ∧
  (∀ st st', RInv N st → zaY k st = some (.ok st') → RInv N st' ∧ st'.code.length + st'.toks.length ≤ st.code.length + st.toks.length) ∧
  (∀ st st', RInv N st → zcb k st = some (.ok st') → RInv N st' ∧ st'.code.length + st'.toks.length ≤ st.code.length + st.toks.length) ∧
  (∀ st st', RInv N st → sumM k st = some (.ok st') → RInv N st' ∧ st'.code.length + st'.toks.length ≤ st.code.length + st.toks.length) ∧
  ∀ st st', RInv N st → sumT k st = some (.ok st') → RInv N st' ∧ st'.code.length + st'.toks.length ≤ st.code.length + st.toks.length := by
 intro k
 induction k with
 | zero => exact ⟨fun _ _ _ h => by simp [opM] at h, fun _ _ _ h => by simp [zaY] at h, fun _ _ _ h => by simp [zcb] at h, fun _ _ _ h => by simp [sumM] at h, fun _ _ _ h => by simp [sumT] at h⟩
 | succ k ih =>
  obtain ⟨hO, hP, hPT, hS, hST⟩ := ih
  refine ⟨?_, ?_, ?_, ?_, ?_⟩
  ·rintro ⟨toks, vars, code⟩ st' hi h
   obtain ⟨a, t, rest, ht, _⟩ := hi.cons
   dsimp only at ht
   rw [opM] at h
   dsimp only at h
   rw [ht] at h
   dsimp only at h
   by_cases h40 : t = [40]
   ·rw [if_pos h40] at h
    obtain ⟨hi1, _, _⟩ := hi.next ht (by rw [h40]; simp)
    cases hs : sumM k ⟨rest, vars, code⟩ with
    | none => rw [hs] at h; cases h
    | some r =>
     cases r with
     | error e => rw [hs] at h; cases h
     | ok s1 =>
      rw [hs] at h
      obtain ⟨hi2, hm⟩ := hS _ _ hi1 hs
      obtain ⟨t1, v1, c1⟩ := s1
      obtain ⟨a', t', rest', ht', _⟩ := hi2.cons
      dsimp only at h ht' hm
      rw [ht'] at h
      dsimp only at h
      by_cases h41 : t' = [41]
      ·rw [if_pos h41] at h
       cases h
       refine ⟨(hi2.next ht' (by rw [h41]; simp)).1, ?_⟩
       rw [ht'] at hm
       rw [ht]
       dsimp only [List.length_cons] at hm ⊢
       omega
      ·rw [if_neg h41] at h; cases h
   ·rw [if_neg h40] at h
    cases hl : zen vars t with
    | none => rw [hl] at h; cases h
    | some p =>
     obtain ⟨n, vs⟩ := p
     rw [hl] at h
     cases h
     have hv := zl9 hl
     obtain ⟨⟨h1, h2, h3, h4⟩, h5, h6⟩ := hi.next ht (by rintro rfl; rw [znV] at hl; cases hl)
     refine ⟨⟨h1, h2, by dsimp only; rw [List.length_append]; dsimp only [List.length_cons, List.length_nil]; omega, by dsimp only; omega⟩, ?_⟩
     rw [ht]
     dsimp only [List.length_cons]
     rw [List.length_append]
     dsimp only [List.length_cons, List.length_nil]
     omega
  ·intro st st' hi h
   rw [zaY] at h
   cases hs : opM k st with
   | none => rw [hs] at h; cases h
   | some r =>
    cases r with
    | error e => rw [hs] at h; cases h
    | ok s1 =>
     rw [hs] at h
     obtain ⟨hi1, hm1⟩ := hO _ _ hi hs
     obtain ⟨hi2, hm2⟩ := hPT _ _ hi1 h
     exact ⟨hi2, by omega⟩
  ·rintro ⟨toks, vars, code⟩ st' hi h
   obtain ⟨a, t, rest, ht, _⟩ := hi.cons
   dsimp only at ht
   rw [zcb] at h
   dsimp only at h
   rw [ht] at h
   dsimp only at h
   by_cases h42 : t = [42]
   ·rw [if_pos h42] at h
    obtain ⟨hi1, _, _⟩ := hi.next ht (by rw [h42]; simp)
    cases hs : opM k ⟨rest, vars, code⟩ with
    | none => rw [hs] at h; cases h
    | some r =>
     cases r with
     | error e => rw [hs] at h; cases h
     | ok s1 =>
      rw [hs] at h
      obtain ⟨⟨h1, h2, h3, h4⟩, hm⟩ := hO _ _ hi1 hs
      dsimp only at hm
      obtain ⟨_, hc, _⟩ := hi.next ht (by rw [h42]; simp)
      obtain ⟨hi3, hm3⟩ := hPT ⟨s1.toks, s1.vars, s1.code ++ [opN 5]⟩ _ ⟨h1, h2, by dsimp only; rw [List.length_append]; dsimp only [List.length_cons, List.length_nil]; omega, h4⟩ h
      refine ⟨hi3, ?_⟩
      rw [ht]
      dsimp only at hm3 ⊢
      rw [List.length_append] at hm3
      dsimp only [List.length_cons, List.length_nil] at hm3 ⊢
      omega
   ·rw [if_neg h42] at h
    cases h
    exact ⟨by rw [← ht]; exact hi, by rw [ht]; exact Nat.le_refl _⟩
  ·intro st st' hi h
   rw [sumM] at h
   cases hs : zaY k st with
   | none => rw [hs] at h; cases h
   | some r =>
    cases r with
    | error e => rw [hs] at h; cases h
    | ok s1 =>
     rw [hs] at h
     obtain ⟨hi1, hm1⟩ := hP _ _ hi hs
     obtain ⟨hi2, hm2⟩ := hST _ _ hi1 h
     exact ⟨hi2, by omega⟩
  ·rintro ⟨toks, vars, code⟩ st' hi h
   obtain ⟨a, t, rest, ht, _⟩ := hi.cons
   dsimp only at ht
   rw [sumT] at h
   dsimp only at h
   rw [ht] at h
   dsimp only at h
   by_cases h42 : t = [43] ∨ t = [45]
   ·rw [if_pos h42] at h
    obtain ⟨hi1, hc, _⟩ := hi.next ht (by rcases h42 with rfl | rfl <;> simp)
    cases hs : zaY k ⟨rest, vars, code⟩ with
    | none => rw [hs] at h; cases h
    | some r =>
     cases r with
     | error e => rw [hs] at h; cases h
     | ok s1 =>
      rw [hs] at h
      obtain ⟨⟨h1, h2, h3, h4⟩, hm⟩ := hP _ _ hi1 hs
      dsimp only at hm
      obtain ⟨hi3, hm3⟩ := hST ⟨s1.toks, s1.vars, s1.code ++ [opN (if t = [45] then 4 else 3)]⟩ _ ⟨h1, h2, by dsimp only; rw [List.length_append]; dsimp only [List.length_cons, List.length_nil]; omega, h4⟩ h
      refine ⟨hi3, ?_⟩
      rw [ht]
      dsimp only at hm3 ⊢
      rw [List.length_append] at hm3
      dsimp only [List.length_cons, List.length_nil] at hm3 ⊢
      omega
   ·rw [if_neg h42] at h
    cases h
    exact ⟨by rw [← ht]; exact hi, by rw [ht]; exact Nat.le_refl _⟩
end FoT
namespace Go.QL
open Go Go.RowKit
theorem PCall.frame {P : Program} {f : FuncId} {args : List AV} {σ0 σ : Sg} {R : AV → Sg → Prop} {Rp : Value → Sg → Prop} (h : PCall P f args σ0 R Rp) (ρ : Nat → Nat) (hl : SubR ρ σ σ0)
  (hc : (args.all (zeR σ0) && rsSg σ0 σ0 && injK ρ (σ0.map (·.1))) = true) (hn : ∀ r1 σ1, R r1 σ1 → zdN ρ σ0 σ1 σ = true) (hnp : ∀ v σ1, Rp v σ1 → zdN ρ σ0 σ1 σ = true) :
  PCall P f (args.map (rnAV ρ)) σ (fun r σ' => ∃ r1 σ1, R r1 σ1 ∧ r = rnAV ρ r1 ∧ σ' = after ρ σ0 σ1 σ) (fun v σ' => ∃ σ1, Rp v σ1 ∧ σ' = after ρ σ0 σ1 σ) := by
 refine ⟨h.1, fun w0 K0 g w vs hL hp hs hv => ?_⟩
 have hl := zjN hl
 simp only [Bool.and_eq_true, List.all_eq_true] at hc
 obtain ⟨⟨hca, hcs⟩, hinj0⟩ := hc
 have hinj0 := zgj hinj0
 have dom0 : ∀ {i : Nat}, (lk i σ0).isSome = true → (lk (ρ i) σ).isSome = true := fun {i} hi => by
  obtain ⟨ob, hob⟩ := Option.isSome_iff_exists.1 hi
  rw [hl i ob hob]; rfl
 let g0 : Gh := ⟨g.K, fun i => g.μ (ρ i)⟩
 let F' : Nat → Prop := fun b => b < w.heap.size ∧ ∀ i, (lk i σ0).isSome = true → blk (g.μ (ρ i)) ≠ some b
 have hp0 : Hp w ⟨g.K, F'⟩ σ0 g0 w := by
  refine ⟨.refl _ _, fun b hb => hb.1, .refl _ _, fun _ _ _ h => h, hp.val, fun id ob hid => ?_, fun id b hid hb hF => hF.2 id hid hb, fun i j b hi hj hbi hbj => ?_⟩
  ·have hO := hp.obs (ρ id) _ (hl id ob hid)
   cases ob with
   | box cs =>
    have hcs' := za2 hcs _ _ hid
    simp only [rsOb, List.all_eq_true] at hcs'
    obtain ⟨b, us, T, k1, k2, k3, k4, k5, k6⟩ := hO
    refine ⟨b, us, T, k1, k2, k3, by simpa using k4, fun i s hi => ?_, k6⟩
    obtain ⟨v, hv, hr⟩ := k5 i (rnSV ρ s) (by rw [List.getElem?_map, hi]; rfl)
    exact ⟨v, hv, zed hl (hcs' s (List.mem_of_getElem? hi)) hr⟩
   | chain e sz st xs => exact hO
   | x o => obtain ⟨b, k1, k2, k3, k4⟩ := hO; exact ⟨b, k1, k2, zh4 hl (za2 hcs _ _ hid) k3, k4⟩
  ·have := hp.inj (ρ i) (ρ j) b (dom0 hi) (dom0 hj) hbi hbj
   exact hinj0 i (zz.1 hi) j (zz.1 hj) this
 have main : ∀ (g1 : Gh) (σ1 : Sg) (w' : World), Did w ⟨g.K, F'⟩ σ0 g0 w σ1 g1 w' → zdN ρ σ0 σ1 σ = true → ∃ g'', Did w0 K0 σ g w (after ρ σ0 σ1 σ) g'' w' ∧ ∀ r1 v, VR2 σ1 g1 w' r1 v → VR2 (after ρ σ0 σ1 σ) g'' w' (rnAV ρ r1) v := by
  intro g1 σ1 w' hd hon
  unfold zdN at hon
  simp only [Bool.and_eq_true, List.all_eq_true, Bool.or_eq_true, Bool.not_eq_true', zdY] at hon
  obtain ⟨⟨hi1, hsub⟩, hnew⟩ := hon
  have hi1 := zgj hi1
  let ks := σ1.map (·.1)
  let g'' : Gh := ⟨g1.K, fun k => match unrn ρ ks k with | some i => g1.μ i | none => g.μ k⟩
  have out : ∀ {k : Nat}, (lk k σ).isSome = true → (∀ i, (lk i σ0).isSome = true → ρ i ≠ k) → ∀ i ∈ ks, ρ i ≠ k := by
   intro k hk hno i hi he'
   rcases hnew i hi with h1 | h1
   ·exact hno i (zz.2 h1) he'
   ·have : ρ i ∈ σ.map (·.1) := by rw [he']; exact zz.1 hk
    rw [zdY.2 this] at h1; cases h1
  have lkin : ∀ {i : Nat}, i ∈ ks → lk (ρ i) (after ρ σ0 σ1 σ) = (lk i σ1).map (rnOb ρ) ∧ g''.μ (ρ i) = g1.μ i := by
   intro i hi
   have h1 := zjp (ρ := ρ) (σ := σ1) (ks := ks) hi1 (fun _ h => h) hi
   refine ⟨?_, ?_⟩
   ·unfold after
    rw [zel, h1]
    obtain ⟨ob, hob⟩ := Option.isSome_iff_exists.1 (zz.2 hi)
    rw [hob]; rfl
   ·show (match unrn ρ ks (ρ i) with | some i => g1.μ i | none => _) = _
    rw [zjS hi1 hi]
  have lkout : ∀ {k : Nat}, (∀ i ∈ ks, ρ i ≠ k) → (∀ i, (lk i σ0).isSome = true → ρ i ≠ k) → lk k (after ρ σ0 σ1 σ) = lk k σ ∧ g''.μ k = g.μ k := by
   intro k hk hk0
   refine ⟨?_, ?_⟩
   ·unfold after
    rw [zel, zc4 hk]
    exact zfb (fun hm => by
     obtain ⟨i, hi, he'⟩ := List.mem_map.1 hm
     exact hk0 i (zz.2 hi) he') σ
   ·show (match unrn ρ ks k with | some i => g1.μ i | none => _) = _
    rw [zfS hk]
  have hlp : ∀ id ob, lk id σ1 = some ob → lk (ρ id) (after ρ σ0 σ1 σ) = some (rnOb ρ ob) ∧ g''.μ (ρ id) = g1.μ id := by
   intro id ob hid
   have := lkin (i := id) (zz.1 (by rw [hid]; rfl))
   rw [hid] at this; exact this
  have hext : Ext g.K w g1.K w' := hd.hp.ext
  have leaf : ∀ {s : SV} {u : Value}, SR σ0 g0 w s u → SR (after ρ σ0 σ1 σ) g'' w' (rnSV ρ s) u := fun hs => (zbs hlp rfl (hd.keep _ _ hs)).1
  have isin : ∀ k, (∃ i, (lk i σ0).isSome = true ∧ ρ i = k) ∨ (∀ i, (lk i σ0).isSome = true → ρ i ≠ k) := by
   intro k
   by_cases hk : ∃ i, (lk i σ0).isSome = true ∧ ρ i = k
   ·exact .inl hk
   ·exact .inr fun i hi he' => hk ⟨i, hi, he'⟩
  have keep : ∀ s u, SR σ g w s u → SR (after ρ σ0 σ1 σ) g'' w' s u := by
   intro s u hs
   induction hs with
   | d x v h => exact .d x v (h.mono hext)
   | old c st n e sz st' xs v h hlt h1 =>
    rcases isin c with ⟨i, hi, rfl⟩ | hno
    ·exact leaf (s := .o i st n) (zV hl (s := .o i st n) hi (SR.old (σ := σ) (ρ i) st n e sz st' xs v h hlt h1))
    ·have := lkout (out (by rw [h]; rfl) hno) hno
     exact .old c st n e sz st' xs v (by rw [this.1]; exact h) hlt h1
   | o c st n e sz xs a cap h hn hμ =>
    rcases isin c with ⟨i, hi, rfl⟩ | hno
    ·exact leaf (s := .o i st n) (zV hl (s := .o i st n) hi (SR.o (σ := σ) (ρ i) st n e sz xs a cap h hn hμ))
    ·have := lkout (out (by rw [h]; rfl) hno) hno
     exact .o c st n e sz xs a cap (by rw [this.1]; exact h) hn (by rw [this.2]; exact hμ)
   | b id off cs k h hμ =>
    rcases isin id with ⟨i, hi, rfl⟩ | hno
    ·exact leaf (s := .b i off) (zV hl (s := .b i off) hi (SR.b (σ := σ) (ρ i) off cs k h hμ))
    ·have := lkout (out (by rw [h]; rfl) hno) hno
     exact .b id off cs k (by rw [this.1]; exact h) (by rw [this.2]; exact hμ)
   | se e off k l vs hK hc' hr =>
    exact .se e off k l vs (fun j hj => hext.sub _ _ (hK j hj)) (fun j hj => by rw [hext.cell _ _ (hK j hj)]; exact hc' j hj) (fun j x hx => (hr j x hx).mono hext)
   | oeold c st i0 off e sz st' xs v h hlt h1 =>
    rcases isin c with ⟨i, hi, rfl⟩ | hno
    ·exact leaf (s := .oe i st i0 off) (zV hl (s := .oe i st i0 off) hi (SR.oeold (σ := σ) (ρ i) st i0 off e sz st' xs v h hlt h1))
    ·have := lkout (out (by rw [h]; rfl) hno) hno
     exact .oeold c st i0 off e sz st' xs v (by rw [this.1]; exact h) hlt h1
   | oe c st i0 off e sz xs k cap h hμ =>
    rcases isin c with ⟨i, hi, rfl⟩ | hno
    ·exact leaf (s := .oe i st i0 off) (zV hl (s := .oe i st i0 off) hi (SR.oe (σ := σ) (ρ i) st i0 off e sz xs k cap h hμ))
    ·have := lkout (out (by rw [h]; rfl) hno) hno
     exact .oe c st i0 off e sz xs k cap (by rw [this.1]; exact h) (by rw [this.2]; exact hμ)
   | f fn first captured v1 v2 h1 h2 _ _ ih1 ih2 => exact .f fn first captured v1 v2 h1 h2 ih1 ih2
   | j v h1 => exact .j v h1
   | h id o k h hμ =>
    rcases isin id with ⟨i, hi, rfl⟩ | hno
    ·exact leaf (s := .h i) (zV hl (s := .h i) hi (SR.h (σ := σ) (ρ i) o k h hμ))
    ·have := lkout (out (by rw [h]; rfl) hno) hno
     exact .h id o k (by rw [this.1]; exact h) (by rw [this.2]; exact hμ)
   | sb id off n cap cs k h hμ hn' hc' =>
    rcases isin id with ⟨i, hi, rfl⟩ | hno
    ·exact leaf (s := .sb i off n cap) (zV hl (s := .sb i off n cap) hi (SR.sb (σ := σ) (ρ i) off n cap cs k h hμ hn' hc'))
    ·have := lkout (out (by rw [h]; rfl) hno) hno
     exact .sb id off n cap cs k (by rw [this.1]; exact h) (by rw [this.2]; exact hμ) hn' hc'
  have fsub : ∀ b, K0.F b → F' b := fun b hb => ⟨hp.F_lt b hb, fun i hi he' => hp.own (ρ i) b (dom0 hi) he' hb⟩
  have cases' : ∀ {k : Nat}, (lk k (after ρ σ0 σ1 σ)).isSome = true → (∃ i, i ∈ ks ∧ ρ i = k) ∨ ((∀ i ∈ ks, ρ i ≠ k) ∧ (∀ i, (lk i σ0).isSome = true → ρ i ≠ k) ∧ (lk k σ).isSome = true) := by
   intro k hk
   by_cases hin : ∃ i, i ∈ ks ∧ ρ i = k
   ·exact .inl hin
   ·have hks : ∀ i ∈ ks, ρ i ≠ k := fun i hi he' => hin ⟨i, hi, he'⟩
    have hk0 : ∀ i, (lk i σ0).isSome = true → ρ i ≠ k := fun i hi => hks i (hsub i (zz.1 hi))
    refine .inr ⟨hks, hk0, ?_⟩
    rw [(lkout hks hk0).1] at hk; exact hk
  have frameF : ∀ {k b : Nat}, (lk k σ).isSome = true → (∀ i, (lk i σ0).isSome = true → ρ i ≠ k) → blk (g.μ k) = some b → F' b := by
   intro k b hk hno hb
   obtain ⟨ob, hob⟩ := Option.isSome_iff_exists.1 hk
   exact ⟨((hp.obs k ob hob).blk_lt hb).2, fun i hi he' => hno i hi (hp.inj (ρ i) k b (dom0 hi) hk he' hb)⟩
  have hd1 := hd.hp
  refine ⟨g'', ⟨⟨?_, hp.flt, hp.ext.trans hext, ?_, hd1.val, ?_, ?_, ?_⟩, keep⟩, fun _ _ hvr => zf5 hlp rfl hvr⟩
  ·exact hp.kept.trans ⟨hd1.kept.os, hd1.kept.tape, hd1.kept.output, hd1.kept.size, fun b hb => hd1.kept.block b (fsub b hb)⟩
  ·exact fun b o hF hk => hp.old b o hF (hd1.old b o (fsub b hF) hk)
  ·intro k ob hk
   rcases cases' (by rw [hk]; rfl) with ⟨i, hi, rfl⟩ | ⟨hks, hk0, hkσ⟩
   ·have h2 := lkin hi
    obtain ⟨ob1, hob1⟩ := Option.isSome_iff_exists.1 (zz.2 hi)
    rw [hob1, hk] at h2
    obtain ⟨h2, h3⟩ := h2
    cases h2
    have hO := hd1.obs i ob1 hob1
    cases ob1 with
    | box cs =>
     obtain ⟨b, us, T, k1, k2, k3, k4, k5, k6⟩ := hO
     refine ⟨b, us, T, by rw [h3]; exact k1, k2, k3, by simpa using k4, fun j s hj => ?_, k6⟩
     rw [List.getElem?_map] at hj
     cases hs' : cs[j]? with
     | none => rw [hs'] at hj; cases hj
     | some s0 =>
      rw [hs'] at hj; cases hj
      obtain ⟨u, hu, hr⟩ := k5 j s0 hs'
      exact ⟨u, hu, (zbs hlp rfl hr).1⟩
    | chain e sz st xs =>
     obtain ⟨us, k1, k2, k3, k4, k5⟩ := hO
     exact ⟨us, by rw [h3]; exact k1, by rw [h3]; exact k2, k3, k4, fun b hb => k5 b (by rw [← h3]; exact hb)⟩
    | x o => obtain ⟨b, k1, k2, k3, k4⟩ := hO; exact ⟨b, by rw [h3]; exact k1, k2, zh3 hlp rfl k3, k4⟩
   ·have h2 := lkout hks hk0
    rw [h2.1] at hk
    have hO := hp.obs k ob hk
    refine hO.keep keep hext h2.2 (fun b hb => hd1.kept.block b (frameF hkσ hk0 hb)) (fun b hb o hkk => ?_)
    exact hp.notK hk hb o (hd1.old b o (frameF hkσ hk0 hb) hkk)
  ·intro k b hk hb hF
   rcases cases' hk with ⟨i, hi, rfl⟩ | ⟨hks, hk0, hkσ⟩
   ·rw [(lkin hi).2] at hb
    exact hd1.own i b (zz.2 hi) hb (fsub b hF)
   ·rw [(lkout hks hk0).2] at hb
    exact hp.own k b hkσ hb hF
  ·intro k k' b hk hk' hb hb'
   rcases cases' hk with ⟨i, hi, rfl⟩ | ⟨hks, hk0, hkσ⟩ <;> rcases cases' hk' with ⟨j, hj, rfl⟩ | ⟨hks', hk0', hkσ'⟩
   ·rw [(lkin hi).2] at hb; rw [(lkin hj).2] at hb'
    rw [hd1.inj i j b (zz.2 hi) (zz.2 hj) hb hb']
   ·rw [(lkin hi).2] at hb; rw [(lkout hks' hk0').2] at hb'
    exact absurd (frameF hkσ' hk0' hb') (hd1.own i b (zz.2 hi) hb)
   ·rw [(lkout hks hk0).2] at hb; rw [(lkin hj).2] at hb'
    exact absurd (frameF hkσ hk0 hb) (hd1.own j b (zz.2 hj) hb')
   ·rw [(lkout hks hk0).2] at hb; rw [(lkout hks' hk0').2] at hb'
    exact hp.inj k k' b hkσ hkσ' hb hb'
 refine (h.2 w ⟨g.K, F'⟩ g0 w vs (hL.mono hp.ext) hp0 (by simpa using hs) fun i x v hi hu => ?_).mono ?_
 ·exact zcr hl (hca x (List.mem_of_getElem? hi)) (hv i (rnAV ρ x) v (by rw [List.getElem?_map, hi]; rfl) hu)
 rintro e w' (⟨v, g1, σ1, r1, he, hd, hvr, hR⟩ | ⟨v, g1, σ1, he, hd, hR⟩)
 ·obtain ⟨g2, hd2, hv2⟩ := main g1 σ1 w' hd (hn _ _ hR)
  exact .inl ⟨v, g2, _, _, he, hd2, hv2 _ _ hvr, r1, σ1, hR, rfl, rfl⟩
 ·obtain ⟨g2, hd2, _⟩ := main g1 σ1 w' hd (hnp _ _ hR)
  exact .inr ⟨v, g2, _, he, hd2, σ1, hR, rfl⟩
end Go.QL
namespace Go.Proofs.YtmceekhgnfpamaaGreatDoor
open Go Go.QL FoT
set_option maxHeartbeats 3200000
attribute [local irreducible] ACall FnC YC FnP PCall
theorem zkk (t : Bs8) : ∀ (V : List Bs8) (i : Nat), idxV t V i = match idxB V t i with | some j => (j : Int) | none => -1
 | [], _ => rfl
 | v :: r, i => by
  rw [idxV, idxB]
  by_cases e : v = t
  ·rw [if_pos e, if_pos e]
  ·rw [if_neg e, if_neg e, zkk t r (i + 1)]
theorem zog (V : List Bs8) (t : Bs8) (st : Nat) : ACall Tryz.prog 122 [.x (.o 71 st V.length), sv (bs t)] [(71, .chain 9 1 st (V.map zaa))] (fun r σ' => r = iv .i64 (idxV t V 0) ∧ σ' = [(71, .chain 9 1 st (V.map zaa))]) := by
 have hVl : (V.map zaa).length = V.length := List.length_map _
 refine hdD Tryz.func122 Tryz.ntmps122 (res := [.tmp 4]) fun w0 K0 B => ?_
 repeat' first | refine zd ?_ | refine zc ?_ | ((first | refine regA ?_ | refine andA ?_ | fail); conv => whnf) | (refine lnA fun hln => ?_; conv => whnf) | fail
 refine zJ (fun i : Nat => [(8, iv .i64 i), (7, iv .i64 V.length), (0, .x (.o 71 st V.length)), (1, sv (bs t))]) (fun _ => [(71, .chain 9 1 st (V.map zaa))]) (fun i => i ≤ V.length ∧ idxV t V 0 = idxV t (V.drop i) i) (fun i => V.length - i) 0 ⟨Nat.zero_le _, rfl⟩
  impA ?_
 rintro i ⟨hi, hfo⟩
 rcases Nat.lt_or_ge i V.length with hil | hil
 ·rw [List.drop_eq_getElem_cons hil, idxV] at hfo
  by_cases e : V[i] = t
  ·rw [if_pos e] at hfo
   have hq : ((bs t).toList == (bs V[i]).toList) = true := by rw [zdf, e]; exact decide_eq_true rfl
   repeat' first | refine zd ?_ | refine zc ?_ | ((first | refine zf ?_ | refine zk ?_ | refine zi ?_ | refine regA ?_ | fail); conv => whnf) | exact abA hb | (refine za rfl (fun _ => ?_) (zaf hq)) | (refine zso rfl (fun hb => ?_) (fun hb => ?_)) | ((first | refine andA ?_ | with_reducible refine Exists.intro _ (And.intro (ze (zh (by omega) (by omega))) (And.intro (And.intro (Nat.le_of_ble_eq_true rfl) rfl) ?_)) | fail); conv => whnf) | fail
   exact ⟨_, [(71, .chain 9 1 st (V.map zaa))], ⟨rfl, trivial⟩, rfl, rfl, congrArg (iv .i64) hfo.symm, rfl⟩
  ·rw [if_neg e] at hfo
   have hq : ((bs t).toList == (bs V[i]).toList) = false := by rw [zdf]; exact decide_eq_false (fun h => e h.symm)
   repeat' first | refine zd ?_ | refine zc ?_ | ((first | refine zf ?_ | refine zk ?_ | refine zi ?_ | refine regA ?_ | fail); conv => whnf) | exact abA hb | (refine za rfl (zM hq) (fun _ => ?_)) | (refine zso rfl (fun hb => ?_) (fun hb => ?_)) | ((first | refine zsq ?_ | refine andA ?_ | with_reducible refine Exists.intro _ (And.intro (ze (zh (by omega) (by omega))) (And.intro (And.intro (Nat.le_of_ble_eq_true rfl) rfl) ?_)) | fail); conv => whnf) | fail
   exact ⟨i + 1, ⟨by omega, hfo⟩, by omega, impA⟩
 ·rw [List.drop_eq_nil_of_le hil, idxV] at hfo
  repeat' first | refine zd ?_ | refine zc ?_ | ((first | refine zf ?_ | refine zk ?_ | refine zi ?_ | refine regA ?_ | fail); conv => whnf) | exact abA hb | (refine zso rfl (fun hb => ?_) (fun hb => ?_)) | fail
  exact ⟨_, [(71, .chain 9 1 st (V.map zaa))], ⟨rfl, trivial⟩, rfl, rfl, congrArg (iv .i64) hfo.symm, rfl⟩
theorem bxV {y : SV} {p q : PV} {c st n m : Nat} (h : n = m) : some (Ob.box [.o c st n, y, .d p, .d q]) = some (Ob.box [.o c st m, y, .d p, .d q]) := by rw [h]
def RdC (f : FuncId) (m : PS → Rs) : Prop := ∀ st, RInv 2000 st → (∀ st', m st = some (.ok st') → ∀ s1 s2, PCall Tryz.prog f [.x (.b 70 0)] (rdS st.vars st.code s1 s2 st.toks) (fun r σ' => r = .t [] ∧ ∃ s1 s2, σ' = rdS st'.vars st'.code s1 s2 st'.toks) (fun _ _ => False)) ∧
 ∀ a, m st = some (.error a) → ∀ s1 s2, PCall Tryz.prog f [.x (.b 70 0)] (rdS st.vars st.code s1 s2 st.toks) (fun _ _ => False) (fun v σ' => v = errA a ∧ ∃ V C s1 s2 l, σ' = rdS V C s1 s2 l)
theorem zpH {k : Nat} (ih : RdC 46 (sumM k)) : RdC 148 (opM (k + 1)) := by
 rintro ⟨toks, V, C⟩ hi
 obtain ⟨a, t, l, ht, htl⟩ := hi.cons
 dsimp only at ht
 subst ht
 have hC2 : C.length ≤ 2000 := by have := hi.2.2.1; dsimp only [List.length_cons] at this; omega
 have hV2 : V.length ≤ 2000 := by have := hi.2.2.2; dsimp only [List.length_cons] at this; omega
 rw [opM]
 dsimp only
 by_cases h40 : t = [40]
 ·rw [if_pos h40]
  subst h40
  have tk := fun s1 s2 => zfl [[40]] V C s1 s2 a [40] l (by simp)
  obtain ⟨hi1, _, _⟩ := hi.next rfl (by simp)
  obtain ⟨ih1, ih2⟩ := ih _ hi1
  cases hs : sumM k ⟨l, V, C⟩ with
  | none => exact ⟨fun _ h => (by cases h), fun _ h => (by cases h)⟩
  | some r =>
   cases r with
   | error e =>
    refine ⟨fun _ h => (by cases h), fun a' h s1 s2 => ?_⟩
    cases h
    have ih2 := ih2 _ hs s1 s2
    dsimp only at ih2 ⊢
    refine z6 hTt Tryz.func148 rfl (by kernel_rfl) (res := []) rfl Tryz.ntmps148 (by simp) fun w0 K0 B => ?_
    dsimp only [entry]
    repeat' first | ((with_reducible refine zH hTt (id := 2) ?_); conv => whnf) | refine zd ?_ | ((first | refine regA ?_ | refine frA ((tk s1 s2)) [] ?_ | fail); conv => whnf) | ((refine ⟨_, _, ih2, ?_, ?_⟩) <;> first | (exact fun _ _ h => h.elim) | (rintro _ _ ⟨rfl, V', C', s1', s2', l', rfl⟩; conv => whnf)) | (refine zst rfl ?_) | fail
    exact ⟨_, rdS V' C' s1' s2' l', rfl, ⟨rfl, rfl, rfl, trivial⟩, rfl, rfl, V', C', s1', s2', l', rfl⟩
   | ok st1 =>
    have ih1 := fun s1 s2 => ih1 _ hs s1 s2
    have hi2 := ((zdn 2000 k).2.2.2.1 _ _ hi1 hs).1
    obtain ⟨t1, V1, C1⟩ := st1
    obtain ⟨a1, w, l1, hw, _⟩ := hi2.cons
    dsimp only at hw ih1 ⊢
    subst hw
    dsimp only
    by_cases h41 : w = [41]
    ·subst h41
     rw [if_pos rfl]
     refine ⟨fun st' h s1 s2 => ?_, fun _ h => (by cases h)⟩
     cases h
     have my := fun s1 s2 => zfv V1 C1 s1 s2 a1 [41] l1
     refine z6 hTt Tryz.func148 rfl (by kernel_rfl) (res := []) rfl Tryz.ntmps148 (by simp) fun w0 K0 B => ?_
     dsimp only [entry]
     repeat' first | ((with_reducible refine zH hTt (id := 2) ?_); conv => whnf) | refine zd ?_ | ((first | refine zi ?_ | refine regA ?_ | refine frA ((tk s1 s2)) [] ?_ | fail); conv => whnf) | ((refine ⟨_, _, ih1 s1 s2, ?_, ?_⟩) <;> first | (exact fun _ _ h => h.elim) | (rintro _ _ ⟨rfl, s1', s2', rfl⟩; conv => whnf)) | ((refine frA (((my _ _).toA)) [] ?_); conv => whnf) | (refine zst rfl ?_) | fail
     exact ⟨_, rdS V1 C1 s1' s2' l1, ⟨rfl, rfl, rfl, trivial⟩, rfl, rfl, rfl, s1', s2', rfl⟩
    ·rw [if_neg h41]
     refine ⟨fun _ h => (by cases h), fun a' h s1 s2 => ?_⟩
     cases h
     have mn := fun s1 s2 => zpM [41] V1 C1 s1 s2 a1 w l1 h41
     refine z6 hTt Tryz.func148 rfl (by kernel_rfl) (res := []) rfl Tryz.ntmps148 (by simp) fun w0 K0 B => ?_
     dsimp only [entry]
     repeat' first | ((first | with_reducible refine zH hTt (id := 2) ?_ | with_reducible refine zH hTt (id := 3) ?_ | fail); conv => whnf) | refine zd ?_ | ((first | refine regA ?_ | refine frA ((tk s1 s2)) [] ?_ | fail); conv => whnf) | ((refine ⟨_, _, ih1 s1 s2, ?_, ?_⟩) <;> first | (exact fun _ _ h => h.elim) | (rintro _ _ ⟨rfl, s1', s2', rfl⟩; conv => whnf)) | ((refine ⟨_, _, mn _ _, ?_, ?_⟩) <;> first | (exact fun _ _ h => h.elim) | (rintro _ _ ⟨rfl, rfl⟩; conv => whnf)) | (refine zst rfl ?_) | fail
     exact ⟨_, rdS V1 C1 s1' s2' ((a1, w) :: l1), rfl, ⟨rfl, rfl, rfl, trivial⟩, rfl, rfl, V1, C1, s1', s2', _, rfl⟩
 ·rw [if_neg h40]
  have tk := fun s1 s2 => zhh [[40]] V C s1 s2 a t l (by simp [h40])
  have cn := zjJ t htl (σ := [])
  have nm := zl3 t
  have hg : ((a, t) :: l).length = l.length + 1 := rfl
  unfold zen
  cases hn : zbb t with
  | false =>
   rw [hn] at nm
   rw [if_neg (by simp)]
   cases hc : zaW t with
   | none =>
    rw [hc] at cn
    refine ⟨fun _ h => (by cases h), fun a' h s1 s2 => ?_⟩
    cases h
    refine z6 hTt Tryz.func148 rfl (by kernel_rfl) (res := []) rfl Tryz.ntmps148 (by simp) fun w0 K0 B => ?_
    dsimp only [entry]
    repeat' first | ((with_reducible refine zH hTt (id := 12) ?_); conv => whnf) | refine zd ?_ | ((first | refine zf ?_ | refine regA ?_ | refine frA ((tk s1 s2)) [] ?_ | ((refine ⟨_, cn.frame (asc []) (by repeat (first | exact trivial | refine ⟨rfl, ?_⟩)) rfl (by rintro _ _ ⟨⟨_, rfl, _⟩, rfl⟩; rfl), ?_⟩); (rintro _ _ ⟨_, _, ⟨⟨m, rfl, hm⟩, rfl⟩, rfl, rfl⟩)) | refine zsn (nm) ?_ | refine ⟨_, ze ⟨by omega, rfl⟩, ?_⟩ | fail); conv => whnf) | (refine And.intro zfF ?_; conv => whnf) | (refine zst rfl ?_) | (refine zss rfl ?_) | ((refine andA ?_); conv => whnf) | fail
    exact ⟨_, rdS V C s1 s2 ((a, t) :: l), rfl, ⟨rfl, rfl, rfl, trivial⟩, rfl, rfl, V, C, s1, s2, _, rfl⟩
   | some n =>
    rw [hc] at cn
    refine ⟨fun st' h s1 s2 => ?_, fun _ h => (by cases h)⟩
    cases h
    have my := zfv V C s1 s2 a t l
    have nd := zga n V C s1 s2 l (by omega)
    refine z6 hTt Tryz.func148 rfl (by kernel_rfl) (res := []) rfl Tryz.ntmps148 (by simp) fun w0 K0 B => ?_
    dsimp only [entry]
    repeat' first | refine zd ?_ | ((first | refine zf ?_ | refine regA ?_ | refine frA ((tk s1 s2)) [] ?_ | ((refine ⟨_, cn.frame (asc []) (by repeat (first | exact trivial | refine ⟨rfl, ?_⟩)) rfl (by rintro _ _ ⟨⟨_, rfl, _⟩, rfl⟩; rfl), ?_⟩); (rintro _ _ ⟨_, _, ⟨⟨m, rfl, hm⟩, rfl⟩, rfl, rfl⟩); have hm := hm n rfl; subst hm) | refine zsn (nm) ?_ | refine ⟨_, ze ⟨by omega, rfl⟩, ?_⟩ | refine frA ((my.toA)) [] ?_ | refine frA (nd) [] ?_ | fail); conv => whnf) | (refine zss rfl ?_) | ((refine andA ?_); conv => whnf) | fail
    exact ⟨_, rdS V (C ++ [m]) s1 (s2 + 1) l, ⟨rfl, rfl, rfl, trivial⟩, rfl, rfl, rfl, s1, (s2 + 1), rfl⟩
  | true =>
   rw [hn] at nm
   rw [if_pos rfl]
   have ix := fun st => zog V t st
   have lk := zkk t V 0
   cases hx : idxB V t 0 with
   | some i =>
    rw [hx] at lk
    dsimp only at lk ⊢
    rw [lk] at ix
    refine ⟨fun st' h s1 s2 => ?_, fun _ h => (by cases h)⟩
    cases h
    have my := zfv V C s1 s2 a t l
    have nd := zga ⟨1, i, 0, 0⟩ V C s1 s2 l (by omega)
    refine z6 hTt Tryz.func148 rfl (by kernel_rfl) (res := []) rfl Tryz.ntmps148 (by simp) fun w0 K0 B => ?_
    dsimp only [entry]
    repeat' first | refine zd ?_ | ((first | refine zf ?_ | refine regA ?_ | refine frA ((tk s1 s2)) [] ?_ | ((refine ⟨_, cn.frame (asc []) (by repeat (first | exact trivial | refine ⟨rfl, ?_⟩)) rfl (by rintro _ _ ⟨⟨_, rfl, _⟩, rfl⟩; rfl), ?_⟩); (rintro _ _ ⟨_, _, ⟨⟨m, rfl, hm⟩, rfl⟩, rfl, rfl⟩)) | refine zsn (nm) ?_ | refine ⟨_, ze ⟨by omega, rfl⟩, ?_⟩ | refine frA ((my.toA)) [] ?_ | refine frA (nd) [] ?_ | refine frA ((ix _)) [] ?_ | fail); conv => whnf) | (refine zst rfl ?_) | (refine zss rfl ?_) | ((refine andA ?_); conv => whnf) | fail
    exact ⟨_, rdS V (C ++ [⟨1, i, 0, 0⟩]) s1 (s2 + 1) l, ⟨rfl, rfl, rfl, trivial⟩, rfl, rfl, rfl, s1, (s2 + 1), rfl⟩
   | none =>
    rw [hx] at lk
    dsimp only at lk ⊢
    rw [lk] at ix
    refine ⟨fun st' h s1 s2 => ?_, fun _ h => (by cases h)⟩
    cases h
    have hVl : (V.map zaa).length = V.length := List.length_map _
    have my := fun s1 => zfv (V ++ [t]) C s1 s2 a t l
    have nd := fun s1 => zga ⟨1, V.length, 0, 0⟩ (V ++ [t]) C s1 s2 l (by omega)
    have g0 : V.length ≤ (V.map zaa).length := by omega
    have g1 : V.length + [zaa t].length ≤ maxLen := by show V.length + 1 ≤ _; unfold maxLen; omega
    have g2 : (V.length + [zaa t].length) * 16 ≤ 140737488355328 := by show (V.length + 1) * 16 ≤ _; omega
    have e : (V.map zaa).take V.length ++ [zaa t] = (V ++ [t]).map zaa := by rw [List.take_of_length_le (by omega), List.map_append]; rfl
    have el : V.length + 1 = (V ++ [t]).length := by rw [List.length_append]; rfl
    refine z6 hTt Tryz.func148 rfl (by kernel_rfl) (res := []) rfl Tryz.ntmps148 (by simp) fun w0 K0 B => ?_
    dsimp only [entry]
    repeat' first | refine zd ?_ | ((first | refine zf ?_ | refine regA ?_ | refine frA ((tk s1 s2)) [] ?_ | ((refine ⟨_, cn.frame (asc []) (by repeat (first | exact trivial | refine ⟨rfl, ?_⟩)) rfl (by rintro _ _ ⟨⟨_, rfl, _⟩, rfl⟩; rfl), ?_⟩); (rintro _ _ ⟨_, _, ⟨⟨m, rfl, hm⟩, rfl⟩, rfl, rfl⟩)) | refine zsn (nm) ?_ | refine ⟨_, ze ⟨by omega, rfl⟩, ?_⟩ | refine And.intro ⟨g0, g1, g2⟩ ?_ | refine frA ((ix _)) [] ?_ | ((refine ⟨_, ((my _).toA).frame (asc []) ⟨bxV el, chE e, rfl, trivial⟩ rfl (by rintro _ _ ⟨rfl, rfl⟩; rfl), ?_⟩); (rintro _ _ ⟨_, _, ⟨rfl, rfl⟩, rfl, rfl⟩)) | refine frA ((nd _)) [] ?_ | fail); conv => whnf) | (refine zst rfl ?_) | (refine zss rfl ?_) | ((refine andA ?_); conv => whnf) | (refine lnA fun hln => ?_; conv => whnf) | fail
    exact ⟨_, rdS (V ++ [t]) (C ++ [⟨1, V.length, 0, 0⟩]) (s1 + 1) (s2 + 1) l, ⟨rfl, rfl, rfl, trivial⟩, rfl, rfl, rfl, s1 + 1, s2 + 1, rfl⟩
end Go.Proofs.YtmceekhgnfpamaaGreatDoor
namespace Go.Proofs.YtmceekhgnfpamaaGreatDoor
open Go Go.QL FoT
set_option maxHeartbeats 3200000
attribute [local irreducible] ACall FnC YC FnP PCall
def RdA (f : FuncId) (st : PS) (r : Except Nat PS) : Prop := ∀ s1 s2, PCall Tryz.prog f [.x (.b 70 0)] (rdS st.vars st.code s1 s2 st.toks) (fun r' σ' => r' = .t [] ∧ ∃ st', r = .ok st' ∧ ∃ s1 s2, σ' = rdS st'.vars st'.code s1 s2 st'.toks)
 (fun v σ' => ∃ a, r = .error a ∧ v = errA a ∧ ∃ V C s1 s2 l, σ' = rdS V C s1 s2 l)
theorem zpb {f : FuncId} {m : PS → Rs} (h : ∀ st, RInv 2000 st → ∀ r, m st = some r → RdA f st r) : RdC f m :=
 fun st hi => ⟨fun st' hs s1 s2 => (h st hi _ hs s1 s2).mono (fun _ _ ⟨h1, x, h2, h3⟩ => ⟨h1, by cases h2; exact h3⟩) (fun _ _ ⟨_, h1, _⟩ => by cases h1),
  fun a hs s1 s2 => (h st hi _ hs s1 s2).mono (fun _ _ ⟨_, _, h1, _⟩ => by cases h1) (fun _ _ ⟨x, h1, h2, h3⟩ => by cases h1; exact ⟨h2, h3⟩)⟩
def Pnd (k : Nat) (b : Bool) (w : Bs8) (st : PS) (r : Except Nat PS) : Prop :=
 if b then st.code.length + st.toks.length + 1 ≤ 2000 ∧ ((∃ s1, opM k st = some (.ok s1) ∧ zcb k ⟨s1.toks, s1.vars, s1.code ++ [opN 5]⟩ = some r) ∨ ∃ e, opM k st = some (.error e) ∧ r = .error e) else r = .ok st
theorem zgP {k : Nat} {V : List Bs8} {C : List FNode} {l : Toks} {r : Except Nat PS} (hi : RInv 2000 ⟨l, V, C⟩) (h : zcb k ⟨l, V, C⟩ = some r) : ∃ j b w l2, k = j + 1 ∧
  (∀ s1 s2, ACall Tryz.prog 106 [.x (.b 70 0), .x (.d (zac [[42]]))] (rdS V C s1 s2 l) (fun r' σ' => r' = .t [sv (bs w), bv b] ∧ σ' = rdS V C s1 s2 l2)) ∧ RInv 2000 ⟨l2, V, C⟩ ∧ Pnd j b w ⟨l2, V, C⟩ r := by
 obtain ⟨a, t, rest, ht, _⟩ := hi.cons
 cases k with
 | zero => simp [zcb] at h
 | succ j =>
  dsimp only at ht
  subst ht
  rw [zcb] at h
  dsimp only at h
  by_cases hq : t = [42]
  ·rw [if_pos hq] at h
   obtain ⟨h1, h2, _⟩ := hi.next rfl (by rw [hq]; simp)
   refine ⟨j, true, t, rest, rfl, fun s1 s2 => zfl [[42]] V C s1 s2 a t rest (by rw [hq]; simp), h1, ?_⟩
   unfold Pnd
   rw [if_pos rfl]
   refine ⟨h2, ?_⟩
   cases hs : opM j ⟨rest, V, C⟩ with
   | none => rw [hs] at h; cases h
   | some x =>
    rw [hs] at h
    cases x with
    | error e => cases h; exact .inr ⟨e, rfl, rfl⟩
    | ok s1 => exact .inl ⟨s1, rfl, h⟩
  ·rw [if_neg hq] at h
   refine ⟨j, false, [], (a, t) :: rest, rfl, fun s1 s2 => zhh [[42]] V C s1 s2 a t rest (by simp [hq]), hi, ?_⟩
   unfold Pnd
   rw [if_neg (by simp)]
   cases h; rfl
theorem zlK {K : Nat} (ih : ∀ j, j ≤ K → RdC 148 (opM j)) : RdC 105 (zaY (K + 1)) := by
 refine zpb fun st hi r h s1 s2 => ?_
 obtain ⟨toks, V, C⟩ := st
 rw [zaY] at h
 obtain ⟨ih1, ih2⟩ := ih K (Nat.le_refl _) _ hi
 cases hs : opM K ⟨toks, V, C⟩ with
 | none => rw [hs] at h; cases h
 | some x =>
  rw [hs] at h
  cases x with
  | error e =>
   cases h
   have ih2 := ih2 _ hs s1 s2
   dsimp only at ih2 ⊢
   refine z6 hTt Tryz.func105 rfl (by kernel_rfl) (res := []) rfl Tryz.ntmps105 (by simp) fun w0 K0 B => ?_
   dsimp only [entry]
   repeat' first | ((with_reducible refine zH hTt (id := 0) ?_); conv => whnf) | refine zd ?_ | ((refine ⟨_, _, ih2, ?_, ?_⟩) <;> first | (exact fun _ _ h => h.elim) | (rintro _ _ ⟨rfl, V', C', s1', s2', l', rfl⟩; conv => whnf)) | fail
   exact ⟨_, rdS V' C' s1' s2' l', rfl, ⟨rfl, rfl, rfl, trivial⟩, rfl, _, rfl, rfl, V', C', s1', s2', l', rfl⟩
  | ok st1 =>
   have jh1 := ih1 _ hs s1 s2
   obtain ⟨hi1, _⟩ := (zdn 2000 K).1 _ _ hi hs
   obtain ⟨t1, V1, C1⟩ := st1
   dsimp only at jh1 h ⊢
   refine z6 hTt Tryz.func105 rfl (by kernel_rfl) (res := []) rfl Tryz.ntmps105 (by simp) fun w0 K0 B => ?_
   dsimp only [entry]
   obtain ⟨j, b, w, l2, rfl, tk, hi2, hp⟩ := zgP hi1 h
   repeat' first | ((with_reducible refine zH hTt (id := 0) ?_); conv => whnf) | refine zd ?_ | refine zc ?_ | ((refine regA ?_); conv => whnf) | ((refine ⟨_, _, jh1, ?_, ?_⟩) <;> first | (exact fun _ _ h => h.elim) | (rintro _ _ ⟨rfl, s1', s2', rfl⟩; conv => whnf)) | ((refine frA ((tk _ _)) [] ?_); conv => whnf) | fail
   refine zJ (fun x : Nat × Bool × Bs8 × PS × Nat × Nat => [(3, bv x.2.1), (0, .x (.b 70 0))]) (fun x => rdS x.2.2.2.1.vars x.2.2.2.1.code x.2.2.2.2.1 x.2.2.2.2.2 x.2.2.2.1.toks)
    (fun x => x.1 ≤ j ∧ RInv 2000 x.2.2.2.1 ∧ Pnd x.1 x.2.1 x.2.2.1 x.2.2.2.1 r) (fun x => x.1) (j, b, w, ⟨l2, V1, C1⟩, s1', s2') ⟨Nat.le_refl _, hi2, hp⟩ impA ?_
   clear tk hi2 hp b w l2 jh1 ih1 ih2 hi1 h hs
   rintro ⟨i, b, w, ⟨l2, V2, C2⟩, s3, s4⟩ ⟨hij, hi2, hp⟩
   dsimp only at hij hi2 hp ⊢
   unfold Pnd at hp
   cases b with
   | false =>
    rw [if_neg (by simp)] at hp
    repeat' first | refine zd ?_ | ((first | refine zk ?_ | refine regA ?_ | fail); conv => whnf) | (refine zss rfl ?_) | fail
    exact ⟨_, rdS V2 C2 s3 s4 l2, ⟨rfl, rfl, rfl, trivial⟩, rfl, rfl, rfl, _, hp, s3, s4, rfl⟩
   | true =>
    rw [if_pos rfl] at hp
    obtain ⟨hroom, hp⟩ := hp
    dsimp only at hroom
    obtain ⟨ih1, ih2⟩ := ih i (by omega) _ hi2
    rcases hp with ⟨⟨t3, V3, C3⟩, hs, hr⟩ | ⟨e, hs, hr⟩
    ·have jh1 := ih1 _ hs s3 s4
     obtain ⟨⟨q1, q2, q3, q4⟩, hm⟩ := (zdn 2000 i).1 _ _ hi2 hs
     dsimp only at jh1 hm hr q1 q2 q3 q4
     have hi4 : RInv 2000 ⟨t3, V3, C3 ++ [opN 5]⟩ := ⟨q1, q2, by dsimp only; rw [List.length_append]; dsimp only [List.length_cons, List.length_nil]; omega, q4⟩
     obtain ⟨j2, b2, w2, l4, rfl, tk, hi5, hp5⟩ := zgP hi4 hr
     have nd := fun s1 s2 => zga (opN 5) V3 C3 s1 s2 t3 (by omega)
     repeat' first | ((with_reducible refine zH hTt (id := 4) ?_); conv => whnf) | refine zd ?_ | refine zc ?_ | ((first | refine zf ?_ | refine regA ?_ | fail); conv => whnf) | ((refine ⟨_, _, jh1, ?_, ?_⟩) <;> first | (exact fun _ _ h => h.elim) | (rintro _ _ ⟨rfl, s1', s2', rfl⟩; conv => whnf)) | ((first | refine frA ((tk _ _)) [] ?_ | refine frA ((nd _ _)) [] ?_ | fail); conv => whnf) | (refine zst rfl ?_) | fail
     exact ⟨(j2, b2, w2, ⟨l4, V3, C3 ++ [opN 5]⟩, s1', s2' + 1), ⟨by show j2 ≤ j; omega, hi5, hp5⟩, by show j2 < j2 + 1; omega, impA⟩
    ·have ih2 := ih2 _ hs s3 s4
     subst hr
     repeat' first | ((with_reducible refine zH hTt (id := 4) ?_); conv => whnf) | refine zd ?_ | refine zc ?_ | ((first | refine zf ?_ | refine regA ?_ | fail); conv => whnf) | ((refine ⟨_, _, ih2, ?_, ?_⟩) <;> first | (exact fun _ _ h => h.elim) | (rintro _ _ ⟨rfl, V', C', s1', s2', l', rfl⟩; conv => whnf)) | (refine zst rfl ?_) | fail
     exact ⟨_, rdS V' C' s1' s2' l', rfl, ⟨rfl, rfl, rfl, trivial⟩, rfl, _, rfl, rfl, V', C', s1', s2', l', rfl⟩
def Snd (k : Nat) (b : Bool) (w : Bs8) (st : PS) (r : Except Nat PS) : Prop :=
 if b then (w = [43] ∨ w = [45]) ∧ st.code.length + st.toks.length + 1 ≤ 2000 ∧ ((∃ s1, zaY k st = some (.ok s1) ∧ sumT k ⟨s1.toks, s1.vars, s1.code ++ [opN (if w = [45] then 4 else 3)]⟩ = some r) ∨ ∃ e, zaY k st = some (.error e) ∧ r = .error e) else r = .ok st
theorem zhU {k : Nat} {V : List Bs8} {C : List FNode} {l : Toks} {r : Except Nat PS} (hi : RInv 2000 ⟨l, V, C⟩) (h : sumT k ⟨l, V, C⟩ = some r) : ∃ j b w l2, k = j + 1 ∧
  (∀ s1 s2, ACall Tryz.prog 106 [.x (.b 70 0), .x (.d (zac [[43], [45]]))] (rdS V C s1 s2 l) (fun r' σ' => r' = .t [sv (bs w), bv b] ∧ σ' = rdS V C s1 s2 l2)) ∧ RInv 2000 ⟨l2, V, C⟩ ∧ Snd j b w ⟨l2, V, C⟩ r := by
 obtain ⟨a, t, rest, ht, _⟩ := hi.cons
 cases k with
 | zero => simp [sumT] at h
 | succ j =>
  dsimp only at ht
  subst ht
  rw [sumT] at h
  dsimp only at h
  by_cases hq : (t = [43] ∨ t = [45])
  ·rw [if_pos hq] at h
   obtain ⟨h1, h2, _⟩ := hi.next rfl (by rcases hq with rfl | rfl <;> simp)
   refine ⟨j, true, t, rest, rfl, fun s1 s2 => zfl [[43], [45]] V C s1 s2 a t rest (by rcases hq with rfl | rfl <;> simp), h1, ?_⟩
   unfold Snd
   rw [if_pos rfl]
   refine ⟨hq, h2, ?_⟩
   cases hs : zaY j ⟨rest, V, C⟩ with
   | none => rw [hs] at h; cases h
   | some x =>
    rw [hs] at h
    cases x with
    | error e => cases h; exact .inr ⟨e, rfl, rfl⟩
    | ok s1 => exact .inl ⟨s1, rfl, h⟩
  ·rw [if_neg hq] at h
   refine ⟨j, false, [], (a, t) :: rest, rfl, fun s1 s2 => zhh [[43], [45]] V C s1 s2 a t rest (by rw [not_or] at hq; simp [hq]), hi, ?_⟩
   unfold Snd
   rw [if_neg (by simp)]
   cases h; rfl
theorem zrS {K : Nat} (ih : ∀ j, j ≤ K → RdC 105 (zaY j)) : RdC 46 (sumM (K + 1)) := by
 refine zpb fun st hi r h s1 s2 => ?_
 obtain ⟨toks, V, C⟩ := st
 rw [sumM] at h
 obtain ⟨ih1, ih2⟩ := ih K (Nat.le_refl _) _ hi
 cases hs : zaY K ⟨toks, V, C⟩ with
 | none => rw [hs] at h; cases h
 | some x =>
  rw [hs] at h
  cases x with
  | error e =>
   cases h
   have ih2 := ih2 _ hs s1 s2
   dsimp only at ih2 ⊢
   refine z6 hTt Tryz.func46 rfl (by kernel_rfl) (res := []) rfl Tryz.ntmps46 (by simp) fun w0 K0 B => ?_
   dsimp only [entry]
   repeat' first | ((with_reducible refine zH hTt (id := 0) ?_); conv => whnf) | refine zd ?_ | ((refine ⟨_, _, ih2, ?_, ?_⟩) <;> first | (exact fun _ _ h => h.elim) | (rintro _ _ ⟨rfl, V', C', s1', s2', l', rfl⟩; conv => whnf)) | fail
   exact ⟨_, rdS V' C' s1' s2' l', rfl, ⟨rfl, rfl, rfl, trivial⟩, rfl, _, rfl, rfl, V', C', s1', s2', l', rfl⟩
  | ok st1 =>
   have jh1 := ih1 _ hs s1 s2
   obtain ⟨hi1, _⟩ := (zdn 2000 K).2.1 _ _ hi hs
   obtain ⟨t1, V1, C1⟩ := st1
   dsimp only at jh1 h ⊢
   refine z6 hTt Tryz.func46 rfl (by kernel_rfl) (res := []) rfl Tryz.ntmps46 (by simp) fun w0 K0 B => ?_
   dsimp only [entry]
   obtain ⟨j, b, w, l2, rfl, tk, hi2, hp⟩ := zhU hi1 h
   repeat' first | ((with_reducible refine zH hTt (id := 0) ?_); conv => whnf) | refine zd ?_ | refine zc ?_ | ((refine regA ?_); conv => whnf) | ((refine ⟨_, _, jh1, ?_, ?_⟩) <;> first | (exact fun _ _ h => h.elim) | (rintro _ _ ⟨rfl, s1', s2', rfl⟩; conv => whnf)) | ((refine frA ((tk _ _)) [] ?_); conv => whnf) | fail
   refine zJ (fun x : Nat × Bool × Bs8 × PS × Nat × Nat => [(2, sv (bs x.2.2.1)), (3, bv x.2.1), (0, .x (.b 70 0))]) (fun x => rdS x.2.2.2.1.vars x.2.2.2.1.code x.2.2.2.2.1 x.2.2.2.2.2 x.2.2.2.1.toks)
    (fun x => x.1 ≤ j ∧ RInv 2000 x.2.2.2.1 ∧ Snd x.1 x.2.1 x.2.2.1 x.2.2.2.1 r) (fun x => x.1) (j, b, w, ⟨l2, V1, C1⟩, s1', s2') ⟨Nat.le_refl _, hi2, hp⟩ impA ?_
   clear tk hi2 hp b w l2 jh1 ih1 ih2 hi1 h hs
   rintro ⟨i, b, w, ⟨l2, V2, C2⟩, s3, s4⟩ ⟨hij, hi2, hp⟩
   dsimp only at hij hi2 hp ⊢
   unfold Snd at hp
   cases b with
   | false =>
    rw [if_neg (by simp)] at hp
    repeat' first | refine zd ?_ | ((first | refine zk ?_ | refine regA ?_ | fail); conv => whnf) | (refine zss rfl ?_) | fail
    exact ⟨_, rdS V2 C2 s3 s4 l2, ⟨rfl, rfl, rfl, trivial⟩, rfl, rfl, rfl, _, hp, s3, s4, rfl⟩
   | true =>
    rw [if_pos rfl] at hp
    obtain ⟨hw, hroom, hp⟩ := hp
    dsimp only at hroom
    obtain ⟨ih1, ih2⟩ := ih i (by omega) _ hi2
    rcases hp with ⟨⟨t3, V3, C3⟩, hs, hr⟩ | ⟨e, hs, hr⟩
    ·have jh1 := ih1 _ hs s3 s4
     obtain ⟨⟨q1, q2, q3, q4⟩, hm⟩ := (zdn 2000 i).2.1 _ _ hi2 hs
     dsimp only at jh1 hm hr q1 q2 q3 q4
     have hi4 : RInv 2000 ⟨t3, V3, C3 ++ [opN (if w = [45] then 4 else 3)]⟩ := ⟨q1, q2, by dsimp only; rw [List.length_append]; dsimp only [List.length_cons, List.length_nil]; omega, q4⟩
     obtain ⟨j2, b2, w2, l4, rfl, tk, hi5, hp5⟩ := zhU hi4 hr
     have nd := fun s1 s2 => zga (opN (if w = [45] then 4 else 3)) V3 C3 s1 s2 t3 (by omega)
     rcases hw with rfl | rfl
     ·rw [if_neg (by decide)] at nd tk hi5 hp5
      have hq : ((bs [43]).toList == (bs [45]).toList) = false := by rw [zdf]; decide
      repeat' first | ((with_reducible refine zH hTt (id := 4) ?_); conv => whnf) | refine zd ?_ | refine zc ?_ | ((first | refine zf ?_ | refine regA ?_ | fail); conv => whnf) | ((refine ⟨_, _, jh1, ?_, ?_⟩) <;> first | (exact fun _ _ h => h.elim) | (rintro _ _ ⟨rfl, s1', s2', rfl⟩; conv => whnf)) | ((first | refine frA ((tk _ _)) [] ?_ | refine frA ((nd _ _)) [] ?_ | fail); conv => whnf) | (refine za rfl (zM hq) (fun _ => ?_)) | (refine zst rfl ?_) | fail
      exact ⟨(j2, b2, w2, ⟨l4, V3, C3 ++ [opN 3]⟩, s1', s2' + 1), ⟨by show j2 ≤ j; omega, hi5, hp5⟩, by show j2 < j2 + 1; omega, impA⟩
     ·rw [if_pos rfl] at nd tk hi5 hp5
      have hq : ((bs [45]).toList == (bs [45]).toList) = true := by rw [zdf]; decide
      repeat' first | ((with_reducible refine zH hTt (id := 4) ?_); conv => whnf) | refine zd ?_ | refine zc ?_ | ((first | refine zf ?_ | refine regA ?_ | fail); conv => whnf) | ((refine ⟨_, _, jh1, ?_, ?_⟩) <;> first | (exact fun _ _ h => h.elim) | (rintro _ _ ⟨rfl, s1', s2', rfl⟩; conv => whnf)) | ((first | refine frA ((tk _ _)) [] ?_ | refine frA ((nd _ _)) [] ?_ | fail); conv => whnf) | (refine za rfl (fun _ => ?_) (zaf hq)) | (refine zst rfl ?_) | fail
      exact ⟨(j2, b2, w2, ⟨l4, V3, C3 ++ [opN 4]⟩, s1', s2' + 1), ⟨by show j2 ≤ j; omega, hi5, hp5⟩, by show j2 < j2 + 1; omega, impA⟩
    ·have ih2 := ih2 _ hs s3 s4
     subst hr
     repeat' first | ((with_reducible refine zH hTt (id := 4) ?_); conv => whnf) | refine zd ?_ | refine zc ?_ | ((first | refine zf ?_ | refine regA ?_ | fail); conv => whnf) | ((refine ⟨_, _, ih2, ?_, ?_⟩) <;> first | (exact fun _ _ h => h.elim) | (rintro _ _ ⟨rfl, V', C', s1', s2', l', rfl⟩; conv => whnf)) | (refine zst rfl ?_) | fail
     exact ⟨_, rdS V' C' s1' s2' l', rfl, ⟨rfl, rfl, rfl, trivial⟩, rfl, _, rfl, rfl, V', C', s1', s2', l', rfl⟩
theorem zj5 : ∀ k : Nat, (∀ j, j ≤ k → RdC 148 (opM j)) ∧ (∀ j, j ≤ k → RdC 105 (zaY j)) ∧ ∀ j, j ≤ k → RdC 46 (sumM j)
 | 0 => by
  refine ⟨fun j hj => ?_, fun j hj => ?_, fun j hj => ?_⟩
  all_goals
   obtain rfl : j = 0 := by omega
   refine fun st hi => ⟨fun st' h => ?_, fun a h => ?_⟩
   all_goals simp [opM, zaY, sumM] at h
 | k + 1 => by
  obtain ⟨h1, h2, h3⟩ := zj5 k
  have ho : ∀ j, j ≤ k + 1 → RdC 148 (opM j) := fun j hj => by
   rcases Nat.lt_or_ge j (k + 1) with h | h
   ·exact h1 j (by omega)
   ·obtain rfl : j = k + 1 := by omega
    exact zpH (h3 k (Nat.le_refl _))
  have hp : ∀ j, j ≤ k + 1 → RdC 105 (zaY j) := fun j hj => by
   rcases Nat.lt_or_ge j (k + 1) with h | h
   ·exact h2 j (by omega)
   ·obtain rfl : j = k + 1 := by omega
    exact zlK h1
  refine ⟨ho, hp, fun j hj => ?_⟩
  rcases Nat.lt_or_ge j (k + 1) with h | h
  ·exact h3 j (by omega)
  ·obtain rfl : j = k + 1 := by omega
   exact zrS h2
end Go.Proofs.YtmceekhgnfpamaaGreatDoor
namespace Go.Proofs.YtmceekhgnfpamaaGreatDoor
open Go Go.QL FoT
set_option maxHeartbeats 3200000
attribute [local irreducible] ACall FnC YC FnP PCall
theorem zi8 (s : Bs8) : ACall Tryz.prog 45 [sv (bs s)] [] (fun r σ' => r = .x (.f (.func 103) [] [.b 1 0]) ∧ σ' = [(1, .box [.d (.v (.string (bs s)))])]) := by
 refine hdD Tryz.func45 Tryz.ntmps45 (res := [.tmp 2]) fun w0 K0 B => ?_
 repeat' first | refine zd ?_ | ((first | refine zi ?_ | refine regA ?_ | fail); conv => whnf) | fail
 exact ⟨_, [(1, .box [.d (.v (.string (bs s)))])], ⟨rfl, trivial⟩, rfl, rfl, rfl, rfl⟩
theorem zlt {s : Bs8} {a e : Nat} {hes : e < s.length} (hrs : ∀ k (h : k < s.length), a < k → k < e → zaM s[k] = true) (hre : zaM s[e] = true) {k : Nat} (hk : k < s.length) (h1 : a < k) (h2 : k < e + 1) : zaM s[k] = true := by
 rcases Nat.lt_or_ge k e with h | h
 ·exact hrs k hk h1 h
 ·have : k = e := by omega
  subst this; exact hre
theorem zm2 (s : Bs8) {a e : Nat} (h : e ≤ s.length) : (bs s).extract a e = bs ((s.take e).drop a) := by
 apply ByteArray.ext
 apply Array.ext'
 rw [ByteArray.data_extract, Array.toList_extract]
 show List.extract s.toArray.toList a e = _
 simp [List.extract, bs, List.drop_take]
abbrev frX : Fr := [(16, .x (.f (.func 103) [] [.b 950 0])), (5, .x (.b 5 0)), (4, .x (.b 4 0)), (3, .x (.b 3 0)), (2, .x (.b 2 0))]
abbrev atX (l : Toks) : List (List PV) := l.map fun p => [PV.v (.int .i64 p.1)]
abbrev tkX (l : Toks) : List (List PV) := l.map fun p => [PV.v (.string (bs p.2))]
abbrev sgX (asg bdy : Code) (acc : Toks) (s : Bs8) : Sg :=
 [(930, .x (.loop .ready none #[17, 18] asg bdy 65 frX 931)), (931, .x .dfr), (5, .box [.b 14 0]), (14, .box [.d (.v (.slice none 0 0)), .d (.v (.slice none 0 0)), .o 73 acc.length acc.length, .o 74 acc.length acc.length]),
  (73, .chain 3 1 acc.length (atX acc)), (74, .chain 9 1 acc.length (tkX acc)),
  (4, .box [.d (.v (.int .i64 0))]), (3, .box [.d (.v (.int .i64 0))]), (2, .box [.d (.v (.slice none 0 0)), .d (.v (.slice none 0 0))]), (950, .box [.d (.v (.string (bs s)))])]
theorem zlf {asg bdy : Code} {s : Bs8} (hs : s.length ≤ 600)
  (hy : ∀ (acc : Toks) (a : Nat) (t : Bs8), acc.length ≤ 700 → a ≤ 600 → YC Tryz.prog 930 [iv .i64 a, sv (bs t)] (sgX asg bdy acc s) (fun r σ' => r = bv true ∧ σ' = sgX asg bdy (acc ++ [(a, t)]) s)) :
  ACall Tryz.prog 103 [.x (.h 930), .x (.b 950 0)] (sgX asg bdy [] s) (fun r σ' => r = .t [] ∧ σ' = sgX asg bdy (tk 0 none s) s) := by
 have hsz := zbj s
 have hli := zco s
 have hrow : ∀ c : UInt8, FnC Tryz.prog 104 [iv .u8 c.toNat] (bv (zaM c)) := zpx
 refine hdD Tryz.func103 Tryz.ntmps103 (res := []) fun w0 K0 B => ?_
 repeat' first | refine zd ?_ | refine zc ?_ | ((refine regA ?_); conv => whnf) | fail
 refine zJ (fun x : Nat × Toks => [(3, iv .i64 x.1), (1, .x (.b 950 0)), (0, .x (.h 930))]) (fun x => sgX asg bdy x.2 s)
  (fun x => x.1 ≤ s.length ∧ x.2 ++ tk x.1 none (s.drop x.1) = tk 0 none s ∧ x.2.length ≤ x.1) (fun x => s.length - x.1) (0, []) ⟨Nat.zero_le _, rfl, Nat.le_refl _⟩ impA ?_
 rintro ⟨a, acc⟩ ⟨ha, hT, hac⟩
 dsimp only at ha hT hac ⊢
 rcases Nat.lt_or_ge a s.length with hal | hal
 ·have hga : (bs s).data.toList[(a : Int).toNat]? = some s[a] := by rw [hli, Int.toNat_natCast]; exact List.getElem?_eq_getElem hal
  have hra := hrow s[a]
  repeat' first | refine zd ?_ | refine zc ?_ | ((first | refine zf ?_ | refine zk ?_ | refine regA ?_ | fail); conv => whnf) | exact abA hb | (refine zso rfl (fun hb => ?_) (fun hb => ?_)) | ((refine zsq ?_); conv => whnf) | fail
  refine zJ (fun e : Nat => [(4, iv .i64 e), (3, iv .i64 a), (1, .x (.b 950 0)), (0, .x (.h 930))]) (fun _ => sgX asg bdy acc s)
   (fun e => a < e ∧ e ≤ s.length ∧ (∀ k (h : k < s.length), a < k → k < e → zaM s[k] = true) ∧ (a + 1 < e → zaM s[a] = true)) (fun e => s.length - e) (a + 1) ⟨by omega, by omega, fun k _ h1 h2 => absurd h2 (by omega), fun h => absurd h (by omega)⟩ (impX (by repeat' (first | exact trivial | refine And.intro ?_ ?_ | exact ivE (by push_cast; omega) | exact zsw))) ?_
  rintro e ⟨hae, hel, hrs, hrn⟩
  cases hr : zaM s[a] with
  | false =>
   have r1 := hra
   rw [hr] at r1
   have hst := zi9 hal hae hel hrs hrn (fun h => absurd (h.symm.trans hr) (by decide))
   rw [hst] at hT
   have hex : (bs s).extract a e = bs ((s.take e).drop a) := zm2 s hel
   by_cases c : s[a] = 32
   ·rw [if_pos c, List.nil_append] at hT
    have c32 : (((s[a].toNat : Nat) : Int) != 32) = false := by rw [c]; rfl
    repeat' first | refine zd ?_ | ((first | refine zf ?_ | refine zk ?_ | refine regA ?_ | refine zsn (r1) ?_ | refine ⟨0, zax (fun h => absurd (show false = true from h) (by decide)), ?_⟩ | refine zsp ((hrow 0)) ?_ | refine ⟨s[a], ze ⟨by omega, hga⟩, ?_⟩ | refine pkA ?_ | refine And.intro (fun h => absurd (show (((s[a].toNat : Nat) : Int) != 32) = true from h) (by rw [c32]; decide)) (fun _ => ?_) | refine And.intro (zax (fun h => absurd (show (((s[a].toNat : Nat) : Int) != 32) = true from h) (by rw [c32]; decide))) ?_ | fail); conv => whnf) | (refine za rfl (zM (by rw [c32]; rfl)) (fun _ => ?_)) | (refine zss rfl ?_) | fail
    exact ⟨(e, acc), ⟨hel, hT, by show acc.length ≤ e; omega⟩, by show s.length - e < s.length - a; omega, impA⟩
   ·rw [if_neg c, ← List.append_assoc] at hT
    have c32 : (((s[a].toNat : Nat) : Int) != 32) = true := by
     rw [bne_iff_ne]; intro h; exact c (UInt8.toNat_inj.1 (by show s[a].toNat = 32; omega))
    have hyf := hy acc a ((s.take e).drop a) (by omega) (by omega)
    rw [← hex] at hyf
    repeat' first | refine zd ?_ | ((first | refine zf ?_ | refine zk ?_ | refine regA ?_ | refine zsn (r1) ?_ | refine ⟨0, zax (fun h => absurd (show false = true from h) (by decide)), ?_⟩ | refine zsp ((hrow 0)) ?_ | refine ⟨s[a], ze ⟨by omega, hga⟩, ?_⟩ | refine pkA ?_ | refine And.intro (fun _ => ?_) (fun h => absurd (show (((s[a].toNat : Nat) : Int) != 32) = false from h) (by rw [c32]; decide)); refine ⟨_, hyf, ?_⟩; rintro _ _ ⟨rfl, rfl⟩ | fail); conv => whnf) | (refine za rfl (zM (by rw [c32]; rfl)) (fun _ => ?_)) | (refine zss rfl ?_) | ((refine andA ?_); conv => whnf) | fail
    exact ⟨(e, acc ++ [(a, (s.take e).drop a)]), ⟨hel, hT, by show (acc ++ [(a, (s.take e).drop a)]).length ≤ e; rw [List.length_append]; dsimp only [List.length_cons, List.length_nil]; omega⟩, by show s.length - e < s.length - a; omega, impA⟩
  | true =>
   have r1 := hra
   rw [hr] at r1
   rcases Nat.lt_or_ge e s.length with hes | hes
   ·have hge : (bs s).data.toList[(e : Int).toNat]? = some s[e] := by rw [hli, Int.toNat_natCast]; exact List.getElem?_eq_getElem hes
    have r2 := hrow s[e]
    have hd : decide ((e : Int) < ((bs s).size : Int)) = true := decide_eq_true (by omega)
    cases hre : zaM s[e] with
    | true =>
     rw [hre] at r2
     have hrs' : ∀ k (h : k < s.length), a < k → k < e + 1 → zaM s[k] = true := fun k hk h1 h2 => zlt hrs hre hk h1 h2
     repeat' first | refine zd ?_ | refine zc ?_ | ((first | refine zf ?_ | refine regA ?_ | refine zsn (r1) ?_ | refine zsp (r2) ?_ | refine pkA ?_ | refine ⟨s[a], ze ⟨by omega, hga⟩, ?_⟩ | refine ⟨s[e], ze ⟨by omega, hge⟩, ?_⟩ | fail); conv => whnf) | (refine za rfl (fun _ => ?_) (zaf (by rw [hd]; rfl))) | ((refine zsq ?_); conv => whnf) | fail
     exact ⟨e + 1, ⟨by omega, by omega, hrs', fun _ => by first | exact hr | rfl⟩, by omega, impA⟩
    | false =>
     rw [hre] at r2
     have hst := zi9 hal hae hel hrs hrn (fun _ _ => hre)
     rw [hst] at hT
     have hex : (bs s).extract a e = bs ((s.take e).drop a) := zm2 s hel
     by_cases c : s[a] = 32
     ·rw [if_pos c, List.nil_append] at hT
      have c32 : (((s[a].toNat : Nat) : Int) != 32) = false := by rw [c]; rfl
      repeat' first | refine zd ?_ | ((first | refine zf ?_ | refine zk ?_ | refine regA ?_ | refine zsn (r1) ?_ | refine zsp (r2) ?_ | refine ⟨s[e], ze ⟨by omega, hge⟩, ?_⟩ | refine ⟨s[a], ze ⟨by omega, hga⟩, ?_⟩ | refine pkA ?_ | refine And.intro (fun h => absurd (show (((s[a].toNat : Nat) : Int) != 32) = true from h) (by rw [c32]; decide)) (fun _ => ?_) | refine And.intro (zax (fun h => absurd (show (((s[a].toNat : Nat) : Int) != 32) = true from h) (by rw [c32]; decide))) ?_ | fail); conv => whnf) | (refine za rfl (zM (by rw [c32]; rfl)) (fun _ => ?_)) | (refine za rfl (zM (by rw [hd]; rfl)) (fun _ => ?_)) | fail
      exact ⟨(e, acc), ⟨hel, hT, by show acc.length ≤ e; omega⟩, by show s.length - e < s.length - a; omega, impA⟩
     ·rw [if_neg c, ← List.append_assoc] at hT
      have c32 : (((s[a].toNat : Nat) : Int) != 32) = true := by
       rw [bne_iff_ne]; intro h; exact c (UInt8.toNat_inj.1 (by show s[a].toNat = 32; omega))
      have hyf := hy acc a ((s.take e).drop a) (by omega) (by omega)
      rw [← hex] at hyf
      repeat' first | refine zd ?_ | ((first | refine zf ?_ | refine zk ?_ | refine regA ?_ | refine zsn (r1) ?_ | refine zsp (r2) ?_ | refine ⟨s[e], ze ⟨by omega, hge⟩, ?_⟩ | refine ⟨s[a], ze ⟨by omega, hga⟩, ?_⟩ | refine pkA ?_ | refine And.intro (fun _ => ?_) (fun h => absurd (show (((s[a].toNat : Nat) : Int) != 32) = false from h) (by rw [c32]; decide)); refine ⟨_, hyf, ?_⟩; rintro _ _ ⟨rfl, rfl⟩ | fail); conv => whnf) | (refine za rfl (zM (by rw [c32]; rfl)) (fun _ => ?_)) | (refine za rfl (zM (by rw [hd]; rfl)) (fun _ => ?_)) | ((refine andA ?_); conv => whnf) | fail
      exact ⟨(e, acc ++ [(a, (s.take e).drop a)]), ⟨hel, hT, by show (acc ++ [(a, (s.take e).drop a)]).length ≤ e; rw [List.length_append]; dsimp only [List.length_cons, List.length_nil]; omega⟩, by show s.length - e < s.length - a; omega, impA⟩
   ·have hd : decide ((e : Int) < ((bs s).size : Int)) = false := decide_eq_false (by omega)
    have hst := zi9 hal hae hel hrs hrn (fun _ h => absurd h (by omega))
    rw [hst] at hT
    have hex : (bs s).extract a e = bs ((s.take e).drop a) := zm2 s hel
    by_cases c : s[a] = 32
    ·rw [if_pos c, List.nil_append] at hT
     have c32 : (((s[a].toNat : Nat) : Int) != 32) = false := by rw [c]; rfl
     repeat' first | refine zd ?_ | ((first | refine zf ?_ | refine zk ?_ | refine regA ?_ | refine zsn (r1) ?_ | refine zsp ((hrow 0)) ?_ | refine ⟨0, zax (fun h => absurd (show (bif true then decide ((e : Int) < ((bs s).size : Int)) else false) = true from h) (by rw [hd]; decide)), ?_⟩ | refine ⟨s[a], ze ⟨by omega, hga⟩, ?_⟩ | refine pkA ?_ | refine And.intro (fun h => absurd (show (((s[a].toNat : Nat) : Int) != 32) = true from h) (by rw [c32]; decide)) (fun _ => ?_) | refine And.intro (zax (fun h => absurd (show (((s[a].toNat : Nat) : Int) != 32) = true from h) (by rw [c32]; decide))) ?_ | fail); conv => whnf) | (refine za rfl (zM (by rw [c32]; rfl)) (fun _ => ?_)) | (refine za rfl (zM (by rw [hd]; rfl)) (fun _ => ?_)) | fail
     exact ⟨(e, acc), ⟨hel, hT, by show acc.length ≤ e; omega⟩, by show s.length - e < s.length - a; omega, impA⟩
    ·rw [if_neg c, ← List.append_assoc] at hT
     have c32 : (((s[a].toNat : Nat) : Int) != 32) = true := by
      rw [bne_iff_ne]; intro h; exact c (UInt8.toNat_inj.1 (by show s[a].toNat = 32; omega))
     have hyf := hy acc a ((s.take e).drop a) (by omega) (by omega)
     rw [← hex] at hyf
     repeat' first | refine zd ?_ | ((first | refine zf ?_ | refine zk ?_ | refine regA ?_ | refine zsn (r1) ?_ | refine zsp ((hrow 0)) ?_ | refine ⟨0, zax (fun h => absurd (show (bif true then decide ((e : Int) < ((bs s).size : Int)) else false) = true from h) (by rw [hd]; decide)), ?_⟩ | refine ⟨s[a], ze ⟨by omega, hga⟩, ?_⟩ | refine pkA ?_ | refine And.intro (fun _ => ?_) (fun h => absurd (show (((s[a].toNat : Nat) : Int) != 32) = false from h) (by rw [c32]; decide)); refine ⟨_, hyf, ?_⟩; rintro _ _ ⟨rfl, rfl⟩ | fail); conv => whnf) | (refine za rfl (zM (by rw [c32]; rfl)) (fun _ => ?_)) | (refine za rfl (zM (by rw [hd]; rfl)) (fun _ => ?_)) | ((refine andA ?_); conv => whnf) | fail
     exact ⟨(e, acc ++ [(a, (s.take e).drop a)]), ⟨hel, hT, by show (acc ++ [(a, (s.take e).drop a)]).length ≤ e; rw [List.length_append]; dsimp only [List.length_cons, List.length_nil]; omega⟩, by show s.length - e < s.length - a; omega, impA⟩
 ·have hae : a = s.length := by omega
  subst hae
  rw [List.drop_eq_nil_of_le (Nat.le_refl _), zqE] at hT
  have hyf := hy acc (bs s).size [] (by omega) (by omega)
  repeat' first | refine zd ?_ | refine zc ?_ | ((first | refine zf ?_ | refine zk ?_ | refine regA ?_ | fail); conv => whnf) | exact abA hb | ((refine ⟨_, hyf, ?_⟩); (rintro _ _ ⟨rfl, rfl⟩); conv => whnf) | (refine zso rfl (fun hb => ?_) (fun hb => ?_)) | fail
  rw [← hT, ← hsz]
  exact ⟨_, sgX asg bdy (acc ++ [((bs s).size, [])]) s, ⟨rfl, rfl, rfl, rfl, rfl, rfl, rfl, rfl, rfl, rfl, trivial⟩, rfl, rfl, rfl, rfl⟩
end Go.Proofs.YtmceekhgnfpamaaGreatDoor
