/- The logic of walks, and what the functions of the program return: part 5. No condition. -/
import Derived.Test.YtmceekhgnfpamaaGreatDoorB04
set_option linter.all false
namespace Go.Proofs.YtmceekhgnfpamaaGreatDoor
open Go Go.QL FoT
set_option maxHeartbeats 1600000
attribute [local irreducible] ACall FnC zaj
def szW (n : Int) : Int := if n = -9223372036854775808 then n else n.natAbs
theorem znn (n : Int) (h : i64 n) : FnC Tryz.prog 139 [iv .i64 n] (iv .i64 (szW n)) := by
 unfold i64 at h
 unfold szW
 by_cases h0 : n = -9223372036854775808
 ·rw [if_pos h0]
  have hw : IntKind.i64.wrap (0 - n) = n := by rw [h0]; decide
  refine hdC Tryz.func139 Tryz.ntmps139 (res := [.tmp 2]) fun w0 K0 => ?_
  repeat' first | refine zd ?_ | ((first | refine zi ?_ | refine regA ?_ | refine ⟨_, hw, ?_⟩ | fail); conv => whnf) | fail
  exact congrArg (fun x : Int => some (iv .i64 x)) (show (if n > n then n else n) = _ by split <;> rfl)
 ·rw [if_neg h0]
  have hw : IntKind.i64.wrap (0 - n) = -n := by rw [Int.zero_sub]; exact zg (by omega)
  refine hdC Tryz.func139 Tryz.ntmps139 (res := [.tmp 2]) fun w0 K0 => ?_
  repeat' first | refine zd ?_ | ((first | refine zi ?_ | refine regA ?_ | refine ⟨_, hw, ?_⟩ | fail); conv => whnf) | fail
  exact congrArg (fun x : Int => some (iv .i64 x)) (show (if -n > n then -n else n) = _ by split <;> omega)
theorem zrh {a b c d : Int} : eqL [.int .i64 a, .int .i64 b] [.int .i64 c, .int .i64 d] = (decide (a = c) && decide (b = d)) := by
 rw [Bool.eq_iff_iff]; simp [eqL, eqV]
theorem zmG (x : FloT) : (bif eqL [.int .i64 x.mant, .int .i64 x.exp] [.int .i64 0, .int .i64 0] then true else bif !(outB (szW x.mant) 4194304 8388607) then !(outB x.exp (-64) 63) else false) = decide (zG x) := by
 rw [zrh, zcE, zcE, Bool.eq_iff_iff]
 unfold zG szW zeroFl
 obtain ⟨m, e⟩ := x
 simp only [Bool.cond_eq_ite]
 simp
 split <;> omega
theorem zjH (x : FloT) (h : i64 x.mant) : FnC Tryz.prog 91 [flAV x] (bv (decide (zG x))) := by
 rw [← zmG]
 have sz := znn x.mant h
 have o1 := zaL (szW x.mant) 4194304 8388607
 have o2 := zaL x.exp (-64) 63
 generalize szW x.mant = z at *
 generalize outB z 4194304 8388607 = b1 at *
 generalize outB x.exp (-64) 63 = b2 at *
 refine hdC Tryz.func91 Tryz.ntmps91 (res := [.tmp 2]) fun w0 K0 => ?_
 repeat' first | refine zd ?_ | ((first | refine zi ?_ | refine regA ?_ | refine zsp (sz) ?_ | refine zsp (o1) ?_ | refine zsp (o2) ?_ | refine pkA ?_ | fail); conv => whnf) | fail
 rfl
theorem zpu {m : Int} (h : m.natAbs ≤ 8388607) : IntKind.i64.wrap (m * 2 ^ min (Int.toNat 30) IntKind.i64.bits) = m * 1073741824 := by
 show IntKind.i64.wrap (m * 1073741824) = _
 exact zg (by omega)
theorem zoW {k : Nat} (h : k < 60) : (1 : Int) ≤ 2 ^ k ∧ (2 : Int) ^ k ≤ 576460752303423488 := by
 have h1 := Nat.two_pow_pos k
 have h2 : 2 ^ k ≤ 2 ^ 59 := Nat.pow_le_pow_right (by decide) (by omega)
 have e : (2 : Int) ^ k = ((2 ^ k : Nat) : Int) := by push_cast; rfl
 rw [e]
 omega
theorem shl1 {d : Int} (h0 : 0 ≤ d) (h : d < 60) : IntKind.i64.wrap (1 * 2 ^ min d.toNat IntKind.i64.bits) = 2 ^ d.toNat := by
 have e : min d.toNat IntKind.i64.bits = d.toNat := Nat.min_eq_left (by show d.toNat ≤ 64; omega)
 rw [e, Int.one_mul]
 have := zoW (k := d.toNat) (by omega)
 exact zg (by omega)
theorem zlN (a b : FloT) (ha : zau a) (hb' : zau b) (ea : -64 ≤ a.exp ∧ a.exp ≤ 63) (eb : -64 ≤ b.exp ∧ b.exp ≤ 63) : FnC Tryz.prog 140 [flAV a, flAV b] (.t [flAV (zbz a b).1, iv .i64 (zbz a b).2]) := by
 have main : ∀ a b : FloT, zau a → zau b → (-64 ≤ a.exp ∧ a.exp ≤ 63) → (-64 ≤ b.exp ∧ b.exp ≤ 63) → ¬ a.exp < b.exp →
   FnC Tryz.prog 89 [iv .i64 (a.mant * 1073741824 + zbd b.mant (a.exp - b.exp)), iv .i64 (a.exp - 53)] (.t [flAV (zfh a b).1, iv .i64 (zfh a b).2]) ∧
   (-9007198180999168 ≤ zbd b.mant (a.exp - b.exp) ∧ zbd b.mant (a.exp - b.exp) ≤ 9007198180999168) ∧
   (a.exp - b.exp < 60 → IntKind.i64.wrap ((b.mant * 1073741824).tdiv (2 ^ (a.exp - b.exp).toNat)) = zbd b.mant (a.exp - b.exp) ∧ (2 : Int) ^ (a.exp - b.exp).toNat ≠ 0) ∧ (¬ a.exp - b.exp < 60 → zbd b.mant (a.exp - b.exp) = 0) := by
  intro a b ha hb ea eb hab
  have ol := zj7 (d := a.exp - b.exp) hb
  refine ⟨zhw _ _ (zfr ha hb) (by omega), by omega, fun h => ?_, fun h => by unfold zbd; rw [if_neg h]⟩
  have hp := zoW (k := (a.exp - b.exp).toNat) (by omega)
  refine ⟨?_, by omega⟩
  have e : zbd b.mant (a.exp - b.exp) = (b.mant * 1073741824).tdiv (2 ^ (a.exp - b.exp).toNat) := by unfold zbd; rw [if_pos h]
  rw [e] at ol ⊢
  exact zg (by omega)
 unfold zau at ha hb'
 have sa := zpu ha
 have sb := zpu hb'
 unfold zbz
 by_cases a0 : a.mant = 0
 ·rw [if_pos a0]
  refine hdC Tryz.func140 Tryz.ntmps140 (res := [.cell 4 56, .tmp 5]) fun w0 K0 => ?_
  repeat' first | refine zd ?_ | refine zc ?_ | ((first | refine zi ?_ | refine regA ?_ | fail); conv => whnf) | (exact absurd a0 hb) | (refine zso rfl (fun hb => ?_) (fun hb => ?_)) | ((refine andA ?_); conv => whnf) | fail
  rfl
 rw [if_neg a0]
 by_cases b0 : b.mant = 0
 ·rw [if_pos b0]
  refine hdC Tryz.func140 Tryz.ntmps140 (res := [.cell 4 56, .tmp 5]) fun w0 K0 => ?_
  repeat' first | refine zd ?_ | refine zc ?_ | ((first | refine zi ?_ | refine regA ?_ | fail); conv => whnf) | (exact absurd hb a0) | (exact absurd b0 hb) | (refine zso rfl (fun hb => ?_) (fun hb => ?_)) | ((refine andA ?_); conv => whnf) | fail
  rfl
 rw [if_neg b0]
 by_cases hlt : a.exp < b.exp
 ·rw [if_pos hlt]
  obtain ⟨md, o1, o2, o3⟩ := main b a hb' ha eb ea (by omega)
  generalize zfh b a = R at md ⊢
  by_cases h60 : b.exp - a.exp < 60
  ·obtain ⟨q1, q2⟩ := o2 h60
   have s1 := shl1 (d := b.exp - a.exp) (by omega) h60
   generalize zbd a.mant (b.exp - a.exp) = oo at *
   refine hdC Tryz.func140 Tryz.ntmps140 (res := [.cell 4 56, .tmp 5]) fun w0 K0 => ?_
   repeat' first | refine zd ?_ | refine zc ?_ | ((first | refine zf ?_ | refine zi ?_ | refine regA ?_ | refine drA (id := 10) 5 false [0, 1, 3, 0, 8, 31, 63] ?_ | fail); conv => whnf) | (exact absurd hb a0) | (exact absurd hb b0) | exact abA hb | ((first | refine ⟨_, sa, ?_⟩ | refine ⟨_, sb, ?_⟩ | refine ⟨_, s1, ?_⟩ | refine And.intro (zay q2) ?_ | refine ⟨_, q1, ?_⟩ | refine zsn (md) ?_ | fail); conv => whnf) | (refine zso rfl (fun hb => ?_) (fun hb => ?_)) | ((first | refine zsq ?_ | refine andA ?_ | fail); conv => whnf) | fail
   rfl
  ·have o4 := o3 h60
   rw [o4] at md
   refine hdC Tryz.func140 Tryz.ntmps140 (res := [.cell 4 56, .tmp 5]) fun w0 K0 => ?_
   repeat' first | refine zd ?_ | refine zc ?_ | ((first | refine zf ?_ | refine zi ?_ | refine regA ?_ | refine drA (id := 10) 5 false [0, 1, 3, 0, 8, 31, 63] ?_ | fail); conv => whnf) | (exact absurd hb a0) | (exact absurd hb b0) | exact abA hb | ((first | refine ⟨_, sb, ?_⟩ | refine zsn (md) ?_ | fail); conv => whnf) | (refine zso rfl (fun hb => ?_) (fun hb => ?_)) | ((first | refine zsq ?_ | refine andA ?_ | fail); conv => whnf) | fail
   rfl
 ·rw [if_neg hlt]
  obtain ⟨md, o1, o2, o3⟩ := main a b ha hb' ea eb (by omega)
  generalize zfh a b = R at md ⊢
  by_cases h60 : a.exp - b.exp < 60
  ·obtain ⟨q1, q2⟩ := o2 h60
   have s1 := shl1 (d := a.exp - b.exp) (by omega) h60
   generalize zbd b.mant (a.exp - b.exp) = oo at *
   refine hdC Tryz.func140 Tryz.ntmps140 (res := [.cell 4 56, .tmp 5]) fun w0 K0 => ?_
   repeat' first | refine zd ?_ | refine zc ?_ | ((first | refine zf ?_ | refine zi ?_ | refine regA ?_ | refine drA (id := 10) 5 false [0, 1, 3, 0, 8, 31, 63] ?_ | fail); conv => whnf) | (exact absurd hb a0) | (exact absurd hb b0) | exact abA hb | ((first | refine ⟨_, sa, ?_⟩ | refine ⟨_, sb, ?_⟩ | refine ⟨_, s1, ?_⟩ | refine And.intro (zay q2) ?_ | refine ⟨_, q1, ?_⟩ | refine zsn (md) ?_ | fail); conv => whnf) | (refine zso rfl (fun hb => ?_) (fun hb => ?_)) | ((first | refine zsq ?_ | refine andA ?_ | fail); conv => whnf) | fail
   rfl
  ·have o4 := o3 h60
   rw [o4] at md
   refine hdC Tryz.func140 Tryz.ntmps140 (res := [.cell 4 56, .tmp 5]) fun w0 K0 => ?_
   repeat' first | refine zd ?_ | refine zc ?_ | ((first | refine zf ?_ | refine zi ?_ | refine regA ?_ | refine drA (id := 10) 5 false [0, 1, 3, 0, 8, 31, 63] ?_ | fail); conv => whnf) | (exact absurd hb a0) | (exact absurd hb b0) | exact abA hb | ((first | refine ⟨_, sa, ?_⟩ | refine zsn (md) ?_ | fail); conv => whnf) | (refine zso rfl (fun hb => ?_) (fun hb => ?_)) | ((first | refine zsq ?_ | refine andA ?_ | fail); conv => whnf) | fail
   rfl
theorem zoo (a b : FloT) (ha : zau a) (hb' : zau b) (ea : -64 ≤ a.exp ∧ a.exp ≤ 63) (eb : -64 ≤ b.exp ∧ b.exp ≤ 63) : FnC Tryz.prog 141 [flAV a, flAV b] (.t [flAV (stepM 4 a b).1, iv .i64 (stepM 4 a b).2]) := by
 have hp := zlN a ⟨-b.mant, b.exp⟩ ha (by unfold zau at *; dsimp only; omega) ea eb
 rw [show stepM 4 a b = zbz a ⟨-b.mant, b.exp⟩ from rfl]
 generalize zbz a ⟨-b.mant, b.exp⟩ = R at *
 unfold zau at hb'
 have hw : IntKind.i64.wrap (0 - b.mant) = -b.mant := by rw [Int.zero_sub]; exact zg (by omega)
 refine hdC Tryz.func141 Tryz.ntmps141 (res := [.cell 4 56, .tmp 5]) fun w0 K0 => ?_
 repeat' first | refine zd ?_ | ((first | refine zi ?_ | refine regA ?_ | refine ⟨_, hw, ?_⟩ | refine zsn (hp) ?_ | refine andA ?_ | fail); conv => whnf) | fail
 rfl
theorem zon (a b : FloT) (ha : zau a) (hb' : zau b) (ea : -64 ≤ a.exp ∧ a.exp ≤ 63) (eb : -64 ≤ b.exp ∧ b.exp ≤ 63) : FnC Tryz.prog 142 [flAV a, flAV b] (.t [flAV (stepM 5 a b).1, iv .i64 (stepM 5 a b).2]) := by
 have hl := zik ha hb'
 have hp := zhw (a.mant * b.mant) (a.exp + b.exp - 46) hl (by omega)
 rw [show stepM 5 a b = zaj (a.mant * b.mant) (a.exp + b.exp - 46) from rfl]
 generalize zaj (a.mant * b.mant) (a.exp + b.exp - 46) = R at *
 have hw : IntKind.i64.wrap (a.mant * b.mant) = a.mant * b.mant := zg (by omega)
 refine hdC Tryz.func142 Tryz.ntmps142 (res := [.cell 4 56, .tmp 5]) fun w0 K0 => ?_
 repeat' first | refine zd ?_ | ((first | refine zi ?_ | refine regA ?_ | refine ⟨_, hw, ?_⟩ | refine zsn (hp) ?_ | refine zsq ?_ | refine andA ?_ | fail); conv => whnf) | fail
 rfl
theorem zom (a b : FloT) (ha : zau a) (hb' : zau b) (ea : -64 ≤ a.exp ∧ a.exp ≤ 63) (eb : -64 ≤ b.exp ∧ b.exp ≤ 63) : FnC Tryz.prog 143 [flAV a, flAV b] (.t [flAV (stepM 6 a b).1, iv .i64 (stepM 6 a b).2]) := by
 have hl := zkq (b := b) ha
 have hp := zhw ((a.mant * 1073741824).tdiv b.mant) (a.exp - b.exp - 30) hl (by omega)
 rw [show stepM 6 a b = if b.mant = 0 then (zeroFl, 8) else zaj ((a.mant * 1073741824).tdiv b.mant) (a.exp - b.exp - 30) from rfl]
 unfold zau at ha
 have sa := zpu ha
 by_cases b0 : b.mant = 0
 ·rw [if_pos b0]
  refine hdC Tryz.func143 Tryz.ntmps143 (res := [.cell 4 56, .tmp 5]) fun w0 K0 => ?_
  repeat' first | refine zd ?_ | ((first | refine zf ?_ | refine zi ?_ | refine regA ?_ | refine drA (id := 3) 15 false [0, 1, 3, 0, 8, 31, 0, 64, 0, 256, 960, 1984, 4095, 8191, 8191, 32767, 65535] ?_ | fail); conv => whnf) | (exact absurd b0 hb) | (refine zso rfl (fun hb => ?_) (fun hb => ?_)) | ((refine andA ?_); conv => whnf) | fail
  rfl
 ·rw [if_neg b0]
  have hw : IntKind.i64.wrap ((a.mant * 1073741824).tdiv b.mant) = (a.mant * 1073741824).tdiv b.mant := zg (by omega)
  generalize zaj ((a.mant * 1073741824).tdiv b.mant) (a.exp - b.exp - 30) = R at *
  refine hdC Tryz.func143 Tryz.ntmps143 (res := [.cell 4 56, .tmp 5]) fun w0 K0 => ?_
  repeat' first | refine zd ?_ | ((first | refine zf ?_ | refine zi ?_ | refine regA ?_ | refine drA (id := 3) 15 false [0, 1, 3, 0, 8, 31, 0, 64, 0, 256, 960, 1984, 4095, 8191, 8191, 32767, 65535] ?_ | fail); conv => whnf) | (exact absurd hb b0) | ((first | refine ⟨_, sa, ?_⟩ | refine And.intro (zay b0) ?_ | refine ⟨_, hw, ?_⟩ | refine zsp (hp) ?_ | fail); conv => whnf) | (refine zso rfl (fun hb => ?_) (fun hb => ?_)) | ((first | refine zsq ?_ | refine andA ?_ | fail); conv => whnf) | fail
  rfl
def zbc (op : Int) : AV := if op = 3 then .x (.f (.func 140) [] []) else if op = 4 then .x (.f (.func 141) [] []) else if op = 5 then .x (.f (.func 142) [] []) else if op = 6 then .x (.f (.func 143) [] []) else .x (.d (.v .nilFunc))
theorem zmP (op : Int) (σ : Sg) : ACall Tryz.prog 92 [iv .i64 op] σ (fun r σ' => r = zbc op ∧ σ' = σ) := by
 unfold zbc
 refine zcN hTt Tryz.func92 rfl (by kernel_rfl) (res := [.tmp 2]) rfl Tryz.ntmps92 (by simp) fun w0 K0 B => ?_
 dsimp only [entry]
 by_cases h3 : op = 3
 ·rw [if_pos h3]
  repeat' first | refine zd ?_ | refine zc ?_ | ((first | refine zi ?_ | refine regA ?_ | fail); conv => whnf) | exact abA hb | (refine zso rfl (fun hb => ?_) (fun hb => ?_)) | fail
  exact ⟨_, rfl, rfl, rfl⟩
 rw [if_neg h3]
 by_cases h4 : op = 4
 ·rw [if_pos h4]
  repeat' first | refine zd ?_ | refine zc ?_ | ((first | refine zi ?_ | refine regA ?_ | fail); conv => whnf) | exact abA hb | (refine zso rfl (fun hb => ?_) (fun hb => ?_)) | fail
  exact ⟨_, rfl, rfl, rfl⟩
 rw [if_neg h4]
 by_cases h5 : op = 5
 ·rw [if_pos h5]
  repeat' first | refine zd ?_ | refine zc ?_ | ((first | refine zi ?_ | refine regA ?_ | fail); conv => whnf) | exact abA hb | (refine zso rfl (fun hb => ?_) (fun hb => ?_)) | fail
  exact ⟨_, rfl, rfl, rfl⟩
 rw [if_neg h5]
 by_cases h6 : op = 6
 ·rw [if_pos h6]
  repeat' first | refine zd ?_ | refine zc ?_ | ((first | refine zf ?_ | refine zi ?_ | refine regA ?_ | fail); conv => whnf) | exact abA hb | (refine zso rfl (fun hb => ?_) (fun hb => ?_)) | fail
  exact ⟨_, rfl, rfl, rfl⟩
 rw [if_neg h6]
 repeat' first | refine zd ?_ | refine zc ?_ | ((first | refine zf ?_ | refine zi ?_ | refine regA ?_ | fail); conv => whnf) | exact abA hb | (refine zso rfl (fun hb => ?_) (fun hb => ?_)) | fail
 exact ⟨_, rfl, rfl, rfl⟩
end Go.Proofs.YtmceekhgnfpamaaGreatDoor
namespace Go.Proofs.YtmceekhgnfpamaaGreatDoor
open Go Go.QL FoT
set_option maxHeartbeats 3200000
attribute [local irreducible] ACall FnC zaj FoT.stepM zG
abbrev cAV (x : List FloT × Int × Int) : AV := .t [zdT x.1, iv .i64 x.2.1, iv .i64 x.2.2]
theorem leN3 {sz : Nat} {x y : AV} : LeAV (.t [.x (.d (.v (.slice none 0 0))), x, y]) (.t [.x (.d (.s sz [])), x, y]) := ⟨_, rfl, LeAV1.nil _, LeAV1.refl _, LeAV1.refl _, trivial⟩
theorem zgv : ∀ (l : List FloT) (i j : Nat), (∀ k (h : k < l.length), k < i → zG l[k]) → i ≤ l.length → za8 l j = za8 (l.drop i) (j + i)
 | l, 0, j, _, _ => rfl
 | [], i + 1, j, _, h => by simp at h
 | x :: r, i + 1, j, h, hl => by
  have h0 : zG x := h 0 (by simp) (by omega)
  rw [za8, if_pos h0, zgv r i (j + 1) (fun k hk hki => h (k + 1) (by simpa using hk) (by omega)) (by simpa using hl), List.drop_succ_cons]
  congr 1
  omega
theorem zeD : ∀ (n : Int) (l : List StepT) (i j : Nat), (∀ k (h : k < l.length), k < i → zaA n l[k] = 0) → i ≤ l.length → zag n l j = zag n (l.drop i) (j + i)
 | n, l, 0, j, _, _ => rfl
 | n, [], i + 1, j, _, h => by simp at h
 | n, x :: r, i + 1, j, h, hl => by
  have h0 : zaA n x = 0 := h 0 (by simp) (by omega)
  rw [zag, if_pos h0, zeD n r i (j + 1) (fun k hk hki => h (k + 1) (by simpa using hk) (by omega)) (by simpa using hl), List.drop_succ_cons]
  congr 1
  omega
abbrev zoC (regs : List FloT) (steps : List StepT) : Prop := ¬ (¬ (1 ≤ regs.length ∧ regs.length ≤ 8) ∨ 40 < steps.length)
theorem zpr {n : Int} {s : StepT} (h : zaA n s = 0) : (s.op = 3 ∨ s.op = 4 ∨ s.op = 5 ∨ s.op = 6) ∧ 0 ≤ s.a ∧ s.a < n ∧ 0 ≤ s.b ∧ s.b < n ∧ 0 ≤ s.to ∧ s.to < n := by
 unfold zaA at h
 by_cases h1 : s.op < 3 ∨ 6 < s.op
 ·rw [if_pos h1] at h; cases h
 rw [if_neg h1] at h
 by_cases h2 : 0 ≤ s.a ∧ s.a < n ∧ 0 ≤ s.b ∧ s.b < n ∧ 0 ≤ s.to ∧ s.to < n
 ·exact ⟨by omega, h2⟩
 ·rw [if_neg h2] at h; cases h
theorem zjX {op : Int} {f : FuncId} (h : (op = 3 ∧ f = 140) ∨ (op = 4 ∧ f = 141) ∨ (op = 5 ∧ f = 142) ∨ (op = 6 ∧ f = 143)) {a b : FloT} (ha : zG a) (hb : zG b) :
  FnC Tryz.prog f [flAV a, flAV b] (.t [flAV (FoT.stepM op a b).1, iv .i64 (FoT.stepM op a b).2]) := by
 have a1 := zI ha
 have b1 := zI hb
 have a2 := zb6 ha
 have b2 := zb6 hb
 rcases h with ⟨rfl, rfl⟩ | ⟨rfl, rfl⟩ | ⟨rfl, rfl⟩ | ⟨rfl, rfl⟩
 ·have := zlN a b a1 b1 a2 b2
  rw [show zbz a b = FoT.stepM 3 a b by unfold FoT.stepM; rw [if_pos rfl]] at this
  exact this
 ·exact zoo a b a1 b1 a2 b2
 ·exact zon a b a1 b1 a2 b2
 ·exact zom a b a1 b1 a2 b2
theorem zr0 {tt : TT} {a b e : Tmp} {fr : Fr} {σ : Sg} {c st n : Nat} {ty : TypeId} {sz : Nat} {xs : List (List PV)} {p q : PV} (h1 : lk a fr = some (.x (.o c st n))) (h2 : lk b fr = some (.x (.d p))) (h2' : lk e fr = some (.x (.d q))) (h3 : lk c σ = some (.chain ty sz st xs)) (h4 : n ≤ xs.length) :
  za6 tt [.tmp a, .tmp b, .tmp e] fr σ = some (.t [.x (.d (.s sz (xs.take n))), .x (.d p), .x (.d q)]) := by
 simp [za6, zbY, zhp, h1, h2, h2', zd1, zbV, zbW, zbq, h3, h4]
theorem lcE {sz : Nat} {xs ys : List (List PV)} {x y : AV} (h : xs = ys) : LeAV (.t [.x (.d (.s sz xs)), x, y]) (.t [.x (.d (.s sz ys)), x, y]) := by rw [h]; exact LeAV.refl _
theorem zsb {regs : List FloT} {steps : List StepT} (h0 : zoC regs steps) {i : Nat} (h : za8 regs 0 = some i) : zaC regs steps = ([], (i : Int), 7) := by
 unfold zaC; rw [if_neg h0, h]
theorem zsa {regs : List FloT} {steps : List StepT} (h0 : zoC regs steps) (h : za8 regs 0 = none) {i : Nat} {e : Int} (h2 : zag regs.length steps 0 = some (i, e)) : zaC regs steps = ([], (i : Int), e) := by
 unfold zaC; rw [if_neg h0, h]; dsimp only; rw [h2]
theorem zoB {regs : List FloT} {steps : List StepT} (h0 : zoC regs steps) (h : za8 regs 0 = none) (h2 : zag regs.length steps 0 = none) {i : Nat} {e : Int} (h3 : runS steps 0 regs = .error (i, e)) : zaC regs steps = ([], (i : Int), e) := by
 unfold zaC; rw [if_neg h0, h]; dsimp only; rw [h2]; dsimp only; rw [h3]
theorem zr9 {regs : List FloT} {steps : List StepT} (h0 : zoC regs steps) (h : za8 regs 0 = none) (h2 : zag regs.length steps 0 = none) {l : List FloT} (h3 : runS steps 0 regs = .ok l) : zaC regs steps = (l, 0, 0) := by
 unfold zaC; rw [if_neg h0, h]; dsimp only; rw [h2]; dsimp only; rw [h3]
theorem za5 (regs : List FloT) (steps : List StepT) (hr64 : ∀ x ∈ regs, i64 x.mant) : FnC Tryz.prog 32 [zdT regs, zhW steps] (cAV (zaC regs steps)) := by
 have hlr : (regs.map flPV).length = regs.length := List.length_map _
 have hls : (steps.map stPV).length = steps.length := List.length_map _
 have o1 := zaL ((regs.map flPV).length : Int) 1 8
 by_cases h0 : ¬ (1 ≤ regs.length ∧ regs.length ≤ 8) ∨ 40 < steps.length
 ·rw [show zaC regs steps = ([], 0, 3) by unfold zaC; rw [if_pos h0]]
  have hc : (bif outB ((regs.map flPV).length : Int) 1 8 then true else decide (((steps.map stPV).length : Int) > 40)) = true := by
   cases ho : outB ((regs.map flPV).length : Int) 1 8 with
   | true => rfl
   | false =>
    have := zQ.1 ho
    exact decide_eq_true (by omega)
  generalize outB ((regs.map flPV).length : Int) 1 8 = b1 at *
  refine zg7 hTt Tryz.func32 rfl (by kernel_rfl) (res := [.tmp 4, .tmp 5, .tmp 6]) rfl Tryz.ntmps32 (by simp) fun w0 K0 => ?_
  dsimp only [entry]
  repeat' first | refine zd ?_ | ((first | refine zi ?_ | refine regA ?_ | refine zsn (o1) ?_ | fail); conv => whnf) | (refine za rfl (fun _ => ?_) (zaf hc)) | ((refine andA ?_); conv => whnf) | (refine lnA fun hln => ?_; conv => whnf) | fail
  exact ⟨_, rfl, leN3⟩
 ·have hn : (1 ≤ regs.length ∧ regs.length ≤ 8) ∧ steps.length ≤ 40 := by rw [not_or, Classical.not_not] at h0; exact ⟨h0.1, by omega⟩
  rw [zQ.2 (by omega)] at o1
  have hc : (bif false then true else decide (((steps.map stPV).length : Int) > 40)) = false := decide_eq_false (by omega)
  refine zg7 hTt Tryz.func32 rfl (by kernel_rfl) (res := [.tmp 4, .tmp 5, .tmp 6]) rfl Tryz.ntmps32 (by simp) fun w0 K0 => ?_
  dsimp only [entry]
  repeat' first | refine zd ?_ | refine zc ?_ | ((first | refine zf ?_ | refine regA ?_ | refine zsn (o1) ?_ | fail); conv => whnf) | (refine za rfl (zM hc) (fun _ => ?_)) | ((refine andA ?_); conv => whnf) | (refine lnA fun hln => ?_; conv => whnf) | fail
  refine zaq (Imp.nil 4 56 2 (fr' := [(4, .x (.o 4 0 0)), (26, iv .i64 0), (25, iv .i64 regs.length), (24, zdT regs), (0, zdT regs), (1, zhW steps)]) (σ' := []) rfl ?_ ?_ rfl rfl) ?_
  ·exact ⟨⟨_, rfl, .inr ⟨rfl, rfl⟩⟩, ⟨_, rfl, .inl rfl⟩, ⟨_, congrArg (fun k : Nat => some (iv .i64 k)) hlr, .inl rfl⟩, ⟨_, rfl, .inl rfl⟩, ⟨_, rfl, .inl rfl⟩, ⟨_, rfl, .inl rfl⟩, trivial⟩
  ·exact trivial
  clear hc
  refine zJ (fun i : Nat => [(4, .x (.o 4 i i)), (26, iv .i64 i), (25, iv .i64 regs.length), (24, zdT regs), (0, zdT regs), (1, zhW steps)])
   (fun i => [(4, .chain 56 2 i ((regs.take i).map flPV))]) (fun i => i ≤ regs.length ∧ ∀ k (h : k < regs.length), k < i → zG regs[k]) (fun i => regs.length - i) 0 ⟨Nat.zero_le _, fun k _ h => absurd h (Nat.not_lt_zero _)⟩ impA ?_
  rintro i ⟨hi, hfl⟩
  have hil0 : ((regs.take i).map flPV).length = i := by rw [List.length_map, List.length_take, Nat.min_eq_left hi]
  rcases Nat.lt_or_ge i regs.length with hil | hil
  ·have ff := zjH regs[i] (hr64 _ (List.getElem_mem hil))
   by_cases hfi : zG regs[i]
   ·rw [decide_eq_true hfi] at ff
    have e : ((regs.take i).map flPV).take i ++ [flPV regs[i]] = (regs.take (i + 1)).map flPV := by
     rw [List.take_of_length_le (by omega), List.take_add_one, List.getElem?_eq_getElem hil, List.map_append]; rfl
    repeat' first | refine zd ?_ | refine zc ?_ | ((first | refine zf ?_ | refine zk ?_ | refine regA ?_ | fail); conv => whnf) | exact abA hb | ((refine zsn (ff) ?_); conv => whnf) | (refine zss rfl ?_) | (refine zso rfl (fun hb => ?_) (fun hb => ?_)) | ((first | refine zsq ?_ | refine andA ?_ | with_reducible refine exA fun _ => ?_ | fail); conv => whnf) | ((refine And.intro (by refine ⟨?_, ?_, ?_⟩ <;> simp [zO, maxLen] <;> omega) ?_); conv => whnf) | fail
    exact ⟨i + 1, ⟨by omega, fun k h hk => by
     by_cases e : k = i
     ·subst e; exact hfi
     ·exact hfl k h (by omega)⟩, by omega, impA⟩
   ·rw [decide_eq_false hfi] at ff
    have hb7 : za8 regs 0 = some i := by
     rw [zgv regs i 0 hfl hi, List.drop_eq_getElem_cons hil, za8, if_neg hfi, Nat.zero_add]
    rw [zsb h0 hb7]
    repeat' first | refine zd ?_ | refine zc ?_ | ((first | refine zf ?_ | refine zk ?_ | refine zi ?_ | refine regA ?_ | fail); conv => whnf) | exact abA hb | ((refine zsn (ff) ?_); conv => whnf) | (refine zst rfl ?_) | (refine zso rfl (fun hb => ?_) (fun hb => ?_)) | ((first | refine andA ?_ | with_reducible refine exA fun _ => ?_ | fail); conv => whnf) | fail
    exact ⟨_, rfl, leN3⟩
  ·have hie : i = regs.length := by omega
   subst hie
   have hall : ∀ x ∈ regs, zG x := fun x hx => by
    obtain ⟨k, hk, rfl⟩ := List.getElem_of_mem hx
    exact hfl k hk hk
   have hbr : za8 regs 0 = none := zbk.2 hall
   rw [List.take_length] at hil0
   repeat' first | refine zd ?_ | refine zc ?_ | ((first | refine zf ?_ | refine zk ?_ | refine regA ?_ | fail); conv => whnf) | exact abA hb | (refine zso rfl (fun hb => ?_) (fun hb => ?_)) | (refine lnA fun hln => ?_; conv => whnf) | fail
   refine zJ (fun i : Nat => [(4, .x (.o 4 regs.length regs.length)), (42, iv .i64 i), (41, iv .i64 steps.length), (40, zhW steps), (0, zdT regs), (1, zhW steps)])
    (fun i => [(4, .chain 56 2 regs.length (regs.map flPV))]) (fun i => i ≤ steps.length ∧ ∀ k (h : k < steps.length), k < i → zaA regs.length steps[k] = 0) (fun i => steps.length - i) 0 ⟨Nat.zero_le _, fun k _ h => absurd h (Nat.not_lt_zero _)⟩ (impX (by repeat' (first | exact trivial | refine And.intro ?_ ?_ | exact chE (by rw [List.take_length]) | exact zsw))) ?_
   rintro i ⟨hi, hok⟩
   rcases Nat.lt_or_ge i steps.length with hil | hil
   ·have hbs := zeD regs.length steps i 0 hok hi
    rw [List.drop_eq_getElem_cons hil, zag, Nat.zero_add] at hbs
    have hd := zmP steps[i].op
    have oa := zaL steps[i].a 0 (((regs.map flPV).length : Int) - 1)
    have ob := zaL steps[i].b 0 (((regs.map flPV).length : Int) - 1)
    have ot := zaL steps[i].to 0 (((regs.map flPV).length : Int) - 1)
    by_cases hz : zaA regs.length steps[i] = 0
    ·have hz' := hz
     unfold zaA at hz'
     have hop : ¬ (steps[i].op < 3 ∨ 6 < steps[i].op) := fun h => by rw [if_pos h] at hz'; cases hz'
     rw [if_neg hop] at hz'
     have hab : 0 ≤ steps[i].a ∧ steps[i].a < (regs.length : Int) ∧ 0 ≤ steps[i].b ∧ steps[i].b < (regs.length : Int) ∧ 0 ≤ steps[i].to ∧ steps[i].to < (regs.length : Int) := by
      by_cases h : 0 ≤ steps[i].a ∧ steps[i].a < (regs.length : Int) ∧ 0 ≤ steps[i].b ∧ steps[i].b < (regs.length : Int) ∧ 0 ≤ steps[i].to ∧ steps[i].to < (regs.length : Int)
      ·exact h
      ·rw [if_neg h] at hz'; cases hz'
     rw [zQ.2 (by omega)] at oa ob ot
     clear hbs hz'
     have hkk : steps[i].op = 3 ∨ steps[i].op = 4 ∨ steps[i].op = 5 ∨ steps[i].op = 6 := by omega
     have nxt : ∀ k (h : k < steps.length), k < i + 1 → zaA regs.length steps[k] = 0 := fun k h hk => by
      by_cases e : k = i
      ·subst e; exact hz
      ·exact hok k h (by omega)
     rcases hkk with hkk | hkk | hkk | hkk
     ·rw [show zbc steps[i].op = .x (.f (.func 140) [] []) by unfold zbc; rw [if_pos hkk]] at hd
      repeat' first | ((with_reducible refine zH hTt (id := 14) ?_); conv => whnf) | refine zd ?_ | refine zc ?_ | ((first | refine zf ?_ | refine zk ?_ | refine regA ?_ | fail); conv => whnf) | exact abA hb | ((refine ⟨_, _, (hd _).toP, ?_, ?_⟩) <;> first | (rintro _ _ ⟨rfl, rfl⟩; conv => whnf) | (exact fun _ _ h => h.elim)) | (refine And.intro ⟨_, _, _, Tryz.underlying145⟩ ?_; conv => whnf) | ((first | refine zsn (oa) ?_ | refine zsp (ob) ?_ | refine zsp (ot) ?_ | fail); conv => whnf) | (refine zss rfl ?_) | (refine zso rfl (fun hb => ?_) (fun hb => ?_)) | ((first | refine zsq ?_ | refine andA ?_ | with_reducible refine exA fun _ => ?_ | fail); conv => whnf) | (refine lnA fun hln => ?_; conv => whnf) | fail
      exact ⟨i + 1, ⟨by omega, nxt⟩, by omega, impA⟩
     ·rw [show zbc steps[i].op = .x (.f (.func 141) [] []) by unfold zbc; rw [if_neg (by omega), if_pos hkk]] at hd
      repeat' first | ((with_reducible refine zH hTt (id := 14) ?_); conv => whnf) | refine zd ?_ | refine zc ?_ | ((first | refine zf ?_ | refine zk ?_ | refine regA ?_ | fail); conv => whnf) | exact abA hb | ((refine ⟨_, _, (hd _).toP, ?_, ?_⟩) <;> first | (rintro _ _ ⟨rfl, rfl⟩; conv => whnf) | (exact fun _ _ h => h.elim)) | (refine And.intro ⟨_, _, _, Tryz.underlying145⟩ ?_; conv => whnf) | ((first | refine zsn (oa) ?_ | refine zsp (ob) ?_ | refine zsp (ot) ?_ | fail); conv => whnf) | (refine zss rfl ?_) | (refine zso rfl (fun hb => ?_) (fun hb => ?_)) | ((first | refine zsq ?_ | refine andA ?_ | with_reducible refine exA fun _ => ?_ | fail); conv => whnf) | (refine lnA fun hln => ?_; conv => whnf) | fail
      exact ⟨i + 1, ⟨by omega, nxt⟩, by omega, impA⟩
     ·rw [show zbc steps[i].op = .x (.f (.func 142) [] []) by unfold zbc; rw [if_neg (by omega), if_neg (by omega), if_pos hkk]] at hd
      repeat' first | ((with_reducible refine zH hTt (id := 14) ?_); conv => whnf) | refine zd ?_ | refine zc ?_ | ((first | refine zf ?_ | refine zk ?_ | refine regA ?_ | fail); conv => whnf) | exact abA hb | ((refine ⟨_, _, (hd _).toP, ?_, ?_⟩) <;> first | (rintro _ _ ⟨rfl, rfl⟩; conv => whnf) | (exact fun _ _ h => h.elim)) | (refine And.intro ⟨_, _, _, Tryz.underlying145⟩ ?_; conv => whnf) | ((first | refine zsn (oa) ?_ | refine zsp (ob) ?_ | refine zsp (ot) ?_ | fail); conv => whnf) | (refine zss rfl ?_) | (refine zso rfl (fun hb => ?_) (fun hb => ?_)) | ((first | refine zsq ?_ | refine andA ?_ | with_reducible refine exA fun _ => ?_ | fail); conv => whnf) | (refine lnA fun hln => ?_; conv => whnf) | fail
      exact ⟨i + 1, ⟨by omega, nxt⟩, by omega, impA⟩
     ·rw [show zbc steps[i].op = .x (.f (.func 143) [] []) by unfold zbc; rw [if_neg (by omega), if_neg (by omega), if_neg (by omega), if_pos hkk]] at hd
      repeat' first | ((with_reducible refine zH hTt (id := 14) ?_); conv => whnf) | refine zd ?_ | refine zc ?_ | ((first | refine zf ?_ | refine zk ?_ | refine regA ?_ | fail); conv => whnf) | exact abA hb | ((refine ⟨_, _, (hd _).toP, ?_, ?_⟩) <;> first | (rintro _ _ ⟨rfl, rfl⟩; conv => whnf) | (exact fun _ _ h => h.elim)) | (refine And.intro ⟨_, _, _, Tryz.underlying145⟩ ?_; conv => whnf) | ((first | refine zsn (oa) ?_ | refine zsp (ob) ?_ | refine zsp (ot) ?_ | fail); conv => whnf) | (refine zss rfl ?_) | (refine zso rfl (fun hb => ?_) (fun hb => ?_)) | ((first | refine zsq ?_ | refine andA ?_ | with_reducible refine exA fun _ => ?_ | fail); conv => whnf) | (refine lnA fun hln => ?_; conv => whnf) | fail
      exact ⟨i + 1, ⟨by omega, nxt⟩, by omega, impA⟩
    ·rw [if_neg hz] at hbs
     rw [zsa h0 hbr hbs]
     by_cases hop : steps[i].op < 3 ∨ 6 < steps[i].op
     ·rw [show zaA regs.length steps[i] = 2 by unfold zaA; rw [if_pos hop]]
      rw [show zbc steps[i].op = .x (.d (.v .nilFunc)) by unfold zbc; rw [if_neg (by omega), if_neg (by omega), if_neg (by omega), if_neg (by omega)]] at hd
      repeat' first | ((with_reducible refine zH hTt (id := 14) ?_); conv => whnf) | refine zd ?_ | refine zc ?_ | ((first | refine zf ?_ | refine zk ?_ | refine zi ?_ | refine regA ?_ | fail); conv => whnf) | exact abA hb | ((refine ⟨_, _, (hd _).toP, ?_, ?_⟩) <;> first | (rintro _ _ ⟨rfl, rfl⟩; conv => whnf) | (exact fun _ _ h => h.elim)) | (refine And.intro ⟨_, _, _, Tryz.underlying145⟩ ?_; conv => whnf) | (refine zst rfl ?_) | (refine zso rfl (fun hb => ?_) (fun hb => ?_)) | ((first | refine zsq ?_ | refine andA ?_ | with_reducible refine exA fun _ => ?_ | fail); conv => whnf) | (refine lnA fun hln => ?_; conv => whnf) | fail
      exact ⟨_, rfl, leN3⟩
     ·have hab : ¬ (0 ≤ steps[i].a ∧ steps[i].a < (regs.length : Int) ∧ 0 ≤ steps[i].b ∧ steps[i].b < (regs.length : Int) ∧ 0 ≤ steps[i].to ∧ steps[i].to < (regs.length : Int)) := fun h => hz (by unfold zaA; rw [if_neg hop, if_pos h])
      rw [show zaA regs.length steps[i] = 4 by unfold zaA; rw [if_neg hop, if_neg hab]]
      have hc : (bif (bif outB steps[i].a 0 (((regs.map flPV).length : Int) - 1) then true else outB steps[i].b 0 (((regs.map flPV).length : Int) - 1)) then true else outB steps[i].to 0 (((regs.map flPV).length : Int) - 1)) = true := by
       rw [zcE, zcE, zcE]
       simp only [Bool.cond_eq_ite]
       simp
       omega
      generalize outB steps[i].a 0 (((regs.map flPV).length : Int) - 1) = ba at oa hc
      generalize outB steps[i].b 0 (((regs.map flPV).length : Int) - 1) = bb at ob hc
      generalize outB steps[i].to 0 (((regs.map flPV).length : Int) - 1) = bt at ot hc
      clear hz hbs
      have hkk : steps[i].op = 3 ∨ steps[i].op = 4 ∨ steps[i].op = 5 ∨ steps[i].op = 6 := by omega
      rcases hkk with hkk | hkk | hkk | hkk
      ·rw [show zbc steps[i].op = .x (.f (.func 140) [] []) by unfold zbc; rw [if_pos hkk]] at hd
       repeat' first | ((with_reducible refine zH hTt (id := 14) ?_); conv => whnf) | refine zd ?_ | refine zc ?_ | ((first | refine zf ?_ | refine zk ?_ | refine zi ?_ | refine regA ?_ | fail); conv => whnf) | exact abA hb | ((refine ⟨_, _, (hd _).toP, ?_, ?_⟩) <;> first | (rintro _ _ ⟨rfl, rfl⟩; conv => whnf) | (exact fun _ _ h => h.elim)) | (refine And.intro ⟨_, _, _, Tryz.underlying145⟩ ?_; conv => whnf) | ((first | refine zsn (oa) ?_ | refine zsp (ob) ?_ | refine zsp (ot) ?_ | fail); conv => whnf) | (refine za rfl (fun _ => ?_) (zaf hc)) | (refine zss rfl ?_) | (refine zso rfl (fun hb => ?_) (fun hb => ?_)) | ((first | refine zsq ?_ | refine andA ?_ | with_reducible refine exA fun _ => ?_ | fail); conv => whnf) | (refine lnA fun hln => ?_; conv => whnf) | fail
       exact ⟨_, rfl, leN3⟩
      ·rw [show zbc steps[i].op = .x (.f (.func 141) [] []) by unfold zbc; rw [if_neg (by omega), if_pos hkk]] at hd
       repeat' first | ((with_reducible refine zH hTt (id := 14) ?_); conv => whnf) | refine zd ?_ | refine zc ?_ | ((first | refine zf ?_ | refine zk ?_ | refine zi ?_ | refine regA ?_ | fail); conv => whnf) | exact abA hb | ((refine ⟨_, _, (hd _).toP, ?_, ?_⟩) <;> first | (rintro _ _ ⟨rfl, rfl⟩; conv => whnf) | (exact fun _ _ h => h.elim)) | (refine And.intro ⟨_, _, _, Tryz.underlying145⟩ ?_; conv => whnf) | ((first | refine zsn (oa) ?_ | refine zsp (ob) ?_ | refine zsp (ot) ?_ | fail); conv => whnf) | (refine za rfl (fun _ => ?_) (zaf hc)) | (refine zss rfl ?_) | (refine zso rfl (fun hb => ?_) (fun hb => ?_)) | ((first | refine zsq ?_ | refine andA ?_ | with_reducible refine exA fun _ => ?_ | fail); conv => whnf) | (refine lnA fun hln => ?_; conv => whnf) | fail
       exact ⟨_, rfl, leN3⟩
      ·rw [show zbc steps[i].op = .x (.f (.func 142) [] []) by unfold zbc; rw [if_neg (by omega), if_neg (by omega), if_pos hkk]] at hd
       repeat' first | ((with_reducible refine zH hTt (id := 14) ?_); conv => whnf) | refine zd ?_ | refine zc ?_ | ((first | refine zf ?_ | refine zk ?_ | refine zi ?_ | refine regA ?_ | fail); conv => whnf) | exact abA hb | ((refine ⟨_, _, (hd _).toP, ?_, ?_⟩) <;> first | (rintro _ _ ⟨rfl, rfl⟩; conv => whnf) | (exact fun _ _ h => h.elim)) | (refine And.intro ⟨_, _, _, Tryz.underlying145⟩ ?_; conv => whnf) | ((first | refine zsn (oa) ?_ | refine zsp (ob) ?_ | refine zsp (ot) ?_ | fail); conv => whnf) | (refine za rfl (fun _ => ?_) (zaf hc)) | (refine zss rfl ?_) | (refine zso rfl (fun hb => ?_) (fun hb => ?_)) | ((first | refine zsq ?_ | refine andA ?_ | with_reducible refine exA fun _ => ?_ | fail); conv => whnf) | (refine lnA fun hln => ?_; conv => whnf) | fail
       exact ⟨_, rfl, leN3⟩
      ·rw [show zbc steps[i].op = .x (.f (.func 143) [] []) by unfold zbc; rw [if_neg (by omega), if_neg (by omega), if_neg (by omega), if_pos hkk]] at hd
       repeat' first | ((with_reducible refine zH hTt (id := 14) ?_); conv => whnf) | refine zd ?_ | refine zc ?_ | ((first | refine zf ?_ | refine zk ?_ | refine zi ?_ | refine regA ?_ | fail); conv => whnf) | exact abA hb | ((refine ⟨_, _, (hd _).toP, ?_, ?_⟩) <;> first | (rintro _ _ ⟨rfl, rfl⟩; conv => whnf) | (exact fun _ _ h => h.elim)) | (refine And.intro ⟨_, _, _, Tryz.underlying145⟩ ?_; conv => whnf) | ((first | refine zsn (oa) ?_ | refine zsp (ob) ?_ | refine zsp (ot) ?_ | fail); conv => whnf) | (refine za rfl (fun _ => ?_) (zaf hc)) | (refine zss rfl ?_) | (refine zso rfl (fun hb => ?_) (fun hb => ?_)) | ((first | refine zsq ?_ | refine andA ?_ | with_reducible refine exA fun _ => ?_ | fail); conv => whnf) | (refine lnA fun hln => ?_; conv => whnf) | fail
       exact ⟨_, rfl, leN3⟩
   ·have hie : i = steps.length := by omega
    subst hie
    have hall2 : ∀ x ∈ steps, zaA regs.length x = 0 := fun x hx => by
     obtain ⟨k, hk, rfl⟩ := List.getElem_of_mem hx
     exact hok k hk hk
    have hbs : zag regs.length steps 0 = none := zaz.2 hall2
    repeat' first | refine zd ?_ | refine zc ?_ | ((first | refine zf ?_ | refine zk ?_ | refine regA ?_ | fail); conv => whnf) | exact abA hb | (refine zso rfl (fun hb => ?_) (fun hb => ?_)) | (refine lnA fun hln => ?_; conv => whnf) | fail
    refine zJ (fun x : Nat × List FloT × Nat => [(4, .x (.o 4 x.2.2 regs.length)), (77, iv .i64 x.1), (76, iv .i64 steps.length), (75, zhW steps)])
     (fun x => [(4, .chain 56 2 x.2.2 (x.2.1.map flPV))]) (fun x => x.1 ≤ steps.length ∧ runS steps 0 regs = runS (steps.drop x.1) x.1 x.2.1 ∧ x.2.1.length = regs.length ∧ ∀ y ∈ x.2.1, zG y) (fun x => steps.length - x.1) (0, regs, regs.length) ⟨Nat.zero_le _, rfl, rfl, hall⟩ impA ?_
    rintro ⟨i, l, sm⟩ ⟨hi, hrun, hll, hlf⟩
    dsimp only at hi hrun hll hlf ⊢
    have hlm : (l.map flPV).length = regs.length := by rw [List.length_map, hll]
    rcases Nat.lt_or_ge i steps.length with hil | hil
    ·obtain ⟨hop, a0, a1, b0, b1, t0, t1⟩ := zpr (hall2 steps[i] (List.getElem_mem hil))
     have la : steps[i].a.toNat < l.length := by omega
     have lb : steps[i].b.toNat < l.length := by omega
     have lt : steps[i].to.toNat < l.length := by omega
     have ga : l.getD steps[i].a.toNat zeroFl = l[steps[i].a.toNat] := by rw [List.getD_eq_getElem?_getD, List.getElem?_eq_getElem la]; rfl
     have gb : l.getD steps[i].b.toNat zeroFl = l[steps[i].b.toNat] := by rw [List.getD_eq_getElem?_getD, List.getElem?_eq_getElem lb]; rfl
     have fa := hlf _ (List.getElem_mem la)
     have fb := hlf _ (List.getElem_mem lb)
     have hd := zmP steps[i].op
     rw [List.drop_eq_getElem_cons hil, runS, ga, gb] at hrun
     have hfs := zeN (op := steps[i].op) fa fb
     rcases hop with hop | hop | hop | hop
     ·rw [show zbc steps[i].op = .x (.f (.func 140) [] []) by unfold zbc; rw [if_pos hop]] at hd
      have sp := zjX (f := 140) (.inl ⟨hop, rfl⟩) fa fb
      generalize FoT.stepM steps[i].op l[steps[i].a.toNat] l[steps[i].b.toNat] = X at sp hrun hfs
      by_cases hX : X.2 = 0
      ·rw [if_pos hX] at hrun
       repeat' first | refine zd ?_ | refine zc ?_ | ((first | refine zf ?_ | refine zk ?_ | refine zi ?_ | refine regA ?_ | refine drM (id := 22) 18 [16] true [0, 1, 3, 0, 0, 16, 56, 120, 0, 0, 512, 1792, 3840, 8191, 16383, 32767, 32767, 0, 196607, 524287] ?_ | refine LateGo.mk ⟨.x .j, rfl, ?_⟩ | fail); conv => whnf) | exact abA hb | ((first | refine ⟨_, fun _ => hd _, ?_⟩ | refine zsp (sp) ?_ | fail); conv => whnf) | (refine zso rfl (fun hb => ?_) (fun hb => ?_)) | ((first | refine zsq ?_ | refine andA ?_ | with_reducible refine exA fun _ => ?_ | with_reducible refine Exists.intro _ (And.intro (ze (zh (by omega) (by omega))) (And.intro (And.intro (Nat.le_of_ble_eq_true rfl) rfl) ?_)) | with_reducible refine Exists.intro _ (And.intro (zh (by omega) (by omega)) (And.intro (Nat.le_of_ble_eq_true rfl) ?_)) | fail); conv => whnf) | fail
       have e : (l.map flPV).set steps[i].to.toNat (flPV X.1) = (l.set steps[i].to.toNat X.1).map flPV := by rw [List.map_set]
       exact ⟨(i + 1, l.set steps[i].to.toNat X.1, sm), ⟨by show i + 1 ≤ _; omega, hrun, by show (l.set _ _).length = _; rw [List.length_set, hll], fun y hy => by
        rcases List.mem_or_eq_of_mem_set hy with hy | rfl
        ·exact hlf y hy
        ·exact hfs⟩, by show steps.length - (i + 1) < steps.length - i; omega, impA⟩
      ·rw [if_neg hX] at hrun
       rw [zoB h0 hbr hbs hrun]
       repeat' first | refine zd ?_ | refine zc ?_ | ((first | refine zf ?_ | refine zk ?_ | refine zi ?_ | refine regA ?_ | refine drM (id := 22) 18 [16] true [0, 1, 3, 0, 0, 16, 56, 120, 0, 0, 512, 1792, 3840, 8191, 16383, 32767, 32767, 0, 196607, 524287] ?_ | refine LateGo.mk ⟨.x .j, rfl, ?_⟩ | fail); conv => whnf) | exact abA hb | ((first | refine ⟨_, fun _ => hd _, ?_⟩ | refine zsp (sp) ?_ | fail); conv => whnf) | (refine zso rfl (fun hb => ?_) (fun hb => ?_)) | ((first | refine andA ?_ | with_reducible refine exA fun _ => ?_ | with_reducible refine Exists.intro _ (And.intro (ze (zh (by omega) (by omega))) (And.intro (And.intro (Nat.le_of_ble_eq_true rfl) rfl) ?_)) | fail); conv => whnf) | fail
       exact ⟨_, rfl, leN3⟩
     ·rw [show zbc steps[i].op = .x (.f (.func 141) [] []) by unfold zbc; rw [if_neg (by omega), if_pos hop]] at hd
      have sp := zjX (f := 141) (.inr (.inl ⟨hop, rfl⟩)) fa fb
      generalize FoT.stepM steps[i].op l[steps[i].a.toNat] l[steps[i].b.toNat] = X at sp hrun hfs
      by_cases hX : X.2 = 0
      ·rw [if_pos hX] at hrun
       repeat' first | refine zd ?_ | refine zc ?_ | ((first | refine zf ?_ | refine zk ?_ | refine zi ?_ | refine regA ?_ | refine drM (id := 22) 18 [16] true [0, 1, 3, 0, 0, 16, 56, 120, 0, 0, 512, 1792, 3840, 8191, 16383, 32767, 32767, 0, 196607, 524287] ?_ | refine LateGo.mk ⟨.x .j, rfl, ?_⟩ | fail); conv => whnf) | exact abA hb | ((first | refine ⟨_, fun _ => hd _, ?_⟩ | refine zsp (sp) ?_ | fail); conv => whnf) | (refine zso rfl (fun hb => ?_) (fun hb => ?_)) | ((first | refine zsq ?_ | refine andA ?_ | with_reducible refine exA fun _ => ?_ | with_reducible refine Exists.intro _ (And.intro (ze (zh (by omega) (by omega))) (And.intro (And.intro (Nat.le_of_ble_eq_true rfl) rfl) ?_)) | with_reducible refine Exists.intro _ (And.intro (zh (by omega) (by omega)) (And.intro (Nat.le_of_ble_eq_true rfl) ?_)) | fail); conv => whnf) | fail
       have e : (l.map flPV).set steps[i].to.toNat (flPV X.1) = (l.set steps[i].to.toNat X.1).map flPV := by rw [List.map_set]
       exact ⟨(i + 1, l.set steps[i].to.toNat X.1, sm), ⟨by show i + 1 ≤ _; omega, hrun, by show (l.set _ _).length = _; rw [List.length_set, hll], fun y hy => by
        rcases List.mem_or_eq_of_mem_set hy with hy | rfl
        ·exact hlf y hy
        ·exact hfs⟩, by show steps.length - (i + 1) < steps.length - i; omega, impA⟩
      ·rw [if_neg hX] at hrun
       rw [zoB h0 hbr hbs hrun]
       repeat' first | refine zd ?_ | refine zc ?_ | ((first | refine zf ?_ | refine zk ?_ | refine zi ?_ | refine regA ?_ | refine drM (id := 22) 18 [16] true [0, 1, 3, 0, 0, 16, 56, 120, 0, 0, 512, 1792, 3840, 8191, 16383, 32767, 32767, 0, 196607, 524287] ?_ | refine LateGo.mk ⟨.x .j, rfl, ?_⟩ | fail); conv => whnf) | exact abA hb | ((first | refine ⟨_, fun _ => hd _, ?_⟩ | refine zsp (sp) ?_ | fail); conv => whnf) | (refine zso rfl (fun hb => ?_) (fun hb => ?_)) | ((first | refine andA ?_ | with_reducible refine exA fun _ => ?_ | with_reducible refine Exists.intro _ (And.intro (ze (zh (by omega) (by omega))) (And.intro (And.intro (Nat.le_of_ble_eq_true rfl) rfl) ?_)) | fail); conv => whnf) | fail
       exact ⟨_, rfl, leN3⟩
     ·rw [show zbc steps[i].op = .x (.f (.func 142) [] []) by unfold zbc; rw [if_neg (by omega), if_neg (by omega), if_pos hop]] at hd
      have sp := zjX (f := 142) (.inr (.inr (.inl ⟨hop, rfl⟩))) fa fb
      generalize FoT.stepM steps[i].op l[steps[i].a.toNat] l[steps[i].b.toNat] = X at sp hrun hfs
      by_cases hX : X.2 = 0
      ·rw [if_pos hX] at hrun
       repeat' first | refine zd ?_ | refine zc ?_ | ((first | refine zf ?_ | refine zk ?_ | refine zi ?_ | refine regA ?_ | refine drM (id := 22) 18 [16] true [0, 1, 3, 0, 0, 16, 56, 120, 0, 0, 512, 1792, 3840, 8191, 16383, 32767, 32767, 0, 196607, 524287] ?_ | refine LateGo.mk ⟨.x .j, rfl, ?_⟩ | fail); conv => whnf) | exact abA hb | ((first | refine ⟨_, fun _ => hd _, ?_⟩ | refine zsp (sp) ?_ | fail); conv => whnf) | (refine zso rfl (fun hb => ?_) (fun hb => ?_)) | ((first | refine zsq ?_ | refine andA ?_ | with_reducible refine exA fun _ => ?_ | with_reducible refine Exists.intro _ (And.intro (ze (zh (by omega) (by omega))) (And.intro (And.intro (Nat.le_of_ble_eq_true rfl) rfl) ?_)) | with_reducible refine Exists.intro _ (And.intro (zh (by omega) (by omega)) (And.intro (Nat.le_of_ble_eq_true rfl) ?_)) | fail); conv => whnf) | fail
       have e : (l.map flPV).set steps[i].to.toNat (flPV X.1) = (l.set steps[i].to.toNat X.1).map flPV := by rw [List.map_set]
       exact ⟨(i + 1, l.set steps[i].to.toNat X.1, sm), ⟨by show i + 1 ≤ _; omega, hrun, by show (l.set _ _).length = _; rw [List.length_set, hll], fun y hy => by
        rcases List.mem_or_eq_of_mem_set hy with hy | rfl
        ·exact hlf y hy
        ·exact hfs⟩, by show steps.length - (i + 1) < steps.length - i; omega, impA⟩
      ·rw [if_neg hX] at hrun
       rw [zoB h0 hbr hbs hrun]
       repeat' first | refine zd ?_ | refine zc ?_ | ((first | refine zf ?_ | refine zk ?_ | refine zi ?_ | refine regA ?_ | refine drM (id := 22) 18 [16] true [0, 1, 3, 0, 0, 16, 56, 120, 0, 0, 512, 1792, 3840, 8191, 16383, 32767, 32767, 0, 196607, 524287] ?_ | refine LateGo.mk ⟨.x .j, rfl, ?_⟩ | fail); conv => whnf) | exact abA hb | ((first | refine ⟨_, fun _ => hd _, ?_⟩ | refine zsp (sp) ?_ | fail); conv => whnf) | (refine zso rfl (fun hb => ?_) (fun hb => ?_)) | ((first | refine andA ?_ | with_reducible refine exA fun _ => ?_ | with_reducible refine Exists.intro _ (And.intro (ze (zh (by omega) (by omega))) (And.intro (And.intro (Nat.le_of_ble_eq_true rfl) rfl) ?_)) | fail); conv => whnf) | fail
       exact ⟨_, rfl, leN3⟩
     ·rw [show zbc steps[i].op = .x (.f (.func 143) [] []) by unfold zbc; rw [if_neg (by omega), if_neg (by omega), if_neg (by omega), if_pos hop]] at hd
      have sp := zjX (f := 143) (.inr (.inr (.inr ⟨hop, rfl⟩))) fa fb
      generalize FoT.stepM steps[i].op l[steps[i].a.toNat] l[steps[i].b.toNat] = X at sp hrun hfs
      by_cases hX : X.2 = 0
      ·rw [if_pos hX] at hrun
       repeat' first | refine zd ?_ | refine zc ?_ | ((first | refine zf ?_ | refine zk ?_ | refine zi ?_ | refine regA ?_ | refine drM (id := 22) 18 [16] true [0, 1, 3, 0, 0, 16, 56, 120, 0, 0, 512, 1792, 3840, 8191, 16383, 32767, 32767, 0, 196607, 524287] ?_ | refine LateGo.mk ⟨.x .j, rfl, ?_⟩ | fail); conv => whnf) | exact abA hb | ((first | refine ⟨_, fun _ => hd _, ?_⟩ | refine zsp (sp) ?_ | fail); conv => whnf) | (refine zso rfl (fun hb => ?_) (fun hb => ?_)) | ((first | refine zsq ?_ | refine andA ?_ | with_reducible refine exA fun _ => ?_ | with_reducible refine Exists.intro _ (And.intro (ze (zh (by omega) (by omega))) (And.intro (And.intro (Nat.le_of_ble_eq_true rfl) rfl) ?_)) | with_reducible refine Exists.intro _ (And.intro (zh (by omega) (by omega)) (And.intro (Nat.le_of_ble_eq_true rfl) ?_)) | fail); conv => whnf) | fail
       have e : (l.map flPV).set steps[i].to.toNat (flPV X.1) = (l.set steps[i].to.toNat X.1).map flPV := by rw [List.map_set]
       exact ⟨(i + 1, l.set steps[i].to.toNat X.1, sm), ⟨by show i + 1 ≤ _; omega, hrun, by show (l.set _ _).length = _; rw [List.length_set, hll], fun y hy => by
        rcases List.mem_or_eq_of_mem_set hy with hy | rfl
        ·exact hlf y hy
        ·exact hfs⟩, by show steps.length - (i + 1) < steps.length - i; omega, impA⟩
      ·rw [if_neg hX] at hrun
       rw [zoB h0 hbr hbs hrun]
       repeat' first | refine zd ?_ | refine zc ?_ | ((first | refine zf ?_ | refine zk ?_ | refine zi ?_ | refine regA ?_ | refine drM (id := 22) 18 [16] true [0, 1, 3, 0, 0, 16, 56, 120, 0, 0, 512, 1792, 3840, 8191, 16383, 32767, 32767, 0, 196607, 524287] ?_ | refine LateGo.mk ⟨.x .j, rfl, ?_⟩ | fail); conv => whnf) | exact abA hb | ((first | refine ⟨_, fun _ => hd _, ?_⟩ | refine zsp (sp) ?_ | fail); conv => whnf) | (refine zso rfl (fun hb => ?_) (fun hb => ?_)) | ((first | refine andA ?_ | with_reducible refine exA fun _ => ?_ | with_reducible refine Exists.intro _ (And.intro (ze (zh (by omega) (by omega))) (And.intro (And.intro (Nat.le_of_ble_eq_true rfl) rfl) ?_)) | fail); conv => whnf) | fail
       exact ⟨_, rfl, leN3⟩
    ·have hie : i = steps.length := by omega
     subst hie
     rw [List.drop_eq_nil_of_le (Nat.le_refl _), runS] at hrun
     rw [zr9 h0 hbr hbs hrun]
     repeat' first | refine zd ?_ | refine zc ?_ | ((first | refine zf ?_ | refine zk ?_ | refine zi ?_ | refine regA ?_ | fail); conv => whnf) | exact abA hb | (refine zso rfl (fun hb => ?_) (fun hb => ?_)) | fail
     exact ⟨_, zr0 rfl rfl rfl rfl (by omega), lcE (by rw [List.take_of_length_le (by omega)])⟩
end Go.Proofs.YtmceekhgnfpamaaGreatDoor
namespace Go.Proofs.YtmceekhgnfpamaaGreatDoor
open Go Go.QL FoT
set_option maxHeartbeats 3200000
attribute [local irreducible] ACall FnC fine ten zav zD
theorem znK {k a b : Int} : zP (opV k a b % 16777216) := by unfold zP; omega
theorem zkN {words : List Int} {n : FNode} (hw : ∀ v ∈ words, zP v) (hk : n.kind = 1 ∨ n.kind = 2) (hf : fine words.length n) : zP (zcw words 0 n) := by
 unfold zcw
 by_cases k1 : n.kind = 1
 ·rw [if_pos k1]
  unfold fine at hf
  rw [if_pos k1] at hf
  rw [List.getD_eq_getElem?_getD, List.getElem?_eq_getElem (by omega)]
  exact hw _ (List.getElem_mem (by omega))
 ·rw [if_neg k1]
  obtain ⟨a, b, _, _⟩ := zha (by omega) hf
  exact ⟨a, by omega⟩
theorem zro (f : FormT) (hc : zD f = 0) (words : List Int) (hn : words.length = f.vars.length) (hw : ∀ v ∈ words, zP v) :
  ACall Tryz.prog 69 [zaB f, .x (.f (.func 70) [] [.b 100 0]), .x (.f (.func 72) [] [.b 101 0])] (evS words)
   (fun r σ' => r = iv .i64 (valF f words) ∧ σ' = evS words) := by
 refine (zox f hc words (fun i st => (∀ v ∈ st, zP v) ∧ zaN 0 (zcw words) zdQ 0 f.code [] = zaN 0 (zcw words) zdQ i (f.code.drop i) st) ⟨by simp, rfl⟩ ?_ ?_).mono ?_
 ·rintro i st hi hk hf ⟨h1, h2⟩
  rw [← hn] at hf
  refine ⟨zcw words 0 f.code[i], ⟨fun v hv => ?_, ?_⟩, zrf words i _ hk hf⟩
  ·rcases List.mem_append.1 hv with hv | hv
   ·exact h1 v hv
   ·rw [List.mem_singleton.1 hv]; exact zkN hw hk hf
  ·rw [h2, List.drop_eq_getElem_cons hi, zaN, if_pos (by omega)]; rfl
 ·rintro i st a b hi hk ⟨h1, h2⟩
  refine ⟨zdQ 0 f.code[i] a b, ⟨fun v hv => ?_, ?_⟩, zre words i _ a b hk (h1 a (by simp)) (h1 b (by simp))⟩
  ·rcases List.mem_append.1 hv with hv | hv
   ·exact h1 v (by simp [hv])
   ·rw [List.mem_singleton.1 hv]; exact znK
  ·rw [h2, List.drop_eq_getElem_cons hi, zaN, if_neg (by omega)]
   simp only [List.length_append, List.length_cons, List.length_nil]
   rw [List.take_left' (by omega)]
   congr 2
   simp [zdQ, List.getD_eq_getElem?_getD]
 ·rintro r σ' ⟨⟨x, ⟨_, hx⟩, rfl⟩, rfl⟩
  refine ⟨?_, rfl⟩
  rw [List.drop_eq_nil_of_le (Nat.le_refl _)] at hx
  unfold valF
  rw [hx]; rfl
theorem zkz (words : List Int) : (words.any fun x => outB x 0 16777215) = !(words.all fun v => decide (zP v)) := by
 induction words with
 | nil => rfl
 | cons v r ih =>
  rw [List.any_cons, List.all_cons, ih, zcE, Bool.not_and]
  rw [decide_not]
  rfl
theorem znJ (f : FormT) (words : List Int) : FnC Tryz.prog 23 [zaB f, sl words] (.t [iv .i64 (zdU f words).1, iv .i64 (zdU f words).2]) := by
 have hlv : (f.vars.map zaa).length = f.vars.length := List.length_map _
 have hlw : (words.map fun n : Int => [PV.v (.int .i64 n)]).length = words.length := List.length_map _
 have ck := ziO f
 unfold zdU
 by_cases h0 : zD f = 0
 ·rw [if_neg (by omega)]
  rw [h0] at ck
  obtain ⟨hv8, _⟩ := zbD h0
  by_cases h1 : words.length = f.vars.length
  ·rw [if_neg (by omega)]
   have hcf := zdc 67 [] (fun x => outB x 0 16777215) words [] (fun x _ => zo8 x)
   rw [zkz] at hcf
   have hcf' := fun {σ : Sg} => zdc 67 [] (fun x => outB x 0 16777215) words σ (fun x _ => zo8 x)
   rw [zkz] at hcf'
   by_cases h2 : (words.all fun w => decide (zP w)) = false
   ·rw [if_pos h2]
    rw [h2] at hcf'
    refine hdC Tryz.func23 Tryz.ntmps23 (res := [.tmp 4, .tmp 5]) fun w0 K0 => ?_
    repeat' first | refine zd ?_ | refine zc ?_ | ((first | refine zf ?_ | refine zi ?_ | refine regA ?_ | fail); conv => whnf) | exact abA hb | ((first | refine zsn (ck) ?_ | ((refine ⟨_, hcf', ?_⟩); (rintro _ _ ⟨rfl, rfl⟩)) | fail); conv => whnf) | (refine zst rfl ?_) | (refine zss rfl ?_) | (refine zso rfl (fun hb => ?_) (fun hb => ?_)) | ((refine andA ?_); conv => whnf) | (refine lnA fun hln => ?_; conv => whnf) | fail
    rfl
   ·rw [if_neg h2]
    rw [Bool.not_eq_false] at h2
    rw [h2] at hcf'
    have cp := zro f h0 words h1 (by simpa using h2)
    refine hdC Tryz.func23 Tryz.ntmps23 (res := [.tmp 4, .tmp 5]) fun w0 K0 => ?_
    repeat' first | refine zd ?_ | refine zc ?_ | ((first | refine zf ?_ | refine zi ?_ | refine regA ?_ | fail); conv => whnf) | exact abA hb | ((first | refine zsn (ck) ?_ | ((refine ⟨_, hcf', ?_⟩); (rintro _ _ ⟨rfl, rfl⟩)) | refine frA (zlR) [(2, 102)] ?_ | refine frA (cp) [(100, 3), (101, 7)] ?_ | fail); conv => whnf) | (refine zss rfl ?_) | (refine zso rfl (fun hb => ?_) (fun hb => ?_)) | ((refine andA ?_); conv => whnf) | (refine lnA fun hln => ?_; conv => whnf) | fail
    rfl
  ·rw [if_pos h1]
   refine hdC Tryz.func23 Tryz.ntmps23 (res := [.tmp 4, .tmp 5]) fun w0 K0 => ?_
   repeat' first | refine zd ?_ | refine zc ?_ | ((first | refine zf ?_ | refine zi ?_ | refine regA ?_ | fail); conv => whnf) | exact abA hb | ((refine zsn (ck) ?_); conv => whnf) | (refine zss rfl ?_) | (refine zso rfl (fun hb => ?_) (fun hb => ?_)) | ((refine andA ?_); conv => whnf) | (refine lnA fun hln => ?_; conv => whnf) | fail
   rfl
 ·rw [if_pos h0]
  refine hdC Tryz.func23 Tryz.ntmps23 (res := [.tmp 4, .tmp 5]) fun w0 K0 => ?_
  repeat' first | refine zd ?_ | refine zc ?_ | ((first | refine zf ?_ | refine zi ?_ | refine regA ?_ | refine zsn (ck) ?_ | fail); conv => whnf) | (exact absurd hb h0) | (refine zso rfl (fun hb => ?_) (fun hb => ?_)) | fail
  rfl
end Go.Proofs.YtmceekhgnfpamaaGreatDoor
namespace Go.Proofs.YtmceekhgnfpamaaGreatDoor
open Go Go.QL FoT
set_option maxHeartbeats 3200000
attribute [local irreducible] ACall FnC
def exF : FormT := ⟨[[97], [98]], [⟨1, 0, 0, 0⟩, ⟨1, 1, 0, 0⟩, ⟨2, 0, 25, 2⟩, ⟨4, 0, 0, 0⟩, ⟨5, 0, 0, 0⟩, ⟨1, 1, 0, 0⟩, ⟨3, 0, 0, 0⟩]⟩
theorem zo7 : FnC Tryz.prog 35 [] (zaB exF) := by
 refine hdC Tryz.func35 Tryz.ntmps35 (res := [.cell 0 25]) fun w0 K0 => ?_
 repeat' first | refine zd ?_ | ((first | refine zi ?_ | refine regA ?_ | fail); conv => whnf) | fail
 rfl
theorem zln (a b : Int) : FnC Tryz.prog 36 [iv .i64 a, iv .i64 b] (.a [.d (.v (.int .i64 a)), .d (.v (.int .i64 b))]) := by
 refine hdC Tryz.func36 Tryz.ntmps36 (res := [.cell 4 40]) fun w0 K0 => ?_
 repeat' first | refine zd ?_ | ((first | refine zi ?_ | refine regA ?_ | fail); conv => whnf) | fail
 rfl
def exR : List FloT := [⟨4194304, 1⟩, ⟨-6291456, 6⟩]
def exS : List StepT := [⟨3, 0, 1, 0⟩, ⟨5, 0, 1, 1⟩]
theorem zo6 : FnC Tryz.prog 37 [] (zdT exR) := by
 refine hdC Tryz.func37 Tryz.ntmps37 (res := [.tmp 0]) fun w0 K0 => ?_
 repeat' first | refine zd ?_ | ((first | refine zi ?_ | refine regA ?_ | fail); conv => whnf) | fail
 rfl
theorem zrd : FnC Tryz.prog 65 [] (zhW exS) := by
 refine hdC Tryz.func65 Tryz.ntmps65 (res := [.tmp 0]) fun w0 K0 => ?_
 repeat' first | refine zd ?_ | ((first | refine zi ?_ | refine regA ?_ | fail); conv => whnf) | fail
 rfl
theorem zmL (x : Int) : eqV (Value.int .i64 x) (Value.int .i64 x) = true := by simp [eqV]
theorem znO {a b c d : Int} {P : Prop} (h : eqL [Value.int .i64 a, Value.int .i64 b, Value.int .i64 c, Value.int .i64 d] [Value.int .i64 a, Value.int .i64 b, Value.int .i64 c, Value.int .i64 d] = false) : P := by
 simp [eqL, zmL] at h
theorem zq8 {a b : Int} {P : Prop} (h : eqL [Value.int .i64 a, Value.int .i64 b] [Value.int .i64 a, Value.int .i64 b] = false) : P := by
 simp [eqL, zmL] at h
theorem zdu (a : FormT) : FnC Tryz.prog 17 [zaB a, zaB a] (bv true) := by
 have hlv : (a.vars.map zaa).length = a.vars.length := List.length_map _
 have hlc : (a.code.map ndPV).length = a.code.length := List.length_map _
 refine hdC Tryz.func17 Tryz.ntmps17 (res := [.tmp 4]) fun w0 K0 => ?_
 repeat' first | refine zd ?_ | refine zc ?_ | ((first | refine zf ?_ | refine regA ?_ | refine pkA ?_ | fail); conv => whnf) | (refine za rfl (zM (by simp)) (fun _ => ?_)) | (refine lnA fun hln => ?_; conv => whnf) | fail
 refine zJ (fun i : Nat => [(5, iv .i64 i), (4, bv false), (3, .x (.b 3 0)), (2, .x (.b 2 0))]) (fun _ => [(3, .box [.d (zac a.vars), .d (zS a.code)]), (2, .box [.d (zac a.vars), .d (zS a.code)])]) (fun i => i ≤ a.vars.length) (fun i => a.vars.length - i) 0 (Nat.zero_le _) impA ?_
 intro i hi
 rcases Nat.lt_or_ge i a.vars.length with hil | hil
 ·repeat' first | refine zd ?_ | refine zc ?_ | ((first | refine zf ?_ | refine zk ?_ | refine zi ?_ | refine regA ?_ | refine drA (id := 6) 10 false [0, 1, 0, 7, 15, 0, 32, 0, 224, 480, 1023] ?_ | fail); conv => whnf) | exact abA hb | (exact (hb trivial).elim) | (refine zso rfl (fun hb => ?_) (fun hb => ?_)) | ((first | refine zsq ?_ | refine andA ?_ | with_reducible refine exA fun _ => ?_ | fail); conv => whnf) | (refine lnA fun hln => ?_; conv => whnf) | fail
  exact ⟨i + 1, by omega, by omega, impA⟩
 ·repeat' first | refine zd ?_ | refine zc ?_ | ((first | refine zf ?_ | refine zk ?_ | refine regA ?_ | refine drA (id := 6) 10 false [0, 1, 0, 7, 15, 0, 32, 0, 224, 480, 1023] ?_ | fail); conv => whnf) | exact abA hb | (refine zso rfl (fun hb => ?_) (fun hb => ?_)) | ((refine andA ?_); conv => whnf) | (refine lnA fun hln => ?_; conv => whnf) | fail
  refine zJ (fun i : Nat => [(6, iv .i64 i), (4, bv false), (3, .x (.b 3 0)), (2, .x (.b 2 0))]) (fun _ => [(3, .box [.d (zac a.vars), .d (zS a.code)]), (2, .box [.d (zac a.vars), .d (zS a.code)])]) (fun i => i ≤ a.code.length) (fun i => a.code.length - i) 0 (Nat.zero_le _) impA ?_
  intro j hj
  rcases Nat.lt_or_ge j a.code.length with hjl | hjl
  ·repeat' first | refine zd ?_ | refine zc ?_ | ((first | refine zf ?_ | refine zk ?_ | refine zi ?_ | refine regA ?_ | refine drA (id := 11) 10 false [0, 1, 0, 7, 15, 0, 32, 0, 224, 480, 1023] ?_ | fail); conv => whnf) | exact abA hb | (exact znO hb) | (refine zso rfl (fun hb => ?_) (fun hb => ?_)) | ((first | refine zsq ?_ | refine andA ?_ | with_reducible refine exA fun _ => ?_ | fail); conv => whnf) | (refine lnA fun hln => ?_; conv => whnf) | fail
   exact ⟨j + 1, by omega, by omega, impA⟩
  ·repeat' first | refine zd ?_ | refine zc ?_ | ((first | refine zf ?_ | refine zk ?_ | refine zi ?_ | refine regA ?_ | refine drA (id := 11) 10 false [0, 1, 0, 7, 15, 0, 32, 0, 224, 480, 1023] ?_ | fail); conv => whnf) | exact abA hb | (refine zso rfl (fun hb => ?_) (fun hb => ?_)) | ((refine andA ?_); conv => whnf) | (refine lnA fun hln => ?_; conv => whnf) | fail
   rfl
theorem zfC (a : List FloT) : FnC Tryz.prog 34 [zdT a, zdT a] (bv true) := by
 have hl : (a.map flPV).length = a.length := List.length_map _
 refine hdC Tryz.func34 Tryz.ntmps34 (res := [.tmp 4]) fun w0 K0 => ?_
 repeat' first | refine zd ?_ | refine zc ?_ | ((first | refine zf ?_ | refine regA ?_ | fail); conv => whnf) | (refine za rfl (zM (by simp)) (fun _ => ?_)) | (refine lnA fun hln => ?_; conv => whnf) | fail
 refine zJ (fun i : Nat => [(5, iv .i64 i), (4, bv false), (1, zdT a), (0, zdT a)]) (fun _ => []) (fun i => i ≤ a.length) (fun i => a.length - i) 0 (Nat.zero_le _) impA ?_
 intro j hj
 rcases Nat.lt_or_ge j a.length with hjl | hjl
 ·repeat' first | refine zd ?_ | refine zc ?_ | ((first | refine zf ?_ | refine zk ?_ | refine zi ?_ | refine regA ?_ | refine drA (id := 6) 8 false [0, 0, 3, 7, 0, 0, 48, 112, 255] ?_ | fail); conv => whnf) | exact abA hb | (exact zq8 hb) | (refine zso rfl (fun hb => ?_) (fun hb => ?_)) | ((first | refine zsq ?_ | refine andA ?_ | with_reducible refine exA fun _ => ?_ | fail); conv => whnf) | (refine lnA fun hln => ?_; conv => whnf) | fail
  exact ⟨j + 1, by omega, by omega, impA⟩
 ·repeat' first | refine zd ?_ | refine zc ?_ | ((first | refine zf ?_ | refine zk ?_ | refine zi ?_ | refine regA ?_ | refine drA (id := 6) 8 false [0, 0, 3, 7, 0, 0, 48, 112, 255] ?_ | fail); conv => whnf) | exact abA hb | (refine zso rfl (fun hb => ?_) (fun hb => ?_)) | (refine lnA fun hln => ?_; conv => whnf) | fail
  rfl
end Go.Proofs.YtmceekhgnfpamaaGreatDoor
namespace Go.Proofs.YtmceekhgnfpamaaGreatDoor
open Go Go.QL FoT
set_option maxHeartbeats 12800000
set_option maxRecDepth 100000
theorem zqp : zbH [97, 42, 40, 98, 45, 48, 46, 50, 53, 41, 43, 98] = (exF, 0, 0) := by decide +kernel
theorem zrt : zbH [97, 42, 40, 98, 45, 48, 46, 50, 53, 48, 41, 43, 98] = (zdw, 5, 6) := by decide +kernel
theorem zoD : zd0 exF = ([97, 42, 40, 98, 45, 48, 46, 50, 53, 41, 43, 98], 0) := by decide +kernel
theorem zqq : zdU exF [4194304, 4194304] = (5242880, 0) := by decide +kernel
theorem zoE : z8 exF [⟨0, 4194304⟩, ⟨2097152, 4194304⟩] = (⟨2097152, 5242880, 2⟩, 0, 0) := by decide +kernel
theorem zm4 : zbN exF = (⟨[12584321, 12584450, 2279171, 2295684, 2312197, 6555526, 8636167, 2295688, 4441865, 14909450, 0, 0, 0, 2097152, 0, 0, 0], 0, 11⟩, 0) := by decide +kernel
theorem zoF : zaj (-3) 4 = (⟨-6291456, 6⟩, 0) := by decide +kernel
theorem zqr : zaC exR exS = ([⟨-6160384, 6⟩, ⟨4620288, 12⟩], 0, 0) := by decide +kernel
attribute [local irreducible] ACall FnC
theorem zcK : FnC Tryz.prog 22 [] (bv true) := by
 have r1 := zbK [97, 42, 40, 98, 45, 48, 46, 50, 53, 41, 43, 98]
 rw [zqp] at r1
 have r2 := zbK [97, 42, 40, 98, 45, 48, 46, 50, 53, 48, 41, 43, 98]
 rw [zrt] at r2
 have w1 := zcX exF
 rw [zoD] at w1
 have e1 := znJ exF [4194304, 4194304]
 rw [zqq] at e1
 have g1 := zeg exF [⟨0, 4194304⟩, ⟨2097152, 4194304⟩]
 rw [zoE] at g1
 have c1 := zg0 exF
 rw [zm4] at c1
 have f1 := zei (-3) 4
 rw [if_pos (by decide), zoF] at f1
 have k1 := za5 exR exS (by
  intro x hx
  simp [exR] at hx
  rcases hx with rfl | rfl <;> (unfold i64; decide))
 rw [zqr] at k1
 have fx := zo7
 have fr := zo6
 have fs := zrd
 have sp := zln
 have ff := zdu exF
 have fl := zfC [⟨-6160384, 6⟩, ⟨4620288, 12⟩]
 dsimp only at r1 r2 w1 e1 g1 c1 f1 k1
 refine hdC Tryz.func22 Tryz.ntmps22 (res := [.tmp 0]) fun w0 K0 => ?_
 repeat' first | refine zd ?_ | ((first | refine zi ?_ | refine regA ?_ | refine drA (id := 9) 80 true [0, 1, 3, 7, 15, 31, 63, 127, 255, 511, 1023, 2047, 4095, 8191, 16383, 32767, 65535, 131071, 262143, 524287, 1048575, 2097151, 4194303, 8388607, 16777215, 33554431, 67108863, 134217727, 268435455, 536870911, 1073741823, 2147483647, 4294967295, 8589934591, 17179869183, 34359738367, 68719476735, 137438953471, 274877906943, 549755813887, 549755813887, 2199023255551, 4398046511103, 8796093022207, 17592186044415, 35184372088831, 70368744177663, 140737488355327, 281474976710655, 562949953421311, 1125899906842623, 2251799813685247, 4503599627370495, 4503599627370495, 13510798882111487, 36028797018963967, 72057594037927935, 144115188075855871, 288230376151711743, 576460752303423487, 1152921504606846975, 2305843009213693951, 4611686018427387903, 9223372036854775807, 18446744073709551615, 36893488147419103231, 73786976294838206463, 147573952589676412927, 295147905179352825855, 590295810358705651711, 590295810358705651711, 1770887431076116955135, 4132070672510939561983, 9444732965739290427391, 18889465931478580854783, 37778931862957161709567, 75557863725914323419135, 75557863725914323419135, 75557863725914323419135, 528905046081400263933951, 1208925819614629174706175, 2417851639229258349412351, 4835703278458516698824703] ?_ | refine zsn (fx) ?_ | refine zsr (fx) ?_ | refine zsn ((sp _ _)) ?_ | refine zsr ((sp _ _)) ?_ | refine zsn (fr) ?_ | refine zsr (fr) ?_ | refine zsn (fs) ?_ | refine zsn (r1) ?_ | refine zsn (w1) ?_ | refine zsn (e1) ?_ | refine zsn (g1) ?_ | refine zsn (c1) ?_ | refine zsn (f1) ?_ | refine zsn (k1) ?_ | refine zsn (r2) ?_ | refine zsr (ff) ?_ | refine zsp (fl) ?_ | refine pkA ?_ | refine ⟨_, ze ⟨by decide, rfl⟩, ?_⟩ | refine andA ?_ | fail); conv => whnf) | fail
 have hq : ((bs [97, 42, 40, 98, 45, 48, 46, 50, 53, 41, 43, 98]).toList == (ByteArray.mk #[97, 42, 40, 98, 45, 48, 46, 50, 53, 41, 43, 98]).toList) = true := (zdf [97, 42, 40, 98, 45, 48, 46, 50, 53, 41, 43, 98] [97, 42, 40, 98, 45, 48, 46, 50, 53, 41, 43, 98]).trans (by decide)
 refine congrArg some (congrArg bv (?_ : (_ : Bool) = true))
 rw [hq]
 rfl
end Go.Proofs.YtmceekhgnfpamaaGreatDoor
namespace Go.Proofs.YtmceekhgnfpamaaGreatDoor
open Go Go.QL FoT
abbrev zkE (l : List UInt32) : PV := .s 1 (l.map fun w => [PV.v (.int .u32 w.toNat)])
abbrev zsd (spans : List SpanT) (words : List UInt32) : AV := .a [.d (zcS spans), .d (zkE words)]
def a2AV (a b : Int) : AV := .a [.d (.v (.int .i64 a)), .d (.v (.int .i64 b))]
abbrev ztq (l : List SpanT) : AV := .x (.d (zcS l))
end Go.Proofs.YtmceekhgnfpamaaGreatDoor
