/- What the functions that this law reaches return: part 0. No condition. -/
import Derived.Test.YtmceekhgnfpamaaGreatDoorB05
set_option linter.all false
namespace FoT
def zjr (units : List Int) (_ : Nat) (n : FNode) : Fr2 := if n.kind = 1 then (units.getD n.var.toNat 0, 1) else (n.num * 8388608, ten n)
def zgz (_ : Nat) (n : FNode) (a b : Fr2) : Fr2 :=
 if n.kind = 3 then (a.1 * b.2 + b.1 * a.2, a.2 * b.2)
 else if n.kind = 4 then (a.1 * b.2 - b.1 * a.2, a.2 * b.2)
 else (a.1 * b.1, a.2 * b.2 * 8388608)
def ziE (f : FormT) (units : List Int) : Fr2 := (zaN (0, 1) (zjr units) zgz 0 f.code []).getD 0 (0, 1)
theorem zno {n : Int} (h1 : -8388608 ≤ n) (h2 : n ≤ 8388607) : zP (n % 16777216) ∧ sgnW (n % 16777216) = n := by
 unfold zP sgnW
 split <;> omega
theorem zdv {u x c : Int} (h1 : u ≤ x) (h2 : -u ≤ x) (hc : 0 ≤ c) : u * c ≤ x * c ∧ -(u * c) ≤ x * c := by
 refine ⟨Int.mul_le_mul_of_nonneg_right h1 hc, ?_⟩
 rw [← Int.neg_mul]
 exact Int.mul_le_mul_of_nonneg_right h2 hc
theorem zhK {u v x y : Int} (h1 : u ≤ x) (h2 : -u ≤ x) (h3 : v ≤ y) (h4 : -v ≤ y) : u * v ≤ x * y ∧ -(u * v) ≤ x * y := by
 have hx : 0 ≤ x := by omega
 have hy : 0 ≤ y := by omega
 rcases Int.le_total 0 v with hv | hv
 ·have a := zdv h1 h2 hv
  have b := Int.mul_le_mul_of_nonneg_left h3 hx
  omega
 ·have hv' : 0 ≤ -v := by omega
  have a := zdv h1 h2 hv'
  have b := Int.mul_le_mul_of_nonneg_left h4 hx
  rw [Int.mul_neg] at a
  omega
theorem zka {s t e g : Int} {x y : Fr2} (hx : 0 < x.2) (hy : 0 < y.2) (h1 : zcu s e x) (h2 : zcu t g y) : zcu (s + t) (e + g) (x.1 * y.2 + y.1 * x.2, x.2 * y.2) := by
 obtain ⟨p, q⟩ := x
 obtain ⟨r, u⟩ := y
 unfold zcu at *
 dsimp only at *
 have a1 := Int.mul_le_mul_of_nonneg_right h1.1 (Int.le_of_lt hy)
 have a2 := Int.mul_le_mul_of_nonneg_right h1.2 (Int.le_of_lt hy)
 have b1 := Int.mul_le_mul_of_nonneg_right h2.1 (Int.le_of_lt hx)
 have b2 := Int.mul_le_mul_of_nonneg_right h2.2 (Int.le_of_lt hx)
 have e1 : 2 * (s + t) * (q * u) - 2 * (p * u + r * q) = (2 * s * q - 2 * p) * u + (2 * t * u - 2 * r) * q := by grind
 have e2 : 2 * (p * u + r * q) - 2 * (s + t) * (q * u) = (2 * p - 2 * s * q) * u + (2 * r - 2 * t * u) * q := by grind
 have e3 : (e + g) * (q * u) = e * q * u + g * u * q := by grind
 rw [e1, e2, e3]
 omega
theorem znP {t g : Int} {y : Fr2} (h : zcu t g y) : zcu (-t) g (-y.1, y.2) := by
 unfold zcu at *
 dsimp only
 have e : 2 * -t * y.2 = -(2 * t * y.2) := by grind
 rw [e]
 omega
theorem znQ {s t e g f1 f2 w E : Int} {x y : Fr2} (hx : 0 < x.2) (hy : 0 < y.2) (he : 0 ≤ e) (hg : 0 ≤ g) (h1 : zcu s e x) (h2 : zcu t g y) (hs1 : s ≤ f1) (hs2 : -s ≤ f1) (ht1 : t ≤ f2) (ht2 : -t ≤ f2)
  (hw : w = s * t / 8388608) (hE : 2 * f1 * g + 2 * f2 * e + e * g + 33554432 ≤ 16777216 * E) : zcu w E (x.1 * y.1, x.2 * y.2 * 8388608) := by
 obtain ⟨p, q⟩ := x
 obtain ⟨r, u⟩ := y
 dsimp only at *
 have hqu : 0 < q * u := Int.mul_pos hx hy
 obtain ⟨d, hd, hd0, hd1⟩ : ∃ d, s * t = 8388608 * w + d ∧ 0 ≤ d ∧ d < 8388608 := ⟨s * t % 8388608, by omega, by omega, by omega⟩
 unfold zcu at h1 h2
 dsimp only at h1 h2
 generalize hU : 2 * s * q - 2 * p = U at h1
 generalize hV : 2 * t * u - 2 * r = V at h2
 have hU2 : -U ≤ e * q := by have := h1.2; omega
 have hV2 : -V ≤ g * u := by have := h2.2; omega
 have c1 := zhK hs1 hs2 h2.1 hV2
 have c2 := zhK ht1 ht2 h1.1 hU2
 have c3 := zhK h1.1 hU2 h2.1 hV2
 have m1 := zdv (u := s * V) (x := f1 * (g * u)) (c := q) c1.1 c1.2 (Int.le_of_lt hx)
 have m2 := zdv (u := t * U) (x := f2 * (e * q)) (c := u) c2.1 c2.2 (Int.le_of_lt hy)
 have m4 := Int.mul_le_mul_of_nonneg_right hE (Int.le_of_lt hqu)
 have d1 : 0 ≤ d * (q * u) := Int.mul_nonneg hd0 (Int.le_of_lt hqu)
 have d2 : d * (q * u) ≤ 8388608 * (q * u) := Int.mul_le_mul_of_nonneg_right (by omega) (Int.le_of_lt hqu)
 have key : 4 * (p * r) = 4 * (s * t) * (q * u) - 2 * (s * V * q) - 2 * (t * U * u) + U * V := by
  have e1 : 2 * p = 2 * s * q - U := by omega
  have e2 : 2 * r = 2 * t * u - V := by omega
  have : (2 * p) * (2 * r) = (2 * s * q - U) * (2 * t * u - V) := by rw [e1, e2]
  grind
 rw [hd] at key
 have key2 : 4 * (p * r) = 33554432 * (w * (q * u)) + 4 * (d * (q * u)) - 2 * (s * V * q) - 2 * (t * U * u) + U * V := by grind
 have n1 : f1 * (g * u) * q = f1 * g * (q * u) := by grind
 have n2 : f2 * (e * q) * u = f2 * e * (q * u) := by grind
 have n3 : e * q * (g * u) = e * g * (q * u) := by grind
 have n4 : (2 * f1 * g + 2 * f2 * e + e * g + 33554432) * (q * u) = 2 * (f1 * g * (q * u)) + 2 * (f2 * e * (q * u)) + e * g * (q * u) + 33554432 * (q * u) := by grind
 have n5 : 16777216 * E * (q * u) = 2 * (E * (q * u * 8388608)) := by grind
 have n6 : 2 * w * (q * u * 8388608) = 16777216 * (w * (q * u)) := by grind
 rw [n1] at m1
 rw [n2] at m2
 rw [n3] at c3
 rw [n4, n5] at m4
 unfold zcu
 dsimp only
 rw [n6]
 generalize w * (q * u) = W at *
 generalize d * (q * u) = D at *
 generalize s * V * q = A at *
 generalize t * U * u = B at *
 generalize U * V = C at *
 generalize f1 * g * (q * u) = F at *
 generalize f2 * e * (q * u) = G at *
 generalize e * g * (q * u) = H at *
 generalize E * (q * u * 8388608) = X at *
 generalize q * u = Q at *
 generalize p * r = PR at *
 omega
theorem zo4 {x : RangeT} {s : Int} (h1 : x.lo ≤ s) (h2 : s ≤ x.hi) : s ≤ farR x ∧ -s ≤ farR x := by
 unfold farR; omega
theorem zob {k : Int} (hk : k = 3 ∨ k = 4 ∨ k = 5) {i : Nat} {a b : Int} {x y : RangeT} {u v : Fr2} (h : In3 a x u) (g : In3 b y v) (hg : ¬ (zC (zT k x y).lo = true ∨ zC (zT k x y).hi = true)) (n : FNode) (hn : n.kind = k) :
  In3 (zdQ i n a b) (zT k x y) (zgz i n u v) := by
 obtain ⟨h1, h2, h3, h4, h5, h6, h7, h8⟩ := h
 obtain ⟨g1, g2, g3, g4, g5, g6, g7, g8⟩ := g
 have hb := zig (k := k) h3 h4 g3 g4
 unfold zC at hg
 simp only [Bool.or_eq_true, decide_eq_true_eq] at hg
 have hlo : -8388608 ≤ (zT k x y).lo := by omega
 have hhi : (zT k x y).hi ≤ 8388607 := by omega
 have hb1 : (zT k x y).lo ≤ opV k (sgnW a) (sgnW b) := hb.1
 have hb2 : opV k (sgnW a) (sgnW b) ≤ (zT k x y).hi := hb.2
 obtain ⟨w1, w2⟩ := zno (Int.le_trans hlo hb1) (Int.le_trans hb2 hhi)
 have hjw : zdQ i n a b = opV k (sgnW a) (sgnW b) % 16777216 := by unfold zdQ; rw [hn]
 rw [hjw]
 have fx := zo4 h3 h4
 have fy := zo4 g3 g4
 have hX : 0 < (zgz i n u v).2 := by
  unfold zgz
  have hp := Int.mul_pos h7 g7
  split
  ·exact hp
  ·split
   ·exact hp
   ·show 0 < u.2 * v.2 * 8388608; omega
 have f0 : 0 ≤ farR x := by omega
 have f1 : 0 ≤ farR y := by omega
 have p1 := Int.mul_nonneg f0 g6
 have p2 := Int.mul_nonneg f1 h6
 have p3 := Int.mul_nonneg h6 g6
 have hE : 0 ≤ (zT k x y).err ∧ zcu (opV k (sgnW a) (sgnW b)) (zT k x y).err (zgz i n u v) := by
  unfold zgz
  rw [hn]
  by_cases k3 : k = 3
  ·subst k3
   have e3 : (zT 3 x y).err = x.err + y.err := by unfold zT; dsimp only; rw [if_neg (by decide)]
   rw [e3, if_pos rfl]
   exact ⟨by omega, zka h7 g7 h8 g8⟩
  ·by_cases k4 : k = 4
   ·subst k4
    have e3 : (zT 4 x y).err = x.err + y.err := by unfold zT; dsimp only; rw [if_neg (by decide)]
    rw [e3]
    refine ⟨by omega, ?_⟩
    ·rw [if_neg (by decide), if_pos rfl]
     have := zka h7 (y := (-v.1, v.2)) g7 h8 (znP g8)
     have e : (u.1 * v.2 + -v.1 * u.2, u.2 * v.2) = (u.1 * v.2 - v.1 * u.2, u.2 * v.2) := by
      congr 1; grind
     dsimp only at this
     rw [e] at this
     have e2 : opV 4 (sgnW a) (sgnW b) = sgnW a + -sgnW b := by unfold opV; rw [if_neg (by decide), if_pos rfl]; omega
     rw [e2]
     exact this
   ·rw [if_neg k3, if_neg k4]
    have e2 : opV k (sgnW a) (sgnW b) = sgnW a * sgnW b / 8388608 := by unfold opV; rw [if_neg k3, if_neg k4]
    by_cases k5 : k = 5
    ·subst k5
     have hee : (zT 5 x y).err = (2 * farR x * y.err + 2 * farR y * x.err + x.err * y.err + 16777215) / 16777216 + 2 := by unfold zT; rw [if_pos rfl]
     rw [Int.mul_assoc, Int.mul_assoc 2 (farR y)] at hee
     refine ⟨by omega, ?_⟩
     refine znQ h7 g7 h6 g6 h8 g8 fx.1 fx.2 fy.1 fy.2 e2 ?_
     rw [Int.mul_assoc, Int.mul_assoc 2 (farR y)]
     omega
    ·exact absurd hk (by rintro (h | h | h) <;> contradiction)
 refine ⟨w1, hlo, by rw [w2]; exact hb1, by rw [w2]; exact hb2, hhi, hE.1, hX, ?_⟩
 rw [w2]
 exact hE.2
theorem znW {words units : List Int} {spans : List SpanT} {nv : Nat} (h : LeafOK words units spans nv) {n : FNode} {i : Nat} (hk : n.kind = 1 ∨ n.kind = 2) (hf : fine nv n) : In3 (zcw words i n) (zbB spans n) (zjr units i n) := by
 unfold zcw zbB zjr
 by_cases k1 : n.kind = 1
 ·rw [if_pos k1, if_pos k1, if_pos k1]
  unfold fine at hf
  rw [if_pos k1] at hf
  obtain ⟨a, b, c, d, e, g⟩ := h.ok n.var.toNat (by omega)
  refine ⟨a, e, by dsimp only; omega, by dsimp only; omega, g, Int.le_refl _, Int.zero_lt_one, ?_⟩
  rw [b]
  unfold zcu
  dsimp only
  omega
 ·rw [if_neg k1, if_neg k1, if_neg k1]
  obtain ⟨a, b, c, d⟩ := zha (by omega) hf
  have hs : sgnW (zbo n) = zbo n := by unfold sgnW; rw [if_neg (by omega)]
  refine ⟨⟨a, by omega⟩, by dsimp only; omega, by rw [hs]; exact Int.le_refl _, by rw [hs]; exact Int.le_refl _, b, zdS n, c, ?_⟩
  rw [hs]
  exact d
theorem zhI {words units : List Int} {spans : List SpanT} {nv : Nat} (h : LeafOK words units spans nv) : ∀ (code : List FNode) (i : Nat) (a : List Int) (b : List RangeT) (c : List Fr2) (out : List RangeT), (∀ n ∈ code, zbA nv n = 0) → In3L a b c → rngS spans i code b = .ok out → In3L (zaN 0 (zcw words) zdQ i code a) out (zaN (0, 1) (zjr units) zgz i code c)
 | [], i, a, b, c, out, _, hs, ho => by cases ho; exact hs
 | n :: r, i, a, b, c, out, hn, hs, ho => by
  obtain ⟨hk1, hk5, hf⟩ := zfu (hn n (by simp))
  have hr : ∀ m ∈ r, zbA nv m = 0 := fun m hm => hn m (by simp [hm])
  rw [rngS] at ho
  rw [zaN, zaN]
  split at ho
  ·rename_i hk
   rw [if_pos hk, if_pos hk]
   exact zhI h r _ _ _ _ _ hr (In3L.app hs (a' := [_]) (b' := [_]) (c' := [_]) ⟨znW h (by omega) hf, trivial⟩) ho
  ·rename_i hk
   rw [if_neg hk, if_neg hk]
   dsimp only at ho
   split at ho
   ·cases ho
   ·rename_i hg
    obtain ⟨l1, l2⟩ := hs.len
    rw [l1, l2]
    exact zhI h r _ _ _ _ _ hr (In3L.app (In3L.take _ hs) (a' := [_]) (b' := [_]) (c' := [_]) ⟨zob (by omega) (In3L.getD _ hs) (In3L.getD _ hs) hg n rfl, trivial⟩) ho
theorem zgE {nv : Nat} : ∀ (code : List FNode) (s s' : CS), zav nv code s = .ok s' → ∀ n ∈ code, zbA nv n = 0
 | [], _, _, _, n, h => by simp at h
 | m :: r, s, s', hw, n, h => by
  rw [zav] at hw
  cases hs : zbx nv m s with
  | error e => rw [hs] at hw; cases hw
  | ok s1 =>
   rw [hs] at hw
   rcases List.mem_cons.1 h with rfl | h
   ·exact (zd7 hs).1
   ·exact zgE r s1 s' hw n h
theorem zjK {f : FormT} (h : zD f = 0) : ∀ n ∈ f.code, zbA f.vars.length n = 0 := by
 unfold zD at h
 split at h
 ·cases h
 ·cases hv : zaw [] f.vars with
  | some e =>
   rw [hv] at h
   dsimp only at h
   subst h
   exfalso
   have key : ∀ (l s : List Bs8), zaw s l = some 0 → False := by
    intro l
    induction l with
    | nil => intro s hs; cases hs
    | cons x r ih =>
     intro s hs
     rw [zaw] at hs
     split at hs
     ·cases hs
     ·split at hs
      ·cases hs
      ·exact ih _ hs
   exact key _ _ hv
  | none =>
   rw [hv] at h
   dsimp only at h
   cases hw : zav f.vars.length f.code ⟨0, 0, true⟩ with
   | ok s => exact zgE _ _ _ hw
   | error e =>
    rw [hw] at h
    dsimp only at h
    subst h
    exfalso
    have key : ∀ (l : List FNode) (s : CS), zav f.vars.length l s = .error 0 → False := by
     intro l
     induction l with
     | nil => intro s hs; cases hs
     | cons x r ih =>
      intro s hs
      rw [zav] at hs
      cases hz : zbx f.vars.length x s with
      | error e => rw [hz] at hs; cases hs; exact zfX hz rfl
      | ok s1 => rw [hz] at hs; exact ih _ hs
    exact key _ _ hw
theorem zoN {f : FormT} {spans : List SpanT} {words units : List Int} (h : (z8 f spans).2.2 = 0) (hL : LeafOK words units spans f.vars.length) : In3 (valF f words) (z8 f spans).1 (ziE f units) := by
 obtain ⟨hc, _, _, st, hst, he⟩ := zhq h
 rw [he]
 have := zhI hL f.code 0 [] [] [] st (zjK hc) trivial hst
 exact In3L.getD 0 this
end FoT
namespace FoT
def cg (m : Nat) : List Int := if h : m = 0 then [] else ((m % 10000 : Nat) : Int) :: cg (m / 10000)
termination_by m
decreasing_by omega
def nz (l : List Int) : Prop := l.getLastD 1 ≠ 0
theorem zbh {d : Int} {r : List Int} : dg (d :: r) ↔ (0 ≤ d ∧ d < 10000) ∧ dg r := by simp [dg]
theorem zrk {a b : List Int} : dg (a ++ b) ↔ dg a ∧ dg b := by
 unfold dg
 simp only [List.mem_append]
 exact ⟨fun h => ⟨fun d hd => h d (.inl hd), fun d hd => h d (.inr hd)⟩, fun h d hd => hd.elim (h.1 d) (h.2 d)⟩
theorem ze3 {l : List Int} (n : Nat) (h : dg l) : dg (l.take n) := fun d hd => h d (List.mem_of_mem_take hd)
theorem zqk {l : List Int} (n : Nat) (h : dg l) : dg (l.drop n) := fun d hd => h d (List.mem_of_mem_drop hd)
theorem zbp : ∀ {l : List Int}, dg l → 0 ≤ vl l
 | [], _ => Int.le_refl _
 | d :: r, h => by
  have := zbp (zbh.1 h).2
  have := (zbh.1 h).1
  unfold vl; omega
theorem zkC : ∀ {l : List Int}, dg l → vl l < 10000 ^ l.length
 | [], _ => by simp [vl]
 | d :: r, h => by
  have h1 := zkC (zbh.1 h).2
  have := (zbh.1 h).1
  rw [vl, List.length_cons, Int.pow_succ]; omega
theorem zfM : ∀ (a b : List Int), vl (a ++ b) = vl a + 10000 ^ a.length * vl b
 | [], b => by simp [vl]
 | d :: r, b => by
  rw [List.cons_append, vl, vl, zfM r b, List.length_cons, Int.pow_succ]; grind
theorem zjm {d : Int} {r : List Int} (h : nz (d :: r)) : nz r := by
 unfold nz at *
 cases r with
 | nil => simp
 | cons a q => simpa using h
theorem zlb : ∀ {l : List Int}, dg l → nz l → l ≠ [] → 0 < vl l
 | [], _, _, h => absurd rfl h
 | [d], h, hn, _ => by
  have := (zbh.1 h).1
  have : d ≠ 0 := by simpa [nz] using hn
  simp only [vl]; omega
 | d :: e :: r, h, hn, _ => by
  have := zlb (zbh.1 h).2 (zjm hn) (by simp)
  have := (zbh.1 h).1
  rw [vl]; omega
theorem zqn : ∀ {l : List Int}, dg l → nz l → l = cg (vl l).toNat
 | [], _, _ => by rw [cg]; simp [vl]
 | d :: r, h, hn => by
  have h0 := zlb h hn (by simp)
  have h1 := (zbh.1 h).1
  have h2 := zbp (zbh.1 h).2
  have ih := zqn (zbh.1 h).2 (zjm hn)
  rw [cg, dif_neg (by omega)]
  have e1 : (((vl (d :: r)).toNat % 10000 : Nat) : Int) = d := by rw [vl] at h0 ⊢; omega
  have e2 : (vl (d :: r)).toNat / 10000 = (vl r).toNat := by rw [vl] at h0 ⊢; omega
  rw [e1, e2, ← ih]
theorem zeJ : ∀ (m : Nat), vl (cg m) = m ∧ dg (cg m) ∧ nz (cg m) := by
 intro m
 induction m using Nat.strongRecOn with
 | _ m ih =>
  by_cases h : m = 0
  ·subst h; rw [cg]; simp [vl, dg, nz]
  ·obtain ⟨a, b, c⟩ := ih (m / 10000) (by omega)
   rw [cg, dif_neg h]
   refine ⟨by rw [vl, a]; omega, zbh.2 ⟨by omega, b⟩, ?_⟩
   by_cases h1 : m / 10000 = 0
   ·rw [h1, cg]
    simp only [dif_pos]
    unfold nz
    simp
    omega
   ·unfold nz at c ⊢
    cases hc : cg (m / 10000) with
    | nil => rw [hc] at a; simp [vl] at a; omega
    | cons x r => rw [hc] at c; simpa using c
theorem zr8 : cg 0 = [] := by rw [cg]; rfl
theorem zbI (n : Nat) : (0 : Int) < 10000 ^ n := Int.pow_pos (by decide)
theorem zcZ {a b : Nat} (h : a ≤ b) : (10000 : Int) ^ a ≤ 10000 ^ b := by
 obtain ⟨c, rfl⟩ := Nat.le.dest h
 rw [Int.pow_add]
 have h1 := zbI a
 have h2 := zbI c
 have := Int.mul_le_mul_of_nonneg_left (show (1 : Int) ≤ 10000 ^ c by omega) (Int.le_of_lt h1)
 omega
theorem zpL : ∀ {l : List Int}, dg l → nz l → l ≠ [] → (10000 : Int) ^ (l.length - 1) ≤ vl l
 | [], _, _, h0 => absurd rfl h0
 | [d], h, hn, _ => by
  have h1 := zlb h hn (by simp)
  show (10000 : Int) ^ 0 ≤ _
  rw [Int.pow_zero]
  omega
 | d :: e :: r, h, hn, _ => by
  have ih := zpL (zbh.1 h).2 (zjm hn) (by simp)
  have h1 := (zbh.1 h).1
  have e1 : (10000 : Int) ^ ((d :: e :: r).length - 1) = 10000 ^ ((e :: r).length - 1) * 10000 := by
   rw [← Int.pow_succ]; rfl
  rw [e1, vl]
  omega
theorem zrq {a b : Nat} (h : (cg a).length < (cg b).length) : a < b := by
 obtain ⟨a1, a2, _⟩ := zeJ a
 obtain ⟨b1, b2, b3⟩ := zeJ b
 have h1 := zkC a2
 have h2 := zpL b2 b3 (by intro e; rw [e] at h; simp at h)
 have h3 := zcZ (show (cg a).length ≤ (cg b).length - 1 by omega)
 omega
theorem ztY {m k : Nat} (h : (m : Int) < 10000 ^ k) : (cg m).length ≤ k := by
 rcases Nat.lt_or_ge k (cg m).length with hk | hk
 ·obtain ⟨a1, a2, a3⟩ := zeJ m
  have h2 := zpL a2 a3 (by intro e; rw [e] at hk; simp at hk)
  have h3 := zcZ (show k ≤ (cg m).length - 1 by omega)
  omega
 ·exact hk
def figL (l : List Int) (i : Nat) : Int := l.getD i 0
theorem zaD (l : List Int) (i : Nat) : vl (l.take (i + 1)) = vl (l.take i) + 10000 ^ i * figL l i := by
 unfold figL
 rw [List.getD_eq_getElem?_getD]
 by_cases h : i < l.length
 ·rw [List.take_add_one, List.getElem?_eq_getElem h, zfM, List.length_take, Nat.min_eq_left (by omega)]
  simp [vl]
 ·rw [List.getElem?_eq_none (by omega), List.take_of_length_le (by omega), List.take_of_length_le (by omega)]
  simp
theorem ze1 {l : List Int} (h : dg l) (i : Nat) : 0 ≤ figL l i ∧ figL l i < 10000 := by
 unfold figL
 rw [List.getD_eq_getElem?_getD]
 by_cases hi : i < l.length
 ·rw [List.getElem?_eq_getElem hi]; exact h _ (List.getElem_mem hi)
 ·rw [List.getElem?_eq_none (by omega)]; simp
theorem zoO : ∀ (l : List Int) (i : Nat) (d : Int), i < l.length → vl (l.set i d) = vl l + 10000 ^ i * (d - figL l i)
 | [], i, d, h => by simp at h
 | x :: r, 0, d, _ => by simp [vl, figL]; omega
 | x :: r, i + 1, d, h => by
  rw [List.set_cons_succ, vl, vl, zoO r i d (by simpa using h)]
  have : figL (x :: r) (i + 1) = figL r i := by simp [figL]
  rw [this, Int.pow_succ]
  grind
theorem zrj {l : List Int} (h : dg l) (i : Nat) {d : Int} (hd : 0 ≤ d ∧ d < 10000) : dg (l.set i d) := fun x hx => by
 rcases List.mem_or_eq_of_mem_set hx with hx | rfl
 ·exact h x hx
 ·exact hd
end FoT
namespace FoT
theorem zhb : ∀ {l : List Int}, (∀ d ∈ l, d = 0) → vl l = 0
 | [], _ => rfl
 | d :: r, h => by rw [vl, h d (by simp), zhb fun x hx => h x (by simp [hx])]; rfl
theorem zrP {l : List Int} {n : Nat} (hd : dg l) (hn : n ≤ l.length) (hz : ∀ i (h : i < l.length), n ≤ i → l[i] = 0) (hnz : n = 0 ∨ ∃ h : n - 1 < l.length, l[n - 1] ≠ 0) : l.take n = cg (vl l).toNat := by
 have h1 : vl (l.drop n) = 0 := zhb fun d hd' => by
  obtain ⟨i, hi, e⟩ := List.mem_iff_getElem.1 hd'
  rw [List.length_drop] at hi
  rw [List.getElem_drop] at e
  rw [← e]
  exact hz _ (by omega) (by omega)
 have h2 : vl l = vl (l.take n) := by
  conv => lhs; rw [← List.take_append_drop n l]
  rw [zfM, h1]; simp
 rw [h2]
 refine zqn (ze3 n hd) ?_
 unfold nz
 rcases hnz with rfl | ⟨h, h0⟩
 ·simp
 ·by_cases hn0 : n = 0
  ·subst hn0; simp
  ·rw [List.getLastD_eq_getLast?, List.getLast?_eq_getElem?, List.length_take, Nat.min_eq_left hn, List.getElem?_take, if_pos (by omega), List.getElem?_eq_getElem h]
   exact h0
def PSI (a b out : List Int) (f carry : Int) (i : Nat) : Prop :=
 out.length = i ∧ dg out ∧ -1 ≤ carry ∧ carry ≤ 1 ∧ vl out + 10000 ^ i * carry = vl (a.take i) + f * vl (b.take i)
theorem zrF {a b out : List Int} {f carry : Int} {i : Nat} (ha : dg a) (hb : dg b) (hf : f = 1 ∨ f = -1) (h : PSI a b out f carry i) {n c : Int}
  (hn : (figL a i + f * figL b i + carry < 0 ∧ n = figL a i + f * figL b i + carry + 10000 ∧ c = -1) ∨ (10000 ≤ figL a i + f * figL b i + carry ∧ n = figL a i + f * figL b i + carry - 10000 ∧ c = 1) ∨
   (0 ≤ figL a i + f * figL b i + carry ∧ figL a i + f * figL b i + carry < 10000 ∧ n = figL a i + f * figL b i + carry ∧ c = 0)) : PSI a b (out ++ [n]) f c (i + 1) := by
 obtain ⟨h1, h2, h3, h4, h5⟩ := h
 have h6 := ze1 ha i
 have h7 := ze1 hb i
 have hk : n + 10000 * c = figL a i + f * figL b i + carry := by omega
 have hn2 : 0 ≤ n ∧ n < 10000 := by rcases hf with rfl | rfl <;> omega
 refine ⟨by rw [List.length_append, h1]; rfl, zrk.2 ⟨h2, by intro d hd; rw [List.mem_singleton.1 hd]; exact hn2⟩, by omega, by omega, ?_⟩
 rw [zfM, zaD, zaD, h1, Int.pow_succ]
 have e : vl [n] = n := by simp [vl]
 rw [e]
 grind
theorem zpF {x y : Nat} {out : List Int} {f carry : Int} {i : Nat} (hf : f = 1 ∨ (f = -1 ∧ y ≤ x)) (h : PSI (cg x) (cg y) out f carry i) (hx : (cg x).length ≤ i) (hy : (cg y).length ≤ i) : 0 ≤ carry ∧ (vl out + 10000 ^ i * carry = (x : Int) + f * y) := by
 obtain ⟨h1, h2, h3, h4, h5⟩ := h
 rw [List.take_of_length_le hx, List.take_of_length_le hy, (zeJ x).1, (zeJ y).1] at h5
 refine ⟨?_, h5⟩
 have h6 := zkC h2
 rw [h1] at h6
 rcases Int.lt_or_le carry 0 with hc | hc
 ·have : carry = -1 := by omega
  subst this
  rcases hf with rfl | ⟨rfl, hxy⟩ <;> omega
 ·exact hc
theorem zrY {x y : Nat} {out : List Int} {f : Int} {i : Nat} (hf : f = 1 ∨ (f = -1 ∧ y ≤ x)) (h : PSI (cg x) (cg y) out f 0 i) (hx : (cg x).length ≤ i) (hy : (cg y).length ≤ i) : vl out = (x : Int) + f * y := by
 have := (zpF hf h hx hy).2
 omega
theorem zpS {a b : List Int} (ha : dg a) (hb : dg b) : ∀ (i : Nat), a.length = b.length → (∀ j, i < j → figL a j = figL b j) → figL a i < figL b i → vl a < vl b := by
 intro i hl hj hi
 have e1 := zaD a i
 have e2 := zaD b i
 have hd : a.drop (i + 1) = b.drop (i + 1) := by
  refine List.ext_getElem (by simp [hl]) fun k h1 h2 => ?_
  rw [List.length_drop] at h1 h2
  have := hj (i + 1 + k) (by omega)
  unfold figL at this
  rw [List.getD_eq_getElem?_getD, List.getD_eq_getElem?_getD, List.getElem?_eq_getElem (by omega), List.getElem?_eq_getElem (by omega)] at this
  simpa using this
 have e3 : vl a = vl (a.take (i + 1)) + 10000 ^ (a.take (i + 1)).length * vl (a.drop (i + 1)) := by rw [← zfM, List.take_append_drop]
 have e4 : vl b = vl (b.take (i + 1)) + 10000 ^ (b.take (i + 1)).length * vl (b.drop (i + 1)) := by rw [← zfM, List.take_append_drop]
 rw [e3, e4, hd, e1, e2, List.length_take, List.length_take, hl]
 have h1 := zkC (ze3 i ha)
 have h2 := zbp (ze3 i hb)
 have hlen : (a.take i).length ≤ i := by rw [List.length_take]; omega
 have h3 := zcZ hlen
 have h4 := Int.mul_le_mul_of_nonneg_left (show figL a i + 1 ≤ figL b i by omega) (Int.le_of_lt (zbI i))
 rw [Int.mul_add] at h4
 omega
theorem zuh {a b : List Int} (hl : a.length = b.length) (hj : ∀ j, figL a j = figL b j) : a = b := by
 refine List.ext_getElem hl fun k h1 h2 => ?_
 have := hj k
 unfold figL at this
 rw [List.getD_eq_getElem?_getD, List.getD_eq_getElem?_getD, List.getElem?_eq_getElem h1, List.getElem?_eq_getElem h2] at this
 simpa using this
theorem zuj {x y : Nat} (h : cg x = cg y) : x = y := by
 have h1 := (zeJ x).1
 have h2 := (zeJ y).1
 rw [h] at h1
 omega
theorem zqv {x y i : Nat} (hl : (cg x).length = (cg y).length) (hj : ∀ j, i < j → figL (cg x) j = figL (cg y) j) (hi : figL (cg x) i < figL (cg y) i) : x < y := by
 have := zpS (zeJ x).2.1 (zeJ y).2.1 i hl hj hi
 rw [(zeJ x).1, (zeJ y).1] at this
 omega
def TMI (a b out : List Int) (L i k : Nat) (carry : Int) : Prop :=
 out.length = L ∧ dg out ∧ 0 ≤ carry ∧ carry < 10000 ∧ vl out + 10000 ^ (i + k) * carry = vl (a.take i) * vl b + 10000 ^ i * figL a i * vl (b.take k)
theorem zrz {a b out : List Int} {L i k : Nat} {carry : Int} (ha : dg a) (hb : dg b) (h : TMI a b out L i k carry) (hik : i + k < L) {n : Int} (hn : n = figL out (i + k) + figL a i * figL b k + carry) : TMI a b (out.set (i + k) (n % 10000)) L i (k + 1) (n / 10000) := by
 obtain ⟨h1, h2, h3, h4, h5⟩ := h
 have q1 := ze1 ha i
 have q2 := ze1 hb k
 have q3 := ze1 h2 (i + k)
 have q4 := Int.mul_le_mul (show figL a i ≤ 9999 by omega) (show figL b k ≤ 9999 by omega) q2.1 (by omega)
 have q5 := Int.mul_nonneg q1.1 q2.1
 have hn0 : 0 ≤ n := by omega
 have hn1 : n < 100000000 := by omega
 refine ⟨by rw [List.length_set, h1], zrj h2 _ (by omega), by omega, by omega, ?_⟩
 rw [zoO _ _ _ (by omega), zaD]
 have e : n = 10000 * (n / 10000) + n % 10000 := by omega
 have e2 : (10000 : Int) ^ (i + (k + 1)) = 10000 ^ (i + k) * 10000 := by rw [← Nat.add_assoc, Int.pow_succ]
 have e3 : (10000 : Int) ^ (i + k) = 10000 ^ i * 10000 ^ k := Int.pow_add ..
 rw [e2]
 generalize n % 10000 = r at *
 generalize n / 10000 = q at *
 rw [hn] at e
 have : 10000 ^ (i + k) * (r - figL out (i + k)) + 10000 ^ (i + k) * 10000 * q = 10000 ^ (i + k) * (figL a i * figL b k + carry) := by grind
 rw [e3] at this h5 ⊢
 grind
theorem zrA {a b out : List Int} {L i k : Nat} {carry : Int} (ha : dg a) (hb : dg b) (h : TMI a b out L i k carry) (hc : 0 < carry) (hi : i < a.length) : k ≤ b.length := by
 obtain ⟨h1, h2, h3, h4, h5⟩ := h
 have e := zaD a i
 have v1 := zkC (ze3 (i + 1) ha)
 rw [List.length_take, Nat.min_eq_left (by omega)] at v1
 have v2 := zkC hb
 have v3 := zbp h2
 have v4 := zbp (ze3 (i + 1) ha)
 have v5 := zbp hb
 have v6 := zbp (ze3 k hb)
 have v7 : vl (b.take k) ≤ vl b := by
  conv => rhs; rw [← List.take_append_drop k b]
  rw [zfM]
  have := Int.mul_nonneg (Int.le_of_lt (zbI (b.take k).length)) (zbp (zqk k hb))
  omega
 have q1 := ze1 ha i
 have hle : vl (a.take i) * vl b + 10000 ^ i * figL a i * vl (b.take k) ≤ vl (a.take (i + 1)) * vl b := by
  rw [e, Int.add_mul]
  have := Int.mul_le_mul_of_nonneg_left v7 (Int.mul_nonneg (Int.le_of_lt (zbI i)) q1.1)
  omega
 have hlt : vl (a.take (i + 1)) * vl b < 10000 ^ (i + 1) * 10000 ^ b.length := by
  have w1 := Int.mul_le_mul_of_nonneg_left (Int.le_of_lt v2) v4
  have w2 := Int.mul_lt_mul_of_pos_right v1 (zbI b.length)
  omega
 rw [← Int.pow_add] at hlt
 have w3 := Int.mul_le_mul_of_nonneg_left (show 1 ≤ carry by omega) (Int.le_of_lt (zbI (i + k)))
 rcases Nat.lt_or_ge b.length k with hk | hk
 ·have := zcZ (show i + 1 + b.length ≤ i + k by omega)
  omega
 ·exact hk
theorem zrB {a b out : List Int} {L i k : Nat} (h : TMI a b out L i k 0) (hk : b.length ≤ k) : TMI a b out L (i + 1) 0 0 := by
 obtain ⟨h1, h2, h3, h4, h5⟩ := h
 refine ⟨h1, h2, by decide, by decide, ?_⟩
 rw [List.take_of_length_le hk] at h5
 rw [zaD]
 simp only [List.take_zero, vl, Int.mul_zero, Int.add_zero] at h5 ⊢
 rw [h5]
 grind
theorem zrQ {x y : Nat} {out : List Int} {L i : Nat} (h : TMI (cg x) (cg y) out L i 0 0) (hi : (cg x).length ≤ i) : dg out ∧ (vl out).toNat = x * y := by
 obtain ⟨h1, h2, h3, h4, h5⟩ := h
 rw [List.take_of_length_le hi, (zeJ x).1, (zeJ y).1] at h5
 simp only [List.take_zero, vl, Int.mul_zero, Int.add_zero] at h5
 refine ⟨h2, ?_⟩
 have e : (x : Int) * (y : Int) = ((x * y : Nat) : Int) := by push_cast; rfl
 omega
theorem zqC (a b : List Int) (L : Nat) : TMI a b (List.replicate L 0) L 0 0 0 := by
 refine ⟨List.length_replicate, fun d hd => by rw [List.eq_of_mem_replicate hd]; decide, by decide, by decide, ?_⟩
 rw [zhb fun d hd => List.eq_of_mem_replicate hd]
 simp [vl]
abbrev GT := Bool × Nat
def valG (x : GT) : Int := if x.1 then -x.2 else x.2
def mkG (n : Int) : GT := (decide (n < 0), n.natAbs)
def addG (a b : GT) : GT := if a.1 = b.1 then (a.1, a.2 + b.2) else if a.2 < b.2 then (b.1, b.2 - a.2) else (a.1, a.2 - b.2)
def negG (a : GT) : GT := (!a.1, a.2)
def mulG (a b : GT) : GT := (a.1 != b.1, a.2 * b.2)
theorem zd2 (n : Int) : valG (mkG n) = n := by
 unfold valG mkG
 by_cases h : n < 0
 ·simp [h]; omega
 ·simp [h]; omega
theorem zi5 (a b : GT) : valG (addG a b) = valG a + valG b := by
 obtain ⟨p, m⟩ := a
 obtain ⟨q, n⟩ := b
 unfold addG valG
 cases p <;> cases q <;> simp <;> (try split) <;> (try simp) <;> omega
theorem zld (a : GT) : valG (negG a) = -valG a := by
 obtain ⟨p, m⟩ := a
 unfold negG valG
 cases p <;> simp
theorem zbw (a b : GT) : valG (mulG a b) = valG a * valG b := by
 obtain ⟨p, m⟩ := a
 obtain ⟨q, n⟩ := b
 unfold mulG valG
 cases p <;> cases q <;> simp <;> grind
theorem zm6 (a : GT) : (valG a).natAbs = a.2 := by
 obtain ⟨p, m⟩ := a
 unfold valG
 cases p <;> simp
abbrev FrG := GT × GT
def zjs (units : List Int) (_ : Nat) (n : FNode) : FrG := if n.kind = 1 then (mkG (units.getD n.var.toNat 0), mkG 1) else (mkG (n.num * 8388608), mkG (ten n))
def zjF (_ : Nat) (n : FNode) (a b : FrG) : FrG :=
 if n.kind = 3 then (addG (mulG a.1 b.2) (mulG b.1 a.2), mulG a.2 b.2)
 else if n.kind = 4 then (addG (mulG a.1 b.2) (negG (mulG b.1 a.2)), mulG a.2 b.2)
 else (mulG a.1 b.1, mulG (mulG a.2 b.2) (mkG 8388608))
def zff (x : FrG) : Fr2 := (valG x.1, valG x.2)
end FoT
namespace FoT
theorem znf (units : List Int) (i : Nat) (n : FNode) : zff (zjs units i n) = zjr units i n := by
 unfold zjs zjr zff
 split
 ·rw [zd2]; rfl
 ·rw [zd2, zd2]
theorem zng (i : Nat) (n : FNode) (a b : FrG) : zff (zjF i n a b) = zgz i n (zff a) (zff b) := by
 unfold zjF zgz zff
 split
 ·rw [zi5, zbw, zbw, zbw]
 ·split
  ·rw [zi5, zld, zbw, zbw, zbw]; rfl
  ·rw [zbw, zbw, zbw, zd2]
theorem zou {S T : Type} (g : S → T) (d : S) (lf : Nat → FNode → S) (jn : Nat → FNode → S → S → S) (lf' : Nat → FNode → T) (jn' : Nat → FNode → T → T → T) (hl : ∀ i n, g (lf i n) = lf' i n) (hj : ∀ i n a b, g (jn i n a b) = jn' i n (g a) (g b)) :
  ∀ (code : List FNode) (i : Nat) (st : List S), (zaN d lf jn i code st).map g = zaN (g d) lf' jn' i code (st.map g) := by
 intro code
 induction code with
 | nil => intro i st; rfl
 | cons n r ih =>
  intro i st
  have hg : ∀ k, (st.map g).getD k (g d) = g (st.getD k d) := by
   intro k
   rw [List.getD_eq_getElem?_getD, List.getD_eq_getElem?_getD, List.getElem?_map]
   cases st[k]? <;> rfl
  unfold zaN
  split
  ·rw [ih, List.map_append, List.map_singleton, hl]
  ·rw [ih, List.map_append, List.map_singleton, hj, List.map_take, List.length_map, hg, hg]
def zgn (f : FormT) (units : List Int) : FrG := (zaN (mkG 0, mkG 1) (zjs units) zjF 0 f.code []).getD 0 (mkG 0, mkG 1)
theorem zkY (f : FormT) (units : List Int) : zff (zgn f units) = ziE f units := by
 unfold zgn ziE
 have h := zou zff (mkG 0, mkG 1) (zjs units) zjF (zjr units) zgz (znf units) zng f.code 0 []
 have e : zff (mkG 0, mkG 1) = (0, 1) := by unfold zff; rw [zd2, zd2]
 rw [e, List.map_nil] at h
 rw [← h, List.getD_eq_getElem?_getD, List.getD_eq_getElem?_getD, List.getElem?_map]
 cases (zaN (mkG 0, mkG 1) (zjs units) zjF 0 f.code [])[0]? with
 | none => exact e
 | some x => rfl
def zla (f : FormT) (units : List Int) (is halves : Int) : Bool :=
 !decide ((mulG (mkG halves) (zgn f units).2).2 < (addG (mulG (mkG (2 * is)) (zgn f units).2) (negG (mulG (mkG 2) (zgn f units).1))).2)
theorem zph {f : FormT} {units : List Int} {is halves : Int} (h0 : 0 ≤ halves) (hp : 0 < (ziE f units).2) (h : zcu is halves (ziE f units)) : zla f units is halves = true := by
 unfold zla
 rw [← zkY] at hp h
 unfold zcu zff at h
 unfold zff at hp
 dsimp only at h hp
 simp only [Bool.not_eq_true', decide_eq_false_iff_not, Nat.not_lt]
 rw [← zm6, ← zm6 (mulG _ _), zi5, zld, zbw, zbw, zbw, zd2, zd2, zd2]
 generalize valG (zgn f units).2 = w at *
 generalize valG (zgn f units).1 = p at *
 have h1 : 0 ≤ halves * w := Int.mul_nonneg h0 (Int.le_of_lt hp)
 rw [show 2 * is * w + -(2 * p) = 2 * is * w - 2 * p by omega]
 generalize 2 * is * w = q at *
 generalize halves * w = r at *
 omega
def wtG (x : FrG) (k : Nat) : Prop := 2 ≤ k ∧ (x.1.2 : Int) < 10000 ^ (k - 2) ∧ (x.2.2 : Int) < 10000 ^ (k - 2)
theorem zin {a b : Nat} {i k : Nat} (ha : (a : Int) < 10000 ^ i) (hb : (b : Int) < 10000 ^ k) : ((a * b : Nat) : Int) < 10000 ^ (i + k) := by
 rw [Int.pow_add]
 push_cast
 have h1 := Int.mul_le_mul_of_nonneg_left (Int.le_of_lt hb) (show (0 : Int) ≤ a by omega)
 have h2 := Int.mul_lt_mul_of_pos_right ha (zbI k)
 omega
theorem zgc {a : Nat} {i k : Nat} (ha : (a : Int) < 10000 ^ i) (h : i ≤ k) : (a : Int) < 10000 ^ k := Int.lt_of_lt_of_le ha (zcZ h)
theorem zoG (a b : GT) : (addG a b).2 ≤ a.2 + b.2 := by
 unfold addG
 split
 ·exact Nat.le_refl _
 ·split <;> dsimp only <;> omega
theorem zjV {a b : GT} {k : Nat} (ha : (a.2 : Int) < 10000 ^ k) (hb : (b.2 : Int) < 10000 ^ k) : ((addG a b).2 : Int) < 10000 ^ (k + 1) := by
 have := zoG a b
 rw [Int.pow_succ]
 have := zbI k
 omega
theorem zrM {i : Nat} {n : FNode} {a b : FrG} {j k : Nat} (ha : wtG a j) (hb : wtG b k) : wtG (zjF i n a b) (j + k) := by
 obtain ⟨a0, a1, a2⟩ := ha
 obtain ⟨b0, b1, b2⟩ := hb
 have m1 := zin a1 b2
 have m2 := zin b1 a2
 have m3 := zin a2 b2
 have m4 := zin a1 b1
 have e : j - 2 + (k - 2) + 2 = j + k - 2 := by omega
 have e' : k - 2 + (j - 2) = j - 2 + (k - 2) := by omega
 rw [e'] at m2
 have ws : ((mkG 8388608).2 : Int) < 10000 ^ 2 := by decide
 unfold zjF
 split
 ·exact ⟨by omega, by rw [← e]; exact zgc (zjV m1 m2) (by omega), by rw [← e]; exact zgc m3 (by omega)⟩
 ·split
  ·exact ⟨by omega, by rw [← e]; exact zgc (zjV (b := negG _) m1 m2) (by omega), by rw [← e]; exact zgc m3 (by omega)⟩
  ·exact ⟨by omega, by rw [← e]; exact zgc m4 (by omega), by rw [← e]; exact zin m3 ws⟩
def wtL : List FrG → Nat → Prop
 | [], s => s = 0
 | x :: r, s => ∃ k t, wtG x k ∧ wtL r t ∧ s = k + t
theorem zk8 : ∀ {x y : List FrG} {s : Nat}, wtL (x ++ y) s ↔ ∃ a b, wtL x a ∧ wtL y b ∧ s = a + b
 | [], y, s => ⟨fun h => ⟨0, s, rfl, h, by omega⟩, fun ⟨a, b, h1, h2, h3⟩ => by have : a = 0 := h1; subst this; rw [h3, Nat.zero_add]; exact h2⟩
 | x :: r, y, s => by
  constructor
  ·rintro ⟨k, t, h1, h2, h3⟩
   obtain ⟨a, b, g1, g2, g3⟩ := zk8.1 h2
   exact ⟨k + a, b, ⟨k, a, h1, g1, rfl⟩, g2, by omega⟩
  ·rintro ⟨a, b, ⟨k, t, h1, h2, h3⟩, g2, g3⟩
   exact ⟨k, t + b, h1, zk8.2 ⟨t, b, h2, g2, rfl⟩, by omega⟩
theorem zrN {x : FrG} {s : Nat} : wtL [x] s ↔ wtG x s :=
 ⟨fun ⟨k, t, h1, h2, h3⟩ => by have : t = 0 := h2; subst this; rw [h3]; exact h1, fun h => ⟨s, 0, h, rfl, rfl⟩⟩
theorem zrL {units : List Int} (hu : ∀ u ∈ units, u.natAbs ≤ 16777216) {nv : Nat} {n : FNode} (hk : n.kind = 1 ∨ n.kind = 2) (hf : fine nv n) (i : Nat) : wtG (zjs units i n) 6 := by
 unfold zjs
 split
 ·refine ⟨by decide, ?_, (show ((1 : Nat) : Int) < 10000 ^ 4 by decide)⟩
  show ((units.getD n.var.toNat 0).natAbs : Int) < 10000 ^ 4
  rw [List.getD_eq_getElem?_getD]
  cases h : units[n.var.toNat]? with
  | none => decide
  | some u =>
   have := hu u (List.mem_of_getElem? h)
   show (u.natAbs : Int) < 10000 ^ 4
   omega
 ·rename_i h1
  have hk2 : n.kind = 2 := by omega
  unfold fine at hf
  rw [if_neg h1, if_pos hk2] at hf
  obtain ⟨_, f1, f2, f3, f4, _⟩ := hf
  have ht : ten n ≤ 1000000 ∧ 0 < ten n := by
   unfold ten
   have : n.places = 1 ∨ n.places = 2 ∨ n.places = 3 ∨ n.places = 4 ∨ n.places = 5 ∨ n.places = 6 := by omega
   rcases this with h | h | h | h | h | h <;> rw [h] <;> decide
  have f4' : n.num ≤ ten n - 1 := f4
  refine ⟨by decide, ?_, ?_⟩
  ·show ((n.num * 8388608).natAbs : Int) < 10000 ^ 4
   omega
  ·show ((ten n).natAbs : Int) < 10000 ^ 4
   omega
end FoT
namespace Go.Proofs.YtmceekhgnfpamaaGreatDoor
open Go Go.QL FoT
set_option maxHeartbeats 1600000
attribute [local irreducible] ACall FnC
theorem zoS (n lo hi : Int) : FnC Tryz.prog 61 [iv .i64 n, iv .i64 lo, iv .i64 hi] (bv (bif decide (lo ≤ n) then decide (n ≤ hi) else false)) := by
 refine hdC Tryz.func61 Tryz.ntmps61 (res := [.tmp 6]) fun w0 K0 => ?_
 repeat' first | refine zd ?_ | ((first | refine zi ?_ | refine regA ?_ | refine pkA ?_ | fail); conv => whnf) | fail
 rfl
theorem zjG (n lo hi : Int) : (bif decide (lo ≤ n) then decide (n ≤ hi) else false) = decide (lo ≤ n ∧ n ≤ hi) := by
 rw [Bool.eq_iff_iff, decide_eq_true_iff, Bool.cond_eq_ite]
 by_cases h : lo ≤ n <;> simp [h]
theorem zho (n lo hi : Int) : FnC Tryz.prog 61 [iv .i64 n, iv .i64 lo, iv .i64 hi] (bv (decide (lo ≤ n ∧ n ≤ hi))) := by
 rw [← zjG]; exact zoS n lo hi
theorem znG {i n : Nat} (h : i ≤ n) (hn : n ≤ 18) : 1 ≤ (10 : Int) ^ i ∧ (10 : Int) ^ i ≤ 1000000000000000000 := by
 have h1 : (10 : Nat) ^ i ≤ 10 ^ 18 := Nat.pow_le_pow_right (by decide) (by omega)
 have h2 : 1 ≤ (10 : Nat) ^ i := Nat.one_le_pow _ _ (by decide)
 have e : (10 : Int) ^ i = ((10 ^ i : Nat) : Int) := by norm_cast
 rw [e]
 omega
theorem zpv (n : Nat) (h : n ≤ 18) : FnC Tryz.prog 124 [iv .i64 n] (iv .i64 ((10 : Int) ^ n)) := by
 refine hdC Tryz.func124 Tryz.ntmps124 (res := [.tmp 2]) fun w0 K0 => ?_
 repeat' first | refine zd ?_ | refine zc ?_ | ((refine regA ?_); conv => whnf) | fail
 refine zJ (fun i : Nat => [(4, iv .i64 i), (3, iv .i64 ((10 : Int) ^ i)), (0, iv .i64 n)]) (fun _ => []) (fun i => i ≤ n) (fun i => n - i) 0 (Nat.zero_le _) impA ?_
 intro i hi
 rcases Nat.lt_or_ge i n with hil | hil
 ·have h1 := znG (show i + 1 ≤ n by omega) h
  have e1 : (10 : Int) ^ (i + 1) = 10 * 10 ^ i := by rw [Int.pow_succ, Int.mul_comm]
  rw [e1] at h1
  generalize (10 : Int) ^ i = p at h1 e1
  repeat' first | refine zd ?_ | refine zc ?_ | ((first | refine zf ?_ | refine zk ?_ | refine zi ?_ | refine regA ?_ | fail); conv => whnf) | exact abA hb | (refine zso rfl (fun hb => ?_) (fun hb => ?_)) | ((refine zsq ?_); conv => whnf) | fail
  exact ⟨i + 1, by omega, by omega, (impX (by repeat' (first | exact trivial | refine And.intro ?_ ?_ | exact ivE e1.symm | exact zsw)))⟩
 ·obtain rfl : i = n := by omega
  repeat' first | refine zd ?_ | refine zc ?_ | ((first | refine zf ?_ | refine zk ?_ | refine zi ?_ | refine regA ?_ | fail); conv => whnf) | exact abA hb | (refine zso rfl (fun hb => ?_) (fun hb => ?_)) | fail
  rfl
theorem zls {n : FNode} (h : 1 ≤ n.places ∧ n.places ≤ 6) : FnC Tryz.prog 124 [iv .i64 n.places] (iv .i64 (ten n)) := by
 have t := zpv n.places.toNat (by omega)
 rw [show ((n.places.toNat : Nat) : Int) = n.places by omega] at t
 exact t
theorem zlv (n : FNode) : FnC Tryz.prog 64 [ndAV n] (bv (decide (3 ≤ n.kind ∧ n.kind ≤ 5))) := by
 have ri := zho
 refine hdC Tryz.func64 Tryz.ntmps64 (res := [.tmp 2]) fun w0 K0 => ?_
 repeat' first | refine zd ?_ | ((first | refine zi ?_ | refine regA ?_ | refine zsn ((ri _ _ _)) ?_ | refine andA ?_ | fail); conv => whnf) | fail
 rfl
theorem b3 (a b c : Prop) [Decidable a] [Decidable b] [Decidable c] : (bif (bif decide a then decide b else false) then decide c else false) = decide (a ∧ b ∧ c) := by
 by_cases a <;> by_cases b <;> by_cases c <;> simp [*]
theorem znu (f : FormT) (n : FNode) : FnC Tryz.prog 63 [zaB f, ndAV n] (iv .i64 (zbA f.vars.length n)) := by
 have ri := zho
 have hlv : (f.vars.map zaa).length = f.vars.length := List.length_map _
 by_cases hk : 1 ≤ n.kind ∧ n.kind ≤ 5
 ·have hcf : (!decide (1 ≤ n.kind ∧ n.kind ≤ 5)) = false := by rw [decide_eq_true hk]; rfl
  have hn : zbA f.vars.length n = if fine f.vars.length n then 0 else 7 := by unfold zbA; rw [if_pos hk]
  rw [hn]
  by_cases k1 : n.kind = 1
  ·have e : fine f.vars.length n ↔ (0 ≤ n.var ∧ n.var ≤ (f.vars.length : Int) - 1) ∧ n.num = 0 ∧ n.places = 0 := by unfold fine; rw [if_pos k1]; exact ⟨fun ⟨a, b, c⟩ => ⟨⟨a, b⟩, c⟩, fun ⟨⟨a, b⟩, c⟩ => ⟨a, b, c⟩⟩
   have hq : (bif (bif decide (0 ≤ n.var ∧ n.var ≤ ((f.vars.map zaa).length : Int) - 1) then n.num == 0 else false) then n.places == 0 else false) = decide (fine f.vars.length n) := by
    rw [hlv]
    refine (b3 _ (n.num = 0) (n.places = 0)).trans ?_
    rw [Bool.eq_iff_iff, decide_eq_true_iff, decide_eq_true_iff, e]
   by_cases hf : fine f.vars.length n
   ·rw [if_pos hf]
    rw [decide_eq_true hf] at hq
    refine hdC Tryz.func63 Tryz.ntmps63 (res := [.tmp 4]) fun w0 K0 => ?_
    repeat' first | refine zd ?_ | ((first | refine zf ?_ | refine zi ?_ | refine regA ?_ | refine drA (id := 7) 15 false [0, 1, 3, 7, 15, 31, 63, 127, 255, 511, 1023, 511, 2559, 6655, 14847, 32767, 65535, 131071, 262143, 524287, 1048575, 2097151, 4194303, 8388607, 16777215, 33554431, 67108863, 134217727, 268435455] ?_ | fail); conv => whnf) | exact abA hb | (refine za rfl (zM hcf) (fun _ => ?_)) | (refine za rfl (zM ((congrArg not hq).trans rfl)) (fun _ => ?_)) | ((first | refine zsn ((ri _ _ _)) ?_ | refine pkA ?_ | fail); conv => whnf) | (refine zso rfl (fun hb => ?_) (fun hb => ?_)) | ((refine zsq ?_); conv => whnf) | (refine lnA fun hln => ?_; conv => whnf) | fail
    rfl
   ·rw [if_neg hf]
    rw [decide_eq_false hf] at hq
    refine hdC Tryz.func63 Tryz.ntmps63 (res := [.tmp 4]) fun w0 K0 => ?_
    repeat' first | refine zd ?_ | ((first | refine zf ?_ | refine zi ?_ | refine regA ?_ | refine drA (id := 7) 15 false [0, 1, 3, 7, 15, 31, 63, 127, 255, 511, 1023, 511, 2559, 6655, 14847, 32767, 65535, 131071, 262143, 524287, 1048575, 2097151, 4194303, 8388607, 16777215, 33554431, 67108863, 134217727, 268435455] ?_ | fail); conv => whnf) | exact abA hb | (refine za rfl (zM hcf) (fun _ => ?_)) | (refine za rfl (fun _ => ?_) (zaf ((congrArg not hq).trans rfl))) | ((first | refine zsn ((ri _ _ _)) ?_ | refine pkA ?_ | fail); conv => whnf) | (refine zso rfl (fun hb => ?_) (fun hb => ?_)) | ((refine zsq ?_); conv => whnf) | (refine lnA fun hln => ?_; conv => whnf) | fail
    rfl
  ·by_cases k2 : n.kind = 2
   ·have e := zgA (nv := f.vars.length) k2
    by_cases hp : n.var = 0 ∧ 1 ≤ n.places ∧ n.places ≤ 6
    ·have t := zls hp.2
     have ht := (zdk hp.2).2
     have hw : IntKind.i64.wrap (ten n - 1) = ten n - 1 := zg (by omega)
     have hq : (bif (bif (bif n.var == 0 then decide (1 ≤ n.places ∧ n.places ≤ 6) else false) then decide (0 ≤ n.num ∧ n.num ≤ ten n - 1) else false) then (bif n.places == 1 then true else (n.num.tmod 10 != 0)) else false) = decide (fine f.vars.length n) := by
      have h1 : (bif n.var == 0 then decide (1 ≤ n.places ∧ n.places ≤ 6) else false) = true := by rw [hp.1, decide_eq_true hp.2]; rfl
      rw [h1, cond_true, Bool.eq_iff_iff, decide_eq_true_iff, e]
      by_cases h2 : 0 ≤ n.num ∧ n.num ≤ ten n - 1
      ·rw [decide_eq_true h2, cond_true, Int.tmod_eq_emod_of_nonneg h2.1]
       by_cases h3 : n.places = 1
       ·simp [h3, h2, hp.1]
       ·simp [h3, h2, hp.1, hp.2]; omega
      ·rw [decide_eq_false h2, cond_false]
       simp [h2]
     by_cases hf : fine f.vars.length n
     ·rw [if_pos hf]
      rw [decide_eq_true hf] at hq
      refine hdC Tryz.func63 Tryz.ntmps63 (res := [.tmp 4]) fun w0 K0 => ?_
      repeat' first | refine zd ?_ | ((first | refine zf ?_ | refine zi ?_ | refine regA ?_ | refine drA (id := 7) 15 false [0, 1, 3, 7, 15, 31, 63, 127, 255, 511, 1023, 511, 2559, 6655, 14847, 32767, 65535, 131071, 262143, 524287, 1048575, 2097151, 4194303, 8388607, 16777215, 33554431, 67108863, 134217727, 268435455] ?_ | fail); conv => whnf) | exact abA hb | (refine za rfl (zM hcf) (fun _ => ?_)) | (refine za rfl (zM ((congrArg not hq).trans rfl)) (fun _ => ?_)) | ((first | refine zsn ((ri _ _ _)) ?_ | refine zsp ((ri _ _ _)) ?_ | refine zsr ((ri _ _ _)) ?_ | refine zsr (t) ?_ | refine pkA ?_ | refine ⟨_, hw, ?_⟩ | refine ⟨Int.tmod _ _, rfl, ?_⟩ | fail); conv => whnf) | (refine zso rfl (fun hb => ?_) (fun hb => ?_)) | ((refine andA ?_); conv => whnf) | fail
      rfl
     ·rw [if_neg hf]
      rw [decide_eq_false hf] at hq
      refine hdC Tryz.func63 Tryz.ntmps63 (res := [.tmp 4]) fun w0 K0 => ?_
      repeat' first | refine zd ?_ | ((first | refine zf ?_ | refine zi ?_ | refine regA ?_ | refine drA (id := 7) 15 false [0, 1, 3, 7, 15, 31, 63, 127, 255, 511, 1023, 511, 2559, 6655, 14847, 32767, 65535, 131071, 262143, 524287, 1048575, 2097151, 4194303, 8388607, 16777215, 33554431, 67108863, 134217727, 268435455] ?_ | fail); conv => whnf) | exact abA hb | (refine za rfl (zM hcf) (fun _ => ?_)) | (refine za rfl (fun _ => ?_) (zaf ((congrArg not hq).trans rfl))) | ((first | refine zsn ((ri _ _ _)) ?_ | refine zsp ((ri _ _ _)) ?_ | refine zsr ((ri _ _ _)) ?_ | refine zsr (t) ?_ | refine pkA ?_ | refine ⟨_, hw, ?_⟩ | refine ⟨Int.tmod _ _, rfl, ?_⟩ | fail); conv => whnf) | (refine zso rfl (fun hb => ?_) (fun hb => ?_)) | ((refine andA ?_); conv => whnf) | fail
      rfl
    ·have hf : ¬ fine f.vars.length n := fun h => hp ⟨(e.1 h).1, (e.1 h).2.1⟩
     rw [if_neg hf]
     have h1 : (bif n.var == 0 then decide (1 ≤ n.places ∧ n.places ≤ 6) else false) = false := by
      by_cases hv : n.var = 0
      ·rw [hv, decide_eq_false (fun h => hp ⟨hv, h⟩)]; rfl
      ·rw [beq_eq_false_iff_ne.2 hv]; rfl
     refine hdC Tryz.func63 Tryz.ntmps63 (res := [.tmp 4]) fun w0 K0 => ?_
     repeat' first | refine zd ?_ | ((first | refine zf ?_ | refine zi ?_ | refine regA ?_ | refine drA (id := 7) 15 false [0, 1, 3, 7, 15, 31, 63, 127, 255, 511, 1023, 511, 2559, 6655, 14847, 32767, 65535, 131071, 262143, 524287, 1048575, 2097151, 4194303, 8388607, 16777215, 33554431, 67108863, 134217727, 268435455] ?_ | fail); conv => whnf) | exact abA hb | (refine za rfl (zM hcf) (fun _ => ?_)) | ((first | refine zsn ((ri _ _ _)) ?_ | refine zsp ((ri _ _ _)) ?_ | refine zsr ((ri _ _ _)) ?_ | refine pkA ?_ | refine ⟨iv .i64 0, zax (fun h => absurd (h1.symm.trans h) (by decide)), ?_⟩ | refine ⟨Int.tmod _ _, rfl, ?_⟩ | fail); conv => whnf) | (refine za rfl (fun _ => ?_) (zaf (by rw [h1]; rfl))) | (refine zso rfl (fun hb => ?_) (fun hb => ?_)) | ((first | refine zsq ?_ | refine andA ?_ | fail); conv => whnf) | fail
     rfl
   ·have hq : (bif (bif n.var == 0 then n.num == 0 else false) then n.places == 0 else false) = decide (fine f.vars.length n) := by
     refine (b3 (n.var = 0) (n.num = 0) (n.places = 0)).trans ?_
     unfold fine
     simp only [if_neg k1, if_neg k2]
    by_cases hf : fine f.vars.length n
    ·rw [if_pos hf]
     rw [decide_eq_true hf] at hq
     refine hdC Tryz.func63 Tryz.ntmps63 (res := [.tmp 4]) fun w0 K0 => ?_
     repeat' first | refine zd ?_ | ((first | refine zf ?_ | refine zi ?_ | refine regA ?_ | refine drA (id := 7) 15 false [0, 1, 3, 7, 15, 31, 63, 127, 255, 511, 1023, 511, 2559, 6655, 14847, 32767, 65535, 131071, 262143, 524287, 1048575, 2097151, 4194303, 8388607, 16777215, 33554431, 67108863, 134217727, 268435455] ?_ | fail); conv => whnf) | exact abA hb | (refine za rfl (zM hcf) (fun _ => ?_)) | (refine za rfl (zM ((congrArg not hq).trans rfl)) (fun _ => ?_)) | ((first | refine zsn ((ri _ _ _)) ?_ | refine pkA ?_ | fail); conv => whnf) | (refine zso rfl (fun hb => ?_) (fun hb => ?_)) | fail
     rfl
    ·rw [if_neg hf]
     rw [decide_eq_false hf] at hq
     refine hdC Tryz.func63 Tryz.ntmps63 (res := [.tmp 4]) fun w0 K0 => ?_
     repeat' first | refine zd ?_ | ((first | refine zf ?_ | refine zi ?_ | refine regA ?_ | refine drA (id := 7) 15 false [0, 1, 3, 7, 15, 31, 63, 127, 255, 511, 1023, 511, 2559, 6655, 14847, 32767, 65535, 131071, 262143, 524287, 1048575, 2097151, 4194303, 8388607, 16777215, 33554431, 67108863, 134217727, 268435455] ?_ | fail); conv => whnf) | exact abA hb | (refine za rfl (zM hcf) (fun _ => ?_)) | (refine za rfl (fun _ => ?_) (zaf ((congrArg not hq).trans rfl))) | ((first | refine zsn ((ri _ _ _)) ?_ | refine pkA ?_ | fail); conv => whnf) | (refine zso rfl (fun hb => ?_) (fun hb => ?_)) | fail
     rfl
 ·have hct : (!decide (1 ≤ n.kind ∧ n.kind ≤ 5)) = true := by rw [decide_eq_false hk]; rfl
  have hn : zbA f.vars.length n = 2 := by unfold zbA; rw [if_neg hk]
  rw [hn]
  refine hdC Tryz.func63 Tryz.ntmps63 (res := [.tmp 4]) fun w0 K0 => ?_
  repeat' first | refine zd ?_ | ((first | refine zi ?_ | refine regA ?_ | fail); conv => whnf) | (refine za rfl (fun _ => ?_) (zaf hct)) | ((first | refine zsn ((ri _ _ _)) ?_ | refine pkA ?_ | fail); conv => whnf) | fail
  rfl
end Go.Proofs.YtmceekhgnfpamaaGreatDoor
namespace Go.Proofs.YtmceekhgnfpamaaGreatDoor
open Go Go.QL FoT
set_option maxHeartbeats 3200000
attribute [local irreducible] ACall FnC fine ten zbx zav zaw
theorem zpE (n lo hi : Int) : FnC Tryz.prog 123 [iv .i64 n, iv .i64 lo, iv .i64 hi] (bv (decide (lo ≤ n ∧ n ≤ hi))) := by
 rw [← zjG]
 refine hdC Tryz.func123 Tryz.ntmps123 (res := [.tmp 6]) fun w0 K0 => ?_
 repeat' first | refine zd ?_ | ((first | refine zi ?_ | refine regA ?_ | refine pkA ?_ | fail); conv => whnf) | fail
 rfl
abbrev rLet (c : UInt8) : Bool := bif decide ((c.toNat : Int) ≥ 97) then decide ((c.toNat : Int) ≤ 122) else false
abbrev rOth (c : UInt8) : Bool := bif (bif decide ((c.toNat : Int) ≥ 48) then decide ((c.toNat : Int) ≤ 57) else false) then true else ((c.toNat : Int) == 95)
theorem znw (i : Nat) (c : UInt8) : (bif (!rLet c) then (bif ((i : Int) == 0) then true else !rOth c) else false) = !zg2 (decide (i = 0)) c := by
 rw [zg1]
 show _ = !(rLet c || zkW i c)
 cases rLet c with
 | true => rfl
 | false =>
  rw [Bool.false_or, Bool.not_false, cond_true]
  unfold zkW rOth
  by_cases hi : i = 0
  ·subst hi; rfl
  ·rw [beq_eq_false_iff_ne.2 (by omega), decide_eq_true (show (i : Int) > 0 by omega), cond_false, cond_true]
   cases decide ((c.toNat : Int) ≥ 48) <;> cases decide ((c.toNat : Int) ≤ 57) <;> cases ((c.toNat : Int) == 95) <;> rfl
theorem znv (l : Bs8) : FnC Tryz.prog 62 [sv (bs l)] (bv (zbb l)) := by
 have hsz := zbj l
 have hli := zco l
 have o := zpE (bs l).size 1 20
 by_cases h1 : 1 ≤ l.length ∧ l.length ≤ 20
 ·have ho : decide ((1 : Int) ≤ (bs l).size ∧ ((bs l).size : Int) ≤ 20) = true := decide_eq_true (by omega)
  rw [ho] at o
  have hg : (bs l).data.toList[((bs l).size - 1 : Int).toNat]? = some (l.getLastD 0) := by
   rw [hli, show ((bs l).size - 1 : Int).toNat = l.length - 1 by omega]
   exact zkd h1.1
  cases h2 : zpT l with
  | true =>
   have hr : zbb l = false := by
    unfold zbb
    rw [← zeo, h2]; simp
   rw [hr]
   refine hdC Tryz.func62 Tryz.ntmps62 (res := [.tmp 2]) fun w0 K0 => ?_
   repeat' first | refine zd ?_ | ((first | refine zi ?_ | refine regA ?_ | refine zsn (o) ?_ | refine ⟨_, ze ⟨by omega, hg⟩, ?_⟩ | fail); conv => whnf) | (refine za rfl (fun _ => ?_) (zaf h2)) | ((first | refine zsq ?_ | refine andA ?_ | fail); conv => whnf) | fail
   rfl
  | false =>
   have hr : zbb l = z7 true l := by
    unfold zbb
    rw [← zeo, h2, decide_eq_true h1.1, decide_eq_true h1.2]; rfl
   rw [hr]
   refine hdC Tryz.func62 Tryz.ntmps62 (res := [.tmp 2]) fun w0 K0 => ?_
   repeat' first | refine zd ?_ | refine zc ?_ | ((first | refine zf ?_ | refine regA ?_ | refine zsn (o) ?_ | refine ⟨_, ze ⟨by omega, hg⟩, ?_⟩ | fail); conv => whnf) | (refine za rfl (zM h2) (fun _ => ?_)) | ((first | refine zsq ?_ | refine andA ?_ | fail); conv => whnf) | fail
   refine zJ (fun i : Nat => [(3, iv .i64 i), (0, sv (bs l))]) (fun _ => [])
    (fun i => i ≤ l.length ∧ z7 true l = z7 (decide (i = 0)) (l.drop i)) (fun i => l.length - i) 0 ⟨Nat.zero_le _, rfl⟩ impA ?_
   rintro i ⟨hi, hn⟩
   rcases Nat.lt_or_ge i l.length with hil | hil
   ·rw [List.drop_eq_getElem_cons hil, z7] at hn
    have hgi : (bs l).data.toList[(i : Int).toNat]? = some l[i] := by rw [hli, Int.toNat_natCast, List.getElem?_eq_getElem hil]
    have hq := znw i l[i]
    cases ha : zg2 (decide (i = 0)) l[i] with
    | true =>
     rw [ha] at hn hq
     have hn : z7 true l = z7 (decide (i + 1 = 0)) (l.drop (i + 1)) := hn
     repeat' first | refine zd ?_ | refine zc ?_ | ((first | refine zf ?_ | refine zk ?_ | refine zi ?_ | refine regA ?_ | refine drA (id := 6) 27 false [0, 0, 3, 7, 15, 31, 31, 127, 255, 511, 0, 0, 3072, 7168, 15391, 31775, 31775, 130079, 261151, 523295, 1047583, 2096159, 2096159, 8387615, 16776223, 33553439, 2097151, 134217727] ?_ | fail); conv => whnf) | exact abA hb | (refine za rfl (zM hq) (fun _ => ?_)) | ((first | refine pkA ?_ | refine ⟨_, ze ⟨by omega, hgi⟩, ?_⟩ | fail); conv => whnf) | (refine zso rfl (fun hb => ?_) (fun hb => ?_)) | ((first | refine zsq ?_ | refine andA ?_ | fail); conv => whnf) | fail
     exact ⟨i + 1, ⟨by omega, hn⟩, by omega, impA⟩
    | false =>
     rw [ha] at hn hq
     have hn : z7 true l = false := hn
     rw [hn]
     repeat' first | refine zd ?_ | refine zc ?_ | ((first | refine zf ?_ | refine zk ?_ | refine zi ?_ | refine regA ?_ | refine drA (id := 6) 27 false [0, 0, 3, 7, 15, 31, 31, 127, 255, 511, 0, 0, 3072, 7168, 15391, 31775, 31775, 130079, 261151, 523295, 1047583, 2096159, 2096159, 8387615, 16776223, 33553439, 2097151, 134217727] ?_ | fail); conv => whnf) | exact abA hb | (refine za rfl (fun _ => ?_) (zaf hq)) | ((first | refine pkA ?_ | refine ⟨_, ze ⟨by omega, hgi⟩, ?_⟩ | fail); conv => whnf) | (refine zso rfl (fun hb => ?_) (fun hb => ?_)) | ((refine andA ?_); conv => whnf) | fail
     rfl
   ·rw [List.drop_eq_nil_of_le hil] at hn
    have hn : z7 true l = true := hn
    rw [hn]
    repeat' first | refine zd ?_ | refine zc ?_ | ((first | refine zf ?_ | refine zk ?_ | refine zi ?_ | refine regA ?_ | refine drA (id := 6) 27 false [0, 0, 3, 7, 15, 31, 31, 127, 255, 511, 0, 0, 3072, 7168, 15391, 31775, 31775, 130079, 261151, 523295, 1047583, 2096159, 2096159, 8387615, 16776223, 33553439, 2097151, 134217727] ?_ | fail); conv => whnf) | exact abA hb | (refine zso rfl (fun hb => ?_) (fun hb => ?_)) | fail
    rfl
 ·have ho : decide ((1 : Int) ≤ (bs l).size ∧ ((bs l).size : Int) ≤ 20) = false := decide_eq_false (by omega)
  rw [ho] at o
  have hr : zbb l = false := by
   unfold zbb
   have : (decide (1 ≤ l.length) && decide (l.length ≤ 20)) = false := by
    rw [Bool.eq_false_iff]; simp; omega
   rw [this]; rfl
  rw [hr]
  refine hdC Tryz.func62 Tryz.ntmps62 (res := [.tmp 2]) fun w0 K0 => ?_
  repeat' first | refine zd ?_ | ((first | refine zi ?_ | refine regA ?_ | refine zsn (o) ?_ | refine ⟨95, zax (fun h => absurd h (by decide)), ?_⟩ | fail); conv => whnf) | (refine zst rfl ?_) | ((first | refine ⟨IntKind.wrap _ _, rfl, ?_⟩ | refine andA ?_ | fail); conv => whnf) | fail
  rfl
theorem zrp {f : FormT} {s : CS} (hv : zaw [] f.vars = none) (h0 : ¬ (8 < f.vars.length ∨ ¬ (1 ≤ f.code.length ∧ f.code.length ≤ 40))) (h : CkR f f.code.length s) : zD f = if s.p ≠ 1 then 6 else if s.b = false ∨ s.u < f.vars.length then 2 else 0 := by
 unfold CkR at h
 unfold zD
 rw [if_neg h0, hv]
 dsimp only
 rw [h, List.drop_length, zav]
theorem zjW {V : List Bs8} {i : Nat} (h : i < V.length) : (V.map zaa)[(i : Int).toNat]? = some [PV.v (.string (bs V[i]))] := by
 rw [Int.toNat_natCast, List.getElem?_map, List.getElem?_eq_getElem h]; rfl
theorem zh7 (f : FormT) : FnC Tryz.prog 21 [zaB f] (iv .i64 (zD f)) := by
 have hlv : (f.vars.map zaa).length = f.vars.length := List.length_map _
 have hlc : (f.code.map ndPV).length = f.code.length := List.length_map _
 have o1 := zho ((f.code.map ndPV).length : Int) 1 40
 by_cases h0 : 8 < f.vars.length ∨ ¬ (1 ≤ f.code.length ∧ f.code.length ≤ 40)
 ·have hr : zD f = 3 := by unfold zD; rw [if_pos h0]
  rw [hr]
  have hc : (bif decide (((f.vars.map zaa).length : Int) > 8) then true else !decide ((1 : Int) ≤ ((f.code.map ndPV).length : Int) ∧ ((f.code.map ndPV).length : Int) ≤ 40)) = true := by
   rcases h0 with h | h
   ·rw [decide_eq_true (show ((f.vars.map zaa).length : Int) > 8 by omega)]; rfl
   ·rw [decide_eq_false (show ¬ ((1 : Int) ≤ ((f.code.map ndPV).length : Int) ∧ ((f.code.map ndPV).length : Int) ≤ 40) by omega)]; cases decide (((f.vars.map zaa).length : Int) > 8) <;> rfl
  refine hdC Tryz.func21 Tryz.ntmps21 (res := [.tmp 2]) fun w0 K0 => ?_
  repeat' first | refine zd ?_ | ((first | refine zi ?_ | refine regA ?_ | refine zsp (o1) ?_ | fail); conv => whnf) | (refine za rfl (fun _ => ?_) (zaf hc)) | ((refine andA ?_); conv => whnf) | (refine lnA fun hln => ?_; conv => whnf) | fail
  rfl
 ·have hc : (bif decide (((f.vars.map zaa).length : Int) > 8) then true else !decide ((1 : Int) ≤ ((f.code.map ndPV).length : Int) ∧ ((f.code.map ndPV).length : Int) ≤ 40)) = false := by
   rw [decide_eq_false (show ¬ ((f.vars.map zaa).length : Int) > 8 by omega), decide_eq_true (show ((1 : Int) ≤ ((f.code.map ndPV).length : Int) ∧ ((f.code.map ndPV).length : Int) ≤ 40) by omega)]; rfl
  have hv8 : f.vars.length ≤ 8 := by omega
  have hc40 : f.code.length ≤ 40 := by omega
  refine hdC Tryz.func21 Tryz.ntmps21 (res := [.tmp 2]) fun w0 K0 => ?_
  repeat' first | refine zd ?_ | refine zc ?_ | ((first | refine zf ?_ | refine regA ?_ | refine zsp (o1) ?_ | fail); conv => whnf) | (refine za rfl (zM hc) (fun _ => ?_)) | ((refine andA ?_); conv => whnf) | (refine lnA fun hln => ?_; conv => whnf) | fail
  refine zJ (fun i : Nat => [(3, iv .i64 i), (1, .x (.b 1 0))]) (fun _ => [(1, .box (zb5 f))])
   (fun i => i ≤ f.vars.length ∧ zaw [] f.vars = zaw (f.vars.take i) (f.vars.drop i)) (fun i => f.vars.length - i) 0 ⟨Nat.zero_le _, by simp⟩ impA ?_
  rintro i ⟨hi, hz⟩
  rcases Nat.lt_or_ge i f.vars.length with hil | hil
  ·have nf := znv f.vars[i]
   rw [List.drop_eq_getElem_cons hil] at hz
   have gi := zjW hil
   cases hN : zbb f.vars[i] with
   | false =>
    have hr : zD f = 6 := by
     unfold zD
     rw [if_neg h0, hz, zaw, if_pos hN]
    rw [hr]
    rw [hN] at nf
    repeat' first | refine zd ?_ | refine zc ?_ | ((first | refine zf ?_ | refine zk ?_ | refine zi ?_ | refine regA ?_ | fail); conv => whnf) | exact abA hb | ((first | refine zsn (nf) ?_ | refine ⟨_, ze ⟨by omega, gi⟩, ?_⟩ | fail); conv => whnf) | (refine zst rfl ?_) | (refine zso rfl (fun hb => ?_) (fun hb => ?_)) | ((refine andA ?_); conv => whnf) | (refine lnA fun hln => ?_; conv => whnf) | fail
    rfl
   | true =>
    rw [hN] at nf
    repeat' first | refine zd ?_ | refine zc ?_ | ((first | refine zf ?_ | refine zk ?_ | refine regA ?_ | fail); conv => whnf) | exact abA hb | ((first | refine zsn (nf) ?_ | refine ⟨_, ze ⟨by omega, gi⟩, ?_⟩ | fail); conv => whnf) | (refine zss rfl ?_) | (refine zso rfl (fun hb => ?_) (fun hb => ?_)) | ((refine andA ?_); conv => whnf) | (refine lnA fun hln => ?_; conv => whnf) | fail
    refine zJ (fun k : Nat => [(4, iv .i64 k), (3, iv .i64 i), (1, .x (.b 1 0))]) (fun _ => [(1, .box (zb5 f))])
     (fun k => k ≤ i ∧ f.vars[i] ∉ f.vars.take k) (fun k => i - k) 0 ⟨Nat.zero_le _, by simp⟩ impA ?_
    rintro k ⟨hk, hm⟩
    rcases Nat.lt_or_ge k i with hki | hki
    ·have gk := zjW (show k < f.vars.length by omega)
     by_cases he : f.vars[k] = f.vars[i]
     ·have hr : zD f = 5 := by
       unfold zD
       rw [if_neg h0, hz, zaw, if_neg (by rw [hN]; decide), if_pos]
       rw [← he]
       refine List.mem_iff_getElem.2 ⟨k, by rw [List.length_take]; omega, ?_⟩
       rw [List.getElem_take]
      rw [hr]
      have hq : ((bs f.vars[k]).toList == (bs f.vars[i]).toList) = true := by rw [zdf]; exact decide_eq_true he
      repeat' first | refine zd ?_ | refine zc ?_ | ((first | refine zf ?_ | refine zk ?_ | refine zi ?_ | refine regA ?_ | refine drA (id := 11) 10 false [0, 1, 0, 7, 15, 0, 32, 0, 224, 480, 1023] ?_ | fail); conv => whnf) | exact abA hb | (refine za rfl (fun _ => ?_) (zaf hq)) | ((first | refine ⟨_, ze ⟨by omega, gi⟩, ?_⟩ | refine ⟨_, ze ⟨by omega, gk⟩, ?_⟩ | fail); conv => whnf) | (refine zso rfl (fun hb => ?_) (fun hb => ?_)) | ((refine andA ?_); conv => whnf) | fail
      rfl
     ·have hq : ((bs f.vars[k]).toList == (bs f.vars[i]).toList) = false := by rw [zdf]; exact decide_eq_false he
      have hm2 : f.vars[i] ∉ f.vars.take (k + 1) := by
       rw [List.take_add_one, List.getElem?_eq_getElem (show k < f.vars.length by omega), List.mem_append, not_or]
       exact ⟨hm, by simp; exact fun h => he h.symm⟩
      repeat' first | refine zd ?_ | refine zc ?_ | ((first | refine zf ?_ | refine zk ?_ | refine regA ?_ | refine drA (id := 11) 10 false [0, 1, 0, 7, 15, 0, 32, 0, 224, 480, 1023] ?_ | fail); conv => whnf) | exact abA hb | (refine za rfl (zM hq) (fun _ => ?_)) | ((first | refine ⟨_, ze ⟨by omega, gi⟩, ?_⟩ | refine ⟨_, ze ⟨by omega, gk⟩, ?_⟩ | fail); conv => whnf) | (refine zso rfl (fun hb => ?_) (fun hb => ?_)) | ((first | refine zsq ?_ | refine andA ?_ | fail); conv => whnf) | fail
      exact ⟨k + 1, ⟨by omega, hm2⟩, by omega, impA⟩
    ·obtain rfl : k = i := by omega
     have hz2 : zaw [] f.vars = zaw (f.vars.take (k + 1)) (f.vars.drop (k + 1)) := by
      rw [hz, zaw, if_neg (by rw [hN]; decide), if_neg hm, List.take_add_one, List.getElem?_eq_getElem hil]; rfl
     repeat' first | refine zd ?_ | refine zc ?_ | ((first | refine zf ?_ | refine zk ?_ | refine regA ?_ | refine drA (id := 11) 10 false [0, 1, 0, 7, 15, 0, 32, 0, 224, 480, 1023] ?_ | fail); conv => whnf) | exact abA hb | (refine zso rfl (fun hb => ?_) (fun hb => ?_)) | ((refine zsq ?_); conv => whnf) | fail
     exact ⟨k + 1, ⟨by omega, hz2⟩, by omega, impA⟩
  ·have hv : zaw [] f.vars = none := by rw [hz, List.drop_eq_nil_of_le hil, zaw]
   obtain rfl : i = f.vars.length := by omega
   clear hz o1 hc
   repeat' first | refine zd ?_ | refine zc ?_ | ((first | refine zf ?_ | refine zk ?_ | refine regA ?_ | fail); conv => whnf) | exact abA hb | (refine zso rfl (fun hb => ?_) (fun hb => ?_)) | ((refine andA ?_); conv => whnf) | (refine lnA fun hln => ?_; conv => whnf) | fail
   refine zJ (fun x : Nat × CS => [(8, iv .i64 x.1), (5, iv .i64 x.2.p), (6, iv .i64 x.2.u), (7, bv x.2.b), (1, .x (.b 1 0))]) (fun _ => [(1, .box (zb5 f))])
    (fun x => x.1 ≤ f.code.length ∧ x.2.p ≤ 12 ∧ x.2.u ≤ f.vars.length ∧ CkR f x.1 x.2) (fun x => f.code.length - x.1) (0, ⟨0, 0, true⟩) ⟨Nat.zero_le _, Nat.zero_le _, Nat.zero_le _, rfl⟩ impA ?_
   rintro ⟨i, s⟩ ⟨hi, hp, hu, hz⟩
   dsimp only at hi hp hu hz ⊢
   rcases Nat.lt_or_ge i f.code.length with hil | hil
   ·have stop := fun {e : Int} => zmX (e := e) hv h0 hil hz
    have next := fun {s' : CS} => zmY (s' := s') hil hz
    have nf := znu f f.code[i]
    have op := zlv f.code[i]
    clear hz
    by_cases hk : 1 ≤ f.code[i].kind ∧ f.code[i].kind ≤ 5
    ·by_cases hf : fine f.vars.length f.code[i]
     ·have hn0 : zbA f.vars.length f.code[i] = 0 := by unfold zbA; rw [if_pos hk, if_pos hf]
      rw [hn0] at nf
      by_cases k3 : 3 ≤ f.code[i].kind
      ·have st := zqJ (s := s) k3 hk.2 hp hf
       rw [decide_eq_true (show 3 ≤ f.code[i].kind ∧ f.code[i].kind ≤ 5 from ⟨k3, hk.2⟩)] at op
       have c1 : (bif f.code[i].kind == 1 then decide (f.code[i].var > s.u) else false) = false := by rw [beq_eq_false_iff_ne.2 (by omega)]; rfl
       have c2 : (bif f.code[i].kind == 1 then f.code[i].var == s.u else false) = false := by rw [beq_eq_false_iff_ne.2 (by omega)]; rfl
       by_cases hp2 : s.p < 2
       ·rw [if_pos hp2] at st
        rw [stop st]
        repeat' first | refine zd ?_ | refine zc ?_ | ((first | refine zf ?_ | refine zk ?_ | refine zi ?_ | refine regA ?_ | fail); conv => whnf) | exact abA hb | ((first | refine zsn (nf) ?_ | refine zsn (op) ?_ | fail); conv => whnf) | (refine zst rfl ?_) | (refine zss rfl ?_) | (refine zso rfl (fun hb => ?_) (fun hb => ?_)) | ((first | refine andA ?_ | with_reducible refine exA fun _ => ?_ | fail); conv => whnf) | (refine lnA fun hln => ?_; conv => whnf) | fail
        rfl
       ·rw [if_neg hp2] at st
        repeat' first | refine zd ?_ | refine zc ?_ | ((first | refine zf ?_ | refine zk ?_ | refine zi ?_ | refine regA ?_ | fail); conv => whnf) | exact abA hb | (refine za rfl (zM c1) (fun _ => ?_)) | (refine za rfl (zM c2) (fun _ => ?_)) | ((first | refine zsn (nf) ?_ | refine zsn (op) ?_ | refine pkA ?_ | fail); conv => whnf) | (refine zst rfl ?_) | (refine zss rfl ?_) | (refine zso rfl (fun hb => ?_) (fun hb => ?_)) | ((first | refine zsq ?_ | refine andA ?_ | with_reducible refine exA fun _ => ?_ | fail); conv => whnf) | (refine lnA fun hln => ?_; conv => whnf) | fail
        exact ⟨(i + 1, (⟨s.p - 2 + 1, s.u, s.b⟩ : CS)), ⟨by show i + 1 ≤ f.code.length; omega, by show s.p - 2 + 1 ≤ 12; omega, hu, next st⟩, by show f.code.length - (i + 1) < f.code.length - i; omega, impA⟩
      ·rw [decide_eq_false (fun h => k3 h.1)] at op
       have st := zhi (s := s) hk hf
       rw [if_neg (fun h => k3 h.1), if_neg k3] at st
       by_cases h12 : 12 < s.p + 1
       ·rw [if_pos h12] at st
        rw [stop st]
        repeat' first | refine zd ?_ | refine zc ?_ | ((first | refine zf ?_ | refine zk ?_ | refine zi ?_ | refine regA ?_ | fail); conv => whnf) | exact abA hb | ((first | refine zsn (nf) ?_ | refine zsn (op) ?_ | fail); conv => whnf) | (refine zss rfl ?_) | (refine zso rfl (fun hb => ?_) (fun hb => ?_)) | ((first | refine zsq ?_ | refine andA ?_ | with_reducible refine exA fun _ => ?_ | fail); conv => whnf) | (refine lnA fun hln => ?_; conv => whnf) | fail
        rfl
       ·rw [if_neg h12] at st
        by_cases k1 : f.code[i].kind = 1
        ·have hvar := hf
         unfold fine at hvar
         rw [if_pos k1] at hvar
         by_cases hg : (s.u : Int) < f.code[i].var
         ·rw [if_neg (by omega), decide_eq_true k1, decide_eq_true hg] at st
          have c1 : (bif f.code[i].kind == 1 then decide (f.code[i].var > s.u) else false) = true := by rw [beq_iff_eq.2 k1, decide_eq_true (show f.code[i].var > s.u from hg)]; rfl
          have c2 : (bif f.code[i].kind == 1 then f.code[i].var == s.u else false) = false := by rw [beq_eq_false_iff_ne.2 (show f.code[i].var ≠ s.u by omega)]; cases (f.code[i].kind == 1) <;> rfl
          have hbb : false = (s.b && !(true && true)) := by simp
          repeat' first | refine zd ?_ | refine zc ?_ | ((first | refine zf ?_ | refine zk ?_ | refine zi ?_ | refine regA ?_ | fail); conv => whnf) | exact abA hb | (refine za rfl (fun _ => ?_) (zaf c1)) | (refine za rfl (zM c2) (fun _ => ?_)) | ((first | refine zsn (nf) ?_ | refine zsn (op) ?_ | refine pkA ?_ | fail); conv => whnf) | (refine zss rfl ?_) | (refine zso rfl (fun hb => ?_) (fun hb => ?_)) | ((first | refine zsq ?_ | refine andA ?_ | with_reducible refine exA fun _ => ?_ | fail); conv => whnf) | (refine lnA fun hln => ?_; conv => whnf) | fail
          exact ⟨(i + 1, (⟨s.p + 1, s.u, s.b && !(true && true)⟩ : CS)), ⟨by show i + 1 ≤ _; omega, by show s.p + 1 ≤ 12; omega, hu, next st⟩, by show f.code.length - (i + 1) < f.code.length - i; omega, (impX (by repeat' (first | exact trivial | refine And.intro ?_ ?_ | exact bvE hbb | exact zsw)))⟩
         ·rw [decide_eq_false hg] at st
          have c1 : (bif f.code[i].kind == 1 then decide (f.code[i].var > s.u) else false) = false := by rw [decide_eq_false (show ¬ f.code[i].var > s.u from hg)]; cases (f.code[i].kind == 1) <;> rfl
          have hbb : s.b = (s.b && !(decide (f.code[i].kind = 1) && false)) := by simp
          by_cases hue : f.code[i].var = s.u
          ·rw [if_pos ⟨k1, hue⟩] at st
           have c2 : (bif f.code[i].kind == 1 then f.code[i].var == s.u else false) = true := by rw [beq_iff_eq.2 k1, beq_iff_eq.2 hue]; rfl
           repeat' first | refine zd ?_ | refine zc ?_ | ((first | refine zf ?_ | refine zk ?_ | refine zi ?_ | refine regA ?_ | fail); conv => whnf) | exact abA hb | (refine za rfl (zM c1) (fun _ => ?_)) | (refine za rfl (fun _ => ?_) (zaf c2)) | ((first | refine zsn (nf) ?_ | refine zsn (op) ?_ | refine pkA ?_ | fail); conv => whnf) | (refine zss rfl ?_) | (refine zso rfl (fun hb => ?_) (fun hb => ?_)) | ((first | refine zsq ?_ | refine andA ?_ | with_reducible refine exA fun _ => ?_ | fail); conv => whnf) | (refine lnA fun hln => ?_; conv => whnf) | fail
           exact ⟨(i + 1, (⟨s.p + 1, s.u + 1, s.b && !(decide (f.code[i].kind = 1) && false)⟩ : CS)), ⟨by show i + 1 ≤ _; omega, by show s.p + 1 ≤ 12; omega, by show s.u + 1 ≤ f.vars.length; omega, next st⟩, by show f.code.length - (i + 1) < f.code.length - i; omega, (impX (by repeat' (first | exact trivial | refine And.intro ?_ ?_ | exact bvE hbb | exact zsw)))⟩
          ·rw [if_neg (fun h => hue h.2)] at st
           have c2 : (bif f.code[i].kind == 1 then f.code[i].var == s.u else false) = false := by rw [beq_eq_false_iff_ne.2 hue]; cases (f.code[i].kind == 1) <;> rfl
           repeat' first | refine zd ?_ | refine zc ?_ | ((first | refine zf ?_ | refine zk ?_ | refine zi ?_ | refine regA ?_ | fail); conv => whnf) | exact abA hb | (refine za rfl (zM c1) (fun _ => ?_)) | (refine za rfl (zM c2) (fun _ => ?_)) | ((first | refine zsn (nf) ?_ | refine zsn (op) ?_ | refine pkA ?_ | fail); conv => whnf) | (refine zss rfl ?_) | (refine zso rfl (fun hb => ?_) (fun hb => ?_)) | ((first | refine zsq ?_ | refine andA ?_ | with_reducible refine exA fun _ => ?_ | fail); conv => whnf) | (refine lnA fun hln => ?_; conv => whnf) | fail
           exact ⟨(i + 1, (⟨s.p + 1, s.u, s.b && !(decide (f.code[i].kind = 1) && false)⟩ : CS)), ⟨by show i + 1 ≤ _; omega, by show s.p + 1 ≤ 12; omega, hu, next st⟩, by show f.code.length - (i + 1) < f.code.length - i; omega, (impX (by repeat' (first | exact trivial | refine And.intro ?_ ?_ | exact bvE hbb | exact zsw)))⟩
        ·rw [if_neg (fun h => k1 h.1), decide_eq_false k1] at st
         have c1 : (bif f.code[i].kind == 1 then decide (f.code[i].var > s.u) else false) = false := by rw [beq_eq_false_iff_ne.2 k1]; rfl
         have c2 : (bif f.code[i].kind == 1 then f.code[i].var == s.u else false) = false := by rw [beq_eq_false_iff_ne.2 k1]; rfl
         have hbb : s.b = (s.b && !(false && decide ((s.u : Int) < f.code[i].var))) := by simp
         repeat' first | refine zd ?_ | refine zc ?_ | ((first | refine zf ?_ | refine zk ?_ | refine zi ?_ | refine regA ?_ | fail); conv => whnf) | exact abA hb | (refine za rfl (zM c1) (fun _ => ?_)) | (refine za rfl (zM c2) (fun _ => ?_)) | ((first | refine zsn (nf) ?_ | refine zsn (op) ?_ | refine pkA ?_ | fail); conv => whnf) | (refine zss rfl ?_) | (refine zso rfl (fun hb => ?_) (fun hb => ?_)) | ((first | refine zsq ?_ | refine andA ?_ | with_reducible refine exA fun _ => ?_ | fail); conv => whnf) | (refine lnA fun hln => ?_; conv => whnf) | fail
         exact ⟨(i + 1, (⟨s.p + 1, s.u, s.b && !(false && decide ((s.u : Int) < f.code[i].var))⟩ : CS)), ⟨by show i + 1 ≤ _; omega, by show s.p + 1 ≤ 12; omega, hu, next st⟩, by show f.code.length - (i + 1) < f.code.length - i; omega, (impX (by repeat' (first | exact trivial | refine And.intro ?_ ?_ | exact bvE hbb | exact zsw)))⟩
     ·have hn0 : zbA f.vars.length f.code[i] = 7 := by unfold zbA; rw [if_pos hk, if_neg hf]
      rw [hn0] at nf
      rw [stop (zjY hk hf)]
      repeat' first | refine zd ?_ | refine zc ?_ | ((first | refine zf ?_ | refine zk ?_ | refine zi ?_ | refine regA ?_ | fail); conv => whnf) | exact abA hb | ((refine zsn (nf) ?_); conv => whnf) | (refine zst rfl ?_) | (refine zso rfl (fun hb => ?_) (fun hb => ?_)) | ((first | refine andA ?_ | with_reducible refine exA fun _ => ?_ | fail); conv => whnf) | (refine lnA fun hln => ?_; conv => whnf) | fail
      rfl
    ·have hn0 : zbA f.vars.length f.code[i] = 2 := by unfold zbA; rw [if_neg hk]
     rw [hn0] at nf
     rw [stop (zjZ hk)]
     repeat' first | refine zd ?_ | refine zc ?_ | ((first | refine zf ?_ | refine zk ?_ | refine zi ?_ | refine regA ?_ | fail); conv => whnf) | exact abA hb | ((refine zsn (nf) ?_); conv => whnf) | (refine zst rfl ?_) | (refine zso rfl (fun hb => ?_) (fun hb => ?_)) | ((first | refine andA ?_ | with_reducible refine exA fun _ => ?_ | fail); conv => whnf) | (refine lnA fun hln => ?_; conv => whnf) | fail
     rfl
   ·obtain rfl : i = f.code.length := by omega
    have hfin := zrp hv h0 hz
    clear hz
    rw [hfin]
    by_cases p1 : s.p = 1
    ·rw [if_neg (fun h => h p1)]
     have e : (bif !s.b then true else ((s.u : Int) != ((f.vars.map zaa).length : Int))) = decide (s.b = false ∨ s.u < f.vars.length) := by
      rw [hlv, Bool.eq_iff_iff, decide_eq_true_iff]
      cases s.b with
      | false => simp
      | true =>
       rw [Bool.not_true, cond_false, bne_iff_ne]
       constructor
       ·intro h; right; omega
       ·rintro (h | h)
        ·cases h
        ·omega
     by_cases hE : s.b = false ∨ s.u < f.vars.length
     ·rw [if_pos hE]
      rw [decide_eq_true hE] at e
      repeat' first | refine zd ?_ | refine zc ?_ | ((first | refine zf ?_ | refine zk ?_ | refine zi ?_ | refine regA ?_ | fail); conv => whnf) | exact abA hb | (refine za rfl (fun _ => ?_) (zaf e)) | ((refine pkA ?_); conv => whnf) | (refine zso rfl (fun hb => ?_) (fun hb => ?_)) | (refine lnA fun hln => ?_; conv => whnf) | fail
      rfl
     ·rw [if_neg hE]
      rw [decide_eq_false hE] at e
      repeat' first | refine zd ?_ | refine zc ?_ | ((first | refine zf ?_ | refine zk ?_ | refine zi ?_ | refine regA ?_ | fail); conv => whnf) | exact abA hb | (refine za rfl (zM e) (fun _ => ?_)) | ((refine pkA ?_); conv => whnf) | (refine zso rfl (fun hb => ?_) (fun hb => ?_)) | (refine lnA fun hln => ?_; conv => whnf) | fail
      rfl
    ·rw [if_pos p1]
     repeat' first | refine zd ?_ | refine zc ?_ | ((first | refine zf ?_ | refine zk ?_ | refine zi ?_ | refine regA ?_ | fail); conv => whnf) | exact abA hb | ((refine pkA ?_); conv => whnf) | (refine zso rfl (fun hb => ?_) (fun hb => ?_)) | (refine lnA fun hln => ?_; conv => whnf) | fail
     rfl
theorem zeh {st : List (List PV)} {x : List PV} {n : Nat} (hn : n = st.length + 1) : n ≤ (st.take st.length ++ [x]).length := by
 rw [hn]; simp
theorem zdo {st : List (List PV)} {x : List PV} {n : Nat} (hn : n = st.length + 1) : (st.take st.length ++ [x]).take n = st ++ [x] := by
 rw [hn, List.take_length, List.take_of_length_le (by simp)]
end Go.Proofs.YtmceekhgnfpamaaGreatDoor
namespace Go.Proofs.YtmceekhgnfpamaaGreatDoor
open Go Go.QL FoT
set_option maxHeartbeats 3200000
attribute [local irreducible] ACall FnC
theorem zpD (n lo hi : Int) : FnC Tryz.prog 94 [iv .i64 n, iv .i64 lo, iv .i64 hi] (bv (decide (lo ≤ n ∧ n ≤ hi))) := by
 rw [← zjG]
 refine hdC Tryz.func94 Tryz.ntmps94 (res := [.tmp 6]) fun w0 K0 => ?_
 repeat' first | refine zd ?_ | ((first | refine zi ?_ | refine regA ?_ | refine pkA ?_ | fail); conv => whnf) | fail
 rfl
theorem zlD (n : Int) : FnC Tryz.prog 38 [iv .i64 n] (bv (decide (zP n))) := by
 have h := zpD n 0 16777215
 rw [show decide (0 ≤ n ∧ n ≤ 16777215) = decide (zP n) from rfl] at h
 refine hdC Tryz.func38 Tryz.ntmps38 (res := [.tmp 2]) fun w0 K0 => ?_
 repeat' first | refine zd ?_ | ((first | refine zi ?_ | refine regA ?_ | refine zsn (h) ?_ | fail); conv => whnf) | fail
 rfl
theorem zh8 (w : Int) (h : zP w) : FnC Tryz.prog 39 [iv .i64 w] (iv .i64 (sgnW w)) := by
 unfold zP at h
 unfold sgnW
 by_cases hs : 8388608 ≤ w
 ·rw [if_pos hs]
  refine hdC Tryz.func39 Tryz.ntmps39 (res := [.tmp 2]) fun w0 K0 => ?_
  repeat' first | refine zd ?_ | ((first | refine zf ?_ | refine zi ?_ | refine regA ?_ | fail); conv => whnf) | exact abA hb | (refine zso rfl (fun hb => ?_) (fun hb => ?_)) | ((refine zsq ?_); conv => whnf) | fail
  rfl
 ·rw [if_neg hs]
  refine hdC Tryz.func39 Tryz.ntmps39 (res := [.tmp 2]) fun w0 K0 => ?_
  repeat' first | refine zd ?_ | ((first | refine zf ?_ | refine zi ?_ | refine regA ?_ | fail); conv => whnf) | exact abA hb | (refine zso rfl (fun hb => ?_) (fun hb => ?_)) | fail
  rfl
end Go.Proofs.YtmceekhgnfpamaaGreatDoor
namespace Go.Proofs.YtmceekhgnfpamaaGreatDoor
open Go Go.QL FoT
set_option maxHeartbeats 3200000
attribute [local irreducible] ACall FnC fine ten zav zD
theorem zj9 {f : FormT} {i : Nat} (h : i < f.code.length) : (f.code.map ndPV)[(i : Int).toNat]? = some (ndPV f.code[i]) := by
 rw [Int.toNat_natCast, List.getElem?_map, List.getElem?_eq_getElem h]; rfl
theorem zfz {l : List Int} {i : Nat} {x : Int} (h : l[i]? = some x) : (l.map fun n : Int => [PV.v (.int .i64 n)])[i]? = some [PV.v (.int .i64 x)] := by
 rw [List.getElem?_map, h]; rfl
end Go.Proofs.YtmceekhgnfpamaaGreatDoor
namespace Go.Proofs.YtmceekhgnfpamaaGreatDoor
open Go Go.QL FoT
set_option maxHeartbeats 3200000
attribute [local irreducible] ACall FnC
def grAV (g : GT) : AV := .a [.d (.v (.bool g.1)), .d (zR (cg g.2))]
theorem ztT (l : List Int) (i : Nat) (hi : i ≤ 100000) : FnC Tryz.prog 146 [sl l, iv .i64 i] (iv .i64 (figL l i)) := by
 have hl : (l.map fun n : Int => [PV.v (.int .i64 n)]).length = l.length := List.length_map _
 by_cases h : i < l.length
 ·have g := zfz (List.getElem?_eq_getElem h)
  have e : figL l i = l[i] := by unfold figL; simp [List.getD_eq_getElem?_getD, h]
  rw [e]
  refine hdC Tryz.func146 Tryz.ntmps146 (res := [.tmp 4]) fun w0 K0 => ?_
  repeat' first | refine zd ?_ | ((first | refine zf ?_ | refine zi ?_ | refine regA ?_ | fail); conv => whnf) | exact abA hb | ((refine ⟨_, ze ⟨by omega, g⟩, ?_⟩); conv => whnf) | (refine zso rfl (fun hb => ?_) (fun hb => ?_)) | ((refine andA ?_); conv => whnf) | (refine lnA fun hln => ?_; conv => whnf) | fail
  rfl
 ·have e : figL l i = 0 := by unfold figL; simp [List.getD_eq_getElem?_getD, h]
  rw [e]
  refine hdC Tryz.func146 Tryz.ntmps146 (res := [.tmp 4]) fun w0 K0 => ?_
  repeat' first | refine zd ?_ | ((first | refine zf ?_ | refine zi ?_ | refine regA ?_ | fail); conv => whnf) | exact abA hb | (refine zso rfl (fun hb => ?_) (fun hb => ?_)) | (refine lnA fun hln => ?_; conv => whnf) | fail
  rfl
theorem ztU (l : List Int) (hd : dg l) : FnC Tryz.prog 147 [sl l] (sl (cg (vl l).toNat)) := by
 have hl : (l.map fun n : Int => [PV.v (.int .i64 n)]).length = l.length := List.length_map _
 refine hdC Tryz.func147 Tryz.ntmps147 (res := [.tmp 2]) fun w0 K0 => ?_
 repeat' first | refine zd ?_ | refine zc ?_ | ((refine regA ?_); conv => whnf) | (refine lnA fun hln => ?_; conv => whnf) | fail
 refine zJ (fun n : Nat => [(3, iv .i64 n), (0, sl l)]) (fun _ => []) (fun n => n ≤ l.length ∧ ∀ i (h : i < l.length), n ≤ i → l[i] = 0) (fun n => n) l.length ⟨Nat.le_refl _, fun i h h2 => by omega⟩ impA ?_
 rintro n ⟨hn, hz⟩
 have hend : AV.x (.d (.s 1 (List.drop (Int.toNat 0) (List.take (n : Int).toNat (l.map fun n : Int => [PV.v (.int .i64 n)]))))) = sl (l.take n) := by
  unfold sl
  rw [List.map_take]; rfl
 rcases Nat.eq_zero_or_pos n with h0 | h0
 ·subst h0
  rw [← zrP hd (Nat.zero_le _) hz (.inl rfl)]
  repeat' first | refine zd ?_ | ((first | refine zk ?_ | refine zi ?_ | refine regA ?_ | refine ⟨[.v (.int .i64 0)], zax fun h => absurd (show decide ((0 : Int) < 0) = true from h) (by decide), ?_⟩ | refine pkA ?_ | fail); conv => whnf) | (refine za rfl (zM (show (bif decide ((0 : Int) < 0) then ((0 : Int) == 0) else false) = false from rfl)) (fun _ => ?_)) | ((first | refine zsq ?_ | refine andA ?_ | fail); conv => whnf) | fail
  exact congrArg some hend
 ·have hn1 : n - 1 < l.length := by omega
  obtain ⟨v, hv⟩ : ∃ v, l[n - 1]? = some v := ⟨_, List.getElem?_eq_getElem hn1⟩
  have g := zfz hv
  rw [show n - 1 = ((n : Int) - 1).toNat by omega] at g
  have hv2 : l[n - 1] = v := by rw [List.getElem?_eq_getElem hn1] at hv; exact Option.some.inj hv
  by_cases hx : v = 0
  ·have hc : (bif decide ((0 : Int) < (n : Int)) then v == 0 else false) = true := by rw [decide_eq_true (by omega), hx]; rfl
   repeat' first | refine zd ?_ | refine zc ?_ | ((first | refine zf ?_ | refine regA ?_ | refine ⟨_, zax fun _ => ⟨by omega, g⟩, ?_⟩ | fail); conv => whnf) | (refine za rfl (fun _ => ?_) (zaf hc)) | ((first | refine zsq ?_ | refine andA ?_ | fail); conv => whnf) | fail
   exact ⟨n - 1, ⟨by omega, fun i h h2 => by
    by_cases e : i = n - 1
    ·subst e; rw [hv2]; exact hx
    ·exact hz i h (by omega)⟩, by omega, impA⟩
  ·have hc : (bif decide ((0 : Int) < (n : Int)) then v == 0 else false) = false := by rw [decide_eq_true (by omega)]; simp [hx]
   rw [← zrP hd hn hz (.inr ⟨hn1, by rw [hv2]; exact hx⟩)]
   repeat' first | refine zd ?_ | ((first | refine zk ?_ | refine zi ?_ | refine regA ?_ | refine ⟨_, zax fun _ => ⟨by omega, g⟩, ?_⟩ | fail); conv => whnf) | (refine za rfl (zM hc) (fun _ => ?_)) | ((first | refine zsq ?_ | refine andA ?_ | fail); conv => whnf) | fail
   exact congrArg some hend
theorem zui {m : Nat} (h : m ≠ 0) : cg m = ((m % 10000 : Nat) : Int) :: cg (m / 10000) := by rw [cg, dif_neg h]
theorem chT2 {e sz n m : Nat} {xs ys : List (List PV)} (h : n = m) (k : xs = ys) : some (Ob.chain e sz n xs) = some (Ob.chain e sz m ys) := by rw [h, k]
theorem bsn {out : List Int} {v : Int} : (out.map iPV).take out.length ++ [iPV v] = (out ++ [v]).map iPV := by rw [List.map_append, List.take_of_length_le (by rw [List.length_map]; exact Nat.le_refl _)]; rfl
theorem Stp.at5 {P : Program} {Γ : Cx} {y : Code} {ops : Array Oper} {b : Bool} {Q : Exit → Fr → Sg → Prop} {fr : Fr} {σ : Sg} (h : Stp P Γ (.seq (.region 5 ops b) y) Q fr σ) : AW P Γ (.seq (.region 5 ops b) y) Q fr σ := by unfold Stp at h; exact h
theorem ztZ (n : Int) (hn : i64 n) : ACall Tryz.prog 98 [iv .i64 n] [] (fun r σ' => LeW r (grAV (mkG n)) ∧ σ' = []) := by
 have hlen := ztY (m := n.natAbs) (k := 5) (by unfold i64 at hn; omega)
 unfold i64 at hn
 refine hdD Tryz.func98 Tryz.ntmps98 (res := [.cell 2 149]) fun w0 K0 B => ?_
 repeat' first | refine zd ?_ | refine zc ?_ | ((refine regA ?_); conv => whnf) | fail
 refine zaq (Imp.nil 900 3 1 (fr' := [(0, iv .i64 n), (3, .x (.b 3 0)), (2, .x (.b 2 0))]) (σ' := [(3, .box [.d (.v (.bool (decide (n < 0)))), .o 900 0 0]), (2, .box [.d (.v (.bool false)), .d (.v (.slice none 0 0))])]) rfl ?_ ?_ rfl rfl) ?_
 ·exact ⟨⟨_, rfl, .inl rfl⟩, ⟨_, rfl, .inl rfl⟩, ⟨_, rfl, .inl rfl⟩, trivial⟩
 ·exact ⟨⟨_, rfl, .inr ⟨_, _, rfl, rfl, .inl rfl, .inr ⟨rfl, rfl⟩, trivial⟩⟩, ⟨_, rfl, .inl rfl⟩, trivial⟩
 refine zJ (fun x : Int × List Int => [(0, iv .i64 x.1), (3, .x (.b 3 0)), (2, .x (.b 2 0))])
  (fun x => [(900, .chain 3 1 x.2.length (x.2.map iPV)), (3, .box [.d (.v (.bool (decide (n < 0)))), .o 900 x.2.length x.2.length]), (2, .box [.d (.v (.bool false)), .d (.v (.slice none 0 0))])])
  (fun x => x.1.natAbs ≤ n.natAbs ∧ cg n.natAbs = x.2 ++ cg x.1.natAbs) (fun x => x.1.natAbs) (n, []) ⟨Nat.le_refl _, rfl⟩ impA ?_
 rintro ⟨m, out⟩ ⟨hm, he⟩
 dsimp only at hm he ⊢
 have hol : out.length ≤ 5 := by
  have := congrArg List.length he
  rw [List.length_append] at this; omega
 have hml : (out.map iPV).length = out.length := List.length_map _
 have g0 : out.length ≤ (out.map iPV).length := by omega
 by_cases h0 : m = 0
 ·subst h0
  rw [show (0 : Int).natAbs = 0 from rfl, zr8, List.append_nil] at he
  have hE : zR out = .s 1 ((out.map iPV).take out.length) := by rw [List.take_of_length_le (by omega)]; rfl
  repeat' first | (with_reducible refine Stp.at5 ?_) | refine zd ?_ | ((first | refine zk ?_ | refine regA ?_ | fail); conv => whnf) | (refine zss rfl ?_) | fail
  unfold Stp
  refine zaq (Imp.freezeB 900 (fr' := [(3, .x (.b 3 0)), (2, .x (.b 2 0))]) (σ' := [(3, .box [.d (.v (.bool (decide (n < 0)))), .d (zR out)]), (2, .box [.d (.v (.bool false)), .d (.v (.slice none 0 0))])]) rfl
   ⟨⟨_, rfl, .inl rfl⟩, ⟨_, rfl, .inl rfl⟩, trivial⟩ ⟨⟨_, rfl, .inr ⟨_, _, rfl, rfl, ⟨.inl rfl, .inr ⟨_, rfl, g0, congrArg SV.d hE⟩, trivial⟩⟩⟩, ⟨_, rfl, .inl rfl⟩, trivial⟩ rfl rfl) ?_
  repeat' first | refine zd ?_ | ((first | refine zi ?_ | refine regA ?_ | fail); conv => whnf) | fail
  have hg : grAV (mkG n) = .a [.d (.v (.bool (decide (n < 0)))), .d (zR out)] := by unfold grAV mkG; rw [← he]
  rw [hg]
  exact ⟨_, [], trivial, rfl, rfl, ⟨.inl rfl, .inl rfl, trivial⟩, rfl⟩
 ·have e1 := Int.natAbs_tdiv m 10000
  have e2 := Int.natAbs_tmod m 10000
  rw [zui (m := m.natAbs) (by omega)] at he
  rw [show (10000 : Int).natAbs = 10000 from rfl] at e1 e2
  replace e1 : (m.tdiv 10000).natAbs = m.natAbs / 10000 := e1
  rw [← e1, ← e2] at he
  have w1 : IntKind.i64.wrap (m.tdiv 10000) = m.tdiv 10000 := zg (by omega)
  repeat' first | refine zd ?_ | refine zc ?_ | ((first | refine zf ?_ | refine zk ?_ | refine zi ?_ | refine regA ?_ | fail); conv => whnf) | exact abA hb | ((first | refine ⟨Int.tmod _ _, rfl, ?_⟩ | refine ⟨_, w1, ?_⟩ | refine And.intro ⟨g0, by show out.length + 1 ≤ _; unfold maxLen; omega, by show (out.length + 1) * 8 ≤ _; omega⟩ ?_ | fail); conv => whnf) | (refine zso rfl (fun hb => ?_) (fun hb => ?_)) | ((first | refine zsq ?_ | refine andA ?_ | fail); conv => whnf) | fail
  have hf : (m.tmod 10000).natAbs < 10000 := by omega
  generalize m.tmod 10000 = t at *
  generalize m.tdiv 10000 = q at *
  have mx : (if 0 - t > t then 0 - t else t) = (t.natAbs : Int) := by split <;> omega
  have hl1 : out.length + 1 = (out ++ [(t.natAbs : Int)]).length := by rw [List.length_append]; rfl
  have hx : (out.map iPV).take out.length ++ [iPV (if 0 - t > t then 0 - t else t)] = (out ++ [(t.natAbs : Int)]).map iPV := by rw [mx]; exact bsn
  exact ⟨(q, out ++ [(t.natAbs : Int)]), ⟨by show q.natAbs ≤ _; omega, by rw [he]; exact List.append_cons ..⟩, by show q.natAbs < m.natAbs; omega, (impX (by repeat' (first | exact trivial | refine And.intro ?_ ?_ | exact chT2 hl1 hx | exact congrArg (fun k : Nat => some (Ob.box [.d (.v (.bool (decide (n < 0)))), .o 900 k k])) hl1 | exact zsw)))⟩
theorem ztR (n : Int) (hn : i64 n) : FnC Tryz.prog 98 [iv .i64 n] (grAV (mkG n)) :=
 zfd ((ztZ n hn).leW fun _ _ h => ⟨_, h.1, rfl, h.2⟩)
theorem zt6 (x y : Nat) (hx : (cg x).length ≤ 1000) : FnC Tryz.prog 100 [sl (cg x), sl (cg y)] (bv (decide (x < y))) := by
 have hlx : ((cg x).map fun n : Int => [PV.v (.int .i64 n)]).length = (cg x).length := List.length_map _
 have hly : ((cg y).map fun n : Int => [PV.v (.int .i64 n)]).length = (cg y).length := List.length_map _
 by_cases hl : (cg x).length = (cg y).length
 ·refine hdC Tryz.func100 Tryz.ntmps100 (res := [.tmp 4]) fun w0 K0 => ?_
  repeat' first | refine zd ?_ | refine zc ?_ | ((first | refine zf ?_ | refine regA ?_ | fail); conv => whnf) | exact abA hb | (refine zso rfl (fun hb => ?_) (fun hb => ?_)) | ((refine zsq ?_); conv => whnf) | (refine lnA fun hln => ?_; conv => whnf) | fail
  refine zJ (fun k : Nat => [(5, iv .i64 ((k : Int) - 1)), (1, sl (cg y)), (0, sl (cg x))]) (fun _ => []) (fun k => k ≤ (cg x).length ∧ ∀ j, k ≤ j → figL (cg x) j = figL (cg y) j) (fun k => k) (cg x).length
   ⟨Nat.le_refl _, fun j hj => by unfold figL; rw [List.getD_eq_getElem?_getD, List.getD_eq_getElem?_getD, List.getElem?_eq_none (by omega), List.getElem?_eq_none (by omega)]⟩ impA ?_
  rintro k ⟨hk, he⟩
  rcases Nat.eq_zero_or_pos k with h0 | h0
  ·subst h0
   have e := zuj (zuh hl fun j => he j (Nat.zero_le _))
   rw [decide_eq_false (by omega)]
   repeat' first | refine zd ?_ | ((first | refine zk ?_ | refine zi ?_ | refine regA ?_ | fail); conv => whnf) | (refine zss rfl ?_) | fail
   rfl
  ·have gx := List.getElem?_eq_getElem (show k - 1 < (cg x).length by omega)
   have gy := List.getElem?_eq_getElem (show k - 1 < (cg y).length by omega)
   obtain ⟨u, hu⟩ : ∃ u, (cg x)[k - 1]? = some u := ⟨_, gx⟩
   obtain ⟨v, hv⟩ : ∃ v, (cg y)[k - 1]? = some v := ⟨_, gy⟩
   have fx : figL (cg x) (k - 1) = u := by unfold figL; rw [List.getD_eq_getElem?_getD, hu]; rfl
   have fy : figL (cg y) (k - 1) = v := by unfold figL; rw [List.getD_eq_getElem?_getD, hv]; rfl
   have g1 := zfz hu
   have g2 := zfz hv
   rw [show k - 1 = ((k : Int) - 1).toNat by omega] at g1 g2
   by_cases huv : u = v
   ·repeat' first | refine zd ?_ | refine zc ?_ | ((first | refine zf ?_ | refine zk ?_ | refine zi ?_ | refine regA ?_ | refine drA (id := 6) 8 false [0, 0, 3, 7, 0, 0, 48, 112, 255] ?_ | refine drA (id := 7) 8 false [0, 0, 3, 7, 0, 0, 48, 112, 255, 511] ?_ | fail); conv => whnf) | exact abA hb | ((first | refine ⟨_, ze ⟨by omega, g1⟩, ?_⟩ | refine ⟨_, ze ⟨by omega, g2⟩, ?_⟩ | fail); conv => whnf) | (refine zso rfl (fun hb => ?_) (fun hb => ?_)) | ((first | refine zsq ?_ | refine andA ?_ | fail); conv => whnf) | fail
    exact ⟨k - 1, ⟨by omega, fun j hj => by
     by_cases e : j = k - 1
     ·subst e; rw [fx, fy]; exact huv
     ·exact he j (by omega)⟩, by omega, impA⟩
   ·have hd : decide (u < v) = decide (x < y) := by
     by_cases h : u < v
     ·rw [decide_eq_true h, decide_eq_true (zqv (i := k - 1) hl (fun j hj => he j (by omega)) (by rw [fx, fy]; exact h))]
     ·have := zqv (i := k - 1) hl.symm (fun j hj => (he j (by omega)).symm) (show figL (cg y) (k - 1) < figL (cg x) (k - 1) by rw [fx, fy]; omega)
      rw [decide_eq_false h, decide_eq_false (by omega)]
    rw [← hd]
    repeat' first | refine zd ?_ | refine zc ?_ | ((first | refine zf ?_ | refine zk ?_ | refine zi ?_ | refine regA ?_ | refine drA (id := 6) 8 false [0, 0, 3, 7, 0, 0, 48, 112, 255] ?_ | refine drA (id := 7) 8 false [0, 0, 3, 7, 0, 0, 48, 112, 255, 511] ?_ | fail); conv => whnf) | exact abA hb | ((first | refine ⟨_, ze ⟨by omega, g1⟩, ?_⟩ | refine ⟨_, ze ⟨by omega, g2⟩, ?_⟩ | fail); conv => whnf) | (refine zso rfl (fun hb => ?_) (fun hb => ?_)) | ((refine andA ?_); conv => whnf) | fail
    rfl
 ·have hd : decide (((cg x).length : Int) < (cg y).length) = decide (x < y) := by
   by_cases h : (cg x).length < (cg y).length
   ·rw [decide_eq_true (by omega), decide_eq_true (zrq h)]
   ·have := zrq (show (cg y).length < (cg x).length by omega)
    rw [decide_eq_false (by omega), decide_eq_false (by omega)]
  rw [← hd]
  rw [← hlx, ← hly]
  refine hdC Tryz.func100 Tryz.ntmps100 (res := [.tmp 4]) fun w0 K0 => ?_
  repeat' first | refine zd ?_ | ((first | refine zf ?_ | refine zi ?_ | refine regA ?_ | fail); conv => whnf) | exact abA hb | (refine zso rfl (fun hb => ?_) (fun hb => ?_)) | (refine lnA fun hln => ?_; conv => whnf) | fail
  rfl
end Go.Proofs.YtmceekhgnfpamaaGreatDoor
namespace Go.Proofs.YtmceekhgnfpamaaGreatDoor
open Go Go.QL FoT
set_option maxHeartbeats 3200000
attribute [local irreducible] ACall FnC
theorem zt8 {x y : Nat} {out : List Int} {f carry : Int} {i : Nat} (hf : f = 1 ∨ (f = -1 ∧ y ≤ x)) (h : PSI (cg x) (cg y) out f carry i) (hx : (cg x).length + 1 ≤ i) (hy : (cg y).length + 1 ≤ i) : carry = 0 := by
 obtain ⟨e1, e2⟩ := zpF hf h (by omega) (by omega)
 obtain ⟨h1, h2, h3, h4, h5⟩ := h
 have v0 := zbp h2
 have x1 := zkC (zeJ x).2.1
 have y1 := zkC (zeJ y).2.1
 rw [(zeJ x).1] at x1
 rw [(zeJ y).1] at y1
 obtain ⟨k, rfl⟩ : ∃ k, i = k + 1 := ⟨i - 1, by omega⟩
 have x2 := zcZ (show (cg x).length ≤ k by omega)
 have y2 := zcZ (show (cg y).length ≤ k by omega)
 rw [Int.pow_succ] at e2
 have hp := zbI k
 rcases (show carry = 0 ∨ carry = 1 by omega) with h | rfl
 ·exact h
 ·rcases hf with rfl | ⟨rfl, _⟩ <;> omega
theorem zt7 {x y : Nat} {out : List Int} {f carry : Int} {i : Nat} (hf : f = 1 ∨ (f = -1 ∧ y ≤ x)) (h : PSI (cg x) (cg y) out f carry i) (hc : i < (cg x).length ∨ i < (cg y).length ∨ carry ≠ 0) : i ≤ max (cg x).length (cg y).length := by
 rcases Nat.lt_or_ge (max (cg x).length (cg y).length) i with h1 | h1
 ·have := zt8 hf h (by omega) (by omega)
  omega
 ·exact h1
theorem Stp.at13 {P : Program} {Γ : Cx} {y : Code} {ops : Array Oper} {b : Bool} {Q : Exit → Fr → Sg → Prop} {fr : Fr} {σ : Sg} (h : Stp P Γ (.seq (.region 13 ops b) y) Q fr σ) : AW P Γ (.seq (.region 13 ops b) y) Q fr σ := by unfold Stp at h; exact h
theorem ztW (x y : Nat) (f : Int) (hf : f = 1 ∨ (f = -1 ∧ y ≤ x)) (hx : (cg x).length ≤ 1000) (hy : (cg y).length ≤ 1000) : FnC Tryz.prog 145 [sl (cg x), sl (cg y), iv .i64 f] (sl (cg ((x : Int) + f * y).toNat)) := by
 have hlx : ((cg x).map fun n : Int => [PV.v (.int .i64 n)]).length = (cg x).length := List.length_map _
 have hly : ((cg y).map fun n : Int => [PV.v (.int .i64 n)]).length = (cg y).length := List.length_map _
 have hf2 : f = 1 ∨ f = -1 := by omega
 refine hdC Tryz.func145 Tryz.ntmps145 (res := [.tmp 6]) fun w0 K0 => ?_
 repeat' first | refine zd ?_ | refine zc ?_ | ((refine regA ?_); conv => whnf) | fail
 refine zaq (Imp.nil 900 3 1 (fr' := [(9, iv .i64 0), (8, iv .i64 0), (7, .x (.o 900 0 0)), (2, iv .i64 f), (1, sl (cg y)), (0, sl (cg x))]) (σ' := []) rfl ?_ ?_ rfl rfl) ?_
 ·exact ⟨⟨_, rfl, .inl rfl⟩, ⟨_, rfl, .inl rfl⟩, ⟨_, rfl, .inr ⟨rfl, rfl⟩⟩, ⟨_, rfl, .inl rfl⟩, ⟨_, rfl, .inl rfl⟩, ⟨_, rfl, .inl rfl⟩, trivial⟩
 ·exact trivial
 refine zJ (fun z : Nat × Int × List Int => [(9, iv .i64 z.1), (8, iv .i64 z.2.1), (7, .x (.o 900 z.2.2.length z.2.2.length)), (2, iv .i64 f), (1, sl (cg y)), (0, sl (cg x))])
  (fun z => [(900, .chain 3 1 z.2.2.length (z.2.2.map iPV))])
  (fun z => z.1 ≤ max (cg x).length (cg y).length + 1 ∧ PSI (cg x) (cg y) z.2.2 f z.2.1 z.1) (fun z => max (cg x).length (cg y).length + 1 - z.1) (0, 0, [])
  ⟨Nat.zero_le _, rfl, fun d h => by simp at h, by show (-1 : Int) ≤ 0; decide, by show (0 : Int) ≤ 1; decide, by simp [vl]⟩ impA ?_
 rintro ⟨i, c, out⟩ ⟨hi, hp⟩
 dsimp only at hi hp ⊢
 have fx := ztT (cg x) i (by omega)
 have fy := ztT (cg y) i (by omega)
 have qx := ze1 (zeJ x).2.1 i
 have qy := ze1 (zeJ y).2.1 i
 have hol : out.length = i := hp.1
 have hc1 : -1 ≤ c ∧ c ≤ 1 := ⟨hp.2.2.1, hp.2.2.2.1⟩
 have g0 : out.length ≤ (out.map iPV).length := by rw [List.length_map]; exact Nat.le_refl _
 by_cases hc : i < (cg x).length ∨ i < (cg y).length ∨ c ≠ 0
 ·have hr := zt7 hf hp hc
  have hcd : (bif (bif decide ((i : Int) < ((cg x).length : Int)) then true else decide ((i : Int) < ((cg y).length : Int))) then true else c != 0) = true := by
   by_cases h1 : i < (cg x).length
   ·rw [decide_eq_true (by omega)]; rfl
   ·by_cases h2 : i < (cg y).length
    ·rw [decide_eq_false (by omega), decide_eq_true (by omega)]; rfl
    ·rw [decide_eq_false (by omega), decide_eq_false (by omega)]; simp; omega
  rw [← hlx, ← hly] at hcd
  have hst := zrF (n := if figL (cg x) i + f * figL (cg y) i + c < 0 then figL (cg x) i + f * figL (cg y) i + c + 10000 else if 10000 ≤ figL (cg x) i + f * figL (cg y) i + c then figL (cg x) i + f * figL (cg y) i + c - 10000 else figL (cg x) i + f * figL (cg y) i + c)
   (c := if figL (cg x) i + f * figL (cg y) i + c < 0 then -1 else if 10000 ≤ figL (cg x) i + f * figL (cg y) i + c then 1 else 0) (zeJ x).2.1 (zeJ y).2.1 hf2 hp (by
    by_cases h1 : figL (cg x) i + f * figL (cg y) i + c < 0
    ·rw [if_pos h1, if_pos h1]; exact .inl ⟨h1, rfl, rfl⟩
    ·rw [if_neg h1, if_neg h1]
     by_cases h2 : 10000 ≤ figL (cg x) i + f * figL (cg y) i + c
     ·rw [if_pos h2, if_pos h2]; exact .inr (.inl ⟨h2, rfl, rfl⟩)
     ·rw [if_neg h2, if_neg h2]; exact .inr (.inr ⟨by omega, by omega, rfl, rfl⟩))
  have hprod : -9999 ≤ f * figL (cg y) i ∧ f * figL (cg y) i ≤ 9999 := by rcases hf2 with rfl | rfl <;> omega
  generalize figL (cg x) i = u at *
  generalize hv : f * figL (cg y) i = v at *
  generalize hN : u + v + c = N at *
  have w1 : IntKind.i64.wrap (f * figL (cg y) i) = v := by rw [hv, zg (by omega)]
  have w2 : IntKind.i64.wrap (u + v + c) = N := by rw [hN, zg (by omega)]
  by_cases h1 : N < 0
  ·simp only [if_pos h1] at hst
   have hl1 : out.length + 1 = (out ++ [N + 10000]).length := by rw [List.length_append]; rfl
   repeat' first | refine zd ?_ | refine zc ?_ | ((first | refine zf ?_ | refine regA ?_ | fail); conv => whnf) | exact abA hb | (refine za rfl (fun _ => ?_) (zaf hcd)) | ((first | refine zsn (fx) ?_ | refine zsn (fy) ?_ | refine ⟨_, w1, ?_⟩ | refine ⟨_, w2, ?_⟩ | refine pkA ?_ | refine And.intro ⟨g0, by show out.length + 1 ≤ _; unfold maxLen; omega, by show (out.length + 1) * 8 ≤ _; omega⟩ ?_ | fail); conv => whnf) | (refine zso rfl (fun hb => ?_) (fun hb => ?_)) | ((first | refine zsq ?_ | refine andA ?_ | fail); conv => whnf) | (refine lnA fun hln => ?_; conv => whnf) | fail
   exact ⟨(i + 1, -1, out ++ [N + 10000]), ⟨by show i + 1 ≤ _; omega, hst⟩, by show _ - (i + 1) < _ - i; omega, (impX (by repeat' (first | exact trivial | refine And.intro ?_ ?_ | exact chT2 hl1 bsn | exact congrArg (fun k : Nat => some (AV.x (.o 900 k k))) hl1 | exact zsw)))⟩
  ·by_cases h2 : 10000 ≤ N
   ·simp only [if_neg h1, if_pos h2] at hst
    have hl1 : out.length + 1 = (out ++ [N - 10000]).length := by rw [List.length_append]; rfl
    repeat' first | refine zd ?_ | refine zc ?_ | ((first | refine zf ?_ | refine regA ?_ | fail); conv => whnf) | exact abA hb | (refine za rfl (fun _ => ?_) (zaf hcd)) | ((first | refine zsn (fx) ?_ | refine zsn (fy) ?_ | refine ⟨_, w1, ?_⟩ | refine ⟨_, w2, ?_⟩ | refine pkA ?_ | refine And.intro ⟨g0, by show out.length + 1 ≤ _; unfold maxLen; omega, by show (out.length + 1) * 8 ≤ _; omega⟩ ?_ | fail); conv => whnf) | (refine zso rfl (fun hb => ?_) (fun hb => ?_)) | ((first | refine zsq ?_ | refine andA ?_ | fail); conv => whnf) | (refine lnA fun hln => ?_; conv => whnf) | fail
    exact ⟨(i + 1, 1, out ++ [N - 10000]), ⟨by show i + 1 ≤ _; omega, hst⟩, by show _ - (i + 1) < _ - i; omega, (impX (by repeat' (first | exact trivial | refine And.intro ?_ ?_ | exact chT2 hl1 bsn | exact congrArg (fun k : Nat => some (AV.x (.o 900 k k))) hl1 | exact zsw)))⟩
   ·simp only [if_neg h1, if_neg h2] at hst
    have hl1 : out.length + 1 = (out ++ [N]).length := by rw [List.length_append]; rfl
    repeat' first | refine zd ?_ | refine zc ?_ | ((first | refine zf ?_ | refine regA ?_ | fail); conv => whnf) | exact abA hb | (refine za rfl (fun _ => ?_) (zaf hcd)) | ((first | refine zsn (fx) ?_ | refine zsn (fy) ?_ | refine ⟨_, w1, ?_⟩ | refine ⟨_, w2, ?_⟩ | refine pkA ?_ | refine And.intro ⟨g0, by show out.length + 1 ≤ _; unfold maxLen; omega, by show (out.length + 1) * 8 ≤ _; omega⟩ ?_ | fail); conv => whnf) | (refine zso rfl (fun hb => ?_) (fun hb => ?_)) | ((first | refine zsq ?_ | refine andA ?_ | fail); conv => whnf) | (refine lnA fun hln => ?_; conv => whnf) | fail
    exact ⟨(i + 1, 0, out ++ [N]), ⟨by show i + 1 ≤ _; omega, hst⟩, by show _ - (i + 1) < _ - i; omega, (impX (by repeat' (first | exact trivial | refine And.intro ?_ ?_ | exact chT2 hl1 bsn | exact congrArg (fun k : Nat => some (AV.x (.o 900 k k))) hl1 | exact zsw)))⟩
 ·have hc0 : c = 0 := by omega
  subst hc0
  have hcd : (bif (bif decide ((i : Int) < ((cg x).length : Int)) then true else decide ((i : Int) < ((cg y).length : Int))) then true else (0 : Int) != 0) = false := by
   rw [decide_eq_false (by omega), decide_eq_false (by omega)]; rfl
  rw [← hlx, ← hly] at hcd
  have ho := zrY hf hp (by omega) (by omega)
  have tr := ztU out hp.2.1
  rw [ho] at tr
  have hE : sl out = .x (.d (.s 1 ((out.map iPV).take out.length))) := by rw [List.take_of_length_le (by rw [List.length_map]; exact Nat.le_refl _)]; rfl
  repeat' first | (with_reducible refine Stp.at13 ?_) | refine zd ?_ | ((first | refine zk ?_ | refine regA ?_ | fail); conv => whnf) | (refine za rfl (zM hcd) (fun _ => ?_)) | ((refine pkA ?_); conv => whnf) | (refine lnA fun hln => ?_; conv => whnf) | fail
  unfold Stp
  refine zaq (Imp.freeze 900 (fr' := [(7, sl out)]) (σ' := []) rfl ⟨⟨_, rfl, .inr ⟨_, rfl, g0, hE⟩⟩, trivial⟩ trivial rfl rfl) ?_
  repeat' first | refine zd ?_ | ((first | refine zi ?_ | refine regA ?_ | refine zsn (tr) ?_ | fail); conv => whnf) | fail
  rfl
end Go.Proofs.YtmceekhgnfpamaaGreatDoor
namespace Go.Proofs.YtmceekhgnfpamaaGreatDoor
open Go Go.QL FoT
set_option maxHeartbeats 3200000
attribute [local irreducible] ACall FnC
theorem zt0 (a : GT) : FnC Tryz.prog 99 [grAV a] (grAV (negG a)) := by
 refine hdC Tryz.func99 Tryz.ntmps99 (res := [.cell 2 149]) fun w0 K0 => ?_
 repeat' first | refine zd ?_ | ((first | refine zi ?_ | refine regA ?_ | refine andA ?_ | fail); conv => whnf) | fail
 rfl
theorem ztX (a b : GT) (ha : (cg a.2).length ≤ 1000) (hb' : (cg b.2).length ≤ 1000) : FnC Tryz.prog 96 [grAV a, grAV b] (grAV (addG a b)) := by
 obtain ⟨p, x⟩ := a
 obtain ⟨q, y⟩ := b
 dsimp only at ha hb'
 have p1 := ztW x y 1 (.inl rfl) ha hb'
 rw [show ((x : Int) + 1 * y).toNat = x + y by omega] at p1
 have hl := zt6 x y ha
 by_cases h : p = q
 ·subst h
  rw [show addG (p, x) (p, y) = (p, x + y) by simp [addG]]
  refine hdC Tryz.func96 Tryz.ntmps96 (res := [.cell 4 149]) fun w0 K0 => ?_
  repeat' first | refine zd ?_ | ((first | refine zi ?_ | refine regA ?_ | refine drA (id := 2) 7 false [0, 1, 0, 4, 0, 16, 60, 127, 255] ?_ | refine zsp (p1) ?_ | fail); conv => whnf) | (refine za rfl (fun _ => ?_) (zaf (beq_self_eq_true p))) | ((refine andA ?_); conv => whnf) | fail
  rfl
 ·have hc : (p == q) = false := by simpa using h
  by_cases hxy : x < y
  ·rw [decide_eq_true hxy] at hl
   have p2 := ztW y x (-1) (.inr ⟨rfl, by omega⟩) hb' ha
   rw [show ((y : Int) + -1 * x).toNat = y - x by omega] at p2
   rw [show addG (p, x) (q, y) = (q, y - x) by simp [addG, h, hxy]]
   refine hdC Tryz.func96 Tryz.ntmps96 (res := [.cell 4 149]) fun w0 K0 => ?_
   repeat' first | refine zd ?_ | ((first | refine zf ?_ | refine zi ?_ | refine regA ?_ | refine drA (id := 4) 7 false [0, 1, 0, 4, 0, 16, 60, 127, 255] ?_ | fail); conv => whnf) | (refine za rfl (zM hc) (fun _ => ?_)) | ((first | refine zsn (hl) ?_ | refine zsp (p2) ?_ | fail); conv => whnf) | (refine zst rfl ?_) | ((refine andA ?_); conv => whnf) | fail
   rfl
  ·rw [decide_eq_false hxy] at hl
   have p2 := ztW x y (-1) (.inr ⟨rfl, by omega⟩) ha hb'
   rw [show ((x : Int) + -1 * y).toNat = x - y by omega] at p2
   rw [show addG (p, x) (q, y) = (p, x - y) by simp [addG, h, hxy]]
   refine hdC Tryz.func96 Tryz.ntmps96 (res := [.cell 4 149]) fun w0 K0 => ?_
   repeat' first | refine zd ?_ | ((first | refine zf ?_ | refine zi ?_ | refine regA ?_ | refine drA (id := 5) 7 false [0, 1, 0, 4, 0, 16, 60, 127, 255] ?_ | fail); conv => whnf) | (refine za rfl (zM hc) (fun _ => ?_)) | ((first | refine zsn (hl) ?_ | refine zsp (p2) ?_ | fail); conv => whnf) | (refine zss rfl ?_) | ((refine andA ?_); conv => whnf) | fail
   rfl
end Go.Proofs.YtmceekhgnfpamaaGreatDoor
namespace Go.Proofs.YtmceekhgnfpamaaGreatDoor
open Go Go.QL FoT
set_option maxHeartbeats 3200000
attribute [local irreducible] ACall FnC
theorem Stp.at11 {P : Program} {Γ : Cx} {y : Code} {ops : Array Oper} {b : Bool} {Q : Exit → Fr → Sg → Prop} {fr : Fr} {σ : Sg} (h : Stp P Γ (.seq (.region 11 ops b) y) Q fr σ) : AW P Γ (.seq (.region 11 ops b) y) Q fr σ := by unfold Stp at h; exact h
theorem ztS (a b : GT) (hl : (cg a.2).length + (cg b.2).length ≤ 1000) : FnC Tryz.prog 97 [grAV a, grAV b] (grAV (mulG a b)) := by
 obtain ⟨p, x⟩ := a
 obtain ⟨q, y⟩ := b
 dsimp only at hl
 have hlx : ((cg x).map fun n : Int => [PV.v (.int .i64 n)]).length = (cg x).length := List.length_map _
 have hly : ((cg y).map fun n : Int => [PV.v (.int .i64 n)]).length = (cg y).length := List.length_map _
 have dx := (zeJ x).2.1
 have dy := (zeJ y).2.1
 obtain ⟨L, hL⟩ : ∃ L, (cg x).length + (cg y).length + 1 = L := ⟨_, rfl⟩
 have hst := zqC (cg x) (cg y) L
 have hL2 : ((((cg x).map fun n : Int => [PV.v (.int .i64 n)]).length : Int) + (((cg y).map fun n : Int => [PV.v (.int .i64 n)]).length : Int) + 1).toNat = L := by omega
 refine hdC Tryz.func97 Tryz.ntmps97 (res := [.cell 4 149]) fun w0 K0 => ?_
 repeat' first | refine zd ?_ | refine zc ?_ | ((first | refine regA ?_ | refine zsq ?_ | refine andA ?_ | with_reducible refine And.intro (And.intro (by omega) (And.intro (by first | omega | (simp only [List.length_map]; omega)) (by first | omega | (simp only [List.length_map, List.length_set]; omega)))) ?_ | fail); conv => whnf) | (refine lnA fun hln => ?_; conv => whnf) | fail
 rw [hL2]
 refine zJ (fun z : Nat × List Int => [(6, iv .i64 z.1), (5, .x (.o 18 0 L)), (4, .x (.b 4 0)), (3, .x (.b 3 0)), (2, .x (.b 2 0))])
  (fun z => [(18, .chain 3 1 0 (z.2.map iPV)), (4, .box [.d (.v (.bool false)), .d (.v (.slice none 0 0))]), (3, .box [.d (.v (.bool q)), .d (zR (cg y))]), (2, .box [.d (.v (.bool p)), .d (zR (cg x))])])
  (fun z => z.1 ≤ (cg x).length ∧ TMI (cg x) (cg y) z.2 L z.1 0 0) (fun z => (cg x).length - z.1) (0, List.replicate L 0) ⟨Nat.zero_le _, hst⟩ (impX (by repeat' (first | exact trivial | refine And.intro ?_ ?_ | exact chE (List.map_replicate (f := iPV) (a := (0 : Int)) (n := L)).symm | exact zsw))) ?_
 rintro ⟨i, out⟩ ⟨hi, ht⟩
 dsimp only at hi ht ⊢
 rcases Nat.lt_or_ge i (cg x).length with hil | hil
 ·repeat' first | refine zd ?_ | refine zc ?_ | ((first | refine zf ?_ | refine zk ?_ | refine regA ?_ | refine drA (id := 11) 7 false [0, 1, 0, 4, 15, 0, 32, 127, 255] ?_ | fail); conv => whnf) | exact abA hb | (refine zso rfl (fun hb => ?_) (fun hb => ?_)) | ((refine andA ?_); conv => whnf) | (refine lnA fun hln => ?_; conv => whnf) | fail
  refine zJ (fun z : Nat × Int × List Int => [(8, iv .i64 z.1), (7, iv .i64 z.2.1), (6, iv .i64 i), (5, .x (.o 18 0 L)), (4, .x (.b 4 0)), (3, .x (.b 3 0)), (2, .x (.b 2 0))])
   (fun z => [(18, .chain 3 1 0 (z.2.2.map iPV)), (4, .box [.d (.v (.bool false)), .d (.v (.slice none 0 0))]), (3, .box [.d (.v (.bool q)), .d (zR (cg y))]), (2, .box [.d (.v (.bool p)), .d (zR (cg x))])])
   (fun z => z.1 ≤ (cg y).length + 1 ∧ TMI (cg x) (cg y) z.2.2 L i z.1 z.2.1) (fun z => (cg y).length + 1 - z.1) (0, 0, out) ⟨Nat.zero_le _, ht⟩ impA ?_
  rintro ⟨k, c, o2⟩ ⟨hk, hm⟩
  dsimp only at hk hm ⊢
  have hol : o2.length = L := hm.1
  have hc0 : 0 ≤ c ∧ c < 10000 := ⟨hm.2.2.1, hm.2.2.2.1⟩
  by_cases hc : k < (cg y).length ∨ 0 < c
  ·have hky : k ≤ (cg y).length := by
    rcases hc with h | h
    ·omega
    ·exact zrA dx dy hm h hil
   have hcd : (bif decide ((k : Int) < (((cg y).map fun n : Int => [PV.v (.int .i64 n)]).length : Int)) then true else decide (c > 0)) = true := by
    by_cases h : k < (cg y).length
    ·rw [decide_eq_true (by omega)]; rfl
    ·rw [decide_eq_false (by omega), decide_eq_true (by omega)]; rfl
   have fy := ztT (cg y) k (by omega)
   have fx : (cg x)[i]? = some (figL (cg x) i) := by unfold figL; rw [List.getD_eq_getElem?_getD, List.getElem?_eq_getElem hil]; rfl
   have gx := zfz fx
   have hik : i + k < o2.length := by omega
   have go : (o2.map iPV)[((i : Int) + (k : Int)).toNat]? = some (iPV (figL o2 (i + k))) := by
    rw [show ((i : Int) + (k : Int)).toNat = i + k by omega, List.getElem?_map, List.getElem?_eq_getElem hik]
    unfold figL; rw [List.getD_eq_getElem?_getD, List.getElem?_eq_getElem hik]; rfl
   have q1 := ze1 dx i
   have q2 := ze1 dy k
   have q3 := ze1 hm.2.1 (i + k)
   have hms := zrz dx dy hm (by omega) (n := figL o2 (i + k) + figL (cg x) i * figL (cg y) k + c) rfl
   have q4 := Int.mul_le_mul (show figL (cg x) i ≤ 9999 by omega) (show figL (cg y) k ≤ 9999 by omega) q2.1 (by omega)
   have q5 := Int.mul_nonneg q1.1 q2.1
   generalize figL (cg x) i = u at *
   generalize figL (cg y) k = v at *
   generalize hP : u * v = P at *
   generalize figL o2 (i + k) = w at *
   obtain ⟨N, hN⟩ : ∃ N, w + P + c = N := ⟨_, rfl⟩
   rw [hN] at hms
   have w1 : IntKind.i64.wrap (u * v) = P := by rw [hP, zg (by omega)]
   have w2 : IntKind.i64.wrap (w + P + c) = N := by rw [hN, zg (by omega)]
   have w3 : N.tmod 10000 = N % 10000 := Int.tmod_eq_emod_of_nonneg (by omega)
   have w4 : IntKind.i64.wrap (N.tdiv 10000) = N / 10000 := by rw [Int.tdiv_eq_ediv_of_nonneg (by omega), zg (by omega)]
   have hset : (o2.map iPV).set ((i : Int) + (k : Int)).toNat (iPV (N % 10000)) = (o2.set (i + k) (N % 10000)).map iPV := by
    rw [show ((i : Int) + (k : Int)).toNat = i + k by omega, List.map_set]
   repeat' first | refine zd ?_ | refine zc ?_ | ((first | refine zf ?_ | refine regA ?_ | refine drA (id := 9) 18 false [0, 0, 0, 6, 15, 31, 0, 64, 0, 448, 960, 0, 2048, 0, 14336, 32704, 65535, 0, 262143, 524287] ?_ | fail); conv => whnf) | (refine za rfl (fun _ => ?_) (zaf hcd)) | ((first | refine pkA ?_ | refine zsp (fy) ?_ | refine ⟨_, ze go, ⟨Nat.le_of_ble_eq_true rfl, rfl⟩, ?_⟩ | refine ⟨_, ze ⟨by omega, gx⟩, ?_⟩ | refine ⟨_, w1, ?_⟩ | refine ⟨_, w2, ?_⟩ | refine ⟨_, w3, ?_⟩ | refine ⟨_, w4, ?_⟩ | refine ⟨_, go, Nat.le_of_ble_eq_true rfl, ?_⟩ | refine zsq ?_ | refine andA ?_ | with_reducible refine And.intro (ze (And.intro (by omega) (And.intro (by first | omega | (simp only [List.length_map]; omega)) (by first | omega | (simp only [List.length_map]; omega) | (simp only [List.length_set, List.length_map]; omega))))) ?_ | fail); conv => whnf) | (refine lnA fun hln => ?_; conv => whnf) | fail
   exact ⟨(k + 1, N / 10000, o2.set (i + k) (N % 10000)), ⟨by show k + 1 ≤ _; omega, hms⟩, by show _ - (k + 1) < _ - k; omega, impA⟩
  ·have hc1 : c = 0 := by omega
   subst hc1
   have hcd : (bif decide ((k : Int) < (((cg y).map fun n : Int => [PV.v (.int .i64 n)]).length : Int)) then true else decide ((0 : Int) > 0)) = false := by
    rw [decide_eq_false (by omega)]; rfl
   have hn := zrB hm (by omega)
   repeat' first | refine zd ?_ | ((first | refine zk ?_ | refine regA ?_ | fail); conv => whnf) | (refine za rfl (zM hcd) (fun _ => ?_)) | ((first | refine pkA ?_ | refine zsq ?_ | fail); conv => whnf) | (refine lnA fun hln => ?_; conv => whnf) | fail
   exact ⟨(i + 1, o2), ⟨by show i + 1 ≤ _; omega, hn⟩, by show _ - (i + 1) < _ - i; omega, impA⟩
 ·have hie : i = (cg x).length := by omega
  subst hie
  obtain ⟨d1, d2⟩ := zrQ ht (Nat.le_refl _)
  have tr := ztU out d1
  rw [d2] at tr
  have hol : out.length = L := ht.1
  have g0 : L ≤ (out.map iPV).length := by rw [List.length_map]; omega
  have hE : sl out = .x (.d (.s 1 ((out.map iPV).take L))) := by rw [List.take_of_length_le (by rw [List.length_map]; omega)]; rfl
  repeat' first | (with_reducible refine Stp.at11 ?_) | refine zd ?_ | refine zc ?_ | ((first | refine zf ?_ | refine zk ?_ | refine regA ?_ | fail); conv => whnf) | exact abA hb | (refine zso rfl (fun hb => ?_) (fun hb => ?_)) | ((refine andA ?_); conv => whnf) | (refine lnA fun hln => ?_; conv => whnf) | fail
  unfold Stp
  refine zaq (Imp.freeze 18 (fr' := [(5, sl out), (4, .x (.b 4 0)), (3, .x (.b 3 0)), (2, .x (.b 2 0))]) (σ' := [(4, .box [.d (.v (.bool false)), .d (.v (.slice none 0 0))]), (3, .box [.d (.v (.bool q)), .d (zR (cg y))]), (2, .box [.d (.v (.bool p)), .d (zR (cg x))])]) rfl
   ⟨⟨_, rfl, .inr ⟨_, rfl, g0, hE⟩⟩, ⟨_, rfl, .inl rfl⟩, ⟨_, rfl, .inl rfl⟩, ⟨_, rfl, .inl rfl⟩, trivial⟩ ⟨rfl, rfl, rfl, trivial⟩ rfl rfl) ?_
  repeat' first | refine zd ?_ | ((first | refine zi ?_ | refine drA (id := 11) 7 false [0, 1, 0, 4, 15, 0, 32, 127, 255] ?_ | refine zsp (tr) ?_ | refine andA ?_ | fail); conv => whnf) | fail
  rfl
end Go.Proofs.YtmceekhgnfpamaaGreatDoor
namespace Go.Proofs.YtmceekhgnfpamaaGreatDoor
open Go Go.QL FoT
set_option maxHeartbeats 6400000
attribute [local irreducible] ACall FnC fine ten zav zD wtL wtG mulG addG negG mkG
def frPV (x : FrG) : List PV := [.v (.bool x.1.1), zR (cg x.1.2), .v (.bool x.2.1), zR (cg x.2.2)]
def frAV (x : FrG) : AV := .a [.d (.v (.bool x.1.1)), .d (zR (cg x.1.2)), .d (.v (.bool x.2.1)), .d (zR (cg x.2.2))]
abbrev zue (st : List FrG) : AV := .x (.d (.s 4 (st.map frPV)))
abbrev frZC : List SV := [.d (.v (.bool false)), .d (.v (.slice none 0 0)), .d (.v (.bool false)), .d (.v (.slice none 0 0))]
theorem zuf {x : FrG} {k : Nat} (h : wtG x k) : (cg x.1.2).length + 2 ≤ k ∧ (cg x.2.2).length + 2 ≤ k := by
 unfold wtG at h
 have h1 := ztY h.2.1
 have h2 := ztY h.2.2
 omega
theorem ztV (a b : GT) : (cg (mulG a b).2).length ≤ (cg a.2).length + (cg b.2).length := by
 have x1 := zkC (zeJ a.2).2.1
 have y1 := zkC (zeJ b.2).2.1
 rw [(zeJ a.2).1] at x1
 rw [(zeJ b.2).1] at y1
 unfold mulG
 exact ztY (zin x1 y1)
theorem zuc (a : GT) : (cg (negG a).2).length = (cg a.2).length := by unfold negG; rfl
theorem zt9 (n : Int) (h : i64 n) : (cg (mkG n).2).length ≤ 5 := by
 unfold mkG
 unfold i64 at h
 exact ztY (k := 5) (by show (n.natAbs : Int) < _; omega)
theorem zud {st : List FrG} {i : Nat} {x : FrG} (h : st[i]? = some x) : (st.map frPV)[i]? = some (frPV x) := by rw [List.getElem?_map, h]; rfl
theorem zub (f : FormT) (units : List Int) (hc : zD f = 0) (hl : units.length = f.vars.length) (hu : ∀ u ∈ units, u.natAbs ≤ 16777216) : FnC Tryz.prog 95 [zaB f, sl units] (frAV (zgn f units)) := by
 obtain ⟨hv8, hc1, hc40⟩ := zbD hc
 have hst := zdt hc
 have hlc : (f.code.map ndPV).length = f.code.length := List.length_map _
 have g0 := ztR 0 (by unfold i64; decide)
 have g1 := ztR 1 (by unfold i64; decide)
 have gO := ztR 8388608 (by unfold i64; decide)
 have lO := zt9 8388608 (by unfold i64; decide)
 refine hdC Tryz.func95 Tryz.ntmps95 (res := [.cell 4 151]) fun w0 K0 => ?_
 repeat' first | refine zd ?_ | refine zc ?_ | ((refine regA ?_); conv => whnf) | fail
 refine zaq (Imp.nil 900 151 4 (fr' := [(6, iv .i64 0), (5, .x (.o 900 0 0)), (4, .x (.b 4 0)), (2, .x (.b 2 0)), (1, sl units)]) (σ' := [(4, .box frZC), (2, .box (zb5 f))]) rfl ?_ ?_ rfl rfl) ?_
 ·exact ⟨⟨_, rfl, .inl rfl⟩, ⟨_, rfl, .inr ⟨rfl, rfl⟩⟩, ⟨_, rfl, .inl rfl⟩, ⟨_, rfl, .inl rfl⟩, ⟨_, rfl, .inl rfl⟩, trivial⟩
 ·exact ⟨⟨_, rfl, .inl rfl⟩, ⟨_, rfl, .inl rfl⟩, trivial⟩
 refine zaq (Imp.freeze 900 (fr' := [(6, iv .i64 0), (5, zue []), (4, .x (.b 4 0)), (2, .x (.b 2 0)), (1, sl units)]) (σ' := [(4, .box frZC), (2, .box (zb5 f))]) rfl ⟨⟨_, rfl, .inl rfl⟩, ⟨_, rfl, .inr ⟨_, rfl, Nat.zero_le _, rfl⟩⟩, ⟨_, rfl, .inl rfl⟩, ⟨_, rfl, .inl rfl⟩, ⟨_, rfl, .inl rfl⟩, trivial⟩ ⟨rfl, rfl, trivial⟩ rfl rfl) ?_
 refine zJ (fun x : Nat × List FrG => [(6, iv .i64 x.1), (5, zue x.2), (4, .x (.b 4 0)), (2, .x (.b 2 0)), (1, sl units)]) (fun _ => [(4, .box frZC), (2, .box (zb5 f))])
  (fun x => x.1 ≤ f.code.length ∧ Ht f x.1 x.2.length ∧ (∃ s, wtL x.2 s ∧ s ≤ 6 * x.1) ∧ zaN (mkG 0, mkG 1) (zjs units) zjF 0 f.code [] = zaN (mkG 0, mkG 1) (zjs units) zjF x.1 (f.code.drop x.1) x.2) (fun x => f.code.length - x.1) (0, [])
  ⟨Nat.zero_le _, hst, ⟨0, by unfold wtL; rfl, Nat.le_refl _⟩, rfl⟩ impA ?_
 rintro ⟨i, st⟩ ⟨hi, hh, ⟨s, hs, hs6⟩, hx⟩
 dsimp only at hi hh hs hs6 hx ⊢
 have hp12 : st.length ≤ 12 := by obtain ⟨_, _, _, h, _⟩ := hh; exact h
 rcases Nat.lt_or_ge i f.code.length with hil | hil
 ·obtain ⟨hk, hf, hlf, hop⟩ := zdR hil hh
  have gn := zj9 hil
  have ro := zlv f.code[i]
  rw [List.drop_eq_getElem_cons hil, zaN] at hx
  have hcl : decide ((i : Int) < ((f.code.map ndPV).length : Int)) = true := decide_eq_true (by omega)
  by_cases k3 : f.code[i].kind < 3
  ·rw [decide_eq_false (by omega)] at ro
   rw [if_pos k3] at hx
   have hx2 := hx
   have hW2 : ∃ t, wtL (st ++ [zjs units i f.code[i]]) t ∧ t ≤ 6 * (i + 1) := ⟨s + 6, zk8.2 ⟨s, 6, hs, zrN.2 (zrL hu (show f.code[i].kind = 1 ∨ f.code[i].kind = 2 by omega) hf i), rfl⟩, by omega⟩
   clear hx
   by_cases k1 : f.code[i].kind = 1
   ·have hfv := hf
    unfold fine at hfv
    rw [if_pos k1] at hfv
    have hg : units[f.code[i].var.toNat]? = some (units.getD f.code[i].var.toNat 0) := by
     rw [List.getD_eq_getElem?_getD, List.getElem?_eq_getElem (by omega)]; rfl
    have hg2 := zfz hg
    have hxe : zjs units i f.code[i] = (mkG (units.getD f.code[i].var.toNat 0), mkG 1) := by unfold zjs; rw [if_pos k1]
    have gu := ztR (units.getD f.code[i].var.toNat 0) (by have := hu _ (List.mem_of_getElem? hg); unfold i64; omega)
    rw [hxe] at hW2 hx2
    generalize units.getD f.code[i].var.toNat 0 = u at *
    have hv0 := hfv.1
    replace hlf := hlf k3
    clear hfv hf hop hk k3 hxe hg hu hc hv8 hc1 hst hl gO lO hs hs6 hh
    generalize f.code[i] = n at *
    obtain ⟨n1, n2, n3, n4⟩ := n
    dsimp only at k1 gn ro hg2 hv0
    subst k1
    rcases Nat.eq_zero_or_pos st.length with hs0 | hs0
    ·obtain rfl := List.eq_nil_of_length_eq_zero hs0
     repeat' first | refine zd ?_ | refine zc ?_ | ((first | refine zf ?_ | refine regA ?_ | refine drA (id := 22) 5 true [0, 0, 3, 0, 8, 31, 63] ?_ | fail); conv => whnf) | (refine za rfl (fun _ => ?_) (zaf hcl)) | ((first | refine Or.inl (And.intro rfl ?_) | refine ⟨_, ze ⟨by omega, gn⟩, ?_⟩ | refine zsn (ro) ?_ | refine zsn (g0) ?_ | refine zsn (g1) ?_ | refine zsn (gu) ?_ | refine ⟨_, ze ⟨by omega, hg2⟩, ?_⟩ | refine pkA ?_ | fail); conv => whnf) | (refine zst rfl ?_) | (refine zss rfl ?_) | ((first | refine zsq ?_ | refine andA ?_ | fail); conv => whnf) | (refine lnA fun hln => ?_; conv => whnf) | fail
     exact ⟨(i + 1, [] ++ [(mkG u, mkG 1)]), ⟨by show i + 1 ≤ f.code.length; omega, by show Ht f (i + 1) ([] ++ [(mkG u, mkG 1)]).length; exact hlf, hW2, hx2⟩, by show f.code.length - (i + 1) < f.code.length - i; omega, impA⟩
    ·have hz : (st ++ [(mkG u, mkG 1)]).map frPV = st.map frPV ++ [frPV (mkG u, mkG 1)] := List.map_append
     repeat' first | refine zd ?_ | refine zc ?_ | ((first | refine zf ?_ | refine regA ?_ | refine drA (id := 22) 5 true [0, 0, 3, 0, 8, 31, 63] ?_ | fail); conv => whnf) | (refine za rfl (fun _ => ?_) (zaf hcl)) | ((refine Or.inr (And.intro (by rw [List.length_map]; omega) (And.intro (by rw [List.length_map]; refine ⟨?_, ?_⟩ <;> simp [maxLen] <;> omega) ?_))); conv => whnf) | ((first | refine ⟨_, ze ⟨by omega, gn⟩, ?_⟩ | refine zsn (ro) ?_ | refine zsn (g0) ?_ | refine zsn (g1) ?_ | refine zsn (gu) ?_ | refine ⟨_, ze ⟨by omega, hg2⟩, ?_⟩ | refine pkA ?_ | fail); conv => whnf) | (refine zst rfl ?_) | (refine zss rfl ?_) | ((first | refine zsq ?_ | refine andA ?_ | fail); conv => whnf) | ((refine And.intro (by refine ⟨?_, ?_, ?_⟩ <;> simp [zO, maxLen] <;> omega) ?_); conv => whnf) | (refine lnA fun hln => ?_; conv => whnf) | fail
     exact ⟨(i + 1, st ++ [(mkG u, mkG 1)]), ⟨by show i + 1 ≤ f.code.length; omega, by show Ht f (i + 1) (st ++ [(mkG u, mkG 1)]).length; rw [List.length_append]; exact hlf, hW2, hx2⟩, by show f.code.length - (i + 1) < f.code.length - i; omega, Imp.freeze 117 rfl ⟨⟨_, rfl, .inl rfl⟩, ⟨_, rfl, .inr ⟨_, rfl, zeh rfl, congrArg (fun l => AV.x (.d (.s 4 l))) (hz.trans (zdo rfl).symm)⟩⟩, ⟨_, rfl, .inl rfl⟩, ⟨_, rfl, .inl rfl⟩, ⟨_, rfl, .inl rfl⟩, trivial⟩ ⟨rfl, rfl, trivial⟩ rfl rfl⟩
   ·have k2 : f.code[i].kind = 2 := by omega
    obtain ⟨f1, f2, f3, f4⟩ := (zgA k2).1 hf
    have rt := zls f2
    have tb := (zdk f2).2
    have hxe : zjs units i f.code[i] = (mkG (f.code[i].num * 8388608), mkG (ten f.code[i])) := by unfold zjs; rw [if_neg k1]
    have gu := ztR (f.code[i].num * 8388608) (by unfold i64; omega)
    have gt := ztR (ten f.code[i]) (by unfold i64; omega)
    have w1 : IntKind.i64.wrap (f.code[i].num * 8388608) = f.code[i].num * 8388608 := zg (by omega)
    rw [hxe] at hW2 hx2
    replace hlf := hlf k3
    clear f1 f2 f3 f4 tb hf hop hk k3 k1 hxe hu hc hv8 hc1 hst hl gO lO hs hs6 hh
    generalize ten f.code[i] = tn at *
    generalize f.code[i] = n at *
    obtain ⟨n1, n2, n3, n4⟩ := n
    dsimp only at k2 gn ro gu rt w1 hx2 hW2
    subst k2
    rcases Nat.eq_zero_or_pos st.length with hs0 | hs0
    ·obtain rfl := List.eq_nil_of_length_eq_zero hs0
     repeat' first | refine zd ?_ | refine zc ?_ | ((first | refine zf ?_ | refine regA ?_ | refine drA (id := 10) 6 false [0, 1, 3, 7, 0, 16, 63, 127, 255, 511] ?_ | refine drA (id := 22) 5 true [0, 0, 3, 0, 8, 31, 63] ?_ | fail); conv => whnf) | (refine za rfl (fun _ => ?_) (zaf hcl)) | ((first | refine Or.inl (And.intro rfl ?_) | refine ⟨_, ze ⟨by omega, gn⟩, ?_⟩ | refine zsn (ro) ?_ | refine zsn (g0) ?_ | refine zsn (g1) ?_ | refine zsp (gu) ?_ | refine zsn (rt) ?_ | refine zsn (gt) ?_ | refine ⟨_, w1, ?_⟩ | refine pkA ?_ | fail); conv => whnf) | (refine zst rfl ?_) | (refine zss rfl ?_) | ((first | refine zsq ?_ | refine andA ?_ | fail); conv => whnf) | (refine lnA fun hln => ?_; conv => whnf) | fail
     exact ⟨(i + 1, [] ++ [(mkG (n3 * 8388608), mkG tn)]), ⟨by show i + 1 ≤ f.code.length; omega, by show Ht f (i + 1) ([] ++ [(mkG (n3 * 8388608), mkG tn)]).length; exact hlf, hW2, hx2⟩, by show f.code.length - (i + 1) < f.code.length - i; omega, impA⟩
    ·have hz : (st ++ [(mkG (n3 * 8388608), mkG tn)]).map frPV = st.map frPV ++ [frPV (mkG (n3 * 8388608), mkG tn)] := List.map_append
     repeat' first | refine zd ?_ | refine zc ?_ | ((first | refine zf ?_ | refine regA ?_ | refine drA (id := 10) 6 false [0, 1, 3, 7, 0, 16, 63, 127, 255, 511] ?_ | refine drA (id := 22) 5 true [0, 0, 3, 0, 8, 31, 63] ?_ | fail); conv => whnf) | (refine za rfl (fun _ => ?_) (zaf hcl)) | ((refine Or.inr (And.intro (by rw [List.length_map]; omega) (And.intro (by rw [List.length_map]; refine ⟨?_, ?_⟩ <;> simp [maxLen] <;> omega) ?_))); conv => whnf) | ((first | refine ⟨_, ze ⟨by omega, gn⟩, ?_⟩ | refine zsn (ro) ?_ | refine zsn (g0) ?_ | refine zsn (g1) ?_ | refine zsp (gu) ?_ | refine zsn (rt) ?_ | refine zsn (gt) ?_ | refine ⟨_, w1, ?_⟩ | refine pkA ?_ | fail); conv => whnf) | (refine zst rfl ?_) | (refine zss rfl ?_) | ((first | refine zsq ?_ | refine andA ?_ | fail); conv => whnf) | ((refine And.intro (by refine ⟨?_, ?_, ?_⟩ <;> simp [zO, maxLen] <;> omega) ?_); conv => whnf) | (refine lnA fun hln => ?_; conv => whnf) | fail
     exact ⟨(i + 1, st ++ [(mkG (n3 * 8388608), mkG tn)]), ⟨by show i + 1 ≤ f.code.length; omega, by show Ht f (i + 1) (st ++ [(mkG (n3 * 8388608), mkG tn)]).length; rw [List.length_append]; exact hlf, hW2, hx2⟩, by show f.code.length - (i + 1) < f.code.length - i; omega, Imp.freeze 117 rfl ⟨⟨_, rfl, .inl rfl⟩, ⟨_, rfl, .inr ⟨_, rfl, zeh rfl, congrArg (fun l => AV.x (.d (.s 4 l))) (hz.trans (zdo rfl).symm)⟩⟩, ⟨_, rfl, .inl rfl⟩, ⟨_, rfl, .inl rfl⟩, ⟨_, rfl, .inl rfl⟩, trivial⟩ ⟨rfl, rfl, trivial⟩ rfl rfl⟩
  ·rw [decide_eq_true (by omega)] at ro
   rw [if_neg k3] at hx
   obtain ⟨q, hq, hh'⟩ := hop (by omega)
   obtain ⟨r, a, b, rfl, hr⟩ := zfT hq
   obtain ⟨s1, s2, w1, w2, w3⟩ := zk8.1 hs
   obtain ⟨ka, kb, wa, wb, we⟩ : ∃ ka kb, wtG a ka ∧ wtG b kb ∧ s2 = ka + kb := by
    rw [show [a, b] = [a] ++ [b] from rfl] at w2
    obtain ⟨x, y, h1, h2, h3⟩ := zk8.1 w2
    exact ⟨x, y, zrN.1 h1, zrN.1 h2, h3⟩
   have la := zuf wa
   have lb := zuf wb
   have hx2 : zaN (mkG 0, mkG 1) (zjs units) zjF 0 f.code [] = zaN (mkG 0, mkG 1) (zjs units) zjF (i + 1) (f.code.drop (i + 1)) (r ++ [zjF i f.code[i] a b]) := by
    rw [hx]
    congr 1
    simp only [List.length_append, List.length_cons, List.length_nil]
    rw [List.take_left' (by omega)]
    congr 2
    simp [List.getD_eq_getElem?_getD]
   have hW2 : ∃ t, wtL (r ++ [zjF i f.code[i] a b]) t ∧ t ≤ 6 * (i + 1) := ⟨s1 + (ka + kb), zk8.2 ⟨s1, ka + kb, w1, zrN.2 (zrM wa wb), rfl⟩, by omega⟩
   clear hx hs
   have tm1 := ztS a.1 b.2 (by omega)
   have tm2 := ztS b.1 a.2 (by omega)
   have tm3 := ztS a.2 b.2 (by omega)
   have l1 := ztV a.1 b.2
   have l2 := ztV b.1 a.2
   have l3 := ztV a.2 b.2
   have l4 := zuc (mulG b.1 a.2)
   have ga := zud (st := r ++ [a, b]) (i := q) (x := a) (by rw [List.getElem?_append_right (by omega), hr]; simp)
   have gb := zud (st := r ++ [a, b]) (i := q + 1) (x := b) (by rw [List.getElem?_append_right (by omega), hr]; simp)
   have hlen : ((r ++ [a, b]).map frPV).length = q + 2 := by rw [List.length_map, hq]
   have htk : ((r ++ [a, b]).map frPV).take q = r.map frPV := by rw [List.map_append, List.take_left' (by rw [List.length_map, hr])]
   have hpl : zue (r ++ [a, b]) = .x (.d (.s 4 ((r ++ [a, b]).map frPV))) := rfl
   rw [hpl]
   generalize (r ++ [a, b]).map frPV = xs at *
   have ga' : 0 ≤ (xs.length : Int) - 2 ∧ xs[((xs.length : Int) - 2).toNat]? = some (frPV a) := ⟨by omega, by rw [show ((xs.length : Int) - 2).toNat = q by omega]; exact ga⟩
   have gb' : 0 ≤ (xs.length : Int) - 1 ∧ xs[((xs.length : Int) - 1).toNat]? = some (frPV b) := ⟨by omega, by rw [show ((xs.length : Int) - 1).toNat = q + 1 by omega]; exact gb⟩
   have hYe : (xs.take ((xs.length : Int) - 2).toNat).drop (Int.toNat 0) = r.map frPV := by rw [show ((xs.length : Int) - 2).toNat = q by omega]; exact htk
   have hYl : ((xs.take ((xs.length : Int) - 2).toNat).drop (Int.toNat 0)).length = q := by rw [hYe, List.length_map, hr]
   rcases (show f.code[i].kind = 3 ∨ f.code[i].kind = 4 ∨ f.code[i].kind = 5 by omega) with k3e | k3e | k3e
   ·have hje : zjF i f.code[i] a b = (addG (mulG a.1 b.2) (mulG b.1 a.2), mulG a.2 b.2) := by unfold zjF; rw [if_pos k3e]
    rw [hje] at hW2 hx2
    have ad := ztX (mulG a.1 b.2) (mulG b.1 a.2) (by omega) (by omega)
    clear hje l1 l2 l3 l4 la lb wa wb we w1 w2 w3 hk hf hlf hop k3 hu hc hv8 hc1 hst hl lO hs6 hh ga gb htk
    generalize f.code[i] = n at *
    obtain ⟨n1, n2, n3, n4⟩ := n
    dsimp only at k3e gn ro
    subst k3e
    rcases Nat.eq_zero_or_pos q with hq0 | hq0
    ·have hY0 : ((xs.take ((xs.length : Int) - 2).toNat).drop (Int.toNat 0)).length = 0 := by omega
     have hr0 : r = [] := List.eq_nil_of_length_eq_zero (by omega)
     subst hr0
     repeat' first | refine zd ?_ | refine zc ?_ | ((first | refine zf ?_ | refine regA ?_ | refine drM (id := 12) 14 [6, 7, 8, 9, 10, 11] true [0, 0, 2, 6, 15, 31, 0, 0, 128, 384, 960, 1984, 0, 0, 12351, 32767] ?_ | refine drA (id := 14) 12 true [0, 1, 0, 4, 15, 0, 32, 0, 128, 511, 0, 0, 4095, 8191] ?_ | refine drA (id := 22) 5 true [0, 0, 3, 0, 8, 31, 63] ?_ | refine LateGo.mk ⟨.x .j, rfl, ?_⟩ | fail); conv => whnf) | (refine za rfl (fun _ => ?_) (zaf hcl)) | ((first | refine Or.inl (And.intro hY0 ?_) | refine ⟨_, ze ⟨by omega, gn⟩, ?_⟩ | refine zsn (ro) ?_ | refine zsn (g0) ?_ | refine zsn (g1) ?_ | refine ⟨_, ze ga', ?_⟩ | refine ⟨_, ze gb', ?_⟩ | refine zsp (tm1) ?_ | refine zsp (tm2) ?_ | refine zsn (tm3) ?_ | refine zsn (ad) ?_ | refine pkA ?_ | fail); conv => whnf) | (refine zst rfl ?_) | (refine zss rfl ?_) | ((first | refine zsq ?_ | refine andA ?_ | fail); conv => whnf) | (refine lnA fun hln => ?_; conv => whnf) | fail
     exact ⟨(i + 1, [] ++ [(addG (mulG a.1 b.2) (mulG b.1 a.2), mulG a.2 b.2)]), ⟨by show i + 1 ≤ f.code.length; omega, by show Ht f (i + 1) ([] ++ [(addG (mulG a.1 b.2) (mulG b.1 a.2), mulG a.2 b.2)]).length; rw [hq0] at hh'; exact hh', hW2, hx2⟩, by show f.code.length - (i + 1) < f.code.length - i; omega, impA⟩
    ·have hz : (r ++ [(addG (mulG a.1 b.2) (mulG b.1 a.2), mulG a.2 b.2)]).map frPV = (xs.take ((xs.length : Int) - 2).toNat).drop (Int.toNat 0) ++ [frPV (addG (mulG a.1 b.2) (mulG b.1 a.2), mulG a.2 b.2)] := by rw [hYe]; exact List.map_append
     repeat' first | refine zd ?_ | refine zc ?_ | ((first | refine zf ?_ | refine regA ?_ | refine drM (id := 12) 14 [6, 7, 8, 9, 10, 11] true [0, 0, 2, 6, 15, 31, 0, 0, 128, 384, 960, 1984, 0, 0, 12351, 32767] ?_ | refine drA (id := 14) 12 true [0, 1, 0, 4, 15, 0, 32, 0, 128, 511, 0, 0, 4095, 8191] ?_ | refine drA (id := 22) 5 true [0, 0, 3, 0, 8, 31, 63] ?_ | refine LateGo.mk ⟨.x .j, rfl, ?_⟩ | fail); conv => whnf) | (refine za rfl (fun _ => ?_) (zaf hcl)) | ((refine Or.inr (And.intro (by rw [hYl]; exact hq0) (And.intro (by rw [hYl]; refine ⟨?_, ?_⟩ <;> simp [maxLen] <;> omega) ?_))); conv => whnf) | ((first | refine ⟨_, ze ⟨by omega, gn⟩, ?_⟩ | refine zsn (ro) ?_ | refine zsn (g0) ?_ | refine zsn (g1) ?_ | refine ⟨_, ze ga', ?_⟩ | refine ⟨_, ze gb', ?_⟩ | refine zsp (tm1) ?_ | refine zsp (tm2) ?_ | refine zsn (tm3) ?_ | refine zsn (ad) ?_ | refine pkA ?_ | fail); conv => whnf) | (refine zst rfl ?_) | (refine zss rfl ?_) | ((first | refine zsq ?_ | refine andA ?_ | fail); conv => whnf) | ((refine And.intro (by refine ⟨?_, ?_, ?_⟩ <;> simp [zO, maxLen] <;> omega) ?_); conv => whnf) | (refine lnA fun hln => ?_; conv => whnf) | fail
     exact ⟨(i + 1, r ++ [(addG (mulG a.1 b.2) (mulG b.1 a.2), mulG a.2 b.2)]), ⟨by show i + 1 ≤ f.code.length; omega, by show Ht f (i + 1) (r ++ [(addG (mulG a.1 b.2) (mulG b.1 a.2), mulG a.2 b.2)]).length; rw [List.length_append, hr]; exact hh', hW2, hx2⟩, by show f.code.length - (i + 1) < f.code.length - i; omega, Imp.freeze 117 rfl ⟨⟨_, rfl, .inl rfl⟩, ⟨_, rfl, .inr ⟨_, rfl, zeh rfl, congrArg (fun l => AV.x (.d (.s 4 l))) (hz.trans (zdo rfl).symm)⟩⟩, ⟨_, rfl, .inl rfl⟩, ⟨_, rfl, .inl rfl⟩, ⟨_, rfl, .inl rfl⟩, trivial⟩ ⟨rfl, rfl, trivial⟩ rfl rfl⟩
   ·have hje : zjF i f.code[i] a b = (addG (mulG a.1 b.2) (negG (mulG b.1 a.2)), mulG a.2 b.2) := by unfold zjF; rw [if_neg (by omega), if_pos k3e]
    rw [hje] at hW2 hx2
    have ot := zt0 (mulG b.1 a.2)
    have ad := ztX (mulG a.1 b.2) (negG (mulG b.1 a.2)) (by omega) (by omega)
    clear hje l1 l2 l3 l4 la lb wa wb we w1 w2 w3 hk hf hlf hop k3 hu hc hv8 hc1 hst hl lO hs6 hh ga gb htk
    generalize f.code[i] = n at *
    obtain ⟨n1, n2, n3, n4⟩ := n
    dsimp only at k3e gn ro
    subst k3e
    rcases Nat.eq_zero_or_pos q with hq0 | hq0
    ·have hY0 : ((xs.take ((xs.length : Int) - 2).toNat).drop (Int.toNat 0)).length = 0 := by omega
     have hr0 : r = [] := List.eq_nil_of_length_eq_zero (by omega)
     subst hr0
     repeat' first | refine zd ?_ | refine zc ?_ | ((first | refine zf ?_ | refine regA ?_ | refine drM (id := 12) 14 [6, 7, 8, 9, 10, 11] true [0, 0, 2, 6, 15, 31, 0, 0, 128, 384, 960, 1984, 0, 0, 12351, 32767] ?_ | refine drA (id := 14) 12 true [0, 1, 0, 4, 15, 0, 32, 0, 128, 511, 0, 0, 4095, 8191] ?_ | refine drA (id := 19) 3 false [0, 0, 2, 7, 15, 31] ?_ | refine drA (id := 22) 5 true [0, 0, 3, 0, 8, 31, 63] ?_ | refine LateGo.mk ⟨.x .j, rfl, ?_⟩ | fail); conv => whnf) | (refine za rfl (fun _ => ?_) (zaf hcl)) | ((first | refine Or.inl (And.intro hY0 ?_) | refine ⟨_, ze ⟨by omega, gn⟩, ?_⟩ | refine zsn (ro) ?_ | refine zsn (g0) ?_ | refine zsn (g1) ?_ | refine ⟨_, ze ga', ?_⟩ | refine ⟨_, ze gb', ?_⟩ | refine zsp (tm1) ?_ | refine zsp (tm2) ?_ | refine zsn (tm3) ?_ | refine zsp (ot) ?_ | refine zsn (ad) ?_ | refine pkA ?_ | fail); conv => whnf) | (refine zst rfl ?_) | (refine zss rfl ?_) | ((first | refine zsq ?_ | refine andA ?_ | fail); conv => whnf) | (refine lnA fun hln => ?_; conv => whnf) | fail
     exact ⟨(i + 1, [] ++ [(addG (mulG a.1 b.2) (negG (mulG b.1 a.2)), mulG a.2 b.2)]), ⟨by show i + 1 ≤ f.code.length; omega, by show Ht f (i + 1) ([] ++ [(addG (mulG a.1 b.2) (negG (mulG b.1 a.2)), mulG a.2 b.2)]).length; rw [hq0] at hh'; exact hh', hW2, hx2⟩, by show f.code.length - (i + 1) < f.code.length - i; omega, impA⟩
    ·have hz : (r ++ [(addG (mulG a.1 b.2) (negG (mulG b.1 a.2)), mulG a.2 b.2)]).map frPV = (xs.take ((xs.length : Int) - 2).toNat).drop (Int.toNat 0) ++ [frPV (addG (mulG a.1 b.2) (negG (mulG b.1 a.2)), mulG a.2 b.2)] := by rw [hYe]; exact List.map_append
     repeat' first | refine zd ?_ | refine zc ?_ | ((first | refine zf ?_ | refine regA ?_ | refine drM (id := 12) 14 [6, 7, 8, 9, 10, 11] true [0, 0, 2, 6, 15, 31, 0, 0, 128, 384, 960, 1984, 0, 0, 12351, 32767] ?_ | refine drA (id := 14) 12 true [0, 1, 0, 4, 15, 0, 32, 0, 128, 511, 0, 0, 4095, 8191] ?_ | refine drA (id := 19) 3 false [0, 0, 2, 7, 15, 31] ?_ | refine drA (id := 22) 5 true [0, 0, 3, 0, 8, 31, 63] ?_ | refine LateGo.mk ⟨.x .j, rfl, ?_⟩ | fail); conv => whnf) | (refine za rfl (fun _ => ?_) (zaf hcl)) | ((refine Or.inr (And.intro (by rw [hYl]; exact hq0) (And.intro (by rw [hYl]; refine ⟨?_, ?_⟩ <;> simp [maxLen] <;> omega) ?_))); conv => whnf) | ((first | refine ⟨_, ze ⟨by omega, gn⟩, ?_⟩ | refine zsn (ro) ?_ | refine zsn (g0) ?_ | refine zsn (g1) ?_ | refine ⟨_, ze ga', ?_⟩ | refine ⟨_, ze gb', ?_⟩ | refine zsp (tm1) ?_ | refine zsp (tm2) ?_ | refine zsn (tm3) ?_ | refine zsp (ot) ?_ | refine zsn (ad) ?_ | refine pkA ?_ | fail); conv => whnf) | (refine zst rfl ?_) | (refine zss rfl ?_) | ((first | refine zsq ?_ | refine andA ?_ | fail); conv => whnf) | ((refine And.intro (by refine ⟨?_, ?_, ?_⟩ <;> simp [zO, maxLen] <;> omega) ?_); conv => whnf) | (refine lnA fun hln => ?_; conv => whnf) | fail
     exact ⟨(i + 1, r ++ [(addG (mulG a.1 b.2) (negG (mulG b.1 a.2)), mulG a.2 b.2)]), ⟨by show i + 1 ≤ f.code.length; omega, by show Ht f (i + 1) (r ++ [(addG (mulG a.1 b.2) (negG (mulG b.1 a.2)), mulG a.2 b.2)]).length; rw [List.length_append, hr]; exact hh', hW2, hx2⟩, by show f.code.length - (i + 1) < f.code.length - i; omega, Imp.freeze 117 rfl ⟨⟨_, rfl, .inl rfl⟩, ⟨_, rfl, .inr ⟨_, rfl, zeh rfl, congrArg (fun l => AV.x (.d (.s 4 l))) (hz.trans (zdo rfl).symm)⟩⟩, ⟨_, rfl, .inl rfl⟩, ⟨_, rfl, .inl rfl⟩, ⟨_, rfl, .inl rfl⟩, trivial⟩ ⟨rfl, rfl, trivial⟩ rfl rfl⟩
   ·have hje : zjF i f.code[i] a b = (mulG a.1 b.1, mulG (mulG a.2 b.2) (mkG 8388608)) := by unfold zjF; rw [if_neg (by omega), if_neg (by omega)]
    rw [hje] at hW2 hx2
    have tm4 := ztS a.1 b.1 (by omega)
    have tm5 := ztS (mulG a.2 b.2) (mkG 8388608) (by omega)
    clear hje l1 l2 l3 l4 la lb wa wb we w1 w2 w3 hk hf hlf hop k3 hu hc hv8 hc1 hst hl lO hs6 hh ga gb htk
    generalize f.code[i] = n at *
    obtain ⟨n1, n2, n3, n4⟩ := n
    dsimp only at k3e gn ro
    subst k3e
    rcases Nat.eq_zero_or_pos q with hq0 | hq0
    ·have hY0 : ((xs.take ((xs.length : Int) - 2).toNat).drop (Int.toNat 0)).length = 0 := by omega
     have hr0 : r = [] := List.eq_nil_of_length_eq_zero (by omega)
     subst hr0
     repeat' first | refine zd ?_ | refine zc ?_ | ((first | refine zf ?_ | refine regA ?_ | refine drM (id := 12) 14 [6, 7, 8, 9, 10, 11] true [0, 0, 2, 6, 15, 31, 0, 0, 128, 384, 960, 1984, 0, 0, 12351, 32767] ?_ | refine drA (id := 14) 12 true [0, 1, 0, 4, 15, 0, 32, 0, 128, 511, 0, 0, 4095, 8191] ?_ | refine drA (id := 21) 10 false [0, 1, 0, 4, 15, 0, 32, 31, 255, 127, 1023, 2047, 4095] ?_ | refine drA (id := 22) 5 true [0, 0, 3, 0, 8, 31, 63] ?_ | refine LateGo.mk ⟨.x .j, rfl, ?_⟩ | fail); conv => whnf) | (refine za rfl (fun _ => ?_) (zaf hcl)) | ((first | refine Or.inl (And.intro hY0 ?_) | refine ⟨_, ze ⟨by omega, gn⟩, ?_⟩ | refine zsn (ro) ?_ | refine zsn (g0) ?_ | refine zsn (g1) ?_ | refine ⟨_, ze ga', ?_⟩ | refine ⟨_, ze gb', ?_⟩ | refine zsp (tm1) ?_ | refine zsp (tm2) ?_ | refine zsn (tm3) ?_ | refine zsp (gO) ?_ | refine zsp (tm4) ?_ | refine zsp (tm5) ?_ | refine pkA ?_ | fail); conv => whnf) | (refine zst rfl ?_) | (refine zss rfl ?_) | ((first | refine zsq ?_ | refine andA ?_ | fail); conv => whnf) | (refine lnA fun hln => ?_; conv => whnf) | fail
     exact ⟨(i + 1, [] ++ [(mulG a.1 b.1, mulG (mulG a.2 b.2) (mkG 8388608))]), ⟨by show i + 1 ≤ f.code.length; omega, by show Ht f (i + 1) ([] ++ [(mulG a.1 b.1, mulG (mulG a.2 b.2) (mkG 8388608))]).length; rw [hq0] at hh'; exact hh', hW2, hx2⟩, by show f.code.length - (i + 1) < f.code.length - i; omega, impA⟩
    ·have hz : (r ++ [(mulG a.1 b.1, mulG (mulG a.2 b.2) (mkG 8388608))]).map frPV = (xs.take ((xs.length : Int) - 2).toNat).drop (Int.toNat 0) ++ [frPV (mulG a.1 b.1, mulG (mulG a.2 b.2) (mkG 8388608))] := by rw [hYe]; exact List.map_append
     repeat' first | refine zd ?_ | refine zc ?_ | ((first | refine zf ?_ | refine regA ?_ | refine drM (id := 12) 14 [6, 7, 8, 9, 10, 11] true [0, 0, 2, 6, 15, 31, 0, 0, 128, 384, 960, 1984, 0, 0, 12351, 32767] ?_ | refine drA (id := 14) 12 true [0, 1, 0, 4, 15, 0, 32, 0, 128, 511, 0, 0, 4095, 8191] ?_ | refine drA (id := 21) 10 false [0, 1, 0, 4, 15, 0, 32, 31, 255, 127, 1023, 2047, 4095] ?_ | refine drA (id := 22) 5 true [0, 0, 3, 0, 8, 31, 63] ?_ | refine LateGo.mk ⟨.x .j, rfl, ?_⟩ | fail); conv => whnf) | (refine za rfl (fun _ => ?_) (zaf hcl)) | ((refine Or.inr (And.intro (by rw [hYl]; exact hq0) (And.intro (by rw [hYl]; refine ⟨?_, ?_⟩ <;> simp [maxLen] <;> omega) ?_))); conv => whnf) | ((first | refine ⟨_, ze ⟨by omega, gn⟩, ?_⟩ | refine zsn (ro) ?_ | refine zsn (g0) ?_ | refine zsn (g1) ?_ | refine ⟨_, ze ga', ?_⟩ | refine ⟨_, ze gb', ?_⟩ | refine zsp (tm1) ?_ | refine zsp (tm2) ?_ | refine zsn (tm3) ?_ | refine zsp (gO) ?_ | refine zsp (tm4) ?_ | refine zsp (tm5) ?_ | refine pkA ?_ | fail); conv => whnf) | (refine zst rfl ?_) | (refine zss rfl ?_) | ((first | refine zsq ?_ | refine andA ?_ | fail); conv => whnf) | ((refine And.intro (by refine ⟨?_, ?_, ?_⟩ <;> simp [zO, maxLen] <;> omega) ?_); conv => whnf) | (refine lnA fun hln => ?_; conv => whnf) | fail
     exact ⟨(i + 1, r ++ [(mulG a.1 b.1, mulG (mulG a.2 b.2) (mkG 8388608))]), ⟨by show i + 1 ≤ f.code.length; omega, by show Ht f (i + 1) (r ++ [(mulG a.1 b.1, mulG (mulG a.2 b.2) (mkG 8388608))]).length; rw [List.length_append, hr]; exact hh', hW2, hx2⟩, by show f.code.length - (i + 1) < f.code.length - i; omega, Imp.freeze 117 rfl ⟨⟨_, rfl, .inl rfl⟩, ⟨_, rfl, .inr ⟨_, rfl, zeh rfl, congrArg (fun l => AV.x (.d (.s 4 l))) (hz.trans (zdo rfl).symm)⟩⟩, ⟨_, rfl, .inl rfl⟩, ⟨_, rfl, .inl rfl⟩, ⟨_, rfl, .inl rfl⟩, trivial⟩ ⟨rfl, rfl, trivial⟩ rfl rfl⟩
 ·have h1 := ziw hil hh
  obtain ⟨v, rfl⟩ : ∃ v, st = [v] := List.length_eq_one_iff.1 h1
  rw [List.drop_eq_nil_of_le hil] at hx
  have hv : zgn f units = v := by unfold zgn; rw [hx]; rfl
  rw [hv]
  repeat' first | refine zd ?_ | refine zc ?_ | ((first | refine zf ?_ | refine zk ?_ | refine zi ?_ | refine regA ?_ | fail); conv => whnf) | exact abA hb | ((refine ⟨_, ze ⟨by decide, rfl⟩, ?_⟩); conv => whnf) | (refine zso rfl (fun hb => ?_) (fun hb => ?_)) | ((refine andA ?_); conv => whnf) | (refine lnA fun hln => ?_; conv => whnf) | fail
  rfl
end Go.Proofs.YtmceekhgnfpamaaGreatDoor
namespace Go.Proofs.YtmceekhgnfpamaaGreatDoor
open Go Go.QL FoT
set_option maxHeartbeats 3200000
attribute [local irreducible] fine wtL wtG mkG
theorem k12 {k : Int} (h : k < 3) (h1 : 1 ≤ k ∧ k ≤ 5) : k = 1 ∨ k = 2 := by omega
theorem zua {f : FormT} {units : List Int} (hc : zD f = 0) (hu : ∀ u ∈ units, u.natAbs ≤ 16777216) : ∃ k, wtG (zgn f units) k ∧ k ≤ 6 * f.code.length := by
 have key : ∀ n i st s, f.code.length - i = n → i ≤ f.code.length → Ht f i st.length → wtL st s → s ≤ 6 * i → ∃ v s', zaN (mkG 0, mkG 1) (zjs units) zjF i (f.code.drop i) st = [v] ∧ wtG v s' ∧ s' ≤ 6 * f.code.length := by
  intro n
  induction n with
  | zero =>
   intro i st s hn hi hh hs h6
   have h1 := ziw (show f.code.length ≤ i by omega) hh
   obtain ⟨v, rfl⟩ : ∃ v, st = [v] := List.length_eq_one_iff.1 h1
   rw [List.drop_eq_nil_of_le (by omega)]
   exact ⟨v, s, rfl, zrN.1 hs, by omega⟩
  | succ n ih =>
   intro i st s hn hi hh hs h6
   have hil : i < f.code.length := by omega
   have e1 : f.code.length - (i + 1) = n := by omega
   have e2 : s + 6 ≤ 6 * (i + 1) := by omega
   obtain ⟨hk, hf, hlf, hop⟩ := zdR hil hh
   rw [List.drop_eq_getElem_cons hil, zaN]
   by_cases k3 : f.code[i].kind < 3
   ·rw [if_pos k3]
    exact ih (i + 1) _ (s + 6) e1 hil (by rw [List.length_append]; exact hlf k3) (zk8.2 ⟨s, 6, hs, zrN.2 (zrL hu (k12 k3 hk) hf i), rfl⟩) e2
   ·rw [if_neg k3]
    obtain ⟨q, hq, hh'⟩ := hop (Int.not_lt.1 k3)
    clear hop hlf
    obtain ⟨r, a, b, rfl, hr⟩ := zfT hq
    obtain ⟨s1, s2, w1, w2, w3⟩ := zk8.1 hs
    rw [show [a, b] = [a] ++ [b] from rfl] at w2
    obtain ⟨x, y, h1, h2, h3⟩ := zk8.1 w2
    have e : (r ++ [a, b]).take ((r ++ [a, b]).length - 2) ++ [zjF i f.code[i] ((r ++ [a, b]).getD ((r ++ [a, b]).length - 2) (mkG 0, mkG 1)) ((r ++ [a, b]).getD ((r ++ [a, b]).length - 1) (mkG 0, mkG 1))] = r ++ [zjF i f.code[i] a b] := by
     simp only [List.length_append, List.length_cons, List.length_nil]
     rw [List.take_left' (by omega)]
     congr 2
     simp [List.getD_eq_getElem?_getD]
    rw [e]
    exact ih (i + 1) _ (s1 + (x + y)) e1 hil (by rw [List.length_append, hr]; exact hh') (zk8.2 ⟨s1, x + y, w1, zrN.2 (zrM (zrN.1 h1) (zrN.1 h2)), rfl⟩) (by omega)
 obtain ⟨v, s', h1, h2, h3⟩ := key f.code.length 0 [] 0 rfl (Nat.zero_le _) (zdt hc) (by unfold wtL; rfl) (Nat.le_refl _)
 refine ⟨s', ?_, h3⟩
 unfold zgn
 rw [List.drop_zero] at h1
 rw [h1]; exact h2
theorem zt4 {f : FormT} {spans : List SpanT} (h : (z8 f spans).2.2 = 0) : 0 ≤ (z8 f spans).1.err ∧ (z8 f spans).1.err ≤ 1000 := by
 obtain ⟨hc, hn, hsp, st0, hst0, he⟩ := zhq h
 rw [he]
 have hc40 := (zbD hc).2.2
 have key : ∀ n i st, f.code.length - i = n → i ≤ f.code.length → Ht f i st.length → (∀ x ∈ st, lhR x) → errS st ≤ 8 * i → rngS spans i (f.code.drop i) st = .ok st0 → ∃ v, st0 = [v] ∧ lhR v ∧ errS [v] ≤ 8 * f.code.length := by
  intro n
  induction n with
  | zero =>
   intro i st hn' hi hh h1 h2 h3
   have e := ziw (show f.code.length ≤ i by omega) hh
   obtain ⟨v, rfl⟩ : ∃ v, st = [v] := List.length_eq_one_iff.1 e
   rw [List.drop_eq_nil_of_le (by omega), rngS] at h3
   cases h3
   have e3 : i = f.code.length := by omega
   exact ⟨v, rfl, h1 v (by simp), e3 ▸ h2⟩
  | succ n ih =>
   intro i st hn' hi hh h1 h2 h3
   have hil : i < f.code.length := by omega
   have e1 : f.code.length - (i + 1) = n := by omega
   have hi40 : i ≤ 40 := by omega
   obtain ⟨hk, hf, hlf, hop⟩ := zdR hil hh
   rw [List.drop_eq_getElem_cons hil, rngS] at h3
   by_cases k3 : f.code[i].kind < 3
   ·rw [if_pos k3] at h3
    rw [← hn] at hf
    obtain ⟨l1, l2⟩ := zkc hsp (k12 k3 hk) hf
    refine ih (i + 1) _ e1 hil (by rw [List.length_append]; exact hlf k3) (fun x hx => ?_) ?_ h3
    ·rcases List.mem_append.1 hx with hx | hx
     ·exact h1 x hx
     ·rw [List.mem_singleton.1 hx]; exact l1
    ·clear hop hlf
     rw [zbn, zbL]; push_cast; omega
   ·rw [if_neg k3] at h3
    obtain ⟨q, hq, hh'⟩ := hop (Int.not_lt.1 k3)
    clear hop hlf
    obtain ⟨r, a, b, rfl, hr⟩ := zfT hq
    have hok := zqT (f := f) hi40 h1 h2
    have g1 : (r ++ [a, b]).getD ((r ++ [a, b]).length - 2) zaI = a := by simp [List.getD_eq_getElem?_getD]
    have g2 : (r ++ [a, b]).getD ((r ++ [a, b]).length - 1) zaI = b := by simp [List.getD_eq_getElem?_getD]
    have g3 : (r ++ [a, b]).take ((r ++ [a, b]).length - 2) = r := by simp
    dsimp only at h3
    rw [g1, g2, g3] at h3
    by_cases hg : zC (zT f.code[i].kind a b).lo = true ∨ zC (zT f.code[i].kind a b).hi = true
    ·rw [if_pos hg] at h3; cases h3
    ·rw [if_neg hg] at h3
     obtain ⟨j1, j2⟩ := zkj (hok a (by simp)) (hok b (by simp)) hg
     refine ih (i + 1) _ e1 hil (by rw [List.length_append, hr]; exact hh') (fun x hx => ?_) ?_ h3
     ·rcases List.mem_append.1 hx with hx | hx
      ·exact h1 x (by simp [hx])
      ·rw [List.mem_singleton.1 hx]; exact j1
     ·rw [zbn, zbL]
      rw [zbn, show ([a, b] : List RangeT) = [a] ++ [b] from rfl, zbn, zbL, zbL] at h2
      push_cast
      omega
 obtain ⟨v, rfl, h2, h3⟩ := key f.code.length 0 [] rfl (Nat.zero_le _) (zdt hc) (by simp) (by simp [errS]) hst0
 rw [zbL] at h3
 have := h2.2.2
 show 0 ≤ v.err ∧ v.err ≤ 1000
 omega
end Go.Proofs.YtmceekhgnfpamaaGreatDoor
namespace Go.Proofs.YtmceekhgnfpamaaGreatDoor
open Go Go.QL FoT
set_option maxHeartbeats 6400000
attribute [local irreducible] ACall FnC fine ten zav zD mulG addG negG mkG zgn wtG
theorem zt1 (f : FormT) (units : List Int) (is halves : Int) (hc : zD f = 0) (hl : units.length = f.vars.length) (hu : ∀ u ∈ units, u.natAbs ≤ 16777216) (his : is.natAbs ≤ 16777216) (hh : i64 halves) :
  FnC Tryz.prog 40 [zaB f, sl units, iv .i64 is, iv .i64 halves] (bv (zla f units is halves)) := by
 obtain ⟨hv8, hc1, hc40⟩ := zbD hc
 have ex := zub f units hc hl hu
 obtain ⟨k, hk, hk6⟩ := zua hc hu
 unfold zla
 obtain ⟨⟨x, y⟩, hE⟩ : ∃ z, zgn f units = z := ⟨_, rfl⟩
 rw [hE] at ex hk
 rw [hE]
 have ln := zuf hk
 dsimp only at ln ⊢
 have g1 := ztR (2 * is) (by unfold i64; omega)
 have l1 := zt9 (2 * is) (by unfold i64; omega)
 have g2 := ztR 2 (by unfold i64; decide)
 have l2 := zt9 2 (by unfold i64; decide)
 have g3 := ztR halves hh
 have l3 := zt9 halves hh
 have t1 := ztS (mkG (2 * is)) y (by omega)
 have t2 := ztS (mkG 2) x (by omega)
 have t3 := ztS (mkG halves) y (by omega)
 have m1 := ztV (mkG (2 * is)) y
 have m2 := ztV (mkG 2) x
 have m3 := ztV (mkG halves) y
 have n2 := zuc (mulG (mkG 2) x)
 have o := zt0 (mulG (mkG 2) x)
 have ad := ztX (mulG (mkG (2 * is)) y) (negG (mulG (mkG 2) x)) (by omega) (by omega)
 have le := zt6 (mulG (mkG halves) y).2 (addG (mulG (mkG (2 * is)) y) (negG (mulG (mkG 2) x))).2 (by omega)
 have w2 : IntKind.i64.wrap (2 * is) = 2 * is := zg (by omega)
 refine hdC Tryz.func40 Tryz.ntmps40 (res := [.tmp 8]) fun w0 K0 => ?_
 repeat' first | refine zd ?_ | ((first | refine zi ?_ | refine regA ?_ | refine drA (id := 2) 13 true [0, 1, 3, 0, 8, 31, 63, 0, 128, 511, 1023, 2047, 0, 8191] ?_ | refine drA (id := 3) 6 true [0, 1, 0, 4, 15, 0, 63] ?_ | refine zsn (ex) ?_ | refine zsp (g1) ?_ | refine zsp (t1) ?_ | refine zsp (g2) ?_ | refine zsp (t2) ?_ | refine zsp (o) ?_ | refine zsp (ad) ?_ | refine zsp (g3) ?_ | refine zsp (t3) ?_ | refine zsn (le) ?_ | refine ⟨_, w2, ?_⟩ | refine andA ?_ | fail); conv => whnf) | fail
 rfl
end Go.Proofs.YtmceekhgnfpamaaGreatDoor
namespace Go.Proofs.YtmceekhgnfpamaaGreatDoor
open Go Go.QL FoT
set_option maxHeartbeats 6400000
attribute [local irreducible] ACall FnC z8 zD zdU zla ziE
theorem zt5 {f : FormT} {spans : List SpanT} (h : (z8 f spans).2.2 ≠ 0) : (z8 f spans).1 = zaI := by
 unfold z8 at h ⊢
 by_cases h1 : zD f ≠ 0
 ·rw [if_pos h1]
 ·rw [if_neg h1] at h ⊢
  by_cases h2 : spans.length ≠ f.vars.length
  ·rw [if_pos h2]
  ·rw [if_neg h2] at h ⊢
   cases h3 : zaF spans 0 with
   | some p => rfl
   | none =>
    rw [h3] at h
    dsimp only at h ⊢
    cases h4 : rngS spans 0 f.code [] with
    | error k => rfl
    | ok st => rw [h4] at h; exact absurd rfl h
def ztQ (u : Int) : Int := (u + 16777216) % 16777216
theorem zt2 {u : Int} (h : -8388608 ≤ u ∧ u ≤ 8388607) : zP (ztQ u) ∧ sgnW (ztQ u) = u := by
 unfold zP sgnW ztQ
 split <;> omega
theorem zug {f : FormT} {words : List Int} (hc : zD f = 0) (hl : words.length = f.vars.length) (hw : ∀ w ∈ words, zP w) : zdU f words = (valF f words, 0) := by
 unfold zdU
 rw [if_neg (by simp [hc]), if_neg (by simp [hl]), if_neg]
 simpa using hw
theorem zt3 (f : FormT) (spans : List SpanT) (words : List UInt32) (hs64 : ∀ s ∈ spans, i64 s.lo ∧ i64 s.hi) : FnC Tryz.prog 9 [zaB f, zsd spans words] (bv true) := by
 have aw := zcK
 have g1 := zeg f spans
 have ck := zh7 f
 have hls : (spans.map spPV).length = spans.length := List.length_map _
 have hlv : (f.vars.map zaa).length = f.vars.length := List.length_map _
 have hlw : (words.map fun w => [PV.v (.int .u32 w.toNat)]).length = words.length := List.length_map _
 by_cases he : (z8 f spans).2.2 = 0
 ·obtain ⟨hchk, hlen, hsp, _⟩ := zhq he
  have hwp := fun (ws us : List Int) (h : LeafOK ws us spans f.vars.length) => zoN he h
  have her := zt4 he
  obtain ⟨⟨r, at_, e⟩, hR⟩ : ∃ p, z8 f spans = p := ⟨_, rfl⟩
  rw [hR] at g1 he hwp her
  dsimp only at he hwp her
  subst he
  rw [hchk] at ck
  obtain ⟨hv8, _, _⟩ := zbD hchk
  have hcf : (bif (bif ((0 : Int) != 0) then true else ((0 : Int) != 0)) then true else (((spans.map spPV).length : Int) != ((f.vars.map zaa).length : Int))) = false := by
   rw [hls, hlv, hlen]; simp
  refine hdC Tryz.func9 Tryz.ntmps9 (res := [.tmp 4]) fun w0 K0 => ?_
  repeat' first | refine zd ?_ | refine zc ?_ | ((first | refine zf ?_ | refine regA ?_ | fail); conv => whnf) | (refine za rfl (zM hcf) (fun _ => ?_)) | ((first | refine zsn (g1) ?_ | refine zsp (ck) ?_ | refine pkA ?_ | fail); conv => whnf) | fail
  refine zaq (Imp.nil 900 3 1 (fr' := [(10, iv .i64 0), (9, .x (.d (.v (.slice none 0 0)))), (8, .x (.o 900 0 0)), (5, .x (.b 5 0)), (4, bv false), (3, .x (.b 3 0)), (2, .x (.b 2 0))])
   (σ' := [(5, .box [.d (.v (.int .i64 r.lo)), .d (.v (.int .i64 r.hi)), .d (.v (.int .i64 r.err))]), (3, .box [.d (zcS spans), .d (zkE words)]), (2, .box [.d (zac f.vars), .d (zS f.code)])]) rfl ?_ ?_ rfl rfl) ?_
  ·exact ⟨⟨_, rfl, .inl rfl⟩, ⟨_, rfl, .inl rfl⟩, ⟨_, rfl, .inr ⟨rfl, rfl⟩⟩, ⟨_, rfl, .inl rfl⟩, ⟨_, rfl, .inl rfl⟩, ⟨_, rfl, .inl rfl⟩, ⟨_, rfl, .inl rfl⟩, trivial⟩
  ·exact ⟨⟨_, rfl, .inl rfl⟩, ⟨_, rfl, .inl rfl⟩, ⟨_, rfl, .inl rfl⟩, trivial⟩
  refine zaq (Imp.nil 901 3 1 (fr' := [(10, iv .i64 0), (9, .x (.o 901 0 0)), (8, .x (.o 900 0 0)), (5, .x (.b 5 0)), (4, bv false), (3, .x (.b 3 0)), (2, .x (.b 2 0))])
   (σ' := [(900, .chain 3 1 0 []), (5, .box [.d (.v (.int .i64 r.lo)), .d (.v (.int .i64 r.hi)), .d (.v (.int .i64 r.err))]), (3, .box [.d (zcS spans), .d (zkE words)]), (2, .box [.d (zac f.vars), .d (zS f.code)])]) rfl ?_ ?_ rfl rfl) ?_
  ·exact ⟨⟨_, rfl, .inl rfl⟩, ⟨_, rfl, .inr ⟨rfl, rfl⟩⟩, ⟨_, rfl, .inl rfl⟩, ⟨_, rfl, .inl rfl⟩, ⟨_, rfl, .inl rfl⟩, ⟨_, rfl, .inl rfl⟩, ⟨_, rfl, .inl rfl⟩, trivial⟩
  ·exact ⟨⟨_, rfl, .inl rfl⟩, ⟨_, rfl, .inl rfl⟩, ⟨_, rfl, .inl rfl⟩, ⟨_, rfl, .inl rfl⟩, trivial⟩
  refine zJ (fun x : Nat × List Int => [(10, iv .i64 x.1), (9, .x (.o 901 x.1 x.1)), (8, .x (.o 900 x.1 x.1)), (5, .x (.b 5 0)), (4, bv false), (3, .x (.b 3 0)), (2, .x (.b 2 0))])
   (fun x => [(901, .chain 3 1 x.1 (x.2.map iPV)), (900, .chain 3 1 x.1 ((x.2.map ztQ).map iPV)), (5, .box [.d (.v (.int .i64 r.lo)), .d (.v (.int .i64 r.hi)), .d (.v (.int .i64 r.err))]), (3, .box [.d (zcS spans), .d (zkE words)]), (2, .box [.d (zac f.vars), .d (zS f.code)])])
   (fun x => x.1 ≤ spans.length ∧ x.2.length = x.1 ∧ ∀ j (h1 : j < x.2.length) (h2 : j < spans.length), spans[j].lo ≤ x.2[j] ∧ x.2[j] ≤ spans[j].hi) (fun x => spans.length - x.1) (0, []) ⟨Nat.zero_le _, rfl, fun j h => absurd h (by simp)⟩ impA ?_
  rintro ⟨i, U⟩ ⟨hi, hU, hin⟩
  dsimp only at hi hU hin ⊢
  have hUl : (U.map iPV).length = i := by rw [List.length_map, hU]
  have hWl : ((U.map ztQ).map iPV).length = i := by rw [List.length_map, List.length_map, hU]
  rcases Nat.lt_or_ge i spans.length with hil | hil
  ·obtain ⟨q1, q2, q3⟩ := hsp spans[i] (List.getElem_mem hil)
   unfold zC at q1 q2
   rw [Bool.or_eq_false_iff, decide_eq_false_iff_not, decide_eq_false_iff_not] at q1 q2
   have hgs : (spans.map spPV)[(i : Int).toNat]? = some (spPV spans[i]) := by rw [Int.toNat_natCast, List.getElem?_map, List.getElem?_eq_getElem hil]; rfl
   have hnext : ∀ a, 0 ≤ a → a < spans[i].hi - spans[i].lo + 1 → ∀ j (h1 : j < (U ++ [spans[i].lo + a]).length) (h2 : j < spans.length), spans[j].lo ≤ (U ++ [spans[i].lo + a])[j] ∧ (U ++ [spans[i].lo + a])[j] ≤ spans[j].hi := by
    intro a a0 a1 j h1 h2
    rcases Nat.lt_or_ge j U.length with h | h
    ·rw [List.getElem_append_left h]; exact hin j h h2
    ·have hj : j = i := by rw [List.length_append, List.length_singleton] at h1; omega
     subst hj
     rw [List.getElem_append_right h]
     simp only [List.getElem_singleton]
     omega
   generalize hlo : spans[i].lo = lo at *
   generalize hhi : spans[i].hi = up at *
   have hgs : (spans.map spPV)[(i : Int).toNat]? = some [.v (.int .i64 lo), .v (.int .i64 up)] := by rw [hgs, ← hlo, ← hhi]; rfl
   have hc9 : (bif (bif decide (lo > up) then true else decide (lo < -8388608)) then true else decide (up ≥ 8388608)) = false := by
    rw [decide_eq_false (by omega), decide_eq_false (by omega), decide_eq_false (by omega)]; rfl
   have gu : i ≤ (U.map iPV).length := by omega
   have gw : i ≤ ((U.map ztQ).map iPV).length := by omega
   have hstep : ∀ n : Int, 0 ≤ n → ∃ a, n.tmod (up - lo + 1) = a ∧ 0 ≤ a ∧ a < up - lo + 1 := fun n hn => ⟨_, rfl, Int.tmod_nonneg _ hn, Int.tmod_lt_of_pos _ (by omega)⟩
   have hwo' : ∀ a, 0 ≤ a → a < up - lo + 1 → (lo + a + 16777216).tmod 16777216 = ztQ (lo + a) := fun a h1 h2 => Int.tmod_eq_emod_of_nonneg (by omega)
   have gel' : ∀ a, ((U.map iPV).take i ++ [iPV (lo + a)])[(i : Int).toNat]? = some [.v (.int .i64 (lo + a))] := by
    intro a
    rw [List.take_of_length_le (by omega), Int.toNat_natCast, List.getElem?_append_right (by omega), hUl, Nat.sub_self]; rfl
   have e1' : ∀ a, (U.map iPV).take i ++ [iPV (lo + a)] = (U ++ [lo + a]).map iPV := by
    intro a; rw [List.take_of_length_le (by omega), List.map_append]; rfl
   have e2' : ∀ a, ((U.map ztQ).map iPV).take i ++ [iPV (ztQ (lo + a))] = ((U ++ [lo + a]).map ztQ).map iPV := by
    intro a; rw [List.take_of_length_le (by omega), List.map_append, List.map_append]; rfl
   rcases Nat.eq_zero_or_pos words.length with hw0 | hw0
   ·obtain ⟨a, ha, ha1, ha2⟩ := hstep 0 (Int.le_refl _)
    have hwo := hwo' a ha1 ha2
    have gel := gel' a
    have e1 := e1' a
    have e2 := e2' a
    have hrem := hwo; have hgw := hgs
    repeat' first | refine zd ?_ | refine zc ?_ | ((first | refine zf ?_ | refine zk ?_ | refine regA ?_ | refine drA (id := 12) 7 false [0, 1, 0, 0, 8, 24, 60, 127, 255, 511, 1023] ?_ | refine drA (id := 13) 13 true [0, 0, 2, 0, 0, 16, 0, 64, 240, 496, 1016, 2046, 4094, 8191, 16383] ?_ | fail); conv => whnf) | exact abA hb | ((refine ⟨_, ze ⟨by omega, hgs⟩, ?_⟩); conv => whnf) | (refine za rfl (zM hc9) (fun _ => ?_)) | ((first | refine ⟨_, hrem, ?_⟩ | refine ⟨_, ha, ?_⟩ | refine ⟨_, ze gel, ⟨Nat.le_of_ble_eq_true rfl, rfl⟩, ?_⟩ | refine And.intro ⟨gu, by show i + 1 ≤ _; unfold maxLen; omega, by show (i + 1) * 8 ≤ _; omega⟩ ?_ | refine And.intro ⟨gw, by show i + 1 ≤ _; unfold maxLen; omega, by show (i + 1) * 8 ≤ _; omega⟩ ?_ | refine pkA ?_ | fail); conv => whnf) | (refine zso rfl (fun hb => ?_) (fun hb => ?_)) | ((first | refine zsq ?_ | refine andA ?_ | fail); conv => whnf) | ((refine And.intro (by refine ⟨?_, ?_, ?_⟩ <;> simp [zO, maxLen] <;> omega) ?_); conv => whnf) | (refine lnA fun hln => ?_; conv => whnf) | fail
    exact ⟨(i + 1, U ++ [lo + a]), ⟨by show i + 1 ≤ _; omega, by show (U ++ [_]).length = _; rw [List.length_append, hU]; rfl, hnext a ha1 ha2⟩, by show spans.length - (i + 1) < spans.length - i; omega, (impX (by repeat' (first | exact trivial | refine And.intro ?_ ?_ | exact chE e1 | exact chE e2 | exact zsw)))⟩
   ·obtain ⟨k, hk⟩ : ∃ k : Nat, i % words.length = k := ⟨_, rfl⟩
    have hkl : k < words.length := by rw [← hk]; exact Nat.mod_lt _ hw0
    have hrem : (i : Int).tmod ((words.map fun w => [PV.v (.int .u32 w.toNat)]).length : Int) = k := by rw [hlw, ← hk]; rfl
    have hgw : (words.map fun w => [PV.v (.int .u32 w.toNat)])[(k : Int).toNat]? = some [PV.v (.int .u32 words[k].toNat)] := by
     rw [Int.toNat_natCast, List.getElem?_map, List.getElem?_eq_getElem hkl]; rfl
    have hn32 := words[k].toNat_lt
    generalize words[k].toNat = n at hgw hn32
    obtain ⟨a, ha, ha1, ha2⟩ := hstep (n : Int) (by omega)
    have hwo := hwo' a ha1 ha2
    have gel := gel' a
    have e1 := e1' a
    have e2 := e2' a
    repeat' first | refine zd ?_ | refine zc ?_ | ((first | refine zf ?_ | refine zk ?_ | refine regA ?_ | refine drA (id := 12) 7 false [0, 1, 0, 0, 8, 24, 60, 127, 255, 511, 1023] ?_ | refine drA (id := 13) 13 true [0, 0, 2, 0, 0, 16, 0, 64, 240, 496, 1016, 2046, 4094, 8191, 16383] ?_ | fail); conv => whnf) | exact abA hb | ((refine ⟨_, ze ⟨by omega, hgs⟩, ?_⟩); conv => whnf) | (refine za rfl (zM hc9) (fun _ => ?_)) | ((first | refine ⟨_, hrem, ?_⟩ | refine ⟨_, ze ⟨by omega, hgw⟩, ?_⟩ | refine ⟨_, ha, ?_⟩ | refine ⟨_, hwo, ?_⟩ | refine ⟨_, ze gel, ⟨Nat.le_of_ble_eq_true rfl, rfl⟩, ?_⟩ | refine And.intro ⟨gu, by show i + 1 ≤ _; unfold maxLen; omega, by show (i + 1) * 8 ≤ _; omega⟩ ?_ | refine And.intro ⟨gw, by show i + 1 ≤ _; unfold maxLen; omega, by show (i + 1) * 8 ≤ _; omega⟩ ?_ | refine pkA ?_ | fail); conv => whnf) | (refine zso rfl (fun hb => ?_) (fun hb => ?_)) | ((first | refine zsq ?_ | refine andA ?_ | fail); conv => whnf) | ((refine And.intro (by refine ⟨?_, ?_, ?_⟩ <;> simp [zO, maxLen] <;> omega) ?_); conv => whnf) | (refine lnA fun hln => ?_; conv => whnf) | fail
    exact ⟨(i + 1, U ++ [lo + a]), ⟨by show i + 1 ≤ _; omega, by show (U ++ [_]).length = _; rw [List.length_append, hU]; rfl, hnext a ha1 ha2⟩, by show spans.length - (i + 1) < spans.length - i; omega, (impX (by repeat' (first | exact trivial | refine And.intro ?_ ?_ | exact chE e1 | exact chE e2 | exact zsw)))⟩
  ·have hie : i = spans.length := by omega
   subst hie
   have hUw : ∀ u ∈ U, -8388608 ≤ u ∧ u ≤ 8388607 := by
    intro u hu
    obtain ⟨j, hj, rfl⟩ := List.mem_iff_getElem.1 hu
    obtain ⟨q1, q2, q3⟩ := hsp spans[j] (List.getElem_mem (by omega))
    unfold zC at q1 q2
    rw [Bool.or_eq_false_iff, decide_eq_false_iff_not, decide_eq_false_iff_not] at q1 q2
    have := hin j hj (by omega)
    omega
   have hev := znJ f (U.map ztQ)
   have hwd : ∀ w ∈ U.map ztQ, zP w := by
    intro w hw
    obtain ⟨u, hu, rfl⟩ := List.mem_map.1 hw
    exact (zt2 (hUw u hu)).1
   rw [zug hchk (by rw [List.length_map, hU, hlen]) hwd] at hev
   have hI := hwp (U.map ztQ) U ⟨fun j hj => by
    have h1 : j < U.length := by omega
    have h2 : j < spans.length := by omega
    obtain ⟨q1, q2, q3⟩ := hsp spans[j] (List.getElem_mem h2)
    unfold zC at q1 q2
    rw [Bool.or_eq_false_iff, decide_eq_false_iff_not, decide_eq_false_iff_not] at q1 q2
    have h3 := hin j h1 h2
    have h4 := zt2 (hUw U[j] (List.getElem_mem h1))
    have g1 : (U.map ztQ).getD j 0 = ztQ U[j] := by rw [List.getD_eq_getElem?_getD, List.getElem?_map, List.getElem?_eq_getElem h1]; rfl
    have g2 : U.getD j 0 = U[j] := by rw [List.getD_eq_getElem?_getD, List.getElem?_eq_getElem h1]; rfl
    have g3 : spans.getD j ⟨0, 0⟩ = spans[j] := by rw [List.getD_eq_getElem?_getD, List.getElem?_eq_getElem h2]; rfl
    rw [g1, g2, g3]
    exact ⟨h4.1, h4.2, h3.1, h3.2, by omega, by omega⟩⟩
   obtain ⟨i1, i2, i3, i4, i5, i6, i7, i8⟩ := hI
   have hwn := zph i6 i7 i8
   have hwi := zt1 f U (sgnW (valF f (U.map ztQ))) r.err hchk (by rw [hU, hlen]) (fun u hu => by have := hUw u hu; omega) (by omega) (by unfold i64; omega)
   rw [hwn] at hwi
   have h4 := zlD (valF f (U.map ztQ))
   rw [decide_eq_true i1] at h4
   have h5 := zh8 _ i1
   generalize sgnW (valF f (U.map ztQ)) = is at *
   generalize valF f (U.map ztQ) = w at *
   have hle1 : spans.length ≤ (U.map iPV).length := by omega
   have hle2 : spans.length ≤ ((U.map ztQ).map iPV).length := by omega
   have hz1 : sl U = .x (.d (.s 1 ((U.map iPV).take spans.length))) := by rw [List.take_of_length_le (by omega)]; rfl
   have hz2 : sl (U.map ztQ) = .x (.d (.s 1 (((U.map ztQ).map iPV).take spans.length))) := by rw [List.take_of_length_le (by omega)]; rfl
   refine zaq (Imp.freeze 901 (fr' := [(10, iv .i64 spans.length), (9, sl U), (8, .x (.o 900 spans.length spans.length)), (5, .x (.b 5 0)), (4, bv false), (3, .x (.b 3 0)), (2, .x (.b 2 0))]) (σ' := [(900, .chain 3 1 spans.length ((U.map ztQ).map iPV)), (5, .box [.d (.v (.int .i64 r.lo)), .d (.v (.int .i64 r.hi)), .d (.v (.int .i64 r.err))]), (3, .box [.d (zcS spans), .d (zkE words)]), (2, .box [.d (zac f.vars), .d (zS f.code)])]) rfl
    ⟨⟨_, rfl, .inl rfl⟩, ⟨_, rfl, .inr ⟨_, rfl, hle1, hz1⟩⟩, ⟨_, rfl, .inl rfl⟩, ⟨_, rfl, .inl rfl⟩, ⟨_, rfl, .inl rfl⟩, ⟨_, rfl, .inl rfl⟩, ⟨_, rfl, .inl rfl⟩, trivial⟩ ⟨rfl, rfl, rfl, rfl, trivial⟩ rfl rfl) ?_
   refine zaq (Imp.freeze 900 (fr' := [(10, iv .i64 spans.length), (9, sl U), (8, sl (U.map ztQ)), (5, .x (.b 5 0)), (4, bv false), (3, .x (.b 3 0)), (2, .x (.b 2 0))]) (σ' := [(5, .box [.d (.v (.int .i64 r.lo)), .d (.v (.int .i64 r.hi)), .d (.v (.int .i64 r.err))]), (3, .box [.d (zcS spans), .d (zkE words)]), (2, .box [.d (zac f.vars), .d (zS f.code)])]) rfl
    ⟨⟨_, rfl, .inl rfl⟩, ⟨_, rfl, .inl rfl⟩, ⟨_, rfl, .inr ⟨_, rfl, hle2, hz2⟩⟩, ⟨_, rfl, .inl rfl⟩, ⟨_, rfl, .inl rfl⟩, ⟨_, rfl, .inl rfl⟩, ⟨_, rfl, .inl rfl⟩, trivial⟩ ⟨rfl, rfl, rfl, trivial⟩ rfl rfl) ?_
   have hc16 : (bif ((0 : Int) != 0) then true else !true) = false := rfl
   have hfin : (bif (bif (bif decide (r.lo ≤ is) then decide (is ≤ r.hi) else false) then true else false) then true else false) = true := by
    rw [decide_eq_true i3, decide_eq_true i4]; rfl
   repeat' first | refine zd ?_ | refine zc ?_ | ((first | refine zf ?_ | refine zk ?_ | refine zi ?_ | refine regA ?_ | fail); conv => whnf) | exact abA hb | (refine za rfl (zM hc16) (fun _ => ?_)) | ((first | refine zsn (hev) ?_ | refine zsp (h4) ?_ | refine zsn (h5) ?_ | refine zsp (hwi) ?_ | refine zsp (aw) ?_ | refine pkA ?_ | fail); conv => whnf) | (refine zso rfl (fun hb => ?_) (fun hb => ?_)) | (refine lnA fun hln => ?_; conv => whnf) | fail
   exact congrArg some (congrArg bv hfin)
 ·have hz := zt5 he
  obtain ⟨⟨r, at_, e⟩, hR⟩ : ∃ p, z8 f spans = p := ⟨_, rfl⟩
  rw [hR] at g1 he hz
  dsimp only at he hz
  subst hz
  have hct : ∀ b c : Bool, (bif (bif (e != 0) then true else b) then true else c) = true := by intro b c; rw [bne_iff_ne.2 he]; rfl
  refine hdC Tryz.func9 Tryz.ntmps9 (res := [.tmp 4]) fun w0 K0 => ?_
  have hfin : (bif (bif (e != 0) then eqL [Value.int .i64 (zaI).lo, Value.int .i64 (zaI).hi, Value.int .i64 (zaI).err] [Value.int .i64 0, Value.int .i64 0, Value.int .i64 0] else false) then true else false) = true := by
   rw [bne_iff_ne.2 he]; simp [eqL, zmL, zaI]
  repeat' first | refine zd ?_ | ((first | refine zi ?_ | refine regA ?_ | fail); conv => whnf) | (refine za rfl (fun _ => ?_) (zaf (hct _ _))) | ((first | refine zsn (g1) ?_ | refine zsp (ck) ?_ | refine zsp (aw) ?_ | refine pkA ?_ | fail); conv => whnf) | fail
  exact congrArg some (congrArg bv hfin)
end Go.Proofs.YtmceekhgnfpamaaGreatDoor
