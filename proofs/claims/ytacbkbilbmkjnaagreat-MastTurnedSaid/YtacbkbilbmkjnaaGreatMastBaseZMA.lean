/-
  The plain side of the trim statements: what loads, limits, frames and the rest are, and what is asked of them. No program in sight.
-/

set_option linter.unusedVariables false
set_option linter.unusedSimpArgs false
/-
  The plain side of the trim statements: what loads, limits, frames and the rest are, and what is asked of them. No program in sight.
-/
namespace Bal.Trim

def inB (n lo hi : Int) : Bool := decide (lo ≤ n) && decide (n ≤ hi)
def spanB (lo hi m : Int) : Bool := decide (lo ≤ hi) && decide (-m ≤ lo) && decide (hi ≤ m)
def great (a b c d : Int) : Bool := decide (50 < a) || decide (50 < b) || decide (50 < c) || decide (50 < d)

theorem take_all {α : Type} {valid : α → Bool} {xs : List α} {k : Nat} (hk : k < xs.length) (h : (xs.take k).all valid = true) (h' : valid xs[k] = true) : (xs.take (k + 1)).all valid = true := by
  rw [List.take_succ_eq_append_getElem hk, List.all_append, h]
  simp [h']
end Bal.Trim

/-
  Sums, products, least and greatest: plain Lean.
-/
namespace Bal.Trim
/-! ### Sums and products -/
def sumBy {α : Type} (g : α → Int) (xs : List α) : Int := xs.foldr (fun x s => g x + s) 0
@[simp] theorem sumBy_nil {α : Type} (g : α → Int) : sumBy g [] = 0 := rfl
theorem sumBy_cons {α : Type} (g : α → Int) (x : α) (xs : List α) : sumBy g (x :: xs) = g x + sumBy g xs := rfl
theorem sumBy_append {α : Type} (g : α → Int) (xs ys : List α) : sumBy g (xs ++ ys) = sumBy g xs + sumBy g ys := by
  induction xs with
  | nil => simp
  | cons x xs ih => simp only [List.cons_append, sumBy_cons, ih]; omega
theorem mul_bd {x y A B : Int} (hx : -A ≤ x) (hx' : x ≤ A) (hy : -B ≤ y) (hy' : y ≤ B) : -(A * B) ≤ x * y ∧ x * y ≤ A * B := by
  have h1 : x.natAbs ≤ A.toNat := by omega
  have h2 : y.natAbs ≤ B.toNat := by omega
  have h3 := Nat.mul_le_mul h1 h2
  rw [← Int.natAbs_mul] at h3
  have h4 : ((A.toNat * B.toNat : Nat) : Int) = A * B := by
    rw [Int.natCast_mul, Int.toNat_of_nonneg (by omega), Int.toNat_of_nonneg (by omega)]
  omega
theorem ite_min (a b : Int) : (if b < a then b else a) = min a b := by split <;> omega
theorem ite_max (a b : Int) : (if a < b then b else a) = max a b := by split <;> omega
def lmin : List Int → Int
  | [] => 0
  | x :: xs => xs.foldl min x
def lmax : List Int → Int
  | [] => 0
  | x :: xs => xs.foldl max x
theorem lmin_take {xs : List Int} {k : Nat} (h0 : 0 < k) (hk : k < xs.length) : lmin (xs.take (k + 1)) = min (lmin (xs.take k)) xs[k] := by
  cases xs with
  | nil => simp at hk
  | cons x xs =>
    obtain ⟨j, rfl⟩ : ∃ j, k = j + 1 := ⟨k - 1, by omega⟩
    have hj : j < xs.length := by simpa using hk
    simp only [List.take_succ_cons, lmin, List.getElem_cons_succ]
    rw [List.take_succ_eq_append_getElem hj, List.foldl_append]
    rfl
theorem lmax_take {xs : List Int} {k : Nat} (h0 : 0 < k) (hk : k < xs.length) : lmax (xs.take (k + 1)) = max (lmax (xs.take k)) xs[k] := by
  cases xs with
  | nil => simp at hk
  | cons x xs =>
    obtain ⟨j, rfl⟩ : ∃ j, k = j + 1 := ⟨k - 1, by omega⟩
    have hj : j < xs.length := by simpa using hk
    simp only [List.take_succ_cons, lmax, List.getElem_cons_succ]
    rw [List.take_succ_eq_append_getElem hj, List.foldl_append]
    rfl
end Bal.Trim

/-
  The plain side of the mast statements: winds, axes, roots. No program in sight.
-/
namespace Bal.Mast
structure Wind where
  xlo : Int
  xhi : Int
  ylo : Int
  yhi : Int
  deriving DecidableEq, Inhabited
structure Axis where
  x : Int
  y : Int
  deriving DecidableEq, Inhabited
def spanB (lo hi m : Int) : Bool := decide (-m ≤ lo) && decide (lo ≤ hi) && decide (hi ≤ m)
def windB (w : Wind) : Bool := spanB w.xlo w.xhi 2000 && spanB w.ylo w.yhi 2000
def axisB (a : Axis) : Bool := decide (-1000 ≤ a.x ∧ a.x ≤ 1000) && decide (-1000 ≤ a.y ∧ a.y ≤ 1000) && !(decide (a.x = 0) && decide (a.y = 0))
theorem windB_iff {w : Wind} : windB w = true ↔ (-2000 ≤ w.xlo ∧ w.xlo ≤ w.xhi ∧ w.xhi ≤ 2000) ∧ -2000 ≤ w.ylo ∧ w.ylo ≤ w.yhi ∧ w.yhi ≤ 2000 := by
  simp [windB, spanB]; omega
theorem axisB_iff {a : Axis} : axisB a = true ↔ (-1000 ≤ a.x ∧ a.x ≤ 1000) ∧ (-1000 ≤ a.y ∧ a.y ≤ 1000) ∧ ¬ (a.x = 0 ∧ a.y = 0) := by
  simp [axisB]; omega
def checkAxis (a : Axis) : Int := if axisB a then 0 else 70
def checkWind (w : Wind) : Int := if windB w then 0 else 71
/-- the four corners of a wind, across an axis -/
def c0 (w : Wind) (a : Axis) : Int := w.xlo * a.y - w.ylo * a.x
def c1 (w : Wind) (a : Axis) : Int := w.xlo * a.y - w.yhi * a.x
def c2 (w : Wind) (a : Axis) : Int := w.xhi * a.y - w.ylo * a.x
def c3 (w : Wind) (a : Axis) : Int := w.xhi * a.y - w.yhi * a.x
def least (w : Wind) (a : Axis) : Int := min (min (min (c0 w a) (c1 w a)) (c2 w a)) (c3 w a)
def most (w : Wind) (a : Axis) : Int := max (max (max (c0 w a) (c1 w a)) (c2 w a)) (c3 w a)
def near (w : Wind) (a : Axis) : Int := max (max (least w a) (-most w a)) 0
def far (w : Wind) (a : Axis) : Int := max (-least w a) (most w a)
def long (a : Axis) : Int := a.x * a.x + a.y * a.y
theorem least_le_most (w : Wind) (a : Axis) : least w a ≤ most w a := by unfold least most; omega
theorem sq_nonneg (x : Int) : 0 ≤ x * x := by
  rcases Int.le_total 0 x with h | h
  · exact Int.mul_nonneg h h
  · have := Int.mul_nonneg (show 0 ≤ -x by omega) (show 0 ≤ -x by omega)
    rwa [Int.neg_mul_neg] at this
theorem sq_le {x y : Int} (h1 : -y ≤ x) (h2 : x ≤ y) : x * x ≤ y * y := by
  rcases Int.le_total 0 x with h | h
  · exact Int.mul_le_mul h2 h2 h (by omega)
  · have := Int.mul_le_mul (show -x ≤ y by omega) (show -x ≤ y by omega) (show 0 ≤ -x by omega) (by omega)
    rwa [Int.neg_mul_neg] at this
/-- no crosswind is above the wind's own length -/
theorem cauchy (u v p q : Int) : (u * q - v * p) * (u * q - v * p) ≤ (u * u + v * v) * (p * p + q * q) := by
  have h := sq_nonneg (u * p + v * q)
  have e : (u * q - v * p) * (u * q - v * p) + (u * p + v * q) * (u * p + v * q) = (u * u + v * v) * (p * p + q * q) := by grind
  omega
theorem corner_le {u v : Int} {a : Axis} (hu : -2000 ≤ u ∧ u ≤ 2000) (hv : -2000 ≤ v ∧ v ≤ 2000) : (u * a.y - v * a.x) * (u * a.y - v * a.x) ≤ 8000000 * long a := by
  have h1 := cauchy u v a.x a.y
  have h2 : u * u ≤ 2000 * 2000 := sq_le (by omega) (by omega)
  have h3 : v * v ≤ 2000 * 2000 := sq_le (by omega) (by omega)
  have h4 : 0 ≤ long a := by have := sq_nonneg a.x; have := sq_nonneg a.y; unfold long; omega
  have h5 : (u * u + v * v) * long a ≤ 8000000 * long a := Int.mul_le_mul_of_nonneg_right (by omega) h4
  unfold long at *
  omega
theorem long_pos {a : Axis} (h : axisB a = true) : 1 ≤ long a ∧ long a ≤ 2000000 := by
  obtain ⟨h1, h2, h3⟩ := axisB_iff.1 h
  have s1 : a.x * a.x ≤ 1000 * 1000 := sq_le (by omega) (by omega)
  have s2 : a.y * a.y ≤ 1000 * 1000 := sq_le (by omega) (by omega)
  have n1 := sq_nonneg a.x
  have n2 := sq_nonneg a.y
  unfold long
  refine ⟨?_, by omega⟩
  rcases Classical.em (a.x = 0) with hx | hx
  · have hy : a.y ≠ 0 := fun hy => h3 ⟨hx, hy⟩
    have : a.y * a.y ≠ 0 := by intro e; rcases Int.mul_eq_zero.1 e with h | h <;> exact hy h
    omega
  · have : a.x * a.x ≠ 0 := by intro e; rcases Int.mul_eq_zero.1 e with h | h <;> exact hx h
    omega
/-- the greatest whole number whose square, times n, is not above x -/
def IsRoot (x n r : Int) : Prop := 0 ≤ r ∧ r * r * n ≤ x ∧ x < (r + 1) * (r + 1) * n
theorem root_unique {x n r s : Int} (hn : 0 < n) (hr : IsRoot x n r) (hs : IsRoot x n s) : r = s := by
  obtain ⟨r0, r1, r2⟩ := hr
  obtain ⟨s0, s1, s2⟩ := hs
  have key : ∀ {u v : Int}, 0 ≤ u → 0 ≤ v → u * u * n ≤ x → x < (v + 1) * (v + 1) * n → u ≤ v := by
    intro u v hu hv h1 h2
    rcases Int.lt_or_le v u with h | h
    · exfalso
      have h3 : (v + 1) * (v + 1) ≤ u * u := Int.mul_le_mul (by omega) (by omega) (by omega) hu
      have h4 := Int.mul_le_mul_of_nonneg_right h3 (Int.le_of_lt hn)
      omega
    · exact h
  have a := key r0 s0 r1 s2
  have b := key s0 r0 s1 r2
  omega
theorem far_sq {w : Wind} {a : Axis} (hw : windB w = true) : far w a * far w a ≤ 8000000 * long a := by
  obtain ⟨⟨h1, h2, h3⟩, h4, h5, h6⟩ := windB_iff.1 hw
  have k0 := corner_le (a := a) (u := w.xlo) (v := w.ylo) (by omega) (by omega)
  have k1 := corner_le (a := a) (u := w.xlo) (v := w.yhi) (by omega) (by omega)
  have k2 := corner_le (a := a) (u := w.xhi) (v := w.ylo) (by omega) (by omega)
  have k3 := corner_le (a := a) (u := w.xhi) (v := w.yhi) (by omega) (by omega)
  have e : ∀ x : Int, (-x) * (-x) = x * x := fun x => Int.neg_mul_neg x x
  have hf : far w a = -(c0 w a) ∨ far w a = -(c1 w a) ∨ far w a = -(c2 w a) ∨ far w a = -(c3 w a) ∨ far w a = c0 w a ∨ far w a = c1 w a ∨ far w a = c2 w a ∨ far w a = c3 w a := by
    unfold far least most; omega
  rcases hf with h | h | h | h | h | h | h | h <;> rw [h]
  · rw [e]; exact k0
  · rw [e]; exact k1
  · rw [e]; exact k2
  · rw [e]; exact k3
  · exact k0
  · exact k1
  · exact k2
  · exact k3
theorem near_far (w : Wind) (a : Axis) : 0 ≤ near w a ∧ near w a ≤ far w a := by
  have := least_le_most w a
  unfold near far; omega
theorem near_sq {w : Wind} {a : Axis} (hw : windB w = true) : near w a * near w a ≤ 8000000 * long a := by
  have h1 := near_far w a
  have h2 := far_sq (a := a) hw
  have h3 := sq_le (x := near w a) (y := far w a) (by omega) (by omega)
  omega
/-- the program's search begins with a number that is too great -/
theorem root_top {x n : Int} (hn : 1 ≤ n) (hx : x ≤ 8000000 * n) : x < 4001 * 4001 * n := by omega
/-- one step of a search by halves -/
theorem half {lo hi : Int} (h : 1 < hi - lo) : lo < (lo + hi) / 2 ∧ (lo + hi) / 2 < hi := by omega
/-! ### Turning a shed -/
def firstOf (f : Nat → Bool) (n : Nat) : Option Nat := (List.range n).find? f
theorem firstOf_some {f : Nat → Bool} {n k : Nat} (hk : k < n) (hb : ∀ j, j < k → f j = false) (h : f k = true) : firstOf f n = some k := by
  unfold firstOf
  rw [List.find?_range_eq_some]
  exact ⟨h, by simpa using hk, fun j hj => by simp [hb j hj]⟩
theorem firstOf_none {f : Nat → Bool} {n : Nat} (hb : ∀ j, j < n → f j = false) : firstOf f n = none := by
  unfold firstOf
  rw [List.find?_range_eq_none]
  intro j hj
  simp [hb j hj]
/-- a search whose later numbers are all like earlier ones may stop sooner -/
theorem firstOf_short {f : Nat → Bool} {m n : Nat} (hmn : m ≤ n) (h : ∀ s, m ≤ s → s < n → ∃ t, t < m ∧ f t = f s) : firstOf f n = firstOf f m := by
  cases hf : firstOf f m with
  | some k =>
    unfold firstOf at hf
    rw [List.find?_range_eq_some] at hf
    obtain ⟨h1, h2, h3⟩ := hf
    have hk : k < m := by simpa using h2
    exact firstOf_some (by omega) (fun j hj => by simpa using h3 j hj) h1
  | none =>
    unfold firstOf at hf
    rw [List.find?_range_eq_none] at hf
    have hno : ∀ j, j < m → f j = false := fun j hj => by simpa using hf j hj
    refine firstOf_none fun s hs => ?_
    rcases Nat.lt_or_ge s m with hsm | hsm
    · exact hno s hsm
    · obtain ⟨t, ht, e⟩ := h s hsm hs
      rw [← e]; exact hno t ht
/-- the axis so many steps on, and so many steps back -/
def onBy (n at' s : Nat) : Nat := (at' + s) % n
def backBy (n at' s : Nat) : Nat := (at' + n - s) % n
theorem on_back {n p s : Nat} (hs : s < n) (h0 : 0 < s) : onBy n p s = backBy n p (n - s) ∧ backBy n p s = onBy n p (n - s) := by
  unfold onBy backBy
  refine ⟨?_, ?_⟩
  · rw [show p + n - (n - s) = p + s by omega]
  · rw [show p + n - s = p + (n - s) by omega]
/-- THE LAW OF THE TURN: no axis is farther off than half of them -/
theorem turn_short {n p : Nat} (g : Nat → Bool) (hn : 0 < n) : firstOf (fun s => g (onBy n p s) || g (backBy n p s)) n = firstOf (fun s => g (onBy n p s) || g (backBy n p s)) (n / 2 + 1) := by
  refine firstOf_short (by omega) fun s h1 h2 => ⟨n - s, by omega, ?_⟩
  obtain ⟨e1, e2⟩ := on_back (p := p) h2 (by omega)
  simp only [e1, e2, Bool.or_comm]
end Bal.Mast

/-
  Mast, the plain side, on: ranges, roots as numbers, crosswinds and their errors. No program in sight.
-/
namespace Bal.Mast
open Bal.Trim
structure Span where
  lo : Int
  hi : Int
  deriving DecidableEq, Inhabited
def rng (xs : List Int) (lo hi : Int) : Bool := xs.all fun n => inB n lo hi
def spanIn (x y lo hi : Int) : Bool := decide (x ≤ y) && rng [x, y] lo hi
theorem windB_spans (w : Wind) : windB w = (spanIn w.xlo w.xhi (-2000) 2000 && spanIn w.ylo w.yhi (-2000) 2000) := by
  rw [Bool.eq_iff_iff, windB_iff]
  simp [spanIn, rng, inB]
  omega
theorem axisB_rng (a : Axis) : axisB a = (rng [a.x, a.y] (-1000) 1000 && !(decide (a.x = 0) && decide (a.y = 0))) := by
  rw [Bool.eq_iff_iff, axisB_iff]
  simp [rng, inB]
  omega
/-- the root as a number -/
def rt (x n : Int) : Int := match (List.range 4001).find? (fun r : Nat => decide ((r : Int) * r * n ≤ x ∧ x < ((r : Int) + 1) * ((r : Int) + 1) * n)) with | some r => (r : Int) | none => 0
theorem rt_of {x n r : Int} (hn : 0 < n) (h : IsRoot x n r) (hr : r ≤ 4000) : rt x n = r := by
  obtain ⟨k, rfl⟩ : ∃ k : Nat, r = k := ⟨r.toNat, by have := h.1; omega⟩
  unfold rt
  cases hf : (List.range 4001).find? (fun r : Nat => decide ((r : Int) * r * n ≤ x ∧ x < ((r : Int) + 1) * ((r : Int) + 1) * n)) with
  | none =>
    rw [List.find?_eq_none] at hf
    exact absurd (decide_eq_true h.2) (hf k (by simp; omega))
  | some j =>
    have hj := List.find?_some hf
    have hj' := of_decide_eq_true hj
    show (j : Int) = k
    exact root_unique hn ⟨by omega, hj'⟩ h
theorem root_le {x n r : Int} (hn : 1 ≤ n) (hx : x ≤ 8000000 * n) (h : IsRoot x n r) : r ≤ 2828 := by
  rcases Int.lt_or_le 2828 r with hlt | hle
  · exfalso
    have h1 : 2829 * 2829 ≤ r * r := Int.mul_le_mul (by omega) (by omega) (by omega) (by omega)
    have h2 := Int.mul_le_mul_of_nonneg_right h1 (show 0 ≤ n by omega)
    have := h.2.1
    omega
  · exact hle
/-- the search by halves has found it -/
theorem rt_half {x n lo : Int} (hn : 1 ≤ n) (hx : x ≤ 8000000 * n) (h0 : 0 ≤ lo) (h1 : lo * lo * n ≤ x) (h2 : x < (lo + 1) * (lo + 1) * n) : rt x n = lo :=
  rt_of (by omega) ⟨h0, h1, h2⟩ (by have := root_le hn hx ⟨h0, h1, h2⟩; omega)
theorem rt_pos (x n : Int) : 0 ≤ rt x n ∧ rt x n ≤ 4000 := by
  unfold rt
  cases hf : (List.range 4001).find? (fun r : Nat => decide ((r : Int) * r * n ≤ x ∧ x < ((r : Int) + 1) * ((r : Int) + 1) * n)) with
  | none => simp
  | some j =>
    have := List.mem_of_find?_eq_some hf
    simp at this
    show 0 ≤ (j : Int) ∧ (j : Int) ≤ 4000
    omega
/-! ### The crosswinds and their errors -/
def crossE (w : Wind) (a : Axis) : Int := if windB w then (if axisB a then 0 else 70) else 71
def crossLo (w : Wind) (a : Axis) : Int := if crossE w a = 0 then rt (near w a * near w a) (long a) else 0
def upHi (r x n : Int) : Int := if r * r * n < x then r + 1 else r
def crossHi (w : Wind) (a : Axis) : Int := if crossE w a = 0 then upHi (rt (far w a * far w a) (long a)) (far w a * far w a) (long a) else 0
def calmS (w : Wind) (a : Axis) (m : Int) : Bool := decide (far w a * far w a ≤ m * m * long a)
def calmE (w : Wind) (a : Axis) (m : Int) : Int := if windB w then (if axisB a then (if inB m 0 2000 then 0 else 2) else 70) else 71
def calmB (w : Wind) (a : Axis) (m : Int) : Bool := if calmE w a m = 0 then calmS w a m else false
theorem corner_bd {u v : Int} {a : Axis} (hu : -2000 ≤ u ∧ u ≤ 2000) (hv : -2000 ≤ v ∧ v ≤ 2000) (ha : axisB a = true) : (-2000000 ≤ u * a.y ∧ u * a.y ≤ 2000000) ∧ -2000000 ≤ v * a.x ∧ v * a.x ≤ 2000000 := by
  obtain ⟨h1, h2, _⟩ := axisB_iff.1 ha
  have := mul_bd (A := 2000) (B := 1000) hu.1 hu.2 h2.1 h2.2
  have := mul_bd (A := 2000) (B := 1000) hv.1 hv.2 h1.1 h1.2
  omega
theorem far_bd {w : Wind} {a : Axis} (hw : windB w = true) (ha : axisB a = true) : (0 ≤ near w a ∧ near w a ≤ far w a) ∧ far w a ≤ 4000000 ∧ (-4000000 ≤ least w a ∧ least w a ≤ 4000000) ∧ -4000000 ≤ most w a ∧ most w a ≤ 4000000 := by
  obtain ⟨⟨h1, h2, h3⟩, h4, h5, h6⟩ := windB_iff.1 hw
  have k0 := corner_bd (u := w.xlo) (v := w.ylo) (by omega) (by omega) ha
  have k1 := corner_bd (u := w.xlo) (v := w.yhi) (by omega) (by omega) ha
  have k2 := corner_bd (u := w.xhi) (v := w.ylo) (by omega) (by omega) ha
  have k3 := corner_bd (u := w.xhi) (v := w.yhi) (by omega) (by omega) ha
  have := near_far w a
  unfold far least most c0 c1 c2 c3 at *
  omega
end Bal.Mast

/-
  Mast, the plain side, on: turned sheds and manned lines. No program in sight.
-/
namespace Bal.Mast
open Bal.Trim
/-! ### Turning a shed -/
def turnable (l : List Axis) : Bool := decide (1 ≤ l.length) && decide (l.length ≤ 32) && l.all axisB
def calmAt (v : Wind) (m : Int) (l : List Axis) (i : Nat) : Bool := calmS v (l.getD i default) m
def turnAt (v : Wind) (m : Int) (l : List Axis) (p s : Nat) : Bool := calmAt v m l (onBy l.length p s) || calmAt v m l (backBy l.length p s)
def turnS (v : Wind) (m : Int) (l : List Axis) (p : Nat) : Option Nat := firstOf (turnAt v m l p) l.length
def turnTo (v : Wind) (m : Int) (l : List Axis) (p s : Nat) : Nat := if calmAt v m l (onBy l.length p s) then onBy l.length p s else backBy l.length p s
def turnOk (l : List Axis) (p : Int) (v : Wind) (m : Int) : Int := if turnable l then (if windB v then (if inB p 0 (l.length - 1) && inB m 0 2000 then 0 else 2) else 71) else 72
def turnE (l : List Axis) (p : Int) (v : Wind) (m : Int) : Int := if turnOk l p v m = 0 then (match turnS v m l p.toNat with | some _ => 0 | none => 6) else turnOk l p v m
def turnN (l : List Axis) (p : Int) (v : Wind) (m : Int) : Int := if turnOk l p v m = 0 then (match turnS v m l p.toNat with | some s => (s : Int) | none => 0) else 0
def turnI (l : List Axis) (p : Int) (v : Wind) (m : Int) : Int := if turnOk l p v m = 0 then (match turnS v m l p.toNat with | some s => (turnTo v m l p.toNat s : Int) | none => 0) else 0
theorem turnS_half {v : Wind} {m : Int} {l : List Axis} {p : Nat} (h : 0 < l.length) : turnS v m l p = firstOf (turnAt v m l p) (l.length / 2 + 1) :=
  turn_short (fun i => calmAt v m l i) h
/-! ### Manning the lines -/
def linesB (l : List Span) : Bool := decide (l.length ≤ 8) && l.all (fun s => spanIn s.lo s.hi 0 1000000)
def needOf (m : Int) (s : Span) : Int := (s.hi + m - 1) / m
def needs (m : Int) (l : List Span) : List Int := l.map (needOf m)
def total (xs : List Int) : Int := sumBy id xs
/-- the line whose persons hold most, of the first k -/
def pick (hs : List Span) (ls : List Int) : Nat → Int
  | 0 => -1
  | k + 1 => if (hs.getD k default).hi = 0 then pick hs ls k else
      if pick hs ls k < 0 ∨ (hs.getD (pick hs ls k).toNat default).hi * ls.getD k 0 < (hs.getD k default).hi * ls.getD (pick hs ls k).toNat 0 then (k : Int) else pick hs ls k
theorem pick_bd (hs : List Span) (ls : List Int) : ∀ k, -1 ≤ pick hs ls k ∧ pick hs ls k < k
  | 0 => by simp [pick]
  | k + 1 => by
    have := pick_bd hs ls k
    simp only [pick]
    split
    · omega
    · split <;> omega
/-- one person more -/
def one (hs : List Span) (ls : List Int) : List Int := if pick hs ls hs.length < 0 then ls else ls.set (pick hs ls hs.length).toNat (ls.getD (pick hs ls hs.length).toNat 0 + 1)
def after (hs : List Span) (ls : List Int) : Nat → List Int
  | 0 => ls
  | j + 1 => one hs (after hs ls j)
theorem one_len (hs : List Span) (ls : List Int) : (one hs ls).length = ls.length := by unfold one; split <;> simp
theorem after_len (hs : List Span) (ls : List Int) : ∀ j, (after hs ls j).length = ls.length
  | 0 => rfl
  | j + 1 => by rw [after, one_len, after_len hs ls j]
theorem pick_none {hs : List Span} {ls : List Int} : ∀ k, (pick hs ls k < 0 ↔ ∀ i, i < k → (hs.getD i default).hi = 0)
  | 0 => by simp [pick]
  | k + 1 => by
    have ih := pick_none (hs := hs) (ls := ls) k
    have hb := pick_bd hs ls k
    simp only [pick]
    constructor
    · intro h i hi
      split at h
      · rename_i h0
        rcases Nat.lt_or_ge i k with h' | h'
        · exact ih.1 h i h'
        · obtain rfl : i = k := by omega
          exact h0
      · split at h
        · omega
        · rename_i h1 h2
          exact absurd (.inl h) h2
    · intro h
      rw [if_pos (h k (by omega))]
      exact ih.2 fun i hi => h i (by omega)
/-- where no line is picked once none ever is -/
theorem after_none {hs : List Span} {ls : List Int} (h : pick hs ls hs.length < 0) : ∀ j, after hs ls j = ls
  | 0 => rfl
  | j + 1 => by rw [after, after_none h j]; unfold one; rw [if_pos h]
theorem one_bd {hs : List Span} {ls : List Int} {M : Int} (h0 : 0 ≤ M) (h : ∀ x ∈ ls, 0 ≤ x ∧ x ≤ M) : ∀ x ∈ one hs ls, 0 ≤ x ∧ x ≤ M + 1 := by
  intro x hx
  unfold one at hx
  split at hx
  · have := h x hx; omega
  · rcases List.mem_or_eq_of_mem_set hx with hx | rfl
    · have := h x hx; omega
    · have : 0 ≤ ls.getD (pick hs ls hs.length).toNat 0 ∧ ls.getD (pick hs ls hs.length).toNat 0 ≤ M := by
        rw [List.getD_eq_getElem?_getD]
        cases he : ls[(pick hs ls hs.length).toNat]? with
        | none => simp; omega
        | some y => exact h y (List.mem_of_getElem? he)
      omega
theorem after_bd {hs : List Span} {ls : List Int} (h : ∀ x ∈ ls, 0 ≤ x ∧ x ≤ 200) : ∀ j : Nat, ∀ x ∈ after hs ls j, 0 ≤ x ∧ x ≤ 200 + j
  | 0, x, hx => by have := h x hx; simp; omega
  | j + 1, x, hx => by
    have := one_bd (hs := hs) (show (0 : Int) ≤ 200 + j by omega) (after_bd h j) x hx
    omega
theorem need_bd {m : Int} {s : Span} (h1 : 1 ≤ m) (h2 : 0 ≤ s.hi) (h3 : s.hi ≤ 1000000) : 0 ≤ needOf m s ∧ needOf m s ≤ 1000000 := by
  unfold needOf
  refine ⟨Int.ediv_nonneg (by omega) (by omega), ?_⟩
  rw [show s.hi + m - 1 = (s.hi - 1) + 1 * m by omega, Int.add_mul_ediv_right _ _ (by omega)]
  have : (s.hi - 1) / m ≤ 999999 := by
    rcases Int.lt_or_le (s.hi - 1) 0 with h | h
    · have : s.hi - 1 = -1 := by omega
      rw [this]
      have := Int.ediv_neg_of_neg_of_pos (show (-1 : Int) < 0 by omega) (show 0 < m by omega)
      omega
    · have := Int.ediv_le_self m h
      omega
  omega
theorem needs_take {m : Int} {l : List Span} {k : Nat} (hk : k < l.length) : needs m (l.take (k + 1)) = needs m (l.take k) ++ [needOf m l[k]] := by
  unfold needs
  rw [List.take_succ_eq_append_getElem hk, List.map_append]
  rfl
theorem total_snoc (xs : List Int) (y : Int) : total (xs ++ [y]) = total xs + y := by
  unfold total
  rw [sumBy_append, sumBy_cons, sumBy_nil]
  simp
theorem needs_len (m : Int) (l : List Span) : (needs m l).length = l.length := by simp [needs]
theorem line_bd {s : Span} (h : spanIn s.lo s.hi 0 1000000 = true) : 0 ≤ s.hi ∧ s.hi ≤ 1000000 := by
  simp [spanIn, rng, inB] at h; omega
theorem needs_bd {m : Int} {l : List Span} (h1 : 1 ≤ m) (h : ∀ s ∈ l, spanIn s.lo s.hi 0 1000000 = true) : ∀ x ∈ needs m l, 0 ≤ x ∧ x ≤ 1000000 := by
  intro x hx
  obtain ⟨s, hs, rfl⟩ := List.mem_map.1 hx
  obtain ⟨h2, h3⟩ := line_bd (h s hs)
  exact need_bd h1 h2 h3
theorem total_bd {xs : List Int} (h : ∀ x ∈ xs, 0 ≤ x ∧ x ≤ 1000000) : 0 ≤ total xs ∧ total xs ≤ 1000000 * xs.length := by
  induction xs with
  | nil => simp [total]
  | cons y ys ih =>
    have := ih fun x hx => h x (by simp [hx])
    have h0 := h y (by simp)
    have e : total (y :: ys) = y + total ys := rfl
    simp only [List.length_cons]
    omega
def manOk (l : List Span) (people m : Int) : Bool := linesB l && inB people 0 200 && inB m 1 1000000
def manE (l : List Span) (people m : Int) : Int := if manOk l people m then (if people < total (needs m l) then 75 else 0) else 2
def manL (l : List Span) (people m : Int) : List Int := if manE l people m = 0 then after l (needs m l) (people - total (needs m l)).toNat else []
theorem total_mem {xs : List Int} (h : ∀ x ∈ xs, 0 ≤ x) : 0 ≤ total xs ∧ ∀ x ∈ xs, x ≤ total xs := by
  induction xs with
  | nil => simp [total]
  | cons y ys ih =>
    obtain ⟨i1, i2⟩ := ih fun x hx => h x (by simp [hx])
    have h0 := h y (by simp)
    have e : total (y :: ys) = y + total ys := rfl
    refine ⟨by omega, fun x hx => ?_⟩
    rcases List.mem_cons.1 hx with rfl | hx
    · omega
    · have := i2 x hx; omega
end Bal.Mast

/-
  Ports, berths, and acts at the mast: the plain side. No program in sight.
-/
namespace Bal.Mast
open Bal.Trim
structure Berth where
  ship : Int
  axis : Int
  held : Int
  wire : Bool
  opn : Bool
  deriving DecidableEq, Inhabited
structure Port where
  axes : List Axis
  people : Int
  most : Int
  pulls : List Span
  cross : Int
/-- an act: its kind, its number -/
structure Deed where
  kind : Int
  n : Int
  deriving DecidableEq, Inhabited
/-- a berth at work -/
structure Dock where
  b : Berth
  need : Int
  wind : Wind
  n : Int
def noBerth : Berth := ⟨0, 0, 0, false, false⟩
def portB (p : Port) : Bool := turnable p.axes && linesB p.pulls && inB p.people 0 200 && inB p.most 1 1000000 && inB p.cross 0 2000
def checkPort (p : Port) : Int := if portB p then 0 else 72
def needP (p : Port) : Int := max (total (needs p.most p.pulls)) 1
theorem portB_parts {p : Port} (h : portB p = true) : turnable p.axes = true ∧ linesB p.pulls = true ∧ inB p.people 0 200 = true ∧ inB p.most 1 1000000 = true ∧ inB p.cross 0 2000 = true := by
  simp only [portB, Bool.and_eq_true] at h
  exact ⟨h.1.1.1.1, h.1.1.1.2, h.1.1.2, h.1.2, h.2⟩
theorem inB_iff {n lo hi : Int} : inB n lo hi = true ↔ lo ≤ n ∧ n ≤ hi := by simp [inB]
theorem turnable_parts {l : List Axis} (h : turnable l = true) : 1 ≤ l.length ∧ l.length ≤ 32 ∧ ∀ a ∈ l, axisB a = true := by
  simp only [turnable, Bool.and_eq_true, decide_eq_true_eq, List.all_eq_true] at h
  exact ⟨h.1.1, h.1.2, h.2⟩
theorem linesB_parts {l : List Span} (h : linesB l = true) : l.length ≤ 8 ∧ ∀ s ∈ l, spanIn s.lo s.hi 0 1000000 = true := by
  simp only [linesB, Bool.and_eq_true, decide_eq_true_eq, List.all_eq_true] at h
  exact h
theorem portB_bd {p : Port} (h : portB p = true) : (1 ≤ p.axes.length ∧ p.axes.length ≤ 32) ∧ p.pulls.length ≤ 8 ∧ (0 ≤ p.people ∧ p.people ≤ 200) ∧ (1 ≤ p.most ∧ p.most ≤ 1000000) ∧ 0 ≤ p.cross ∧ p.cross ≤ 2000 := by
  obtain ⟨h1, h2, h3, h4, h5⟩ := portB_parts h
  exact ⟨⟨(turnable_parts h1).1, (turnable_parts h1).2.1⟩, (linesB_parts h2).1, inB_iff.1 h3, inB_iff.1 h4, inB_iff.1 h5⟩
theorem needP_bd {p : Port} (h : portB p = true) : 1 ≤ needP p ∧ needP p ≤ 8000000 := by
  obtain ⟨h1, h2, h3, h4, h5⟩ := portB_parts h
  obtain ⟨h6, h7⟩ := linesB_parts h2
  have h8 := needs_bd (m := p.most) (inB_iff.1 h4).1 h7
  have h9 := total_bd h8
  rw [needs_len] at h9
  unfold needP
  omega
/-! ### Berths -/
/-- whether a berth's parts fit together -/
def shipB (b : Berth) : Bool := if b.ship = 0 ∨ b.ship = 1 then decide (b.held = 0) && !b.wire else if b.ship = 2 then decide (0 < b.held) else if b.ship = 3 ∨ b.ship = 5 then !b.wire else decide (0 < b.held) && !b.wire && b.opn
def fitsB (p : Port) (b : Berth) : Bool := decide (b.ship ≤ 5) && inB b.axis 0 (p.axes.length - 1) && (decide (b.held = 0) || inB b.held (needP p) p.people)
def berthB (p : Port) (b : Berth) : Bool := fitsB p b && shipB b
def checkBerth (p : Port) (b : Berth) : Int := if portB p then (if berthB p b then 0 else 73) else 72
theorem berth_parts {p : Port} {b : Berth} (h : berthB p b = true) : b.ship ≤ 5 ∧ (0 ≤ b.axis ∧ b.axis ≤ p.axes.length - 1) ∧ (b.held = 0 ∨ needP p ≤ b.held ∧ b.held ≤ p.people) ∧ shipB b = true := by
  simp only [berthB, fitsB, Bool.and_eq_true, Bool.or_eq_true, decide_eq_true_eq, inB_iff] at h
  exact ⟨h.1.1.1, h.1.1.2, h.1.2, h.2⟩
/-- what a valid berth's ship has in common -/
theorem ship_parts {b : Berth} (h : shipB b = true) (h5 : b.ship ≤ 5) (h0 : 0 ≤ b.ship) : (b.ship = 0 ∧ b.held = 0 ∧ b.wire = false) ∨ (b.ship = 1 ∧ b.held = 0 ∧ b.wire = false) ∨ (b.ship = 2 ∧ 0 < b.held) ∨ (b.ship = 3 ∧ b.wire = false) ∨ (b.ship = 4 ∧ 0 < b.held ∧ b.wire = false ∧ b.opn = true) ∨ (b.ship = 5 ∧ b.wire = false) := by
  have : b.ship = 0 ∨ b.ship = 1 ∨ b.ship = 2 ∨ b.ship = 3 ∨ b.ship = 4 ∨ b.ship = 5 := by omega
  rcases this with e | e | e | e | e | e <;> simp [shipB, e] at h <;> simp [e, h]
/-! ### Rules and what is done -/
def away (k : Dock) : Bool := decide (k.b.ship = 0)
def lined (k : Dock) : Bool := decide (k.b.ship = 2)
def masted (k : Dock) : Bool := decide (k.b.ship = 3)
def walking (k : Dock) : Bool := decide (k.b.ship = 4)
def housed (k : Dock) : Bool := decide (k.b.ship = 5)
def fast (k : Dock) : Bool := masted k || housed k
def reached (k : Dock) : Bool := decide (k.b.ship = 1) || fast k
def tied (k : Dock) : Bool := lined k || fast k
def gripped (k : Dock) : Bool := decide (0 < k.b.held)
def loose (k : Dock) : Bool := decide (k.b.held = 0)
def wired (k : Dock) : Bool := k.b.wire
def bare (k : Dock) : Bool := !k.b.wire
def opened (k : Dock) : Bool := k.b.opn
def shut (k : Dock) : Bool := !k.b.opn
def still (k : Dock) : Bool := !walking k
def crew (p : Port) (k : Dock) : Bool := inB k.n k.need p.people
def elsewhere (p : Port) (k : Dock) : Bool := inB k.n 0 (p.axes.length - 1) && decide (k.n ≠ k.b.axis)
def quiet (p : Port) (k : Dock) : Bool := calmS k.wind (p.axes.getD k.b.axis.toNat default) p.cross
/-- the rules of an act, in order -/
def rulesOf (p : Port) (k : Dock) : Int → List Bool
  | 1 => [away k]
  | 2 => [reached k, loose k, crew p k]
  | 3 => [tied k, bare k, gripped k]
  | 4 => [lined k, bare k]
  | 5 => [lined k, wired k]
  | 6 => [masted k, loose k]
  | 7 => [shut k]
  | 8 => [opened k, still k]
  | 9 => [elsewhere p k, shut k]
  | 10 => [masted k, gripped k, opened k, quiet p k]
  | 11 => [walking k, quiet p k]
  | 12 => [housed k, gripped k, opened k, quiet p k]
  | 13 => [walking k]
  | _ => []
def toShip (s : Int) (b : Berth) : Berth := { b with ship := s, wire := false }
/-- what an act does to a berth -/
def doneB (k : Dock) : Int → Berth
  | 1 => toShip 1 k.b
  | 2 => { k.b with held := k.n, ship := if fast k then k.b.ship else 2 }
  | 3 => { k.b with held := 0, ship := if fast k then k.b.ship else 1 }
  | 4 => { k.b with wire := true }
  | 5 => toShip 3 k.b
  | 6 => toShip 0 k.b
  | 7 => { k.b with opn := true }
  | 8 => { k.b with opn := false }
  | 9 => { k.b with axis := k.n }
  | 10 => toShip 4 k.b
  | 11 => toShip 5 k.b
  | 12 => toShip 4 k.b
  | 13 => toShip 3 k.b
  | _ => k.b
/-- the number of the first rule that does not hold; 0 if all do -/
def firstNot : List Bool → Nat → Int
  | [], _ => 0
  | true :: l, i => firstNot l (i + 1)
  | false :: _, i => ((i + 1 : Nat) : Int)
def tryR (p : Port) (k : Dock) (t : Int) : Int := firstNot (rulesOf p k t) 0
theorem firstNot_pos {l : List Bool} : ∀ {i : Nat}, 0 ≤ firstNot l i := by
  induction l with
  | nil => intro i; exact Int.le_refl 0
  | cons x l ih => intro i; cases x <;> simp only [firstNot] <;> first | exact ih | omega
theorem firstNot_all {l : List Bool} : ∀ {i : Nat}, (∀ x ∈ l, x = true) → firstNot l i = 0 := by
  induction l with
  | nil => intro i _; rfl
  | cons x l ih =>
    intro i h
    obtain rfl := h x (by simp)
    exact ih (fun y hy => h y (by simp [hy]))
theorem firstNot_at : ∀ {l : List Bool} {i j : Nat} (hj : j < l.length), (∀ q (h : q < j), l[q] = true) → l[j] = false → firstNot l i = ((i + j + 1 : Nat) : Int)
  | [], i, j, hj, _, _ => by simp at hj
  | x :: l, i, 0, hj, _, h => by
    simp at h
    subst h
    rfl
  | x :: l, i, j + 1, hj, ht, h => by
    have hx : x = true := ht 0 (by omega)
    subst hx
    have := firstNot_at (l := l) (i := i + 1) (j := j) (by simpa using hj) (fun q hq => ht (q + 1) (by omega)) (by simpa using h)
    simp only [firstNot, this]
    omega
/-! ### Do -/
structure Step where
  act : Deed
  wind : Wind
def doErr (p : Port) (b : Berth) (s : Step) : Int := if checkBerth p b = 0 then (if windB s.wind then (if inB s.act.kind 1 13 then 0 else 2) else 71) else checkBerth p b
def dockOf (p : Port) (b : Berth) (s : Step) : Dock := ⟨b, needP p, s.wind, s.act.n⟩
def doRule (p : Port) (b : Berth) (s : Step) : Int := if doErr p b s = 0 then tryR p (dockOf p b s) s.act.kind else 0
def doE (p : Port) (b : Berth) (s : Step) : Int := if doErr p b s = 0 then (if doRule p b s = 0 then 0 else 74) else doErr p b s
def doB (p : Port) (b : Berth) (s : Step) : Berth := if doE p b s = 0 then doneB (dockOf p b s) s.act.kind else noBerth
end Bal.Mast

/-
  Decision tables: rows that match, and the first state of a kind. No program in sight.
-/
namespace Bal.Mast
open Bal.Trim
set_option linter.unusedVariables false
structure Rw where
  conds : List Span
  action : Int
structure Tb where
  vars : List Span
  rows : List Rw
/-- whether a state's beginning is in the spans of a row -/
def hits : List Span → List Int → Bool
  | _, [] => true
  | [], _ :: _ => true
  | c :: cs, n :: ns => inB n c.lo c.hi && hits cs ns
def matchP (d : Tb) (st : List Int) (i : Nat) : Bool := match d.rows[i]? with | some r => hits r.conds st | none => false
/-- the rows that match, as far as k -/
def matchTo (d : Tb) (st : List Int) (k : Nat) : List Nat := (List.range k).filter (matchP d st)
def matchL (d : Tb) (st : List Int) : List Nat := matchTo d st d.rows.length
theorem matchTo_succ (d : Tb) (st : List Int) (k : Nat) : matchTo d st (k + 1) = matchTo d st k ++ if matchP d st k then [k] else [] := by
  unfold matchTo
  rw [List.range_succ, List.filter_append]
  cases h : matchP d st k <;> simp [h]
theorem mem_match {d : Tb} {st : List Int} {i : Nat} : i ∈ matchL d st ↔ ∃ h : i < d.rows.length, hits d.rows[i].conds st = true := by
  unfold matchL matchTo
  rw [List.mem_filter, List.mem_range]
  constructor
  · rintro ⟨h1, h2⟩
    refine ⟨h1, ?_⟩
    unfold matchP at h2
    rw [List.getElem?_eq_getElem h1] at h2
    exact h2
  · rintro ⟨h1, h2⟩
    refine ⟨h1, ?_⟩
    unfold matchP
    rw [List.getElem?_eq_getElem h1]
    exact h2
def Even (d : Tb) : Prop := ∀ r ∈ d.rows, r.conds.length = d.vars.length
theorem hits_app : ∀ (cs : List Span) (a b : List Int), hits cs (a ++ b) = (hits cs a && hits (cs.drop a.length) b)
  | cs, [], b => by cases cs <;> simp [hits]
  | [], x :: a, b => by cases b <;> simp [hits]
  | c :: cs, x :: a, b => by
    simp only [List.cons_append, hits, List.length_cons, List.drop_succ_cons]
    rw [hits_app cs a b, Bool.and_assoc]
theorem hits_mid {cs : List Span} {a u : List Int} {x : Int} (h : a.length < cs.length) : hits cs (a ++ x :: u) = (hits cs a && (inB x cs[a.length].lo cs[a.length].hi && hits (cs.drop (a.length + 1)) u)) := by
  rw [hits_app, List.drop_eq_getElem_cons h]
  rfl
/-- a state that the variables may have -/
def Box (d : Tb) (st : List Int) : Prop := st.length = d.vars.length ∧ hits d.vars st = true
/-- where what matches may change: behind a beginning, by the rows that match it -/
def Turns (d : Tb) (pre : List Int) (n : Int) : Prop := ∃ h : pre.length < d.vars.length, inB n d.vars[pre.length].lo d.vars[pre.length].hi = true ∧
  (n = d.vars[pre.length].lo ∨ ∃ i ∈ matchL d pre, ∃ r, d.rows[i]? = some r ∧ ∃ c, r.conds[pre.length]? = some c ∧ (n = c.lo ∨ n = c.hi + 1))
theorem match_same {d : Tb} {a b : List Int} (h : ∀ i (hi : i < d.rows.length), hits d.rows[i].conds a = hits d.rows[i].conds b) : matchL d a = matchL d b := by
  unfold matchL matchTo
  apply List.filter_congr
  intro i hi
  rw [List.mem_range] at hi
  unfold matchP
  rw [List.getElem?_eq_getElem hi]
  exact h i hi
/-- one less, where nothing turns -/
theorem lower_one {d : Tb} (hE : Even d) {pre u : List Int} {n : Int} (hb : Box d (pre ++ n :: u)) (hn : ¬ Turns d pre n) : Box d (pre ++ (n - 1) :: u) ∧ matchL d (pre ++ (n - 1) :: u) = matchL d (pre ++ n :: u) := by
  obtain ⟨hl, hh⟩ := hb
  have hk : pre.length < d.vars.length := by rw [← hl]; simp
  rw [hits_mid hk] at hh
  simp only [Bool.and_eq_true] at hh
  obtain ⟨h1, h2, h3⟩ := hh
  have hlo : n ≠ d.vars[pre.length].lo := fun e => hn ⟨hk, h2, .inl e⟩
  have h2b := inB_iff.1 h2
  refine ⟨⟨by simpa using hl, ?_⟩, match_same fun i hi => ?_⟩
  · rw [hits_mid hk]
    simp only [Bool.and_eq_true]
    exact ⟨h1, inB_iff.2 (by omega), h3⟩
  · have hc : pre.length < d.rows[i].conds.length := by rw [hE _ (List.getElem_mem hi)]; exact hk
    rw [hits_mid hc, hits_mid hc]
    cases hp : hits d.rows[i].conds pre with
    | false => simp
    | true =>
      have hm : i ∈ matchL d pre := mem_match.2 ⟨hi, hp⟩
      have hno : ∀ q, (n = (d.rows[i].conds[pre.length]).lo ∨ n = (d.rows[i].conds[pre.length]).hi + 1) → q := fun q e => absurd ⟨hk, h2, .inr ⟨i, hm, _, List.getElem?_eq_getElem hi, _, List.getElem?_eq_getElem hc, e⟩⟩ hn
      have e : inB (n - 1) (d.rows[i].conds[pre.length]).lo (d.rows[i].conds[pre.length]).hi = inB n (d.rows[i].conds[pre.length]).lo (d.rows[i].conds[pre.length]).hi := by
        rw [Bool.eq_iff_iff, inB_iff, inB_iff]
        constructor
        · intro h
          by_cases e : n = (d.rows[i].conds[pre.length]).hi + 1
          · exact hno _ (.inr e)
          · omega
        · intro h
          by_cases e : n = (d.rows[i].conds[pre.length]).lo
          · exact hno _ (.inl e)
          · omega
      rw [e]
theorem lowered {d : Tb} (hE : Even d) {pre u : List Int} : ∀ (m : Nat) (n : Int), Box d (pre ++ n :: u) → (∀ h : pre.length < d.vars.length, n - d.vars[pre.length].lo ≤ m) →
    ∃ n', n' ≤ n ∧ Turns d pre n' ∧ Box d (pre ++ n' :: u) ∧ matchL d (pre ++ n' :: u) = matchL d (pre ++ n :: u) := by
  intro m
  induction m with
  | zero =>
    intro n hb hm
    refine ⟨n, Int.le_refl _, ?_, hb, rfl⟩
    obtain ⟨hl, hh⟩ := hb
    have hk : pre.length < d.vars.length := by rw [← hl]; simp
    rw [hits_mid hk] at hh
    simp only [Bool.and_eq_true] at hh
    have h2 := inB_iff.1 hh.2.1
    have := hm hk
    exact ⟨hk, hh.2.1, .inl (by omega)⟩
  | succ m ih =>
    intro n hb hm
    by_cases ht : Turns d pre n
    · exact ⟨n, Int.le_refl _, ht, hb, rfl⟩
    · obtain ⟨h1, h2⟩ := lower_one hE hb ht
      obtain ⟨n', e1, e2, e3, e4⟩ := ih (n - 1) h1 (fun h => by have := hm h; omega)
      exact ⟨n', by omega, e2, e3, e4.trans h2⟩
/-- the order of states -/
def before : List Int → List Int → Prop
  | x :: xs, y :: ys => x < y ∨ x = y ∧ before xs ys
  | _, _ => False
theorem before_irrefl : ∀ a : List Int, ¬ before a a
  | [] => fun h => h
  | x :: a => fun h => by
    rcases h with h | ⟨_, h⟩
    · omega
    · exact before_irrefl a h
theorem before_trans : ∀ {a b c : List Int}, before a b → before b c → before a c
  | [], _, _, h, _ => h.elim
  | _ :: _, [], _, h, _ => h.elim
  | _ :: _, _ :: _, [], _, h => h.elim
  | x :: a, y :: b, z :: c, h, h' => by
    rcases h with h | ⟨rfl, h⟩
    · rcases h' with h' | ⟨rfl, h'⟩
      · exact .inl (by omega)
      · exact .inl h
    · rcases h' with h' | ⟨rfl, h'⟩
      · exact .inl h'
      · exact .inr ⟨rfl, before_trans h h'⟩
theorem before_total : ∀ {a b : List Int}, a.length = b.length → ¬ before a b → ¬ before b a → a = b
  | [], [], _, _, _ => rfl
  | [], _ :: _, h, _, _ => by simp at h
  | _ :: _, [], h, _, _ => by simp at h
  | x :: a, y :: b, h, h1, h2 => by
    have e : x = y := by
      rcases Int.lt_trichotomy x y with h3 | h3 | h3
      · exact absurd (.inl h3) h1
      · exact h3
      · exact absurd (.inl h3) h2
    subst e
    rw [before_total (by simpa using h) (fun h => h1 (.inr ⟨rfl, h⟩)) (fun h => h2 (.inr ⟨rfl, h⟩))]
theorem before_app : ∀ (p : List Int) {a b : List Int}, before (p ++ a) (p ++ b) ↔ before a b
  | [], a, b => Iff.rfl
  | x :: p, a, b => by
    simp only [List.cons_append, before]
    rw [before_app p]
    constructor
    · rintro (h | ⟨_, h⟩)
      · omega
      · exact h
    · exact fun h => .inr ⟨trivial, h⟩
/-- the first state with a beginning whose rows are wanted -/
def FirstExt (d : Tb) (W : List Nat → Bool) (pre : List Int) : Option (List Int) → Prop
  | some s => Box d s ∧ (∃ u, s = pre ++ u) ∧ W (matchL d s) = true ∧ ∀ t, Box d t → (∃ u, t = pre ++ u) → W (matchL d t) = true → ¬ before t s
  | none => ∀ t, Box d t → (∃ u, t = pre ++ u) → W (matchL d t) = false
theorem FirstExt.unique {d : Tb} {W : List Nat → Bool} {pre : List Int} {r r' : Option (List Int)} (h : FirstExt d W pre r) (h' : FirstExt d W pre r') : r = r' := by
  cases r with
  | none =>
    cases r' with
    | none => rfl
    | some s => obtain ⟨h1, h2, h3, _⟩ := h'; rw [h s h1 h2] at h3; cases h3
  | some s =>
    cases r' with
    | none => obtain ⟨h1, h2, h3, _⟩ := h; rw [h' s h1 h2] at h3; cases h3
    | some t =>
      obtain ⟨h1, h2, h3, h4⟩ := h
      obtain ⟨g1, g2, g3, g4⟩ := h'
      rw [before_total (h1.1.trans g1.1.symm) (g4 s h1 h2 h3) (h4 t g1 g2 g3)]
/-- a whole state -/
theorem FirstExt.whole {d : Tb} {W : List Nat → Bool} {pre : List Int} (hb : Box d pre) : FirstExt d W pre (if W (matchL d pre) then some pre else none) := by
  have key : ∀ t, Box d t → (∃ u, t = pre ++ u) → t = pre := by
    rintro t ht ⟨u, rfl⟩
    have h1 := ht.1
    have h2 := hb.1
    have : u = [] := List.eq_nil_of_length_eq_zero (by simp at h1; omega)
    subst this; simp
  cases hw : W (matchL d pre) with
  | true =>
    refine ⟨hb, ⟨[], by simp⟩, hw, fun t ht hu _ => ?_⟩
    rw [key t ht hu]
    exact before_irrefl _
  | false =>
    intro t ht hu
    rw [key t ht hu]; exact hw
/-- the search by one variable more: l: the values that are tried, in order -/
theorem FirstExt.step {d : Tb} (hE : Even d) {W : List Nat → Bool} {pre : List Int} {l : List Int} {f : Int → Option (List Int)} (hk : pre.length < d.vars.length) (hs : l.Pairwise (· ≤ ·)) (hc : ∀ n, Turns d pre n → n ∈ l)
    (hf : ∀ n ∈ l, FirstExt d W (pre ++ [n]) (f n)) : FirstExt d W pre (l.findSome? f) := by
  have low : ∀ t, Box d t → (∃ u, t = pre ++ u) → W (matchL d t) = true → ∃ n u t', n ∈ l ∧ t' = (pre ++ [n]) ++ u ∧ Box d t' ∧ W (matchL d t') = true ∧ ¬ before t t' := by
    rintro t ht ⟨u, rfl⟩ hw
    cases u with
    | nil => have := ht.1; simp at this; omega
    | cons n u =>
      obtain ⟨n', h1, h2, h3, h4⟩ := lowered hE (n - d.vars[pre.length].lo).toNat n ht (fun h => by omega)
      refine ⟨n', u, pre ++ n' :: u, hc n' h2, by simp, h3, by rw [h4]; exact hw, ?_⟩
      rw [before_app]
      rintro (h | ⟨_, h⟩)
      · omega
      · exact before_irrefl _ h
  cases hr : l.findSome? f with
  | none =>
    intro t ht hu
    cases hw : W (matchL d t) with
    | false => rfl
    | true =>
      obtain ⟨n, u, t', hn, he, hb, hw', _⟩ := low t ht hu hw
      have := hf n hn
      rw [List.findSome?_eq_none_iff.1 hr n hn] at this
      rw [this t' hb ⟨u, he⟩] at hw'
      cases hw'
  | some s =>
    obtain ⟨l1, n, l2, e, hfn, hno⟩ := List.findSome?_eq_some_iff.1 hr
    subst e
    have hn : n ∈ l1 ++ n :: l2 := by simp
    have h1 := hf n hn
    rw [hfn] at h1
    obtain ⟨g1, ⟨v, gv⟩, g3, g4⟩ := h1
    refine ⟨g1, ⟨n :: v, by rw [gv]; simp⟩, g3, fun t ht hu hw hlt => ?_⟩
    obtain ⟨n', u, t', hn', he, hb, hw', hnb⟩ := low t ht hu hw
    have hge : n ≤ n' := by
      rcases List.mem_append.1 hn' with h | h
      · exfalso
        have h2 := hf n' hn'
        rw [hno n' h] at h2
        rw [h2 t' hb ⟨u, he⟩] at hw'
        cases hw'
      · rcases List.mem_cons.1 h with rfl | h
        · exact Int.le_refl _
        · exact (List.pairwise_cons.1 (List.pairwise_append.1 hs).2.1).1 n' h
    have hlt2 : before t' s := by
      by_cases h2 : before t' t
      · exact before_trans h2 hlt
      · rw [← before_total (ht.1.trans hb.1.symm) hnb h2]; exact hlt
    rcases Int.lt_or_eq_of_le hge with h | h
    · rw [he, gv, List.append_assoc, List.append_assoc, before_app] at hlt2
      rcases hlt2 with h2 | ⟨h2, _⟩ <;> omega
    · subst h
      exact g4 t' hb ⟨u, he⟩ hw' hlt2
end Bal.Mast

/-
  What acts do, as the reference says: the plain side. No program in sight.
-/
namespace Bal.Mast
open Bal.Trim
/-! ### What is done, as the reference says -/
theorem firstNot_zero {l : List Bool} : ∀ {i : Nat}, firstNot l i = 0 → ∀ x ∈ l, x = true := by
  induction l with
  | nil => intro i _ x hx; cases hx
  | cons y l ih =>
    intro i h x hx
    cases y
    · simp only [firstNot] at h; omega
    · rcases List.mem_cons.1 hx with rfl | hx
      · rfl
      · exact ih h x hx
end Bal.Mast

/-
  What the outright statements of chapter 7 say of winds, turned sheds and manned lines: the plain side. No program in sight.
-/
namespace Bal.Mast
open Bal.Trim
set_option linter.unusedVariables false
/-! ### Winds -/
/-- the number of a span that another number chooses -/
def insideP (lo hi n : Int) : Int := lo + n % (hi - lo + 1)
/-! ### Turned sheds -/
/-! ### Manned lines -/
end Bal.Mast
