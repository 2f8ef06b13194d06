/-
  The plain side of the mast statements: winds, axes, roots. No program in sight.
-/
namespace Bal.Mast
structure Wind where
  xlo : Int
  xhi : Int
  ylo : Int
  yhi : Int
  deriving DecidableEq, Inhabited
structure Axis where
  x : Int
  y : Int
  deriving DecidableEq, Inhabited
def spanB (lo hi m : Int) : Bool := decide (-m ≤ lo) && decide (lo ≤ hi) && decide (hi ≤ m)
def windB (w : Wind) : Bool := spanB w.xlo w.xhi 2000 && spanB w.ylo w.yhi 2000
def axisB (a : Axis) : Bool := decide (-1000 ≤ a.x ∧ a.x ≤ 1000) && decide (-1000 ≤ a.y ∧ a.y ≤ 1000) && !(decide (a.x = 0) && decide (a.y = 0))
theorem windB_iff {w : Wind} : windB w = true ↔ (-2000 ≤ w.xlo ∧ w.xlo ≤ w.xhi ∧ w.xhi ≤ 2000) ∧ -2000 ≤ w.ylo ∧ w.ylo ≤ w.yhi ∧ w.yhi ≤ 2000 := by
  simp [windB, spanB]; omega
theorem axisB_iff {a : Axis} : axisB a = true ↔ (-1000 ≤ a.x ∧ a.x ≤ 1000) ∧ (-1000 ≤ a.y ∧ a.y ≤ 1000) ∧ ¬ (a.x = 0 ∧ a.y = 0) := by
  simp [axisB]; omega
def checkAxis (a : Axis) : Int := if axisB a then 0 else 70
def checkWind (w : Wind) : Int := if windB w then 0 else 71
/-- the four corners of a wind, across an axis -/
def c0 (w : Wind) (a : Axis) : Int := w.xlo * a.y - w.ylo * a.x
def c1 (w : Wind) (a : Axis) : Int := w.xlo * a.y - w.yhi * a.x
def c2 (w : Wind) (a : Axis) : Int := w.xhi * a.y - w.ylo * a.x
def c3 (w : Wind) (a : Axis) : Int := w.xhi * a.y - w.yhi * a.x
def least (w : Wind) (a : Axis) : Int := min (min (min (c0 w a) (c1 w a)) (c2 w a)) (c3 w a)
def most (w : Wind) (a : Axis) : Int := max (max (max (c0 w a) (c1 w a)) (c2 w a)) (c3 w a)
def near (w : Wind) (a : Axis) : Int := max (max (least w a) (-most w a)) 0
def far (w : Wind) (a : Axis) : Int := max (-least w a) (most w a)
def long (a : Axis) : Int := a.x * a.x + a.y * a.y
theorem least_le_most (w : Wind) (a : Axis) : least w a ≤ most w a := by unfold least most; omega
/-- the reference's own words for the least crosswind -/
theorem near_ref (w : Wind) (a : Axis) : (if least w a ≤ 0 ∧ 0 ≤ most w a then 0 else min (max (least w a) (-least w a)) (max (most w a) (-most w a))) = near w a := by
  have := least_le_most w a
  unfold near
  split <;> omega
theorem sq_nonneg (x : Int) : 0 ≤ x * x := by
  rcases Int.le_total 0 x with h | h
  · exact Int.mul_nonneg h h
  · have := Int.mul_nonneg (show 0 ≤ -x by omega) (show 0 ≤ -x by omega)
    rwa [Int.neg_mul_neg] at this
theorem sq_le {x y : Int} (h1 : -y ≤ x) (h2 : x ≤ y) : x * x ≤ y * y := by
  rcases Int.le_total 0 x with h | h
  · exact Int.mul_le_mul h2 h2 h (by omega)
  · have := Int.mul_le_mul (show -x ≤ y by omega) (show -x ≤ y by omega) (show 0 ≤ -x by omega) (by omega)
    rwa [Int.neg_mul_neg] at this
/-- no crosswind is above the wind's own length -/
theorem cauchy (u v p q : Int) : (u * q - v * p) * (u * q - v * p) ≤ (u * u + v * v) * (p * p + q * q) := by
  have h := sq_nonneg (u * p + v * q)
  have e : (u * q - v * p) * (u * q - v * p) + (u * p + v * q) * (u * p + v * q) = (u * u + v * v) * (p * p + q * q) := by grind
  omega
theorem corner_le {u v : Int} {a : Axis} (hu : -2000 ≤ u ∧ u ≤ 2000) (hv : -2000 ≤ v ∧ v ≤ 2000) : (u * a.y - v * a.x) * (u * a.y - v * a.x) ≤ 8000000 * long a := by
  have h1 := cauchy u v a.x a.y
  have h2 : u * u ≤ 2000 * 2000 := sq_le (by omega) (by omega)
  have h3 : v * v ≤ 2000 * 2000 := sq_le (by omega) (by omega)
  have h4 : 0 ≤ long a := by have := sq_nonneg a.x; have := sq_nonneg a.y; unfold long; omega
  have h5 : (u * u + v * v) * long a ≤ 8000000 * long a := Int.mul_le_mul_of_nonneg_right (by omega) h4
  unfold long at *
  omega
theorem long_pos {a : Axis} (h : axisB a = true) : 1 ≤ long a ∧ long a ≤ 2000000 := by
  obtain ⟨h1, h2, h3⟩ := axisB_iff.1 h
  have s1 : a.x * a.x ≤ 1000 * 1000 := sq_le (by omega) (by omega)
  have s2 : a.y * a.y ≤ 1000 * 1000 := sq_le (by omega) (by omega)
  have n1 := sq_nonneg a.x
  have n2 := sq_nonneg a.y
  unfold long
  refine ⟨?_, by omega⟩
  rcases Classical.em (a.x = 0) with hx | hx
  · have hy : a.y ≠ 0 := fun hy => h3 ⟨hx, hy⟩
    have : a.y * a.y ≠ 0 := by intro e; rcases Int.mul_eq_zero.1 e with h | h <;> exact hy h
    omega
  · have : a.x * a.x ≠ 0 := by intro e; rcases Int.mul_eq_zero.1 e with h | h <;> exact hx h
    omega
/-- the greatest whole number whose square, times n, is not above x -/
def IsRoot (x n r : Int) : Prop := 0 ≤ r ∧ r * r * n ≤ x ∧ x < (r + 1) * (r + 1) * n
theorem root_unique {x n r s : Int} (hn : 0 < n) (hr : IsRoot x n r) (hs : IsRoot x n s) : r = s := by
  obtain ⟨r0, r1, r2⟩ := hr
  obtain ⟨s0, s1, s2⟩ := hs
  have key : ∀ {u v : Int}, 0 ≤ u → 0 ≤ v → u * u * n ≤ x → x < (v + 1) * (v + 1) * n → u ≤ v := by
    intro u v hu hv h1 h2
    rcases Int.lt_or_le v u with h | h
    · exfalso
      have h3 : (v + 1) * (v + 1) ≤ u * u := Int.mul_le_mul (by omega) (by omega) (by omega) hu
      have h4 := Int.mul_le_mul_of_nonneg_right h3 (Int.le_of_lt hn)
      omega
    · exact h
  have a := key r0 s0 r1 s2
  have b := key s0 r0 s1 r2
  omega
/-- the root of a quotient is the root of the whole -/
theorem root_div {x n r : Int} (hn : 0 < n) (h : 0 ≤ r ∧ r * r ≤ x / n ∧ x / n < (r + 1) * (r + 1)) : IsRoot x n r := by
  refine ⟨h.1, ?_, ?_⟩
  · exact (Int.le_ediv_iff_mul_le hn).1 h.2.1
  · exact (Int.ediv_lt_iff_lt_mul hn).1 h.2.2
theorem far_sq {w : Wind} {a : Axis} (hw : windB w = true) : far w a * far w a ≤ 8000000 * long a := by
  obtain ⟨⟨h1, h2, h3⟩, h4, h5, h6⟩ := windB_iff.1 hw
  have k0 := corner_le (a := a) (u := w.xlo) (v := w.ylo) (by omega) (by omega)
  have k1 := corner_le (a := a) (u := w.xlo) (v := w.yhi) (by omega) (by omega)
  have k2 := corner_le (a := a) (u := w.xhi) (v := w.ylo) (by omega) (by omega)
  have k3 := corner_le (a := a) (u := w.xhi) (v := w.yhi) (by omega) (by omega)
  have e : ∀ x : Int, (-x) * (-x) = x * x := fun x => Int.neg_mul_neg x x
  have hf : far w a = -(c0 w a) ∨ far w a = -(c1 w a) ∨ far w a = -(c2 w a) ∨ far w a = -(c3 w a) ∨ far w a = c0 w a ∨ far w a = c1 w a ∨ far w a = c2 w a ∨ far w a = c3 w a := by
    unfold far least most; omega
  rcases hf with h | h | h | h | h | h | h | h <;> rw [h]
  · rw [e]; exact k0
  · rw [e]; exact k1
  · rw [e]; exact k2
  · rw [e]; exact k3
  · exact k0
  · exact k1
  · exact k2
  · exact k3
theorem near_far (w : Wind) (a : Axis) : 0 ≤ near w a ∧ near w a ≤ far w a := by
  have := least_le_most w a
  unfold near far; omega
theorem near_sq {w : Wind} {a : Axis} (hw : windB w = true) : near w a * near w a ≤ 8000000 * long a := by
  have h1 := near_far w a
  have h2 := far_sq (a := a) hw
  have h3 := sq_le (x := near w a) (y := far w a) (by omega) (by omega)
  omega
/-- the program's search begins with a number that is too great -/
theorem root_top {x n : Int} (hn : 1 ≤ n) (hx : x ≤ 8000000 * n) : x < 4001 * 4001 * n := by omega
/-- one step of a search by halves -/
theorem half {lo hi : Int} (h : 1 < hi - lo) : lo < (lo + hi) / 2 ∧ (lo + hi) / 2 < hi := by omega
/-! ### Turning a shed -/
def firstOf (f : Nat → Bool) (n : Nat) : Option Nat := (List.range n).find? f
theorem firstOf_some {f : Nat → Bool} {n k : Nat} (hk : k < n) (hb : ∀ j, j < k → f j = false) (h : f k = true) : firstOf f n = some k := by
  unfold firstOf
  rw [List.find?_range_eq_some]
  exact ⟨h, by simpa using hk, fun j hj => by simp [hb j hj]⟩
theorem firstOf_none {f : Nat → Bool} {n : Nat} (hb : ∀ j, j < n → f j = false) : firstOf f n = none := by
  unfold firstOf
  rw [List.find?_range_eq_none]
  intro j hj
  simp [hb j hj]
/-- a search whose later numbers are all like earlier ones may stop sooner -/
theorem firstOf_short {f : Nat → Bool} {m n : Nat} (hmn : m ≤ n) (h : ∀ s, m ≤ s → s < n → ∃ t, t < m ∧ f t = f s) : firstOf f n = firstOf f m := by
  cases hf : firstOf f m with
  | some k =>
    unfold firstOf at hf
    rw [List.find?_range_eq_some] at hf
    obtain ⟨h1, h2, h3⟩ := hf
    have hk : k < m := by simpa using h2
    exact firstOf_some (by omega) (fun j hj => by simpa using h3 j hj) h1
  | none =>
    unfold firstOf at hf
    rw [List.find?_range_eq_none] at hf
    have hno : ∀ j, j < m → f j = false := fun j hj => by simpa using hf j hj
    refine firstOf_none fun s hs => ?_
    rcases Nat.lt_or_ge s m with hsm | hsm
    · exact hno s hsm
    · obtain ⟨t, ht, e⟩ := h s hsm hs
      rw [← e]; exact hno t ht
/-- the axis so many steps on, and so many steps back -/
def onBy (n at' s : Nat) : Nat := (at' + s) % n
def backBy (n at' s : Nat) : Nat := (at' + n - s) % n
theorem on_back {n p s : Nat} (hs : s < n) (h0 : 0 < s) : onBy n p s = backBy n p (n - s) ∧ backBy n p s = onBy n p (n - s) := by
  unfold onBy backBy
  refine ⟨?_, ?_⟩
  · rw [show p + n - (n - s) = p + s by omega]
  · rw [show p + n - s = p + (n - s) by omega]
/-- THE LAW OF THE TURN: no axis is farther off than half of them -/
theorem turn_short {n p : Nat} (g : Nat → Bool) (hn : 0 < n) : firstOf (fun s => g (onBy n p s) || g (backBy n p s)) n = firstOf (fun s => g (onBy n p s) || g (backBy n p s)) (n / 2 + 1) := by
  refine firstOf_short (by omega) fun s h1 h2 => ⟨n - s, by omega, ?_⟩
  obtain ⟨e1, e2⟩ := on_back (p := p) h2 (by omega)
  simp only [e1, e2, Bool.or_comm]
end Bal.Mast
