/-
  Mast, the plain side, on: ranges, roots as numbers, crosswinds and their errors. No program in sight.
-/
import Derived.Test.YtacbkbilbmkjnaaTrimPlain2
import Derived.Test.YtacbkbilbmkjnaaMastPlain
namespace Bal.Mast
open Bal.Trim
structure Span where
  lo : Int
  hi : Int
  deriving DecidableEq, Inhabited
def rng (xs : List Int) (lo hi : Int) : Bool := xs.all fun n => inB n lo hi
def spanIn (x y lo hi : Int) : Bool := decide (x ≤ y) && rng [x, y] lo hi
theorem windB_spans (w : Wind) : windB w = (spanIn w.xlo w.xhi (-2000) 2000 && spanIn w.ylo w.yhi (-2000) 2000) := by
  rw [Bool.eq_iff_iff, windB_iff]
  simp [spanIn, rng, inB]
  omega
theorem axisB_rng (a : Axis) : axisB a = (rng [a.x, a.y] (-1000) 1000 && !(decide (a.x = 0) && decide (a.y = 0))) := by
  rw [Bool.eq_iff_iff, axisB_iff]
  simp [rng, inB]
  omega
/-- the root as a number -/
def rt (x n : Int) : Int := match (List.range 4001).find? (fun r : Nat => decide ((r : Int) * r * n ≤ x ∧ x < ((r : Int) + 1) * ((r : Int) + 1) * n)) with | some r => (r : Int) | none => 0
theorem rt_of {x n r : Int} (hn : 0 < n) (h : IsRoot x n r) (hr : r ≤ 4000) : rt x n = r := by
  obtain ⟨k, rfl⟩ : ∃ k : Nat, r = k := ⟨r.toNat, by have := h.1; omega⟩
  unfold rt
  cases hf : (List.range 4001).find? (fun r : Nat => decide ((r : Int) * r * n ≤ x ∧ x < ((r : Int) + 1) * ((r : Int) + 1) * n)) with
  | none =>
    rw [List.find?_eq_none] at hf
    exact absurd (decide_eq_true h.2) (hf k (by simp; omega))
  | some j =>
    have hj := List.find?_some hf
    have hj' := of_decide_eq_true hj
    show (j : Int) = k
    exact root_unique hn ⟨by omega, hj'⟩ h
theorem root_le {x n r : Int} (hn : 1 ≤ n) (hx : x ≤ 8000000 * n) (h : IsRoot x n r) : r ≤ 2828 := by
  rcases Int.lt_or_le 2828 r with hlt | hle
  · exfalso
    have h1 : 2829 * 2829 ≤ r * r := Int.mul_le_mul (by omega) (by omega) (by omega) (by omega)
    have h2 := Int.mul_le_mul_of_nonneg_right h1 (show 0 ≤ n by omega)
    have := h.2.1
    omega
  · exact hle
/-- the search by halves has found it -/
theorem rt_half {x n lo : Int} (hn : 1 ≤ n) (hx : x ≤ 8000000 * n) (h0 : 0 ≤ lo) (h1 : lo * lo * n ≤ x) (h2 : x < (lo + 1) * (lo + 1) * n) : rt x n = lo :=
  rt_of (by omega) ⟨h0, h1, h2⟩ (by have := root_le hn hx ⟨h0, h1, h2⟩; omega)
/-- the reference's root of a quotient -/
theorem rt_quot {x n lo : Int} (hn : 1 ≤ n) (hx : x ≤ 8000000 * n) (h0 : 0 ≤ lo) (h1 : lo * lo ≤ x / n) (h2 : x / n < (lo + 1) * (lo + 1)) : rt x n = lo := by
  obtain ⟨a, b, c⟩ := root_div (x := x) (n := n) (r := lo) (by omega) ⟨h0, h1, h2⟩
  exact rt_half hn hx a b c
theorem rt_one {x lo : Int} (hx : x ≤ 8000000) (h0 : 0 ≤ lo) (h1 : lo * lo ≤ x) (h2 : x < (lo + 1) * (lo + 1)) : rt x 1 = lo :=
  rt_half (by omega) (by omega) h0 (by omega) (by omega)
theorem rt_is {x : Int} (h : 0 ≤ x) : ∀ (k : Nat) (lo hi : Int), hi - lo = k → 0 ≤ lo → lo < hi → lo * lo ≤ x → x < hi * hi → ∃ r, IsRoot x 1 r
  | 0, lo, hi, hk, _, hl, _, _ => by omega
  | k + 1, lo, hi, hk, h0, hl, h1, h2 => by
    rcases Int.lt_or_le x ((lo + 1) * (lo + 1)) with h3 | h3
    · exact ⟨lo, h0, by omega, by omega⟩
    · rcases Int.lt_or_le (lo + 1) hi with h4 | h4
      · exact rt_is h k (lo + 1) hi (by omega) (by omega) h4 h3 h2
      · obtain rfl : hi = lo + 1 := by omega
        omega
theorem quot_le {x n : Int} (hn : 1 ≤ n) (h0 : 0 ≤ x) (hx : x ≤ 8000000 * n) : 0 ≤ x / n ∧ x / n ≤ 8000000 := by
  refine ⟨Int.ediv_nonneg h0 (by omega), ?_⟩
  have := Int.ediv_le_ediv (show 0 < n by omega) hx
  rwa [Int.mul_ediv_cancel _ (by omega)] at this
/-- both roots are one number -/
theorem rt_div {x n : Int} (hn : 1 ≤ n) (h0 : 0 ≤ x) (hx : x ≤ 8000000 * n) : rt (x / n) 1 = rt x n := by
  obtain ⟨q0, q1⟩ := quot_le hn h0 hx
  obtain ⟨r, hr0, hr1, hr2⟩ := rt_is (x := x / n) q0 4001 0 4001 (by omega) (by omega) (by omega) (by omega) (by omega)
  rw [rt_one q1 hr0 (by omega) (by omega), rt_quot hn hx hr0 (by omega) (by omega)]
theorem rt_pos (x n : Int) : 0 ≤ rt x n ∧ rt x n ≤ 4000 := by
  unfold rt
  cases hf : (List.range 4001).find? (fun r : Nat => decide ((r : Int) * r * n ≤ x ∧ x < ((r : Int) + 1) * ((r : Int) + 1) * n)) with
  | none => simp
  | some j =>
    have := List.mem_of_find?_eq_some hf
    simp at this
    show 0 ≤ (j : Int) ∧ (j : Int) ≤ 4000
    omega
/-! ### The crosswinds and their errors -/
def crossE (w : Wind) (a : Axis) : Int := if windB w then (if axisB a then 0 else 70) else 71
def crossLo (w : Wind) (a : Axis) : Int := if crossE w a = 0 then rt (near w a * near w a) (long a) else 0
def upHi (r x n : Int) : Int := if r * r * n < x then r + 1 else r
def crossHi (w : Wind) (a : Axis) : Int := if crossE w a = 0 then upHi (rt (far w a * far w a) (long a)) (far w a * far w a) (long a) else 0
def calmS (w : Wind) (a : Axis) (m : Int) : Bool := decide (far w a * far w a ≤ m * m * long a)
def calmE (w : Wind) (a : Axis) (m : Int) : Int := if windB w then (if axisB a then (if inB m 0 2000 then 0 else 2) else 70) else 71
def calmB (w : Wind) (a : Axis) (m : Int) : Bool := if calmE w a m = 0 then calmS w a m else false
theorem corner_bd {u v : Int} {a : Axis} (hu : -2000 ≤ u ∧ u ≤ 2000) (hv : -2000 ≤ v ∧ v ≤ 2000) (ha : axisB a = true) : (-2000000 ≤ u * a.y ∧ u * a.y ≤ 2000000) ∧ -2000000 ≤ v * a.x ∧ v * a.x ≤ 2000000 := by
  obtain ⟨h1, h2, _⟩ := axisB_iff.1 ha
  have := mul_bd (A := 2000) (B := 1000) hu.1 hu.2 h2.1 h2.2
  have := mul_bd (A := 2000) (B := 1000) hv.1 hv.2 h1.1 h1.2
  omega
theorem far_bd {w : Wind} {a : Axis} (hw : windB w = true) (ha : axisB a = true) : (0 ≤ near w a ∧ near w a ≤ far w a) ∧ far w a ≤ 4000000 ∧ (-4000000 ≤ least w a ∧ least w a ≤ 4000000) ∧ -4000000 ≤ most w a ∧ most w a ≤ 4000000 := by
  obtain ⟨⟨h1, h2, h3⟩, h4, h5, h6⟩ := windB_iff.1 hw
  have k0 := corner_bd (u := w.xlo) (v := w.ylo) (by omega) (by omega) ha
  have k1 := corner_bd (u := w.xlo) (v := w.yhi) (by omega) (by omega) ha
  have k2 := corner_bd (u := w.xhi) (v := w.ylo) (by omega) (by omega) ha
  have k3 := corner_bd (u := w.xhi) (v := w.yhi) (by omega) (by omega) ha
  have := near_far w a
  unfold far least most c0 c1 c2 c3 at *
  omega
end Bal.Mast
