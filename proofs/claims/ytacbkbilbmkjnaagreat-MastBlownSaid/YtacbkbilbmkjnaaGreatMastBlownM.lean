/-
  MastBlown, the statement: for every input the call returns true and leaves the input alone.
-/
import Derived.Test.YtacbkbilbmkjnaaGreatMastBaseZM
import Derived.Test.YtacbkbilbmkjnaaGreatRows
set_option linter.unusedVariables false
set_option linter.unusedSimpArgs false
namespace Bal.Mast
/-- the root of a quotient is the root of the whole -/
theorem root_div {x n r : Int} (hn : 0 < n) (h : 0 ≤ r ∧ r * r ≤ x / n ∧ x / n < (r + 1) * (r + 1)) : IsRoot x n r := by
  refine ⟨h.1, ?_, ?_⟩
  · exact (Int.le_ediv_iff_mul_le hn).1 h.2.1
  · exact (Int.ediv_lt_iff_lt_mul hn).1 h.2.2
/-! ### Turning a shed -/
end Bal.Mast

namespace Bal.Mast
open Bal.Trim
theorem rt_is {x : Int} (h : 0 ≤ x) : ∀ (k : Nat) (lo hi : Int), hi - lo = k → 0 ≤ lo → lo < hi → lo * lo ≤ x → x < hi * hi → ∃ r, IsRoot x 1 r
  | 0, lo, hi, hk, _, hl, _, _ => by omega
  | k + 1, lo, hi, hk, h0, hl, h1, h2 => by
    rcases Int.lt_or_le x ((lo + 1) * (lo + 1)) with h3 | h3
    · exact ⟨lo, h0, by omega, by omega⟩
    · rcases Int.lt_or_le (lo + 1) hi with h4 | h4
      · exact rt_is h k (lo + 1) hi (by omega) (by omega) h4 h3 h2
      · obtain rfl : hi = lo + 1 := by omega
        omega
theorem quot_le {x n : Int} (hn : 1 ≤ n) (h0 : 0 ≤ x) (hx : x ≤ 8000000 * n) : 0 ≤ x / n ∧ x / n ≤ 8000000 := by
  refine ⟨Int.ediv_nonneg h0 (by omega), ?_⟩
  have := Int.ediv_le_ediv (show 0 < n by omega) hx
  rwa [Int.mul_ediv_cancel _ (by omega)] at this
/-! ### The crosswinds and their errors -/
end Bal.Mast

namespace Bal.Mast
open Bal.Trim
set_option linter.unusedVariables false
/-! ### Winds -/
theorem rt_root {x n : Int} (hn : 1 ≤ n) (h0 : 0 ≤ x) (hx : x ≤ 8000000 * n) : IsRoot x n (rt x n) := by
  obtain ⟨q0, q1⟩ := quot_le hn h0 hx
  obtain ⟨r, hr0, hr1, hr2⟩ := rt_is (x := x / n) q0 4001 0 4001 (by omega) (by omega) (by omega) (by omega) (by omega)
  have h := root_div (x := x) (n := n) (r := r) (by omega) ⟨hr0, by omega, by omega⟩
  rw [rt_half hn hx h.1 h.2.1 h.2.2]
  exact h
theorem mul_sq_le {x y n : Int} (h0 : 0 ≤ x) (h : x ≤ y) (hn : 0 ≤ n) : x * x * n ≤ y * y * n :=
  Int.mul_le_mul_of_nonneg_right (Int.mul_le_mul h h h0 (by omega)) hn
theorem sq_le_of {x y n : Int} (hx : 0 ≤ x) (hy : 0 ≤ y) (hn : 1 ≤ n) (h : x * x * n ≤ y * y * n) : x ≤ y := by
  rcases Int.lt_or_le y x with hl | hl
  · exfalso
    have h1 := mul_sq_le (n := n) (show 0 ≤ y + 1 by omega) (show y + 1 ≤ x by omega) (by omega)
    have e : (y + 1) * (y + 1) * n = y * y * n + 2 * (y * n) + n := by grind
    have := Int.mul_nonneg hy (show 0 ≤ n by omega)
    omega
  · exact hl
/-- the greatest crosswind is told from above, by less than one -/
theorem hi_law {x n : Int} (hn : 1 ≤ n) (h0 : 0 ≤ x) (hx : x ≤ 8000000 * n) : 0 ≤ upHi (rt x n) x n ∧ x ≤ upHi (rt x n) x n * upHi (rt x n) x n * n ∧ (0 < upHi (rt x n) x n → (upHi (rt x n) x n - 1) * (upHi (rt x n) x n - 1) * n < x) := by
  obtain ⟨r0, r1, r2⟩ := rt_root hn h0 hx
  generalize rt x n = r at *
  unfold upHi
  split
  · rename_i h
    refine ⟨by omega, by omega, fun _ => ?_⟩
    rw [show r + 1 - 1 = r by omega]
    exact h
  · rename_i h
    refine ⟨r0, by omega, fun hp => ?_⟩
    have e : (r - 1) * (r - 1) * n = r * r * n - 2 * (r * n) + n := by grind
    have : 1 * n ≤ r * n := Int.mul_le_mul_of_nonneg_right (by omega) (by omega)
    omega
/-- a corner lies between the least and the greatest -/
theorem between {u lo hi q : Int} (h1 : lo ≤ u) (h2 : u ≤ hi) : min (lo * q) (hi * q) ≤ u * q ∧ u * q ≤ max (lo * q) (hi * q) := by
  rcases Int.le_total 0 q with h | h
  · have a := Int.mul_le_mul_of_nonneg_right h1 h
    have b := Int.mul_le_mul_of_nonneg_right h2 h
    omega
  · have a := Int.mul_le_mul_of_nonpos_right h1 h
    have b := Int.mul_le_mul_of_nonpos_right h2 h
    omega
theorem chosen_in {w : Wind} {a : Axis} {u v : Int} (hu : w.xlo ≤ u ∧ u ≤ w.xhi) (hv : w.ylo ≤ v ∧ v ≤ w.yhi) : least w a ≤ u * a.y - v * a.x ∧ u * a.y - v * a.x ≤ most w a := by
  have h1 := between (q := a.y) hu.1 hu.2
  have h2 := between (q := a.x) hv.1 hv.2
  unfold least most c0 c1 c2 c3
  omega
theorem near_far_sq {w : Wind} {a : Axis} {c : Int} (h : least w a ≤ c ∧ c ≤ most w a) : near w a * near w a ≤ c * c ∧ c * c ≤ far w a * far w a := by
  have hm := near_far w a
  refine ⟨?_, sq_le (by unfold far; omega) (by unfold far; omega)⟩
  rcases Int.le_total 0 c with hc | hc
  · exact Int.mul_le_mul (by unfold near; omega) (by unfold near; omega) hm.1 hc
  · have := Int.mul_le_mul (show near w a ≤ -c by unfold near; omega) (show near w a ≤ -c by unfold near; omega) hm.1 (show 0 ≤ -c by omega)
    rwa [Int.neg_mul_neg] at this
/-- the other direction of an axis -/
def opp (a : Axis) : Axis := ⟨-a.x, -a.y⟩
theorem opp_ok {a : Axis} (h : axisB a = true) : axisB (opp a) = true := by
  rw [axisB_iff] at h ⊢
  simp only [opp]; omega
theorem opp_same (w : Wind) (a : Axis) : near w (opp a) = near w a ∧ far w (opp a) = far w a ∧ long (opp a) = long a := by
  have k0 : c0 w (opp a) = -c0 w a := by unfold c0 opp; simp only [Int.mul_neg]; omega
  have k1 : c1 w (opp a) = -c1 w a := by unfold c1 opp; simp only [Int.mul_neg]; omega
  have k2 : c2 w (opp a) = -c2 w a := by unfold c2 opp; simp only [Int.mul_neg]; omega
  have k3 : c3 w (opp a) = -c3 w a := by unfold c3 opp; simp only [Int.mul_neg]; omega
  have l1 : least w (opp a) = -most w a := by unfold least most; rw [k0, k1, k2, k3]; omega
  have l2 : most w (opp a) = -least w a := by unfold least most; rw [k0, k1, k2, k3]; omega
  refine ⟨?_, ?_, ?_⟩
  · unfold near; rw [l1, l2]; omega
  · unfold far; rw [l1, l2]; omega
  · unfold long opp; simp only [Int.neg_mul_neg]
theorem cross_opp {w : Wind} {a : Axis} (hw : windB w = true) (ha : axisB a = true) : crossE w (opp a) = 0 ∧ crossLo w (opp a) = crossLo w a ∧ crossHi w (opp a) = crossHi w a := by
  obtain ⟨e1, e2, e3⟩ := opp_same w a
  have h1 : crossE w a = 0 := by unfold crossE; rw [hw, ha]; rfl
  have h2 : crossE w (opp a) = 0 := by unfold crossE; rw [hw, opp_ok ha]; rfl
  refine ⟨h2, ?_, ?_⟩
  · unfold crossLo; rw [if_pos h1, if_pos h2, e1, e3]
  · unfold crossHi; rw [if_pos h1, if_pos h2, e2, e3]
/-- THE LAW OF THE CROSSWIND -/
theorem blown_law {w : Wind} {a : Axis} (hw : windB w = true) (ha : axisB a = true) {u v : Int} (hu : w.xlo ≤ u ∧ u ≤ w.xhi) (hv : w.ylo ≤ v ∧ v ≤ w.yhi) :
    (0 ≤ crossLo w a ∧ crossLo w a ≤ crossHi w a ∧ crossHi w a ≤ 4001) ∧ crossLo w a * crossLo w a * long a ≤ (u * a.y - v * a.x) * (u * a.y - v * a.x) ∧
      (u * a.y - v * a.x) * (u * a.y - v * a.x) ≤ crossHi w a * crossHi w a * long a ∧ (0 < crossHi w a → (crossHi w a - 1) * (crossHi w a - 1) * long a < far w a * far w a) := by
  have hE : crossE w a = 0 := by unfold crossE; rw [hw, ha]; rfl
  have hn := long_pos ha
  have hf := far_sq (a := a) hw
  have hq := near_sq (a := a) hw
  have hnf := near_far w a
  obtain ⟨l0, l1, l2⟩ := rt_root hn.1 (sq_nonneg (near w a)) hq
  obtain ⟨g0, g1, g2⟩ := hi_law hn.1 (sq_nonneg (far w a)) hf
  have hb := rt_pos (far w a * far w a) (long a)
  have hsq := near_far_sq (chosen_in (a := a) hu hv)
  unfold crossLo crossHi
  rw [if_pos hE, if_pos hE]
  have hsm := sq_le (x := near w a) (y := far w a) (by omega) (by omega)
  refine ⟨⟨l0, sq_le_of l0 g0 hn.1 (by omega), ?_⟩, by omega, by omega, g2⟩
  unfold upHi
  split <;> omega
/-- the greatest corner, as the statement seeks it -/
def cornerN (w : Wind) (a : Axis) : Nat → Int
  | 0 => c0 w a
  | 1 => c1 w a
  | 2 => c2 w a
  | _ => c3 w a
def farTo (w : Wind) (a : Axis) : Nat → Int
  | 0 => 0
  | k + 1 => max (max (farTo w a k) (cornerN w a k)) (-cornerN w a k)
theorem farTo_all (w : Wind) (a : Axis) : farTo w a 4 = far w a := by
  simp only [farTo, cornerN]
  unfold far least most
  omega
/-- calm for more -/
theorem calm_more {w : Wind} {a : Axis} {m k : Int} (ha : axisB a = true) (h0 : 0 ≤ m) (h : m ≤ k) (hc : calmS w a m = true) : calmS w a k = true := by
  unfold calmS at hc ⊢
  have := of_decide_eq_true hc
  have := mul_sq_le (n := long a) h0 h (by have := long_pos ha; omega)
  exact decide_eq_true (by omega)
theorem inside_in {lo hi n : Int} (h : lo ≤ hi) : lo ≤ insideP lo hi n ∧ insideP lo hi n ≤ hi := by
  unfold insideP
  have h1 := Int.emod_nonneg n (show hi - lo + 1 ≠ 0 by omega)
  have h2 := Int.emod_lt_of_pos n (show 0 < hi - lo + 1 by omega)
  omega
/-! ### Turned sheds -/
/-! ### Manned lines -/
end Bal.Mast

namespace Bal.Trim
open Go Go.RowKit Go.ChangeShapes Go.WideShapes
set_option linter.unusedVariables false
theorem wf_u16 {n : Int} (h : (Lit.int .u16 n).wf = true) : 0 ≤ n ∧ n ≤ 65535 := by
  simp only [Lit.wf, Bool.and_eq_true, decide_eq_true_eq] at h
  have e1 : IntKind.min .u16 = 0 := by decide
  have e2 : IntKind.max .u16 = 65535 := by decide
  rw [e1, e2] at h
  exact h
end Bal.Trim

/-
  MastBlown: whatever the wind is: the walk.
-/
namespace Go.Proofs.YtacbkbilbmkjnaaGreat
open Go.RowKit Bal Bal.Trim Bal.Mast
set_option linter.unusedVariables false
set_option linter.unusedSimpArgs false
set_option maxHeartbeats 4000000
set_option maxRecDepth 100000
attribute [local go_sem] ite_max ite_min

theorem law_MastBlown_wind (v : Wind) (a : Axis) (m k x y : Int) (w : World) (hw : windB v = false) : Calls Tryz.prog 5 #[.agg #[.int .i64 v.xlo, .int .i64 v.xhi, .int .i64 v.ylo, .int .i64 v.yhi], .agg #[.int .i64 a.x, .int .i64 a.y], .int .i64 m, .int .i64 k, .int .u16 x, .int .u16 y] w fun z w' => z = .returned (.bool true) ∧ Kept w w' := by
  have hE : crossE v a = 71 := by unfold crossE; rw [hw]; rfl
  have KA := fun W => f_Cross v a W
  have e1 : crossLo v a = 0 := by unfold crossLo; rw [hE]; rfl
  have e2 : crossHi v a = 0 := by unfold crossHi; rw [hE]; rfl
  rw [hE, e1, e2] at KA
  have K1 := Lib.hid KA
  have KB := fun W => r_CheckWind v W
  rw [show checkWind v = 71 by unfold checkWind; rw [hw]; rfl] at KB
  have K2 := Lib.hid KB
  clear KA KB hE e1 e2 hw
  go_enter Tryz.func5, Tryz.ntmps5
  go_wp2_with (first | (go_at_call 11; (with_reducible refine (o_alive _).mono ?_); rintro z wA ⟨rfl, hbA⟩; refine Blk.thru (b := w.heap.size) (arr := ?_) (t := ?_) ?_ hbA ?_; rotate_left 2; (focus (exact blk)); intro r0; have r0c0 := r0.cell 0; have r0f0 := r0.free 0; have r0c1 := r0.cell 1; have r0f1 := r0.free 1; have r0c2 := r0.cell 2; have r0f2 := r0.free 2; have r0c3 := r0.cell 3; have r0f3 := r0.free 3; have r0l := r0.lt; simp at r0c0 r0c1 r0c2 r0c3; refine Blk.thru (b := w.heap.size + 1) (arr := ?_) (t := ?_) ?_ hbA ?_; rotate_left 2; (focus (exact blk)); intro r1; have r1c0 := r1.cell 0; have r1f0 := r1.free 0; have r1c1 := r1.cell 1; have r1f1 := r1.free 1; have r1l := r1.lt; simp at r1c0 r1c1) | (go_at_call 19; (with_reducible refine (K1.out _).mono ?_); rintro z w1 ⟨rfl, hb1⟩; refine Blk.thru (b := w.heap.size) (arr := ?_) (t := ?_) ?_ hb1 ?_; rotate_left 2; (focus (exact blk)); intro r0; have r0c0 := r0.cell 0; have r0f0 := r0.free 0; have r0c1 := r0.cell 1; have r0f1 := r0.free 1; have r0c2 := r0.cell 2; have r0f2 := r0.free 2; have r0c3 := r0.cell 3; have r0f3 := r0.free 3; have r0l := r0.lt; simp at r0c0 r0c1 r0c2 r0c3; refine Blk.thru (b := w.heap.size + 1) (arr := ?_) (t := ?_) ?_ hb1 ?_; rotate_left 2; (focus (exact blk)); intro r1; have r1c0 := r1.cell 0; have r1f0 := r1.free 0; have r1c1 := r1.cell 1; have r1f1 := r1.free 1; have r1l := r1.lt; simp at r1c0 r1c1) | (go_at_call 16; (with_reducible refine (K2.out _).mono ?_); rintro z w2 ⟨rfl, hb2⟩; refine Blk.thru (b := w.heap.size) (arr := ?_) (t := ?_) ?_ hb2 ?_; rotate_left 2; (focus (exact blk)); intro r0; have r0c0 := r0.cell 0; have r0f0 := r0.free 0; have r0c1 := r0.cell 1; have r0f1 := r0.free 1; have r0c2 := r0.cell 2; have r0f2 := r0.free 2; have r0c3 := r0.cell 3; have r0f3 := r0.free 3; have r0l := r0.lt; simp at r0c0 r0c1 r0c2 r0c3; refine Blk.thru (b := w.heap.size + 1) (arr := ?_) (t := ?_) ?_ hb2 ?_; rotate_left 2; (focus (exact blk)); intro r1; have r1c0 := r1.cell 0; have r1f0 := r1.free 0; have r1c1 := r1.cell 1; have r1f1 := r1.free 1; have r1l := r1.lt; simp at r1c0 r1c1))
  go_ret
  exact ⟨rfl, by (exact kpt)⟩

theorem law_MastBlown_axis (v : Wind) (a : Axis) (m k x y : Int) (w : World) (hw : windB v = true) (ha : axisB a = false) : Calls Tryz.prog 5 #[.agg #[.int .i64 v.xlo, .int .i64 v.xhi, .int .i64 v.ylo, .int .i64 v.yhi], .agg #[.int .i64 a.x, .int .i64 a.y], .int .i64 m, .int .i64 k, .int .u16 x, .int .u16 y] w fun z w' => z = .returned (.bool true) ∧ Kept w w' := by
  have hE : crossE v a = 70 := by unfold crossE; rw [hw, ha]; rfl
  have KA := fun W => f_Cross v a W
  have e1 : crossLo v a = 0 := by unfold crossLo; rw [hE]; rfl
  have e2 : crossHi v a = 0 := by unfold crossHi; rw [hE]; rfl
  rw [hE, e1, e2] at KA
  have K1 := Lib.hid KA
  have KB := fun W => r_CheckWind v W
  rw [show checkWind v = 0 by unfold checkWind; rw [hw]; rfl] at KB
  have K2 := Lib.hid KB
  have KC := fun W => r_CheckAxis a W
  rw [show checkAxis a = 70 by unfold checkAxis; rw [ha]; rfl] at KC
  have K3 := Lib.hid KC
  clear KC ha
  clear KA KB hE e1 e2 hw
  go_enter Tryz.func5, Tryz.ntmps5
  go_wp2_with (first | (go_at_call 11; (with_reducible refine (o_alive _).mono ?_); rintro z wA ⟨rfl, hbA⟩; refine Blk.thru (b := w.heap.size) (arr := ?_) (t := ?_) ?_ hbA ?_; rotate_left 2; (focus (exact blk)); intro r0; have r0c0 := r0.cell 0; have r0f0 := r0.free 0; have r0c1 := r0.cell 1; have r0f1 := r0.free 1; have r0c2 := r0.cell 2; have r0f2 := r0.free 2; have r0c3 := r0.cell 3; have r0f3 := r0.free 3; have r0l := r0.lt; simp at r0c0 r0c1 r0c2 r0c3; refine Blk.thru (b := w.heap.size + 1) (arr := ?_) (t := ?_) ?_ hbA ?_; rotate_left 2; (focus (exact blk)); intro r1; have r1c0 := r1.cell 0; have r1f0 := r1.free 0; have r1c1 := r1.cell 1; have r1f1 := r1.free 1; have r1l := r1.lt; simp at r1c0 r1c1) | (go_at_call 19; (with_reducible refine (K1.out _).mono ?_); rintro z w1 ⟨rfl, hb1⟩; refine Blk.thru (b := w.heap.size) (arr := ?_) (t := ?_) ?_ hb1 ?_; rotate_left 2; (focus (exact blk)); intro r0; have r0c0 := r0.cell 0; have r0f0 := r0.free 0; have r0c1 := r0.cell 1; have r0f1 := r0.free 1; have r0c2 := r0.cell 2; have r0f2 := r0.free 2; have r0c3 := r0.cell 3; have r0f3 := r0.free 3; have r0l := r0.lt; simp at r0c0 r0c1 r0c2 r0c3; refine Blk.thru (b := w.heap.size + 1) (arr := ?_) (t := ?_) ?_ hb1 ?_; rotate_left 2; (focus (exact blk)); intro r1; have r1c0 := r1.cell 0; have r1f0 := r1.free 0; have r1c1 := r1.cell 1; have r1f1 := r1.free 1; have r1l := r1.lt; simp at r1c0 r1c1) | (go_at_call 16; (with_reducible refine (K2.out _).mono ?_); rintro z w2 ⟨rfl, hb2⟩; refine Blk.thru (b := w.heap.size) (arr := ?_) (t := ?_) ?_ hb2 ?_; rotate_left 2; (focus (exact blk)); intro r0; have r0c0 := r0.cell 0; have r0f0 := r0.free 0; have r0c1 := r0.cell 1; have r0f1 := r0.free 1; have r0c2 := r0.cell 2; have r0f2 := r0.free 2; have r0c3 := r0.cell 3; have r0f3 := r0.free 3; have r0l := r0.lt; simp at r0c0 r0c1 r0c2 r0c3; refine Blk.thru (b := w.heap.size + 1) (arr := ?_) (t := ?_) ?_ hb2 ?_; rotate_left 2; (focus (exact blk)); intro r1; have r1c0 := r1.cell 0; have r1f0 := r1.free 0; have r1c1 := r1.cell 1; have r1f1 := r1.free 1; have r1l := r1.lt; simp at r1c0 r1c1) | (go_at_call 20; (with_reducible refine (K3.out _).mono ?_); rintro z w3 ⟨rfl, hb3⟩; refine Blk.thru (b := w.heap.size) (arr := ?_) (t := ?_) ?_ hb3 ?_; rotate_left 2; (focus (exact blk)); intro r0; have r0c0 := r0.cell 0; have r0f0 := r0.free 0; have r0c1 := r0.cell 1; have r0f1 := r0.free 1; have r0c2 := r0.cell 2; have r0f2 := r0.free 2; have r0c3 := r0.cell 3; have r0f3 := r0.free 3; have r0l := r0.lt; simp at r0c0 r0c1 r0c2 r0c3; refine Blk.thru (b := w.heap.size + 1) (arr := ?_) (t := ?_) ?_ hb3 ?_; rotate_left 2; (focus (exact blk)); intro r1; have r1c0 := r1.cell 0; have r1f0 := r1.free 0; have r1c1 := r1.cell 1; have r1f1 := r1.free 1; have r1l := r1.lt; simp at r1c0 r1c1))
  go_ret
  exact ⟨rfl, by (exact kpt)⟩

set_option maxHeartbeats 16000000 in
theorem law_MastBlown_ok (v : Wind) (a : Axis) (m k x y : Int) (w : World) (hx : 0 ≤ x ∧ x ≤ 65535) (hy : 0 ≤ y ∧ y ≤ 65535) (hw : windB v = true) (ha : axisB a = true) : Calls Tryz.prog 5 #[.agg #[.int .i64 v.xlo, .int .i64 v.xhi, .int .i64 v.ylo, .int .i64 v.yhi], .agg #[.int .i64 a.x, .int .i64 a.y], .int .i64 m, .int .i64 k, .int .u16 x, .int .u16 y] w fun z w' => z = .returned (.bool true) ∧ Kept w w' := by
  have hE : crossE v a = 0 := by unfold crossE; rw [hw, ha]; rfl
  obtain ⟨⟨b1, b2, b3⟩, b4, b5, b6⟩ := windB_iff.1 hw
  obtain ⟨⟨ca1, ca2⟩, ⟨ca3, ca4⟩, _⟩ := axisB_iff.1 ha
  have i1 := inside_in (n := x) b2
  have i2 := inside_in (n := y) b5
  have hlaw := blown_law hw ha i1 i2
  obtain ⟨o1, o2, o3⟩ := cross_opp hw ha
  have hN := long_pos ha
  obtain ⟨_, fb, _, _⟩ := far_bd hw ha
  have f0 := near_far v a
  have KI1 := Lib.hid (fun W => o_inside v.xlo v.xhi x W (by omega) b2 (by omega) hx)
  have KI2 := Lib.hid (fun W => o_inside v.ylo v.yhi y W (by omega) b5 (by omega) hy)
  have p1 := corner_bd (u := v.xlo) (v := v.ylo) (by omega) (by omega) ha
  have p2 := corner_bd (u := v.xhi) (v := v.yhi) (by omega) (by omega) ha
  have p3 := corner_bd (u := insideP v.xlo v.xhi x) (v := insideP v.ylo v.yhi y) (by omega) (by omega) ha
  have HCM := Lib.hid (fun h0 h1 => calm_more (w := v) (m := m) (k := k) ha h0 h1)
  have KA := fun W => f_Cross v a W
  have KB := fun W => r_CheckWind v W
  have KC := fun W => r_CheckAxis a W
  have KD := fun W => f_Cross v (opp a) W
  have KE := fun W => f_Calm v a m W
  have KF := fun W => f_Calm v a k W
  rw [hE] at KA
  rw [show checkWind v = 0 by unfold checkWind; rw [hw]; rfl] at KB
  rw [show checkAxis a = 0 by unfold checkAxis; rw [ha]; rfl] at KC
  rw [o1, o2, o3] at KD
  simp only [opp] at KD
  obtain ⟨LO, hLO⟩ : ∃ n, n = crossLo v a := ⟨_, rfl⟩
  obtain ⟨HI, hHI⟩ : ∃ n, n = crossHi v a := ⟨_, rfl⟩
  obtain ⟨N, hNN⟩ : ∃ n, n = long a := ⟨_, rfl⟩
  obtain ⟨U, hU⟩ : ∃ n, n = insideP v.xlo v.xhi x := ⟨_, rfl⟩
  obtain ⟨V, hV⟩ : ∃ n, n = insideP v.ylo v.yhi y := ⟨_, rfl⟩
  rw [← hLO, ← hHI, ← hNN, ← hU, ← hV] at hlaw
  rw [← hLO, ← hHI] at KA KD
  rw [← hNN] at hN
  rw [← hU, ← hV] at p3
  rw [← hU] at KI1
  rw [← hV] at KI2
  obtain ⟨⟨l1, l2, l3⟩, l4, l5, l6⟩ := hlaw
  have hT := farTo_all v a
  obtain ⟨F0, hF0⟩ : ∃ n, n = farTo v a 0 := ⟨_, rfl⟩
  obtain ⟨F1, hF1⟩ : ∃ n, n = farTo v a 1 := ⟨_, rfl⟩
  obtain ⟨F2, hF2⟩ : ∃ n, n = farTo v a 2 := ⟨_, rfl⟩
  obtain ⟨F3, hF3⟩ : ∃ n, n = farTo v a 3 := ⟨_, rfl⟩
  obtain ⟨F4, hF4⟩ : ∃ n, n = farTo v a 4 := ⟨_, rfl⟩
  have s0 : F0 = 0 := by rw [hF0]; rfl
  have s1 : F1 = max (max F0 (c0 v a)) (-c0 v a) := by rw [hF1, hF0]; rfl
  have s2 : F2 = max (max F1 (c1 v a)) (-c1 v a) := by rw [hF2, hF1]; rfl
  have s3 : F3 = max (max F2 (c2 v a)) (-c2 v a) := by rw [hF3, hF2]; rfl
  have s4 : F4 = max (max F3 (c3 v a)) (-c3 v a) := by rw [hF4, hF3]; rfl
  unfold c0 at s1
  unfold c1 at s2
  unfold c2 at s3
  unfold c3 at s4
  rw [← hF4] at hT
  rw [← hT] at l6 fb
  have e0 : 0 ≤ far v a := by omega
  rw [← hT] at e0
  subst s0
  have S1 := Lib.hid s1
  have S2 := Lib.hid s2
  have S3 := Lib.hid s3
  have S4 := Lib.hid s4
  -- bounds of products
  obtain ⟨C, hC⟩ : ∃ n, n = U * a.y - V * a.x := ⟨_, rfl⟩
  rw [← hC] at l4 l5
  have q1 := mul_bd (A := 4001) (B := 4001) (x := LO) (y := LO) (by omega) (by omega) (by omega) (by omega)
  have q2 := mul_bd (A := 16008001) (B := 2000000) (x := LO * LO) (y := N) (by omega) (by omega) (by omega) (by omega)
  have q3 := mul_bd (A := 4001) (B := 4001) (x := HI) (y := HI) (by omega) (by omega) (by omega) (by omega)
  have q4 := mul_bd (A := 16008001) (B := 2000000) (x := HI * HI) (y := N) (by omega) (by omega) (by omega) (by omega)
  have q5 := mul_bd (A := 4000000) (B := 4000000) (x := C) (y := C) (by omega) (by omega) (by omega) (by omega)
  have q6 := mul_bd (A := 4001) (B := 4001) (x := HI - 1) (y := HI - 1) (by omega) (by omega) (by omega) (by omega)
  have q7 := mul_bd (A := 16008001) (B := 2000000) (x := (HI - 1) * (HI - 1)) (y := N) (by omega) (by omega) (by omega) (by omega)
  have q8 := mul_bd (A := 4000000) (B := 4000000) (x := F4) (y := F4) (by omega) (by omega) (by omega) (by omega)
  have z1 := mul_bd (A := 1000) (B := 1000) (x := a.x) (y := a.x) (by omega) (by omega) (by omega) (by omega)
  have z2 := mul_bd (A := 1000) (B := 1000) (x := a.y) (y := a.y) (by omega) (by omega) (by omega) (by omega)
  have eN : a.x * a.x + a.y * a.y = N := by rw [hNN]; rfl
  have eC : U * a.y - V * a.x = C := hC.symm
  have hw0 := i64_in (n := v.xlo * a.y) (by omega)
  have hw1 := i64_in (n := v.xhi * a.y) (by omega)
  have hw2 := i64_in (n := v.ylo * a.x) (by omega)
  have hw3 := i64_in (n := v.yhi * a.x) (by omega)
  have hw4 := i64_in (n := v.xlo * a.y - v.ylo * a.x) (by omega)
  have hw5 := i64_in (n := v.xlo * a.y - v.yhi * a.x) (by omega)
  have hw6 := i64_in (n := v.xhi * a.y - v.ylo * a.x) (by omega)
  have hw7 := i64_in (n := v.xhi * a.y - v.yhi * a.x) (by omega)
  have hw8 := i64_in (n := v.ylo * a.x - v.xlo * a.y) (by omega)
  have hw9 := i64_in (n := v.yhi * a.x - v.xlo * a.y) (by omega)
  have hw10 := i64_in (n := v.ylo * a.x - v.xhi * a.y) (by omega)
  have hw11 := i64_in (n := v.yhi * a.x - v.xhi * a.y) (by omega)
  have hw12 := i64_in (n := U * a.y) (by omega)
  have hw13 := i64_in (n := V * a.x) (by omega)
  have hw14 := i64_in (n := C) (by omega)
  have hw15 := i64_in (n := LO * LO) (by omega)
  have hw16 := i64_in (n := LO * LO * N) (by omega)
  have hw17 := i64_in (n := HI * HI) (by omega)
  have hw18 := i64_in (n := HI * HI * N) (by omega)
  have hw19 := i64_in (n := C * C) (by omega)
  have hw20 := i64_in (n := HI - 1) (by omega)
  have hw21 := i64_in (n := (HI - 1) * (HI - 1)) (by omega)
  have hw22 := i64_in (n := (HI - 1) * (HI - 1) * N) (by omega)
  have hw23 := i64_in (n := F4 * F4) (by omega)
  have hw24 := i64_in (n := a.x * a.x) (by omega)
  have hw25 := i64_in (n := a.y * a.y) (by omega)
  have hw26 := i64_in (n := N) (by omega)
  have hw27 := i64_in (n := -a.x) (by omega)
  have hw28 := i64_in (n := -a.y) (by omega)
  have d1 : ¬ C * C < LO * LO * N := by omega
  have d2 : ¬ HI * HI * N < C * C := by omega
  have d3 : ¬ LO < 0 := by omega
  have d4 : ¬ HI < LO := by omega
  have HT := Lib.hid hT
  have HNN := Lib.hid hNN
  have K1 := Lib.hid KA
  have K2 := Lib.hid KB
  have K3 := Lib.hid KC
  have K4 := Lib.hid KD
  have K5 := Lib.hid KE
  have K6 := Lib.hid KF
  have HW := Lib.hid hw
  have HA := Lib.hid ha
  clear KA KB KC KD KE KF hLO hHI hNN hU hV hC hF0 hF1 hF2 hF3 hF4 s1 s2 s3 s4 hT hw ha hE o1 o2 o3 f0 i1 i2 q1 q2 q3 q4 q5 q6 q7 q8 z1 z2 p1 p2 p3 l4 l5
  have L6 := Lib.hid l6
  clear l6
  go_enter Tryz.func5, Tryz.ntmps5
  go_upto_region 9 with (first | (go_at_call 11; (with_reducible refine (o_alive _).mono ?_); rintro z wA ⟨rfl, hbA⟩; refine Blk.thru (b := w.heap.size) (arr := ?_) (t := ?_) ?_ hbA ?_; rotate_left 2; (focus (exact blk)); intro r0; have r0c0 := r0.cell 0; have r0f0 := r0.free 0; have r0c1 := r0.cell 1; have r0f1 := r0.free 1; have r0c2 := r0.cell 2; have r0f2 := r0.free 2; have r0c3 := r0.cell 3; have r0f3 := r0.free 3; have r0l := r0.lt; simp at r0c0 r0c1 r0c2 r0c3; refine Blk.thru (b := w.heap.size + 1) (arr := ?_) (t := ?_) ?_ hbA ?_; rotate_left 2; (focus (exact blk)); intro r1; have r1c0 := r1.cell 0; have r1f0 := r1.free 0; have r1c1 := r1.cell 1; have r1f1 := r1.free 1; have r1l := r1.lt; simp at r1c0 r1c1) | (go_at_call 19; (with_reducible refine (K1.out _).mono ?_); rintro z w1 ⟨rfl, hb1⟩; refine Blk.thru (b := w.heap.size) (arr := ?_) (t := ?_) ?_ hb1 ?_; rotate_left 2; (focus (exact blk)); intro r0; have r0c0 := r0.cell 0; have r0f0 := r0.free 0; have r0c1 := r0.cell 1; have r0f1 := r0.free 1; have r0c2 := r0.cell 2; have r0f2 := r0.free 2; have r0c3 := r0.cell 3; have r0f3 := r0.free 3; have r0l := r0.lt; simp at r0c0 r0c1 r0c2 r0c3; refine Blk.thru (b := w.heap.size + 1) (arr := ?_) (t := ?_) ?_ hb1 ?_; rotate_left 2; (focus (exact blk)); intro r1; have r1c0 := r1.cell 0; have r1f0 := r1.free 0; have r1c1 := r1.cell 1; have r1f1 := r1.free 1; have r1l := r1.lt; simp at r1c0 r1c1) | (go_at_call 16; (with_reducible refine (K2.out _).mono ?_); rintro z w2 ⟨rfl, hb2⟩; refine Blk.thru (b := w.heap.size) (arr := ?_) (t := ?_) ?_ hb2 ?_; rotate_left 2; (focus (exact blk)); intro r0; have r0c0 := r0.cell 0; have r0f0 := r0.free 0; have r0c1 := r0.cell 1; have r0f1 := r0.free 1; have r0c2 := r0.cell 2; have r0f2 := r0.free 2; have r0c3 := r0.cell 3; have r0f3 := r0.free 3; have r0l := r0.lt; simp at r0c0 r0c1 r0c2 r0c3; refine Blk.thru (b := w.heap.size + 1) (arr := ?_) (t := ?_) ?_ hb2 ?_; rotate_left 2; (focus (exact blk)); intro r1; have r1c0 := r1.cell 0; have r1f0 := r1.free 0; have r1c1 := r1.cell 1; have r1f1 := r1.free 1; have r1l := r1.lt; simp at r1c0 r1c1; refine Blk.thru (b := w1.heap.size) (arr := ?_) (t := ?_) ?_ hb2 ?_; rotate_left 2; (focus (exact blk)); intro q1; have q1c0 := q1.cell 0; have q1f0 := q1.free 0; have q1c1 := q1.cell 1; have q1f1 := q1.free 1; have q1l := q1.lt; simp at q1c0 q1c1) | (go_at_call 20; (with_reducible refine (K3.out _).mono ?_); rintro z w3 ⟨rfl, hb3⟩; refine Blk.thru (b := w.heap.size) (arr := ?_) (t := ?_) ?_ hb3 ?_; rotate_left 2; (focus (exact blk)); intro r0; have r0c0 := r0.cell 0; have r0f0 := r0.free 0; have r0c1 := r0.cell 1; have r0f1 := r0.free 1; have r0c2 := r0.cell 2; have r0f2 := r0.free 2; have r0c3 := r0.cell 3; have r0f3 := r0.free 3; have r0l := r0.lt; simp at r0c0 r0c1 r0c2 r0c3; refine Blk.thru (b := w.heap.size + 1) (arr := ?_) (t := ?_) ?_ hb3 ?_; rotate_left 2; (focus (exact blk)); intro r1; have r1c0 := r1.cell 0; have r1f0 := r1.free 0; have r1c1 := r1.cell 1; have r1f1 := r1.free 1; have r1l := r1.lt; simp at r1c0 r1c1; refine Blk.thru (b := w1.heap.size) (arr := ?_) (t := ?_) ?_ hb3 ?_; rotate_left 2; (focus (exact blk)); intro q1; have q1c0 := q1.cell 0; have q1f0 := q1.free 0; have q1c1 := q1.cell 1; have q1f1 := q1.free 1; have q1l := q1.lt; simp at q1c0 q1c1) | (go_at_call 19; (with_reducible refine (K4.out _).mono ?_); rintro z w4 ⟨rfl, hb4⟩; refine Blk.thru (b := w.heap.size) (arr := ?_) (t := ?_) ?_ hb4 ?_; rotate_left 2; (focus (exact blk)); intro r0; have r0c0 := r0.cell 0; have r0f0 := r0.free 0; have r0c1 := r0.cell 1; have r0f1 := r0.free 1; have r0c2 := r0.cell 2; have r0f2 := r0.free 2; have r0c3 := r0.cell 3; have r0f3 := r0.free 3; have r0l := r0.lt; simp at r0c0 r0c1 r0c2 r0c3; refine Blk.thru (b := w.heap.size + 1) (arr := ?_) (t := ?_) ?_ hb4 ?_; rotate_left 2; (focus (exact blk)); intro r1; have r1c0 := r1.cell 0; have r1f0 := r1.free 0; have r1c1 := r1.cell 1; have r1f1 := r1.free 1; have r1l := r1.lt; simp at r1c0 r1c1; refine Blk.thru (b := w1.heap.size) (arr := ?_) (t := ?_) ?_ hb4 ?_; rotate_left 2; (focus (exact blk)); intro q1; have q1c0 := q1.cell 0; have q1f0 := q1.free 0; have q1c1 := q1.cell 1; have q1f1 := q1.free 1; have q1l := q1.lt; simp at q1c0 q1c1))
  refine at_world (S := fun V => Blk V (w.heap.size) #[.int .i64 v.xlo, .int .i64 v.xhi, .int .i64 v.ylo, .int .i64 v.yhi] 39 ∧ Blk V (w.heap.size + 1) #[.int .i64 a.x, .int .i64 a.y] 51 ∧ Blk V (w1.heap.size) #[.int .i64 LO, .int .i64 HI] 34 ∧ Blk V (w4.heap.size) #[.int .i64 LO, .int .i64 HI] 34 ∧ Kept w V) ⟨by (exact blkc), by (exact blkc), by (exact blkc), by (exact blkc), by (exact kpt)⟩ ?_
  rintro V ⟨r0, r1, q1, q2, hkV⟩
  have r0c0 := fun g : Later V => (r0.later g).cell 0
  have r0f0 := fun g : Later V => (r0.later g).free 0
  have r0c1 := fun g : Later V => (r0.later g).cell 1
  have r0f1 := fun g : Later V => (r0.later g).free 1
  have r0c2 := fun g : Later V => (r0.later g).cell 2
  have r0f2 := fun g : Later V => (r0.later g).free 2
  have r0c3 := fun g : Later V => (r0.later g).cell 3
  have r0f3 := fun g : Later V => (r0.later g).free 3
  have r0l := fun g : Later V => (r0.later g).lt
  simp at r0c0 r0c1 r0c2 r0c3
  have r1c0 := fun g : Later V => (r1.later g).cell 0
  have r1f0 := fun g : Later V => (r1.later g).free 0
  have r1c1 := fun g : Later V => (r1.later g).cell 1
  have r1f1 := fun g : Later V => (r1.later g).free 1
  have r1l := fun g : Later V => (r1.later g).lt
  simp at r1c0 r1c1
  have q1c0 := fun g : Later V => (q1.later g).cell 0
  have q1f0 := fun g : Later V => (q1.later g).free 0
  have q1c1 := fun g : Later V => (q1.later g).cell 1
  have q1f1 := fun g : Later V => (q1.later g).free 1
  have q1l := fun g : Later V => (q1.later g).lt
  simp at q1c0 q1c1
  have q2c0 := fun g : Later V => (q2.later g).cell 0
  have q2f0 := fun g : Later V => (q2.later g).free 0
  have q2c1 := fun g : Later V => (q2.later g).cell 1
  have q2f1 := fun g : Later V => (q2.later g).free 1
  have q2l := fun g : Later V => (q2.later g).lt
  simp at q2c0 q2c1
  refine Later.region (by kernel_rfl) (by kernel_rfl) ?_
  repeat (first | go_big_quiet_skip | (go_big_quiet_want; go_big_quiet_op; first | go_big_quiet_on | (apply Exists.intro; refine ⟨fun g_ => ?_, ?_⟩; (focus (first | (go_at_call 21; with_reducible exact Later.call (KI1.out _)) | (go_at_call 21; with_reducible exact Later.call (KI2.out _)))); go_big_quiet_on)))
  refine wpQuiet_nil ?_
  intro gg
  have nr0 := r0.later gg
  have nr1 := r1.later gg
  have nq1 := q1.later gg
  have nq2 := q2.later gg
  have hkg := Kept.drop hkV gg.ok
  clear r0c0 r0f0 r0c1 r0f1 r0c2 r0f2 r0c3 r0f3 r0l r1c0 r1f0 r1c1 r1f1 r1l q1c0 q1f0 q1c1 q1f1 q1l q2c0 q2f0 q2c1 q2f1 q2l
  clear hkV r0 r1 q1 q2
  have nr0c0 := nr0.cell 0
  have nr0f0 := nr0.free 0
  have nr0c1 := nr0.cell 1
  have nr0f1 := nr0.free 1
  have nr0c2 := nr0.cell 2
  have nr0f2 := nr0.free 2
  have nr0c3 := nr0.cell 3
  have nr0f3 := nr0.free 3
  have nr0l := nr0.lt
  simp at nr0c0 nr0c1 nr0c2 nr0c3
  have nr1c0 := nr1.cell 0
  have nr1f0 := nr1.free 0
  have nr1c1 := nr1.cell 1
  have nr1f1 := nr1.free 1
  have nr1l := nr1.lt
  simp at nr1c0 nr1c1
  have nq1c0 := nq1.cell 0
  have nq1f0 := nq1.free 0
  have nq1c1 := nq1.cell 1
  have nq1f1 := nq1.free 1
  have nq1l := nq1.lt
  simp at nq1c0 nq1c1
  have nq2c0 := nq2.cell 0
  have nq2f0 := nq2.free 0
  have nq2c1 := nq2.cell 1
  have nq2f1 := nq2.free 1
  have nq2l := nq2.lt
  simp at nq2c0 nq2c1
  go_upto_region 13 with fail
  refine at_world (S := fun X => Blk X (w.heap.size) #[.int .i64 v.xlo, .int .i64 v.xhi, .int .i64 v.ylo, .int .i64 v.yhi] 39 ∧ Blk X (w.heap.size + 1) #[.int .i64 a.x, .int .i64 a.y] 51 ∧ Blk X (w1.heap.size) #[.int .i64 LO, .int .i64 HI] 34 ∧ Kept w X) ⟨by (exact blk), by (exact blk), by (exact blk), hkg⟩ ?_
  obtain ⟨n2, hn2⟩ : ∃ n, n = w1.heap.size := ⟨_, rfl⟩
  rw [← hn2]
  clear nr0c0 nr0f0 nr0c1 nr0f1 nr0c2 nr0f2 nr0c3 nr0f3 nr0l nr1c0 nr1f0 nr1c1 nr1f1 nr1l nq1c0 nq1f0 nq1c1 nq1f1 nq1l nq2c0 nq2f0 nq2c1 nq2f1 nq2l
  clear nr0 nr1 nq1 nq2 hkg hn2
  rintro X ⟨r0, r1, q1, hk⟩
  have r0c0 := r0.cell 0
  have r0f0 := r0.free 0
  have r0c1 := r0.cell 1
  have r0f1 := r0.free 1
  have r0c2 := r0.cell 2
  have r0f2 := r0.free 2
  have r0c3 := r0.cell 3
  have r0f3 := r0.free 3
  have r0l := r0.lt
  simp at r0c0 r0c1 r0c2 r0c3
  have r1c0 := r1.cell 0
  have r1f0 := r1.free 0
  have r1c1 := r1.cell 1
  have r1f1 := r1.free 1
  have r1l := r1.lt
  simp at r1c0 r1c1
  have q1c0 := q1.cell 0
  have q1f0 := q1.free 0
  have q1c1 := q1.cell 1
  have q1f1 := q1.free 1
  have q1l := q1.lt
  simp at q1c0 q1c1
  go_wp2
  go_loopw [20, 150] (fun s20 i wr => ((s20 = .int .i64 0 ∧ i = .int .i64 0) ∨ (s20 = .int .i64 F2 ∧ i = .int .i64 1) ∨ (s20 = .int .i64 F4 ∧ i = .int .i64 2)) ∧ Blk wr X.heap.size #[.int .i64 v.xlo, .int .i64 v.xhi] 3 ∧ Blk wr (w.heap.size) #[.int .i64 v.xlo, .int .i64 v.xhi, .int .i64 v.ylo, .int .i64 v.yhi] 39 ∧ Blk wr (w.heap.size + 1) #[.int .i64 a.x, .int .i64 a.y] 51 ∧ Blk wr (n2) #[.int .i64 LO, .int .i64 HI] 34 ∧ Kept w wr) (fun _ i _ => 2 - (intOf i).toNat)
  case atStart => exact ⟨.inl ⟨rfl, rfl⟩, by (exact blkc), by (exact blk), by (exact blk), by (exact blk), by (exact kpt)⟩
  case round =>
    clear r0c0 r0f0 r0c1 r0f1 r0c2 r0f2 r0c3 r0f3 r0l r1c0 r1f0 r1c1 r1f1 r1l q1c0 q1f0 q1c1 q1f1 q1l
    clear r0 r1 q1 hk
    obtain ⟨hc, y0, r0, r1, q1, hk⟩ := hrel
    obtain ⟨n3, hn3⟩ : ∃ n, n = X.heap.size := ⟨_, rfl⟩
    rw [← hn3] at y0 ⊢
    clear hn3
    have y0c0 := y0.cell 0
    have y0f0 := y0.free 0
    have y0c1 := y0.cell 1
    have y0f1 := y0.free 1
    have y0l := y0.lt
    simp at y0c0 y0c1
    have r0c0 := r0.cell 0
    have r0f0 := r0.free 0
    have r0c1 := r0.cell 1
    have r0f1 := r0.free 1
    have r0c2 := r0.cell 2
    have r0f2 := r0.free 2
    have r0c3 := r0.cell 3
    have r0f3 := r0.free 3
    have r0l := r0.lt
    simp at r0c0 r0c1 r0c2 r0c3
    have r1c0 := r1.cell 0
    have r1f0 := r1.free 0
    have r1c1 := r1.cell 1
    have r1f1 := r1.free 1
    have r1l := r1.lt
    simp at r1c0 r1c1
    have q1c0 := q1.cell 0
    have q1f0 := q1.free 0
    have q1c1 := q1.cell 1
    have q1f1 := q1.free 1
    have q1l := q1.lt
    simp at q1c0 q1c1
    rcases hc with ⟨rfl, rfl⟩ | ⟨rfl, rfl⟩ | ⟨rfl, rfl⟩
    · as_aux_lemma =>
      go_wp2
      have hszq := hk.size
      go_loopw [20, 162] (fun s20 i wq => ((s20 = .int .i64 0 ∧ i = .int .i64 0) ∨ (s20 = .int .i64 F1 ∧ i = .int .i64 1) ∨ (s20 = .int .i64 F2 ∧ i = .int .i64 2)) ∧ Blk wq wr.heap.size #[.int .i64 v.ylo, .int .i64 v.yhi] 3 ∧ Blk wq n3 #[.int .i64 v.xlo, .int .i64 v.xhi] 3 ∧ Blk wq (w.heap.size) #[.int .i64 v.xlo, .int .i64 v.xhi, .int .i64 v.ylo, .int .i64 v.yhi] 39 ∧ Blk wq (w.heap.size + 1) #[.int .i64 a.x, .int .i64 a.y] 51 ∧ Blk wq (n2) #[.int .i64 LO, .int .i64 HI] 34 ∧ Kept w wq) (fun _ i _ => 2 - (intOf i).toNat)
      case atStart => exact ⟨.inl ⟨rfl, rfl⟩, by (exact blkc), by (exact blk), by (exact blk), by (exact blk), by (exact blk), by (exact kpt)⟩
      case round =>
        rename World => wz
        clear y0c0 y0f0 y0c1 y0f1 y0l r0c0 r0f0 r0c1 r0f1 r0c2 r0f2 r0c3 r0f3 r0l r1c0 r1f0 r1c1 r1f1 r1l q1c0 q1f0 q1c1 q1f1 q1l
        clear y0 r0 r1 q1 hk hszq
        obtain ⟨hc, y1, y0, r0, r1, q1, hk⟩ := hrel
        obtain ⟨n4, hn4⟩ : ∃ n, n = wr.heap.size := ⟨_, rfl⟩
        rw [← hn4] at y1 ⊢
        clear hn4
        have y1c0 := y1.cell 0
        have y1f0 := y1.free 0
        have y1c1 := y1.cell 1
        have y1f1 := y1.free 1
        have y1l := y1.lt
        simp at y1c0 y1c1
        have y0c0 := y0.cell 0
        have y0f0 := y0.free 0
        have y0c1 := y0.cell 1
        have y0f1 := y0.free 1
        have y0l := y0.lt
        simp at y0c0 y0c1
        have r0c0 := r0.cell 0
        have r0f0 := r0.free 0
        have r0c1 := r0.cell 1
        have r0f1 := r0.free 1
        have r0c2 := r0.cell 2
        have r0f2 := r0.free 2
        have r0c3 := r0.cell 3
        have r0f3 := r0.free 3
        have r0l := r0.lt
        simp at r0c0 r0c1 r0c2 r0c3
        have r1c0 := r1.cell 0
        have r1f0 := r1.free 0
        have r1c1 := r1.cell 1
        have r1f1 := r1.free 1
        have r1l := r1.lt
        simp at r1c0 r1c1
        have q1c0 := q1.cell 0
        have q1f0 := q1.free 0
        have q1c1 := q1.cell 1
        have q1f1 := q1.free 1
        have q1l := q1.lt
        simp at q1c0 q1c1
        rcases hc with ⟨rfl, rfl⟩ | ⟨rfl, rfl⟩ | ⟨rfl, rfl⟩
        · as_aux_lemma =>
          go_wp2
          go_roundw
          case rel => exact ⟨.inr (.inl ⟨(by first | rfl | (refine congrArg (Value.int .i64) ?_; have e := S1.out; omega)), rfl⟩), y1, y0, r0, r1, q1, hk⟩
          case measure => decide
        · as_aux_lemma =>
          go_wp2
          go_roundw
          case rel => exact ⟨.inr (.inr ⟨(by first | rfl | (refine congrArg (Value.int .i64) ?_; have e := S2.out; omega)), rfl⟩), y1, y0, r0, r1, q1, hk⟩
          case measure => decide
        · as_aux_lemma =>
          go_wp2
          go_roundw
          case rel => exact ⟨.inr (.inl ⟨rfl, rfl⟩), y0, r0, r1, q1, hk⟩
          case measure => decide
    · as_aux_lemma =>
      go_wp2
      have hszq := hk.size
      go_loopw [20, 162] (fun s20 i wq => ((s20 = .int .i64 F2 ∧ i = .int .i64 0) ∨ (s20 = .int .i64 F3 ∧ i = .int .i64 1) ∨ (s20 = .int .i64 F4 ∧ i = .int .i64 2)) ∧ Blk wq wr.heap.size #[.int .i64 v.ylo, .int .i64 v.yhi] 3 ∧ Blk wq n3 #[.int .i64 v.xlo, .int .i64 v.xhi] 3 ∧ Blk wq (w.heap.size) #[.int .i64 v.xlo, .int .i64 v.xhi, .int .i64 v.ylo, .int .i64 v.yhi] 39 ∧ Blk wq (w.heap.size + 1) #[.int .i64 a.x, .int .i64 a.y] 51 ∧ Blk wq (n2) #[.int .i64 LO, .int .i64 HI] 34 ∧ Kept w wq) (fun _ i _ => 2 - (intOf i).toNat)
      case atStart => exact ⟨.inl ⟨rfl, rfl⟩, by (exact blkc), by (exact blk), by (exact blk), by (exact blk), by (exact blk), by (exact kpt)⟩
      case round =>
        rename World => wz
        clear y0c0 y0f0 y0c1 y0f1 y0l r0c0 r0f0 r0c1 r0f1 r0c2 r0f2 r0c3 r0f3 r0l r1c0 r1f0 r1c1 r1f1 r1l q1c0 q1f0 q1c1 q1f1 q1l
        clear y0 r0 r1 q1 hk hszq
        obtain ⟨hc, y1, y0, r0, r1, q1, hk⟩ := hrel
        obtain ⟨n4, hn4⟩ : ∃ n, n = wr.heap.size := ⟨_, rfl⟩
        rw [← hn4] at y1 ⊢
        clear hn4
        have y1c0 := y1.cell 0
        have y1f0 := y1.free 0
        have y1c1 := y1.cell 1
        have y1f1 := y1.free 1
        have y1l := y1.lt
        simp at y1c0 y1c1
        have y0c0 := y0.cell 0
        have y0f0 := y0.free 0
        have y0c1 := y0.cell 1
        have y0f1 := y0.free 1
        have y0l := y0.lt
        simp at y0c0 y0c1
        have r0c0 := r0.cell 0
        have r0f0 := r0.free 0
        have r0c1 := r0.cell 1
        have r0f1 := r0.free 1
        have r0c2 := r0.cell 2
        have r0f2 := r0.free 2
        have r0c3 := r0.cell 3
        have r0f3 := r0.free 3
        have r0l := r0.lt
        simp at r0c0 r0c1 r0c2 r0c3
        have r1c0 := r1.cell 0
        have r1f0 := r1.free 0
        have r1c1 := r1.cell 1
        have r1f1 := r1.free 1
        have r1l := r1.lt
        simp at r1c0 r1c1
        have q1c0 := q1.cell 0
        have q1f0 := q1.free 0
        have q1c1 := q1.cell 1
        have q1f1 := q1.free 1
        have q1l := q1.lt
        simp at q1c0 q1c1
        rcases hc with ⟨rfl, rfl⟩ | ⟨rfl, rfl⟩ | ⟨rfl, rfl⟩
        · as_aux_lemma =>
          go_wp2
          go_roundw
          case rel => exact ⟨.inr (.inl ⟨(by first | rfl | (refine congrArg (Value.int .i64) ?_; have e := S3.out; omega)), rfl⟩), y1, y0, r0, r1, q1, hk⟩
          case measure => decide
        · as_aux_lemma =>
          go_wp2
          go_roundw
          case rel => exact ⟨.inr (.inr ⟨(by first | rfl | (refine congrArg (Value.int .i64) ?_; have e := S4.out; omega)), rfl⟩), y1, y0, r0, r1, q1, hk⟩
          case measure => decide
        · as_aux_lemma =>
          go_wp2
          go_roundw
          case rel => exact ⟨.inr (.inr ⟨rfl, rfl⟩), y0, r0, r1, q1, hk⟩
          case measure => decide
    · as_aux_lemma =>
      have hlt := HT.out
      by_cases hm : 0 ≤ m ∧ m ≤ 2000
      · as_aux_lemma =>
        have x1 : ¬ m < 0 := by omega
        have x2 : ¬ 2000 < m := by omega
        have hce : calmE v a m = 0 := by unfold calmE; rw [HW.out, HA.out, inB_iff.2 hm]; rfl
        have KE := K5.out
        have KF := K6.out
        rw [hce] at KE
        have hcb : calmB v a m = decide (F4 * F4 ≤ m * m * N) := by unfold calmB calmS; rw [if_pos hce, hlt, HNN.out]
        rw [hcb] at KE
        have HMO : m ≤ k → k ≤ 2000 → (calmE v a k = 0 ∧ (F4 * F4 ≤ m * m * N → calmB v a k = true)) := fun h1 h2 => by
          have hk0 : calmE v a k = 0 := by unfold calmE; rw [HW.out, HA.out, inB_iff.2 ⟨by omega, h2⟩]; rfl
          refine ⟨hk0, fun h => ?_⟩
          unfold calmB
          rw [if_pos hk0]
          exact HCM.out hm.1 h1 (by unfold calmS; rw [← hlt, ← HNN.out]; exact decide_eq_true h)
        obtain ⟨EK, hEK⟩ : ∃ n, n = calmE v a k := ⟨_, rfl⟩
        obtain ⟨BK, hBK⟩ : ∃ n, n = calmB v a k := ⟨_, rfl⟩
        rw [← hEK, ← hBK] at HMO
        rw [← hEK, ← hBK] at KF
        have K5 := Lib.hid KE
        have K6 := Lib.hid KF
        have mm1 := mul_bd (A := 2000) (B := 2000) (x := m) (y := m) (by omega) (by omega) (by omega) (by omega)
        have mm2 := mul_bd (A := 4000000) (B := 2000000) (x := m * m) (y := N) (by omega) (by omega) (by omega) (by omega)
        have hm1 := i64_in (n := m * m) (by omega)
        have hm2 := i64_in (n := m * m * N) (by omega)
        have L := L6.out
        clear KE KF hcb hce hEK hBK hlt mm1 mm2
        by_cases hh : 0 < HI
        · as_aux_lemma =>
          have l6 := L hh
          have l7 : ¬ F4 * F4 ≤ (HI - 1) * (HI - 1) * N := by omega
          clear L
          by_cases g1 : k < m
          · skip
            all_goals (by_cases hf : F4 * F4 ≤ m * m * N)
            all_goals
              go_wp2_with (first | (go_at_call 22; (with_reducible refine (K5.out _).mono ?_); rintro z w5 ⟨rfl, hb5⟩; refine Blk.thru (b := w.heap.size) (arr := ?_) (t := ?_) ?_ hb5 ?_; rotate_left 2; (focus (exact blk)); intro r0; have r0c0 := r0.cell 0; have r0f0 := r0.free 0; have r0c1 := r0.cell 1; have r0f1 := r0.free 1; have r0c2 := r0.cell 2; have r0f2 := r0.free 2; have r0c3 := r0.cell 3; have r0f3 := r0.free 3; have r0l := r0.lt; simp at r0c0 r0c1 r0c2 r0c3; refine Blk.thru (b := w.heap.size + 1) (arr := ?_) (t := ?_) ?_ hb5 ?_; rotate_left 2; (focus (exact blk)); intro r1; have r1c0 := r1.cell 0; have r1f0 := r1.free 0; have r1c1 := r1.cell 1; have r1f1 := r1.free 1; have r1l := r1.lt; simp at r1c0 r1c1; refine Blk.thru (b := n2) (arr := ?_) (t := ?_) ?_ hb5 ?_; rotate_left 2; (focus (exact blk)); intro q1; have q1c0 := q1.cell 0; have q1f0 := q1.free 0; have q1c1 := q1.cell 1; have q1f1 := q1.free 1; have q1l := q1.lt; simp at q1c0 q1c1) | (go_at_call 22; (with_reducible refine (K6.out _).mono ?_); rintro z w6 ⟨rfl, hb6⟩; refine Blk.thru (b := w.heap.size) (arr := ?_) (t := ?_) ?_ hb6 ?_; rotate_left 2; (focus (exact blk)); intro r0; have r0c0 := r0.cell 0; have r0f0 := r0.free 0; have r0c1 := r0.cell 1; have r0f1 := r0.free 1; have r0c2 := r0.cell 2; have r0f2 := r0.free 2; have r0c3 := r0.cell 3; have r0f3 := r0.free 3; have r0l := r0.lt; simp at r0c0 r0c1 r0c2 r0c3; refine Blk.thru (b := w.heap.size + 1) (arr := ?_) (t := ?_) ?_ hb6 ?_; rotate_left 2; (focus (exact blk)); intro r1; have r1c0 := r1.cell 0; have r1f0 := r1.free 0; have r1c1 := r1.cell 1; have r1f1 := r1.free 1; have r1l := r1.lt; simp at r1c0 r1c1; refine Blk.thru (b := n2) (arr := ?_) (t := ?_) ?_ hb6 ?_; rotate_left 2; (focus (exact blk)); intro q1; have q1c0 := q1.cell 0; have q1f0 := q1.free 0; have q1c1 := q1.cell 1; have q1f1 := q1.free 1; have q1l := q1.lt; simp at q1c0 q1c1))
              go_ret
              exact ⟨rfl, by (exact kpt)⟩
          · by_cases g2 : 2000 < k
            · skip
              all_goals (by_cases hf : F4 * F4 ≤ m * m * N)
              all_goals
                go_wp2_with (first | (go_at_call 22; (with_reducible refine (K5.out _).mono ?_); rintro z w5 ⟨rfl, hb5⟩; refine Blk.thru (b := w.heap.size) (arr := ?_) (t := ?_) ?_ hb5 ?_; rotate_left 2; (focus (exact blk)); intro r0; have r0c0 := r0.cell 0; have r0f0 := r0.free 0; have r0c1 := r0.cell 1; have r0f1 := r0.free 1; have r0c2 := r0.cell 2; have r0f2 := r0.free 2; have r0c3 := r0.cell 3; have r0f3 := r0.free 3; have r0l := r0.lt; simp at r0c0 r0c1 r0c2 r0c3; refine Blk.thru (b := w.heap.size + 1) (arr := ?_) (t := ?_) ?_ hb5 ?_; rotate_left 2; (focus (exact blk)); intro r1; have r1c0 := r1.cell 0; have r1f0 := r1.free 0; have r1c1 := r1.cell 1; have r1f1 := r1.free 1; have r1l := r1.lt; simp at r1c0 r1c1; refine Blk.thru (b := n2) (arr := ?_) (t := ?_) ?_ hb5 ?_; rotate_left 2; (focus (exact blk)); intro q1; have q1c0 := q1.cell 0; have q1f0 := q1.free 0; have q1c1 := q1.cell 1; have q1f1 := q1.free 1; have q1l := q1.lt; simp at q1c0 q1c1) | (go_at_call 22; (with_reducible refine (K6.out _).mono ?_); rintro z w6 ⟨rfl, hb6⟩; refine Blk.thru (b := w.heap.size) (arr := ?_) (t := ?_) ?_ hb6 ?_; rotate_left 2; (focus (exact blk)); intro r0; have r0c0 := r0.cell 0; have r0f0 := r0.free 0; have r0c1 := r0.cell 1; have r0f1 := r0.free 1; have r0c2 := r0.cell 2; have r0f2 := r0.free 2; have r0c3 := r0.cell 3; have r0f3 := r0.free 3; have r0l := r0.lt; simp at r0c0 r0c1 r0c2 r0c3; refine Blk.thru (b := w.heap.size + 1) (arr := ?_) (t := ?_) ?_ hb6 ?_; rotate_left 2; (focus (exact blk)); intro r1; have r1c0 := r1.cell 0; have r1f0 := r1.free 0; have r1c1 := r1.cell 1; have r1f1 := r1.free 1; have r1l := r1.lt; simp at r1c0 r1c1; refine Blk.thru (b := n2) (arr := ?_) (t := ?_) ?_ hb6 ?_; rotate_left 2; (focus (exact blk)); intro q1; have q1c0 := q1.cell 0; have q1f0 := q1.free 0; have q1c1 := q1.cell 1; have q1f1 := q1.free 1; have q1l := q1.lt; simp at q1c0 q1c1))
                go_ret
                exact ⟨rfl, by (exact kpt)⟩
            · obtain ⟨rfl, hbk⟩ := HMO (by omega) (by omega)
              by_cases hf : F4 * F4 ≤ m * m * N
              · obtain rfl := hbk hf
                go_wp2_with (first | (go_at_call 22; (with_reducible refine (K5.out _).mono ?_); rintro z w5 ⟨rfl, hb5⟩; refine Blk.thru (b := w.heap.size) (arr := ?_) (t := ?_) ?_ hb5 ?_; rotate_left 2; (focus (exact blk)); intro r0; have r0c0 := r0.cell 0; have r0f0 := r0.free 0; have r0c1 := r0.cell 1; have r0f1 := r0.free 1; have r0c2 := r0.cell 2; have r0f2 := r0.free 2; have r0c3 := r0.cell 3; have r0f3 := r0.free 3; have r0l := r0.lt; simp at r0c0 r0c1 r0c2 r0c3; refine Blk.thru (b := w.heap.size + 1) (arr := ?_) (t := ?_) ?_ hb5 ?_; rotate_left 2; (focus (exact blk)); intro r1; have r1c0 := r1.cell 0; have r1f0 := r1.free 0; have r1c1 := r1.cell 1; have r1f1 := r1.free 1; have r1l := r1.lt; simp at r1c0 r1c1; refine Blk.thru (b := n2) (arr := ?_) (t := ?_) ?_ hb5 ?_; rotate_left 2; (focus (exact blk)); intro q1; have q1c0 := q1.cell 0; have q1f0 := q1.free 0; have q1c1 := q1.cell 1; have q1f1 := q1.free 1; have q1l := q1.lt; simp at q1c0 q1c1) | (go_at_call 22; (with_reducible refine (K6.out _).mono ?_); rintro z w6 ⟨rfl, hb6⟩; refine Blk.thru (b := w.heap.size) (arr := ?_) (t := ?_) ?_ hb6 ?_; rotate_left 2; (focus (exact blk)); intro r0; have r0c0 := r0.cell 0; have r0f0 := r0.free 0; have r0c1 := r0.cell 1; have r0f1 := r0.free 1; have r0c2 := r0.cell 2; have r0f2 := r0.free 2; have r0c3 := r0.cell 3; have r0f3 := r0.free 3; have r0l := r0.lt; simp at r0c0 r0c1 r0c2 r0c3; refine Blk.thru (b := w.heap.size + 1) (arr := ?_) (t := ?_) ?_ hb6 ?_; rotate_left 2; (focus (exact blk)); intro r1; have r1c0 := r1.cell 0; have r1f0 := r1.free 0; have r1c1 := r1.cell 1; have r1f1 := r1.free 1; have r1l := r1.lt; simp at r1c0 r1c1; refine Blk.thru (b := n2) (arr := ?_) (t := ?_) ?_ hb6 ?_; rotate_left 2; (focus (exact blk)); intro q1; have q1c0 := q1.cell 0; have q1f0 := q1.free 0; have q1c1 := q1.cell 1; have q1f1 := q1.free 1; have q1l := q1.lt; simp at q1c0 q1c1))
                go_ret
                exact ⟨rfl, by (exact kpt)⟩
              · go_wp2_with (first | (go_at_call 22; (with_reducible refine (K5.out _).mono ?_); rintro z w5 ⟨rfl, hb5⟩; refine Blk.thru (b := w.heap.size) (arr := ?_) (t := ?_) ?_ hb5 ?_; rotate_left 2; (focus (exact blk)); intro r0; have r0c0 := r0.cell 0; have r0f0 := r0.free 0; have r0c1 := r0.cell 1; have r0f1 := r0.free 1; have r0c2 := r0.cell 2; have r0f2 := r0.free 2; have r0c3 := r0.cell 3; have r0f3 := r0.free 3; have r0l := r0.lt; simp at r0c0 r0c1 r0c2 r0c3; refine Blk.thru (b := w.heap.size + 1) (arr := ?_) (t := ?_) ?_ hb5 ?_; rotate_left 2; (focus (exact blk)); intro r1; have r1c0 := r1.cell 0; have r1f0 := r1.free 0; have r1c1 := r1.cell 1; have r1f1 := r1.free 1; have r1l := r1.lt; simp at r1c0 r1c1; refine Blk.thru (b := n2) (arr := ?_) (t := ?_) ?_ hb5 ?_; rotate_left 2; (focus (exact blk)); intro q1; have q1c0 := q1.cell 0; have q1f0 := q1.free 0; have q1c1 := q1.cell 1; have q1f1 := q1.free 1; have q1l := q1.lt; simp at q1c0 q1c1) | (go_at_call 22; (with_reducible refine (K6.out _).mono ?_); rintro z w6 ⟨rfl, hb6⟩; refine Blk.thru (b := w.heap.size) (arr := ?_) (t := ?_) ?_ hb6 ?_; rotate_left 2; (focus (exact blk)); intro r0; have r0c0 := r0.cell 0; have r0f0 := r0.free 0; have r0c1 := r0.cell 1; have r0f1 := r0.free 1; have r0c2 := r0.cell 2; have r0f2 := r0.free 2; have r0c3 := r0.cell 3; have r0f3 := r0.free 3; have r0l := r0.lt; simp at r0c0 r0c1 r0c2 r0c3; refine Blk.thru (b := w.heap.size + 1) (arr := ?_) (t := ?_) ?_ hb6 ?_; rotate_left 2; (focus (exact blk)); intro r1; have r1c0 := r1.cell 0; have r1f0 := r1.free 0; have r1c1 := r1.cell 1; have r1f1 := r1.free 1; have r1l := r1.lt; simp at r1c0 r1c1; refine Blk.thru (b := n2) (arr := ?_) (t := ?_) ?_ hb6 ?_; rotate_left 2; (focus (exact blk)); intro q1; have q1c0 := q1.cell 0; have q1f0 := q1.free 0; have q1c1 := q1.cell 1; have q1f1 := q1.free 1; have q1l := q1.lt; simp at q1c0 q1c1))
                go_ret
                exact ⟨rfl, by (exact kpt)⟩
        · as_aux_lemma =>
          clear L
          by_cases g1 : k < m
          · skip
            all_goals (by_cases hf : F4 * F4 ≤ m * m * N)
            all_goals
              go_wp2_with (first | (go_at_call 22; (with_reducible refine (K5.out _).mono ?_); rintro z w5 ⟨rfl, hb5⟩; refine Blk.thru (b := w.heap.size) (arr := ?_) (t := ?_) ?_ hb5 ?_; rotate_left 2; (focus (exact blk)); intro r0; have r0c0 := r0.cell 0; have r0f0 := r0.free 0; have r0c1 := r0.cell 1; have r0f1 := r0.free 1; have r0c2 := r0.cell 2; have r0f2 := r0.free 2; have r0c3 := r0.cell 3; have r0f3 := r0.free 3; have r0l := r0.lt; simp at r0c0 r0c1 r0c2 r0c3; refine Blk.thru (b := w.heap.size + 1) (arr := ?_) (t := ?_) ?_ hb5 ?_; rotate_left 2; (focus (exact blk)); intro r1; have r1c0 := r1.cell 0; have r1f0 := r1.free 0; have r1c1 := r1.cell 1; have r1f1 := r1.free 1; have r1l := r1.lt; simp at r1c0 r1c1; refine Blk.thru (b := n2) (arr := ?_) (t := ?_) ?_ hb5 ?_; rotate_left 2; (focus (exact blk)); intro q1; have q1c0 := q1.cell 0; have q1f0 := q1.free 0; have q1c1 := q1.cell 1; have q1f1 := q1.free 1; have q1l := q1.lt; simp at q1c0 q1c1) | (go_at_call 22; (with_reducible refine (K6.out _).mono ?_); rintro z w6 ⟨rfl, hb6⟩; refine Blk.thru (b := w.heap.size) (arr := ?_) (t := ?_) ?_ hb6 ?_; rotate_left 2; (focus (exact blk)); intro r0; have r0c0 := r0.cell 0; have r0f0 := r0.free 0; have r0c1 := r0.cell 1; have r0f1 := r0.free 1; have r0c2 := r0.cell 2; have r0f2 := r0.free 2; have r0c3 := r0.cell 3; have r0f3 := r0.free 3; have r0l := r0.lt; simp at r0c0 r0c1 r0c2 r0c3; refine Blk.thru (b := w.heap.size + 1) (arr := ?_) (t := ?_) ?_ hb6 ?_; rotate_left 2; (focus (exact blk)); intro r1; have r1c0 := r1.cell 0; have r1f0 := r1.free 0; have r1c1 := r1.cell 1; have r1f1 := r1.free 1; have r1l := r1.lt; simp at r1c0 r1c1; refine Blk.thru (b := n2) (arr := ?_) (t := ?_) ?_ hb6 ?_; rotate_left 2; (focus (exact blk)); intro q1; have q1c0 := q1.cell 0; have q1f0 := q1.free 0; have q1c1 := q1.cell 1; have q1f1 := q1.free 1; have q1l := q1.lt; simp at q1c0 q1c1))
              go_ret
              exact ⟨rfl, by (exact kpt)⟩
          · by_cases g2 : 2000 < k
            · skip
              all_goals (by_cases hf : F4 * F4 ≤ m * m * N)
              all_goals
                go_wp2_with (first | (go_at_call 22; (with_reducible refine (K5.out _).mono ?_); rintro z w5 ⟨rfl, hb5⟩; refine Blk.thru (b := w.heap.size) (arr := ?_) (t := ?_) ?_ hb5 ?_; rotate_left 2; (focus (exact blk)); intro r0; have r0c0 := r0.cell 0; have r0f0 := r0.free 0; have r0c1 := r0.cell 1; have r0f1 := r0.free 1; have r0c2 := r0.cell 2; have r0f2 := r0.free 2; have r0c3 := r0.cell 3; have r0f3 := r0.free 3; have r0l := r0.lt; simp at r0c0 r0c1 r0c2 r0c3; refine Blk.thru (b := w.heap.size + 1) (arr := ?_) (t := ?_) ?_ hb5 ?_; rotate_left 2; (focus (exact blk)); intro r1; have r1c0 := r1.cell 0; have r1f0 := r1.free 0; have r1c1 := r1.cell 1; have r1f1 := r1.free 1; have r1l := r1.lt; simp at r1c0 r1c1; refine Blk.thru (b := n2) (arr := ?_) (t := ?_) ?_ hb5 ?_; rotate_left 2; (focus (exact blk)); intro q1; have q1c0 := q1.cell 0; have q1f0 := q1.free 0; have q1c1 := q1.cell 1; have q1f1 := q1.free 1; have q1l := q1.lt; simp at q1c0 q1c1) | (go_at_call 22; (with_reducible refine (K6.out _).mono ?_); rintro z w6 ⟨rfl, hb6⟩; refine Blk.thru (b := w.heap.size) (arr := ?_) (t := ?_) ?_ hb6 ?_; rotate_left 2; (focus (exact blk)); intro r0; have r0c0 := r0.cell 0; have r0f0 := r0.free 0; have r0c1 := r0.cell 1; have r0f1 := r0.free 1; have r0c2 := r0.cell 2; have r0f2 := r0.free 2; have r0c3 := r0.cell 3; have r0f3 := r0.free 3; have r0l := r0.lt; simp at r0c0 r0c1 r0c2 r0c3; refine Blk.thru (b := w.heap.size + 1) (arr := ?_) (t := ?_) ?_ hb6 ?_; rotate_left 2; (focus (exact blk)); intro r1; have r1c0 := r1.cell 0; have r1f0 := r1.free 0; have r1c1 := r1.cell 1; have r1f1 := r1.free 1; have r1l := r1.lt; simp at r1c0 r1c1; refine Blk.thru (b := n2) (arr := ?_) (t := ?_) ?_ hb6 ?_; rotate_left 2; (focus (exact blk)); intro q1; have q1c0 := q1.cell 0; have q1f0 := q1.free 0; have q1c1 := q1.cell 1; have q1f1 := q1.free 1; have q1l := q1.lt; simp at q1c0 q1c1))
                go_ret
                exact ⟨rfl, by (exact kpt)⟩
            · obtain ⟨rfl, hbk⟩ := HMO (by omega) (by omega)
              by_cases hf : F4 * F4 ≤ m * m * N
              · obtain rfl := hbk hf
                go_wp2_with (first | (go_at_call 22; (with_reducible refine (K5.out _).mono ?_); rintro z w5 ⟨rfl, hb5⟩; refine Blk.thru (b := w.heap.size) (arr := ?_) (t := ?_) ?_ hb5 ?_; rotate_left 2; (focus (exact blk)); intro r0; have r0c0 := r0.cell 0; have r0f0 := r0.free 0; have r0c1 := r0.cell 1; have r0f1 := r0.free 1; have r0c2 := r0.cell 2; have r0f2 := r0.free 2; have r0c3 := r0.cell 3; have r0f3 := r0.free 3; have r0l := r0.lt; simp at r0c0 r0c1 r0c2 r0c3; refine Blk.thru (b := w.heap.size + 1) (arr := ?_) (t := ?_) ?_ hb5 ?_; rotate_left 2; (focus (exact blk)); intro r1; have r1c0 := r1.cell 0; have r1f0 := r1.free 0; have r1c1 := r1.cell 1; have r1f1 := r1.free 1; have r1l := r1.lt; simp at r1c0 r1c1; refine Blk.thru (b := n2) (arr := ?_) (t := ?_) ?_ hb5 ?_; rotate_left 2; (focus (exact blk)); intro q1; have q1c0 := q1.cell 0; have q1f0 := q1.free 0; have q1c1 := q1.cell 1; have q1f1 := q1.free 1; have q1l := q1.lt; simp at q1c0 q1c1) | (go_at_call 22; (with_reducible refine (K6.out _).mono ?_); rintro z w6 ⟨rfl, hb6⟩; refine Blk.thru (b := w.heap.size) (arr := ?_) (t := ?_) ?_ hb6 ?_; rotate_left 2; (focus (exact blk)); intro r0; have r0c0 := r0.cell 0; have r0f0 := r0.free 0; have r0c1 := r0.cell 1; have r0f1 := r0.free 1; have r0c2 := r0.cell 2; have r0f2 := r0.free 2; have r0c3 := r0.cell 3; have r0f3 := r0.free 3; have r0l := r0.lt; simp at r0c0 r0c1 r0c2 r0c3; refine Blk.thru (b := w.heap.size + 1) (arr := ?_) (t := ?_) ?_ hb6 ?_; rotate_left 2; (focus (exact blk)); intro r1; have r1c0 := r1.cell 0; have r1f0 := r1.free 0; have r1c1 := r1.cell 1; have r1f1 := r1.free 1; have r1l := r1.lt; simp at r1c0 r1c1; refine Blk.thru (b := n2) (arr := ?_) (t := ?_) ?_ hb6 ?_; rotate_left 2; (focus (exact blk)); intro q1; have q1c0 := q1.cell 0; have q1f0 := q1.free 0; have q1c1 := q1.cell 1; have q1f1 := q1.free 1; have q1l := q1.lt; simp at q1c0 q1c1))
                go_ret
                exact ⟨rfl, by (exact kpt)⟩
              · go_wp2_with (first | (go_at_call 22; (with_reducible refine (K5.out _).mono ?_); rintro z w5 ⟨rfl, hb5⟩; refine Blk.thru (b := w.heap.size) (arr := ?_) (t := ?_) ?_ hb5 ?_; rotate_left 2; (focus (exact blk)); intro r0; have r0c0 := r0.cell 0; have r0f0 := r0.free 0; have r0c1 := r0.cell 1; have r0f1 := r0.free 1; have r0c2 := r0.cell 2; have r0f2 := r0.free 2; have r0c3 := r0.cell 3; have r0f3 := r0.free 3; have r0l := r0.lt; simp at r0c0 r0c1 r0c2 r0c3; refine Blk.thru (b := w.heap.size + 1) (arr := ?_) (t := ?_) ?_ hb5 ?_; rotate_left 2; (focus (exact blk)); intro r1; have r1c0 := r1.cell 0; have r1f0 := r1.free 0; have r1c1 := r1.cell 1; have r1f1 := r1.free 1; have r1l := r1.lt; simp at r1c0 r1c1; refine Blk.thru (b := n2) (arr := ?_) (t := ?_) ?_ hb5 ?_; rotate_left 2; (focus (exact blk)); intro q1; have q1c0 := q1.cell 0; have q1f0 := q1.free 0; have q1c1 := q1.cell 1; have q1f1 := q1.free 1; have q1l := q1.lt; simp at q1c0 q1c1) | (go_at_call 22; (with_reducible refine (K6.out _).mono ?_); rintro z w6 ⟨rfl, hb6⟩; refine Blk.thru (b := w.heap.size) (arr := ?_) (t := ?_) ?_ hb6 ?_; rotate_left 2; (focus (exact blk)); intro r0; have r0c0 := r0.cell 0; have r0f0 := r0.free 0; have r0c1 := r0.cell 1; have r0f1 := r0.free 1; have r0c2 := r0.cell 2; have r0f2 := r0.free 2; have r0c3 := r0.cell 3; have r0f3 := r0.free 3; have r0l := r0.lt; simp at r0c0 r0c1 r0c2 r0c3; refine Blk.thru (b := w.heap.size + 1) (arr := ?_) (t := ?_) ?_ hb6 ?_; rotate_left 2; (focus (exact blk)); intro r1; have r1c0 := r1.cell 0; have r1f0 := r1.free 0; have r1c1 := r1.cell 1; have r1f1 := r1.free 1; have r1l := r1.lt; simp at r1c0 r1c1; refine Blk.thru (b := n2) (arr := ?_) (t := ?_) ?_ hb6 ?_; rotate_left 2; (focus (exact blk)); intro q1; have q1c0 := q1.cell 0; have q1f0 := q1.free 0; have q1c1 := q1.cell 1; have q1f1 := q1.free 1; have q1l := q1.lt; simp at q1c0 q1c1))
                go_ret
                exact ⟨rfl, by (exact kpt)⟩
      · as_aux_lemma =>
        have hb : inB m 0 2000 = false := by cases hb : inB m 0 2000 with | false => rfl | true => exact absurd (inB_iff.1 hb) hm
        have hce : calmE v a m = 2 := by unfold calmE; rw [HW.out, HA.out, hb]; rfl
        have KE := K5.out
        rw [hce] at KE
        have K5 := Lib.hid KE
        have L := L6.out
        clear KE hce hb hlt
        by_cases hh : 0 < HI
        · as_aux_lemma =>
          have l6 := L hh
          have l7 : ¬ F4 * F4 ≤ (HI - 1) * (HI - 1) * N := by omega
          clear L
          by_cases g1 : m < 0
          · go_wp2_with (go_at_call 22; (with_reducible refine (K5.out _).mono ?_); rintro z w5 ⟨rfl, hb5⟩; refine Blk.thru (b := w.heap.size) (arr := ?_) (t := ?_) ?_ hb5 ?_; rotate_left 2; (focus (exact blk)); intro r0; have r0c0 := r0.cell 0; have r0f0 := r0.free 0; have r0c1 := r0.cell 1; have r0f1 := r0.free 1; have r0c2 := r0.cell 2; have r0f2 := r0.free 2; have r0c3 := r0.cell 3; have r0f3 := r0.free 3; have r0l := r0.lt; simp at r0c0 r0c1 r0c2 r0c3; refine Blk.thru (b := w.heap.size + 1) (arr := ?_) (t := ?_) ?_ hb5 ?_; rotate_left 2; (focus (exact blk)); intro r1; have r1c0 := r1.cell 0; have r1f0 := r1.free 0; have r1c1 := r1.cell 1; have r1f1 := r1.free 1; have r1l := r1.lt; simp at r1c0 r1c1; refine Blk.thru (b := n2) (arr := ?_) (t := ?_) ?_ hb5 ?_; rotate_left 2; (focus (exact blk)); intro q1; have q1c0 := q1.cell 0; have q1f0 := q1.free 0; have q1c1 := q1.cell 1; have q1f1 := q1.free 1; have q1l := q1.lt; simp at q1c0 q1c1)
            go_ret
            exact ⟨rfl, by (exact kpt)⟩
          · have g2 : 2000 < m := by omega
            go_wp2_with (go_at_call 22; (with_reducible refine (K5.out _).mono ?_); rintro z w5 ⟨rfl, hb5⟩; refine Blk.thru (b := w.heap.size) (arr := ?_) (t := ?_) ?_ hb5 ?_; rotate_left 2; (focus (exact blk)); intro r0; have r0c0 := r0.cell 0; have r0f0 := r0.free 0; have r0c1 := r0.cell 1; have r0f1 := r0.free 1; have r0c2 := r0.cell 2; have r0f2 := r0.free 2; have r0c3 := r0.cell 3; have r0f3 := r0.free 3; have r0l := r0.lt; simp at r0c0 r0c1 r0c2 r0c3; refine Blk.thru (b := w.heap.size + 1) (arr := ?_) (t := ?_) ?_ hb5 ?_; rotate_left 2; (focus (exact blk)); intro r1; have r1c0 := r1.cell 0; have r1f0 := r1.free 0; have r1c1 := r1.cell 1; have r1f1 := r1.free 1; have r1l := r1.lt; simp at r1c0 r1c1; refine Blk.thru (b := n2) (arr := ?_) (t := ?_) ?_ hb5 ?_; rotate_left 2; (focus (exact blk)); intro q1; have q1c0 := q1.cell 0; have q1f0 := q1.free 0; have q1c1 := q1.cell 1; have q1f1 := q1.free 1; have q1l := q1.lt; simp at q1c0 q1c1)
            go_ret
            exact ⟨rfl, by (exact kpt)⟩
        · as_aux_lemma =>
          clear L
          by_cases g1 : m < 0
          · go_wp2_with (go_at_call 22; (with_reducible refine (K5.out _).mono ?_); rintro z w5 ⟨rfl, hb5⟩; refine Blk.thru (b := w.heap.size) (arr := ?_) (t := ?_) ?_ hb5 ?_; rotate_left 2; (focus (exact blk)); intro r0; have r0c0 := r0.cell 0; have r0f0 := r0.free 0; have r0c1 := r0.cell 1; have r0f1 := r0.free 1; have r0c2 := r0.cell 2; have r0f2 := r0.free 2; have r0c3 := r0.cell 3; have r0f3 := r0.free 3; have r0l := r0.lt; simp at r0c0 r0c1 r0c2 r0c3; refine Blk.thru (b := w.heap.size + 1) (arr := ?_) (t := ?_) ?_ hb5 ?_; rotate_left 2; (focus (exact blk)); intro r1; have r1c0 := r1.cell 0; have r1f0 := r1.free 0; have r1c1 := r1.cell 1; have r1f1 := r1.free 1; have r1l := r1.lt; simp at r1c0 r1c1; refine Blk.thru (b := n2) (arr := ?_) (t := ?_) ?_ hb5 ?_; rotate_left 2; (focus (exact blk)); intro q1; have q1c0 := q1.cell 0; have q1f0 := q1.free 0; have q1c1 := q1.cell 1; have q1f1 := q1.free 1; have q1l := q1.lt; simp at q1c0 q1c1)
            go_ret
            exact ⟨rfl, by (exact kpt)⟩
          · have g2 : 2000 < m := by omega
            go_wp2_with (go_at_call 22; (with_reducible refine (K5.out _).mono ?_); rintro z w5 ⟨rfl, hb5⟩; refine Blk.thru (b := w.heap.size) (arr := ?_) (t := ?_) ?_ hb5 ?_; rotate_left 2; (focus (exact blk)); intro r0; have r0c0 := r0.cell 0; have r0f0 := r0.free 0; have r0c1 := r0.cell 1; have r0f1 := r0.free 1; have r0c2 := r0.cell 2; have r0f2 := r0.free 2; have r0c3 := r0.cell 3; have r0f3 := r0.free 3; have r0l := r0.lt; simp at r0c0 r0c1 r0c2 r0c3; refine Blk.thru (b := w.heap.size + 1) (arr := ?_) (t := ?_) ?_ hb5 ?_; rotate_left 2; (focus (exact blk)); intro r1; have r1c0 := r1.cell 0; have r1f0 := r1.free 0; have r1c1 := r1.cell 1; have r1f1 := r1.free 1; have r1l := r1.lt; simp at r1c0 r1c1; refine Blk.thru (b := n2) (arr := ?_) (t := ?_) ?_ hb5 ?_; rotate_left 2; (focus (exact blk)); intro q1; have q1c0 := q1.cell 0; have q1f0 := q1.free 0; have q1c1 := q1.cell 1; have q1f1 := q1.free 1; have q1l := q1.lt; simp at q1c0 q1c1)
            go_ret
            exact ⟨rfl, by (exact kpt)⟩

theorem law_MastBlown (v : Wind) (a : Axis) (m k x y : Int) (w : World) (hx : 0 ≤ x ∧ x ≤ 65535) (hy : 0 ≤ y ∧ y ≤ 65535) : Calls Tryz.prog 5 #[.agg #[.int .i64 v.xlo, .int .i64 v.xhi, .int .i64 v.ylo, .int .i64 v.yhi], .agg #[.int .i64 a.x, .int .i64 a.y], .int .i64 m, .int .i64 k, .int .u16 x, .int .u16 y] w fun z w' => z = .returned (.bool true) ∧ Kept w w' := by
  cases hw : windB v
  · exact law_MastBlown_wind v a m k x y w hw
  · cases ha : axisB a
    · exact law_MastBlown_axis v a m k x y w hw ha
    · exact law_MastBlown_ok v a m k x y w hx hy hw ha
end Go.Proofs.YtacbkbilbmkjnaaGreat

/-
  MastBlown, the statement: for every input the call returns true and leaves the input alone.
-/
namespace Go.Proofs.YtacbkbilbmkjnaaGreat.mastBlown
open Go.ChangeShapes Go.WideShapes Go.ChangeAt Go.RowKit Bal Bal.Trim Bal.Mast
open Go.ChangeMaps (open_string shut_string)
set_option linter.unusedVariables false

theorem own : ownKnob Tryz.prog.godebug = none := by kernel_rfl
theorem laidOut : laidOutB Tryz.prog = true := by kernel_rfl

set_option maxRecDepth 100000 in
theorem lifted (os : Os) (started : os.Started) (H : Type) (enc : TypeId × Value → H) :
    ReturnsInHanded {} Tryz.checked os 5 .any (Rows.mastBlownSpec.pre6 enc Tryz.prog Tryz.f5 Rows.mastBlownRow.domain false) (Rows.mastBlownSpec.post enc Tryz.prog Tryz.f5 false true false false) := by
  refine returnsInHanded_of_change (C := Tryz.checked) own started (by kernel_rfl) Tryz.func5
    (ChangeSpec.witness6 (enc := enc) (C := Tryz.checked) false ⟨#[], #[.agg #[.int .i64 0, .int .i64 0, .int .i64 0, .int .i64 0], .agg #[.int .i64 0, .int .i64 0], .int .i64 0, .int .i64 0, .int .u16 0, .int .u16 0], []⟩ 8 (by kernel_rfl) (by kernel_rfl) (by kernel_rfl) (by kernel_rfl)) ?_
  intro W base args ds gs before hval0 hW hcnd _
  have hval : ∀ (j : Nat) t v, Tryz.f5.params[j]? = some t → args[j]? = some v → Value.okWide Tryz.prog W .any base t v := hval0
  have hW' := hW
  obtain ⟨p, q, hA0, hV, rfl, hfz, hnd⟩ := hW
  have hA : DataW.TrodAll enc Tryz.prog W 0 (fun _ => true) true Tryz.f5.params.toList args.toList ds p := hA0
  rw [Tryz.params5] at hA hval
  obtain ⟨v0, vs0, d0, ds0, p0, q0, hargs, rfl, rfl, h0, r0⟩ := trodAll_cons hA
  obtain ⟨v1, vs1, d1, ds1, p1, q1, rfl, rfl, rfl, h1, r1⟩ := trodAll_cons r0
  obtain ⟨v2, vs2, d2, ds2, p2, q2, rfl, rfl, rfl, h2, r2⟩ := trodAll_cons r1
  obtain ⟨v3, vs3, d3, ds3, p3, q3, rfl, rfl, rfl, h3, r3⟩ := trodAll_cons r2
  obtain ⟨v4, vs4, d4, ds4, p4, q4, rfl, rfl, rfl, h4, r4⟩ := trodAll_cons r3
  obtain ⟨v5, vs5, d5, ds5, p5, q5, rfl, rfl, rfl, h5, r5⟩ := trodAll_cons r4
  obtain ⟨rfl, rfl, rfl⟩ := trodAll_nil r5
  obtain rfl : args = #[v0, v1, v2, v3, v4, v5] := by cases args; simp_all
  obtain ⟨rfl, rfl⟩ := trodVars_none hV
  have k0 := h0
  have lt0 : ∀ x ∈ p0, x.block < W.heap.size := by obtain ⟨m, hm⟩ := k0; exact DataW.trod_lt m _ _ _ hm
  obtain ⟨a0, rfl, wf0⟩ := open_agg (n := 5) (fun _ h => Wind.of_leaves h) Tryz.underlying39 (by kernel_rfl) (hval 0 39 v0 rfl rfl) h0
  have k1 := h1
  have lt1 : ∀ x ∈ p1, x.block < W.heap.size := by obtain ⟨m, hm⟩ := k1; exact DataW.trod_lt m _ _ _ hm
  obtain ⟨a1, rfl, wf1⟩ := open_agg (n := 5) (fun _ h => Axis.of_leaves h) Tryz.underlying51 (by kernel_rfl) (hval 1 51 v1 rfl rfl) h1
  obtain ⟨a2, rfl, rfl, rfl, w2⟩ := open_int Tryz.underlying3 (hval 2 3 v2 rfl rfl) h2
  obtain ⟨a3, rfl, rfl, rfl, w3⟩ := open_int Tryz.underlying3 (hval 3 3 v3 rfl rfl) h3
  obtain ⟨a4, rfl, rfl, rfl, w4⟩ := open_int Tryz.underlying52 (hval 4 52 v4 rfl rfl) h4
  obtain ⟨a5, rfl, rfl, rfl, w5⟩ := open_int Tryz.underlying52 (hval 5 52 v5 rfl rfl) h5
  clear hA0 hval0
  refine (law_MastBlown a0 a1 a2 a3 a4 a5 W (wf_u16 w4) (wf_u16 w5)).mono fun e W' ⟨he, bel⟩ => ?_
  subst he
  exact ⟨_, rfl, _, _, _, [], _, [], hW', trodAll_mk1 (shut_bool Tryz.underlying4 _), (trodAll_cons_mk (Below.trod laidOut (by kernel_rfl) (of_decide_eq_true (by kernel_rfl)) k0 bel lt0) (trodAll_cons_mk (Below.trod laidOut (by kernel_rfl) (of_decide_eq_true (by kernel_rfl)) k1 bel lt1) (trodAll_cons_mk (shut_int Tryz.underlying3 w2) (trodAll_cons_mk (shut_int Tryz.underlying3 w3) (trodAll_cons_mk (shut_int Tryz.underlying52 w4) (trodAll_cons_mk (shut_int Tryz.underlying52 w5) trodAll_mk0)))))), rfl, bel.frame _, fun h => by cases h⟩

theorem joined : joinedFacts Tryz.prog 5 Tryz.f5 Rows.mastBlownSpec Rows.mastBlownRow = true := by
  unfold joinedFacts
  rw [mayEnter_is, liftsFinal_is, make_is]
  kernel_rfl
theorem over : Rows.mastBlownRow.holds Tryz.pinned (OpenSpec.ofChange Rows.mastBlownSpec) :=
  OpenClaim.holds_of_wide 5 Tryz.f5 rfl rfl rfl rfl rfl rfl rfl ⟨rfl, rfl, rfl, rfl, rfl⟩ rfl rfl rfl rfl rfl (by kernel_rfl) Tryz.func5 joined
    (of_decide_eq_true (by kernel_rfl)) (by unfold Func.isWrapper; first | (rw [if_pos (by decide +kernel)]; kernel_rfl) | (rw [if_neg (by decide +kernel)]; exact ⟨rfl, rfl⟩))
    (fun os started H enc _ => lifted os started H enc)
end Go.Proofs.YtacbkbilbmkjnaaGreat.mastBlown

namespace Go.Proofs.YtacbkbilbmkjnaaGreat
theorem mastBlown_holds : Rows.MastBlownSaid := mastBlown.over
#print axioms mastBlown_holds
end Go.Proofs.YtacbkbilbmkjnaaGreat
