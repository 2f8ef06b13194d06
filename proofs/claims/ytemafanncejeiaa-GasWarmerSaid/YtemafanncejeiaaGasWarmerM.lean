/-
  GasWarmer, the statement: for every input the call returns true and leaves the input alone.
-/
import Derived.Test.YtemafanncejeiaaGasBaseM
import Derived.Test.YtemafanncejeiaaRows
set_option linter.unusedVariables false
set_option linter.unusedSimpArgs false
/-
  A warmer cell lifts no less: plain Lean, no program in sight.
-/
namespace Bal.Gas
open Bal.Trim
/-- a cell with so much more superheat -/
def warmC (c : Cell) (b : Int) : Cell := { c with wlo := min (c.wlo + b) 300, whi := min (c.whi + b) 300 }
def coldC (c : Cell) : Cell := { c with wlo := 0, whi := 0 }
theorem warm_ok {c : Cell} {b : Int} (hc : cellB c = true) (hb : 0 ≤ b) : cellB (warmC c b) = true := by
  have h := cellB_iff.1 hc
  refine cellB_iff.2 ?_
  simp only [warmC]
  omega
theorem cold_ok {c : Cell} (hc : cellB c = true) : cellB (coldC c) = true := by
  have h := cellB_iff.1 hc
  refine cellB_iff.2 ?_
  simp only [coldC]
  omega
theorem warm_lift {c : Cell} {a : Air} {b : Int} (hc : cellB c = true) (ha : airB a = true) (hb : 0 ≤ b) : liftLo c a ≤ liftLo (warmC c b) a ∧ liftHi c a ≤ liftHi (warmC c b) a := by
  obtain ⟨n0, _⟩ := prod_bd hc ha
  obtain ⟨_, b1, b2, b3⟩ := airB_iff.1 ha
  obtain ⟨_, _, _, _, _, u3, u4, u5⟩ := cellB_iff.1 hc
  have m1 : pull c c.wlo ≤ pull (warmC c b) (warmC c b).wlo := by
    show 29 * amount c * c.wlo ≤ 29 * amount c * min (c.wlo + b) 300
    exact Int.mul_le_mul_of_nonneg_left (by omega) (by omega)
  have m2 : pull c c.whi ≤ pull (warmC c b) (warmC c b).whi := by
    show 29 * amount c * c.whi ≤ 29 * amount c * min (c.whi + b) 300
    exact Int.mul_le_mul_of_nonneg_left (by omega) (by omega)
  have d1 := Int.ediv_le_ediv (show 0 < a.tlo by omega) m1
  have d2 := Int.ediv_le_ediv (show 0 < a.thi by omega) m1
  have d3 := Int.ediv_le_ediv (show 0 < a.tlo by omega) (Int.neg_le_neg m2)
  have d4 := Int.ediv_le_ediv (show 0 < a.thi by omega) (Int.neg_le_neg m2)
  have eh : (warmC c b).helium = c.helium := rfl
  unfold liftLo liftHi
  rw [eh]
  omega
theorem warm_vol {c : Cell} {a : Air} {b : Int} (hc : cellB c = true) (ha : airB a = true) (hb : 0 ≤ b) : volLo c a ≤ volLo (warmC c b) a ∧ volHi c a ≤ volHi (warmC c b) a := by
  obtain ⟨n0, _⟩ := prod_bd hc ha
  obtain ⟨⟨p1, p2, p3⟩, b1, b2, b3⟩ := airB_iff.1 ha
  obtain ⟨_, _, _, _, _, u3, u4, u5⟩ := cellB_iff.1 hc
  have m1 : amount c * heatLo c a ≤ amount (warmC c b) * heatLo (warmC c b) a := by
    show amount c * (a.tlo + c.wlo) ≤ amount c * (a.tlo + min (c.wlo + b) 300)
    exact Int.mul_le_mul_of_nonneg_left (by omega) (by omega)
  have m2 : amount c * heatHi c a ≤ amount (warmC c b) * heatHi (warmC c b) a := by
    show amount c * (a.thi + c.whi) ≤ amount c * (a.thi + min (c.whi + b) 300)
    exact Int.mul_le_mul_of_nonneg_left (by omega) (by omega)
  have d1 := Int.ediv_le_ediv (show 0 < a.phi by omega) m1
  have d2 := Int.ediv_le_ediv (show 0 < a.plo by omega) (Int.neg_le_neg m2)
  unfold volLo volHi
  omega
theorem cold_lift (c : Cell) (a : Air) : liftLo (coldC c) a = 25 * c.helium ∧ liftHi (coldC c) a = 25 * c.helium := by
  have e1 : pull (coldC c) (coldC c).wlo = 0 := by show 29 * amount c * 0 = 0; simp
  have e2 : pull (coldC c) (coldC c).whi = 0 := by show 29 * amount c * 0 = 0; simp
  have eh : (coldC c).helium = c.helium := rfl
  unfold liftLo liftHi
  rw [e1, e2, eh]
  simp
def pressA (a : Air) (p q : Int) : Air := { a with plo := p, phi := q }
theorem press_lift (c : Cell) (a : Air) (p q : Int) : liftLo c (pressA a p q) = liftLo c a ∧ liftHi c (pressA a p q) = liftHi c a := ⟨rfl, rfl⟩
theorem press_asked {c : Cell} {a : Air} (hc : cellB c = true) (p q : Int) : asked c (pressA a p q) = 0 ∨ asked c (pressA a p q) = 30 := by
  unfold asked checkAir
  rw [hc]
  simp only [if_true]
  split <;> simp
end Bal.Gas

/-
  GasWarmer: a warmer cell lifts no less: the walk.
-/
namespace Go.Proofs.Ytemafanncejeiaa
open Go.RowKit Bal Bal.Trim Bal.Gas
set_option linter.unusedVariables false
set_option linter.unusedSimpArgs false
set_option maxHeartbeats 4000000
set_option maxRecDepth 100000
attribute [local go_sem] ite_max ite_min

theorem law_GasWarmer_bad (c : Cell) (b : Int) (a : Air) (p q : Int) (w : World) (hA : asked c a ≠ 0) : Calls Try.prog 9 #[.agg #[.int .i64 c.room, .int .i64 c.helium, .int .i64 c.air, .int .i64 c.wlo, .int .i64 c.whi, .int .i64 c.leak, .int .i64 c.owed], .int .u8 b, .agg #[.int .i64 a.plo, .int .i64 a.phi, .int .i64 a.tlo, .int .i64 a.thi], .agg #[.int .i64 p, .int .i64 q]] w fun e w' => e = .returned (.bool true) ∧ Kept w w' := by
  have h0 : (asked c a != 0) = true := by simp [hA]
  clear hA
  go_enter Try.func9, Try.ntmps9
  go_wp2_with (first | (go_at_call 68; (with_reducible refine (o_alive _).mono ?_); rintro e wa ⟨rfl, hba⟩; refine Blk.thru (b := w.heap.size) (arr := ?_) (t := ?_) ?_ hba ?_; rotate_left 2; (focus (exact blk)); intro aq0; have aq0c0 := aq0.cell 0; have aq0f0 := aq0.free 0; have aq0c1 := aq0.cell 1; have aq0f1 := aq0.free 1; have aq0c2 := aq0.cell 2; have aq0f2 := aq0.free 2; have aq0c3 := aq0.cell 3; have aq0f3 := aq0.free 3; have aq0c4 := aq0.cell 4; have aq0f4 := aq0.free 4; have aq0c5 := aq0.cell 5; have aq0f5 := aq0.free 5; have aq0c6 := aq0.cell 6; have aq0f6 := aq0.free 6; have aq0l := aq0.lt; simp at aq0c0 aq0c1 aq0c2 aq0c3 aq0c4 aq0c5 aq0c6; refine Blk.thru (b := w.heap.size + 1) (arr := ?_) (t := ?_) ?_ hba ?_; rotate_left 2; (focus (exact blk)); intro aq1; have aq1c0 := aq1.cell 0; have aq1f0 := aq1.free 0; have aq1c1 := aq1.cell 1; have aq1f1 := aq1.free 1; have aq1c2 := aq1.cell 2; have aq1f2 := aq1.free 2; have aq1c3 := aq1.cell 3; have aq1f3 := aq1.free 3; have aq1l := aq1.lt; simp at aq1c0 aq1c1 aq1c2 aq1c3; refine Blk.thru (b := w.heap.size + 1 + 1) (arr := ?_) (t := ?_) ?_ hba ?_; rotate_left 2; (focus (exact blk)); intro aq2; have aq2c0 := aq2.cell 0; have aq2f0 := aq2.free 0; have aq2c1 := aq2.cell 1; have aq2f1 := aq2.free 1; have aq2l := aq2.lt; simp at aq2c0 aq2c1) | (go_at_call 30; (with_reducible refine (f_LiftC c a _).mono ?_); rintro e w1 ⟨rfl, hb1⟩; refine Blk.thru (b := w.heap.size) (arr := ?_) (t := ?_) ?_ hb1 ?_; rotate_left 2; (focus (exact blk)); intro bq0; have bq0c0 := bq0.cell 0; have bq0f0 := bq0.free 0; have bq0c1 := bq0.cell 1; have bq0f1 := bq0.free 1; have bq0c2 := bq0.cell 2; have bq0f2 := bq0.free 2; have bq0c3 := bq0.cell 3; have bq0f3 := bq0.free 3; have bq0c4 := bq0.cell 4; have bq0f4 := bq0.free 4; have bq0c5 := bq0.cell 5; have bq0f5 := bq0.free 5; have bq0c6 := bq0.cell 6; have bq0f6 := bq0.free 6; have bq0l := bq0.lt; simp at bq0c0 bq0c1 bq0c2 bq0c3 bq0c4 bq0c5 bq0c6; refine Blk.thru (b := w.heap.size + 1) (arr := ?_) (t := ?_) ?_ hb1 ?_; rotate_left 2; (focus (exact blk)); intro bq1; have bq1c0 := bq1.cell 0; have bq1f0 := bq1.free 0; have bq1c1 := bq1.cell 1; have bq1f1 := bq1.free 1; have bq1c2 := bq1.cell 2; have bq1f2 := bq1.free 2; have bq1c3 := bq1.cell 3; have bq1f3 := bq1.free 3; have bq1l := bq1.lt; simp at bq1c0 bq1c1 bq1c2 bq1c3; refine Blk.thru (b := w.heap.size + 1 + 1) (arr := ?_) (t := ?_) ?_ hb1 ?_; rotate_left 2; (focus (exact blk)); intro bq2; have bq2c0 := bq2.cell 0; have bq2f0 := bq2.free 0; have bq2c1 := bq2.cell 1; have bq2f1 := bq2.free 1; have bq2l := bq2.lt; simp at bq2c0 bq2c1))
  go_ret
  exact ⟨rfl, by (exact kpt)⟩

theorem law_GasWarmer_ok (c : Cell) (b : Int) (a : Air) (p q : Int) (w : World) (hb : 0 ≤ b ∧ b ≤ 255) (hc : cellB c = true) (ha : airB a = true) : Calls Try.prog 9 #[.agg #[.int .i64 c.room, .int .i64 c.helium, .int .i64 c.air, .int .i64 c.wlo, .int .i64 c.whi, .int .i64 c.leak, .int .i64 c.owed], .int .u8 b, .agg #[.int .i64 a.plo, .int .i64 a.phi, .int .i64 a.tlo, .int .i64 a.thi], .agg #[.int .i64 p, .int .i64 q]] w fun e w' => e = .returned (.bool true) ∧ Kept w w' := by
  obtain ⟨⟨r1, r2⟩, ⟨e1, e2⟩, ⟨e3, e4⟩, _, _, u3, u4, u5⟩ := cellB_iff.1 hc
  have hw := warm_ok hc hb.1
  have hd := cold_ok hc
  obtain ⟨l1, l2⟩ := warm_lift hc ha hb.1
  obtain ⟨l3, l4⟩ := warm_vol hc ha hb.1
  have KA := fun W => f_Lift_ok c a W hc ha
  have KB := fun W => f_Lift_ok (warmC c b) a W hw ha
  have KC := fun W => f_Lift_ok (coldC c) a W hd ha
  have KD := fun W => f_Volume_ok c a W hc ha
  have KE := fun W => f_Volume_ok (warmC c b) a W hw ha
  have KF := fun W => f_LiftC c (pressA a p q) W
  rw [(cold_lift c a).1, (cold_lift c a).2] at KC
  rw [(press_lift c a p q).1, (press_lift c a p q).2] at KF
  simp only [warmC, coldC] at KB KC KE
  simp only [pressA] at KF
  have hE := press_asked (a := a) hc p q
  simp only [pressA] at hE
  obtain ⟨E, hEE⟩ : ∃ n, n = asked c ⟨p, q, a.tlo, a.thi⟩ := ⟨_, rfl⟩
  rw [← hEE] at hE KF
  obtain ⟨LL, hLL⟩ : ∃ n, n = liftLo c a := ⟨_, rfl⟩
  obtain ⟨LH, hLH⟩ : ∃ n, n = liftHi c a := ⟨_, rfl⟩
  obtain ⟨ML, hML⟩ : ∃ n, n = liftLo (warmC c b) a := ⟨_, rfl⟩
  obtain ⟨MH, hMH⟩ : ∃ n, n = liftHi (warmC c b) a := ⟨_, rfl⟩
  obtain ⟨VL, hVL⟩ : ∃ n, n = volLo c a := ⟨_, rfl⟩
  obtain ⟨VH, hVH⟩ : ∃ n, n = volHi c a := ⟨_, rfl⟩
  obtain ⟨WL, hWL⟩ : ∃ n, n = volLo (warmC c b) a := ⟨_, rfl⟩
  obtain ⟨WH, hWH⟩ : ∃ n, n = volHi (warmC c b) a := ⟨_, rfl⟩
  rw [← hLL, ← hML] at l1
  rw [← hLH, ← hMH] at l2
  rw [← hVL, ← hWL] at l3
  rw [← hVH, ← hWH] at l4
  rw [← hLL, ← hLH] at KA KF
  simp only [warmC] at hML hMH hWL hWH
  rw [← hML, ← hMH] at KB
  rw [← hVL, ← hVH] at KD
  rw [← hWL, ← hWH] at KE
  have K1 := Lib.hid KA
  have K2 := Lib.hid KB
  have K3 := Lib.hid KC
  have K4 := Lib.hid KD
  have K5 := Lib.hid KE
  have K6 := Lib.hid KF
  have x1 : decide (ML < LL) = false := by simp; omega
  have x2 : decide (MH < LH) = false := by simp; omega
  have x3 : decide (WL < VL) = false := by simp; omega
  have x4 : decide (WH < VH) = false := by simp; omega
  have g1 := i64_inH (n := b) (by omega)
  have g2 := i64_inH (n := c.wlo + b) (by omega)
  have g3 := i64_inH (n := c.whi + b) (by omega)
  have g4 := i64_inH (n := 25 * c.helium) (by omega)
  clear KA KB KC KD KE KF hLL hLH hML hMH hVL hVH hWL hWH hEE l1 l2 l3 l4 hw hd
  go_enter Try.func9, Try.ntmps9
  go_upto_region 16 with (first | (go_at_call 68; (with_reducible refine (o_alive _).mono ?_); rintro e wa ⟨rfl, hba⟩; refine Blk.thru (b := w.heap.size) (arr := ?_) (t := ?_) ?_ hba ?_; rotate_left 2; (focus (exact blk)); intro aq0; have aq0c0 := aq0.cell 0; have aq0f0 := aq0.free 0; have aq0c1 := aq0.cell 1; have aq0f1 := aq0.free 1; have aq0c2 := aq0.cell 2; have aq0f2 := aq0.free 2; have aq0c3 := aq0.cell 3; have aq0f3 := aq0.free 3; have aq0c4 := aq0.cell 4; have aq0f4 := aq0.free 4; have aq0c5 := aq0.cell 5; have aq0f5 := aq0.free 5; have aq0c6 := aq0.cell 6; have aq0f6 := aq0.free 6; have aq0l := aq0.lt; simp at aq0c0 aq0c1 aq0c2 aq0c3 aq0c4 aq0c5 aq0c6; refine Blk.thru (b := w.heap.size + 1) (arr := ?_) (t := ?_) ?_ hba ?_; rotate_left 2; (focus (exact blk)); intro aq1; have aq1c0 := aq1.cell 0; have aq1f0 := aq1.free 0; have aq1c1 := aq1.cell 1; have aq1f1 := aq1.free 1; have aq1c2 := aq1.cell 2; have aq1f2 := aq1.free 2; have aq1c3 := aq1.cell 3; have aq1f3 := aq1.free 3; have aq1l := aq1.lt; simp at aq1c0 aq1c1 aq1c2 aq1c3; refine Blk.thru (b := w.heap.size + 1 + 1) (arr := ?_) (t := ?_) ?_ hba ?_; rotate_left 2; (focus (exact blk)); intro aq2; have aq2c0 := aq2.cell 0; have aq2f0 := aq2.free 0; have aq2c1 := aq2.cell 1; have aq2f1 := aq2.free 1; have aq2l := aq2.lt; simp at aq2c0 aq2c1) | (go_at_call 30; (with_reducible refine (K1.out _).mono ?_); rintro e w1 ⟨rfl, hb1⟩; refine Blk.thru (b := w.heap.size) (arr := ?_) (t := ?_) ?_ hb1 ?_; rotate_left 2; (focus (exact blk)); intro bq0; have bq0c0 := bq0.cell 0; have bq0f0 := bq0.free 0; have bq0c1 := bq0.cell 1; have bq0f1 := bq0.free 1; have bq0c2 := bq0.cell 2; have bq0f2 := bq0.free 2; have bq0c3 := bq0.cell 3; have bq0f3 := bq0.free 3; have bq0c4 := bq0.cell 4; have bq0f4 := bq0.free 4; have bq0c5 := bq0.cell 5; have bq0f5 := bq0.free 5; have bq0c6 := bq0.cell 6; have bq0f6 := bq0.free 6; have bq0l := bq0.lt; simp at bq0c0 bq0c1 bq0c2 bq0c3 bq0c4 bq0c5 bq0c6; refine Blk.thru (b := w.heap.size + 1) (arr := ?_) (t := ?_) ?_ hb1 ?_; rotate_left 2; (focus (exact blk)); intro bq1; have bq1c0 := bq1.cell 0; have bq1f0 := bq1.free 0; have bq1c1 := bq1.cell 1; have bq1f1 := bq1.free 1; have bq1c2 := bq1.cell 2; have bq1f2 := bq1.free 2; have bq1c3 := bq1.cell 3; have bq1f3 := bq1.free 3; have bq1l := bq1.lt; simp at bq1c0 bq1c1 bq1c2 bq1c3; refine Blk.thru (b := w.heap.size + 1 + 1) (arr := ?_) (t := ?_) ?_ hb1 ?_; rotate_left 2; (focus (exact blk)); intro bq2; have bq2c0 := bq2.cell 0; have bq2f0 := bq2.free 0; have bq2c1 := bq2.cell 1; have bq2f1 := bq2.free 1; have bq2l := bq2.lt; simp at bq2c0 bq2c1) | (go_at_call 30; (with_reducible refine (K2.out _).mono ?_); rintro e w2 ⟨rfl, hb2⟩; refine Blk.thru (b := w.heap.size) (arr := ?_) (t := ?_) ?_ hb2 ?_; rotate_left 2; (focus (exact blk)); intro dq0; have dq0c0 := dq0.cell 0; have dq0f0 := dq0.free 0; have dq0c1 := dq0.cell 1; have dq0f1 := dq0.free 1; have dq0c2 := dq0.cell 2; have dq0f2 := dq0.free 2; have dq0c3 := dq0.cell 3; have dq0f3 := dq0.free 3; have dq0c4 := dq0.cell 4; have dq0f4 := dq0.free 4; have dq0c5 := dq0.cell 5; have dq0f5 := dq0.free 5; have dq0c6 := dq0.cell 6; have dq0f6 := dq0.free 6; have dq0l := dq0.lt; simp at dq0c0 dq0c1 dq0c2 dq0c3 dq0c4 dq0c5 dq0c6; refine Blk.thru (b := w.heap.size + 1) (arr := ?_) (t := ?_) ?_ hb2 ?_; rotate_left 2; (focus (exact blk)); intro dq1; have dq1c0 := dq1.cell 0; have dq1f0 := dq1.free 0; have dq1c1 := dq1.cell 1; have dq1f1 := dq1.free 1; have dq1c2 := dq1.cell 2; have dq1f2 := dq1.free 2; have dq1c3 := dq1.cell 3; have dq1f3 := dq1.free 3; have dq1l := dq1.lt; simp at dq1c0 dq1c1 dq1c2 dq1c3; refine Blk.thru (b := w.heap.size + 1 + 1) (arr := ?_) (t := ?_) ?_ hb2 ?_; rotate_left 2; (focus (exact blk)); intro dq2; have dq2c0 := dq2.cell 0; have dq2f0 := dq2.free 0; have dq2c1 := dq2.cell 1; have dq2f1 := dq2.free 1; have dq2l := dq2.lt; simp at dq2c0 dq2c1; refine Blk.thru (b := w1.heap.size + 1) (arr := ?_) (t := ?_) ?_ hb2 ?_; rotate_left 2; (focus (exact blk)); intro dq5; have dq5c0 := dq5.cell 0; have dq5f0 := dq5.free 0; have dq5c1 := dq5.cell 1; have dq5f1 := dq5.free 1; have dq5c2 := dq5.cell 2; have dq5f2 := dq5.free 2; have dq5c3 := dq5.cell 3; have dq5f3 := dq5.free 3; have dq5c4 := dq5.cell 4; have dq5f4 := dq5.free 4; have dq5c5 := dq5.cell 5; have dq5f5 := dq5.free 5; have dq5c6 := dq5.cell 6; have dq5f6 := dq5.free 6; have dq5l := dq5.lt; simp at dq5c0 dq5c1 dq5c2 dq5c3 dq5c4 dq5c5 dq5c6; refine Blk.thru (b := w1.heap.size + 1 + 1) (arr := ?_) (t := ?_) ?_ hb2 ?_; rotate_left 2; (focus (exact blk)); intro dq6; have dq6c0 := dq6.cell 0; have dq6f0 := dq6.free 0; have dq6c1 := dq6.cell 1; have dq6f1 := dq6.free 1; have dq6c2 := dq6.cell 2; have dq6f2 := dq6.free 2; have dq6c3 := dq6.cell 3; have dq6f3 := dq6.free 3; have dq6c4 := dq6.cell 4; have dq6f4 := dq6.free 4; have dq6c5 := dq6.cell 5; have dq6f5 := dq6.free 5; have dq6c6 := dq6.cell 6; have dq6f6 := dq6.free 6; have dq6l := dq6.lt; simp at dq6c0 dq6c1 dq6c2 dq6c3 dq6c4 dq6c5 dq6c6) | (go_at_call 30; (with_reducible refine (K3.out _).mono ?_); rintro e w3 ⟨rfl, hb3⟩; refine Blk.thru (b := w.heap.size) (arr := ?_) (t := ?_) ?_ hb3 ?_; rotate_left 2; (focus (exact blk)); intro eq0; have eq0c0 := eq0.cell 0; have eq0f0 := eq0.free 0; have eq0c1 := eq0.cell 1; have eq0f1 := eq0.free 1; have eq0c2 := eq0.cell 2; have eq0f2 := eq0.free 2; have eq0c3 := eq0.cell 3; have eq0f3 := eq0.free 3; have eq0c4 := eq0.cell 4; have eq0f4 := eq0.free 4; have eq0c5 := eq0.cell 5; have eq0f5 := eq0.free 5; have eq0c6 := eq0.cell 6; have eq0f6 := eq0.free 6; have eq0l := eq0.lt; simp at eq0c0 eq0c1 eq0c2 eq0c3 eq0c4 eq0c5 eq0c6; refine Blk.thru (b := w.heap.size + 1) (arr := ?_) (t := ?_) ?_ hb3 ?_; rotate_left 2; (focus (exact blk)); intro eq1; have eq1c0 := eq1.cell 0; have eq1f0 := eq1.free 0; have eq1c1 := eq1.cell 1; have eq1f1 := eq1.free 1; have eq1c2 := eq1.cell 2; have eq1f2 := eq1.free 2; have eq1c3 := eq1.cell 3; have eq1f3 := eq1.free 3; have eq1l := eq1.lt; simp at eq1c0 eq1c1 eq1c2 eq1c3; refine Blk.thru (b := w.heap.size + 1 + 1) (arr := ?_) (t := ?_) ?_ hb3 ?_; rotate_left 2; (focus (exact blk)); intro eq2; have eq2c0 := eq2.cell 0; have eq2f0 := eq2.free 0; have eq2c1 := eq2.cell 1; have eq2f1 := eq2.free 1; have eq2l := eq2.lt; simp at eq2c0 eq2c1; refine Blk.thru (b := w1.heap.size + 1) (arr := ?_) (t := ?_) ?_ hb3 ?_; rotate_left 2; (focus (exact blk)); intro eq5; have eq5c0 := eq5.cell 0; have eq5f0 := eq5.free 0; have eq5c1 := eq5.cell 1; have eq5f1 := eq5.free 1; have eq5c2 := eq5.cell 2; have eq5f2 := eq5.free 2; have eq5c3 := eq5.cell 3; have eq5f3 := eq5.free 3; have eq5c4 := eq5.cell 4; have eq5f4 := eq5.free 4; have eq5c5 := eq5.cell 5; have eq5f5 := eq5.free 5; have eq5c6 := eq5.cell 6; have eq5f6 := eq5.free 6; have eq5l := eq5.lt; simp at eq5c0 eq5c1 eq5c2 eq5c3 eq5c4 eq5c5 eq5c6; refine Blk.thru (b := w1.heap.size + 1 + 1) (arr := ?_) (t := ?_) ?_ hb3 ?_; rotate_left 2; (focus (exact blk)); intro eq6; have eq6c0 := eq6.cell 0; have eq6f0 := eq6.free 0; have eq6c1 := eq6.cell 1; have eq6f1 := eq6.free 1; have eq6c2 := eq6.cell 2; have eq6f2 := eq6.free 2; have eq6c3 := eq6.cell 3; have eq6f3 := eq6.free 3; have eq6c4 := eq6.cell 4; have eq6f4 := eq6.free 4; have eq6c5 := eq6.cell 5; have eq6f5 := eq6.free 5; have eq6c6 := eq6.cell 6; have eq6f6 := eq6.free 6; have eq6l := eq6.lt; simp at eq6c0 eq6c1 eq6c2 eq6c3 eq6c4 eq6c5 eq6c6) | (go_at_call 22; (with_reducible refine (K4.out _).mono ?_); rintro e w4 ⟨rfl, hb4⟩; refine Blk.thru (b := w.heap.size) (arr := ?_) (t := ?_) ?_ hb4 ?_; rotate_left 2; (focus (exact blk)); intro gq0; have gq0c0 := gq0.cell 0; have gq0f0 := gq0.free 0; have gq0c1 := gq0.cell 1; have gq0f1 := gq0.free 1; have gq0c2 := gq0.cell 2; have gq0f2 := gq0.free 2; have gq0c3 := gq0.cell 3; have gq0f3 := gq0.free 3; have gq0c4 := gq0.cell 4; have gq0f4 := gq0.free 4; have gq0c5 := gq0.cell 5; have gq0f5 := gq0.free 5; have gq0c6 := gq0.cell 6; have gq0f6 := gq0.free 6; have gq0l := gq0.lt; simp at gq0c0 gq0c1 gq0c2 gq0c3 gq0c4 gq0c5 gq0c6; refine Blk.thru (b := w.heap.size + 1) (arr := ?_) (t := ?_) ?_ hb4 ?_; rotate_left 2; (focus (exact blk)); intro gq1; have gq1c0 := gq1.cell 0; have gq1f0 := gq1.free 0; have gq1c1 := gq1.cell 1; have gq1f1 := gq1.free 1; have gq1c2 := gq1.cell 2; have gq1f2 := gq1.free 2; have gq1c3 := gq1.cell 3; have gq1f3 := gq1.free 3; have gq1l := gq1.lt; simp at gq1c0 gq1c1 gq1c2 gq1c3; refine Blk.thru (b := w.heap.size + 1 + 1) (arr := ?_) (t := ?_) ?_ hb4 ?_; rotate_left 2; (focus (exact blk)); intro gq2; have gq2c0 := gq2.cell 0; have gq2f0 := gq2.free 0; have gq2c1 := gq2.cell 1; have gq2f1 := gq2.free 1; have gq2l := gq2.lt; simp at gq2c0 gq2c1; refine Blk.thru (b := w1.heap.size + 1) (arr := ?_) (t := ?_) ?_ hb4 ?_; rotate_left 2; (focus (exact blk)); intro gq5; have gq5c0 := gq5.cell 0; have gq5f0 := gq5.free 0; have gq5c1 := gq5.cell 1; have gq5f1 := gq5.free 1; have gq5c2 := gq5.cell 2; have gq5f2 := gq5.free 2; have gq5c3 := gq5.cell 3; have gq5f3 := gq5.free 3; have gq5c4 := gq5.cell 4; have gq5f4 := gq5.free 4; have gq5c5 := gq5.cell 5; have gq5f5 := gq5.free 5; have gq5c6 := gq5.cell 6; have gq5f6 := gq5.free 6; have gq5l := gq5.lt; simp at gq5c0 gq5c1 gq5c2 gq5c3 gq5c4 gq5c5 gq5c6; refine Blk.thru (b := w1.heap.size + 1 + 1) (arr := ?_) (t := ?_) ?_ hb4 ?_; rotate_left 2; (focus (exact blk)); intro gq6; have gq6c0 := gq6.cell 0; have gq6f0 := gq6.free 0; have gq6c1 := gq6.cell 1; have gq6f1 := gq6.free 1; have gq6c2 := gq6.cell 2; have gq6f2 := gq6.free 2; have gq6c3 := gq6.cell 3; have gq6f3 := gq6.free 3; have gq6c4 := gq6.cell 4; have gq6f4 := gq6.free 4; have gq6c5 := gq6.cell 5; have gq6f5 := gq6.free 5; have gq6c6 := gq6.cell 6; have gq6f6 := gq6.free 6; have gq6l := gq6.lt; simp at gq6c0 gq6c1 gq6c2 gq6c3 gq6c4 gq6c5 gq6c6) | (go_at_call 22; (with_reducible refine (K5.out _).mono ?_); rintro e w5 ⟨rfl, hb5⟩; refine Blk.thru (b := w.heap.size) (arr := ?_) (t := ?_) ?_ hb5 ?_; rotate_left 2; (focus (exact blk)); intro hq0; have hq0c0 := hq0.cell 0; have hq0f0 := hq0.free 0; have hq0c1 := hq0.cell 1; have hq0f1 := hq0.free 1; have hq0c2 := hq0.cell 2; have hq0f2 := hq0.free 2; have hq0c3 := hq0.cell 3; have hq0f3 := hq0.free 3; have hq0c4 := hq0.cell 4; have hq0f4 := hq0.free 4; have hq0c5 := hq0.cell 5; have hq0f5 := hq0.free 5; have hq0c6 := hq0.cell 6; have hq0f6 := hq0.free 6; have hq0l := hq0.lt; simp at hq0c0 hq0c1 hq0c2 hq0c3 hq0c4 hq0c5 hq0c6; refine Blk.thru (b := w.heap.size + 1) (arr := ?_) (t := ?_) ?_ hb5 ?_; rotate_left 2; (focus (exact blk)); intro hq1; have hq1c0 := hq1.cell 0; have hq1f0 := hq1.free 0; have hq1c1 := hq1.cell 1; have hq1f1 := hq1.free 1; have hq1c2 := hq1.cell 2; have hq1f2 := hq1.free 2; have hq1c3 := hq1.cell 3; have hq1f3 := hq1.free 3; have hq1l := hq1.lt; simp at hq1c0 hq1c1 hq1c2 hq1c3; refine Blk.thru (b := w.heap.size + 1 + 1) (arr := ?_) (t := ?_) ?_ hb5 ?_; rotate_left 2; (focus (exact blk)); intro hq2; have hq2c0 := hq2.cell 0; have hq2f0 := hq2.free 0; have hq2c1 := hq2.cell 1; have hq2f1 := hq2.free 1; have hq2l := hq2.lt; simp at hq2c0 hq2c1; refine Blk.thru (b := w1.heap.size + 1) (arr := ?_) (t := ?_) ?_ hb5 ?_; rotate_left 2; (focus (exact blk)); intro hq5; have hq5c0 := hq5.cell 0; have hq5f0 := hq5.free 0; have hq5c1 := hq5.cell 1; have hq5f1 := hq5.free 1; have hq5c2 := hq5.cell 2; have hq5f2 := hq5.free 2; have hq5c3 := hq5.cell 3; have hq5f3 := hq5.free 3; have hq5c4 := hq5.cell 4; have hq5f4 := hq5.free 4; have hq5c5 := hq5.cell 5; have hq5f5 := hq5.free 5; have hq5c6 := hq5.cell 6; have hq5f6 := hq5.free 6; have hq5l := hq5.lt; simp at hq5c0 hq5c1 hq5c2 hq5c3 hq5c4 hq5c5 hq5c6; refine Blk.thru (b := w1.heap.size + 1 + 1) (arr := ?_) (t := ?_) ?_ hb5 ?_; rotate_left 2; (focus (exact blk)); intro hq6; have hq6c0 := hq6.cell 0; have hq6f0 := hq6.free 0; have hq6c1 := hq6.cell 1; have hq6f1 := hq6.free 1; have hq6c2 := hq6.cell 2; have hq6f2 := hq6.free 2; have hq6c3 := hq6.cell 3; have hq6f3 := hq6.free 3; have hq6c4 := hq6.cell 4; have hq6f4 := hq6.free 4; have hq6c5 := hq6.cell 5; have hq6f5 := hq6.free 5; have hq6c6 := hq6.cell 6; have hq6f6 := hq6.free 6; have hq6l := hq6.lt; simp at hq6c0 hq6c1 hq6c2 hq6c3 hq6c4 hq6c5 hq6c6))
  refine at_world (S := fun V => Blk V (w.heap.size) #[.int .i64 c.room, .int .i64 c.helium, .int .i64 c.air, .int .i64 c.wlo, .int .i64 c.whi, .int .i64 c.leak, .int .i64 c.owed] 25 ∧ Blk V (w.heap.size + 1) #[.int .i64 a.plo, .int .i64 a.phi, .int .i64 a.tlo, .int .i64 a.thi] 27 ∧ Blk V (w.heap.size + 1 + 1) #[.int .i64 p, .int .i64 q] 23 ∧ Blk V (w1.heap.size) #[.int .i64 LL, .int .i64 LH] 23 ∧ Blk V (w2.heap.size) #[.int .i64 ML, .int .i64 MH] 23 ∧ Blk V (w3.heap.size) #[.int .i64 (25 * c.helium), .int .i64 (25 * c.helium)] 23 ∧ Blk V (w4.heap.size) #[.int .i64 VL, .int .i64 VH] 23 ∧ Blk V (w5.heap.size) #[.int .i64 WL, .int .i64 WH] 23 ∧ Kept w V) ⟨by (exact blkc), by (exact blkc), by (exact blkc), by (exact blkc), by (exact blkc), by (exact blkc), by (exact blkc), by (exact blkc), by (exact kpt)⟩ ?_
  rintro V ⟨q0, q1, q2, r1, r2, r3, r4, r5, hkV⟩
  have q0c0 := fun g : Later V => (q0.later g).cell 0
  have q0f0 := fun g : Later V => (q0.later g).free 0
  have q0c1 := fun g : Later V => (q0.later g).cell 1
  have q0f1 := fun g : Later V => (q0.later g).free 1
  have q0c2 := fun g : Later V => (q0.later g).cell 2
  have q0f2 := fun g : Later V => (q0.later g).free 2
  have q0c3 := fun g : Later V => (q0.later g).cell 3
  have q0f3 := fun g : Later V => (q0.later g).free 3
  have q0c4 := fun g : Later V => (q0.later g).cell 4
  have q0f4 := fun g : Later V => (q0.later g).free 4
  have q0c5 := fun g : Later V => (q0.later g).cell 5
  have q0f5 := fun g : Later V => (q0.later g).free 5
  have q0c6 := fun g : Later V => (q0.later g).cell 6
  have q0f6 := fun g : Later V => (q0.later g).free 6
  have q0l := fun g : Later V => (q0.later g).lt
  simp at q0c0 q0c1 q0c2 q0c3 q0c4 q0c5 q0c6
  have q1c0 := fun g : Later V => (q1.later g).cell 0
  have q1f0 := fun g : Later V => (q1.later g).free 0
  have q1c1 := fun g : Later V => (q1.later g).cell 1
  have q1f1 := fun g : Later V => (q1.later g).free 1
  have q1c2 := fun g : Later V => (q1.later g).cell 2
  have q1f2 := fun g : Later V => (q1.later g).free 2
  have q1c3 := fun g : Later V => (q1.later g).cell 3
  have q1f3 := fun g : Later V => (q1.later g).free 3
  have q1l := fun g : Later V => (q1.later g).lt
  simp at q1c0 q1c1 q1c2 q1c3
  have q2c0 := fun g : Later V => (q2.later g).cell 0
  have q2f0 := fun g : Later V => (q2.later g).free 0
  have q2c1 := fun g : Later V => (q2.later g).cell 1
  have q2f1 := fun g : Later V => (q2.later g).free 1
  have q2l := fun g : Later V => (q2.later g).lt
  simp at q2c0 q2c1
  have r1c0 := fun g : Later V => (r1.later g).cell 0
  have r1f0 := fun g : Later V => (r1.later g).free 0
  have r1c1 := fun g : Later V => (r1.later g).cell 1
  have r1f1 := fun g : Later V => (r1.later g).free 1
  have r1l := fun g : Later V => (r1.later g).lt
  simp at r1c0 r1c1
  have r2c0 := fun g : Later V => (r2.later g).cell 0
  have r2f0 := fun g : Later V => (r2.later g).free 0
  have r2c1 := fun g : Later V => (r2.later g).cell 1
  have r2f1 := fun g : Later V => (r2.later g).free 1
  have r2l := fun g : Later V => (r2.later g).lt
  simp at r2c0 r2c1
  have r3c0 := fun g : Later V => (r3.later g).cell 0
  have r3f0 := fun g : Later V => (r3.later g).free 0
  have r3c1 := fun g : Later V => (r3.later g).cell 1
  have r3f1 := fun g : Later V => (r3.later g).free 1
  have r3l := fun g : Later V => (r3.later g).lt
  simp at r3c0 r3c1
  have r4c0 := fun g : Later V => (r4.later g).cell 0
  have r4f0 := fun g : Later V => (r4.later g).free 0
  have r4c1 := fun g : Later V => (r4.later g).cell 1
  have r4f1 := fun g : Later V => (r4.later g).free 1
  have r4l := fun g : Later V => (r4.later g).lt
  simp at r4c0 r4c1
  have r5c0 := fun g : Later V => (r5.later g).cell 0
  have r5f0 := fun g : Later V => (r5.later g).free 0
  have r5c1 := fun g : Later V => (r5.later g).cell 1
  have r5f1 := fun g : Later V => (r5.later g).free 1
  have r5l := fun g : Later V => (r5.later g).lt
  simp at r5c0 r5c1
  refine Later.region (by kernel_rfl) (by kernel_rfl) ?_
  repeat (first | go_big_quiet_skip | (go_big_quiet_want; go_big_quiet_op; first | go_big_quiet_on | (apply Exists.intro; refine ⟨fun g_ => ?_, ?_⟩; (focus (first | (go_at_call 69; with_reducible exact Later.call (o_one _ _)))); go_big_quiet_on)))
  refine wpQuiet_nil ?_
  intro gg
  clear q0c0 q0f0 q0c1 q0f1 q0c2 q0f2 q0c3 q0f3 q0c4 q0f4 q0c5 q0f5 q0c6 q0f6 q0l q1c0 q1f0 q1c1 q1f1 q1c2 q1f2 q1c3 q1f3 q1l q2c0 q2f0 q2c1 q2f1 q2l r1c0 r1f0 r1c1 r1f1 r1l r2c0 r2f0 r2c1 r2f1 r2l r3c0 r3f0 r3c1 r3f1 r3l r4c0 r4f0 r4c1 r4f1 r4l r5c0 r5f0 r5c1 r5f1 r5l
  have nq0 := q0.later gg
  have nq1 := q1.later gg
  have nq2 := q2.later gg
  have nr1 := r1.later gg
  have hkg := Kept.drop hkV gg.ok
  clear hkV q0 q1 q2 r1 r2 r3 r4 r5
  have nq0c0 := nq0.cell 0
  have nq0f0 := nq0.free 0
  have nq0c1 := nq0.cell 1
  have nq0f1 := nq0.free 1
  have nq0c2 := nq0.cell 2
  have nq0f2 := nq0.free 2
  have nq0c3 := nq0.cell 3
  have nq0f3 := nq0.free 3
  have nq0c4 := nq0.cell 4
  have nq0f4 := nq0.free 4
  have nq0c5 := nq0.cell 5
  have nq0f5 := nq0.free 5
  have nq0c6 := nq0.cell 6
  have nq0f6 := nq0.free 6
  have nq0l := nq0.lt
  simp at nq0c0 nq0c1 nq0c2 nq0c3 nq0c4 nq0c5 nq0c6
  have nq1c0 := nq1.cell 0
  have nq1f0 := nq1.free 0
  have nq1c1 := nq1.cell 1
  have nq1f1 := nq1.free 1
  have nq1c2 := nq1.cell 2
  have nq1f2 := nq1.free 2
  have nq1c3 := nq1.cell 3
  have nq1f3 := nq1.free 3
  have nq1l := nq1.lt
  simp at nq1c0 nq1c1 nq1c2 nq1c3
  have nq2c0 := nq2.cell 0
  have nq2f0 := nq2.free 0
  have nq2c1 := nq2.cell 1
  have nq2f1 := nq2.free 1
  have nq2l := nq2.lt
  simp at nq2c0 nq2c1
  have nr1c0 := nr1.cell 0
  have nr1f0 := nr1.free 0
  have nr1c1 := nr1.cell 1
  have nr1f1 := nr1.free 1
  have nr1l := nr1.lt
  simp at nr1c0 nr1c1
  rcases hE with rfl | rfl
  all_goals
    go_wp2_with (go_at_call 30; (with_reducible refine (K6.out _).mono ?_); rintro e w6 ⟨rfl, hb6⟩; refine Blk.thru (b := w1.heap.size) (arr := ?_) (t := ?_) ?_ hb6 ?_; rotate_left 2; (focus (exact blk)); intro kr1; have kr1c0 := kr1.cell 0; have kr1f0 := kr1.free 0; have kr1c1 := kr1.cell 1; have kr1f1 := kr1.free 1; have kr1l := kr1.lt; simp at kr1c0 kr1c1)
    go_ret
    exact ⟨rfl, by (exact kpt)⟩
theorem law_GasWarmer (c : Cell) (b : Int) (a : Air) (p q : Int) (w : World) (hb : 0 ≤ b ∧ b ≤ 255) : Calls Try.prog 9 #[.agg #[.int .i64 c.room, .int .i64 c.helium, .int .i64 c.air, .int .i64 c.wlo, .int .i64 c.whi, .int .i64 c.leak, .int .i64 c.owed], .int .u8 b, .agg #[.int .i64 a.plo, .int .i64 a.phi, .int .i64 a.tlo, .int .i64 a.thi], .agg #[.int .i64 p, .int .i64 q]] w fun e w' => e = .returned (.bool true) ∧ Kept w w' := by
  cases hc : cellB c
  · exact law_GasWarmer_bad c b a p q w (by simp [asked, hc])
  · cases ha : airB a
    · exact law_GasWarmer_bad c b a p q w (by simp [asked, hc, checkAir, ha])
    · exact law_GasWarmer_ok c b a p q w hb hc ha

end Go.Proofs.Ytemafanncejeiaa

/-
  GasWarmer, the statement: for every input the call returns true and leaves the input alone.
-/
namespace Go.Proofs.Ytemafanncejeiaa.gasWarmer
open Go.ChangeShapes Go.WideShapes Go.ChangeAt Go.RowKit Bal Bal.Trim Bal.Gas
open Go.ChangeMaps (open_string shut_string)
set_option linter.unusedVariables false

theorem own : ownKnob Try.prog.godebug = none := by kernel_rfl
theorem laidOut : laidOutB Try.prog = true := by kernel_rfl

set_option maxRecDepth 100000 in
theorem lifted (os : Os) (started : os.Started) (H : Type) (enc : TypeId × Value → H) :
    ReturnsInHanded {} Try.checked os 9 .any (Rows.gasWarmerSpec.pre6 enc Try.prog Try.f9 Rows.gasWarmerRow.domain false) (Rows.gasWarmerSpec.post enc Try.prog Try.f9 false true false false) := by
  refine returnsInHanded_of_change (C := Try.checked) own started (by kernel_rfl) Try.func9
    (ChangeSpec.witness6 (enc := enc) (C := Try.checked) false ⟨#[], #[.agg #[.int .i64 0, .int .i64 0, .int .i64 0, .int .i64 0, .int .i64 0, .int .i64 0, .int .i64 0], .int .u8 0, .agg #[.int .i64 0, .int .i64 0, .int .i64 0, .int .i64 0], .agg #[.int .i64 0, .int .i64 0]], []⟩ 8 (by kernel_rfl) (by kernel_rfl) (by kernel_rfl) (by kernel_rfl)) ?_
  intro W base args ds gs before hval0 hW hcnd _
  have hval : ∀ (j : Nat) t v, Try.f9.params[j]? = some t → args[j]? = some v → Value.okWide Try.prog W .any base t v := hval0
  have hW' := hW
  obtain ⟨p, q, hA0, hV, rfl, hfz, hnd⟩ := hW
  have hA : DataW.TrodAll enc Try.prog W 0 (fun _ => true) true Try.f9.params.toList args.toList ds p := hA0
  rw [Try.params9] at hA hval
  obtain ⟨v0, vs0, d0, ds0, p0, q0, hargs, rfl, rfl, h0, r0⟩ := trodAll_cons hA
  obtain ⟨v1, vs1, d1, ds1, p1, q1, rfl, rfl, rfl, h1, r1⟩ := trodAll_cons r0
  obtain ⟨v2, vs2, d2, ds2, p2, q2, rfl, rfl, rfl, h2, r2⟩ := trodAll_cons r1
  obtain ⟨v3, vs3, d3, ds3, p3, q3, rfl, rfl, rfl, h3, r3⟩ := trodAll_cons r2
  obtain ⟨rfl, rfl, rfl⟩ := trodAll_nil r3
  obtain rfl : args = #[v0, v1, v2, v3] := by cases args; simp_all
  obtain ⟨rfl, rfl⟩ := trodVars_none hV
  have k0 := h0
  have lt0 : ∀ x ∈ p0, x.block < W.heap.size := by obtain ⟨m, hm⟩ := k0; exact DataW.trod_lt m _ _ _ hm
  obtain ⟨a0, rfl, wf0⟩ := open_agg (n := 5) (fun _ h => Cell.of_leaves h) Try.underlying25 (by kernel_rfl) (hval 0 25 v0 rfl rfl) h0
  obtain ⟨a1, rfl, rfl, rfl, w1⟩ := open_int Try.underlying5 (hval 1 5 v1 rfl rfl) h1
  have k2 := h2
  have lt2 : ∀ x ∈ p2, x.block < W.heap.size := by obtain ⟨m, hm⟩ := k2; exact DataW.trod_lt m _ _ _ hm
  obtain ⟨a2, rfl, wf2⟩ := open_agg (n := 5) (fun _ h => Air.of_leaves h) Try.underlying27 (by kernel_rfl) (hval 2 27 v2 rfl rfl) h2
  have k3 := h3
  have lt3 : ∀ x ∈ p3, x.block < W.heap.size := by obtain ⟨m, hm⟩ := k3; exact DataW.trod_lt m _ _ _ hm
  obtain ⟨a3, rfl, wf3⟩ := open_agg (n := 5) (fun _ h => Sp.of_leaves h) Try.underlying23 (by kernel_rfl) (hval 3 23 v3 rfl rfl) h3
  clear hA0 hval0
  refine (law_GasWarmer a0 a1 a2 a3.lo a3.hi W (wf_u8o w1)).mono fun e W' ⟨he, bel⟩ => ?_
  subst he
  exact ⟨_, rfl, _, _, _, [], _, [], hW', trodAll_mk1 (shut_bool Try.underlying4 _), (trodAll_cons_mk (Below.trod laidOut (by kernel_rfl) (of_decide_eq_true (by kernel_rfl)) k0 bel lt0) (trodAll_cons_mk (shut_int Try.underlying5 w1) (trodAll_cons_mk (Below.trod laidOut (by kernel_rfl) (of_decide_eq_true (by kernel_rfl)) k2 bel lt2) (trodAll_cons_mk (Below.trod laidOut (by kernel_rfl) (of_decide_eq_true (by kernel_rfl)) k3 bel lt3) trodAll_mk0)))), rfl, bel.frame _, fun h => by cases h⟩

theorem joined : joinedFacts Try.prog 9 Try.f9 Rows.gasWarmerSpec Rows.gasWarmerRow = true := by
  unfold joinedFacts
  rw [mayEnter_is, liftsFinal_is, make_is]
  kernel_rfl
theorem over : Rows.gasWarmerRow.holds Try.pinned (OpenSpec.ofChange Rows.gasWarmerSpec) :=
  OpenClaim.holds_of_wide 9 Try.f9 rfl rfl rfl rfl rfl rfl rfl ⟨rfl, rfl, rfl, rfl, rfl⟩ rfl rfl rfl rfl rfl (by kernel_rfl) Try.func9 joined
    (of_decide_eq_true (by kernel_rfl)) (by unfold Func.isWrapper; first | (rw [if_pos (by decide +kernel)]; kernel_rfl) | (rw [if_neg (by decide +kernel)]; exact ⟨rfl, rfl⟩))
    (fun os started H enc _ => lifted os started H enc)
end Go.Proofs.Ytemafanncejeiaa.gasWarmer

namespace Go.Proofs.Ytemafanncejeiaa
theorem gasWarmer_holds : Rows.GasWarmerSaid := gasWarmer.over
#print axioms gasWarmer_holds
end Go.Proofs.Ytemafanncejeiaa
