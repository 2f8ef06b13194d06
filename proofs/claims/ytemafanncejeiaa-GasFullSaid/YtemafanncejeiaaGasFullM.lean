/-
  GasFull, the statement: for every input the call returns true and leaves the input alone.
-/
import Derived.Test.YtemafanncejeiaaGasBaseM
import Derived.Test.YtemafanncejeiaaRows
set_option linter.unusedVariables false
set_option linter.unusedSimpArgs false
/-
  A warmer cell lifts no less: plain Lean, no program in sight.
-/
namespace Bal.Gas
open Bal.Trim
/-- a cell with so much more superheat -/
def warmC (c : Cell) (b : Int) : Cell := { c with wlo := min (c.wlo + b) 300, whi := min (c.whi + b) 300 }
def coldC (c : Cell) : Cell := { c with wlo := 0, whi := 0 }
theorem warm_ok {c : Cell} {b : Int} (hc : cellB c = true) (hb : 0 ≤ b) : cellB (warmC c b) = true := by
  have h := cellB_iff.1 hc
  refine cellB_iff.2 ?_
  simp only [warmC]
  omega
theorem cold_ok {c : Cell} (hc : cellB c = true) : cellB (coldC c) = true := by
  have h := cellB_iff.1 hc
  refine cellB_iff.2 ?_
  simp only [coldC]
  omega
theorem warm_lift {c : Cell} {a : Air} {b : Int} (hc : cellB c = true) (ha : airB a = true) (hb : 0 ≤ b) : liftLo c a ≤ liftLo (warmC c b) a ∧ liftHi c a ≤ liftHi (warmC c b) a := by
  obtain ⟨n0, _⟩ := prod_bd hc ha
  obtain ⟨_, b1, b2, b3⟩ := airB_iff.1 ha
  obtain ⟨_, _, _, _, _, u3, u4, u5⟩ := cellB_iff.1 hc
  have m1 : pull c c.wlo ≤ pull (warmC c b) (warmC c b).wlo := by
    show 29 * amount c * c.wlo ≤ 29 * amount c * min (c.wlo + b) 300
    exact Int.mul_le_mul_of_nonneg_left (by omega) (by omega)
  have m2 : pull c c.whi ≤ pull (warmC c b) (warmC c b).whi := by
    show 29 * amount c * c.whi ≤ 29 * amount c * min (c.whi + b) 300
    exact Int.mul_le_mul_of_nonneg_left (by omega) (by omega)
  have d1 := Int.ediv_le_ediv (show 0 < a.tlo by omega) m1
  have d2 := Int.ediv_le_ediv (show 0 < a.thi by omega) m1
  have d3 := Int.ediv_le_ediv (show 0 < a.tlo by omega) (Int.neg_le_neg m2)
  have d4 := Int.ediv_le_ediv (show 0 < a.thi by omega) (Int.neg_le_neg m2)
  have eh : (warmC c b).helium = c.helium := rfl
  unfold liftLo liftHi
  rw [eh]
  omega
theorem warm_vol {c : Cell} {a : Air} {b : Int} (hc : cellB c = true) (ha : airB a = true) (hb : 0 ≤ b) : volLo c a ≤ volLo (warmC c b) a ∧ volHi c a ≤ volHi (warmC c b) a := by
  obtain ⟨n0, _⟩ := prod_bd hc ha
  obtain ⟨⟨p1, p2, p3⟩, b1, b2, b3⟩ := airB_iff.1 ha
  obtain ⟨_, _, _, _, _, u3, u4, u5⟩ := cellB_iff.1 hc
  have m1 : amount c * heatLo c a ≤ amount (warmC c b) * heatLo (warmC c b) a := by
    show amount c * (a.tlo + c.wlo) ≤ amount c * (a.tlo + min (c.wlo + b) 300)
    exact Int.mul_le_mul_of_nonneg_left (by omega) (by omega)
  have m2 : amount c * heatHi c a ≤ amount (warmC c b) * heatHi (warmC c b) a := by
    show amount c * (a.thi + c.whi) ≤ amount c * (a.thi + min (c.whi + b) 300)
    exact Int.mul_le_mul_of_nonneg_left (by omega) (by omega)
  have d1 := Int.ediv_le_ediv (show 0 < a.phi by omega) m1
  have d2 := Int.ediv_le_ediv (show 0 < a.plo by omega) (Int.neg_le_neg m2)
  unfold volLo volHi
  omega
theorem cold_lift (c : Cell) (a : Air) : liftLo (coldC c) a = 25 * c.helium ∧ liftHi (coldC c) a = 25 * c.helium := by
  have e1 : pull (coldC c) (coldC c).wlo = 0 := by show 29 * amount c * 0 = 0; simp
  have e2 : pull (coldC c) (coldC c).whi = 0 := by show 29 * amount c * 0 = 0; simp
  have eh : (coldC c).helium = c.helium := rfl
  unfold liftLo liftHi
  rw [e1, e2, eh]
  simp
def pressA (a : Air) (p q : Int) : Air := { a with plo := p, phi := q }
theorem press_lift (c : Cell) (a : Air) (p q : Int) : liftLo c (pressA a p q) = liftLo c a ∧ liftHi c (pressA a p q) = liftHi c a := ⟨rfl, rfl⟩
theorem press_asked {c : Cell} {a : Air} (hc : cellB c = true) (p q : Int) : asked c (pressA a p q) = 0 ∨ asked c (pressA a p q) = 30 := by
  unfold asked checkAir
  rw [hc]
  simp only [if_true]
  split <;> simp
end Bal.Gas

/-
  The roof: at its pressure a hull can be held, at no lesser one: plain Lean, no program in sight.
-/
namespace Bal.Gas
open Bal.Trim
theorem hung_cases (h : Hl) (a : Air) : hung h a = 0 ∨ hung h a = 30 ∨ hung h a = 33 := by
  unfold hung checkAir
  repeat (first | split | simp)
theorem blowE_cases (h : Hl) (a : Air) : blowE h a = 0 ∨ blowE h a = 6 ∨ blowE h a = 30 ∨ blowE h a = 33 := by
  have := hung_cases h a
  unfold blowE
  split
  · split <;> simp
  · omega
theorem roofCE_cases (h : Hl) (x y : Int) : roofCE h x y = 0 ∨ roofCE h x y = 6 ∨ roofCE h x y = 2 ∨ roofCE h x y = 33 := by
  unfold roofCE roofE
  split
  · split
    · split <;> simp
    · simp
  · simp
theorem hung_zero {h : Hl} {a : Air} (hz : hung h a = 0) : hullB h = true ∧ airB a = true := by
  unfold hung checkAir at hz
  cases h1 : hullB h
  · simp [h1] at hz
  · cases h2 : airB a
    · simp [h1, h2] at hz
    · exact ⟨rfl, rfl⟩
theorem blowE_hung {h : Hl} {a : Air} (hb : blowE h a = 0 ∨ blowE h a = 6) : hung h a = 0 := by
  by_cases h0 : hung h a = 0
  · exact h0
  · have := hung_cases h a
    unfold blowE at hb
    rw [if_neg h0] at hb
    omega
theorem roof_none {h : Hl} {x y p : Int} (hE : roofCE h x y = 6) (hF : blowE h (calm x y p) = 0 ∨ blowE h (calm x y p) = 6) : blowE h (calm x y p) = 6 ∧ roofCN h x y = 0 := by
  have hz := blowE_hung hF
  obtain ⟨h1, h2⟩ := hung_zero hz
  obtain ⟨⟨b1, _, b2⟩, b4, b5, b6⟩ := airB_iff.1 h2
  have hs : spanIn x y 1500 3500 = true := spanIn_iff.2 ⟨b4, b5, b6⟩
  have hr : roof h x y = none := by
    unfold roofCE at hE
    rw [if_pos h1, if_pos hs] at hE
    cases hr : roof h x y with
    | none => rfl
    | some k => rw [hr] at hE; simp [roofE] at hE
  have hN : roofCN h x y = 0 := by unfold roofCN; rw [if_pos h1, if_pos hs, hr]; rfl
  refine ⟨?_, hN⟩
  unfold roof firstOf at hr
  rw [List.find?_range_eq_none] at hr
  have hk := hr (p - 1000).toNat (by simp only at b1 b2; omega)
  simp only [roofs, Bool.not_eq_true', decide_eq_false_iff_not] at hk
  have ep : 1000 + ((p - 1000).toNat : Int) = p := by simp only at b1; omega
  rw [ep] at hk
  unfold blowE
  rw [if_pos hz, if_pos (by omega)]
theorem roof_some {h : Hl} {x y p : Int} (hE : roofCE h x y = 0) (hF : blowE h (calm x y p) = 0 ∨ blowE h (calm x y p) = 6) :
    (1000 ≤ roofCN h x y ∧ roofCN h x y ≤ 12000) ∧ blowE h (calm x y (roofCN h x y)) = 0 ∧ blowLo h (calm x y (roofCN h x y)) ≤ blowHi h (calm x y (roofCN h x y)) ∧ (p < roofCN h x y → blowE h (calm x y p) = 6) := by
  have hz := blowE_hung hF
  obtain ⟨h1, h2⟩ := hung_zero hz
  obtain ⟨⟨b1, _, b2⟩, b4, b5, b6⟩ := airB_iff.1 h2
  have hs : spanIn x y 1500 3500 = true := spanIn_iff.2 ⟨b4, b5, b6⟩
  obtain ⟨k, hr⟩ : ∃ k, roof h x y = some k := by
    unfold roofCE at hE
    rw [if_pos h1, if_pos hs] at hE
    cases hr : roof h x y with
    | none => rw [hr] at hE; simp [roofE] at hE
    | some k => exact ⟨k, rfl⟩
  have hN : roofCN h x y = 1000 + k := by unfold roofCN; rw [if_pos h1, if_pos hs, hr]; rfl
  unfold roof firstOf at hr
  rw [List.find?_range_eq_some] at hr
  obtain ⟨q1, q2, q3⟩ := hr
  have hk : k < 11001 := by simpa using q2
  simp only [roofs, decide_eq_true_eq] at q1
  rw [hN]
  have hc : hung h (calm x y (1000 + k)) = 0 := by unfold hung checkAir; rw [if_pos h1, if_pos (calm_B hs (by omega))]
  refine ⟨by omega, ?_, q1, fun hp => ?_⟩
  · unfold blowE
    rw [if_pos hc, if_neg (by omega)]
  · have hj := q3 (p - 1000).toNat (by simp only at b1; omega)
    simp only [roofs, Bool.not_eq_true', decide_eq_false_iff_not] at hj
    have ep : 1000 + ((p - 1000).toNat : Int) = p := by simp only at b1; omega
    rw [ep] at hj
    unfold blowE
    rw [if_pos hz, if_pos (by omega)]
end Bal.Gas

/-
  Ceilings and valving: plain Lean, no program in sight.
-/
namespace Bal.Gas
open Bal.Trim
theorem heat_pos {c : Cell} {a : Air} (hc : cellB c = true) (ha : airB a = true) : 1200 ≤ heatLo c a ∧ heatLo c a ≤ heatHi c a ∧ heatHi c a ≤ 3800 := by
  obtain ⟨_, b4, b5, b6⟩ := airB_iff.1 ha
  obtain ⟨_, _, _, _, _, u3, u4, u5⟩ := cellB_iff.1 hc
  unfold heatLo heatHi
  omega
theorem state_one (c : Cell) (a : Air) : state c a = 1 ↔ amount c * heatHi c a ≤ c.room * a.plo := by
  unfold state
  split
  · simp [*]
  · split <;> simp [*]
theorem state_three {c : Cell} {a : Air} (hc : cellB c = true) (ha : airB a = true) : state c a = 3 ↔ c.room * a.phi < amount c * heatLo c a := by
  obtain ⟨n0, n1, ⟨p0, p1, p2⟩, q0, q1, q2, q3⟩ := prod_bd hc ha
  obtain ⟨⟨b1, b2, b3⟩, _⟩ := airB_iff.1 ha
  obtain ⟨⟨r1, r2⟩, _⟩ := cellB_iff.1 hc
  have m := Int.mul_le_mul_of_nonneg_left b2 (show 0 ≤ c.room by omega)
  unfold state
  split
  · constructor
    · intro h; cases h
    · intro h; omega
  · split
    · simp [*]
    · simp [*]
theorem full_valve {c : Cell} {a : Air} (hc : cellB c = true) (ha : airB a = true) :
    0 ≤ valveLo c a ∧ valveLo c a ≤ valveHi c a ∧ valveHi c a ≤ amount c ∧ (state c a = 1 ↔ valveHi c a = 0) ∧ (state c a = 3 ↔ 0 < valveLo c a) := by
  obtain ⟨n0, n1, ⟨p0, p1, p2⟩, q0, q1, q2, q3⟩ := prod_bd hc ha
  obtain ⟨⟨b1, b2, b3⟩, _⟩ := airB_iff.1 ha
  obtain ⟨⟨r1, r2⟩, _⟩ := cellB_iff.1 hc
  obtain ⟨t1, t2, t3⟩ := heat_pos hc ha
  have m := Int.mul_le_mul_of_nonneg_left b2 (show 0 ≤ c.room by omega)
  have e1 : amount c ≤ c.room * a.plo / heatHi c a ↔ amount c * heatHi c a ≤ c.room * a.plo := Int.le_ediv_iff_mul_le (by omega)
  have e2 : c.room * a.phi / heatLo c a < amount c ↔ c.room * a.phi < amount c * heatLo c a := Int.ediv_lt_iff_lt_mul (by omega)
  have z1 : 0 ≤ c.room * a.plo / heatHi c a := Int.ediv_nonneg q0 (by omega)
  have e3 : c.room * a.plo / heatHi c a ≤ c.room * a.phi / heatLo c a := by
    rw [Int.le_ediv_iff_mul_le (by omega)]
    have h1 := Int.mul_le_mul_of_nonneg_left t2 z1
    have h2 : c.room * a.plo / heatHi c a * heatHi c a ≤ c.room * a.plo := Int.ediv_mul_le _ (by omega)
    omega
  rw [state_one, state_three hc ha, ← e1, ← e2]
  unfold valveLo valveHi
  omega
/-- a cell without k units, air first -/
def lessC (c : Cell) (k : Int) : Cell := { c with air := c.air - min k c.air, helium := c.helium - (k - (c.air - (c.air - min k c.air))) }
theorem lessC_amount (c : Cell) (k : Int) : amount (lessC c k) = amount c - k := by unfold amount lessC; simp only; omega
theorem lessC_ok {c : Cell} {k : Int} (hc : cellB c = true) (h0 : 0 ≤ k) (h1 : k ≤ amount c) : cellB (lessC c k) = true := by
  have h := cellB_iff.1 hc
  refine cellB_iff.2 ?_
  unfold amount at h1
  simp only [lessC]
  omega
theorem less_fits {c : Cell} {a : Air} {k : Int} (hc : cellB c = true) (ha : airB a = true) (h0 : 0 ≤ k) : state (lessC c k) a = 1 ↔ valveHi c a ≤ k := by
  obtain ⟨t1, t2, t3⟩ := heat_pos hc ha
  rw [state_one, lessC_amount]
  have e1 : amount c - k ≤ c.room * a.plo / heatHi c a ↔ (amount c - k) * heatHi c a ≤ c.room * a.plo := Int.le_ediv_iff_mul_le (by omega)
  show (amount c - k) * heatHi c a ≤ c.room * a.plo ↔ _
  rw [← e1]
  unfold valveHi
  omega
theorem at_high {c : Cell} {a : Air} {p : Int} (hc : cellB c = true) (h : ceilHi c a.thi ≤ p) : state c (pressA a p p) = 1 := by
  obtain ⟨⟨r1, r2⟩, _⟩ := cellB_iff.1 hc
  rw [state_one]
  show amount c * (a.thi + c.whi) ≤ c.room * p
  have h1 : -(amount c * (a.thi + c.whi)) / c.room * c.room ≤ -(amount c * (a.thi + c.whi)) := Int.ediv_mul_le _ (by omega)
  have h2 := Int.mul_le_mul_of_nonneg_right h (show 0 ≤ c.room by omega)
  unfold ceilHi at h2
  rw [Int.neg_mul] at h2
  rw [Int.mul_comm c.room]
  omega
theorem at_low {c : Cell} {a : Air} {p : Int} (hc : cellB c = true) (hp : airB (pressA a p p) = true) (h : p < ceilLo c a.tlo) : state c (pressA a p p) = 3 := by
  obtain ⟨⟨r1, r2⟩, _⟩ := cellB_iff.1 hc
  rw [state_three hc hp]
  show c.room * p < amount c * (a.tlo + c.wlo)
  have h1 : amount c * (a.tlo + c.wlo) / c.room * c.room ≤ amount c * (a.tlo + c.wlo) := Int.ediv_mul_le _ (by omega)
  have h2 := Int.mul_le_mul_of_nonneg_right (show p + 1 ≤ ceilLo c a.tlo by omega) (show 0 ≤ c.room by omega)
  unfold ceilLo at h2
  rw [Int.add_mul] at h2
  rw [Int.mul_comm c.room]
  omega
theorem asked_zero {c : Cell} {a : Air} (h : asked c a = 0) : cellB c = true ∧ airB a = true := by
  unfold asked checkAir at h
  cases h1 : cellB c
  · simp [h1] at h
  · cases h2 : airB a
    · simp [h1, h2] at h
    · exact ⟨rfl, rfl⟩
theorem state_cases (c : Cell) (a : Air) : state c a = 1 ∨ state c a = 2 ∨ state c a = 3 := by
  unfold state
  repeat (first | split | simp)
end Bal.Gas

/-
  GasFull: ceilings and valving: the walk.
-/
namespace Go.Proofs.Ytemafanncejeiaa
open Go.RowKit Bal Bal.Trim Bal.Gas
set_option linter.unusedVariables false
set_option linter.unusedSimpArgs false
set_option maxHeartbeats 4000000
set_option maxRecDepth 100000
attribute [local go_sem] ite_max ite_min

theorem law_GasFull_bad (c : Cell) (a : Air) (p : Int) (w : World) (hA : asked c a ≠ 0) : Calls Try.prog 20 #[.agg #[.int .i64 c.room, .int .i64 c.helium, .int .i64 c.air, .int .i64 c.wlo, .int .i64 c.whi, .int .i64 c.leak, .int .i64 c.owed], .agg #[.int .i64 a.plo, .int .i64 a.phi, .int .i64 a.tlo, .int .i64 a.thi], .int .i64 p] w fun e w' => e = .returned (.bool true) ∧ Kept w w' := by
  have h0 : (asked c a != 0) = true := by simp [hA]
  have h1 : (asked c a == 0) = false := by simp [hA]
  clear hA
  rcases (show (ceilE c a.tlo a.thi != 0) = true ∨ (ceilE c a.tlo a.thi != 0) = false by cases (ceilE c a.tlo a.thi != 0) <;> simp) with e1 | e1
  all_goals
    go_enter Try.func20, Try.ntmps20
    go_wp2_with (first | (go_at_call 68; (with_reducible refine (o_alive _).mono ?_); rintro e wa ⟨rfl, hba⟩; refine Blk.thru (b := w.heap.size) (arr := ?_) (t := ?_) ?_ hba ?_; rotate_left 2; (focus (exact blk)); intro aq0; have aq0c0 := aq0.cell 0; have aq0f0 := aq0.free 0; have aq0c1 := aq0.cell 1; have aq0f1 := aq0.free 1; have aq0c2 := aq0.cell 2; have aq0f2 := aq0.free 2; have aq0c3 := aq0.cell 3; have aq0f3 := aq0.free 3; have aq0c4 := aq0.cell 4; have aq0f4 := aq0.free 4; have aq0c5 := aq0.cell 5; have aq0f5 := aq0.free 5; have aq0c6 := aq0.cell 6; have aq0f6 := aq0.free 6; have aq0l := aq0.lt; simp at aq0c0 aq0c1 aq0c2 aq0c3 aq0c4 aq0c5 aq0c6; refine Blk.thru (b := w.heap.size + 1) (arr := ?_) (t := ?_) ?_ hba ?_; rotate_left 2; (focus (exact blk)); intro aq1; have aq1c0 := aq1.cell 0; have aq1f0 := aq1.free 0; have aq1c1 := aq1.cell 1; have aq1f1 := aq1.free 1; have aq1c2 := aq1.cell 2; have aq1f2 := aq1.free 2; have aq1c3 := aq1.cell 3; have aq1f3 := aq1.free 3; have aq1l := aq1.lt; simp at aq1c0 aq1c1 aq1c2 aq1c3) | (go_at_call 32; (with_reducible refine (f_CeilingC c a.tlo a.thi _).mono ?_); rintro e w1 ⟨rfl, hb1⟩; refine Blk.thru (b := w.heap.size) (arr := ?_) (t := ?_) ?_ hb1 ?_; rotate_left 2; (focus (exact blk)); intro bq0; have bq0c0 := bq0.cell 0; have bq0f0 := bq0.free 0; have bq0c1 := bq0.cell 1; have bq0f1 := bq0.free 1; have bq0c2 := bq0.cell 2; have bq0f2 := bq0.free 2; have bq0c3 := bq0.cell 3; have bq0f3 := bq0.free 3; have bq0c4 := bq0.cell 4; have bq0f4 := bq0.free 4; have bq0c5 := bq0.cell 5; have bq0f5 := bq0.free 5; have bq0c6 := bq0.cell 6; have bq0f6 := bq0.free 6; have bq0l := bq0.lt; simp at bq0c0 bq0c1 bq0c2 bq0c3 bq0c4 bq0c5 bq0c6; refine Blk.thru (b := w.heap.size + 1) (arr := ?_) (t := ?_) ?_ hb1 ?_; rotate_left 2; (focus (exact blk)); intro bq1; have bq1c0 := bq1.cell 0; have bq1f0 := bq1.free 0; have bq1c1 := bq1.cell 1; have bq1f1 := bq1.free 1; have bq1c2 := bq1.cell 2; have bq1f2 := bq1.free 2; have bq1c3 := bq1.cell 3; have bq1f3 := bq1.free 3; have bq1l := bq1.lt; simp at bq1c0 bq1c1 bq1c2 bq1c3) | (go_at_call 24; (with_reducible refine (f_FitsC c a _).mono ?_); rintro e w2 ⟨rfl, hb2⟩; refine Blk.thru (b := w.heap.size) (arr := ?_) (t := ?_) ?_ hb2 ?_; rotate_left 2; (focus (exact blk)); intro dq0; have dq0c0 := dq0.cell 0; have dq0f0 := dq0.free 0; have dq0c1 := dq0.cell 1; have dq0f1 := dq0.free 1; have dq0c2 := dq0.cell 2; have dq0f2 := dq0.free 2; have dq0c3 := dq0.cell 3; have dq0f3 := dq0.free 3; have dq0c4 := dq0.cell 4; have dq0f4 := dq0.free 4; have dq0c5 := dq0.cell 5; have dq0f5 := dq0.free 5; have dq0c6 := dq0.cell 6; have dq0f6 := dq0.free 6; have dq0l := dq0.lt; simp at dq0c0 dq0c1 dq0c2 dq0c3 dq0c4 dq0c5 dq0c6; refine Blk.thru (b := w.heap.size + 1) (arr := ?_) (t := ?_) ?_ hb2 ?_; rotate_left 2; (focus (exact blk)); intro dq1; have dq1c0 := dq1.cell 0; have dq1f0 := dq1.free 0; have dq1c1 := dq1.cell 1; have dq1f1 := dq1.free 1; have dq1c2 := dq1.cell 2; have dq1f2 := dq1.free 2; have dq1c3 := dq1.cell 3; have dq1f3 := dq1.free 3; have dq1l := dq1.lt; simp at dq1c0 dq1c1 dq1c2 dq1c3) | (go_at_call 34; (with_reducible refine (f_ValvingC c a _).mono ?_); rintro e w3 ⟨rfl, hb3⟩; refine Blk.thru (b := w.heap.size) (arr := ?_) (t := ?_) ?_ hb3 ?_; rotate_left 2; (focus (exact blk)); intro eq0; have eq0c0 := eq0.cell 0; have eq0f0 := eq0.free 0; have eq0c1 := eq0.cell 1; have eq0f1 := eq0.free 1; have eq0c2 := eq0.cell 2; have eq0f2 := eq0.free 2; have eq0c3 := eq0.cell 3; have eq0f3 := eq0.free 3; have eq0c4 := eq0.cell 4; have eq0f4 := eq0.free 4; have eq0c5 := eq0.cell 5; have eq0f5 := eq0.free 5; have eq0c6 := eq0.cell 6; have eq0f6 := eq0.free 6; have eq0l := eq0.lt; simp at eq0c0 eq0c1 eq0c2 eq0c3 eq0c4 eq0c5 eq0c6; refine Blk.thru (b := w.heap.size + 1) (arr := ?_) (t := ?_) ?_ hb3 ?_; rotate_left 2; (focus (exact blk)); intro eq1; have eq1c0 := eq1.cell 0; have eq1f0 := eq1.free 0; have eq1c1 := eq1.cell 1; have eq1f1 := eq1.free 1; have eq1c2 := eq1.cell 2; have eq1f2 := eq1.free 2; have eq1c3 := eq1.cell 3; have eq1f3 := eq1.free 3; have eq1l := eq1.lt; simp at eq1c0 eq1c1 eq1c2 eq1c3))
    all_goals
      go_ret
      exact ⟨rfl, by (exact kpt)⟩

theorem law_GasFull_ok (c : Cell) (a : Air) (p : Int) (w : World) (hc : cellB c = true) (ha : airB a = true) : Calls Try.prog 20 #[.agg #[.int .i64 c.room, .int .i64 c.helium, .int .i64 c.air, .int .i64 c.wlo, .int .i64 c.whi, .int .i64 c.leak, .int .i64 c.owed], .agg #[.int .i64 a.plo, .int .i64 a.phi, .int .i64 a.tlo, .int .i64 a.thi], .int .i64 p] w fun e w' => e = .returned (.bool true) ∧ Kept w w' := by
  obtain ⟨⟨r1_, r2_⟩, ⟨e1, e2⟩, ⟨e3, e4⟩, _, _, u3, u4, u5⟩ := cellB_iff.1 hc
  obtain ⟨_, b4, b5, b6⟩ := airB_iff.1 ha
  have hs : spanIn a.tlo a.thi 1500 3500 = true := spanIn_iff.2 ⟨b4, b5, b6⟩
  obtain ⟨v0, v1, v2, v3, v4⟩ := full_valve hc ha
  have KA := fun W => f_Ceiling_ok c a.tlo a.thi W hc hs
  have KB := fun W => f_Fits_ok c a W hc ha
  have KC := fun W => f_Valving_ok c a W hc ha
  have hX := fun (k : Int) (h0 : 0 ≤ k) (h1 : k ≤ valveHi c a) (W : World) => f_Fits_ok (lessC c k) a W (lessC_ok hc h0 (by omega)) ha
  have hY := fun (k : Int) (h0 : 0 ≤ k) => less_fits hc ha h0 (a := a)
  have KP := fun W => f_FitsC c (pressA a p p) W
  have hPE := press_asked (a := a) hc p p
  have hP1 := fun h => at_high (p := p) (a := a) hc h
  have hP2 : asked c (pressA a p p) = 0 → p < ceilLo c a.tlo → state c (pressA a p p) = 3 := fun h h2 => at_low hc (asked_zero h).2 h2
  obtain ⟨SP, hSP⟩ : ∃ n, n = state c (pressA a p p) := ⟨_, rfl⟩
  obtain ⟨EP, hEP⟩ : ∃ n, n = asked c (pressA a p p) := ⟨_, rfl⟩
  rw [← hSP] at hP1 hP2 KP
  rw [← hEP] at hP2 hPE KP
  simp only [pressA] at KP
  obtain ⟨UL, hUL⟩ : ∃ n, n = ceilLo c a.tlo := ⟨_, rfl⟩
  obtain ⟨UH, hUH⟩ : ∃ n, n = ceilHi c a.thi := ⟨_, rfl⟩
  obtain ⟨WL, hWL⟩ : ∃ n, n = valveLo c a := ⟨_, rfl⟩
  obtain ⟨WH, hWH⟩ : ∃ n, n = valveHi c a := ⟨_, rfl⟩
  obtain ⟨S, hS⟩ : ∃ n, n = state c a := ⟨_, rfl⟩
  rw [← hUL, ← hUH] at KA
  rw [← hUH] at hP1
  rw [← hUL] at hP2
  rw [← hWL, ← hWH] at KC
  rw [← hS] at KB v3 v4
  rw [← hWL] at v0 v1 v4
  rw [← hWH] at v1 v2 v3 hX hY
  have e5 : amount c = c.helium + c.air := rfl
  rw [e5] at v2
  have K1 := Lib.hid KA
  have K2 := Lib.hid KB
  have K3 := Lib.hid KC
  have HX := Lib.hid hX
  have HY := Lib.hid hY
  have KPP := Lib.hid KP
  have HP1 := Lib.hid hP1
  have HP2 := Lib.hid hP2
  have HPE := Lib.hid hPE
  clear KA KB KC hX hY KP hP1 hP2 hPE hUL hUH hWL hWH hS hSP hEP
  have d1 : decide (WL < 0) = false := by simp; omega
  have d2 : decide (WH < WL) = false := by simp; omega
  have d3 : decide (c.helium + c.air < WH) = false := by simp; omega
  have d4 : (S == 1) = (WH == 0) := by rw [Bool.eq_iff_iff]; simp [v3]
  have d5 : (S == 3) = decide (0 < WL) := by rw [Bool.eq_iff_iff]; simp [v4]
  have g1 := i64_inH (n := c.helium + c.air) (by omega)
  have g2 := i64_inH (n := WH - 1) (by omega)
  clear v3 v4
  go_enter Try.func20, Try.ntmps20
  go_wp2_with (first | (go_at_call 68; (with_reducible refine (o_alive _).mono ?_); rintro e wa ⟨rfl, hba⟩; refine Blk.thru (b := w.heap.size) (arr := ?_) (t := ?_) ?_ hba ?_; rotate_left 2; (focus (exact blk)); intro aq0; have aq0c0 := aq0.cell 0; have aq0f0 := aq0.free 0; have aq0c1 := aq0.cell 1; have aq0f1 := aq0.free 1; have aq0c2 := aq0.cell 2; have aq0f2 := aq0.free 2; have aq0c3 := aq0.cell 3; have aq0f3 := aq0.free 3; have aq0c4 := aq0.cell 4; have aq0f4 := aq0.free 4; have aq0c5 := aq0.cell 5; have aq0f5 := aq0.free 5; have aq0c6 := aq0.cell 6; have aq0f6 := aq0.free 6; have aq0l := aq0.lt; simp at aq0c0 aq0c1 aq0c2 aq0c3 aq0c4 aq0c5 aq0c6; refine Blk.thru (b := w.heap.size + 1) (arr := ?_) (t := ?_) ?_ hba ?_; rotate_left 2; (focus (exact blk)); intro aq1; have aq1c0 := aq1.cell 0; have aq1f0 := aq1.free 0; have aq1c1 := aq1.cell 1; have aq1f1 := aq1.free 1; have aq1c2 := aq1.cell 2; have aq1f2 := aq1.free 2; have aq1c3 := aq1.cell 3; have aq1f3 := aq1.free 3; have aq1l := aq1.lt; simp at aq1c0 aq1c1 aq1c2 aq1c3) | (go_at_call 32; (with_reducible refine (K1.out _).mono ?_); rintro e w1 ⟨rfl, hb1⟩; refine Blk.thru (b := w.heap.size) (arr := ?_) (t := ?_) ?_ hb1 ?_; rotate_left 2; (focus (exact blk)); intro bq0; have bq0c0 := bq0.cell 0; have bq0f0 := bq0.free 0; have bq0c1 := bq0.cell 1; have bq0f1 := bq0.free 1; have bq0c2 := bq0.cell 2; have bq0f2 := bq0.free 2; have bq0c3 := bq0.cell 3; have bq0f3 := bq0.free 3; have bq0c4 := bq0.cell 4; have bq0f4 := bq0.free 4; have bq0c5 := bq0.cell 5; have bq0f5 := bq0.free 5; have bq0c6 := bq0.cell 6; have bq0f6 := bq0.free 6; have bq0l := bq0.lt; simp at bq0c0 bq0c1 bq0c2 bq0c3 bq0c4 bq0c5 bq0c6; refine Blk.thru (b := w.heap.size + 1) (arr := ?_) (t := ?_) ?_ hb1 ?_; rotate_left 2; (focus (exact blk)); intro bq1; have bq1c0 := bq1.cell 0; have bq1f0 := bq1.free 0; have bq1c1 := bq1.cell 1; have bq1f1 := bq1.free 1; have bq1c2 := bq1.cell 2; have bq1f2 := bq1.free 2; have bq1c3 := bq1.cell 3; have bq1f3 := bq1.free 3; have bq1l := bq1.lt; simp at bq1c0 bq1c1 bq1c2 bq1c3) | (go_at_call 24; (with_reducible refine (K2.out _).mono ?_); rintro e w2 ⟨rfl, hb2⟩; refine Blk.thru (b := w.heap.size) (arr := ?_) (t := ?_) ?_ hb2 ?_; rotate_left 2; (focus (exact blk)); intro dq0; have dq0c0 := dq0.cell 0; have dq0f0 := dq0.free 0; have dq0c1 := dq0.cell 1; have dq0f1 := dq0.free 1; have dq0c2 := dq0.cell 2; have dq0f2 := dq0.free 2; have dq0c3 := dq0.cell 3; have dq0f3 := dq0.free 3; have dq0c4 := dq0.cell 4; have dq0f4 := dq0.free 4; have dq0c5 := dq0.cell 5; have dq0f5 := dq0.free 5; have dq0c6 := dq0.cell 6; have dq0f6 := dq0.free 6; have dq0l := dq0.lt; simp at dq0c0 dq0c1 dq0c2 dq0c3 dq0c4 dq0c5 dq0c6; refine Blk.thru (b := w.heap.size + 1) (arr := ?_) (t := ?_) ?_ hb2 ?_; rotate_left 2; (focus (exact blk)); intro dq1; have dq1c0 := dq1.cell 0; have dq1f0 := dq1.free 0; have dq1c1 := dq1.cell 1; have dq1f1 := dq1.free 1; have dq1c2 := dq1.cell 2; have dq1f2 := dq1.free 2; have dq1c3 := dq1.cell 3; have dq1f3 := dq1.free 3; have dq1l := dq1.lt; simp at dq1c0 dq1c1 dq1c2 dq1c3) | (go_at_call 34; (with_reducible refine (K3.out _).mono ?_); rintro e w3 ⟨rfl, hb3⟩; refine Blk.thru (b := w.heap.size) (arr := ?_) (t := ?_) ?_ hb3 ?_; rotate_left 2; (focus (exact blk)); intro eq0; have eq0c0 := eq0.cell 0; have eq0f0 := eq0.free 0; have eq0c1 := eq0.cell 1; have eq0f1 := eq0.free 1; have eq0c2 := eq0.cell 2; have eq0f2 := eq0.free 2; have eq0c3 := eq0.cell 3; have eq0f3 := eq0.free 3; have eq0c4 := eq0.cell 4; have eq0f4 := eq0.free 4; have eq0c5 := eq0.cell 5; have eq0f5 := eq0.free 5; have eq0c6 := eq0.cell 6; have eq0f6 := eq0.free 6; have eq0l := eq0.lt; simp at eq0c0 eq0c1 eq0c2 eq0c3 eq0c4 eq0c5 eq0c6; refine Blk.thru (b := w.heap.size + 1) (arr := ?_) (t := ?_) ?_ hb3 ?_; rotate_left 2; (focus (exact blk)); intro eq1; have eq1c0 := eq1.cell 0; have eq1f0 := eq1.free 0; have eq1c1 := eq1.cell 1; have eq1f1 := eq1.free 1; have eq1c2 := eq1.cell 2; have eq1f2 := eq1.free 2; have eq1c3 := eq1.cell 3; have eq1f3 := eq1.free 3; have eq1l := eq1.lt; simp at eq1c0 eq1c1 eq1c2 eq1c3))
  refine at_world (S := fun V => Blk V (w.heap.size) #[.int .i64 c.room, .int .i64 c.helium, .int .i64 c.air, .int .i64 c.wlo, .int .i64 c.whi, .int .i64 c.leak, .int .i64 c.owed] 25 ∧ Blk V (w.heap.size + 1) #[.int .i64 a.plo, .int .i64 a.phi, .int .i64 a.tlo, .int .i64 a.thi] 27 ∧ Blk V (w1.heap.size) #[.int .i64 UL, .int .i64 UH] 23 ∧ Blk V (w3.heap.size) #[.int .i64 WL, .int .i64 WH] 23 ∧ Blk V (w3.heap.size + 1) #[.int .i64 WH, .bool true, .int .i64 (WH - 1), .bool false] 135 ∧ Kept w V) ⟨by (exact blkc), by (exact blkc), by (exact blkc), by (exact blkc), by (exact blkc), by (exact kpt)⟩ ?_
  rintro V ⟨q0, q1, r1, r3, m0, hkV⟩
  obtain ⟨m, hm⟩ : ∃ m, m = w3.heap.size + 1 := ⟨_, rfl⟩
  rw [← hm] at m0 ⊢
  clear hm
  have hns : WH ≤ 20000000 := by omega
  go_loopw [100] (fun i wr => ∃ k : Nat, k ≤ 2 ∧ i = .int .i64 k ∧ Blk wr (w.heap.size) #[.int .i64 c.room, .int .i64 c.helium, .int .i64 c.air, .int .i64 c.wlo, .int .i64 c.whi, .int .i64 c.leak, .int .i64 c.owed] 25 ∧ Blk wr (w.heap.size + 1) #[.int .i64 a.plo, .int .i64 a.phi, .int .i64 a.tlo, .int .i64 a.thi] 27 ∧ Blk wr (w1.heap.size) #[.int .i64 UL, .int .i64 UH] 23 ∧ Blk wr m #[.int .i64 WH, .bool true, .int .i64 (WH - 1), .bool false] 135 ∧ Kept w wr) (fun i _ => 2 - (intOf i).toNat)
  case atStart => exact ⟨0, Nat.zero_le _, rfl, q0, q1, r1, m0, hkV⟩
  case round =>
    clear q0 q1 r1 r3 m0 hkV
    obtain ⟨k, hk2, rfl, q0, q1, r1, m0, hkr⟩ := hrel
    have q0c0 := q0.cell 0
    have q0f0 := q0.free 0
    have q0c1 := q0.cell 1
    have q0f1 := q0.free 1
    have q0c2 := q0.cell 2
    have q0f2 := q0.free 2
    have q0c3 := q0.cell 3
    have q0f3 := q0.free 3
    have q0c4 := q0.cell 4
    have q0f4 := q0.free 4
    have q0c5 := q0.cell 5
    have q0f5 := q0.free 5
    have q0c6 := q0.cell 6
    have q0f6 := q0.free 6
    have q0l := q0.lt
    simp at q0c0 q0c1 q0c2 q0c3 q0c4 q0c5 q0c6
    have q1c0 := q1.cell 0
    have q1f0 := q1.free 0
    have q1c1 := q1.cell 1
    have q1f1 := q1.free 1
    have q1c2 := q1.cell 2
    have q1f2 := q1.free 2
    have q1c3 := q1.cell 3
    have q1f3 := q1.free 3
    have q1l := q1.lt
    simp at q1c0 q1c1 q1c2 q1c3
    have r1c0 := r1.cell 0
    have r1f0 := r1.free 0
    have r1c1 := r1.cell 1
    have r1f1 := r1.free 1
    have r1l := r1.lt
    simp at r1c0 r1c1
    have m0c0 := m0.cell 0
    have m0f0 := m0.free 0
    have m0c1 := m0.cell 1
    have m0f1 := m0.free 1
    have m0c2 := m0.cell 2
    have m0f2 := m0.free 2
    have m0c3 := m0.cell 3
    have m0f3 := m0.free 3
    have m0l := m0.lt
    simp at m0c0 m0c1 m0c2 m0c3
    rcases (show k = 0 ∨ k = 1 ∨ k = 2 by omega) with rfl | rfl | rfl
    · have x0 : max WH 0 = WH := by omega
      have KX := Lib.hid (HX.out WH (by omega) (by omega))
      have hst : state (lessC c WH) a = 1 := (HY.out WH (by omega)).2 (by omega)
      rw [hst] at KX
      simp only [lessC] at KX
      have g3 := i64_inH (n := c.air - min WH c.air) (by omega)
      have g4 := i64_inH (n := c.air - (c.air - min WH c.air)) (by omega)
      have g5 := i64_inH (n := WH - (c.air - (c.air - min WH c.air))) (by omega)
      have g6 := i64_inH (n := c.helium - (WH - (c.air - (c.air - min WH c.air)))) (by omega)
      have d6 : decide (0 ≤ WH) = true := by simp; omega
      go_wp2_with (go_at_call 24; (with_reducible refine (KX.out _).mono ?_); rintro e w4 ⟨rfl, hb4⟩; refine Blk.thru (b := w.heap.size) (arr := ?_) (t := ?_) ?_ hb4 ?_; rotate_left 2; (focus (exact blk)); intro fq0; have fq0c0 := fq0.cell 0; have fq0f0 := fq0.free 0; have fq0c1 := fq0.cell 1; have fq0f1 := fq0.free 1; have fq0c2 := fq0.cell 2; have fq0f2 := fq0.free 2; have fq0c3 := fq0.cell 3; have fq0f3 := fq0.free 3; have fq0c4 := fq0.cell 4; have fq0f4 := fq0.free 4; have fq0c5 := fq0.cell 5; have fq0f5 := fq0.free 5; have fq0c6 := fq0.cell 6; have fq0f6 := fq0.free 6; have fq0l := fq0.lt; simp at fq0c0 fq0c1 fq0c2 fq0c3 fq0c4 fq0c5 fq0c6; refine Blk.thru (b := w.heap.size + 1) (arr := ?_) (t := ?_) ?_ hb4 ?_; rotate_left 2; (focus (exact blk)); intro fq1; have fq1c0 := fq1.cell 0; have fq1f0 := fq1.free 0; have fq1c1 := fq1.cell 1; have fq1f1 := fq1.free 1; have fq1c2 := fq1.cell 2; have fq1f2 := fq1.free 2; have fq1c3 := fq1.cell 3; have fq1f3 := fq1.free 3; have fq1l := fq1.lt; simp at fq1c0 fq1c1 fq1c2 fq1c3; refine Blk.thru (b := w1.heap.size) (arr := ?_) (t := ?_) ?_ hb4 ?_; rotate_left 2; (focus (exact blk)); intro fr1; have fr1c0 := fr1.cell 0; have fr1f0 := fr1.free 0; have fr1c1 := fr1.cell 1; have fr1f1 := fr1.free 1; have fr1l := fr1.lt; simp at fr1c0 fr1c1; refine Blk.thru (b := m) (arr := ?_) (t := ?_) ?_ hb4 ?_; rotate_left 2; (focus (exact blk)); intro fm0; have fm0c0 := fm0.cell 0; have fm0f0 := fm0.free 0; have fm0c1 := fm0.cell 1; have fm0f1 := fm0.free 1; have fm0c2 := fm0.cell 2; have fm0f2 := fm0.free 2; have fm0c3 := fm0.cell 3; have fm0f3 := fm0.free 3; have fm0l := fm0.lt; simp at fm0c0 fm0c1 fm0c2 fm0c3; refine Blk.thru (b := wr.heap.size) (arr := ?_) (t := ?_) ?_ hb4 ?_; rotate_left 2; (focus (exact blk)); intro fx0; have fx0c0 := fx0.cell 0; have fx0f0 := fx0.free 0; have fx0c1 := fx0.cell 1; have fx0f1 := fx0.free 1; have fx0l := fx0.lt; simp at fx0c0 fx0c1)
      go_roundw
      case rel => exact ⟨1, by omega, by go_num, by exact blk, by exact blk, by exact blk, by exact blk, by exact kpt⟩
      case measure => simp [intOf]
    · obtain ⟨K, hK⟩ : ∃ K, K = max (WH - 1) 0 := ⟨_, rfl⟩
      have x0 : max (WH - 1) 0 = K := hK.symm
      have hk0 : 0 ≤ K := by omega
      have hk1 : K ≤ WH := by omega
      have KX := Lib.hid (HX.out K hk0 hk1)
      have hst : 1 ≤ WH → state (lessC c K) a ≠ 1 := fun h1 h2 => by have := (HY.out K hk0).1 h2; omega
      obtain ⟨T, hT⟩ : ∃ T, T = state (lessC c K) a := ⟨_, rfl⟩
      rw [← hT] at KX hst
      simp only [lessC] at KX
      have g3 := i64_inH (n := c.air - min K c.air) (by omega)
      have g4 := i64_inH (n := c.air - (c.air - min K c.air)) (by omega)
      have g5 := i64_inH (n := K - (c.air - (c.air - min K c.air))) (by omega)
      have g6 := i64_inH (n := c.helium - (K - (c.air - (c.air - min K c.air)))) (by omega)
      by_cases hpos : 1 ≤ WH
      · have d6 : decide (0 ≤ WH - 1) = true := by simp; omega
        have d6b : decide (1 ≤ WH) = true := by simp; omega
        have d7 : (T == 1) = false := by simpa using hst hpos
        clear hK hT hst hpos
        go_wp2_with (go_at_call 24; (with_reducible refine (KX.out _).mono ?_); rintro e w4 ⟨rfl, hb4⟩; refine Blk.thru (b := w.heap.size) (arr := ?_) (t := ?_) ?_ hb4 ?_; rotate_left 2; (focus (exact blk)); intro fq0; have fq0c0 := fq0.cell 0; have fq0f0 := fq0.free 0; have fq0c1 := fq0.cell 1; have fq0f1 := fq0.free 1; have fq0c2 := fq0.cell 2; have fq0f2 := fq0.free 2; have fq0c3 := fq0.cell 3; have fq0f3 := fq0.free 3; have fq0c4 := fq0.cell 4; have fq0f4 := fq0.free 4; have fq0c5 := fq0.cell 5; have fq0f5 := fq0.free 5; have fq0c6 := fq0.cell 6; have fq0f6 := fq0.free 6; have fq0l := fq0.lt; simp at fq0c0 fq0c1 fq0c2 fq0c3 fq0c4 fq0c5 fq0c6; refine Blk.thru (b := w.heap.size + 1) (arr := ?_) (t := ?_) ?_ hb4 ?_; rotate_left 2; (focus (exact blk)); intro fq1; have fq1c0 := fq1.cell 0; have fq1f0 := fq1.free 0; have fq1c1 := fq1.cell 1; have fq1f1 := fq1.free 1; have fq1c2 := fq1.cell 2; have fq1f2 := fq1.free 2; have fq1c3 := fq1.cell 3; have fq1f3 := fq1.free 3; have fq1l := fq1.lt; simp at fq1c0 fq1c1 fq1c2 fq1c3; refine Blk.thru (b := w1.heap.size) (arr := ?_) (t := ?_) ?_ hb4 ?_; rotate_left 2; (focus (exact blk)); intro fr1; have fr1c0 := fr1.cell 0; have fr1f0 := fr1.free 0; have fr1c1 := fr1.cell 1; have fr1f1 := fr1.free 1; have fr1l := fr1.lt; simp at fr1c0 fr1c1; refine Blk.thru (b := m) (arr := ?_) (t := ?_) ?_ hb4 ?_; rotate_left 2; (focus (exact blk)); intro fm0; have fm0c0 := fm0.cell 0; have fm0f0 := fm0.free 0; have fm0c1 := fm0.cell 1; have fm0f1 := fm0.free 1; have fm0c2 := fm0.cell 2; have fm0f2 := fm0.free 2; have fm0c3 := fm0.cell 3; have fm0f3 := fm0.free 3; have fm0l := fm0.lt; simp at fm0c0 fm0c1 fm0c2 fm0c3; refine Blk.thru (b := wr.heap.size) (arr := ?_) (t := ?_) ?_ hb4 ?_; rotate_left 2; (focus (exact blk)); intro fx0; have fx0c0 := fx0.cell 0; have fx0f0 := fx0.free 0; have fx0c1 := fx0.cell 1; have fx0f1 := fx0.free 1; have fx0l := fx0.lt; simp at fx0c0 fx0c1)
        go_roundw
        case rel => exact ⟨2, by omega, by go_num, by exact blk, by exact blk, by exact blk, by exact blk, by exact kpt⟩
        case measure => simp [intOf]
      · have d6 : decide (0 ≤ WH - 1) = false := by simp; omega
        have d6b : decide (1 ≤ WH) = false := by simp; omega
        clear hK hT hst hpos
        go_wp2_with (go_at_call 24; (with_reducible refine (KX.out _).mono ?_); rintro e w4 ⟨rfl, hb4⟩; refine Blk.thru (b := w.heap.size) (arr := ?_) (t := ?_) ?_ hb4 ?_; rotate_left 2; (focus (exact blk)); intro fq0; have fq0c0 := fq0.cell 0; have fq0f0 := fq0.free 0; have fq0c1 := fq0.cell 1; have fq0f1 := fq0.free 1; have fq0c2 := fq0.cell 2; have fq0f2 := fq0.free 2; have fq0c3 := fq0.cell 3; have fq0f3 := fq0.free 3; have fq0c4 := fq0.cell 4; have fq0f4 := fq0.free 4; have fq0c5 := fq0.cell 5; have fq0f5 := fq0.free 5; have fq0c6 := fq0.cell 6; have fq0f6 := fq0.free 6; have fq0l := fq0.lt; simp at fq0c0 fq0c1 fq0c2 fq0c3 fq0c4 fq0c5 fq0c6; refine Blk.thru (b := w.heap.size + 1) (arr := ?_) (t := ?_) ?_ hb4 ?_; rotate_left 2; (focus (exact blk)); intro fq1; have fq1c0 := fq1.cell 0; have fq1f0 := fq1.free 0; have fq1c1 := fq1.cell 1; have fq1f1 := fq1.free 1; have fq1c2 := fq1.cell 2; have fq1f2 := fq1.free 2; have fq1c3 := fq1.cell 3; have fq1f3 := fq1.free 3; have fq1l := fq1.lt; simp at fq1c0 fq1c1 fq1c2 fq1c3; refine Blk.thru (b := w1.heap.size) (arr := ?_) (t := ?_) ?_ hb4 ?_; rotate_left 2; (focus (exact blk)); intro fr1; have fr1c0 := fr1.cell 0; have fr1f0 := fr1.free 0; have fr1c1 := fr1.cell 1; have fr1f1 := fr1.free 1; have fr1l := fr1.lt; simp at fr1c0 fr1c1; refine Blk.thru (b := m) (arr := ?_) (t := ?_) ?_ hb4 ?_; rotate_left 2; (focus (exact blk)); intro fm0; have fm0c0 := fm0.cell 0; have fm0f0 := fm0.free 0; have fm0c1 := fm0.cell 1; have fm0f1 := fm0.free 1; have fm0c2 := fm0.cell 2; have fm0f2 := fm0.free 2; have fm0c3 := fm0.cell 3; have fm0f3 := fm0.free 3; have fm0l := fm0.lt; simp at fm0c0 fm0c1 fm0c2 fm0c3; refine Blk.thru (b := wr.heap.size) (arr := ?_) (t := ?_) ?_ hb4 ?_; rotate_left 2; (focus (exact blk)); intro fx0; have fx0c0 := fx0.cell 0; have fx0f0 := fx0.free 0; have fx0c1 := fx0.cell 1; have fx0f1 := fx0.free 1; have fx0l := fx0.lt; simp at fx0c0 fx0c1)
        go_roundw
        case rel => exact ⟨2, by omega, by go_num, by exact blk, by exact blk, by exact blk, by exact blk, by exact kpt⟩
        case measure => simp [intOf]
    · clear m0c0 m0f0 m0c1 m0f1 m0c2 m0f2 m0c3 m0f3 m0l m0 HX HY K1 K2 K3
      have hpe := HPE.out
      rcases hpe with rfl | rfl
      · have hp1 := HP1.out
        have hp2 := HP2.out rfl
        by_cases h1 : UH ≤ p
        · have d8 : decide (p < UH) = false := by simp; omega
          have hs1 := hp1 h1
          have d9 : decide (UL ≤ p) = true := by
            simp only [decide_eq_true_eq]
            by_cases h2 : p < UL
            · have := hp2 h2; omega
            · omega
          clear hp1 hp2 h1
          subst hs1
          go_wp2_with (first | (go_at_call 69; (with_reducible refine (o_one p _).mono ?_); rintro e w5 ⟨rfl, hb5⟩; refine Blk.thru (b := w.heap.size) (arr := ?_) (t := ?_) ?_ hb5 ?_; rotate_left 2; (focus (exact blk)); intro gq0; have gq0c0 := gq0.cell 0; have gq0f0 := gq0.free 0; have gq0c1 := gq0.cell 1; have gq0f1 := gq0.free 1; have gq0c2 := gq0.cell 2; have gq0f2 := gq0.free 2; have gq0c3 := gq0.cell 3; have gq0f3 := gq0.free 3; have gq0c4 := gq0.cell 4; have gq0f4 := gq0.free 4; have gq0c5 := gq0.cell 5; have gq0f5 := gq0.free 5; have gq0c6 := gq0.cell 6; have gq0f6 := gq0.free 6; have gq0l := gq0.lt; simp at gq0c0 gq0c1 gq0c2 gq0c3 gq0c4 gq0c5 gq0c6; refine Blk.thru (b := w.heap.size + 1) (arr := ?_) (t := ?_) ?_ hb5 ?_; rotate_left 2; (focus (exact blk)); intro gq1; have gq1c0 := gq1.cell 0; have gq1f0 := gq1.free 0; have gq1c1 := gq1.cell 1; have gq1f1 := gq1.free 1; have gq1c2 := gq1.cell 2; have gq1f2 := gq1.free 2; have gq1c3 := gq1.cell 3; have gq1f3 := gq1.free 3; have gq1l := gq1.lt; simp at gq1c0 gq1c1 gq1c2 gq1c3; refine Blk.thru (b := w1.heap.size) (arr := ?_) (t := ?_) ?_ hb5 ?_; rotate_left 2; (focus (exact blk)); intro gr1; have gr1c0 := gr1.cell 0; have gr1f0 := gr1.free 0; have gr1c1 := gr1.cell 1; have gr1f1 := gr1.free 1; have gr1l := gr1.lt; simp at gr1c0 gr1c1; refine Blk.thru (b := wr.heap.size) (arr := ?_) (t := ?_) ?_ hb5 ?_; rotate_left 2; (focus (exact blk)); intro gy0; have gy0c0 := gy0.cell 0; have gy0f0 := gy0.free 0; have gy0c1 := gy0.cell 1; have gy0f1 := gy0.free 1; have gy0c2 := gy0.cell 2; have gy0f2 := gy0.free 2; have gy0c3 := gy0.cell 3; have gy0f3 := gy0.free 3; have gy0l := gy0.lt; simp at gy0c0 gy0c1 gy0c2 gy0c3) | (go_at_call 24; (with_reducible refine (KPP.out _).mono ?_); rintro e w6 ⟨rfl, hb6⟩; refine Blk.thru (b := w.heap.size) (arr := ?_) (t := ?_) ?_ hb6 ?_; rotate_left 2; (focus (exact blk)); intro hq0; have hq0c0 := hq0.cell 0; have hq0f0 := hq0.free 0; have hq0c1 := hq0.cell 1; have hq0f1 := hq0.free 1; have hq0c2 := hq0.cell 2; have hq0f2 := hq0.free 2; have hq0c3 := hq0.cell 3; have hq0f3 := hq0.free 3; have hq0c4 := hq0.cell 4; have hq0f4 := hq0.free 4; have hq0c5 := hq0.cell 5; have hq0f5 := hq0.free 5; have hq0c6 := hq0.cell 6; have hq0f6 := hq0.free 6; have hq0l := hq0.lt; simp at hq0c0 hq0c1 hq0c2 hq0c3 hq0c4 hq0c5 hq0c6; refine Blk.thru (b := w.heap.size + 1) (arr := ?_) (t := ?_) ?_ hb6 ?_; rotate_left 2; (focus (exact blk)); intro hq1; have hq1c0 := hq1.cell 0; have hq1f0 := hq1.free 0; have hq1c1 := hq1.cell 1; have hq1f1 := hq1.free 1; have hq1c2 := hq1.cell 2; have hq1f2 := hq1.free 2; have hq1c3 := hq1.cell 3; have hq1f3 := hq1.free 3; have hq1l := hq1.lt; simp at hq1c0 hq1c1 hq1c2 hq1c3; refine Blk.thru (b := w1.heap.size) (arr := ?_) (t := ?_) ?_ hb6 ?_; rotate_left 2; (focus (exact blk)); intro hr1; have hr1c0 := hr1.cell 0; have hr1f0 := hr1.free 0; have hr1c1 := hr1.cell 1; have hr1f1 := hr1.free 1; have hr1l := hr1.lt; simp at hr1c0 hr1c1))
          go_ret
          exact ⟨rfl, by exact kpt⟩
        · have d8 : decide (p < UH) = true := by simp; omega
          by_cases h2 : p < UL
          · have d9 : decide (UL ≤ p) = false := by simp; omega
            have hs3 := hp2 h2
            clear hp1 hp2 h1 h2
            subst hs3
            go_wp2_with (first | (go_at_call 69; (with_reducible refine (o_one p _).mono ?_); rintro e w5 ⟨rfl, hb5⟩; refine Blk.thru (b := w.heap.size) (arr := ?_) (t := ?_) ?_ hb5 ?_; rotate_left 2; (focus (exact blk)); intro gq0; have gq0c0 := gq0.cell 0; have gq0f0 := gq0.free 0; have gq0c1 := gq0.cell 1; have gq0f1 := gq0.free 1; have gq0c2 := gq0.cell 2; have gq0f2 := gq0.free 2; have gq0c3 := gq0.cell 3; have gq0f3 := gq0.free 3; have gq0c4 := gq0.cell 4; have gq0f4 := gq0.free 4; have gq0c5 := gq0.cell 5; have gq0f5 := gq0.free 5; have gq0c6 := gq0.cell 6; have gq0f6 := gq0.free 6; have gq0l := gq0.lt; simp at gq0c0 gq0c1 gq0c2 gq0c3 gq0c4 gq0c5 gq0c6; refine Blk.thru (b := w.heap.size + 1) (arr := ?_) (t := ?_) ?_ hb5 ?_; rotate_left 2; (focus (exact blk)); intro gq1; have gq1c0 := gq1.cell 0; have gq1f0 := gq1.free 0; have gq1c1 := gq1.cell 1; have gq1f1 := gq1.free 1; have gq1c2 := gq1.cell 2; have gq1f2 := gq1.free 2; have gq1c3 := gq1.cell 3; have gq1f3 := gq1.free 3; have gq1l := gq1.lt; simp at gq1c0 gq1c1 gq1c2 gq1c3; refine Blk.thru (b := w1.heap.size) (arr := ?_) (t := ?_) ?_ hb5 ?_; rotate_left 2; (focus (exact blk)); intro gr1; have gr1c0 := gr1.cell 0; have gr1f0 := gr1.free 0; have gr1c1 := gr1.cell 1; have gr1f1 := gr1.free 1; have gr1l := gr1.lt; simp at gr1c0 gr1c1; refine Blk.thru (b := wr.heap.size) (arr := ?_) (t := ?_) ?_ hb5 ?_; rotate_left 2; (focus (exact blk)); intro gy0; have gy0c0 := gy0.cell 0; have gy0f0 := gy0.free 0; have gy0c1 := gy0.cell 1; have gy0f1 := gy0.free 1; have gy0c2 := gy0.cell 2; have gy0f2 := gy0.free 2; have gy0c3 := gy0.cell 3; have gy0f3 := gy0.free 3; have gy0l := gy0.lt; simp at gy0c0 gy0c1 gy0c2 gy0c3) | (go_at_call 24; (with_reducible refine (KPP.out _).mono ?_); rintro e w6 ⟨rfl, hb6⟩; refine Blk.thru (b := w.heap.size) (arr := ?_) (t := ?_) ?_ hb6 ?_; rotate_left 2; (focus (exact blk)); intro hq0; have hq0c0 := hq0.cell 0; have hq0f0 := hq0.free 0; have hq0c1 := hq0.cell 1; have hq0f1 := hq0.free 1; have hq0c2 := hq0.cell 2; have hq0f2 := hq0.free 2; have hq0c3 := hq0.cell 3; have hq0f3 := hq0.free 3; have hq0c4 := hq0.cell 4; have hq0f4 := hq0.free 4; have hq0c5 := hq0.cell 5; have hq0f5 := hq0.free 5; have hq0c6 := hq0.cell 6; have hq0f6 := hq0.free 6; have hq0l := hq0.lt; simp at hq0c0 hq0c1 hq0c2 hq0c3 hq0c4 hq0c5 hq0c6; refine Blk.thru (b := w.heap.size + 1) (arr := ?_) (t := ?_) ?_ hb6 ?_; rotate_left 2; (focus (exact blk)); intro hq1; have hq1c0 := hq1.cell 0; have hq1f0 := hq1.free 0; have hq1c1 := hq1.cell 1; have hq1f1 := hq1.free 1; have hq1c2 := hq1.cell 2; have hq1f2 := hq1.free 2; have hq1c3 := hq1.cell 3; have hq1f3 := hq1.free 3; have hq1l := hq1.lt; simp at hq1c0 hq1c1 hq1c2 hq1c3; refine Blk.thru (b := w1.heap.size) (arr := ?_) (t := ?_) ?_ hb6 ?_; rotate_left 2; (focus (exact blk)); intro hr1; have hr1c0 := hr1.cell 0; have hr1f0 := hr1.free 0; have hr1c1 := hr1.cell 1; have hr1f1 := hr1.free 1; have hr1l := hr1.lt; simp at hr1c0 hr1c1))
            go_ret
            exact ⟨rfl, by exact kpt⟩
          · have d9 : decide (UL ≤ p) = true := by simp; omega
            clear hp1 hp2 h1 h2
            go_wp2_with (first | (go_at_call 69; (with_reducible refine (o_one p _).mono ?_); rintro e w5 ⟨rfl, hb5⟩; refine Blk.thru (b := w.heap.size) (arr := ?_) (t := ?_) ?_ hb5 ?_; rotate_left 2; (focus (exact blk)); intro gq0; have gq0c0 := gq0.cell 0; have gq0f0 := gq0.free 0; have gq0c1 := gq0.cell 1; have gq0f1 := gq0.free 1; have gq0c2 := gq0.cell 2; have gq0f2 := gq0.free 2; have gq0c3 := gq0.cell 3; have gq0f3 := gq0.free 3; have gq0c4 := gq0.cell 4; have gq0f4 := gq0.free 4; have gq0c5 := gq0.cell 5; have gq0f5 := gq0.free 5; have gq0c6 := gq0.cell 6; have gq0f6 := gq0.free 6; have gq0l := gq0.lt; simp at gq0c0 gq0c1 gq0c2 gq0c3 gq0c4 gq0c5 gq0c6; refine Blk.thru (b := w.heap.size + 1) (arr := ?_) (t := ?_) ?_ hb5 ?_; rotate_left 2; (focus (exact blk)); intro gq1; have gq1c0 := gq1.cell 0; have gq1f0 := gq1.free 0; have gq1c1 := gq1.cell 1; have gq1f1 := gq1.free 1; have gq1c2 := gq1.cell 2; have gq1f2 := gq1.free 2; have gq1c3 := gq1.cell 3; have gq1f3 := gq1.free 3; have gq1l := gq1.lt; simp at gq1c0 gq1c1 gq1c2 gq1c3; refine Blk.thru (b := w1.heap.size) (arr := ?_) (t := ?_) ?_ hb5 ?_; rotate_left 2; (focus (exact blk)); intro gr1; have gr1c0 := gr1.cell 0; have gr1f0 := gr1.free 0; have gr1c1 := gr1.cell 1; have gr1f1 := gr1.free 1; have gr1l := gr1.lt; simp at gr1c0 gr1c1; refine Blk.thru (b := wr.heap.size) (arr := ?_) (t := ?_) ?_ hb5 ?_; rotate_left 2; (focus (exact blk)); intro gy0; have gy0c0 := gy0.cell 0; have gy0f0 := gy0.free 0; have gy0c1 := gy0.cell 1; have gy0f1 := gy0.free 1; have gy0c2 := gy0.cell 2; have gy0f2 := gy0.free 2; have gy0c3 := gy0.cell 3; have gy0f3 := gy0.free 3; have gy0l := gy0.lt; simp at gy0c0 gy0c1 gy0c2 gy0c3) | (go_at_call 24; (with_reducible refine (KPP.out _).mono ?_); rintro e w6 ⟨rfl, hb6⟩; refine Blk.thru (b := w.heap.size) (arr := ?_) (t := ?_) ?_ hb6 ?_; rotate_left 2; (focus (exact blk)); intro hq0; have hq0c0 := hq0.cell 0; have hq0f0 := hq0.free 0; have hq0c1 := hq0.cell 1; have hq0f1 := hq0.free 1; have hq0c2 := hq0.cell 2; have hq0f2 := hq0.free 2; have hq0c3 := hq0.cell 3; have hq0f3 := hq0.free 3; have hq0c4 := hq0.cell 4; have hq0f4 := hq0.free 4; have hq0c5 := hq0.cell 5; have hq0f5 := hq0.free 5; have hq0c6 := hq0.cell 6; have hq0f6 := hq0.free 6; have hq0l := hq0.lt; simp at hq0c0 hq0c1 hq0c2 hq0c3 hq0c4 hq0c5 hq0c6; refine Blk.thru (b := w.heap.size + 1) (arr := ?_) (t := ?_) ?_ hb6 ?_; rotate_left 2; (focus (exact blk)); intro hq1; have hq1c0 := hq1.cell 0; have hq1f0 := hq1.free 0; have hq1c1 := hq1.cell 1; have hq1f1 := hq1.free 1; have hq1c2 := hq1.cell 2; have hq1f2 := hq1.free 2; have hq1c3 := hq1.cell 3; have hq1f3 := hq1.free 3; have hq1l := hq1.lt; simp at hq1c0 hq1c1 hq1c2 hq1c3; refine Blk.thru (b := w1.heap.size) (arr := ?_) (t := ?_) ?_ hb6 ?_; rotate_left 2; (focus (exact blk)); intro hr1; have hr1c0 := hr1.cell 0; have hr1f0 := hr1.free 0; have hr1c1 := hr1.cell 1; have hr1f1 := hr1.free 1; have hr1l := hr1.lt; simp at hr1c0 hr1c1))
            go_ret
            exact ⟨rfl, by exact kpt⟩
      · go_wp2_with (first | (go_at_call 69; (with_reducible refine (o_one p _).mono ?_); rintro e w5 ⟨rfl, hb5⟩; refine Blk.thru (b := w.heap.size) (arr := ?_) (t := ?_) ?_ hb5 ?_; rotate_left 2; (focus (exact blk)); intro gq0; have gq0c0 := gq0.cell 0; have gq0f0 := gq0.free 0; have gq0c1 := gq0.cell 1; have gq0f1 := gq0.free 1; have gq0c2 := gq0.cell 2; have gq0f2 := gq0.free 2; have gq0c3 := gq0.cell 3; have gq0f3 := gq0.free 3; have gq0c4 := gq0.cell 4; have gq0f4 := gq0.free 4; have gq0c5 := gq0.cell 5; have gq0f5 := gq0.free 5; have gq0c6 := gq0.cell 6; have gq0f6 := gq0.free 6; have gq0l := gq0.lt; simp at gq0c0 gq0c1 gq0c2 gq0c3 gq0c4 gq0c5 gq0c6; refine Blk.thru (b := w.heap.size + 1) (arr := ?_) (t := ?_) ?_ hb5 ?_; rotate_left 2; (focus (exact blk)); intro gq1; have gq1c0 := gq1.cell 0; have gq1f0 := gq1.free 0; have gq1c1 := gq1.cell 1; have gq1f1 := gq1.free 1; have gq1c2 := gq1.cell 2; have gq1f2 := gq1.free 2; have gq1c3 := gq1.cell 3; have gq1f3 := gq1.free 3; have gq1l := gq1.lt; simp at gq1c0 gq1c1 gq1c2 gq1c3; refine Blk.thru (b := w1.heap.size) (arr := ?_) (t := ?_) ?_ hb5 ?_; rotate_left 2; (focus (exact blk)); intro gr1; have gr1c0 := gr1.cell 0; have gr1f0 := gr1.free 0; have gr1c1 := gr1.cell 1; have gr1f1 := gr1.free 1; have gr1l := gr1.lt; simp at gr1c0 gr1c1; refine Blk.thru (b := wr.heap.size) (arr := ?_) (t := ?_) ?_ hb5 ?_; rotate_left 2; (focus (exact blk)); intro gy0; have gy0c0 := gy0.cell 0; have gy0f0 := gy0.free 0; have gy0c1 := gy0.cell 1; have gy0f1 := gy0.free 1; have gy0c2 := gy0.cell 2; have gy0f2 := gy0.free 2; have gy0c3 := gy0.cell 3; have gy0f3 := gy0.free 3; have gy0l := gy0.lt; simp at gy0c0 gy0c1 gy0c2 gy0c3) | (go_at_call 24; (with_reducible refine (KPP.out _).mono ?_); rintro e w6 ⟨rfl, hb6⟩; refine Blk.thru (b := w.heap.size) (arr := ?_) (t := ?_) ?_ hb6 ?_; rotate_left 2; (focus (exact blk)); intro hq0; have hq0c0 := hq0.cell 0; have hq0f0 := hq0.free 0; have hq0c1 := hq0.cell 1; have hq0f1 := hq0.free 1; have hq0c2 := hq0.cell 2; have hq0f2 := hq0.free 2; have hq0c3 := hq0.cell 3; have hq0f3 := hq0.free 3; have hq0c4 := hq0.cell 4; have hq0f4 := hq0.free 4; have hq0c5 := hq0.cell 5; have hq0f5 := hq0.free 5; have hq0c6 := hq0.cell 6; have hq0f6 := hq0.free 6; have hq0l := hq0.lt; simp at hq0c0 hq0c1 hq0c2 hq0c3 hq0c4 hq0c5 hq0c6; refine Blk.thru (b := w.heap.size + 1) (arr := ?_) (t := ?_) ?_ hb6 ?_; rotate_left 2; (focus (exact blk)); intro hq1; have hq1c0 := hq1.cell 0; have hq1f0 := hq1.free 0; have hq1c1 := hq1.cell 1; have hq1f1 := hq1.free 1; have hq1c2 := hq1.cell 2; have hq1f2 := hq1.free 2; have hq1c3 := hq1.cell 3; have hq1f3 := hq1.free 3; have hq1l := hq1.lt; simp at hq1c0 hq1c1 hq1c2 hq1c3; refine Blk.thru (b := w1.heap.size) (arr := ?_) (t := ?_) ?_ hb6 ?_; rotate_left 2; (focus (exact blk)); intro hr1; have hr1c0 := hr1.cell 0; have hr1f0 := hr1.free 0; have hr1c1 := hr1.cell 1; have hr1f1 := hr1.free 1; have hr1l := hr1.lt; simp at hr1c0 hr1c1))
        go_ret
        exact ⟨rfl, by exact kpt⟩
theorem law_GasFull (c : Cell) (a : Air) (p : Int) (w : World) : Calls Try.prog 20 #[.agg #[.int .i64 c.room, .int .i64 c.helium, .int .i64 c.air, .int .i64 c.wlo, .int .i64 c.whi, .int .i64 c.leak, .int .i64 c.owed], .agg #[.int .i64 a.plo, .int .i64 a.phi, .int .i64 a.tlo, .int .i64 a.thi], .int .i64 p] w fun e w' => e = .returned (.bool true) ∧ Kept w w' := by
  cases hc : cellB c
  · exact law_GasFull_bad c a p w (by simp [asked, hc])
  · cases ha : airB a
    · exact law_GasFull_bad c a p w (by simp [asked, hc, checkAir, ha])
    · exact law_GasFull_ok c a p w hc ha

end Go.Proofs.Ytemafanncejeiaa

/-
  GasFull, the statement: for every input the call returns true and leaves the input alone.
-/
namespace Go.Proofs.Ytemafanncejeiaa.gasFull
open Go.ChangeShapes Go.WideShapes Go.ChangeAt Go.RowKit Bal Bal.Trim Bal.Gas
open Go.ChangeMaps (open_string shut_string)
set_option linter.unusedVariables false

theorem own : ownKnob Try.prog.godebug = none := by kernel_rfl
theorem laidOut : laidOutB Try.prog = true := by kernel_rfl

set_option maxRecDepth 100000 in
theorem lifted (os : Os) (started : os.Started) (H : Type) (enc : TypeId × Value → H) :
    ReturnsInHanded {} Try.checked os 20 .any (Rows.gasFullSpec.pre6 enc Try.prog Try.f20 Rows.gasFullRow.domain false) (Rows.gasFullSpec.post enc Try.prog Try.f20 false true false false) := by
  refine returnsInHanded_of_change (C := Try.checked) own started (by kernel_rfl) Try.func20
    (ChangeSpec.witness6 (enc := enc) (C := Try.checked) false ⟨#[], #[.agg #[.int .i64 0, .int .i64 0, .int .i64 0, .int .i64 0, .int .i64 0, .int .i64 0, .int .i64 0], .agg #[.int .i64 0, .int .i64 0, .int .i64 0, .int .i64 0], .int .i64 0], []⟩ 8 (by kernel_rfl) (by kernel_rfl) (by kernel_rfl) (by kernel_rfl)) ?_
  intro W base args ds gs before hval0 hW hcnd _
  have hval : ∀ (j : Nat) t v, Try.f20.params[j]? = some t → args[j]? = some v → Value.okWide Try.prog W .any base t v := hval0
  have hW' := hW
  obtain ⟨p, q, hA0, hV, rfl, hfz, hnd⟩ := hW
  have hA : DataW.TrodAll enc Try.prog W 0 (fun _ => true) true Try.f20.params.toList args.toList ds p := hA0
  rw [Try.params20] at hA hval
  obtain ⟨v0, vs0, d0, ds0, p0, q0, hargs, rfl, rfl, h0, r0⟩ := trodAll_cons hA
  obtain ⟨v1, vs1, d1, ds1, p1, q1, rfl, rfl, rfl, h1, r1⟩ := trodAll_cons r0
  obtain ⟨v2, vs2, d2, ds2, p2, q2, rfl, rfl, rfl, h2, r2⟩ := trodAll_cons r1
  obtain ⟨rfl, rfl, rfl⟩ := trodAll_nil r2
  obtain rfl : args = #[v0, v1, v2] := by cases args; simp_all
  obtain ⟨rfl, rfl⟩ := trodVars_none hV
  have k0 := h0
  have lt0 : ∀ x ∈ p0, x.block < W.heap.size := by obtain ⟨m, hm⟩ := k0; exact DataW.trod_lt m _ _ _ hm
  obtain ⟨a0, rfl, wf0⟩ := open_agg (n := 5) (fun _ h => Cell.of_leaves h) Try.underlying25 (by kernel_rfl) (hval 0 25 v0 rfl rfl) h0
  have k1 := h1
  have lt1 : ∀ x ∈ p1, x.block < W.heap.size := by obtain ⟨m, hm⟩ := k1; exact DataW.trod_lt m _ _ _ hm
  obtain ⟨a1, rfl, wf1⟩ := open_agg (n := 5) (fun _ h => Air.of_leaves h) Try.underlying27 (by kernel_rfl) (hval 1 27 v1 rfl rfl) h1
  obtain ⟨a2, rfl, rfl, rfl, w2⟩ := open_int Try.underlying3 (hval 2 3 v2 rfl rfl) h2
  clear hA0 hval0
  refine (law_GasFull a0 a1 a2 W).mono fun e W' ⟨he, bel⟩ => ?_
  subst he
  exact ⟨_, rfl, _, _, _, [], _, [], hW', trodAll_mk1 (shut_bool Try.underlying4 _), (trodAll_cons_mk (Below.trod laidOut (by kernel_rfl) (of_decide_eq_true (by kernel_rfl)) k0 bel lt0) (trodAll_cons_mk (Below.trod laidOut (by kernel_rfl) (of_decide_eq_true (by kernel_rfl)) k1 bel lt1) (trodAll_cons_mk (shut_int Try.underlying3 w2) trodAll_mk0))), rfl, bel.frame _, fun h => by cases h⟩

theorem joined : joinedFacts Try.prog 20 Try.f20 Rows.gasFullSpec Rows.gasFullRow = true := by
  unfold joinedFacts
  rw [mayEnter_is, liftsFinal_is, make_is]
  kernel_rfl
theorem over : Rows.gasFullRow.holds Try.pinned (OpenSpec.ofChange Rows.gasFullSpec) :=
  OpenClaim.holds_of_wide 20 Try.f20 rfl rfl rfl rfl rfl rfl rfl ⟨rfl, rfl, rfl, rfl, rfl⟩ rfl rfl rfl rfl rfl (by kernel_rfl) Try.func20 joined
    (of_decide_eq_true (by kernel_rfl)) (by unfold Func.isWrapper; first | (rw [if_pos (by decide +kernel)]; kernel_rfl) | (rw [if_neg (by decide +kernel)]; exact ⟨rfl, rfl⟩))
    (fun os started H enc _ => lifted os started H enc)
end Go.Proofs.Ytemafanncejeiaa.gasFull

namespace Go.Proofs.Ytemafanncejeiaa
theorem gasFull_holds : Rows.GasFullSaid := gasFull.over
#print axioms gasFull_holds
end Go.Proofs.Ytemafanncejeiaa
