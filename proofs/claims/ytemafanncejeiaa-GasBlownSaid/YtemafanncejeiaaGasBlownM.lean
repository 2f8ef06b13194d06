/-
  GasBlown, the statement: for every input the call returns true and leaves the input alone.
-/
import Derived.Test.YtemafanncejeiaaGasBaseM
import Derived.Test.YtemafanncejeiaaRows
set_option linter.unusedVariables false
set_option linter.unusedSimpArgs false
namespace Bal.Gas
open Bal.Trim
/-! What the functions answer, errors and all. -/
theorem ifOk_ok (x : Int) : ifOk 0 x = x := rfl
end Bal.Gas

namespace Bal.Gas
open Bal.Trim
theorem insG_in {lo hi : Int} (n : Int) (h : lo ≤ hi) : lo ≤ insG lo hi n ∧ insG lo hi n ≤ hi := by
  unfold insG
  have h1 := Int.emod_nonneg n (show hi - lo + 1 ≠ 0 by omega)
  have h2 := Int.emod_lt_of_pos n (show 0 < hi - lo + 1 by omega)
  omega
end Bal.Gas

/-
  A warmer cell lifts no less: plain Lean, no program in sight.
-/
namespace Bal.Gas
open Bal.Trim
/-- a cell with so much more superheat -/
def warmC (c : Cell) (b : Int) : Cell := { c with wlo := min (c.wlo + b) 300, whi := min (c.whi + b) 300 }
def coldC (c : Cell) : Cell := { c with wlo := 0, whi := 0 }
theorem warm_ok {c : Cell} {b : Int} (hc : cellB c = true) (hb : 0 ≤ b) : cellB (warmC c b) = true := by
  have h := cellB_iff.1 hc
  refine cellB_iff.2 ?_
  simp only [warmC]
  omega
theorem cold_ok {c : Cell} (hc : cellB c = true) : cellB (coldC c) = true := by
  have h := cellB_iff.1 hc
  refine cellB_iff.2 ?_
  simp only [coldC]
  omega
theorem warm_lift {c : Cell} {a : Air} {b : Int} (hc : cellB c = true) (ha : airB a = true) (hb : 0 ≤ b) : liftLo c a ≤ liftLo (warmC c b) a ∧ liftHi c a ≤ liftHi (warmC c b) a := by
  obtain ⟨n0, _⟩ := prod_bd hc ha
  obtain ⟨_, b1, b2, b3⟩ := airB_iff.1 ha
  obtain ⟨_, _, _, _, _, u3, u4, u5⟩ := cellB_iff.1 hc
  have m1 : pull c c.wlo ≤ pull (warmC c b) (warmC c b).wlo := by
    show 29 * amount c * c.wlo ≤ 29 * amount c * min (c.wlo + b) 300
    exact Int.mul_le_mul_of_nonneg_left (by omega) (by omega)
  have m2 : pull c c.whi ≤ pull (warmC c b) (warmC c b).whi := by
    show 29 * amount c * c.whi ≤ 29 * amount c * min (c.whi + b) 300
    exact Int.mul_le_mul_of_nonneg_left (by omega) (by omega)
  have d1 := Int.ediv_le_ediv (show 0 < a.tlo by omega) m1
  have d2 := Int.ediv_le_ediv (show 0 < a.thi by omega) m1
  have d3 := Int.ediv_le_ediv (show 0 < a.tlo by omega) (Int.neg_le_neg m2)
  have d4 := Int.ediv_le_ediv (show 0 < a.thi by omega) (Int.neg_le_neg m2)
  have eh : (warmC c b).helium = c.helium := rfl
  unfold liftLo liftHi
  rw [eh]
  omega
theorem warm_vol {c : Cell} {a : Air} {b : Int} (hc : cellB c = true) (ha : airB a = true) (hb : 0 ≤ b) : volLo c a ≤ volLo (warmC c b) a ∧ volHi c a ≤ volHi (warmC c b) a := by
  obtain ⟨n0, _⟩ := prod_bd hc ha
  obtain ⟨⟨p1, p2, p3⟩, b1, b2, b3⟩ := airB_iff.1 ha
  obtain ⟨_, _, _, _, _, u3, u4, u5⟩ := cellB_iff.1 hc
  have m1 : amount c * heatLo c a ≤ amount (warmC c b) * heatLo (warmC c b) a := by
    show amount c * (a.tlo + c.wlo) ≤ amount c * (a.tlo + min (c.wlo + b) 300)
    exact Int.mul_le_mul_of_nonneg_left (by omega) (by omega)
  have m2 : amount c * heatHi c a ≤ amount (warmC c b) * heatHi (warmC c b) a := by
    show amount c * (a.thi + c.whi) ≤ amount c * (a.thi + min (c.whi + b) 300)
    exact Int.mul_le_mul_of_nonneg_left (by omega) (by omega)
  have d1 := Int.ediv_le_ediv (show 0 < a.phi by omega) m1
  have d2 := Int.ediv_le_ediv (show 0 < a.plo by omega) (Int.neg_le_neg m2)
  unfold volLo volHi
  omega
theorem cold_lift (c : Cell) (a : Air) : liftLo (coldC c) a = 25 * c.helium ∧ liftHi (coldC c) a = 25 * c.helium := by
  have e1 : pull (coldC c) (coldC c).wlo = 0 := by show 29 * amount c * 0 = 0; simp
  have e2 : pull (coldC c) (coldC c).whi = 0 := by show 29 * amount c * 0 = 0; simp
  have eh : (coldC c).helium = c.helium := rfl
  unfold liftLo liftHi
  rw [e1, e2, eh]
  simp
def pressA (a : Air) (p q : Int) : Air := { a with plo := p, phi := q }
theorem press_lift (c : Cell) (a : Air) (p q : Int) : liftLo c (pressA a p q) = liftLo c a ∧ liftHi c (pressA a p q) = liftHi c a := ⟨rfl, rfl⟩
theorem press_asked {c : Cell} {a : Air} (hc : cellB c = true) (p q : Int) : asked c (pressA a p q) = 0 ∨ asked c (pressA a p q) = 30 := by
  unfold asked checkAir
  rw [hc]
  simp only [if_true]
  split <;> simp
end Bal.Gas

/-
  The roof: at its pressure a hull can be held, at no lesser one: plain Lean, no program in sight.
-/
namespace Bal.Gas
open Bal.Trim
theorem hung_cases (h : Hl) (a : Air) : hung h a = 0 ∨ hung h a = 30 ∨ hung h a = 33 := by
  unfold hung checkAir
  repeat (first | split | simp)
theorem blowE_cases (h : Hl) (a : Air) : blowE h a = 0 ∨ blowE h a = 6 ∨ blowE h a = 30 ∨ blowE h a = 33 := by
  have := hung_cases h a
  unfold blowE
  split
  · split <;> simp
  · omega
theorem roofCE_cases (h : Hl) (x y : Int) : roofCE h x y = 0 ∨ roofCE h x y = 6 ∨ roofCE h x y = 2 ∨ roofCE h x y = 33 := by
  unfold roofCE roofE
  split
  · split
    · split <;> simp
    · simp
  · simp
theorem hung_zero {h : Hl} {a : Air} (hz : hung h a = 0) : hullB h = true ∧ airB a = true := by
  unfold hung checkAir at hz
  cases h1 : hullB h
  · simp [h1] at hz
  · cases h2 : airB a
    · simp [h1, h2] at hz
    · exact ⟨rfl, rfl⟩
theorem blowE_hung {h : Hl} {a : Air} (hb : blowE h a = 0 ∨ blowE h a = 6) : hung h a = 0 := by
  by_cases h0 : hung h a = 0
  · exact h0
  · have := hung_cases h a
    unfold blowE at hb
    rw [if_neg h0] at hb
    omega
theorem roof_none {h : Hl} {x y p : Int} (hE : roofCE h x y = 6) (hF : blowE h (calm x y p) = 0 ∨ blowE h (calm x y p) = 6) : blowE h (calm x y p) = 6 ∧ roofCN h x y = 0 := by
  have hz := blowE_hung hF
  obtain ⟨h1, h2⟩ := hung_zero hz
  obtain ⟨⟨b1, _, b2⟩, b4, b5, b6⟩ := airB_iff.1 h2
  have hs : spanIn x y 1500 3500 = true := spanIn_iff.2 ⟨b4, b5, b6⟩
  have hr : roof h x y = none := by
    unfold roofCE at hE
    rw [if_pos h1, if_pos hs] at hE
    cases hr : roof h x y with
    | none => rfl
    | some k => rw [hr] at hE; simp [roofE] at hE
  have hN : roofCN h x y = 0 := by unfold roofCN; rw [if_pos h1, if_pos hs, hr]; rfl
  refine ⟨?_, hN⟩
  unfold roof firstOf at hr
  rw [List.find?_range_eq_none] at hr
  have hk := hr (p - 1000).toNat (by simp only at b1 b2; omega)
  simp only [roofs, Bool.not_eq_true', decide_eq_false_iff_not] at hk
  have ep : 1000 + ((p - 1000).toNat : Int) = p := by simp only at b1; omega
  rw [ep] at hk
  unfold blowE
  rw [if_pos hz, if_pos (by omega)]
theorem roof_some {h : Hl} {x y p : Int} (hE : roofCE h x y = 0) (hF : blowE h (calm x y p) = 0 ∨ blowE h (calm x y p) = 6) :
    (1000 ≤ roofCN h x y ∧ roofCN h x y ≤ 12000) ∧ blowE h (calm x y (roofCN h x y)) = 0 ∧ blowLo h (calm x y (roofCN h x y)) ≤ blowHi h (calm x y (roofCN h x y)) ∧ (p < roofCN h x y → blowE h (calm x y p) = 6) := by
  have hz := blowE_hung hF
  obtain ⟨h1, h2⟩ := hung_zero hz
  obtain ⟨⟨b1, _, b2⟩, b4, b5, b6⟩ := airB_iff.1 h2
  have hs : spanIn x y 1500 3500 = true := spanIn_iff.2 ⟨b4, b5, b6⟩
  obtain ⟨k, hr⟩ : ∃ k, roof h x y = some k := by
    unfold roofCE at hE
    rw [if_pos h1, if_pos hs] at hE
    cases hr : roof h x y with
    | none => rw [hr] at hE; simp [roofE] at hE
    | some k => exact ⟨k, rfl⟩
  have hN : roofCN h x y = 1000 + k := by unfold roofCN; rw [if_pos h1, if_pos hs, hr]; rfl
  unfold roof firstOf at hr
  rw [List.find?_range_eq_some] at hr
  obtain ⟨q1, q2, q3⟩ := hr
  have hk : k < 11001 := by simpa using q2
  simp only [roofs, decide_eq_true_eq] at q1
  rw [hN]
  have hc : hung h (calm x y (1000 + k)) = 0 := by unfold hung checkAir; rw [if_pos h1, if_pos (calm_B hs (by omega))]
  refine ⟨by omega, ?_, q1, fun hp => ?_⟩
  · unfold blowE
    rw [if_pos hc, if_neg (by omega)]
  · have hj := q3 (p - 1000).toNat (by simp only at b1; omega)
    simp only [roofs, Bool.not_eq_true', decide_eq_false_iff_not] at hj
    have ep : 1000 + ((p - 1000).toNat : Int) = p := by simp only at b1; omega
    rw [ep] at hj
    unfold blowE
    rw [if_pos hz, if_pos (by omega)]
end Bal.Gas

/-
  A hull and what its ballonet holds: plain Lean, no program in sight.
-/
namespace Bal.Gas
open Bal.Trim
/-- what there is inside, over what is outside, times the room -/
def innerG (h : Hl) (p t v : Int) : Int := h.gas * (t + v) + h.ballonet * t - p * h.room
theorem inner_in {h : Hl} {a : Air} {p t v : Int} (hc : hullB h = true) (hp : a.plo ≤ p ∧ p ≤ a.phi) (ht : a.tlo ≤ t ∧ t ≤ a.thi) (hv : h.wlo ≤ v ∧ v ≤ h.whi) :
    pressLo h a.tlo - a.phi * h.room ≤ innerG h p t v ∧ innerG h p t v ≤ pressHi h a.thi - a.plo * h.room := by
  obtain ⟨h1, h2, h3, h4, h5⟩ := hullB_iff.1 hc
  have m1 := Int.mul_le_mul_of_nonneg_left (show a.tlo ≤ t by omega) (show 0 ≤ h.gas + h.ballonet by omega)
  have m2 := Int.mul_le_mul_of_nonneg_left (show t ≤ a.thi by omega) (show 0 ≤ h.gas + h.ballonet by omega)
  have m3 := Int.mul_le_mul_of_nonneg_left hv.1 (show 0 ≤ h.gas by omega)
  have m4 := Int.mul_le_mul_of_nonneg_left hv.2 (show 0 ≤ h.gas by omega)
  have m5 := Int.mul_le_mul_of_nonneg_right hp.1 (show 0 ≤ h.room by omega)
  have m6 := Int.mul_le_mul_of_nonneg_right hp.2 (show 0 ≤ h.room by omega)
  have e1 : h.gas * (t + v) + h.ballonet * t = (h.gas + h.ballonet) * t + h.gas * v := by
    rw [Int.mul_add, Int.add_mul]
    omega
  unfold innerG pressLo pressHi
  rw [e1]
  omega
theorem inner_over {h : Hl} {a : Air} {p t v : Int} (hc : hullB h = true) (hp : a.plo ≤ p ∧ p ≤ a.phi) (ht : a.tlo ≤ t ∧ t ≤ a.thi) (hv : h.wlo ≤ v ∧ v ≤ h.whi) :
    overLo h a * h.room ≤ innerG h p t v ∧ innerG h p t v ≤ overHi h a * h.room := by
  obtain ⟨h1, h2, h3, h4, h5⟩ := hullB_iff.1 hc
  obtain ⟨i1, i2⟩ := inner_in hc hp ht hv
  have f1 : pressLo h a.tlo / h.room * h.room ≤ pressLo h a.tlo := Int.ediv_mul_le _ (by omega)
  have f2 : (-pressHi h a.thi) / h.room * h.room ≤ -pressHi h a.thi := Int.ediv_mul_le _ (by omega)
  unfold overLo overHi
  rw [Int.sub_mul, Int.sub_mul, Int.neg_mul]
  omega
theorem inner_held {h : Hl} {a : Air} {p t v : Int} (hc : hullB h = true) (hp : a.plo ≤ p ∧ p ≤ a.phi) (ht : a.tlo ≤ t ∧ t ≤ a.thi) (hv : h.wlo ≤ v ∧ v ≤ h.whi) (hb : holdsB h a = true) :
    h.least * h.room ≤ innerG h p t v ∧ innerG h p t v ≤ h.most * h.room := by
  obtain ⟨i1, i2⟩ := inner_in hc hp ht hv
  simp only [holdsB, Bool.and_eq_true, decide_eq_true_eq, Int.add_mul] at hb
  omega
theorem over_bd {h : Hl} {a : Air} (hc : hullB h = true) (ha : airB a = true) : (-200000000000 ≤ overLo h a ∧ overLo h a ≤ 200000000000) ∧ (-200000000000 ≤ overHi h a ∧ overHi h a ≤ 200000000000) := by
  obtain ⟨h1, h2, h3, h4, h5⟩ := hullB_iff.1 hc
  obtain ⟨h7, h8⟩ := airB_iff.1 ha
  obtain ⟨_, p, q⟩ := press_bd hc h8
  have d1 := div_bd (N := 100000000000) (a := pressLo h a.tlo) (b := h.room) (by unfold pressLo; omega) (by unfold pressLo; omega) (by omega) (by omega)
  have d2 := div_bd (N := 100000000000) (a := -pressHi h a.thi) (b := h.room) (by unfold pressHi; omega) (by unfold pressHi; omega) (by omega) (by omega)
  unfold overLo overHi
  omega
theorem with_B {h : Hl} {m : Int} (hc : hullB h = true) (hm : 0 ≤ m ∧ m ≤ h.bag) : hullB { h with ballonet := m } = true := by
  obtain ⟨h1, h2, h3, h4, h5⟩ := hullB_iff.1 hc
  exact hullB_iff.2 ⟨h1, h2, ⟨hm.1, hm.2, h3.2.2⟩, h4, h5⟩
/-- it holds with m in its ballonet exactly if m is in the span -/
theorem holds_iff {h : Hl} {a : Air} {m : Int} (ha : airB a = true) (hm : 0 ≤ m ∧ m ≤ h.bag) : holdsB { h with ballonet := m } a = true ↔ blowLo h a ≤ m ∧ m ≤ blowHi h a := by
  obtain ⟨_, h8⟩ := airB_iff.1 ha
  have e1 : -(m) ≤ (-((a.phi + h.least) * h.room - pressLo (bare h) a.tlo)) / a.tlo ↔ -m * a.tlo ≤ -((a.phi + h.least) * h.room - pressLo (bare h) a.tlo) := Int.le_ediv_iff_mul_le (by omega)
  have e2 : m ≤ ((a.plo + h.most) * h.room - pressHi (bare h) a.thi) / a.thi ↔ m * a.thi ≤ (a.plo + h.most) * h.room - pressHi (bare h) a.thi := Int.le_ediv_iff_mul_le (by omega)
  have e3 : pressLo { h with ballonet := m } a.tlo = pressLo (bare h) a.tlo + m * a.tlo := by
    simp only [pressLo, Int.add_mul, Int.zero_mul]
    omega
  have e4 : pressHi { h with ballonet := m } a.thi = pressHi (bare h) a.thi + m * a.thi := by
    simp only [pressHi, Int.add_mul, Int.zero_mul]
    omega
  simp only [holdsB, Bool.and_eq_true, decide_eq_true_eq]
  rw [e3, e4]
  rw [Int.neg_mul] at e1
  unfold blowLo blowHi
  omega
theorem blown_span {h : Hl} {a : Air} (hc : hullB h = true) (ha : airB a = true) : 0 ≤ blowLo h a ∧ blowHi h a ≤ h.bag ∧ (blowE h a = 0 ∧ blowLo h a ≤ blowHi h a ∨ blowE h a = 6 ∧ blowHi h a < blowLo h a) := by
  have hz := hung_ok hc ha
  have h1 : 0 ≤ blowLo h a := by unfold blowLo; omega
  have h2 : blowHi h a ≤ h.bag := by unfold blowHi; omega
  unfold blowE
  rw [if_pos hz]
  split
  · exact ⟨h1, h2, .inr ⟨rfl, by assumption⟩⟩
  · exact ⟨h1, h2, .inl ⟨rfl, by omega⟩⟩
end Bal.Gas

/-
  GasBlown: a hull and its ballonet: the walk.
-/
namespace Go.Proofs.Ytemafanncejeiaa
open Go.RowKit Bal Bal.Trim Bal.Gas
set_option linter.unusedVariables false
set_option linter.unusedSimpArgs false
set_option maxHeartbeats 4000000
set_option maxRecDepth 100000

theorem law_GasBlown_bad (h : Hl) (a : Air) (n x y z : Int) (w : World) (E : Int) (hE : E = 30 ∨ E = 33) (hA : hung h a = E) : Calls Try.prog 17 #[.agg #[.int .i64 h.room, .int .i64 h.gas, .int .i64 h.wlo, .int .i64 h.whi, .int .i64 h.ballonet, .int .i64 h.bag, .int .i64 h.least, .int .i64 h.most], .agg #[.int .i64 a.plo, .int .i64 a.phi, .int .i64 a.tlo, .int .i64 a.thi], .int .i64 n, .int .u16 x, .int .u16 y, .int .u16 z] w fun e w' => e = .returned (.bool true) ∧ Kept w w' := by
  have hB : blowE h a = E := by
    unfold blowE
    rw [hA, if_neg (by omega)]
  have KB := Lib.hid (fun W => f_BlowC h a W)
  rw [hB] at KB
  obtain ⟨z1, hz1⟩ : ∃ n, n = Bal.Gas.ifOk E (blowLo h a) := ⟨_, rfl⟩
  obtain ⟨z2, hz2⟩ : ∃ n, n = Bal.Gas.ifOk E (blowHi h a) := ⟨_, rfl⟩
  rw [← hz1, ← hz2] at KB
  have hC : checkHull h ≠ 0 ∨ checkHull h = 0 ∧ checkAir a ≠ 0 := by
    unfold hung at hA
    unfold checkHull
    cases h1 : hullB h
    · left; simp
    · right
      rw [h1] at hA
      simp only [if_true] at hA ⊢
      exact ⟨trivial, by omega⟩
  have KH := Lib.hid (fun W => f_CheckHull h W)
  have KA := Lib.hid (fun W => f_CheckAir a W)
  obtain ⟨u1, hu1⟩ : ∃ n, n = checkHull h := ⟨_, rfl⟩
  obtain ⟨u2, hu2⟩ : ∃ n, n = checkAir a := ⟨_, rfl⟩
  rw [← hu1] at KH hC
  rw [← hu2] at KA hC
  clear hu1 hu2 hz1 hz2 hA hB
  rcases hC with h0 | ⟨rfl, h0⟩
  · have e0 : (u1 != 0) = true := by simpa using h0
    have e1 : (u1 == 0) = false := by simpa using h0
    clear h0
    rcases hE with rfl | rfl
    all_goals
      go_enter Try.func17, Try.ntmps17
      go_wp2_with (first | (go_at_call 68; (with_reducible refine (o_alive _).mono ?_); rintro e wa ⟨rfl, hba⟩; refine Blk.thru (b := w.heap.size) (arr := ?_) (t := ?_) ?_ hba ?_; rotate_left 2; (focus (exact blk)); intro aq0; have aq0c0 := aq0.cell 0; have aq0f0 := aq0.free 0; have aq0c1 := aq0.cell 1; have aq0f1 := aq0.free 1; have aq0c2 := aq0.cell 2; have aq0f2 := aq0.free 2; have aq0c3 := aq0.cell 3; have aq0f3 := aq0.free 3; have aq0c4 := aq0.cell 4; have aq0f4 := aq0.free 4; have aq0c5 := aq0.cell 5; have aq0f5 := aq0.free 5; have aq0c6 := aq0.cell 6; have aq0f6 := aq0.free 6; have aq0c7 := aq0.cell 7; have aq0f7 := aq0.free 7; have aq0l := aq0.lt; simp at aq0c0 aq0c1 aq0c2 aq0c3 aq0c4 aq0c5 aq0c6 aq0c7; refine Blk.thru (b := w.heap.size + 1) (arr := ?_) (t := ?_) ?_ hba ?_; rotate_left 2; (focus (exact blk)); intro aq1; have aq1c0 := aq1.cell 0; have aq1f0 := aq1.free 0; have aq1c1 := aq1.cell 1; have aq1f1 := aq1.free 1; have aq1c2 := aq1.cell 2; have aq1f2 := aq1.free 2; have aq1c3 := aq1.cell 3; have aq1f3 := aq1.free 3; have aq1l := aq1.lt; simp at aq1c0 aq1c1 aq1c2 aq1c3) | (go_at_call 40; (with_reducible refine (KB.out _).mono ?_); rintro e w1 ⟨rfl, hb1⟩; refine Blk.thru (b := w.heap.size) (arr := ?_) (t := ?_) ?_ hb1 ?_; rotate_left 2; (focus (exact blk)); intro bq0; have bq0c0 := bq0.cell 0; have bq0f0 := bq0.free 0; have bq0c1 := bq0.cell 1; have bq0f1 := bq0.free 1; have bq0c2 := bq0.cell 2; have bq0f2 := bq0.free 2; have bq0c3 := bq0.cell 3; have bq0f3 := bq0.free 3; have bq0c4 := bq0.cell 4; have bq0f4 := bq0.free 4; have bq0c5 := bq0.cell 5; have bq0f5 := bq0.free 5; have bq0c6 := bq0.cell 6; have bq0f6 := bq0.free 6; have bq0c7 := bq0.cell 7; have bq0f7 := bq0.free 7; have bq0l := bq0.lt; simp at bq0c0 bq0c1 bq0c2 bq0c3 bq0c4 bq0c5 bq0c6 bq0c7; refine Blk.thru (b := w.heap.size + 1) (arr := ?_) (t := ?_) ?_ hb1 ?_; rotate_left 2; (focus (exact blk)); intro bq1; have bq1c0 := bq1.cell 0; have bq1f0 := bq1.free 0; have bq1c1 := bq1.cell 1; have bq1f1 := bq1.free 1; have bq1c2 := bq1.cell 2; have bq1f2 := bq1.free 2; have bq1c3 := bq1.cell 3; have bq1f3 := bq1.free 3; have bq1l := bq1.lt; simp at bq1c0 bq1c1 bq1c2 bq1c3) | (go_at_call 44; (with_reducible refine (KH.out _).mono ?_); rintro e w2 ⟨rfl, hb2⟩; refine Blk.thru (b := w.heap.size) (arr := ?_) (t := ?_) ?_ hb2 ?_; rotate_left 2; (focus (exact blk)); intro dq0; have dq0c0 := dq0.cell 0; have dq0f0 := dq0.free 0; have dq0c1 := dq0.cell 1; have dq0f1 := dq0.free 1; have dq0c2 := dq0.cell 2; have dq0f2 := dq0.free 2; have dq0c3 := dq0.cell 3; have dq0f3 := dq0.free 3; have dq0c4 := dq0.cell 4; have dq0f4 := dq0.free 4; have dq0c5 := dq0.cell 5; have dq0f5 := dq0.free 5; have dq0c6 := dq0.cell 6; have dq0f6 := dq0.free 6; have dq0c7 := dq0.cell 7; have dq0f7 := dq0.free 7; have dq0l := dq0.lt; simp at dq0c0 dq0c1 dq0c2 dq0c3 dq0c4 dq0c5 dq0c6 dq0c7; refine Blk.thru (b := w.heap.size + 1) (arr := ?_) (t := ?_) ?_ hb2 ?_; rotate_left 2; (focus (exact blk)); intro dq1; have dq1c0 := dq1.cell 0; have dq1f0 := dq1.free 0; have dq1c1 := dq1.cell 1; have dq1f1 := dq1.free 1; have dq1c2 := dq1.cell 2; have dq1f2 := dq1.free 2; have dq1c3 := dq1.cell 3; have dq1f3 := dq1.free 3; have dq1l := dq1.lt; simp at dq1c0 dq1c1 dq1c2 dq1c3) | (go_at_call 26; (with_reducible refine (KA.out _).mono ?_); rintro e w3 ⟨rfl, hb3⟩; refine Blk.thru (b := w.heap.size) (arr := ?_) (t := ?_) ?_ hb3 ?_; rotate_left 2; (focus (exact blk)); intro eq0; have eq0c0 := eq0.cell 0; have eq0f0 := eq0.free 0; have eq0c1 := eq0.cell 1; have eq0f1 := eq0.free 1; have eq0c2 := eq0.cell 2; have eq0f2 := eq0.free 2; have eq0c3 := eq0.cell 3; have eq0f3 := eq0.free 3; have eq0c4 := eq0.cell 4; have eq0f4 := eq0.free 4; have eq0c5 := eq0.cell 5; have eq0f5 := eq0.free 5; have eq0c6 := eq0.cell 6; have eq0f6 := eq0.free 6; have eq0c7 := eq0.cell 7; have eq0f7 := eq0.free 7; have eq0l := eq0.lt; simp at eq0c0 eq0c1 eq0c2 eq0c3 eq0c4 eq0c5 eq0c6 eq0c7; refine Blk.thru (b := w.heap.size + 1) (arr := ?_) (t := ?_) ?_ hb3 ?_; rotate_left 2; (focus (exact blk)); intro eq1; have eq1c0 := eq1.cell 0; have eq1f0 := eq1.free 0; have eq1c1 := eq1.cell 1; have eq1f1 := eq1.free 1; have eq1c2 := eq1.cell 2; have eq1f2 := eq1.free 2; have eq1c3 := eq1.cell 3; have eq1f3 := eq1.free 3; have eq1l := eq1.lt; simp at eq1c0 eq1c1 eq1c2 eq1c3))
      all_goals
        go_ret
        exact ⟨rfl, by (exact kpt)⟩
  · have e0 : (u2 != 0) = true := by simpa using h0
    have e1 : (u2 == 0) = false := by simpa using h0
    clear h0
    rcases hE with rfl | rfl
    all_goals
      go_enter Try.func17, Try.ntmps17
      go_wp2_with (first | (go_at_call 68; (with_reducible refine (o_alive _).mono ?_); rintro e wa ⟨rfl, hba⟩; refine Blk.thru (b := w.heap.size) (arr := ?_) (t := ?_) ?_ hba ?_; rotate_left 2; (focus (exact blk)); intro aq0; have aq0c0 := aq0.cell 0; have aq0f0 := aq0.free 0; have aq0c1 := aq0.cell 1; have aq0f1 := aq0.free 1; have aq0c2 := aq0.cell 2; have aq0f2 := aq0.free 2; have aq0c3 := aq0.cell 3; have aq0f3 := aq0.free 3; have aq0c4 := aq0.cell 4; have aq0f4 := aq0.free 4; have aq0c5 := aq0.cell 5; have aq0f5 := aq0.free 5; have aq0c6 := aq0.cell 6; have aq0f6 := aq0.free 6; have aq0c7 := aq0.cell 7; have aq0f7 := aq0.free 7; have aq0l := aq0.lt; simp at aq0c0 aq0c1 aq0c2 aq0c3 aq0c4 aq0c5 aq0c6 aq0c7; refine Blk.thru (b := w.heap.size + 1) (arr := ?_) (t := ?_) ?_ hba ?_; rotate_left 2; (focus (exact blk)); intro aq1; have aq1c0 := aq1.cell 0; have aq1f0 := aq1.free 0; have aq1c1 := aq1.cell 1; have aq1f1 := aq1.free 1; have aq1c2 := aq1.cell 2; have aq1f2 := aq1.free 2; have aq1c3 := aq1.cell 3; have aq1f3 := aq1.free 3; have aq1l := aq1.lt; simp at aq1c0 aq1c1 aq1c2 aq1c3) | (go_at_call 40; (with_reducible refine (KB.out _).mono ?_); rintro e w1 ⟨rfl, hb1⟩; refine Blk.thru (b := w.heap.size) (arr := ?_) (t := ?_) ?_ hb1 ?_; rotate_left 2; (focus (exact blk)); intro bq0; have bq0c0 := bq0.cell 0; have bq0f0 := bq0.free 0; have bq0c1 := bq0.cell 1; have bq0f1 := bq0.free 1; have bq0c2 := bq0.cell 2; have bq0f2 := bq0.free 2; have bq0c3 := bq0.cell 3; have bq0f3 := bq0.free 3; have bq0c4 := bq0.cell 4; have bq0f4 := bq0.free 4; have bq0c5 := bq0.cell 5; have bq0f5 := bq0.free 5; have bq0c6 := bq0.cell 6; have bq0f6 := bq0.free 6; have bq0c7 := bq0.cell 7; have bq0f7 := bq0.free 7; have bq0l := bq0.lt; simp at bq0c0 bq0c1 bq0c2 bq0c3 bq0c4 bq0c5 bq0c6 bq0c7; refine Blk.thru (b := w.heap.size + 1) (arr := ?_) (t := ?_) ?_ hb1 ?_; rotate_left 2; (focus (exact blk)); intro bq1; have bq1c0 := bq1.cell 0; have bq1f0 := bq1.free 0; have bq1c1 := bq1.cell 1; have bq1f1 := bq1.free 1; have bq1c2 := bq1.cell 2; have bq1f2 := bq1.free 2; have bq1c3 := bq1.cell 3; have bq1f3 := bq1.free 3; have bq1l := bq1.lt; simp at bq1c0 bq1c1 bq1c2 bq1c3) | (go_at_call 44; (with_reducible refine (KH.out _).mono ?_); rintro e w2 ⟨rfl, hb2⟩; refine Blk.thru (b := w.heap.size) (arr := ?_) (t := ?_) ?_ hb2 ?_; rotate_left 2; (focus (exact blk)); intro dq0; have dq0c0 := dq0.cell 0; have dq0f0 := dq0.free 0; have dq0c1 := dq0.cell 1; have dq0f1 := dq0.free 1; have dq0c2 := dq0.cell 2; have dq0f2 := dq0.free 2; have dq0c3 := dq0.cell 3; have dq0f3 := dq0.free 3; have dq0c4 := dq0.cell 4; have dq0f4 := dq0.free 4; have dq0c5 := dq0.cell 5; have dq0f5 := dq0.free 5; have dq0c6 := dq0.cell 6; have dq0f6 := dq0.free 6; have dq0c7 := dq0.cell 7; have dq0f7 := dq0.free 7; have dq0l := dq0.lt; simp at dq0c0 dq0c1 dq0c2 dq0c3 dq0c4 dq0c5 dq0c6 dq0c7; refine Blk.thru (b := w.heap.size + 1) (arr := ?_) (t := ?_) ?_ hb2 ?_; rotate_left 2; (focus (exact blk)); intro dq1; have dq1c0 := dq1.cell 0; have dq1f0 := dq1.free 0; have dq1c1 := dq1.cell 1; have dq1f1 := dq1.free 1; have dq1c2 := dq1.cell 2; have dq1f2 := dq1.free 2; have dq1c3 := dq1.cell 3; have dq1f3 := dq1.free 3; have dq1l := dq1.lt; simp at dq1c0 dq1c1 dq1c2 dq1c3) | (go_at_call 26; (with_reducible refine (KA.out _).mono ?_); rintro e w3 ⟨rfl, hb3⟩; refine Blk.thru (b := w.heap.size) (arr := ?_) (t := ?_) ?_ hb3 ?_; rotate_left 2; (focus (exact blk)); intro eq0; have eq0c0 := eq0.cell 0; have eq0f0 := eq0.free 0; have eq0c1 := eq0.cell 1; have eq0f1 := eq0.free 1; have eq0c2 := eq0.cell 2; have eq0f2 := eq0.free 2; have eq0c3 := eq0.cell 3; have eq0f3 := eq0.free 3; have eq0c4 := eq0.cell 4; have eq0f4 := eq0.free 4; have eq0c5 := eq0.cell 5; have eq0f5 := eq0.free 5; have eq0c6 := eq0.cell 6; have eq0f6 := eq0.free 6; have eq0c7 := eq0.cell 7; have eq0f7 := eq0.free 7; have eq0l := eq0.lt; simp at eq0c0 eq0c1 eq0c2 eq0c3 eq0c4 eq0c5 eq0c6 eq0c7; refine Blk.thru (b := w.heap.size + 1) (arr := ?_) (t := ?_) ?_ hb3 ?_; rotate_left 2; (focus (exact blk)); intro eq1; have eq1c0 := eq1.cell 0; have eq1f0 := eq1.free 0; have eq1c1 := eq1.cell 1; have eq1f1 := eq1.free 1; have eq1c2 := eq1.cell 2; have eq1f2 := eq1.free 2; have eq1c3 := eq1.cell 3; have eq1f3 := eq1.free 3; have eq1l := eq1.lt; simp at eq1c0 eq1c1 eq1c2 eq1c3))
      all_goals
        go_ret
        exact ⟨rfl, by (exact kpt)⟩

end Go.Proofs.Ytemafanncejeiaa

/-
  GasBlown: a hull and its ballonet: the walk, error 0.
-/
namespace Go.Proofs.Ytemafanncejeiaa
open Go.RowKit Bal Bal.Trim Bal.Gas
set_option linter.unusedVariables false
set_option linter.unusedSimpArgs false
set_option maxHeartbeats 4000000
set_option maxRecDepth 100000

theorem law_GasBlown_0 (h : Hl) (a : Air) (n x y z : Int) (w : World) (hx : 0 ≤ x ∧ x ≤ 65535) (hy : 0 ≤ y ∧ y ≤ 65535) (hz : 0 ≤ z ∧ z ≤ 65535) (hc : hullB h = true) (ha : airB a = true) (hE : blowE h a = 0) : Calls Try.prog 17 #[.agg #[.int .i64 h.room, .int .i64 h.gas, .int .i64 h.wlo, .int .i64 h.whi, .int .i64 h.ballonet, .int .i64 h.bag, .int .i64 h.least, .int .i64 h.most], .agg #[.int .i64 a.plo, .int .i64 a.phi, .int .i64 a.tlo, .int .i64 a.thi], .int .i64 n, .int .u16 x, .int .u16 y, .int .u16 z] w fun e w' => e = .returned (.bool true) ∧ Kept w w' := by
  obtain ⟨⟨b1, b2, b3⟩, b4, b5, b6⟩ := airB_iff.1 ha
  obtain ⟨⟨r1, r2⟩, ⟨e1, e2⟩, ⟨e3, e4, e5⟩, ⟨u0, u1, u2⟩, u3, u4, u5⟩ := hullB_iff.1 hc
  have i1 := insG_in x b2
  have i2 := insG_in y b5
  have i3 := insG_in z u4
  have KI1 := Lib.hid (fun W => o_inside a.plo a.phi x W (by omega) b2 (by omega) hx)
  have KI2 := Lib.hid (fun W => o_inside a.tlo a.thi y W (by omega) b5 (by omega) hy)
  have KI3 := Lib.hid (fun W => o_inside h.wlo h.whi z W (by omega) u4 (by omega) hz)
  obtain ⟨p, hp⟩ : ∃ n, n = insG a.plo a.phi x := ⟨_, rfl⟩
  obtain ⟨t, ht⟩ : ∃ n, n = insG a.tlo a.thi y := ⟨_, rfl⟩
  obtain ⟨v, hv⟩ : ∃ n, n = insG h.wlo h.whi z := ⟨_, rfl⟩
  rw [← hp] at i1 KI1
  rw [← ht] at i2 KI2
  rw [← hv] at i3 KI3
  clear hp ht hv
  have H1 := inner_over hc i1 i2 i3
  have H2 := inner_held hc i1 i2 i3 (a := a)
  obtain ⟨⟨o1, o2⟩, o3, o4⟩ := over_bd hc ha
  obtain ⟨s0, s1, s2⟩ := blown_span hc ha
  have hun := hung_ok hc ha
  have KB0 := fun W => f_BlowC h a W
  have KO0 := fun W => f_OverC h a W
  have KH0 := fun W => f_HoldsC h a W
  have cH : checkHull h = 0 := by simp [checkHull, hc]
  have cA : checkAir a = 0 := by simp [checkAir, ha]
  have KCH0 := fun W => f_CheckHull h W
  have KCA0 := fun W => f_CheckAir a W
  rw [cH] at KCH0
  rw [cA] at KCA0
  rw [hE] at KB0 s2
  rw [hun] at KO0 KH0
  have HX := Lib.hid (show ∀ m : Int, 0 ≤ m → m ≤ h.bag → ∀ W, Calls Try.prog 38 #[.agg #[.int .i64 h.room, .int .i64 h.gas, .int .i64 h.wlo, .int .i64 h.whi, .int .i64 m, .int .i64 h.bag, .int .i64 h.least, .int .i64 h.most], .agg #[.int .i64 a.plo, .int .i64 a.phi, .int .i64 a.tlo, .int .i64 a.thi]] W fun e w' => e = .returned (.tuple #[.bool (decide (blowLo h a ≤ m) && decide (m ≤ blowHi h a)), .int .i64 0]) ∧ Kept W w' from fun m h0 h1 W => by
    have k := f_HoldsC { h with ballonet := m } a W
    have hm : hung { h with ballonet := m } a = 0 := hung_ok (with_B hc ⟨h0, h1⟩) ha
    rw [hm] at k
    have he : (decide ((0 : Int) = 0) && holdsB { h with ballonet := m } a) = (decide (blowLo h a ≤ m) && decide (m ≤ blowHi h a)) := by
      have := holds_iff ha ⟨h0, h1⟩ (h := h)
      rw [Bool.eq_iff_iff]
      simp only [decide_true, Bool.true_and, Bool.and_eq_true, decide_eq_true_eq]
      exact this
    rw [he] at k
    exact k)
  simp only [ifOk_ok, decide_true, Bool.true_and] at KO0 KH0
  simp only [ifOk_ok] at KB0
  obtain ⟨SL, hSL⟩ : ∃ n, n = blowLo h a := ⟨_, rfl⟩
  obtain ⟨SH, hSH⟩ : ∃ n, n = blowHi h a := ⟨_, rfl⟩
  rw [← hSL, ← hSH] at KB0 s2 HX
  rw [← hSL] at s0
  rw [← hSH] at s1
  clear hSL hSH
  have sB : 0 ≤ SL ∧ SL ≤ SH ∧ SH ≤ h.bag := by omega
  clear s0 s1 s2
  obtain ⟨OL, hOL⟩ : ∃ n, n = overLo h a := ⟨_, rfl⟩
  obtain ⟨OH, hOH⟩ : ∃ n, n = overHi h a := ⟨_, rfl⟩
  obtain ⟨HB, hHB⟩ : ∃ n, n = holdsB h a := ⟨_, rfl⟩
  rw [← hOL] at KO0 H1 o1 o2
  rw [← hOH] at KO0 H1 o3 o4
  rw [← hHB] at KH0 H2
  unfold innerG at H1 H2
  have KB := Lib.hid KB0
  have KO := Lib.hid KO0
  have KH := Lib.hid KH0
  have KCH := Lib.hid KCH0
  have KCA := Lib.hid KCA0
  clear KB0 KO0 KH0 KCH0 KCA0 hOL hOH hHB hE cH cA hun
  have m1 := mul_bd (A := 10000000) (B := 3800) (x := h.gas) (y := t + v) (by omega) (by omega) (by omega) (by omega)
  have m2 := mul_bd (A := 10000000) (B := 3500) (x := h.ballonet) (y := t) (by omega) (by omega) (by omega) (by omega)
  have m3 := mul_bd (A := 12000) (B := 10000000) (x := p) (y := h.room) (by omega) (by omega) (by omega) (by omega)
  have m4 := mul_bd (A := 200000000000) (B := 10000000) (x := OL) (y := h.room) (by omega) (by omega) (by omega) (by omega)
  have m5 := mul_bd (A := 200000000000) (B := 10000000) (x := OH) (y := h.room) (by omega) (by omega) (by omega) (by omega)
  have m6 := mul_bd (A := 500) (B := 10000000) (x := h.least) (y := h.room) (by omega) (by omega) (by omega) (by omega)
  have m7 := mul_bd (A := 500) (B := 10000000) (x := h.most) (y := h.room) (by omega) (by omega) (by omega) (by omega)
  have w1 := i64_inH (n := t + v) (by omega)
  have w2 := i64_inH (n := h.gas * (t + v)) (by omega)
  have w3 := i64_inH (n := h.ballonet * t) (by omega)
  have w4 := i64_inH (n := h.gas * (t + v) + h.ballonet * t) (by omega)
  have w5 := i64_inH (n := p * h.room) (by omega)
  have w6 := i64_inH (n := (h.gas * (t + v) + h.ballonet * t - p * h.room)) (by omega)
  have w7 := i64_inH (n := h.least * h.room) (by omega)
  have w8 := i64_inH (n := h.most * h.room) (by omega)
  have w9 := i64_inH (n := SL - 1) (by omega)
  have w10 := i64_inH (n := SH + 1) (by omega)
  have KV := Lib.hid (show ∀ W, Calls Try.prog 72 #[.agg #[.int .i64 OL, .int .i64 OH], .int .i64 (h.gas * (t + v) + h.ballonet * t - p * h.room), .int .i64 h.room] W fun e w' => e = .returned (.bool true) ∧ Kept W w' from fun W => by
    have k := o_over OL OH (h.gas * (t + v) + h.ballonet * t - p * h.room) h.room W (by omega) (by omega)
    rwa [show overG OL OH (h.gas * (t + v) + h.ballonet * t - p * h.room) h.room = true by simp only [overG, Bool.and_eq_true, decide_eq_true_eq]; exact H1] at k)
  have d8 : HB = true → decide ((h.gas * (t + v) + h.ballonet * t - p * h.room) < h.least * h.room) = false := fun hh => by have := H2 hh; simp only [decide_eq_false_iff_not]; omega
  have d9 : HB = true → decide (h.most * h.room < (h.gas * (t + v) + h.ballonet * t - p * h.room)) = false := fun hh => by have := H2 hh; simp only [decide_eq_false_iff_not]; omega
  have D8 := Lib.hid d8
  have D9 := Lib.hid d9
  have d1 : decide (SL < 0) = false := by simp; omega
  have d2 : decide (SH < SL) = false := by simp; omega
  have d3 : decide (h.bag < SH) = false := by simp; omega
  clear H1 H2 m1 m2 m3 m4 m5 m6 m7 o1 o2 o3 o4 d8 d9
  go_enter Try.func17, Try.ntmps17
  go_upto_region 9 with (first | (go_at_call 68; (with_reducible refine (o_alive _).mono ?_); rintro e wa ⟨rfl, hba⟩; refine Blk.thru (b := w.heap.size) (arr := ?_) (t := ?_) ?_ hba ?_; rotate_left 2; (focus (exact blk)); intro aq0; have aq0c0 := aq0.cell 0; have aq0f0 := aq0.free 0; have aq0c1 := aq0.cell 1; have aq0f1 := aq0.free 1; have aq0c2 := aq0.cell 2; have aq0f2 := aq0.free 2; have aq0c3 := aq0.cell 3; have aq0f3 := aq0.free 3; have aq0c4 := aq0.cell 4; have aq0f4 := aq0.free 4; have aq0c5 := aq0.cell 5; have aq0f5 := aq0.free 5; have aq0c6 := aq0.cell 6; have aq0f6 := aq0.free 6; have aq0c7 := aq0.cell 7; have aq0f7 := aq0.free 7; have aq0l := aq0.lt; simp at aq0c0 aq0c1 aq0c2 aq0c3 aq0c4 aq0c5 aq0c6 aq0c7; refine Blk.thru (b := w.heap.size + 1) (arr := ?_) (t := ?_) ?_ hba ?_; rotate_left 2; (focus (exact blk)); intro aq1; have aq1c0 := aq1.cell 0; have aq1f0 := aq1.free 0; have aq1c1 := aq1.cell 1; have aq1f1 := aq1.free 1; have aq1c2 := aq1.cell 2; have aq1f2 := aq1.free 2; have aq1c3 := aq1.cell 3; have aq1f3 := aq1.free 3; have aq1l := aq1.lt; simp at aq1c0 aq1c1 aq1c2 aq1c3) | (go_at_call 40; (with_reducible refine (KB.out _).mono ?_); rintro e w1 ⟨rfl, hb1⟩; refine Blk.thru (b := w.heap.size) (arr := ?_) (t := ?_) ?_ hb1 ?_; rotate_left 2; (focus (exact blk)); intro bq0; have bq0c0 := bq0.cell 0; have bq0f0 := bq0.free 0; have bq0c1 := bq0.cell 1; have bq0f1 := bq0.free 1; have bq0c2 := bq0.cell 2; have bq0f2 := bq0.free 2; have bq0c3 := bq0.cell 3; have bq0f3 := bq0.free 3; have bq0c4 := bq0.cell 4; have bq0f4 := bq0.free 4; have bq0c5 := bq0.cell 5; have bq0f5 := bq0.free 5; have bq0c6 := bq0.cell 6; have bq0f6 := bq0.free 6; have bq0c7 := bq0.cell 7; have bq0f7 := bq0.free 7; have bq0l := bq0.lt; simp at bq0c0 bq0c1 bq0c2 bq0c3 bq0c4 bq0c5 bq0c6 bq0c7; refine Blk.thru (b := w.heap.size + 1) (arr := ?_) (t := ?_) ?_ hb1 ?_; rotate_left 2; (focus (exact blk)); intro bq1; have bq1c0 := bq1.cell 0; have bq1f0 := bq1.free 0; have bq1c1 := bq1.cell 1; have bq1f1 := bq1.free 1; have bq1c2 := bq1.cell 2; have bq1f2 := bq1.free 2; have bq1c3 := bq1.cell 3; have bq1f3 := bq1.free 3; have bq1l := bq1.lt; simp at bq1c0 bq1c1 bq1c2 bq1c3) | (go_at_call 44; (with_reducible refine (KCH.out _).mono ?_); rintro e w2 ⟨rfl, hb2⟩; refine Blk.thru (b := w.heap.size) (arr := ?_) (t := ?_) ?_ hb2 ?_; rotate_left 2; (focus (exact blk)); intro dq0; have dq0c0 := dq0.cell 0; have dq0f0 := dq0.free 0; have dq0c1 := dq0.cell 1; have dq0f1 := dq0.free 1; have dq0c2 := dq0.cell 2; have dq0f2 := dq0.free 2; have dq0c3 := dq0.cell 3; have dq0f3 := dq0.free 3; have dq0c4 := dq0.cell 4; have dq0f4 := dq0.free 4; have dq0c5 := dq0.cell 5; have dq0f5 := dq0.free 5; have dq0c6 := dq0.cell 6; have dq0f6 := dq0.free 6; have dq0c7 := dq0.cell 7; have dq0f7 := dq0.free 7; have dq0l := dq0.lt; simp at dq0c0 dq0c1 dq0c2 dq0c3 dq0c4 dq0c5 dq0c6 dq0c7; refine Blk.thru (b := w.heap.size + 1) (arr := ?_) (t := ?_) ?_ hb2 ?_; rotate_left 2; (focus (exact blk)); intro dq1; have dq1c0 := dq1.cell 0; have dq1f0 := dq1.free 0; have dq1c1 := dq1.cell 1; have dq1f1 := dq1.free 1; have dq1c2 := dq1.cell 2; have dq1f2 := dq1.free 2; have dq1c3 := dq1.cell 3; have dq1f3 := dq1.free 3; have dq1l := dq1.lt; simp at dq1c0 dq1c1 dq1c2 dq1c3; refine Blk.thru (b := w1.heap.size) (arr := ?_) (t := ?_) ?_ hb2 ?_; rotate_left 2; (focus (exact blk)); intro dr1; have dr1c0 := dr1.cell 0; have dr1f0 := dr1.free 0; have dr1c1 := dr1.cell 1; have dr1f1 := dr1.free 1; have dr1l := dr1.lt; simp at dr1c0 dr1c1) | (go_at_call 26; (with_reducible refine (KCA.out _).mono ?_); rintro e w3 ⟨rfl, hb3⟩; refine Blk.thru (b := w.heap.size) (arr := ?_) (t := ?_) ?_ hb3 ?_; rotate_left 2; (focus (exact blk)); intro eq0; have eq0c0 := eq0.cell 0; have eq0f0 := eq0.free 0; have eq0c1 := eq0.cell 1; have eq0f1 := eq0.free 1; have eq0c2 := eq0.cell 2; have eq0f2 := eq0.free 2; have eq0c3 := eq0.cell 3; have eq0f3 := eq0.free 3; have eq0c4 := eq0.cell 4; have eq0f4 := eq0.free 4; have eq0c5 := eq0.cell 5; have eq0f5 := eq0.free 5; have eq0c6 := eq0.cell 6; have eq0f6 := eq0.free 6; have eq0c7 := eq0.cell 7; have eq0f7 := eq0.free 7; have eq0l := eq0.lt; simp at eq0c0 eq0c1 eq0c2 eq0c3 eq0c4 eq0c5 eq0c6 eq0c7; refine Blk.thru (b := w.heap.size + 1) (arr := ?_) (t := ?_) ?_ hb3 ?_; rotate_left 2; (focus (exact blk)); intro eq1; have eq1c0 := eq1.cell 0; have eq1f0 := eq1.free 0; have eq1c1 := eq1.cell 1; have eq1f1 := eq1.free 1; have eq1c2 := eq1.cell 2; have eq1f2 := eq1.free 2; have eq1c3 := eq1.cell 3; have eq1f3 := eq1.free 3; have eq1l := eq1.lt; simp at eq1c0 eq1c1 eq1c2 eq1c3; refine Blk.thru (b := w1.heap.size) (arr := ?_) (t := ?_) ?_ hb3 ?_; rotate_left 2; (focus (exact blk)); intro er1; have er1c0 := er1.cell 0; have er1f0 := er1.free 0; have er1c1 := er1.cell 1; have er1f1 := er1.free 1; have er1l := er1.lt; simp at er1c0 er1c1))
  refine at_world (S := fun V => Blk V (w.heap.size) #[.int .i64 h.room, .int .i64 h.gas, .int .i64 h.wlo, .int .i64 h.whi, .int .i64 h.ballonet, .int .i64 h.bag, .int .i64 h.least, .int .i64 h.most] 45 ∧ Blk V (w.heap.size + 1) #[.int .i64 a.plo, .int .i64 a.phi, .int .i64 a.tlo, .int .i64 a.thi] 27 ∧ Blk V (w1.heap.size) #[.int .i64 SL, .int .i64 SH] 23 ∧ Kept w V) ⟨by exact blk, by exact blk, by exact blk, by exact kpt⟩ ?_
  rintro V ⟨q0, q1, r1, hkV⟩
  have q0c0 := fun g : Later V => (q0.later g).cell 0
  have q0f0 := fun g : Later V => (q0.later g).free 0
  have q0c1 := fun g : Later V => (q0.later g).cell 1
  have q0f1 := fun g : Later V => (q0.later g).free 1
  have q0c2 := fun g : Later V => (q0.later g).cell 2
  have q0f2 := fun g : Later V => (q0.later g).free 2
  have q0c3 := fun g : Later V => (q0.later g).cell 3
  have q0f3 := fun g : Later V => (q0.later g).free 3
  have q0c4 := fun g : Later V => (q0.later g).cell 4
  have q0f4 := fun g : Later V => (q0.later g).free 4
  have q0c5 := fun g : Later V => (q0.later g).cell 5
  have q0f5 := fun g : Later V => (q0.later g).free 5
  have q0c6 := fun g : Later V => (q0.later g).cell 6
  have q0f6 := fun g : Later V => (q0.later g).free 6
  have q0c7 := fun g : Later V => (q0.later g).cell 7
  have q0f7 := fun g : Later V => (q0.later g).free 7
  have q0l := fun g : Later V => (q0.later g).lt
  simp at q0c0 q0c1 q0c2 q0c3 q0c4 q0c5 q0c6 q0c7
  have q1c0 := fun g : Later V => (q1.later g).cell 0
  have q1f0 := fun g : Later V => (q1.later g).free 0
  have q1c1 := fun g : Later V => (q1.later g).cell 1
  have q1f1 := fun g : Later V => (q1.later g).free 1
  have q1c2 := fun g : Later V => (q1.later g).cell 2
  have q1f2 := fun g : Later V => (q1.later g).free 2
  have q1c3 := fun g : Later V => (q1.later g).cell 3
  have q1f3 := fun g : Later V => (q1.later g).free 3
  have q1l := fun g : Later V => (q1.later g).lt
  simp at q1c0 q1c1 q1c2 q1c3
  refine Later.region (by kernel_rfl) (by kernel_rfl) ?_
  repeat (first | go_big_quiet_skip | (go_big_quiet_want; go_big_quiet_op; first | go_big_quiet_on | (apply Exists.intro; refine ⟨fun g_ => ?_, ?_⟩; (focus (first | (go_at_call 71; with_reducible exact Later.call (KI1.out _)) | (go_at_call 71; with_reducible exact Later.call (KI2.out _)) | (go_at_call 71; with_reducible exact Later.call (KI3.out _)))); go_big_quiet_on)))
  refine wpQuiet_nil ?_
  intro gg
  clear q0c0 q0f0 q0c1 q0f1 q0c2 q0f2 q0c3 q0f3 q0c4 q0f4 q0c5 q0f5 q0c6 q0f6 q0c7 q0f7 q0l q1c0 q1f0 q1c1 q1f1 q1c2 q1f2 q1c3 q1f3 q1l
  have nq0 := q0.later gg
  have nq1 := q1.later gg
  have nr1 := r1.later gg
  have hkg := Kept.drop hkV gg.ok
  clear hkV q0 q1 r1
  have nq0c0 := nq0.cell 0
  have nq0f0 := nq0.free 0
  have nq0c1 := nq0.cell 1
  have nq0f1 := nq0.free 1
  have nq0c2 := nq0.cell 2
  have nq0f2 := nq0.free 2
  have nq0c3 := nq0.cell 3
  have nq0f3 := nq0.free 3
  have nq0c4 := nq0.cell 4
  have nq0f4 := nq0.free 4
  have nq0c5 := nq0.cell 5
  have nq0f5 := nq0.free 5
  have nq0c6 := nq0.cell 6
  have nq0f6 := nq0.free 6
  have nq0c7 := nq0.cell 7
  have nq0f7 := nq0.free 7
  have nq0l := nq0.lt
  simp at nq0c0 nq0c1 nq0c2 nq0c3 nq0c4 nq0c5 nq0c6 nq0c7
  have nq1c0 := nq1.cell 0
  have nq1f0 := nq1.free 0
  have nq1c1 := nq1.cell 1
  have nq1f1 := nq1.free 1
  have nq1c2 := nq1.cell 2
  have nq1f2 := nq1.free 2
  have nq1c3 := nq1.cell 3
  have nq1f3 := nq1.free 3
  have nq1l := nq1.lt
  simp at nq1c0 nq1c1 nq1c2 nq1c3
  have nr1c0 := nr1.cell 0
  have nr1f0 := nr1.free 0
  have nr1c1 := nr1.cell 1
  have nr1f1 := nr1.free 1
  have nr1l := nr1.lt
  simp at nr1c0 nr1c1
  go_upto_region 13 with (first | (go_at_call 36; (with_reducible refine (KO.out _).mono ?_); rintro e w4 ⟨rfl, hb4⟩; refine Blk.thru (b := w.heap.size) (arr := ?_) (t := ?_) ?_ hb4 ?_; rotate_left 2; (focus (exact blk)); intro gq0; have gq0c0 := gq0.cell 0; have gq0f0 := gq0.free 0; have gq0c1 := gq0.cell 1; have gq0f1 := gq0.free 1; have gq0c2 := gq0.cell 2; have gq0f2 := gq0.free 2; have gq0c3 := gq0.cell 3; have gq0f3 := gq0.free 3; have gq0c4 := gq0.cell 4; have gq0f4 := gq0.free 4; have gq0c5 := gq0.cell 5; have gq0f5 := gq0.free 5; have gq0c6 := gq0.cell 6; have gq0f6 := gq0.free 6; have gq0c7 := gq0.cell 7; have gq0f7 := gq0.free 7; have gq0l := gq0.lt; simp at gq0c0 gq0c1 gq0c2 gq0c3 gq0c4 gq0c5 gq0c6 gq0c7; refine Blk.thru (b := w.heap.size + 1) (arr := ?_) (t := ?_) ?_ hb4 ?_; rotate_left 2; (focus (exact blk)); intro gq1; have gq1c0 := gq1.cell 0; have gq1f0 := gq1.free 0; have gq1c1 := gq1.cell 1; have gq1f1 := gq1.free 1; have gq1c2 := gq1.cell 2; have gq1f2 := gq1.free 2; have gq1c3 := gq1.cell 3; have gq1f3 := gq1.free 3; have gq1l := gq1.lt; simp at gq1c0 gq1c1 gq1c2 gq1c3; refine Blk.thru (b := w1.heap.size) (arr := ?_) (t := ?_) ?_ hb4 ?_; rotate_left 2; (focus (exact blk)); intro gr1; have gr1c0 := gr1.cell 0; have gr1f0 := gr1.free 0; have gr1c1 := gr1.cell 1; have gr1f1 := gr1.free 1; have gr1l := gr1.lt; simp at gr1c0 gr1c1) | (go_at_call 38; (with_reducible refine (KH.out _).mono ?_); rintro e w5 ⟨rfl, hb5⟩; refine Blk.thru (b := w.heap.size) (arr := ?_) (t := ?_) ?_ hb5 ?_; rotate_left 2; (focus (exact blk)); intro kq0; have kq0c0 := kq0.cell 0; have kq0f0 := kq0.free 0; have kq0c1 := kq0.cell 1; have kq0f1 := kq0.free 1; have kq0c2 := kq0.cell 2; have kq0f2 := kq0.free 2; have kq0c3 := kq0.cell 3; have kq0f3 := kq0.free 3; have kq0c4 := kq0.cell 4; have kq0f4 := kq0.free 4; have kq0c5 := kq0.cell 5; have kq0f5 := kq0.free 5; have kq0c6 := kq0.cell 6; have kq0f6 := kq0.free 6; have kq0c7 := kq0.cell 7; have kq0f7 := kq0.free 7; have kq0l := kq0.lt; simp at kq0c0 kq0c1 kq0c2 kq0c3 kq0c4 kq0c5 kq0c6 kq0c7; refine Blk.thru (b := w.heap.size + 1) (arr := ?_) (t := ?_) ?_ hb5 ?_; rotate_left 2; (focus (exact blk)); intro kq1; have kq1c0 := kq1.cell 0; have kq1f0 := kq1.free 0; have kq1c1 := kq1.cell 1; have kq1f1 := kq1.free 1; have kq1c2 := kq1.cell 2; have kq1f2 := kq1.free 2; have kq1c3 := kq1.cell 3; have kq1f3 := kq1.free 3; have kq1l := kq1.lt; simp at kq1c0 kq1c1 kq1c2 kq1c3; refine Blk.thru (b := w1.heap.size) (arr := ?_) (t := ?_) ?_ hb5 ?_; rotate_left 2; (focus (exact blk)); intro kr1; have kr1c0 := kr1.cell 0; have kr1f0 := kr1.free 0; have kr1c1 := kr1.cell 1; have kr1f1 := kr1.free 1; have kr1l := kr1.lt; simp at kr1c0 kr1c1; refine Blk.thru (b := w4.heap.size) (arr := ?_) (t := ?_) ?_ hb5 ?_; rotate_left 2; (focus (exact blk)); intro kr2; have kr2c0 := kr2.cell 0; have kr2f0 := kr2.free 0; have kr2c1 := kr2.cell 1; have kr2f1 := kr2.free 1; have kr2l := kr2.lt; simp at kr2c0 kr2c1))
  refine at_world (S := fun X => Blk X (w.heap.size) #[.int .i64 h.room, .int .i64 h.gas, .int .i64 h.wlo, .int .i64 h.whi, .int .i64 h.ballonet, .int .i64 h.bag, .int .i64 h.least, .int .i64 h.most] 45 ∧ Blk X (w.heap.size + 1) #[.int .i64 a.plo, .int .i64 a.phi, .int .i64 a.tlo, .int .i64 a.thi] 27 ∧ Blk X (w1.heap.size) #[.int .i64 SL, .int .i64 SH] 23 ∧ Blk X (w4.heap.size) #[.int .i64 OL, .int .i64 OH] 23 ∧ Kept w X) ⟨by exact blk, by exact blk, by exact blk, by exact blk, by exact kpt⟩ ?_
  rintro X ⟨q0, q1, r1, r2, hkX⟩
  have q0c0 := q0.cell 0
  have q0f0 := q0.free 0
  have q0c1 := q0.cell 1
  have q0f1 := q0.free 1
  have q0c2 := q0.cell 2
  have q0f2 := q0.free 2
  have q0c3 := q0.cell 3
  have q0f3 := q0.free 3
  have q0c4 := q0.cell 4
  have q0f4 := q0.free 4
  have q0c5 := q0.cell 5
  have q0f5 := q0.free 5
  have q0c6 := q0.cell 6
  have q0f6 := q0.free 6
  have q0c7 := q0.cell 7
  have q0f7 := q0.free 7
  have q0l := q0.lt
  simp at q0c0 q0c1 q0c2 q0c3 q0c4 q0c5 q0c6 q0c7
  have q1c0 := q1.cell 0
  have q1f0 := q1.free 0
  have q1c1 := q1.cell 1
  have q1f1 := q1.free 1
  have q1c2 := q1.cell 2
  have q1f2 := q1.free 2
  have q1c3 := q1.cell 3
  have q1f3 := q1.free 3
  have q1l := q1.lt
  simp at q1c0 q1c1 q1c2 q1c3
  have r1c0 := r1.cell 0
  have r1f0 := r1.free 0
  have r1c1 := r1.cell 1
  have r1f1 := r1.free 1
  have r1l := r1.lt
  simp at r1c0 r1c1
  have r2c0 := r2.cell 0
  have r2f0 := r2.free 0
  have r2c1 := r2.cell 1
  have r2f1 := r2.free 1
  have r2l := r2.lt
  simp at r2c0 r2c1
  go_cut [158] (fun s wx => s = .bool false ∧ Blk wx (w.heap.size) #[.int .i64 h.room, .int .i64 h.gas, .int .i64 h.wlo, .int .i64 h.whi, .int .i64 h.ballonet, .int .i64 h.bag, .int .i64 h.least, .int .i64 h.most] 45 ∧ Blk wx (w.heap.size + 1) #[.int .i64 a.plo, .int .i64 a.phi, .int .i64 a.tlo, .int .i64 a.thi] 27 ∧ Blk wx (w1.heap.size) #[.int .i64 SL, .int .i64 SH] 23 ∧ Kept w wx)
  case first =>
    cases HB
    · go_wp2_with (first | (go_at_call 72; (with_reducible refine (KV.out _).mono ?_); rintro e w6 ⟨rfl, hb6⟩; refine Blk.thru (b := w.heap.size) (arr := ?_) (t := ?_) ?_ hb6 ?_; rotate_left 2; (focus (exact blk)); intro mq0; have mq0c0 := mq0.cell 0; have mq0f0 := mq0.free 0; have mq0c1 := mq0.cell 1; have mq0f1 := mq0.free 1; have mq0c2 := mq0.cell 2; have mq0f2 := mq0.free 2; have mq0c3 := mq0.cell 3; have mq0f3 := mq0.free 3; have mq0c4 := mq0.cell 4; have mq0f4 := mq0.free 4; have mq0c5 := mq0.cell 5; have mq0f5 := mq0.free 5; have mq0c6 := mq0.cell 6; have mq0f6 := mq0.free 6; have mq0c7 := mq0.cell 7; have mq0f7 := mq0.free 7; have mq0l := mq0.lt; simp at mq0c0 mq0c1 mq0c2 mq0c3 mq0c4 mq0c5 mq0c6 mq0c7; refine Blk.thru (b := w.heap.size + 1) (arr := ?_) (t := ?_) ?_ hb6 ?_; rotate_left 2; (focus (exact blk)); intro mq1; have mq1c0 := mq1.cell 0; have mq1f0 := mq1.free 0; have mq1c1 := mq1.cell 1; have mq1f1 := mq1.free 1; have mq1c2 := mq1.cell 2; have mq1f2 := mq1.free 2; have mq1c3 := mq1.cell 3; have mq1f3 := mq1.free 3; have mq1l := mq1.lt; simp at mq1c0 mq1c1 mq1c2 mq1c3; refine Blk.thru (b := w1.heap.size) (arr := ?_) (t := ?_) ?_ hb6 ?_; rotate_left 2; (focus (exact blk)); intro mr1; have mr1c0 := mr1.cell 0; have mr1f0 := mr1.free 0; have mr1c1 := mr1.cell 1; have mr1f1 := mr1.free 1; have mr1l := mr1.lt; simp at mr1c0 mr1c1; refine Blk.thru (b := w4.heap.size) (arr := ?_) (t := ?_) ?_ hb6 ?_; rotate_left 2; (focus (exact blk)); intro mr2; have mr2c0 := mr2.cell 0; have mr2f0 := mr2.free 0; have mr2c1 := mr2.cell 1; have mr2f1 := mr2.free 1; have mr2l := mr2.lt; simp at mr2c0 mr2c1))
      go_meet
      exact ⟨rfl, by exact blk, by exact blk, by exact blk, by exact kpt⟩
    · have d8 := D8.out rfl
      have d9 := D9.out rfl
      go_wp2_with (first | (go_at_call 72; (with_reducible refine (KV.out _).mono ?_); rintro e w6 ⟨rfl, hb6⟩; refine Blk.thru (b := w.heap.size) (arr := ?_) (t := ?_) ?_ hb6 ?_; rotate_left 2; (focus (exact blk)); intro mq0; have mq0c0 := mq0.cell 0; have mq0f0 := mq0.free 0; have mq0c1 := mq0.cell 1; have mq0f1 := mq0.free 1; have mq0c2 := mq0.cell 2; have mq0f2 := mq0.free 2; have mq0c3 := mq0.cell 3; have mq0f3 := mq0.free 3; have mq0c4 := mq0.cell 4; have mq0f4 := mq0.free 4; have mq0c5 := mq0.cell 5; have mq0f5 := mq0.free 5; have mq0c6 := mq0.cell 6; have mq0f6 := mq0.free 6; have mq0c7 := mq0.cell 7; have mq0f7 := mq0.free 7; have mq0l := mq0.lt; simp at mq0c0 mq0c1 mq0c2 mq0c3 mq0c4 mq0c5 mq0c6 mq0c7; refine Blk.thru (b := w.heap.size + 1) (arr := ?_) (t := ?_) ?_ hb6 ?_; rotate_left 2; (focus (exact blk)); intro mq1; have mq1c0 := mq1.cell 0; have mq1f0 := mq1.free 0; have mq1c1 := mq1.cell 1; have mq1f1 := mq1.free 1; have mq1c2 := mq1.cell 2; have mq1f2 := mq1.free 2; have mq1c3 := mq1.cell 3; have mq1f3 := mq1.free 3; have mq1l := mq1.lt; simp at mq1c0 mq1c1 mq1c2 mq1c3; refine Blk.thru (b := w1.heap.size) (arr := ?_) (t := ?_) ?_ hb6 ?_; rotate_left 2; (focus (exact blk)); intro mr1; have mr1c0 := mr1.cell 0; have mr1f0 := mr1.free 0; have mr1c1 := mr1.cell 1; have mr1f1 := mr1.free 1; have mr1l := mr1.lt; simp at mr1c0 mr1c1; refine Blk.thru (b := w4.heap.size) (arr := ?_) (t := ?_) ?_ hb6 ?_; rotate_left 2; (focus (exact blk)); intro mr2; have mr2c0 := mr2.cell 0; have mr2f0 := mr2.free 0; have mr2c1 := mr2.cell 1; have mr2f1 := mr2.free 1; have mr2l := mr2.lt; simp at mr2c0 mr2c1))
      go_meet
      exact ⟨rfl, by exact blk, by exact blk, by exact blk, by exact kpt⟩
  case rest =>
  clear q0c0 q0f0 q0c1 q0f1 q0c2 q0f2 q0c3 q0f3 q0c4 q0f4 q0c5 q0f5 q0c6 q0f6 q0c7 q0f7 q0l q1c0 q1f0 q1c1 q1f1 q1c2 q1f2 q1c3 q1f3 q1l r1c0 r1f0 r1c1 r1f1 r1l r2c0 r2f0 r2c1 r2f1 r2l
  clear q0 q1 r1 r2 hkX
  obtain ⟨rfl, q0, q1, r1, hkx⟩ := hcut
  have q0c0 := q0.cell 0
  have q0f0 := q0.free 0
  have q0c1 := q0.cell 1
  have q0f1 := q0.free 1
  have q0c2 := q0.cell 2
  have q0f2 := q0.free 2
  have q0c3 := q0.cell 3
  have q0f3 := q0.free 3
  have q0c4 := q0.cell 4
  have q0f4 := q0.free 4
  have q0c5 := q0.cell 5
  have q0f5 := q0.free 5
  have q0c6 := q0.cell 6
  have q0f6 := q0.free 6
  have q0c7 := q0.cell 7
  have q0f7 := q0.free 7
  have q0l := q0.lt
  simp at q0c0 q0c1 q0c2 q0c3 q0c4 q0c5 q0c6 q0c7
  have q1c0 := q1.cell 0
  have q1f0 := q1.free 0
  have q1c1 := q1.cell 1
  have q1f1 := q1.free 1
  have q1c2 := q1.cell 2
  have q1f2 := q1.free 2
  have q1c3 := q1.cell 3
  have q1f3 := q1.free 3
  have q1l := q1.lt
  simp at q1c0 q1c1 q1c2 q1c3
  have r1c0 := r1.cell 0
  have r1f0 := r1.free 0
  have r1c1 := r1.cell 1
  have r1f1 := r1.free 1
  have r1l := r1.lt
  simp at r1c0 r1c1
  go_wp2_with fail
  refine at_world (S := fun V => Blk V (w.heap.size) #[.int .i64 h.room, .int .i64 h.gas, .int .i64 h.wlo, .int .i64 h.whi, .int .i64 h.ballonet, .int .i64 h.bag, .int .i64 h.least, .int .i64 h.most] 45 ∧ Blk V (w.heap.size + 1) #[.int .i64 a.plo, .int .i64 a.phi, .int .i64 a.tlo, .int .i64 a.thi] 27 ∧ Blk V (w1.heap.size) #[.int .i64 SL, .int .i64 SH] 23 ∧ Blk V wc.heap.size #[.int .i64 h.ballonet, .int .i64 n, .int .i64 SL, .int .i64 SH, .int .i64 (SL - 1), .int .i64 (SH + 1)] 3 ∧ Kept w V) ⟨by exact blkc, by exact blkc, by exact blkc, by exact blkc, by exact kpt⟩ ?_
  rintro V ⟨q0, q1, r1, m0, hkV⟩
  obtain ⟨m, hm⟩ : ∃ m, m = wc.heap.size := ⟨_, rfl⟩
  rw [← hm] at m0 ⊢
  clear hm
  go_loopw [174] (fun i wr => ∃ k : Nat, k ≤ 6 ∧ i = .int .i64 k ∧ Blk wr (w.heap.size) #[.int .i64 h.room, .int .i64 h.gas, .int .i64 h.wlo, .int .i64 h.whi, .int .i64 h.ballonet, .int .i64 h.bag, .int .i64 h.least, .int .i64 h.most] 45 ∧ Blk wr (w.heap.size + 1) #[.int .i64 a.plo, .int .i64 a.phi, .int .i64 a.tlo, .int .i64 a.thi] 27 ∧ Blk wr (w1.heap.size) #[.int .i64 SL, .int .i64 SH] 23 ∧ Blk wr m #[.int .i64 h.ballonet, .int .i64 n, .int .i64 SL, .int .i64 SH, .int .i64 (SL - 1), .int .i64 (SH + 1)] 3 ∧ Kept w wr) (fun i _ => 6 - (intOf i).toNat)
  case atStart => exact ⟨0, Nat.zero_le _, rfl, q0, q1, r1, m0, hkV⟩
  case round =>
    clear q0 q1 r1 m0 hkV
    obtain ⟨k, hk2, rfl, q0, q1, r1, m0, hkr⟩ := hrel
    have q0c0 := q0.cell 0
    have q0f0 := q0.free 0
    have q0c1 := q0.cell 1
    have q0f1 := q0.free 1
    have q0c2 := q0.cell 2
    have q0f2 := q0.free 2
    have q0c3 := q0.cell 3
    have q0f3 := q0.free 3
    have q0c4 := q0.cell 4
    have q0f4 := q0.free 4
    have q0c5 := q0.cell 5
    have q0f5 := q0.free 5
    have q0c6 := q0.cell 6
    have q0f6 := q0.free 6
    have q0c7 := q0.cell 7
    have q0f7 := q0.free 7
    have q0l := q0.lt
    simp at q0c0 q0c1 q0c2 q0c3 q0c4 q0c5 q0c6 q0c7
    have q1c0 := q1.cell 0
    have q1f0 := q1.free 0
    have q1c1 := q1.cell 1
    have q1f1 := q1.free 1
    have q1c2 := q1.cell 2
    have q1f2 := q1.free 2
    have q1c3 := q1.cell 3
    have q1f3 := q1.free 3
    have q1l := q1.lt
    simp at q1c0 q1c1 q1c2 q1c3
    have r1c0 := r1.cell 0
    have r1f0 := r1.free 0
    have r1c1 := r1.cell 1
    have r1f1 := r1.free 1
    have r1l := r1.lt
    simp at r1c0 r1c1
    have m0c0 := m0.cell 0
    have m0f0 := m0.free 0
    have m0c1 := m0.cell 1
    have m0f1 := m0.free 1
    have m0c2 := m0.cell 2
    have m0f2 := m0.free 2
    have m0c3 := m0.cell 3
    have m0f3 := m0.free 3
    have m0c4 := m0.cell 4
    have m0f4 := m0.free 4
    have m0c5 := m0.cell 5
    have m0f5 := m0.free 5
    have m0l := m0.lt
    simp at m0c0 m0c1 m0c2 m0c3 m0c4 m0c5
    rcases (show k = 0 ∨ k = 1 ∨ k = 2 ∨ k = 3 ∨ k = 4 ∨ k = 5 ∨ k = 6 by omega) with rfl | rfl | rfl | rfl | rfl | rfl | rfl
    · as_aux_lemma =>
        obtain ⟨M, hM⟩ : ∃ M, M = h.ballonet := ⟨_, rfl⟩
        by_cases h0 : M < 0
        · have d0 : decide (h.ballonet < 0) = true := by simp; omega
          clear hM h0
          go_wp2
          go_roundw
          case rel => exact ⟨1, by omega, by go_num, by exact blk, by exact blk, by exact blk, by exact blk, by exact kpt⟩
          case measure => simp [intOf]
        · by_cases h1 : h.bag < M
          · have d0 : decide (h.ballonet < 0) = false := by simp; omega
            have d1 : decide (h.bag < h.ballonet) = true := by simp; omega
            clear hM h0 h1
            go_wp2
            go_roundw
            case rel => exact ⟨1, by omega, by go_num, by exact blk, by exact blk, by exact blk, by exact blk, by exact kpt⟩
            case measure => simp [intOf]
          · have d0 : decide (h.ballonet < 0) = false := by simp; omega
            have d1 : decide (h.bag < h.ballonet) = false := by simp; omega
            have KX := Lib.hid (HX.out M (by omega) (by omega))
            by_cases h2 : SL ≤ M
            · have d2 : decide (SL ≤ h.ballonet) = true := by first | (simp; done) | (simp; omega)
              by_cases h3 : M ≤ SH
              · have d3 : decide (h.ballonet ≤ SH) = true := by first | (simp; done) | (simp; omega)
                have hb : (decide (SL ≤ M) && decide (M ≤ SH)) = true := by simp; omega
                rw [hb] at KX
                subst hM
                clear h0 h1 h2 h3 hb
                go_wp2_with (go_at_call 38; (with_reducible refine (KX.out _).mono ?_); rintro e w7 ⟨rfl, hb7⟩; refine Blk.thru (b := w.heap.size) (arr := ?_) (t := ?_) ?_ hb7 ?_; rotate_left 2; (focus (exact blk)); intro fq0; have fq0c0 := fq0.cell 0; have fq0f0 := fq0.free 0; have fq0c1 := fq0.cell 1; have fq0f1 := fq0.free 1; have fq0c2 := fq0.cell 2; have fq0f2 := fq0.free 2; have fq0c3 := fq0.cell 3; have fq0f3 := fq0.free 3; have fq0c4 := fq0.cell 4; have fq0f4 := fq0.free 4; have fq0c5 := fq0.cell 5; have fq0f5 := fq0.free 5; have fq0c6 := fq0.cell 6; have fq0f6 := fq0.free 6; have fq0c7 := fq0.cell 7; have fq0f7 := fq0.free 7; have fq0l := fq0.lt; simp at fq0c0 fq0c1 fq0c2 fq0c3 fq0c4 fq0c5 fq0c6 fq0c7; refine Blk.thru (b := w.heap.size + 1) (arr := ?_) (t := ?_) ?_ hb7 ?_; rotate_left 2; (focus (exact blk)); intro fq1; have fq1c0 := fq1.cell 0; have fq1f0 := fq1.free 0; have fq1c1 := fq1.cell 1; have fq1f1 := fq1.free 1; have fq1c2 := fq1.cell 2; have fq1f2 := fq1.free 2; have fq1c3 := fq1.cell 3; have fq1f3 := fq1.free 3; have fq1l := fq1.lt; simp at fq1c0 fq1c1 fq1c2 fq1c3; refine Blk.thru (b := w1.heap.size) (arr := ?_) (t := ?_) ?_ hb7 ?_; rotate_left 2; (focus (exact blk)); intro fr1; have fr1c0 := fr1.cell 0; have fr1f0 := fr1.free 0; have fr1c1 := fr1.cell 1; have fr1f1 := fr1.free 1; have fr1l := fr1.lt; simp at fr1c0 fr1c1; refine Blk.thru (b := m) (arr := ?_) (t := ?_) ?_ hb7 ?_; rotate_left 2; (focus (exact blk)); intro fm0; have fm0c0 := fm0.cell 0; have fm0f0 := fm0.free 0; have fm0c1 := fm0.cell 1; have fm0f1 := fm0.free 1; have fm0c2 := fm0.cell 2; have fm0f2 := fm0.free 2; have fm0c3 := fm0.cell 3; have fm0f3 := fm0.free 3; have fm0c4 := fm0.cell 4; have fm0f4 := fm0.free 4; have fm0c5 := fm0.cell 5; have fm0f5 := fm0.free 5; have fm0l := fm0.lt; simp at fm0c0 fm0c1 fm0c2 fm0c3 fm0c4 fm0c5)
                go_roundw
                case rel => exact ⟨1, by omega, by go_num, by exact blk, by exact blk, by exact blk, by exact blk, by exact kpt⟩
                case measure => simp [intOf]
              · have d3 : decide (h.ballonet ≤ SH) = false := by first | (simp; done) | (simp; omega)
                have hb : (decide (SL ≤ M) && decide (M ≤ SH)) = false := by simp; omega
                rw [hb] at KX
                subst hM
                clear h0 h1 h2 h3 hb
                go_wp2_with (go_at_call 38; (with_reducible refine (KX.out _).mono ?_); rintro e w7 ⟨rfl, hb7⟩; refine Blk.thru (b := w.heap.size) (arr := ?_) (t := ?_) ?_ hb7 ?_; rotate_left 2; (focus (exact blk)); intro fq0; have fq0c0 := fq0.cell 0; have fq0f0 := fq0.free 0; have fq0c1 := fq0.cell 1; have fq0f1 := fq0.free 1; have fq0c2 := fq0.cell 2; have fq0f2 := fq0.free 2; have fq0c3 := fq0.cell 3; have fq0f3 := fq0.free 3; have fq0c4 := fq0.cell 4; have fq0f4 := fq0.free 4; have fq0c5 := fq0.cell 5; have fq0f5 := fq0.free 5; have fq0c6 := fq0.cell 6; have fq0f6 := fq0.free 6; have fq0c7 := fq0.cell 7; have fq0f7 := fq0.free 7; have fq0l := fq0.lt; simp at fq0c0 fq0c1 fq0c2 fq0c3 fq0c4 fq0c5 fq0c6 fq0c7; refine Blk.thru (b := w.heap.size + 1) (arr := ?_) (t := ?_) ?_ hb7 ?_; rotate_left 2; (focus (exact blk)); intro fq1; have fq1c0 := fq1.cell 0; have fq1f0 := fq1.free 0; have fq1c1 := fq1.cell 1; have fq1f1 := fq1.free 1; have fq1c2 := fq1.cell 2; have fq1f2 := fq1.free 2; have fq1c3 := fq1.cell 3; have fq1f3 := fq1.free 3; have fq1l := fq1.lt; simp at fq1c0 fq1c1 fq1c2 fq1c3; refine Blk.thru (b := w1.heap.size) (arr := ?_) (t := ?_) ?_ hb7 ?_; rotate_left 2; (focus (exact blk)); intro fr1; have fr1c0 := fr1.cell 0; have fr1f0 := fr1.free 0; have fr1c1 := fr1.cell 1; have fr1f1 := fr1.free 1; have fr1l := fr1.lt; simp at fr1c0 fr1c1; refine Blk.thru (b := m) (arr := ?_) (t := ?_) ?_ hb7 ?_; rotate_left 2; (focus (exact blk)); intro fm0; have fm0c0 := fm0.cell 0; have fm0f0 := fm0.free 0; have fm0c1 := fm0.cell 1; have fm0f1 := fm0.free 1; have fm0c2 := fm0.cell 2; have fm0f2 := fm0.free 2; have fm0c3 := fm0.cell 3; have fm0f3 := fm0.free 3; have fm0c4 := fm0.cell 4; have fm0f4 := fm0.free 4; have fm0c5 := fm0.cell 5; have fm0f5 := fm0.free 5; have fm0l := fm0.lt; simp at fm0c0 fm0c1 fm0c2 fm0c3 fm0c4 fm0c5)
                go_roundw
                case rel => exact ⟨1, by omega, by go_num, by exact blk, by exact blk, by exact blk, by exact blk, by exact kpt⟩
                case measure => simp [intOf]
            · have d2 : decide (SL ≤ h.ballonet) = false := by first | (simp; done) | (simp; omega)
              have hb : (decide (SL ≤ M) && decide (M ≤ SH)) = false := by simp; omega
              rw [hb] at KX
              subst hM
              clear h0 h1 h2 hb
              go_wp2_with (go_at_call 38; (with_reducible refine (KX.out _).mono ?_); rintro e w7 ⟨rfl, hb7⟩; refine Blk.thru (b := w.heap.size) (arr := ?_) (t := ?_) ?_ hb7 ?_; rotate_left 2; (focus (exact blk)); intro fq0; have fq0c0 := fq0.cell 0; have fq0f0 := fq0.free 0; have fq0c1 := fq0.cell 1; have fq0f1 := fq0.free 1; have fq0c2 := fq0.cell 2; have fq0f2 := fq0.free 2; have fq0c3 := fq0.cell 3; have fq0f3 := fq0.free 3; have fq0c4 := fq0.cell 4; have fq0f4 := fq0.free 4; have fq0c5 := fq0.cell 5; have fq0f5 := fq0.free 5; have fq0c6 := fq0.cell 6; have fq0f6 := fq0.free 6; have fq0c7 := fq0.cell 7; have fq0f7 := fq0.free 7; have fq0l := fq0.lt; simp at fq0c0 fq0c1 fq0c2 fq0c3 fq0c4 fq0c5 fq0c6 fq0c7; refine Blk.thru (b := w.heap.size + 1) (arr := ?_) (t := ?_) ?_ hb7 ?_; rotate_left 2; (focus (exact blk)); intro fq1; have fq1c0 := fq1.cell 0; have fq1f0 := fq1.free 0; have fq1c1 := fq1.cell 1; have fq1f1 := fq1.free 1; have fq1c2 := fq1.cell 2; have fq1f2 := fq1.free 2; have fq1c3 := fq1.cell 3; have fq1f3 := fq1.free 3; have fq1l := fq1.lt; simp at fq1c0 fq1c1 fq1c2 fq1c3; refine Blk.thru (b := w1.heap.size) (arr := ?_) (t := ?_) ?_ hb7 ?_; rotate_left 2; (focus (exact blk)); intro fr1; have fr1c0 := fr1.cell 0; have fr1f0 := fr1.free 0; have fr1c1 := fr1.cell 1; have fr1f1 := fr1.free 1; have fr1l := fr1.lt; simp at fr1c0 fr1c1; refine Blk.thru (b := m) (arr := ?_) (t := ?_) ?_ hb7 ?_; rotate_left 2; (focus (exact blk)); intro fm0; have fm0c0 := fm0.cell 0; have fm0f0 := fm0.free 0; have fm0c1 := fm0.cell 1; have fm0f1 := fm0.free 1; have fm0c2 := fm0.cell 2; have fm0f2 := fm0.free 2; have fm0c3 := fm0.cell 3; have fm0f3 := fm0.free 3; have fm0c4 := fm0.cell 4; have fm0f4 := fm0.free 4; have fm0c5 := fm0.cell 5; have fm0f5 := fm0.free 5; have fm0l := fm0.lt; simp at fm0c0 fm0c1 fm0c2 fm0c3 fm0c4 fm0c5)
              go_roundw
              case rel => exact ⟨1, by omega, by go_num, by exact blk, by exact blk, by exact blk, by exact blk, by exact kpt⟩
              case measure => simp [intOf]
    · as_aux_lemma =>
        obtain ⟨M, hM⟩ : ∃ M, M = n := ⟨_, rfl⟩
        by_cases h0 : M < 0
        · have d0 : decide (n < 0) = true := by simp; omega
          clear hM h0
          go_wp2
          go_roundw
          case rel => exact ⟨2, by omega, by go_num, by exact blk, by exact blk, by exact blk, by exact blk, by exact kpt⟩
          case measure => simp [intOf]
        · by_cases h1 : h.bag < M
          · have d0 : decide (n < 0) = false := by simp; omega
            have d1 : decide (h.bag < n) = true := by simp; omega
            clear hM h0 h1
            go_wp2
            go_roundw
            case rel => exact ⟨2, by omega, by go_num, by exact blk, by exact blk, by exact blk, by exact blk, by exact kpt⟩
            case measure => simp [intOf]
          · have d0 : decide (n < 0) = false := by simp; omega
            have d1 : decide (h.bag < n) = false := by simp; omega
            have KX := Lib.hid (HX.out M (by omega) (by omega))
            by_cases h2 : SL ≤ M
            · have d2 : decide (SL ≤ n) = true := by first | (simp; done) | (simp; omega)
              by_cases h3 : M ≤ SH
              · have d3 : decide (n ≤ SH) = true := by first | (simp; done) | (simp; omega)
                have hb : (decide (SL ≤ M) && decide (M ≤ SH)) = true := by simp; omega
                rw [hb] at KX
                subst hM
                clear h0 h1 h2 h3 hb
                go_wp2_with (go_at_call 38; (with_reducible refine (KX.out _).mono ?_); rintro e w7 ⟨rfl, hb7⟩; refine Blk.thru (b := w.heap.size) (arr := ?_) (t := ?_) ?_ hb7 ?_; rotate_left 2; (focus (exact blk)); intro fq0; have fq0c0 := fq0.cell 0; have fq0f0 := fq0.free 0; have fq0c1 := fq0.cell 1; have fq0f1 := fq0.free 1; have fq0c2 := fq0.cell 2; have fq0f2 := fq0.free 2; have fq0c3 := fq0.cell 3; have fq0f3 := fq0.free 3; have fq0c4 := fq0.cell 4; have fq0f4 := fq0.free 4; have fq0c5 := fq0.cell 5; have fq0f5 := fq0.free 5; have fq0c6 := fq0.cell 6; have fq0f6 := fq0.free 6; have fq0c7 := fq0.cell 7; have fq0f7 := fq0.free 7; have fq0l := fq0.lt; simp at fq0c0 fq0c1 fq0c2 fq0c3 fq0c4 fq0c5 fq0c6 fq0c7; refine Blk.thru (b := w.heap.size + 1) (arr := ?_) (t := ?_) ?_ hb7 ?_; rotate_left 2; (focus (exact blk)); intro fq1; have fq1c0 := fq1.cell 0; have fq1f0 := fq1.free 0; have fq1c1 := fq1.cell 1; have fq1f1 := fq1.free 1; have fq1c2 := fq1.cell 2; have fq1f2 := fq1.free 2; have fq1c3 := fq1.cell 3; have fq1f3 := fq1.free 3; have fq1l := fq1.lt; simp at fq1c0 fq1c1 fq1c2 fq1c3; refine Blk.thru (b := w1.heap.size) (arr := ?_) (t := ?_) ?_ hb7 ?_; rotate_left 2; (focus (exact blk)); intro fr1; have fr1c0 := fr1.cell 0; have fr1f0 := fr1.free 0; have fr1c1 := fr1.cell 1; have fr1f1 := fr1.free 1; have fr1l := fr1.lt; simp at fr1c0 fr1c1; refine Blk.thru (b := m) (arr := ?_) (t := ?_) ?_ hb7 ?_; rotate_left 2; (focus (exact blk)); intro fm0; have fm0c0 := fm0.cell 0; have fm0f0 := fm0.free 0; have fm0c1 := fm0.cell 1; have fm0f1 := fm0.free 1; have fm0c2 := fm0.cell 2; have fm0f2 := fm0.free 2; have fm0c3 := fm0.cell 3; have fm0f3 := fm0.free 3; have fm0c4 := fm0.cell 4; have fm0f4 := fm0.free 4; have fm0c5 := fm0.cell 5; have fm0f5 := fm0.free 5; have fm0l := fm0.lt; simp at fm0c0 fm0c1 fm0c2 fm0c3 fm0c4 fm0c5)
                go_roundw
                case rel => exact ⟨2, by omega, by go_num, by exact blk, by exact blk, by exact blk, by exact blk, by exact kpt⟩
                case measure => simp [intOf]
              · have d3 : decide (n ≤ SH) = false := by first | (simp; done) | (simp; omega)
                have hb : (decide (SL ≤ M) && decide (M ≤ SH)) = false := by simp; omega
                rw [hb] at KX
                subst hM
                clear h0 h1 h2 h3 hb
                go_wp2_with (go_at_call 38; (with_reducible refine (KX.out _).mono ?_); rintro e w7 ⟨rfl, hb7⟩; refine Blk.thru (b := w.heap.size) (arr := ?_) (t := ?_) ?_ hb7 ?_; rotate_left 2; (focus (exact blk)); intro fq0; have fq0c0 := fq0.cell 0; have fq0f0 := fq0.free 0; have fq0c1 := fq0.cell 1; have fq0f1 := fq0.free 1; have fq0c2 := fq0.cell 2; have fq0f2 := fq0.free 2; have fq0c3 := fq0.cell 3; have fq0f3 := fq0.free 3; have fq0c4 := fq0.cell 4; have fq0f4 := fq0.free 4; have fq0c5 := fq0.cell 5; have fq0f5 := fq0.free 5; have fq0c6 := fq0.cell 6; have fq0f6 := fq0.free 6; have fq0c7 := fq0.cell 7; have fq0f7 := fq0.free 7; have fq0l := fq0.lt; simp at fq0c0 fq0c1 fq0c2 fq0c3 fq0c4 fq0c5 fq0c6 fq0c7; refine Blk.thru (b := w.heap.size + 1) (arr := ?_) (t := ?_) ?_ hb7 ?_; rotate_left 2; (focus (exact blk)); intro fq1; have fq1c0 := fq1.cell 0; have fq1f0 := fq1.free 0; have fq1c1 := fq1.cell 1; have fq1f1 := fq1.free 1; have fq1c2 := fq1.cell 2; have fq1f2 := fq1.free 2; have fq1c3 := fq1.cell 3; have fq1f3 := fq1.free 3; have fq1l := fq1.lt; simp at fq1c0 fq1c1 fq1c2 fq1c3; refine Blk.thru (b := w1.heap.size) (arr := ?_) (t := ?_) ?_ hb7 ?_; rotate_left 2; (focus (exact blk)); intro fr1; have fr1c0 := fr1.cell 0; have fr1f0 := fr1.free 0; have fr1c1 := fr1.cell 1; have fr1f1 := fr1.free 1; have fr1l := fr1.lt; simp at fr1c0 fr1c1; refine Blk.thru (b := m) (arr := ?_) (t := ?_) ?_ hb7 ?_; rotate_left 2; (focus (exact blk)); intro fm0; have fm0c0 := fm0.cell 0; have fm0f0 := fm0.free 0; have fm0c1 := fm0.cell 1; have fm0f1 := fm0.free 1; have fm0c2 := fm0.cell 2; have fm0f2 := fm0.free 2; have fm0c3 := fm0.cell 3; have fm0f3 := fm0.free 3; have fm0c4 := fm0.cell 4; have fm0f4 := fm0.free 4; have fm0c5 := fm0.cell 5; have fm0f5 := fm0.free 5; have fm0l := fm0.lt; simp at fm0c0 fm0c1 fm0c2 fm0c3 fm0c4 fm0c5)
                go_roundw
                case rel => exact ⟨2, by omega, by go_num, by exact blk, by exact blk, by exact blk, by exact blk, by exact kpt⟩
                case measure => simp [intOf]
            · have d2 : decide (SL ≤ n) = false := by first | (simp; done) | (simp; omega)
              have hb : (decide (SL ≤ M) && decide (M ≤ SH)) = false := by simp; omega
              rw [hb] at KX
              subst hM
              clear h0 h1 h2 hb
              go_wp2_with (go_at_call 38; (with_reducible refine (KX.out _).mono ?_); rintro e w7 ⟨rfl, hb7⟩; refine Blk.thru (b := w.heap.size) (arr := ?_) (t := ?_) ?_ hb7 ?_; rotate_left 2; (focus (exact blk)); intro fq0; have fq0c0 := fq0.cell 0; have fq0f0 := fq0.free 0; have fq0c1 := fq0.cell 1; have fq0f1 := fq0.free 1; have fq0c2 := fq0.cell 2; have fq0f2 := fq0.free 2; have fq0c3 := fq0.cell 3; have fq0f3 := fq0.free 3; have fq0c4 := fq0.cell 4; have fq0f4 := fq0.free 4; have fq0c5 := fq0.cell 5; have fq0f5 := fq0.free 5; have fq0c6 := fq0.cell 6; have fq0f6 := fq0.free 6; have fq0c7 := fq0.cell 7; have fq0f7 := fq0.free 7; have fq0l := fq0.lt; simp at fq0c0 fq0c1 fq0c2 fq0c3 fq0c4 fq0c5 fq0c6 fq0c7; refine Blk.thru (b := w.heap.size + 1) (arr := ?_) (t := ?_) ?_ hb7 ?_; rotate_left 2; (focus (exact blk)); intro fq1; have fq1c0 := fq1.cell 0; have fq1f0 := fq1.free 0; have fq1c1 := fq1.cell 1; have fq1f1 := fq1.free 1; have fq1c2 := fq1.cell 2; have fq1f2 := fq1.free 2; have fq1c3 := fq1.cell 3; have fq1f3 := fq1.free 3; have fq1l := fq1.lt; simp at fq1c0 fq1c1 fq1c2 fq1c3; refine Blk.thru (b := w1.heap.size) (arr := ?_) (t := ?_) ?_ hb7 ?_; rotate_left 2; (focus (exact blk)); intro fr1; have fr1c0 := fr1.cell 0; have fr1f0 := fr1.free 0; have fr1c1 := fr1.cell 1; have fr1f1 := fr1.free 1; have fr1l := fr1.lt; simp at fr1c0 fr1c1; refine Blk.thru (b := m) (arr := ?_) (t := ?_) ?_ hb7 ?_; rotate_left 2; (focus (exact blk)); intro fm0; have fm0c0 := fm0.cell 0; have fm0f0 := fm0.free 0; have fm0c1 := fm0.cell 1; have fm0f1 := fm0.free 1; have fm0c2 := fm0.cell 2; have fm0f2 := fm0.free 2; have fm0c3 := fm0.cell 3; have fm0f3 := fm0.free 3; have fm0c4 := fm0.cell 4; have fm0f4 := fm0.free 4; have fm0c5 := fm0.cell 5; have fm0f5 := fm0.free 5; have fm0l := fm0.lt; simp at fm0c0 fm0c1 fm0c2 fm0c3 fm0c4 fm0c5)
              go_roundw
              case rel => exact ⟨2, by omega, by go_num, by exact blk, by exact blk, by exact blk, by exact blk, by exact kpt⟩
              case measure => simp [intOf]
    · as_aux_lemma =>
        obtain ⟨M, hM⟩ : ∃ M, M = SL := ⟨_, rfl⟩
        by_cases h0 : M < 0
        · exfalso; omega
        · by_cases h1 : h.bag < M
          · have d0 : decide (SL < 0) = false := by simp; omega
            have d1 : decide (h.bag < SL) = true := by simp; omega
            clear hM h0 h1
            go_wp2
            go_roundw
            case rel => exact ⟨3, by omega, by go_num, by exact blk, by exact blk, by exact blk, by exact blk, by exact kpt⟩
            case measure => simp [intOf]
          · have d0 : decide (SL < 0) = false := by simp; omega
            have d1 : decide (h.bag < SL) = false := by simp; omega
            have KX := Lib.hid (HX.out M (by omega) (by omega))
            by_cases h2 : SL ≤ M
            · have d2 : decide (SL ≤ SL) = true := by first | (simp; done) | (simp; omega)
              by_cases h3 : M ≤ SH
              · have d3 : decide (SL ≤ SH) = true := by first | (simp; done) | (simp; omega)
                have hb : (decide (SL ≤ M) && decide (M ≤ SH)) = true := by simp; omega
                rw [hb] at KX
                subst hM
                clear h0 h1 h2 h3 hb
                go_wp2_with (go_at_call 38; (with_reducible refine (KX.out _).mono ?_); rintro e w7 ⟨rfl, hb7⟩; refine Blk.thru (b := w.heap.size) (arr := ?_) (t := ?_) ?_ hb7 ?_; rotate_left 2; (focus (exact blk)); intro fq0; have fq0c0 := fq0.cell 0; have fq0f0 := fq0.free 0; have fq0c1 := fq0.cell 1; have fq0f1 := fq0.free 1; have fq0c2 := fq0.cell 2; have fq0f2 := fq0.free 2; have fq0c3 := fq0.cell 3; have fq0f3 := fq0.free 3; have fq0c4 := fq0.cell 4; have fq0f4 := fq0.free 4; have fq0c5 := fq0.cell 5; have fq0f5 := fq0.free 5; have fq0c6 := fq0.cell 6; have fq0f6 := fq0.free 6; have fq0c7 := fq0.cell 7; have fq0f7 := fq0.free 7; have fq0l := fq0.lt; simp at fq0c0 fq0c1 fq0c2 fq0c3 fq0c4 fq0c5 fq0c6 fq0c7; refine Blk.thru (b := w.heap.size + 1) (arr := ?_) (t := ?_) ?_ hb7 ?_; rotate_left 2; (focus (exact blk)); intro fq1; have fq1c0 := fq1.cell 0; have fq1f0 := fq1.free 0; have fq1c1 := fq1.cell 1; have fq1f1 := fq1.free 1; have fq1c2 := fq1.cell 2; have fq1f2 := fq1.free 2; have fq1c3 := fq1.cell 3; have fq1f3 := fq1.free 3; have fq1l := fq1.lt; simp at fq1c0 fq1c1 fq1c2 fq1c3; refine Blk.thru (b := w1.heap.size) (arr := ?_) (t := ?_) ?_ hb7 ?_; rotate_left 2; (focus (exact blk)); intro fr1; have fr1c0 := fr1.cell 0; have fr1f0 := fr1.free 0; have fr1c1 := fr1.cell 1; have fr1f1 := fr1.free 1; have fr1l := fr1.lt; simp at fr1c0 fr1c1; refine Blk.thru (b := m) (arr := ?_) (t := ?_) ?_ hb7 ?_; rotate_left 2; (focus (exact blk)); intro fm0; have fm0c0 := fm0.cell 0; have fm0f0 := fm0.free 0; have fm0c1 := fm0.cell 1; have fm0f1 := fm0.free 1; have fm0c2 := fm0.cell 2; have fm0f2 := fm0.free 2; have fm0c3 := fm0.cell 3; have fm0f3 := fm0.free 3; have fm0c4 := fm0.cell 4; have fm0f4 := fm0.free 4; have fm0c5 := fm0.cell 5; have fm0f5 := fm0.free 5; have fm0l := fm0.lt; simp at fm0c0 fm0c1 fm0c2 fm0c3 fm0c4 fm0c5)
                go_roundw
                case rel => exact ⟨3, by omega, by go_num, by exact blk, by exact blk, by exact blk, by exact blk, by exact kpt⟩
                case measure => simp [intOf]
              · exfalso; omega
            · exfalso; omega
    · as_aux_lemma =>
        obtain ⟨M, hM⟩ : ∃ M, M = SH := ⟨_, rfl⟩
        by_cases h0 : M < 0
        · have d0 : decide (SH < 0) = true := by simp; omega
          clear hM h0
          go_wp2
          go_roundw
          case rel => exact ⟨4, by omega, by go_num, by exact blk, by exact blk, by exact blk, by exact blk, by exact kpt⟩
          case measure => simp [intOf]
        · by_cases h1 : h.bag < M
          · exfalso; omega
          · have d0 : decide (SH < 0) = false := by simp; omega
            have d1 : decide (h.bag < SH) = false := by simp; omega
            have KX := Lib.hid (HX.out M (by omega) (by omega))
            by_cases h2 : SL ≤ M
            · have d2 : decide (SL ≤ SH) = true := by first | (simp; done) | (simp; omega)
              by_cases h3 : M ≤ SH
              · have d3 : decide (SH ≤ SH) = true := by first | (simp; done) | (simp; omega)
                have hb : (decide (SL ≤ M) && decide (M ≤ SH)) = true := by simp; omega
                rw [hb] at KX
                subst hM
                clear h0 h1 h2 h3 hb
                go_wp2_with (go_at_call 38; (with_reducible refine (KX.out _).mono ?_); rintro e w7 ⟨rfl, hb7⟩; refine Blk.thru (b := w.heap.size) (arr := ?_) (t := ?_) ?_ hb7 ?_; rotate_left 2; (focus (exact blk)); intro fq0; have fq0c0 := fq0.cell 0; have fq0f0 := fq0.free 0; have fq0c1 := fq0.cell 1; have fq0f1 := fq0.free 1; have fq0c2 := fq0.cell 2; have fq0f2 := fq0.free 2; have fq0c3 := fq0.cell 3; have fq0f3 := fq0.free 3; have fq0c4 := fq0.cell 4; have fq0f4 := fq0.free 4; have fq0c5 := fq0.cell 5; have fq0f5 := fq0.free 5; have fq0c6 := fq0.cell 6; have fq0f6 := fq0.free 6; have fq0c7 := fq0.cell 7; have fq0f7 := fq0.free 7; have fq0l := fq0.lt; simp at fq0c0 fq0c1 fq0c2 fq0c3 fq0c4 fq0c5 fq0c6 fq0c7; refine Blk.thru (b := w.heap.size + 1) (arr := ?_) (t := ?_) ?_ hb7 ?_; rotate_left 2; (focus (exact blk)); intro fq1; have fq1c0 := fq1.cell 0; have fq1f0 := fq1.free 0; have fq1c1 := fq1.cell 1; have fq1f1 := fq1.free 1; have fq1c2 := fq1.cell 2; have fq1f2 := fq1.free 2; have fq1c3 := fq1.cell 3; have fq1f3 := fq1.free 3; have fq1l := fq1.lt; simp at fq1c0 fq1c1 fq1c2 fq1c3; refine Blk.thru (b := w1.heap.size) (arr := ?_) (t := ?_) ?_ hb7 ?_; rotate_left 2; (focus (exact blk)); intro fr1; have fr1c0 := fr1.cell 0; have fr1f0 := fr1.free 0; have fr1c1 := fr1.cell 1; have fr1f1 := fr1.free 1; have fr1l := fr1.lt; simp at fr1c0 fr1c1; refine Blk.thru (b := m) (arr := ?_) (t := ?_) ?_ hb7 ?_; rotate_left 2; (focus (exact blk)); intro fm0; have fm0c0 := fm0.cell 0; have fm0f0 := fm0.free 0; have fm0c1 := fm0.cell 1; have fm0f1 := fm0.free 1; have fm0c2 := fm0.cell 2; have fm0f2 := fm0.free 2; have fm0c3 := fm0.cell 3; have fm0f3 := fm0.free 3; have fm0c4 := fm0.cell 4; have fm0f4 := fm0.free 4; have fm0c5 := fm0.cell 5; have fm0f5 := fm0.free 5; have fm0l := fm0.lt; simp at fm0c0 fm0c1 fm0c2 fm0c3 fm0c4 fm0c5)
                go_roundw
                case rel => exact ⟨4, by omega, by go_num, by exact blk, by exact blk, by exact blk, by exact blk, by exact kpt⟩
                case measure => simp [intOf]
              · exfalso; omega
            · exfalso; omega
    · as_aux_lemma =>
        obtain ⟨M, hM⟩ : ∃ M, M = (SL - 1) := ⟨_, rfl⟩
        by_cases h0 : M < 0
        · have d0 : decide ((SL - 1) < 0) = true := by simp; omega
          clear hM h0
          go_wp2
          go_roundw
          case rel => exact ⟨5, by omega, by go_num, by exact blk, by exact blk, by exact blk, by exact blk, by exact kpt⟩
          case measure => simp [intOf]
        · by_cases h1 : h.bag < M
          · have d0 : decide ((SL - 1) < 0) = false := by simp; omega
            have d1 : decide (h.bag < (SL - 1)) = true := by simp; omega
            clear hM h0 h1
            go_wp2
            go_roundw
            case rel => exact ⟨5, by omega, by go_num, by exact blk, by exact blk, by exact blk, by exact blk, by exact kpt⟩
            case measure => simp [intOf]
          · have d0 : decide ((SL - 1) < 0) = false := by simp; omega
            have d1 : decide (h.bag < (SL - 1)) = false := by simp; omega
            have KX := Lib.hid (HX.out M (by omega) (by omega))
            by_cases h2 : SL ≤ M
            · have d2 : decide (SL ≤ (SL - 1)) = true := by first | (simp; done) | (simp; omega)
              by_cases h3 : M ≤ SH
              · have d3 : decide ((SL - 1) ≤ SH) = true := by first | (simp; done) | (simp; omega)
                have hb : (decide (SL ≤ M) && decide (M ≤ SH)) = true := by simp; omega
                rw [hb] at KX
                subst hM
                clear h0 h1 h2 h3 hb
                go_wp2_with (go_at_call 38; (with_reducible refine (KX.out _).mono ?_); rintro e w7 ⟨rfl, hb7⟩; refine Blk.thru (b := w.heap.size) (arr := ?_) (t := ?_) ?_ hb7 ?_; rotate_left 2; (focus (exact blk)); intro fq0; have fq0c0 := fq0.cell 0; have fq0f0 := fq0.free 0; have fq0c1 := fq0.cell 1; have fq0f1 := fq0.free 1; have fq0c2 := fq0.cell 2; have fq0f2 := fq0.free 2; have fq0c3 := fq0.cell 3; have fq0f3 := fq0.free 3; have fq0c4 := fq0.cell 4; have fq0f4 := fq0.free 4; have fq0c5 := fq0.cell 5; have fq0f5 := fq0.free 5; have fq0c6 := fq0.cell 6; have fq0f6 := fq0.free 6; have fq0c7 := fq0.cell 7; have fq0f7 := fq0.free 7; have fq0l := fq0.lt; simp at fq0c0 fq0c1 fq0c2 fq0c3 fq0c4 fq0c5 fq0c6 fq0c7; refine Blk.thru (b := w.heap.size + 1) (arr := ?_) (t := ?_) ?_ hb7 ?_; rotate_left 2; (focus (exact blk)); intro fq1; have fq1c0 := fq1.cell 0; have fq1f0 := fq1.free 0; have fq1c1 := fq1.cell 1; have fq1f1 := fq1.free 1; have fq1c2 := fq1.cell 2; have fq1f2 := fq1.free 2; have fq1c3 := fq1.cell 3; have fq1f3 := fq1.free 3; have fq1l := fq1.lt; simp at fq1c0 fq1c1 fq1c2 fq1c3; refine Blk.thru (b := w1.heap.size) (arr := ?_) (t := ?_) ?_ hb7 ?_; rotate_left 2; (focus (exact blk)); intro fr1; have fr1c0 := fr1.cell 0; have fr1f0 := fr1.free 0; have fr1c1 := fr1.cell 1; have fr1f1 := fr1.free 1; have fr1l := fr1.lt; simp at fr1c0 fr1c1; refine Blk.thru (b := m) (arr := ?_) (t := ?_) ?_ hb7 ?_; rotate_left 2; (focus (exact blk)); intro fm0; have fm0c0 := fm0.cell 0; have fm0f0 := fm0.free 0; have fm0c1 := fm0.cell 1; have fm0f1 := fm0.free 1; have fm0c2 := fm0.cell 2; have fm0f2 := fm0.free 2; have fm0c3 := fm0.cell 3; have fm0f3 := fm0.free 3; have fm0c4 := fm0.cell 4; have fm0f4 := fm0.free 4; have fm0c5 := fm0.cell 5; have fm0f5 := fm0.free 5; have fm0l := fm0.lt; simp at fm0c0 fm0c1 fm0c2 fm0c3 fm0c4 fm0c5)
                go_roundw
                case rel => exact ⟨5, by omega, by go_num, by exact blk, by exact blk, by exact blk, by exact blk, by exact kpt⟩
                case measure => simp [intOf]
              · have d3 : decide ((SL - 1) ≤ SH) = false := by first | (simp; done) | (simp; omega)
                have hb : (decide (SL ≤ M) && decide (M ≤ SH)) = false := by simp; omega
                rw [hb] at KX
                subst hM
                clear h0 h1 h2 h3 hb
                go_wp2_with (go_at_call 38; (with_reducible refine (KX.out _).mono ?_); rintro e w7 ⟨rfl, hb7⟩; refine Blk.thru (b := w.heap.size) (arr := ?_) (t := ?_) ?_ hb7 ?_; rotate_left 2; (focus (exact blk)); intro fq0; have fq0c0 := fq0.cell 0; have fq0f0 := fq0.free 0; have fq0c1 := fq0.cell 1; have fq0f1 := fq0.free 1; have fq0c2 := fq0.cell 2; have fq0f2 := fq0.free 2; have fq0c3 := fq0.cell 3; have fq0f3 := fq0.free 3; have fq0c4 := fq0.cell 4; have fq0f4 := fq0.free 4; have fq0c5 := fq0.cell 5; have fq0f5 := fq0.free 5; have fq0c6 := fq0.cell 6; have fq0f6 := fq0.free 6; have fq0c7 := fq0.cell 7; have fq0f7 := fq0.free 7; have fq0l := fq0.lt; simp at fq0c0 fq0c1 fq0c2 fq0c3 fq0c4 fq0c5 fq0c6 fq0c7; refine Blk.thru (b := w.heap.size + 1) (arr := ?_) (t := ?_) ?_ hb7 ?_; rotate_left 2; (focus (exact blk)); intro fq1; have fq1c0 := fq1.cell 0; have fq1f0 := fq1.free 0; have fq1c1 := fq1.cell 1; have fq1f1 := fq1.free 1; have fq1c2 := fq1.cell 2; have fq1f2 := fq1.free 2; have fq1c3 := fq1.cell 3; have fq1f3 := fq1.free 3; have fq1l := fq1.lt; simp at fq1c0 fq1c1 fq1c2 fq1c3; refine Blk.thru (b := w1.heap.size) (arr := ?_) (t := ?_) ?_ hb7 ?_; rotate_left 2; (focus (exact blk)); intro fr1; have fr1c0 := fr1.cell 0; have fr1f0 := fr1.free 0; have fr1c1 := fr1.cell 1; have fr1f1 := fr1.free 1; have fr1l := fr1.lt; simp at fr1c0 fr1c1; refine Blk.thru (b := m) (arr := ?_) (t := ?_) ?_ hb7 ?_; rotate_left 2; (focus (exact blk)); intro fm0; have fm0c0 := fm0.cell 0; have fm0f0 := fm0.free 0; have fm0c1 := fm0.cell 1; have fm0f1 := fm0.free 1; have fm0c2 := fm0.cell 2; have fm0f2 := fm0.free 2; have fm0c3 := fm0.cell 3; have fm0f3 := fm0.free 3; have fm0c4 := fm0.cell 4; have fm0f4 := fm0.free 4; have fm0c5 := fm0.cell 5; have fm0f5 := fm0.free 5; have fm0l := fm0.lt; simp at fm0c0 fm0c1 fm0c2 fm0c3 fm0c4 fm0c5)
                go_roundw
                case rel => exact ⟨5, by omega, by go_num, by exact blk, by exact blk, by exact blk, by exact blk, by exact kpt⟩
                case measure => simp [intOf]
            · have d2 : decide (SL ≤ (SL - 1)) = false := by first | (simp; done) | (simp; omega)
              have hb : (decide (SL ≤ M) && decide (M ≤ SH)) = false := by simp; omega
              rw [hb] at KX
              subst hM
              clear h0 h1 h2 hb
              go_wp2_with (go_at_call 38; (with_reducible refine (KX.out _).mono ?_); rintro e w7 ⟨rfl, hb7⟩; refine Blk.thru (b := w.heap.size) (arr := ?_) (t := ?_) ?_ hb7 ?_; rotate_left 2; (focus (exact blk)); intro fq0; have fq0c0 := fq0.cell 0; have fq0f0 := fq0.free 0; have fq0c1 := fq0.cell 1; have fq0f1 := fq0.free 1; have fq0c2 := fq0.cell 2; have fq0f2 := fq0.free 2; have fq0c3 := fq0.cell 3; have fq0f3 := fq0.free 3; have fq0c4 := fq0.cell 4; have fq0f4 := fq0.free 4; have fq0c5 := fq0.cell 5; have fq0f5 := fq0.free 5; have fq0c6 := fq0.cell 6; have fq0f6 := fq0.free 6; have fq0c7 := fq0.cell 7; have fq0f7 := fq0.free 7; have fq0l := fq0.lt; simp at fq0c0 fq0c1 fq0c2 fq0c3 fq0c4 fq0c5 fq0c6 fq0c7; refine Blk.thru (b := w.heap.size + 1) (arr := ?_) (t := ?_) ?_ hb7 ?_; rotate_left 2; (focus (exact blk)); intro fq1; have fq1c0 := fq1.cell 0; have fq1f0 := fq1.free 0; have fq1c1 := fq1.cell 1; have fq1f1 := fq1.free 1; have fq1c2 := fq1.cell 2; have fq1f2 := fq1.free 2; have fq1c3 := fq1.cell 3; have fq1f3 := fq1.free 3; have fq1l := fq1.lt; simp at fq1c0 fq1c1 fq1c2 fq1c3; refine Blk.thru (b := w1.heap.size) (arr := ?_) (t := ?_) ?_ hb7 ?_; rotate_left 2; (focus (exact blk)); intro fr1; have fr1c0 := fr1.cell 0; have fr1f0 := fr1.free 0; have fr1c1 := fr1.cell 1; have fr1f1 := fr1.free 1; have fr1l := fr1.lt; simp at fr1c0 fr1c1; refine Blk.thru (b := m) (arr := ?_) (t := ?_) ?_ hb7 ?_; rotate_left 2; (focus (exact blk)); intro fm0; have fm0c0 := fm0.cell 0; have fm0f0 := fm0.free 0; have fm0c1 := fm0.cell 1; have fm0f1 := fm0.free 1; have fm0c2 := fm0.cell 2; have fm0f2 := fm0.free 2; have fm0c3 := fm0.cell 3; have fm0f3 := fm0.free 3; have fm0c4 := fm0.cell 4; have fm0f4 := fm0.free 4; have fm0c5 := fm0.cell 5; have fm0f5 := fm0.free 5; have fm0l := fm0.lt; simp at fm0c0 fm0c1 fm0c2 fm0c3 fm0c4 fm0c5)
              go_roundw
              case rel => exact ⟨5, by omega, by go_num, by exact blk, by exact blk, by exact blk, by exact blk, by exact kpt⟩
              case measure => simp [intOf]
    · as_aux_lemma =>
        obtain ⟨M, hM⟩ : ∃ M, M = (SH + 1) := ⟨_, rfl⟩
        by_cases h0 : M < 0
        · have d0 : decide ((SH + 1) < 0) = true := by simp; omega
          clear hM h0
          go_wp2
          go_roundw
          case rel => exact ⟨6, by omega, by go_num, by exact blk, by exact blk, by exact blk, by exact blk, by exact kpt⟩
          case measure => simp [intOf]
        · by_cases h1 : h.bag < M
          · have d0 : decide ((SH + 1) < 0) = false := by simp; omega
            have d1 : decide (h.bag < (SH + 1)) = true := by simp; omega
            clear hM h0 h1
            go_wp2
            go_roundw
            case rel => exact ⟨6, by omega, by go_num, by exact blk, by exact blk, by exact blk, by exact blk, by exact kpt⟩
            case measure => simp [intOf]
          · have d0 : decide ((SH + 1) < 0) = false := by simp; omega
            have d1 : decide (h.bag < (SH + 1)) = false := by simp; omega
            have KX := Lib.hid (HX.out M (by omega) (by omega))
            by_cases h2 : SL ≤ M
            · have d2 : decide (SL ≤ (SH + 1)) = true := by first | (simp; done) | (simp; omega)
              by_cases h3 : M ≤ SH
              · have d3 : decide ((SH + 1) ≤ SH) = true := by first | (simp; done) | (simp; omega)
                have hb : (decide (SL ≤ M) && decide (M ≤ SH)) = true := by simp; omega
                rw [hb] at KX
                subst hM
                clear h0 h1 h2 h3 hb
                go_wp2_with (go_at_call 38; (with_reducible refine (KX.out _).mono ?_); rintro e w7 ⟨rfl, hb7⟩; refine Blk.thru (b := w.heap.size) (arr := ?_) (t := ?_) ?_ hb7 ?_; rotate_left 2; (focus (exact blk)); intro fq0; have fq0c0 := fq0.cell 0; have fq0f0 := fq0.free 0; have fq0c1 := fq0.cell 1; have fq0f1 := fq0.free 1; have fq0c2 := fq0.cell 2; have fq0f2 := fq0.free 2; have fq0c3 := fq0.cell 3; have fq0f3 := fq0.free 3; have fq0c4 := fq0.cell 4; have fq0f4 := fq0.free 4; have fq0c5 := fq0.cell 5; have fq0f5 := fq0.free 5; have fq0c6 := fq0.cell 6; have fq0f6 := fq0.free 6; have fq0c7 := fq0.cell 7; have fq0f7 := fq0.free 7; have fq0l := fq0.lt; simp at fq0c0 fq0c1 fq0c2 fq0c3 fq0c4 fq0c5 fq0c6 fq0c7; refine Blk.thru (b := w.heap.size + 1) (arr := ?_) (t := ?_) ?_ hb7 ?_; rotate_left 2; (focus (exact blk)); intro fq1; have fq1c0 := fq1.cell 0; have fq1f0 := fq1.free 0; have fq1c1 := fq1.cell 1; have fq1f1 := fq1.free 1; have fq1c2 := fq1.cell 2; have fq1f2 := fq1.free 2; have fq1c3 := fq1.cell 3; have fq1f3 := fq1.free 3; have fq1l := fq1.lt; simp at fq1c0 fq1c1 fq1c2 fq1c3; refine Blk.thru (b := w1.heap.size) (arr := ?_) (t := ?_) ?_ hb7 ?_; rotate_left 2; (focus (exact blk)); intro fr1; have fr1c0 := fr1.cell 0; have fr1f0 := fr1.free 0; have fr1c1 := fr1.cell 1; have fr1f1 := fr1.free 1; have fr1l := fr1.lt; simp at fr1c0 fr1c1; refine Blk.thru (b := m) (arr := ?_) (t := ?_) ?_ hb7 ?_; rotate_left 2; (focus (exact blk)); intro fm0; have fm0c0 := fm0.cell 0; have fm0f0 := fm0.free 0; have fm0c1 := fm0.cell 1; have fm0f1 := fm0.free 1; have fm0c2 := fm0.cell 2; have fm0f2 := fm0.free 2; have fm0c3 := fm0.cell 3; have fm0f3 := fm0.free 3; have fm0c4 := fm0.cell 4; have fm0f4 := fm0.free 4; have fm0c5 := fm0.cell 5; have fm0f5 := fm0.free 5; have fm0l := fm0.lt; simp at fm0c0 fm0c1 fm0c2 fm0c3 fm0c4 fm0c5)
                go_roundw
                case rel => exact ⟨6, by omega, by go_num, by exact blk, by exact blk, by exact blk, by exact blk, by exact kpt⟩
                case measure => simp [intOf]
              · have d3 : decide ((SH + 1) ≤ SH) = false := by first | (simp; done) | (simp; omega)
                have hb : (decide (SL ≤ M) && decide (M ≤ SH)) = false := by simp; omega
                rw [hb] at KX
                subst hM
                clear h0 h1 h2 h3 hb
                go_wp2_with (go_at_call 38; (with_reducible refine (KX.out _).mono ?_); rintro e w7 ⟨rfl, hb7⟩; refine Blk.thru (b := w.heap.size) (arr := ?_) (t := ?_) ?_ hb7 ?_; rotate_left 2; (focus (exact blk)); intro fq0; have fq0c0 := fq0.cell 0; have fq0f0 := fq0.free 0; have fq0c1 := fq0.cell 1; have fq0f1 := fq0.free 1; have fq0c2 := fq0.cell 2; have fq0f2 := fq0.free 2; have fq0c3 := fq0.cell 3; have fq0f3 := fq0.free 3; have fq0c4 := fq0.cell 4; have fq0f4 := fq0.free 4; have fq0c5 := fq0.cell 5; have fq0f5 := fq0.free 5; have fq0c6 := fq0.cell 6; have fq0f6 := fq0.free 6; have fq0c7 := fq0.cell 7; have fq0f7 := fq0.free 7; have fq0l := fq0.lt; simp at fq0c0 fq0c1 fq0c2 fq0c3 fq0c4 fq0c5 fq0c6 fq0c7; refine Blk.thru (b := w.heap.size + 1) (arr := ?_) (t := ?_) ?_ hb7 ?_; rotate_left 2; (focus (exact blk)); intro fq1; have fq1c0 := fq1.cell 0; have fq1f0 := fq1.free 0; have fq1c1 := fq1.cell 1; have fq1f1 := fq1.free 1; have fq1c2 := fq1.cell 2; have fq1f2 := fq1.free 2; have fq1c3 := fq1.cell 3; have fq1f3 := fq1.free 3; have fq1l := fq1.lt; simp at fq1c0 fq1c1 fq1c2 fq1c3; refine Blk.thru (b := w1.heap.size) (arr := ?_) (t := ?_) ?_ hb7 ?_; rotate_left 2; (focus (exact blk)); intro fr1; have fr1c0 := fr1.cell 0; have fr1f0 := fr1.free 0; have fr1c1 := fr1.cell 1; have fr1f1 := fr1.free 1; have fr1l := fr1.lt; simp at fr1c0 fr1c1; refine Blk.thru (b := m) (arr := ?_) (t := ?_) ?_ hb7 ?_; rotate_left 2; (focus (exact blk)); intro fm0; have fm0c0 := fm0.cell 0; have fm0f0 := fm0.free 0; have fm0c1 := fm0.cell 1; have fm0f1 := fm0.free 1; have fm0c2 := fm0.cell 2; have fm0f2 := fm0.free 2; have fm0c3 := fm0.cell 3; have fm0f3 := fm0.free 3; have fm0c4 := fm0.cell 4; have fm0f4 := fm0.free 4; have fm0c5 := fm0.cell 5; have fm0f5 := fm0.free 5; have fm0l := fm0.lt; simp at fm0c0 fm0c1 fm0c2 fm0c3 fm0c4 fm0c5)
                go_roundw
                case rel => exact ⟨6, by omega, by go_num, by exact blk, by exact blk, by exact blk, by exact blk, by exact kpt⟩
                case measure => simp [intOf]
            · have d2 : decide (SL ≤ (SH + 1)) = false := by first | (simp; done) | (simp; omega)
              have hb : (decide (SL ≤ M) && decide (M ≤ SH)) = false := by simp; omega
              rw [hb] at KX
              subst hM
              clear h0 h1 h2 hb
              go_wp2_with (go_at_call 38; (with_reducible refine (KX.out _).mono ?_); rintro e w7 ⟨rfl, hb7⟩; refine Blk.thru (b := w.heap.size) (arr := ?_) (t := ?_) ?_ hb7 ?_; rotate_left 2; (focus (exact blk)); intro fq0; have fq0c0 := fq0.cell 0; have fq0f0 := fq0.free 0; have fq0c1 := fq0.cell 1; have fq0f1 := fq0.free 1; have fq0c2 := fq0.cell 2; have fq0f2 := fq0.free 2; have fq0c3 := fq0.cell 3; have fq0f3 := fq0.free 3; have fq0c4 := fq0.cell 4; have fq0f4 := fq0.free 4; have fq0c5 := fq0.cell 5; have fq0f5 := fq0.free 5; have fq0c6 := fq0.cell 6; have fq0f6 := fq0.free 6; have fq0c7 := fq0.cell 7; have fq0f7 := fq0.free 7; have fq0l := fq0.lt; simp at fq0c0 fq0c1 fq0c2 fq0c3 fq0c4 fq0c5 fq0c6 fq0c7; refine Blk.thru (b := w.heap.size + 1) (arr := ?_) (t := ?_) ?_ hb7 ?_; rotate_left 2; (focus (exact blk)); intro fq1; have fq1c0 := fq1.cell 0; have fq1f0 := fq1.free 0; have fq1c1 := fq1.cell 1; have fq1f1 := fq1.free 1; have fq1c2 := fq1.cell 2; have fq1f2 := fq1.free 2; have fq1c3 := fq1.cell 3; have fq1f3 := fq1.free 3; have fq1l := fq1.lt; simp at fq1c0 fq1c1 fq1c2 fq1c3; refine Blk.thru (b := w1.heap.size) (arr := ?_) (t := ?_) ?_ hb7 ?_; rotate_left 2; (focus (exact blk)); intro fr1; have fr1c0 := fr1.cell 0; have fr1f0 := fr1.free 0; have fr1c1 := fr1.cell 1; have fr1f1 := fr1.free 1; have fr1l := fr1.lt; simp at fr1c0 fr1c1; refine Blk.thru (b := m) (arr := ?_) (t := ?_) ?_ hb7 ?_; rotate_left 2; (focus (exact blk)); intro fm0; have fm0c0 := fm0.cell 0; have fm0f0 := fm0.free 0; have fm0c1 := fm0.cell 1; have fm0f1 := fm0.free 1; have fm0c2 := fm0.cell 2; have fm0f2 := fm0.free 2; have fm0c3 := fm0.cell 3; have fm0f3 := fm0.free 3; have fm0c4 := fm0.cell 4; have fm0f4 := fm0.free 4; have fm0c5 := fm0.cell 5; have fm0f5 := fm0.free 5; have fm0l := fm0.lt; simp at fm0c0 fm0c1 fm0c2 fm0c3 fm0c4 fm0c5)
              go_roundw
              case rel => exact ⟨6, by omega, by go_num, by exact blk, by exact blk, by exact blk, by exact blk, by exact kpt⟩
              case measure => simp [intOf]
    · go_wp2_with fail
      go_ret
      exact ⟨rfl, by exact kpt⟩

end Go.Proofs.Ytemafanncejeiaa

/-
  GasBlown: a hull and its ballonet: the walk, error 6.
-/
namespace Go.Proofs.Ytemafanncejeiaa
open Go.RowKit Bal Bal.Trim Bal.Gas
set_option linter.unusedVariables false
set_option linter.unusedSimpArgs false
set_option maxHeartbeats 4000000
set_option maxRecDepth 100000

theorem law_GasBlown_6 (h : Hl) (a : Air) (n x y z : Int) (w : World) (hx : 0 ≤ x ∧ x ≤ 65535) (hy : 0 ≤ y ∧ y ≤ 65535) (hz : 0 ≤ z ∧ z ≤ 65535) (hc : hullB h = true) (ha : airB a = true) (hE : blowE h a = 6) : Calls Try.prog 17 #[.agg #[.int .i64 h.room, .int .i64 h.gas, .int .i64 h.wlo, .int .i64 h.whi, .int .i64 h.ballonet, .int .i64 h.bag, .int .i64 h.least, .int .i64 h.most], .agg #[.int .i64 a.plo, .int .i64 a.phi, .int .i64 a.tlo, .int .i64 a.thi], .int .i64 n, .int .u16 x, .int .u16 y, .int .u16 z] w fun e w' => e = .returned (.bool true) ∧ Kept w w' := by
  obtain ⟨⟨b1, b2, b3⟩, b4, b5, b6⟩ := airB_iff.1 ha
  obtain ⟨⟨r1, r2⟩, ⟨e1, e2⟩, ⟨e3, e4, e5⟩, ⟨u0, u1, u2⟩, u3, u4, u5⟩ := hullB_iff.1 hc
  have i1 := insG_in x b2
  have i2 := insG_in y b5
  have i3 := insG_in z u4
  have KI1 := Lib.hid (fun W => o_inside a.plo a.phi x W (by omega) b2 (by omega) hx)
  have KI2 := Lib.hid (fun W => o_inside a.tlo a.thi y W (by omega) b5 (by omega) hy)
  have KI3 := Lib.hid (fun W => o_inside h.wlo h.whi z W (by omega) u4 (by omega) hz)
  obtain ⟨p, hp⟩ : ∃ n, n = insG a.plo a.phi x := ⟨_, rfl⟩
  obtain ⟨t, ht⟩ : ∃ n, n = insG a.tlo a.thi y := ⟨_, rfl⟩
  obtain ⟨v, hv⟩ : ∃ n, n = insG h.wlo h.whi z := ⟨_, rfl⟩
  rw [← hp] at i1 KI1
  rw [← ht] at i2 KI2
  rw [← hv] at i3 KI3
  clear hp ht hv
  have H1 := inner_over hc i1 i2 i3
  have H2 := inner_held hc i1 i2 i3 (a := a)
  obtain ⟨⟨o1, o2⟩, o3, o4⟩ := over_bd hc ha
  obtain ⟨s0, s1, s2⟩ := blown_span hc ha
  have hun := hung_ok hc ha
  have KB0 := fun W => f_BlowC h a W
  have KO0 := fun W => f_OverC h a W
  have KH0 := fun W => f_HoldsC h a W
  have cH : checkHull h = 0 := by simp [checkHull, hc]
  have cA : checkAir a = 0 := by simp [checkAir, ha]
  have KCH0 := fun W => f_CheckHull h W
  have KCA0 := fun W => f_CheckAir a W
  rw [cH] at KCH0
  rw [cA] at KCA0
  rw [hE] at KB0 s2
  rw [hun] at KO0 KH0
  have HX := Lib.hid (show ∀ m : Int, 0 ≤ m → m ≤ h.bag → ∀ W, Calls Try.prog 38 #[.agg #[.int .i64 h.room, .int .i64 h.gas, .int .i64 h.wlo, .int .i64 h.whi, .int .i64 m, .int .i64 h.bag, .int .i64 h.least, .int .i64 h.most], .agg #[.int .i64 a.plo, .int .i64 a.phi, .int .i64 a.tlo, .int .i64 a.thi]] W fun e w' => e = .returned (.tuple #[.bool (false), .int .i64 0]) ∧ Kept W w' from fun m h0 h1 W => by
    have k := f_HoldsC { h with ballonet := m } a W
    have hm : hung { h with ballonet := m } a = 0 := hung_ok (with_B hc ⟨h0, h1⟩) ha
    rw [hm] at k
    have he : (decide ((0 : Int) = 0) && holdsB { h with ballonet := m } a) = false := by
      have := holds_iff ha ⟨h0, h1⟩ (h := h)
      simp only [decide_true, Bool.true_and]
      cases hq : holdsB { h with ballonet := m } a
      · rfl
      · have := this.1 hq
        omega
    rw [he] at k
    exact k)
  simp only [ifOk_ok, decide_true, Bool.true_and] at KO0 KH0
  have KB1 : ∀ W, Calls Try.prog 40 #[.agg #[.int .i64 h.room, .int .i64 h.gas, .int .i64 h.wlo, .int .i64 h.whi, .int .i64 h.ballonet, .int .i64 h.bag, .int .i64 h.least, .int .i64 h.most], .agg #[.int .i64 a.plo, .int .i64 a.phi, .int .i64 a.tlo, .int .i64 a.thi]] W fun e w' => e = .returned (.tuple #[.agg #[.int .i64 0, .int .i64 0], .int .i64 6]) ∧ Kept W w' := KB0
  clear KB0
  have KB0 := KB1
  clear KB1
  obtain ⟨SL, hSL⟩ : ∃ n : Int, n = 0 := ⟨_, rfl⟩
  obtain ⟨SH, hSH⟩ : ∃ n : Int, n = 0 := ⟨_, rfl⟩
  have KB1 : ∀ W, Calls Try.prog 40 #[.agg #[.int .i64 h.room, .int .i64 h.gas, .int .i64 h.wlo, .int .i64 h.whi, .int .i64 h.ballonet, .int .i64 h.bag, .int .i64 h.least, .int .i64 h.most], .agg #[.int .i64 a.plo, .int .i64 a.phi, .int .i64 a.tlo, .int .i64 a.thi]] W fun e w' => e = .returned (.tuple #[.agg #[.int .i64 SL, .int .i64 SH], .int .i64 6]) ∧ Kept W w' := by rw [hSL, hSH]; exact KB0
  clear KB0
  have KB0 := KB1
  clear KB1
  have sB : 0 ≤ SL ∧ SL ≤ SH ∧ SH ≤ h.bag := by omega
  clear s0 s1 s2 hSL hSH
  obtain ⟨OL, hOL⟩ : ∃ n, n = overLo h a := ⟨_, rfl⟩
  obtain ⟨OH, hOH⟩ : ∃ n, n = overHi h a := ⟨_, rfl⟩
  obtain ⟨HB, hHB⟩ : ∃ n, n = holdsB h a := ⟨_, rfl⟩
  rw [← hOL] at KO0 H1 o1 o2
  rw [← hOH] at KO0 H1 o3 o4
  rw [← hHB] at KH0 H2
  unfold innerG at H1 H2
  have KB := Lib.hid KB0
  have KO := Lib.hid KO0
  have KH := Lib.hid KH0
  have KCH := Lib.hid KCH0
  have KCA := Lib.hid KCA0
  clear KB0 KO0 KH0 KCH0 KCA0 hOL hOH hHB hE cH cA hun
  have m1 := mul_bd (A := 10000000) (B := 3800) (x := h.gas) (y := t + v) (by omega) (by omega) (by omega) (by omega)
  have m2 := mul_bd (A := 10000000) (B := 3500) (x := h.ballonet) (y := t) (by omega) (by omega) (by omega) (by omega)
  have m3 := mul_bd (A := 12000) (B := 10000000) (x := p) (y := h.room) (by omega) (by omega) (by omega) (by omega)
  have m4 := mul_bd (A := 200000000000) (B := 10000000) (x := OL) (y := h.room) (by omega) (by omega) (by omega) (by omega)
  have m5 := mul_bd (A := 200000000000) (B := 10000000) (x := OH) (y := h.room) (by omega) (by omega) (by omega) (by omega)
  have m6 := mul_bd (A := 500) (B := 10000000) (x := h.least) (y := h.room) (by omega) (by omega) (by omega) (by omega)
  have m7 := mul_bd (A := 500) (B := 10000000) (x := h.most) (y := h.room) (by omega) (by omega) (by omega) (by omega)
  have w1 := i64_inH (n := t + v) (by omega)
  have w2 := i64_inH (n := h.gas * (t + v)) (by omega)
  have w3 := i64_inH (n := h.ballonet * t) (by omega)
  have w4 := i64_inH (n := h.gas * (t + v) + h.ballonet * t) (by omega)
  have w5 := i64_inH (n := p * h.room) (by omega)
  have w6 := i64_inH (n := (h.gas * (t + v) + h.ballonet * t - p * h.room)) (by omega)
  have w7 := i64_inH (n := h.least * h.room) (by omega)
  have w8 := i64_inH (n := h.most * h.room) (by omega)
  have w9 := i64_inH (n := SL - 1) (by omega)
  have w10 := i64_inH (n := SH + 1) (by omega)
  have KV := Lib.hid (show ∀ W, Calls Try.prog 72 #[.agg #[.int .i64 OL, .int .i64 OH], .int .i64 (h.gas * (t + v) + h.ballonet * t - p * h.room), .int .i64 h.room] W fun e w' => e = .returned (.bool true) ∧ Kept W w' from fun W => by
    have k := o_over OL OH (h.gas * (t + v) + h.ballonet * t - p * h.room) h.room W (by omega) (by omega)
    rwa [show overG OL OH (h.gas * (t + v) + h.ballonet * t - p * h.room) h.room = true by simp only [overG, Bool.and_eq_true, decide_eq_true_eq]; exact H1] at k)
  have d8 : HB = true → decide ((h.gas * (t + v) + h.ballonet * t - p * h.room) < h.least * h.room) = false := fun hh => by have := H2 hh; simp only [decide_eq_false_iff_not]; omega
  have d9 : HB = true → decide (h.most * h.room < (h.gas * (t + v) + h.ballonet * t - p * h.room)) = false := fun hh => by have := H2 hh; simp only [decide_eq_false_iff_not]; omega
  have D8 := Lib.hid d8
  have D9 := Lib.hid d9
  have d1 : decide (SL < 0) = false := by simp; omega
  have d2 : decide (SH < SL) = false := by simp; omega
  have d3 : decide (h.bag < SH) = false := by simp; omega
  clear H1 H2 m1 m2 m3 m4 m5 m6 m7 o1 o2 o3 o4 d8 d9
  go_enter Try.func17, Try.ntmps17
  go_upto_region 9 with (first | (go_at_call 68; (with_reducible refine (o_alive _).mono ?_); rintro e wa ⟨rfl, hba⟩; refine Blk.thru (b := w.heap.size) (arr := ?_) (t := ?_) ?_ hba ?_; rotate_left 2; (focus (exact blk)); intro aq0; have aq0c0 := aq0.cell 0; have aq0f0 := aq0.free 0; have aq0c1 := aq0.cell 1; have aq0f1 := aq0.free 1; have aq0c2 := aq0.cell 2; have aq0f2 := aq0.free 2; have aq0c3 := aq0.cell 3; have aq0f3 := aq0.free 3; have aq0c4 := aq0.cell 4; have aq0f4 := aq0.free 4; have aq0c5 := aq0.cell 5; have aq0f5 := aq0.free 5; have aq0c6 := aq0.cell 6; have aq0f6 := aq0.free 6; have aq0c7 := aq0.cell 7; have aq0f7 := aq0.free 7; have aq0l := aq0.lt; simp at aq0c0 aq0c1 aq0c2 aq0c3 aq0c4 aq0c5 aq0c6 aq0c7; refine Blk.thru (b := w.heap.size + 1) (arr := ?_) (t := ?_) ?_ hba ?_; rotate_left 2; (focus (exact blk)); intro aq1; have aq1c0 := aq1.cell 0; have aq1f0 := aq1.free 0; have aq1c1 := aq1.cell 1; have aq1f1 := aq1.free 1; have aq1c2 := aq1.cell 2; have aq1f2 := aq1.free 2; have aq1c3 := aq1.cell 3; have aq1f3 := aq1.free 3; have aq1l := aq1.lt; simp at aq1c0 aq1c1 aq1c2 aq1c3) | (go_at_call 40; (with_reducible refine (KB.out _).mono ?_); rintro e w1 ⟨rfl, hb1⟩; refine Blk.thru (b := w.heap.size) (arr := ?_) (t := ?_) ?_ hb1 ?_; rotate_left 2; (focus (exact blk)); intro bq0; have bq0c0 := bq0.cell 0; have bq0f0 := bq0.free 0; have bq0c1 := bq0.cell 1; have bq0f1 := bq0.free 1; have bq0c2 := bq0.cell 2; have bq0f2 := bq0.free 2; have bq0c3 := bq0.cell 3; have bq0f3 := bq0.free 3; have bq0c4 := bq0.cell 4; have bq0f4 := bq0.free 4; have bq0c5 := bq0.cell 5; have bq0f5 := bq0.free 5; have bq0c6 := bq0.cell 6; have bq0f6 := bq0.free 6; have bq0c7 := bq0.cell 7; have bq0f7 := bq0.free 7; have bq0l := bq0.lt; simp at bq0c0 bq0c1 bq0c2 bq0c3 bq0c4 bq0c5 bq0c6 bq0c7; refine Blk.thru (b := w.heap.size + 1) (arr := ?_) (t := ?_) ?_ hb1 ?_; rotate_left 2; (focus (exact blk)); intro bq1; have bq1c0 := bq1.cell 0; have bq1f0 := bq1.free 0; have bq1c1 := bq1.cell 1; have bq1f1 := bq1.free 1; have bq1c2 := bq1.cell 2; have bq1f2 := bq1.free 2; have bq1c3 := bq1.cell 3; have bq1f3 := bq1.free 3; have bq1l := bq1.lt; simp at bq1c0 bq1c1 bq1c2 bq1c3) | (go_at_call 44; (with_reducible refine (KCH.out _).mono ?_); rintro e w2 ⟨rfl, hb2⟩; refine Blk.thru (b := w.heap.size) (arr := ?_) (t := ?_) ?_ hb2 ?_; rotate_left 2; (focus (exact blk)); intro dq0; have dq0c0 := dq0.cell 0; have dq0f0 := dq0.free 0; have dq0c1 := dq0.cell 1; have dq0f1 := dq0.free 1; have dq0c2 := dq0.cell 2; have dq0f2 := dq0.free 2; have dq0c3 := dq0.cell 3; have dq0f3 := dq0.free 3; have dq0c4 := dq0.cell 4; have dq0f4 := dq0.free 4; have dq0c5 := dq0.cell 5; have dq0f5 := dq0.free 5; have dq0c6 := dq0.cell 6; have dq0f6 := dq0.free 6; have dq0c7 := dq0.cell 7; have dq0f7 := dq0.free 7; have dq0l := dq0.lt; simp at dq0c0 dq0c1 dq0c2 dq0c3 dq0c4 dq0c5 dq0c6 dq0c7; refine Blk.thru (b := w.heap.size + 1) (arr := ?_) (t := ?_) ?_ hb2 ?_; rotate_left 2; (focus (exact blk)); intro dq1; have dq1c0 := dq1.cell 0; have dq1f0 := dq1.free 0; have dq1c1 := dq1.cell 1; have dq1f1 := dq1.free 1; have dq1c2 := dq1.cell 2; have dq1f2 := dq1.free 2; have dq1c3 := dq1.cell 3; have dq1f3 := dq1.free 3; have dq1l := dq1.lt; simp at dq1c0 dq1c1 dq1c2 dq1c3; refine Blk.thru (b := w1.heap.size) (arr := ?_) (t := ?_) ?_ hb2 ?_; rotate_left 2; (focus (exact blk)); intro dr1; have dr1c0 := dr1.cell 0; have dr1f0 := dr1.free 0; have dr1c1 := dr1.cell 1; have dr1f1 := dr1.free 1; have dr1l := dr1.lt; simp at dr1c0 dr1c1) | (go_at_call 26; (with_reducible refine (KCA.out _).mono ?_); rintro e w3 ⟨rfl, hb3⟩; refine Blk.thru (b := w.heap.size) (arr := ?_) (t := ?_) ?_ hb3 ?_; rotate_left 2; (focus (exact blk)); intro eq0; have eq0c0 := eq0.cell 0; have eq0f0 := eq0.free 0; have eq0c1 := eq0.cell 1; have eq0f1 := eq0.free 1; have eq0c2 := eq0.cell 2; have eq0f2 := eq0.free 2; have eq0c3 := eq0.cell 3; have eq0f3 := eq0.free 3; have eq0c4 := eq0.cell 4; have eq0f4 := eq0.free 4; have eq0c5 := eq0.cell 5; have eq0f5 := eq0.free 5; have eq0c6 := eq0.cell 6; have eq0f6 := eq0.free 6; have eq0c7 := eq0.cell 7; have eq0f7 := eq0.free 7; have eq0l := eq0.lt; simp at eq0c0 eq0c1 eq0c2 eq0c3 eq0c4 eq0c5 eq0c6 eq0c7; refine Blk.thru (b := w.heap.size + 1) (arr := ?_) (t := ?_) ?_ hb3 ?_; rotate_left 2; (focus (exact blk)); intro eq1; have eq1c0 := eq1.cell 0; have eq1f0 := eq1.free 0; have eq1c1 := eq1.cell 1; have eq1f1 := eq1.free 1; have eq1c2 := eq1.cell 2; have eq1f2 := eq1.free 2; have eq1c3 := eq1.cell 3; have eq1f3 := eq1.free 3; have eq1l := eq1.lt; simp at eq1c0 eq1c1 eq1c2 eq1c3; refine Blk.thru (b := w1.heap.size) (arr := ?_) (t := ?_) ?_ hb3 ?_; rotate_left 2; (focus (exact blk)); intro er1; have er1c0 := er1.cell 0; have er1f0 := er1.free 0; have er1c1 := er1.cell 1; have er1f1 := er1.free 1; have er1l := er1.lt; simp at er1c0 er1c1))
  refine at_world (S := fun V => Blk V (w.heap.size) #[.int .i64 h.room, .int .i64 h.gas, .int .i64 h.wlo, .int .i64 h.whi, .int .i64 h.ballonet, .int .i64 h.bag, .int .i64 h.least, .int .i64 h.most] 45 ∧ Blk V (w.heap.size + 1) #[.int .i64 a.plo, .int .i64 a.phi, .int .i64 a.tlo, .int .i64 a.thi] 27 ∧ Blk V (w1.heap.size) #[.int .i64 SL, .int .i64 SH] 23 ∧ Kept w V) ⟨by exact blk, by exact blk, by exact blk, by exact kpt⟩ ?_
  rintro V ⟨q0, q1, r1, hkV⟩
  have q0c0 := fun g : Later V => (q0.later g).cell 0
  have q0f0 := fun g : Later V => (q0.later g).free 0
  have q0c1 := fun g : Later V => (q0.later g).cell 1
  have q0f1 := fun g : Later V => (q0.later g).free 1
  have q0c2 := fun g : Later V => (q0.later g).cell 2
  have q0f2 := fun g : Later V => (q0.later g).free 2
  have q0c3 := fun g : Later V => (q0.later g).cell 3
  have q0f3 := fun g : Later V => (q0.later g).free 3
  have q0c4 := fun g : Later V => (q0.later g).cell 4
  have q0f4 := fun g : Later V => (q0.later g).free 4
  have q0c5 := fun g : Later V => (q0.later g).cell 5
  have q0f5 := fun g : Later V => (q0.later g).free 5
  have q0c6 := fun g : Later V => (q0.later g).cell 6
  have q0f6 := fun g : Later V => (q0.later g).free 6
  have q0c7 := fun g : Later V => (q0.later g).cell 7
  have q0f7 := fun g : Later V => (q0.later g).free 7
  have q0l := fun g : Later V => (q0.later g).lt
  simp at q0c0 q0c1 q0c2 q0c3 q0c4 q0c5 q0c6 q0c7
  have q1c0 := fun g : Later V => (q1.later g).cell 0
  have q1f0 := fun g : Later V => (q1.later g).free 0
  have q1c1 := fun g : Later V => (q1.later g).cell 1
  have q1f1 := fun g : Later V => (q1.later g).free 1
  have q1c2 := fun g : Later V => (q1.later g).cell 2
  have q1f2 := fun g : Later V => (q1.later g).free 2
  have q1c3 := fun g : Later V => (q1.later g).cell 3
  have q1f3 := fun g : Later V => (q1.later g).free 3
  have q1l := fun g : Later V => (q1.later g).lt
  simp at q1c0 q1c1 q1c2 q1c3
  refine Later.region (by kernel_rfl) (by kernel_rfl) ?_
  repeat (first | go_big_quiet_skip | (go_big_quiet_want; go_big_quiet_op; first | go_big_quiet_on | (apply Exists.intro; refine ⟨fun g_ => ?_, ?_⟩; (focus (first | (go_at_call 71; with_reducible exact Later.call (KI1.out _)) | (go_at_call 71; with_reducible exact Later.call (KI2.out _)) | (go_at_call 71; with_reducible exact Later.call (KI3.out _)))); go_big_quiet_on)))
  refine wpQuiet_nil ?_
  intro gg
  clear q0c0 q0f0 q0c1 q0f1 q0c2 q0f2 q0c3 q0f3 q0c4 q0f4 q0c5 q0f5 q0c6 q0f6 q0c7 q0f7 q0l q1c0 q1f0 q1c1 q1f1 q1c2 q1f2 q1c3 q1f3 q1l
  have nq0 := q0.later gg
  have nq1 := q1.later gg
  have nr1 := r1.later gg
  have hkg := Kept.drop hkV gg.ok
  clear hkV q0 q1 r1
  have nq0c0 := nq0.cell 0
  have nq0f0 := nq0.free 0
  have nq0c1 := nq0.cell 1
  have nq0f1 := nq0.free 1
  have nq0c2 := nq0.cell 2
  have nq0f2 := nq0.free 2
  have nq0c3 := nq0.cell 3
  have nq0f3 := nq0.free 3
  have nq0c4 := nq0.cell 4
  have nq0f4 := nq0.free 4
  have nq0c5 := nq0.cell 5
  have nq0f5 := nq0.free 5
  have nq0c6 := nq0.cell 6
  have nq0f6 := nq0.free 6
  have nq0c7 := nq0.cell 7
  have nq0f7 := nq0.free 7
  have nq0l := nq0.lt
  simp at nq0c0 nq0c1 nq0c2 nq0c3 nq0c4 nq0c5 nq0c6 nq0c7
  have nq1c0 := nq1.cell 0
  have nq1f0 := nq1.free 0
  have nq1c1 := nq1.cell 1
  have nq1f1 := nq1.free 1
  have nq1c2 := nq1.cell 2
  have nq1f2 := nq1.free 2
  have nq1c3 := nq1.cell 3
  have nq1f3 := nq1.free 3
  have nq1l := nq1.lt
  simp at nq1c0 nq1c1 nq1c2 nq1c3
  have nr1c0 := nr1.cell 0
  have nr1f0 := nr1.free 0
  have nr1c1 := nr1.cell 1
  have nr1f1 := nr1.free 1
  have nr1l := nr1.lt
  simp at nr1c0 nr1c1
  go_upto_region 13 with (first | (go_at_call 36; (with_reducible refine (KO.out _).mono ?_); rintro e w4 ⟨rfl, hb4⟩; refine Blk.thru (b := w.heap.size) (arr := ?_) (t := ?_) ?_ hb4 ?_; rotate_left 2; (focus (exact blk)); intro gq0; have gq0c0 := gq0.cell 0; have gq0f0 := gq0.free 0; have gq0c1 := gq0.cell 1; have gq0f1 := gq0.free 1; have gq0c2 := gq0.cell 2; have gq0f2 := gq0.free 2; have gq0c3 := gq0.cell 3; have gq0f3 := gq0.free 3; have gq0c4 := gq0.cell 4; have gq0f4 := gq0.free 4; have gq0c5 := gq0.cell 5; have gq0f5 := gq0.free 5; have gq0c6 := gq0.cell 6; have gq0f6 := gq0.free 6; have gq0c7 := gq0.cell 7; have gq0f7 := gq0.free 7; have gq0l := gq0.lt; simp at gq0c0 gq0c1 gq0c2 gq0c3 gq0c4 gq0c5 gq0c6 gq0c7; refine Blk.thru (b := w.heap.size + 1) (arr := ?_) (t := ?_) ?_ hb4 ?_; rotate_left 2; (focus (exact blk)); intro gq1; have gq1c0 := gq1.cell 0; have gq1f0 := gq1.free 0; have gq1c1 := gq1.cell 1; have gq1f1 := gq1.free 1; have gq1c2 := gq1.cell 2; have gq1f2 := gq1.free 2; have gq1c3 := gq1.cell 3; have gq1f3 := gq1.free 3; have gq1l := gq1.lt; simp at gq1c0 gq1c1 gq1c2 gq1c3; refine Blk.thru (b := w1.heap.size) (arr := ?_) (t := ?_) ?_ hb4 ?_; rotate_left 2; (focus (exact blk)); intro gr1; have gr1c0 := gr1.cell 0; have gr1f0 := gr1.free 0; have gr1c1 := gr1.cell 1; have gr1f1 := gr1.free 1; have gr1l := gr1.lt; simp at gr1c0 gr1c1) | (go_at_call 38; (with_reducible refine (KH.out _).mono ?_); rintro e w5 ⟨rfl, hb5⟩; refine Blk.thru (b := w.heap.size) (arr := ?_) (t := ?_) ?_ hb5 ?_; rotate_left 2; (focus (exact blk)); intro kq0; have kq0c0 := kq0.cell 0; have kq0f0 := kq0.free 0; have kq0c1 := kq0.cell 1; have kq0f1 := kq0.free 1; have kq0c2 := kq0.cell 2; have kq0f2 := kq0.free 2; have kq0c3 := kq0.cell 3; have kq0f3 := kq0.free 3; have kq0c4 := kq0.cell 4; have kq0f4 := kq0.free 4; have kq0c5 := kq0.cell 5; have kq0f5 := kq0.free 5; have kq0c6 := kq0.cell 6; have kq0f6 := kq0.free 6; have kq0c7 := kq0.cell 7; have kq0f7 := kq0.free 7; have kq0l := kq0.lt; simp at kq0c0 kq0c1 kq0c2 kq0c3 kq0c4 kq0c5 kq0c6 kq0c7; refine Blk.thru (b := w.heap.size + 1) (arr := ?_) (t := ?_) ?_ hb5 ?_; rotate_left 2; (focus (exact blk)); intro kq1; have kq1c0 := kq1.cell 0; have kq1f0 := kq1.free 0; have kq1c1 := kq1.cell 1; have kq1f1 := kq1.free 1; have kq1c2 := kq1.cell 2; have kq1f2 := kq1.free 2; have kq1c3 := kq1.cell 3; have kq1f3 := kq1.free 3; have kq1l := kq1.lt; simp at kq1c0 kq1c1 kq1c2 kq1c3; refine Blk.thru (b := w1.heap.size) (arr := ?_) (t := ?_) ?_ hb5 ?_; rotate_left 2; (focus (exact blk)); intro kr1; have kr1c0 := kr1.cell 0; have kr1f0 := kr1.free 0; have kr1c1 := kr1.cell 1; have kr1f1 := kr1.free 1; have kr1l := kr1.lt; simp at kr1c0 kr1c1; refine Blk.thru (b := w4.heap.size) (arr := ?_) (t := ?_) ?_ hb5 ?_; rotate_left 2; (focus (exact blk)); intro kr2; have kr2c0 := kr2.cell 0; have kr2f0 := kr2.free 0; have kr2c1 := kr2.cell 1; have kr2f1 := kr2.free 1; have kr2l := kr2.lt; simp at kr2c0 kr2c1))
  refine at_world (S := fun X => Blk X (w.heap.size) #[.int .i64 h.room, .int .i64 h.gas, .int .i64 h.wlo, .int .i64 h.whi, .int .i64 h.ballonet, .int .i64 h.bag, .int .i64 h.least, .int .i64 h.most] 45 ∧ Blk X (w.heap.size + 1) #[.int .i64 a.plo, .int .i64 a.phi, .int .i64 a.tlo, .int .i64 a.thi] 27 ∧ Blk X (w1.heap.size) #[.int .i64 SL, .int .i64 SH] 23 ∧ Blk X (w4.heap.size) #[.int .i64 OL, .int .i64 OH] 23 ∧ Kept w X) ⟨by exact blk, by exact blk, by exact blk, by exact blk, by exact kpt⟩ ?_
  rintro X ⟨q0, q1, r1, r2, hkX⟩
  have q0c0 := q0.cell 0
  have q0f0 := q0.free 0
  have q0c1 := q0.cell 1
  have q0f1 := q0.free 1
  have q0c2 := q0.cell 2
  have q0f2 := q0.free 2
  have q0c3 := q0.cell 3
  have q0f3 := q0.free 3
  have q0c4 := q0.cell 4
  have q0f4 := q0.free 4
  have q0c5 := q0.cell 5
  have q0f5 := q0.free 5
  have q0c6 := q0.cell 6
  have q0f6 := q0.free 6
  have q0c7 := q0.cell 7
  have q0f7 := q0.free 7
  have q0l := q0.lt
  simp at q0c0 q0c1 q0c2 q0c3 q0c4 q0c5 q0c6 q0c7
  have q1c0 := q1.cell 0
  have q1f0 := q1.free 0
  have q1c1 := q1.cell 1
  have q1f1 := q1.free 1
  have q1c2 := q1.cell 2
  have q1f2 := q1.free 2
  have q1c3 := q1.cell 3
  have q1f3 := q1.free 3
  have q1l := q1.lt
  simp at q1c0 q1c1 q1c2 q1c3
  have r1c0 := r1.cell 0
  have r1f0 := r1.free 0
  have r1c1 := r1.cell 1
  have r1f1 := r1.free 1
  have r1l := r1.lt
  simp at r1c0 r1c1
  have r2c0 := r2.cell 0
  have r2f0 := r2.free 0
  have r2c1 := r2.cell 1
  have r2f1 := r2.free 1
  have r2l := r2.lt
  simp at r2c0 r2c1
  go_cut [158] (fun s wx => s = .bool false ∧ Blk wx (w.heap.size) #[.int .i64 h.room, .int .i64 h.gas, .int .i64 h.wlo, .int .i64 h.whi, .int .i64 h.ballonet, .int .i64 h.bag, .int .i64 h.least, .int .i64 h.most] 45 ∧ Blk wx (w.heap.size + 1) #[.int .i64 a.plo, .int .i64 a.phi, .int .i64 a.tlo, .int .i64 a.thi] 27 ∧ Blk wx (w1.heap.size) #[.int .i64 SL, .int .i64 SH] 23 ∧ Kept w wx)
  case first =>
    cases HB
    · go_wp2_with (first | (go_at_call 72; (with_reducible refine (KV.out _).mono ?_); rintro e w6 ⟨rfl, hb6⟩; refine Blk.thru (b := w.heap.size) (arr := ?_) (t := ?_) ?_ hb6 ?_; rotate_left 2; (focus (exact blk)); intro mq0; have mq0c0 := mq0.cell 0; have mq0f0 := mq0.free 0; have mq0c1 := mq0.cell 1; have mq0f1 := mq0.free 1; have mq0c2 := mq0.cell 2; have mq0f2 := mq0.free 2; have mq0c3 := mq0.cell 3; have mq0f3 := mq0.free 3; have mq0c4 := mq0.cell 4; have mq0f4 := mq0.free 4; have mq0c5 := mq0.cell 5; have mq0f5 := mq0.free 5; have mq0c6 := mq0.cell 6; have mq0f6 := mq0.free 6; have mq0c7 := mq0.cell 7; have mq0f7 := mq0.free 7; have mq0l := mq0.lt; simp at mq0c0 mq0c1 mq0c2 mq0c3 mq0c4 mq0c5 mq0c6 mq0c7; refine Blk.thru (b := w.heap.size + 1) (arr := ?_) (t := ?_) ?_ hb6 ?_; rotate_left 2; (focus (exact blk)); intro mq1; have mq1c0 := mq1.cell 0; have mq1f0 := mq1.free 0; have mq1c1 := mq1.cell 1; have mq1f1 := mq1.free 1; have mq1c2 := mq1.cell 2; have mq1f2 := mq1.free 2; have mq1c3 := mq1.cell 3; have mq1f3 := mq1.free 3; have mq1l := mq1.lt; simp at mq1c0 mq1c1 mq1c2 mq1c3; refine Blk.thru (b := w1.heap.size) (arr := ?_) (t := ?_) ?_ hb6 ?_; rotate_left 2; (focus (exact blk)); intro mr1; have mr1c0 := mr1.cell 0; have mr1f0 := mr1.free 0; have mr1c1 := mr1.cell 1; have mr1f1 := mr1.free 1; have mr1l := mr1.lt; simp at mr1c0 mr1c1; refine Blk.thru (b := w4.heap.size) (arr := ?_) (t := ?_) ?_ hb6 ?_; rotate_left 2; (focus (exact blk)); intro mr2; have mr2c0 := mr2.cell 0; have mr2f0 := mr2.free 0; have mr2c1 := mr2.cell 1; have mr2f1 := mr2.free 1; have mr2l := mr2.lt; simp at mr2c0 mr2c1))
      go_meet
      exact ⟨rfl, by exact blk, by exact blk, by exact blk, by exact kpt⟩
    · have d8 := D8.out rfl
      have d9 := D9.out rfl
      go_wp2_with (first | (go_at_call 72; (with_reducible refine (KV.out _).mono ?_); rintro e w6 ⟨rfl, hb6⟩; refine Blk.thru (b := w.heap.size) (arr := ?_) (t := ?_) ?_ hb6 ?_; rotate_left 2; (focus (exact blk)); intro mq0; have mq0c0 := mq0.cell 0; have mq0f0 := mq0.free 0; have mq0c1 := mq0.cell 1; have mq0f1 := mq0.free 1; have mq0c2 := mq0.cell 2; have mq0f2 := mq0.free 2; have mq0c3 := mq0.cell 3; have mq0f3 := mq0.free 3; have mq0c4 := mq0.cell 4; have mq0f4 := mq0.free 4; have mq0c5 := mq0.cell 5; have mq0f5 := mq0.free 5; have mq0c6 := mq0.cell 6; have mq0f6 := mq0.free 6; have mq0c7 := mq0.cell 7; have mq0f7 := mq0.free 7; have mq0l := mq0.lt; simp at mq0c0 mq0c1 mq0c2 mq0c3 mq0c4 mq0c5 mq0c6 mq0c7; refine Blk.thru (b := w.heap.size + 1) (arr := ?_) (t := ?_) ?_ hb6 ?_; rotate_left 2; (focus (exact blk)); intro mq1; have mq1c0 := mq1.cell 0; have mq1f0 := mq1.free 0; have mq1c1 := mq1.cell 1; have mq1f1 := mq1.free 1; have mq1c2 := mq1.cell 2; have mq1f2 := mq1.free 2; have mq1c3 := mq1.cell 3; have mq1f3 := mq1.free 3; have mq1l := mq1.lt; simp at mq1c0 mq1c1 mq1c2 mq1c3; refine Blk.thru (b := w1.heap.size) (arr := ?_) (t := ?_) ?_ hb6 ?_; rotate_left 2; (focus (exact blk)); intro mr1; have mr1c0 := mr1.cell 0; have mr1f0 := mr1.free 0; have mr1c1 := mr1.cell 1; have mr1f1 := mr1.free 1; have mr1l := mr1.lt; simp at mr1c0 mr1c1; refine Blk.thru (b := w4.heap.size) (arr := ?_) (t := ?_) ?_ hb6 ?_; rotate_left 2; (focus (exact blk)); intro mr2; have mr2c0 := mr2.cell 0; have mr2f0 := mr2.free 0; have mr2c1 := mr2.cell 1; have mr2f1 := mr2.free 1; have mr2l := mr2.lt; simp at mr2c0 mr2c1))
      go_meet
      exact ⟨rfl, by exact blk, by exact blk, by exact blk, by exact kpt⟩
  case rest =>
  clear q0c0 q0f0 q0c1 q0f1 q0c2 q0f2 q0c3 q0f3 q0c4 q0f4 q0c5 q0f5 q0c6 q0f6 q0c7 q0f7 q0l q1c0 q1f0 q1c1 q1f1 q1c2 q1f2 q1c3 q1f3 q1l r1c0 r1f0 r1c1 r1f1 r1l r2c0 r2f0 r2c1 r2f1 r2l
  clear q0 q1 r1 r2 hkX
  obtain ⟨rfl, q0, q1, r1, hkx⟩ := hcut
  have q0c0 := q0.cell 0
  have q0f0 := q0.free 0
  have q0c1 := q0.cell 1
  have q0f1 := q0.free 1
  have q0c2 := q0.cell 2
  have q0f2 := q0.free 2
  have q0c3 := q0.cell 3
  have q0f3 := q0.free 3
  have q0c4 := q0.cell 4
  have q0f4 := q0.free 4
  have q0c5 := q0.cell 5
  have q0f5 := q0.free 5
  have q0c6 := q0.cell 6
  have q0f6 := q0.free 6
  have q0c7 := q0.cell 7
  have q0f7 := q0.free 7
  have q0l := q0.lt
  simp at q0c0 q0c1 q0c2 q0c3 q0c4 q0c5 q0c6 q0c7
  have q1c0 := q1.cell 0
  have q1f0 := q1.free 0
  have q1c1 := q1.cell 1
  have q1f1 := q1.free 1
  have q1c2 := q1.cell 2
  have q1f2 := q1.free 2
  have q1c3 := q1.cell 3
  have q1f3 := q1.free 3
  have q1l := q1.lt
  simp at q1c0 q1c1 q1c2 q1c3
  have r1c0 := r1.cell 0
  have r1f0 := r1.free 0
  have r1c1 := r1.cell 1
  have r1f1 := r1.free 1
  have r1l := r1.lt
  simp at r1c0 r1c1
  go_wp2_with fail
  refine at_world (S := fun V => Blk V (w.heap.size) #[.int .i64 h.room, .int .i64 h.gas, .int .i64 h.wlo, .int .i64 h.whi, .int .i64 h.ballonet, .int .i64 h.bag, .int .i64 h.least, .int .i64 h.most] 45 ∧ Blk V (w.heap.size + 1) #[.int .i64 a.plo, .int .i64 a.phi, .int .i64 a.tlo, .int .i64 a.thi] 27 ∧ Blk V (w1.heap.size) #[.int .i64 SL, .int .i64 SH] 23 ∧ Blk V wc.heap.size #[.int .i64 h.ballonet, .int .i64 n, .int .i64 SL, .int .i64 SH, .int .i64 (SL - 1), .int .i64 (SH + 1)] 3 ∧ Kept w V) ⟨by exact blkc, by exact blkc, by exact blkc, by exact blkc, by exact kpt⟩ ?_
  rintro V ⟨q0, q1, r1, m0, hkV⟩
  obtain ⟨m, hm⟩ : ∃ m, m = wc.heap.size := ⟨_, rfl⟩
  rw [← hm] at m0 ⊢
  clear hm
  go_loopw [174] (fun i wr => ∃ k : Nat, k ≤ 6 ∧ i = .int .i64 k ∧ Blk wr (w.heap.size) #[.int .i64 h.room, .int .i64 h.gas, .int .i64 h.wlo, .int .i64 h.whi, .int .i64 h.ballonet, .int .i64 h.bag, .int .i64 h.least, .int .i64 h.most] 45 ∧ Blk wr (w.heap.size + 1) #[.int .i64 a.plo, .int .i64 a.phi, .int .i64 a.tlo, .int .i64 a.thi] 27 ∧ Blk wr (w1.heap.size) #[.int .i64 SL, .int .i64 SH] 23 ∧ Blk wr m #[.int .i64 h.ballonet, .int .i64 n, .int .i64 SL, .int .i64 SH, .int .i64 (SL - 1), .int .i64 (SH + 1)] 3 ∧ Kept w wr) (fun i _ => 6 - (intOf i).toNat)
  case atStart => exact ⟨0, Nat.zero_le _, rfl, q0, q1, r1, m0, hkV⟩
  case round =>
    clear q0 q1 r1 m0 hkV
    obtain ⟨k, hk2, rfl, q0, q1, r1, m0, hkr⟩ := hrel
    have q0c0 := q0.cell 0
    have q0f0 := q0.free 0
    have q0c1 := q0.cell 1
    have q0f1 := q0.free 1
    have q0c2 := q0.cell 2
    have q0f2 := q0.free 2
    have q0c3 := q0.cell 3
    have q0f3 := q0.free 3
    have q0c4 := q0.cell 4
    have q0f4 := q0.free 4
    have q0c5 := q0.cell 5
    have q0f5 := q0.free 5
    have q0c6 := q0.cell 6
    have q0f6 := q0.free 6
    have q0c7 := q0.cell 7
    have q0f7 := q0.free 7
    have q0l := q0.lt
    simp at q0c0 q0c1 q0c2 q0c3 q0c4 q0c5 q0c6 q0c7
    have q1c0 := q1.cell 0
    have q1f0 := q1.free 0
    have q1c1 := q1.cell 1
    have q1f1 := q1.free 1
    have q1c2 := q1.cell 2
    have q1f2 := q1.free 2
    have q1c3 := q1.cell 3
    have q1f3 := q1.free 3
    have q1l := q1.lt
    simp at q1c0 q1c1 q1c2 q1c3
    have r1c0 := r1.cell 0
    have r1f0 := r1.free 0
    have r1c1 := r1.cell 1
    have r1f1 := r1.free 1
    have r1l := r1.lt
    simp at r1c0 r1c1
    have m0c0 := m0.cell 0
    have m0f0 := m0.free 0
    have m0c1 := m0.cell 1
    have m0f1 := m0.free 1
    have m0c2 := m0.cell 2
    have m0f2 := m0.free 2
    have m0c3 := m0.cell 3
    have m0f3 := m0.free 3
    have m0c4 := m0.cell 4
    have m0f4 := m0.free 4
    have m0c5 := m0.cell 5
    have m0f5 := m0.free 5
    have m0l := m0.lt
    simp at m0c0 m0c1 m0c2 m0c3 m0c4 m0c5
    rcases (show k = 0 ∨ k = 1 ∨ k = 2 ∨ k = 3 ∨ k = 4 ∨ k = 5 ∨ k = 6 by omega) with rfl | rfl | rfl | rfl | rfl | rfl | rfl
    · as_aux_lemma =>
        obtain ⟨M, hM⟩ : ∃ M, M = h.ballonet := ⟨_, rfl⟩
        by_cases h0 : M < 0
        · have d0 : decide (h.ballonet < 0) = true := by simp; omega
          clear hM h0
          go_wp2
          go_roundw
          case rel => exact ⟨1, by omega, by go_num, by exact blk, by exact blk, by exact blk, by exact blk, by exact kpt⟩
          case measure => simp [intOf]
        · by_cases h1 : h.bag < M
          · have d0 : decide (h.ballonet < 0) = false := by simp; omega
            have d1 : decide (h.bag < h.ballonet) = true := by simp; omega
            clear hM h0 h1
            go_wp2
            go_roundw
            case rel => exact ⟨1, by omega, by go_num, by exact blk, by exact blk, by exact blk, by exact blk, by exact kpt⟩
            case measure => simp [intOf]
          · have d0 : decide (h.ballonet < 0) = false := by simp; omega
            have d1 : decide (h.bag < h.ballonet) = false := by simp; omega
            have KX := Lib.hid (HX.out M (by omega) (by omega))
            subst hM
            clear h0 h1
            go_wp2_with (go_at_call 38; (with_reducible refine (KX.out _).mono ?_); rintro e w7 ⟨rfl, hb7⟩; refine Blk.thru (b := w.heap.size) (arr := ?_) (t := ?_) ?_ hb7 ?_; rotate_left 2; (focus (exact blk)); intro fq0; have fq0c0 := fq0.cell 0; have fq0f0 := fq0.free 0; have fq0c1 := fq0.cell 1; have fq0f1 := fq0.free 1; have fq0c2 := fq0.cell 2; have fq0f2 := fq0.free 2; have fq0c3 := fq0.cell 3; have fq0f3 := fq0.free 3; have fq0c4 := fq0.cell 4; have fq0f4 := fq0.free 4; have fq0c5 := fq0.cell 5; have fq0f5 := fq0.free 5; have fq0c6 := fq0.cell 6; have fq0f6 := fq0.free 6; have fq0c7 := fq0.cell 7; have fq0f7 := fq0.free 7; have fq0l := fq0.lt; simp at fq0c0 fq0c1 fq0c2 fq0c3 fq0c4 fq0c5 fq0c6 fq0c7; refine Blk.thru (b := w.heap.size + 1) (arr := ?_) (t := ?_) ?_ hb7 ?_; rotate_left 2; (focus (exact blk)); intro fq1; have fq1c0 := fq1.cell 0; have fq1f0 := fq1.free 0; have fq1c1 := fq1.cell 1; have fq1f1 := fq1.free 1; have fq1c2 := fq1.cell 2; have fq1f2 := fq1.free 2; have fq1c3 := fq1.cell 3; have fq1f3 := fq1.free 3; have fq1l := fq1.lt; simp at fq1c0 fq1c1 fq1c2 fq1c3; refine Blk.thru (b := w1.heap.size) (arr := ?_) (t := ?_) ?_ hb7 ?_; rotate_left 2; (focus (exact blk)); intro fr1; have fr1c0 := fr1.cell 0; have fr1f0 := fr1.free 0; have fr1c1 := fr1.cell 1; have fr1f1 := fr1.free 1; have fr1l := fr1.lt; simp at fr1c0 fr1c1; refine Blk.thru (b := m) (arr := ?_) (t := ?_) ?_ hb7 ?_; rotate_left 2; (focus (exact blk)); intro fm0; have fm0c0 := fm0.cell 0; have fm0f0 := fm0.free 0; have fm0c1 := fm0.cell 1; have fm0f1 := fm0.free 1; have fm0c2 := fm0.cell 2; have fm0f2 := fm0.free 2; have fm0c3 := fm0.cell 3; have fm0f3 := fm0.free 3; have fm0c4 := fm0.cell 4; have fm0f4 := fm0.free 4; have fm0c5 := fm0.cell 5; have fm0f5 := fm0.free 5; have fm0l := fm0.lt; simp at fm0c0 fm0c1 fm0c2 fm0c3 fm0c4 fm0c5)
            go_roundw
            case rel => exact ⟨1, by omega, by go_num, by exact blk, by exact blk, by exact blk, by exact blk, by exact kpt⟩
            case measure => simp [intOf]
    · as_aux_lemma =>
        obtain ⟨M, hM⟩ : ∃ M, M = n := ⟨_, rfl⟩
        by_cases h0 : M < 0
        · have d0 : decide (n < 0) = true := by simp; omega
          clear hM h0
          go_wp2
          go_roundw
          case rel => exact ⟨2, by omega, by go_num, by exact blk, by exact blk, by exact blk, by exact blk, by exact kpt⟩
          case measure => simp [intOf]
        · by_cases h1 : h.bag < M
          · have d0 : decide (n < 0) = false := by simp; omega
            have d1 : decide (h.bag < n) = true := by simp; omega
            clear hM h0 h1
            go_wp2
            go_roundw
            case rel => exact ⟨2, by omega, by go_num, by exact blk, by exact blk, by exact blk, by exact blk, by exact kpt⟩
            case measure => simp [intOf]
          · have d0 : decide (n < 0) = false := by simp; omega
            have d1 : decide (h.bag < n) = false := by simp; omega
            have KX := Lib.hid (HX.out M (by omega) (by omega))
            subst hM
            clear h0 h1
            go_wp2_with (go_at_call 38; (with_reducible refine (KX.out _).mono ?_); rintro e w7 ⟨rfl, hb7⟩; refine Blk.thru (b := w.heap.size) (arr := ?_) (t := ?_) ?_ hb7 ?_; rotate_left 2; (focus (exact blk)); intro fq0; have fq0c0 := fq0.cell 0; have fq0f0 := fq0.free 0; have fq0c1 := fq0.cell 1; have fq0f1 := fq0.free 1; have fq0c2 := fq0.cell 2; have fq0f2 := fq0.free 2; have fq0c3 := fq0.cell 3; have fq0f3 := fq0.free 3; have fq0c4 := fq0.cell 4; have fq0f4 := fq0.free 4; have fq0c5 := fq0.cell 5; have fq0f5 := fq0.free 5; have fq0c6 := fq0.cell 6; have fq0f6 := fq0.free 6; have fq0c7 := fq0.cell 7; have fq0f7 := fq0.free 7; have fq0l := fq0.lt; simp at fq0c0 fq0c1 fq0c2 fq0c3 fq0c4 fq0c5 fq0c6 fq0c7; refine Blk.thru (b := w.heap.size + 1) (arr := ?_) (t := ?_) ?_ hb7 ?_; rotate_left 2; (focus (exact blk)); intro fq1; have fq1c0 := fq1.cell 0; have fq1f0 := fq1.free 0; have fq1c1 := fq1.cell 1; have fq1f1 := fq1.free 1; have fq1c2 := fq1.cell 2; have fq1f2 := fq1.free 2; have fq1c3 := fq1.cell 3; have fq1f3 := fq1.free 3; have fq1l := fq1.lt; simp at fq1c0 fq1c1 fq1c2 fq1c3; refine Blk.thru (b := w1.heap.size) (arr := ?_) (t := ?_) ?_ hb7 ?_; rotate_left 2; (focus (exact blk)); intro fr1; have fr1c0 := fr1.cell 0; have fr1f0 := fr1.free 0; have fr1c1 := fr1.cell 1; have fr1f1 := fr1.free 1; have fr1l := fr1.lt; simp at fr1c0 fr1c1; refine Blk.thru (b := m) (arr := ?_) (t := ?_) ?_ hb7 ?_; rotate_left 2; (focus (exact blk)); intro fm0; have fm0c0 := fm0.cell 0; have fm0f0 := fm0.free 0; have fm0c1 := fm0.cell 1; have fm0f1 := fm0.free 1; have fm0c2 := fm0.cell 2; have fm0f2 := fm0.free 2; have fm0c3 := fm0.cell 3; have fm0f3 := fm0.free 3; have fm0c4 := fm0.cell 4; have fm0f4 := fm0.free 4; have fm0c5 := fm0.cell 5; have fm0f5 := fm0.free 5; have fm0l := fm0.lt; simp at fm0c0 fm0c1 fm0c2 fm0c3 fm0c4 fm0c5)
            go_roundw
            case rel => exact ⟨2, by omega, by go_num, by exact blk, by exact blk, by exact blk, by exact blk, by exact kpt⟩
            case measure => simp [intOf]
    · as_aux_lemma =>
        obtain ⟨M, hM⟩ : ∃ M, M = SL := ⟨_, rfl⟩
        by_cases h0 : M < 0
        · exfalso; omega
        · by_cases h1 : h.bag < M
          · have d0 : decide (SL < 0) = false := by simp; omega
            have d1 : decide (h.bag < SL) = true := by simp; omega
            clear hM h0 h1
            go_wp2
            go_roundw
            case rel => exact ⟨3, by omega, by go_num, by exact blk, by exact blk, by exact blk, by exact blk, by exact kpt⟩
            case measure => simp [intOf]
          · have d0 : decide (SL < 0) = false := by simp; omega
            have d1 : decide (h.bag < SL) = false := by simp; omega
            have KX := Lib.hid (HX.out M (by omega) (by omega))
            subst hM
            clear h0 h1
            go_wp2_with (go_at_call 38; (with_reducible refine (KX.out _).mono ?_); rintro e w7 ⟨rfl, hb7⟩; refine Blk.thru (b := w.heap.size) (arr := ?_) (t := ?_) ?_ hb7 ?_; rotate_left 2; (focus (exact blk)); intro fq0; have fq0c0 := fq0.cell 0; have fq0f0 := fq0.free 0; have fq0c1 := fq0.cell 1; have fq0f1 := fq0.free 1; have fq0c2 := fq0.cell 2; have fq0f2 := fq0.free 2; have fq0c3 := fq0.cell 3; have fq0f3 := fq0.free 3; have fq0c4 := fq0.cell 4; have fq0f4 := fq0.free 4; have fq0c5 := fq0.cell 5; have fq0f5 := fq0.free 5; have fq0c6 := fq0.cell 6; have fq0f6 := fq0.free 6; have fq0c7 := fq0.cell 7; have fq0f7 := fq0.free 7; have fq0l := fq0.lt; simp at fq0c0 fq0c1 fq0c2 fq0c3 fq0c4 fq0c5 fq0c6 fq0c7; refine Blk.thru (b := w.heap.size + 1) (arr := ?_) (t := ?_) ?_ hb7 ?_; rotate_left 2; (focus (exact blk)); intro fq1; have fq1c0 := fq1.cell 0; have fq1f0 := fq1.free 0; have fq1c1 := fq1.cell 1; have fq1f1 := fq1.free 1; have fq1c2 := fq1.cell 2; have fq1f2 := fq1.free 2; have fq1c3 := fq1.cell 3; have fq1f3 := fq1.free 3; have fq1l := fq1.lt; simp at fq1c0 fq1c1 fq1c2 fq1c3; refine Blk.thru (b := w1.heap.size) (arr := ?_) (t := ?_) ?_ hb7 ?_; rotate_left 2; (focus (exact blk)); intro fr1; have fr1c0 := fr1.cell 0; have fr1f0 := fr1.free 0; have fr1c1 := fr1.cell 1; have fr1f1 := fr1.free 1; have fr1l := fr1.lt; simp at fr1c0 fr1c1; refine Blk.thru (b := m) (arr := ?_) (t := ?_) ?_ hb7 ?_; rotate_left 2; (focus (exact blk)); intro fm0; have fm0c0 := fm0.cell 0; have fm0f0 := fm0.free 0; have fm0c1 := fm0.cell 1; have fm0f1 := fm0.free 1; have fm0c2 := fm0.cell 2; have fm0f2 := fm0.free 2; have fm0c3 := fm0.cell 3; have fm0f3 := fm0.free 3; have fm0c4 := fm0.cell 4; have fm0f4 := fm0.free 4; have fm0c5 := fm0.cell 5; have fm0f5 := fm0.free 5; have fm0l := fm0.lt; simp at fm0c0 fm0c1 fm0c2 fm0c3 fm0c4 fm0c5)
            go_roundw
            case rel => exact ⟨3, by omega, by go_num, by exact blk, by exact blk, by exact blk, by exact blk, by exact kpt⟩
            case measure => simp [intOf]
    · as_aux_lemma =>
        obtain ⟨M, hM⟩ : ∃ M, M = SH := ⟨_, rfl⟩
        by_cases h0 : M < 0
        · have d0 : decide (SH < 0) = true := by simp; omega
          clear hM h0
          go_wp2
          go_roundw
          case rel => exact ⟨4, by omega, by go_num, by exact blk, by exact blk, by exact blk, by exact blk, by exact kpt⟩
          case measure => simp [intOf]
        · by_cases h1 : h.bag < M
          · exfalso; omega
          · have d0 : decide (SH < 0) = false := by simp; omega
            have d1 : decide (h.bag < SH) = false := by simp; omega
            have KX := Lib.hid (HX.out M (by omega) (by omega))
            subst hM
            clear h0 h1
            go_wp2_with (go_at_call 38; (with_reducible refine (KX.out _).mono ?_); rintro e w7 ⟨rfl, hb7⟩; refine Blk.thru (b := w.heap.size) (arr := ?_) (t := ?_) ?_ hb7 ?_; rotate_left 2; (focus (exact blk)); intro fq0; have fq0c0 := fq0.cell 0; have fq0f0 := fq0.free 0; have fq0c1 := fq0.cell 1; have fq0f1 := fq0.free 1; have fq0c2 := fq0.cell 2; have fq0f2 := fq0.free 2; have fq0c3 := fq0.cell 3; have fq0f3 := fq0.free 3; have fq0c4 := fq0.cell 4; have fq0f4 := fq0.free 4; have fq0c5 := fq0.cell 5; have fq0f5 := fq0.free 5; have fq0c6 := fq0.cell 6; have fq0f6 := fq0.free 6; have fq0c7 := fq0.cell 7; have fq0f7 := fq0.free 7; have fq0l := fq0.lt; simp at fq0c0 fq0c1 fq0c2 fq0c3 fq0c4 fq0c5 fq0c6 fq0c7; refine Blk.thru (b := w.heap.size + 1) (arr := ?_) (t := ?_) ?_ hb7 ?_; rotate_left 2; (focus (exact blk)); intro fq1; have fq1c0 := fq1.cell 0; have fq1f0 := fq1.free 0; have fq1c1 := fq1.cell 1; have fq1f1 := fq1.free 1; have fq1c2 := fq1.cell 2; have fq1f2 := fq1.free 2; have fq1c3 := fq1.cell 3; have fq1f3 := fq1.free 3; have fq1l := fq1.lt; simp at fq1c0 fq1c1 fq1c2 fq1c3; refine Blk.thru (b := w1.heap.size) (arr := ?_) (t := ?_) ?_ hb7 ?_; rotate_left 2; (focus (exact blk)); intro fr1; have fr1c0 := fr1.cell 0; have fr1f0 := fr1.free 0; have fr1c1 := fr1.cell 1; have fr1f1 := fr1.free 1; have fr1l := fr1.lt; simp at fr1c0 fr1c1; refine Blk.thru (b := m) (arr := ?_) (t := ?_) ?_ hb7 ?_; rotate_left 2; (focus (exact blk)); intro fm0; have fm0c0 := fm0.cell 0; have fm0f0 := fm0.free 0; have fm0c1 := fm0.cell 1; have fm0f1 := fm0.free 1; have fm0c2 := fm0.cell 2; have fm0f2 := fm0.free 2; have fm0c3 := fm0.cell 3; have fm0f3 := fm0.free 3; have fm0c4 := fm0.cell 4; have fm0f4 := fm0.free 4; have fm0c5 := fm0.cell 5; have fm0f5 := fm0.free 5; have fm0l := fm0.lt; simp at fm0c0 fm0c1 fm0c2 fm0c3 fm0c4 fm0c5)
            go_roundw
            case rel => exact ⟨4, by omega, by go_num, by exact blk, by exact blk, by exact blk, by exact blk, by exact kpt⟩
            case measure => simp [intOf]
    · as_aux_lemma =>
        obtain ⟨M, hM⟩ : ∃ M, M = (SL - 1) := ⟨_, rfl⟩
        by_cases h0 : M < 0
        · have d0 : decide ((SL - 1) < 0) = true := by simp; omega
          clear hM h0
          go_wp2
          go_roundw
          case rel => exact ⟨5, by omega, by go_num, by exact blk, by exact blk, by exact blk, by exact blk, by exact kpt⟩
          case measure => simp [intOf]
        · by_cases h1 : h.bag < M
          · have d0 : decide ((SL - 1) < 0) = false := by simp; omega
            have d1 : decide (h.bag < (SL - 1)) = true := by simp; omega
            clear hM h0 h1
            go_wp2
            go_roundw
            case rel => exact ⟨5, by omega, by go_num, by exact blk, by exact blk, by exact blk, by exact blk, by exact kpt⟩
            case measure => simp [intOf]
          · have d0 : decide ((SL - 1) < 0) = false := by simp; omega
            have d1 : decide (h.bag < (SL - 1)) = false := by simp; omega
            have KX := Lib.hid (HX.out M (by omega) (by omega))
            subst hM
            clear h0 h1
            go_wp2_with (go_at_call 38; (with_reducible refine (KX.out _).mono ?_); rintro e w7 ⟨rfl, hb7⟩; refine Blk.thru (b := w.heap.size) (arr := ?_) (t := ?_) ?_ hb7 ?_; rotate_left 2; (focus (exact blk)); intro fq0; have fq0c0 := fq0.cell 0; have fq0f0 := fq0.free 0; have fq0c1 := fq0.cell 1; have fq0f1 := fq0.free 1; have fq0c2 := fq0.cell 2; have fq0f2 := fq0.free 2; have fq0c3 := fq0.cell 3; have fq0f3 := fq0.free 3; have fq0c4 := fq0.cell 4; have fq0f4 := fq0.free 4; have fq0c5 := fq0.cell 5; have fq0f5 := fq0.free 5; have fq0c6 := fq0.cell 6; have fq0f6 := fq0.free 6; have fq0c7 := fq0.cell 7; have fq0f7 := fq0.free 7; have fq0l := fq0.lt; simp at fq0c0 fq0c1 fq0c2 fq0c3 fq0c4 fq0c5 fq0c6 fq0c7; refine Blk.thru (b := w.heap.size + 1) (arr := ?_) (t := ?_) ?_ hb7 ?_; rotate_left 2; (focus (exact blk)); intro fq1; have fq1c0 := fq1.cell 0; have fq1f0 := fq1.free 0; have fq1c1 := fq1.cell 1; have fq1f1 := fq1.free 1; have fq1c2 := fq1.cell 2; have fq1f2 := fq1.free 2; have fq1c3 := fq1.cell 3; have fq1f3 := fq1.free 3; have fq1l := fq1.lt; simp at fq1c0 fq1c1 fq1c2 fq1c3; refine Blk.thru (b := w1.heap.size) (arr := ?_) (t := ?_) ?_ hb7 ?_; rotate_left 2; (focus (exact blk)); intro fr1; have fr1c0 := fr1.cell 0; have fr1f0 := fr1.free 0; have fr1c1 := fr1.cell 1; have fr1f1 := fr1.free 1; have fr1l := fr1.lt; simp at fr1c0 fr1c1; refine Blk.thru (b := m) (arr := ?_) (t := ?_) ?_ hb7 ?_; rotate_left 2; (focus (exact blk)); intro fm0; have fm0c0 := fm0.cell 0; have fm0f0 := fm0.free 0; have fm0c1 := fm0.cell 1; have fm0f1 := fm0.free 1; have fm0c2 := fm0.cell 2; have fm0f2 := fm0.free 2; have fm0c3 := fm0.cell 3; have fm0f3 := fm0.free 3; have fm0c4 := fm0.cell 4; have fm0f4 := fm0.free 4; have fm0c5 := fm0.cell 5; have fm0f5 := fm0.free 5; have fm0l := fm0.lt; simp at fm0c0 fm0c1 fm0c2 fm0c3 fm0c4 fm0c5)
            go_roundw
            case rel => exact ⟨5, by omega, by go_num, by exact blk, by exact blk, by exact blk, by exact blk, by exact kpt⟩
            case measure => simp [intOf]
    · as_aux_lemma =>
        obtain ⟨M, hM⟩ : ∃ M, M = (SH + 1) := ⟨_, rfl⟩
        by_cases h0 : M < 0
        · have d0 : decide ((SH + 1) < 0) = true := by simp; omega
          clear hM h0
          go_wp2
          go_roundw
          case rel => exact ⟨6, by omega, by go_num, by exact blk, by exact blk, by exact blk, by exact blk, by exact kpt⟩
          case measure => simp [intOf]
        · by_cases h1 : h.bag < M
          · have d0 : decide ((SH + 1) < 0) = false := by simp; omega
            have d1 : decide (h.bag < (SH + 1)) = true := by simp; omega
            clear hM h0 h1
            go_wp2
            go_roundw
            case rel => exact ⟨6, by omega, by go_num, by exact blk, by exact blk, by exact blk, by exact blk, by exact kpt⟩
            case measure => simp [intOf]
          · have d0 : decide ((SH + 1) < 0) = false := by simp; omega
            have d1 : decide (h.bag < (SH + 1)) = false := by simp; omega
            have KX := Lib.hid (HX.out M (by omega) (by omega))
            subst hM
            clear h0 h1
            go_wp2_with (go_at_call 38; (with_reducible refine (KX.out _).mono ?_); rintro e w7 ⟨rfl, hb7⟩; refine Blk.thru (b := w.heap.size) (arr := ?_) (t := ?_) ?_ hb7 ?_; rotate_left 2; (focus (exact blk)); intro fq0; have fq0c0 := fq0.cell 0; have fq0f0 := fq0.free 0; have fq0c1 := fq0.cell 1; have fq0f1 := fq0.free 1; have fq0c2 := fq0.cell 2; have fq0f2 := fq0.free 2; have fq0c3 := fq0.cell 3; have fq0f3 := fq0.free 3; have fq0c4 := fq0.cell 4; have fq0f4 := fq0.free 4; have fq0c5 := fq0.cell 5; have fq0f5 := fq0.free 5; have fq0c6 := fq0.cell 6; have fq0f6 := fq0.free 6; have fq0c7 := fq0.cell 7; have fq0f7 := fq0.free 7; have fq0l := fq0.lt; simp at fq0c0 fq0c1 fq0c2 fq0c3 fq0c4 fq0c5 fq0c6 fq0c7; refine Blk.thru (b := w.heap.size + 1) (arr := ?_) (t := ?_) ?_ hb7 ?_; rotate_left 2; (focus (exact blk)); intro fq1; have fq1c0 := fq1.cell 0; have fq1f0 := fq1.free 0; have fq1c1 := fq1.cell 1; have fq1f1 := fq1.free 1; have fq1c2 := fq1.cell 2; have fq1f2 := fq1.free 2; have fq1c3 := fq1.cell 3; have fq1f3 := fq1.free 3; have fq1l := fq1.lt; simp at fq1c0 fq1c1 fq1c2 fq1c3; refine Blk.thru (b := w1.heap.size) (arr := ?_) (t := ?_) ?_ hb7 ?_; rotate_left 2; (focus (exact blk)); intro fr1; have fr1c0 := fr1.cell 0; have fr1f0 := fr1.free 0; have fr1c1 := fr1.cell 1; have fr1f1 := fr1.free 1; have fr1l := fr1.lt; simp at fr1c0 fr1c1; refine Blk.thru (b := m) (arr := ?_) (t := ?_) ?_ hb7 ?_; rotate_left 2; (focus (exact blk)); intro fm0; have fm0c0 := fm0.cell 0; have fm0f0 := fm0.free 0; have fm0c1 := fm0.cell 1; have fm0f1 := fm0.free 1; have fm0c2 := fm0.cell 2; have fm0f2 := fm0.free 2; have fm0c3 := fm0.cell 3; have fm0f3 := fm0.free 3; have fm0c4 := fm0.cell 4; have fm0f4 := fm0.free 4; have fm0c5 := fm0.cell 5; have fm0f5 := fm0.free 5; have fm0l := fm0.lt; simp at fm0c0 fm0c1 fm0c2 fm0c3 fm0c4 fm0c5)
            go_roundw
            case rel => exact ⟨6, by omega, by go_num, by exact blk, by exact blk, by exact blk, by exact blk, by exact kpt⟩
            case measure => simp [intOf]
    · go_wp2_with fail
      go_ret
      exact ⟨rfl, by exact kpt⟩

end Go.Proofs.Ytemafanncejeiaa

/-
  GasBlown: a hull and its ballonet: the walk, joined.
-/
namespace Go.Proofs.Ytemafanncejeiaa
open Go.RowKit Bal Bal.Trim Bal.Gas
set_option linter.unusedVariables false
set_option linter.unusedSimpArgs false
set_option maxHeartbeats 4000000

theorem law_GasBlown (h : Hl) (a : Air) (n x y z : Int) (w : World) (hx : 0 ≤ x ∧ x ≤ 65535) (hy : 0 ≤ y ∧ y ≤ 65535) (hz : 0 ≤ z ∧ z ≤ 65535) : Calls Try.prog 17 #[.agg #[.int .i64 h.room, .int .i64 h.gas, .int .i64 h.wlo, .int .i64 h.whi, .int .i64 h.ballonet, .int .i64 h.bag, .int .i64 h.least, .int .i64 h.most], .agg #[.int .i64 a.plo, .int .i64 a.phi, .int .i64 a.tlo, .int .i64 a.thi], .int .i64 n, .int .u16 x, .int .u16 y, .int .u16 z] w fun e w' => e = .returned (.bool true) ∧ Kept w w' := by
  cases hc : hullB h
  · exact law_GasBlown_bad h a n x y z w 33 (.inr rfl) (hung_hull hc)
  · cases ha : airB a
    · exact law_GasBlown_bad h a n x y z w 30 (.inl rfl) (hung_air hc ha)
    · rcases (blown_span hc ha).2.2 with ⟨h1, _⟩ | ⟨h1, _⟩
      · exact law_GasBlown_0 h a n x y z w hx hy hz hc ha h1
      · exact law_GasBlown_6 h a n x y z w hx hy hz hc ha h1

end Go.Proofs.Ytemafanncejeiaa

/-
  Structs as cells of memory. No program in sight.
-/
namespace Bal.Gas
open Go Go.RowKit Bal

def Hl.cells (x : Hl) : List Value := [.int .i64 x.room, .int .i64 x.gas, .int .i64 x.wlo, .int .i64 x.whi, .int .i64 x.ballonet, .int .i64 x.bag, .int .i64 x.least, .int .i64 x.most]
theorem Hl.row {B : Nat} {w : World} {a : Option Addr} {xs : List Hl} (h : Row Hl.cells 8 B w a xs) (i : Nat) (hi : i < xs.length) :
    ∃ b off, a = some ⟨b, off, none⟩ ∧ b < B ∧ w.cell? ⟨b, off + i * 8, none⟩ = some (.int .i64 xs[i].room) ∧ w.cell? ⟨b, off + i * 8 + 1, none⟩ = some (.int .i64 xs[i].gas) ∧ w.cell? ⟨b, off + i * 8 + 2, none⟩ = some (.int .i64 xs[i].wlo) ∧ w.cell? ⟨b, off + i * 8 + 3, none⟩ = some (.int .i64 xs[i].whi) ∧ w.cell? ⟨b, off + i * 8 + 4, none⟩ = some (.int .i64 xs[i].ballonet) ∧ w.cell? ⟨b, off + i * 8 + 5, none⟩ = some (.int .i64 xs[i].bag) ∧ w.cell? ⟨b, off + i * 8 + 6, none⟩ = some (.int .i64 xs[i].least) ∧ w.cell? ⟨b, off + i * 8 + 7, none⟩ = some (.int .i64 xs[i].most) := by
  obtain ⟨b, off, ha, hb, hc⟩ := h i xs[i] (by simp [hi])
  exact ⟨b, off, ha, hb, hc 0 _ rfl, hc 1 _ rfl, hc 2 _ rfl, hc 3 _ rfl, hc 4 _ rfl, hc 5 _ rfl, hc 6 _ rfl, hc 7 _ rfl⟩
theorem Hl.of_leaves {cs : List Value} (h : LeavesOk [.int .i64, .int .i64, .int .i64, .int .i64, .int .i64, .int .i64, .int .i64, .int .i64] cs) : ∃ x : Hl, cs = x.cells ∧ (Lit.int .i64 x.room).wf = true ∧ (Lit.int .i64 x.gas).wf = true ∧ (Lit.int .i64 x.wlo).wf = true ∧ (Lit.int .i64 x.whi).wf = true ∧ (Lit.int .i64 x.ballonet).wf = true ∧ (Lit.int .i64 x.bag).wf = true ∧ (Lit.int .i64 x.least).wf = true ∧ (Lit.int .i64 x.most).wf = true := by
  obtain ⟨hl, h⟩ := h
  match cs, hl with
  | [v0, v1, v2, v3, v4, v5, v6, v7], _ =>
    obtain ⟨_, e0, n0, rfl, w0⟩ := h 0 (.int .i64) rfl; simp at e0; subst e0
    obtain ⟨_, e1, n1, rfl, w1⟩ := h 1 (.int .i64) rfl; simp at e1; subst e1
    obtain ⟨_, e2, n2, rfl, w2⟩ := h 2 (.int .i64) rfl; simp at e2; subst e2
    obtain ⟨_, e3, n3, rfl, w3⟩ := h 3 (.int .i64) rfl; simp at e3; subst e3
    obtain ⟨_, e4, n4, rfl, w4⟩ := h 4 (.int .i64) rfl; simp at e4; subst e4
    obtain ⟨_, e5, n5, rfl, w5⟩ := h 5 (.int .i64) rfl; simp at e5; subst e5
    obtain ⟨_, e6, n6, rfl, w6⟩ := h 6 (.int .i64) rfl; simp at e6; subst e6
    obtain ⟨_, e7, n7, rfl, w7⟩ := h 7 (.int .i64) rfl; simp at e7; subst e7
    exact ⟨⟨n0, n1, n2, n3, n4, n5, n6, n7⟩, rfl, w0, w1, w2, w3, w4, w5, w6, w7⟩

end Bal.Gas

/-
  GasBlown, the statement: for every input the call returns true and leaves the input alone.
-/
namespace Go.Proofs.Ytemafanncejeiaa.gasBlown
open Go.ChangeShapes Go.WideShapes Go.ChangeAt Go.RowKit Bal Bal.Trim Bal.Gas
open Go.ChangeMaps (open_string shut_string)
set_option linter.unusedVariables false

theorem own : ownKnob Try.prog.godebug = none := by kernel_rfl
theorem laidOut : laidOutB Try.prog = true := by kernel_rfl

set_option maxRecDepth 100000 in
theorem lifted (os : Os) (started : os.Started) (H : Type) (enc : TypeId × Value → H) :
    ReturnsInHanded {} Try.checked os 17 .any (Rows.gasBlownSpec.pre6 enc Try.prog Try.f17 Rows.gasBlownRow.domain false) (Rows.gasBlownSpec.post enc Try.prog Try.f17 false true false false) := by
  refine returnsInHanded_of_change (C := Try.checked) own started (by kernel_rfl) Try.func17
    (ChangeSpec.witness6 (enc := enc) (C := Try.checked) false ⟨#[], #[.agg #[.int .i64 0, .int .i64 0, .int .i64 0, .int .i64 0, .int .i64 0, .int .i64 0, .int .i64 0, .int .i64 0], .agg #[.int .i64 0, .int .i64 0, .int .i64 0, .int .i64 0], .int .i64 0, .int .u16 0, .int .u16 0, .int .u16 0], []⟩ 8 (by kernel_rfl) (by kernel_rfl) (by kernel_rfl) (by kernel_rfl)) ?_
  intro W base args ds gs before hval0 hW hcnd _
  have hval : ∀ (j : Nat) t v, Try.f17.params[j]? = some t → args[j]? = some v → Value.okWide Try.prog W .any base t v := hval0
  have hW' := hW
  obtain ⟨p, q, hA0, hV, rfl, hfz, hnd⟩ := hW
  have hA : DataW.TrodAll enc Try.prog W 0 (fun _ => true) true Try.f17.params.toList args.toList ds p := hA0
  rw [Try.params17] at hA hval
  obtain ⟨v0, vs0, d0, ds0, p0, q0, hargs, rfl, rfl, h0, r0⟩ := trodAll_cons hA
  obtain ⟨v1, vs1, d1, ds1, p1, q1, rfl, rfl, rfl, h1, r1⟩ := trodAll_cons r0
  obtain ⟨v2, vs2, d2, ds2, p2, q2, rfl, rfl, rfl, h2, r2⟩ := trodAll_cons r1
  obtain ⟨v3, vs3, d3, ds3, p3, q3, rfl, rfl, rfl, h3, r3⟩ := trodAll_cons r2
  obtain ⟨v4, vs4, d4, ds4, p4, q4, rfl, rfl, rfl, h4, r4⟩ := trodAll_cons r3
  obtain ⟨v5, vs5, d5, ds5, p5, q5, rfl, rfl, rfl, h5, r5⟩ := trodAll_cons r4
  obtain ⟨rfl, rfl, rfl⟩ := trodAll_nil r5
  obtain rfl : args = #[v0, v1, v2, v3, v4, v5] := by cases args; simp_all
  obtain ⟨rfl, rfl⟩ := trodVars_none hV
  have k0 := h0
  have lt0 : ∀ x ∈ p0, x.block < W.heap.size := by obtain ⟨m, hm⟩ := k0; exact DataW.trod_lt m _ _ _ hm
  obtain ⟨a0, rfl, wf0⟩ := open_agg (n := 5) (fun _ h => Hl.of_leaves h) Try.underlying45 (by kernel_rfl) (hval 0 45 v0 rfl rfl) h0
  have k1 := h1
  have lt1 : ∀ x ∈ p1, x.block < W.heap.size := by obtain ⟨m, hm⟩ := k1; exact DataW.trod_lt m _ _ _ hm
  obtain ⟨a1, rfl, wf1⟩ := open_agg (n := 5) (fun _ h => Air.of_leaves h) Try.underlying27 (by kernel_rfl) (hval 1 27 v1 rfl rfl) h1
  obtain ⟨a2, rfl, rfl, rfl, w2⟩ := open_int Try.underlying3 (hval 2 3 v2 rfl rfl) h2
  obtain ⟨a3, rfl, rfl, rfl, w3⟩ := open_int Try.underlying114 (hval 3 114 v3 rfl rfl) h3
  obtain ⟨a4, rfl, rfl, rfl, w4⟩ := open_int Try.underlying114 (hval 4 114 v4 rfl rfl) h4
  obtain ⟨a5, rfl, rfl, rfl, w5⟩ := open_int Try.underlying114 (hval 5 114 v5 rfl rfl) h5
  clear hA0 hval0
  refine (law_GasBlown a0 a1 a2 a3 a4 a5 W (wf_u16 w3) (wf_u16 w4) (wf_u16 w5)).mono fun e W' ⟨he, bel⟩ => ?_
  subst he
  exact ⟨_, rfl, _, _, _, [], _, [], hW', trodAll_mk1 (shut_bool Try.underlying4 _), (trodAll_cons_mk (Below.trod laidOut (by kernel_rfl) (of_decide_eq_true (by kernel_rfl)) k0 bel lt0) (trodAll_cons_mk (Below.trod laidOut (by kernel_rfl) (of_decide_eq_true (by kernel_rfl)) k1 bel lt1) (trodAll_cons_mk (shut_int Try.underlying3 w2) (trodAll_cons_mk (shut_int Try.underlying114 w3) (trodAll_cons_mk (shut_int Try.underlying114 w4) (trodAll_cons_mk (shut_int Try.underlying114 w5) trodAll_mk0)))))), rfl, bel.frame _, fun h => by cases h⟩

theorem joined : joinedFacts Try.prog 17 Try.f17 Rows.gasBlownSpec Rows.gasBlownRow = true := by
  unfold joinedFacts
  rw [mayEnter_is, liftsFinal_is, make_is]
  kernel_rfl
theorem over : Rows.gasBlownRow.holds Try.pinned (OpenSpec.ofChange Rows.gasBlownSpec) :=
  OpenClaim.holds_of_wide 17 Try.f17 rfl rfl rfl rfl rfl rfl rfl ⟨rfl, rfl, rfl, rfl, rfl⟩ rfl rfl rfl rfl rfl (by kernel_rfl) Try.func17 joined
    (of_decide_eq_true (by kernel_rfl)) (by unfold Func.isWrapper; first | (rw [if_pos (by decide +kernel)]; kernel_rfl) | (rw [if_neg (by decide +kernel)]; exact ⟨rfl, rfl⟩))
    (fun os started H enc _ => lifted os started H enc)
end Go.Proofs.Ytemafanncejeiaa.gasBlown

namespace Go.Proofs.Ytemafanncejeiaa
theorem gasBlown_holds : Rows.GasBlownSaid := gasBlown.over
#print axioms gasBlown_holds
end Go.Proofs.Ytemafanncejeiaa
