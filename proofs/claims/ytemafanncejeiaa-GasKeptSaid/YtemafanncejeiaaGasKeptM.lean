/-
  GasKept, the statement: for every input the call returns true and leaves the input alone.
-/
import Derived.Test.YtemafanncejeiaaGasBaseM
import Derived.Deep.RegionHeld3
import Derived.Deep.DeepCutAuto
import Derived.Test.YtemafanncejeiaaRows
set_option linter.unusedVariables false
set_option linter.unusedSimpArgs false
namespace Go.Proofs.Ytemafanncejeiaa
open Go.RowKit Bal Bal.Trim Bal.Gas
set_option linter.unusedVariables false
set_option linter.unusedSimpArgs false
set_option maxHeartbeats 8000000
set_option maxRecDepth 100000

theorem set_same {α : Type} {l : List α} {k : Nat} {x : α} (h : l[k]? = some x) : l.set k x = l := by
  obtain ⟨hk, rfl⟩ := List.getElem?_eq_some_iff.1 h
  exact List.set_getElem_self hk
end Go.Proofs.Ytemafanncejeiaa

namespace Go.Proofs.Ytemafanncejeiaa
open Go.RowKit Bal Bal.Trim Bal.Gas
set_option linter.unusedVariables false
set_option linter.unusedSimpArgs false
set_option maxHeartbeats 8000000
set_option maxRecDepth 100000

theorem r_Great1 (p : Plant) (d : Deed) (v : Value) (a : Option Addr) (cap : Nat) (m : Nat) (w : World) (hv : v = .slice a p.cells.length cap) (hx : Blk w m #[.int .u8 d.kind, .int .i64 d.cell, .int .i64 d.to, .int .i64 d.n] 65) (hc : p.cells.length ≤ cap) (hM : cap ≤ maxLen) :
    Calls Try.prog 46 #[.agg #[v, .int .i64 p.bottles, .int .i64 p.inH, .int .i64 p.inA, .int .i64 p.vH, .int .i64 p.vA, .int .i64 p.lH, .int .i64 p.lA, .int .i64 p.pH, .int .i64 p.pA], .slice (some ⟨m, 0, none⟩) 1 1] w fun e w' => e = .returned (.bool (greatB p [d])) ∧ Kept w w' :=
  r_Great p [d] v a cap _ 1 w hv (Row.one hx rfl) hc hM (by simp) (by simp [maxLen])
end Go.Proofs.Ytemafanncejeiaa

/-
  The outright statements of chapter 3: all helium and air of a plant.
-/
namespace Go.Proofs.Ytemafanncejeiaa
open Go.RowKit Bal Bal.Trim Bal.Gas
set_option linter.unusedVariables false
set_option linter.unusedSimpArgs false
set_option maxHeartbeats 4000000
set_option maxRecDepth 100000

theorem o_sum (p : Plant) (a : Option Addr) (cap : Nat) (w : World) (hx : Row Cell.cells 7 w.heap.size w a p.cells) (hc : p.cells.length ≤ cap) (hM : cap ≤ maxLen) (hp : plantB p = true) :
    Calls Try.prog 70 #[.agg #[.slice a p.cells.length cap, .int .i64 p.bottles, .int .i64 p.inH, .int .i64 p.inA, .int .i64 p.vH, .int .i64 p.vA, .int .i64 p.lH, .int .i64 p.lA, .int .i64 p.pH, .int .i64 p.pA]] w fun e w' => e = .returned (.agg #[.int .i64 (allH p), .int .i64 (allA p)]) ∧ Kept w w' := by
  unfold maxLen at hM
  obtain ⟨h1, h2, h3, h4, h5, h6, h7, h8, h9⟩ := plantB_iff.1 hp
  have hal : p.cells.all cellB = true := List.all_eq_true.2 h7
  obtain ⟨H0, hH0⟩ : ∃ H0, p.bottles + p.vH + p.lH + p.pH = H0 := ⟨_, rfl⟩
  obtain ⟨A0, hA0⟩ : ∃ A0, p.vA + p.lA + p.pA = A0 := ⟨_, rfl⟩
  have EH := Lib.hid (show allH p = H0 + sumH (p.cells.take p.cells.length) by rw [List.take_length, ← hH0]; rfl)
  have EA := Lib.hid (show allA p = A0 + sumA (p.cells.take p.cells.length) by rw [List.take_length, ← hA0]; rfl)
  have x1 := i64_inH (n := p.bottles + p.vH) (by omega)
  have x2 := i64_inH (n := p.bottles + p.vH + p.lH) (by omega)
  have x3 := i64_inH (n := H0) (by omega)
  have x4 := i64_inH (n := p.vA + p.lA) (by omega)
  have x5 := i64_inH (n := A0) (by omega)
  have q1 : 0 ≤ H0 ∧ H0 ≤ 4000000000000 := by omega
  have q2 : 0 ≤ A0 ∧ A0 ≤ 4000000000000 := by omega
  clear h2 h3 h4 h5 h6 h7 h8 h9
  have HAL := Lib.hid hal
  clear hal hp
  go_enter Try.func70, Try.ntmps70
  go_upto_region 2 with fail
  clear x1 x2 x3 x4 x5 hH0 hA0
  refine at_world (S := fun W => Blk W w.heap.size #[.slice a p.cells.length cap, .int .i64 p.bottles, .int .i64 p.inH, .int .i64 p.inA, .int .i64 p.vH, .int .i64 p.vA, .int .i64 p.lH, .int .i64 p.lA, .int .i64 p.pH, .int .i64 p.pA] 63 ∧ Blk W (w.heap.size + 1) #[.int .i64 (0), .int .i64 (0)] 61 ∧ Blk W (w.heap.size + 2) #[.int .i64 (H0), .int .i64 (A0)] 61 ∧ Kept w W) ⟨by exact blkd, by exact blkd, by exact blkd, by exact kpt⟩ ?_
  rintro W ⟨b0, b1, b2, hk⟩
  have b0c0 := b0.cell 0
  have b0f0 := b0.free 0
  have b0c1 := b0.cell 1
  have b0f1 := b0.free 1
  have b0c2 := b0.cell 2
  have b0f2 := b0.free 2
  have b0c3 := b0.cell 3
  have b0f3 := b0.free 3
  have b0c4 := b0.cell 4
  have b0f4 := b0.free 4
  have b0c5 := b0.cell 5
  have b0f5 := b0.free 5
  have b0c6 := b0.cell 6
  have b0f6 := b0.free 6
  have b0c7 := b0.cell 7
  have b0f7 := b0.free 7
  have b0c8 := b0.cell 8
  have b0f8 := b0.free 8
  have b0c9 := b0.cell 9
  have b0f9 := b0.free 9
  have b0l := b0.lt
  simp at b0c0 b0c1 b0c2 b0c3 b0c4 b0c5 b0c6 b0c7 b0c8 b0c9
  go_wp2
  go_loopw [35] (fun i wq => ∃ k : Nat, k ≤ p.cells.length ∧ i = .int .i64 k ∧ Blk wq (w.heap.size + 2) #[.int .i64 (H0 + sumH (p.cells.take k)), .int .i64 (A0 + sumA (p.cells.take k))] 61 ∧ Blk wq (w.heap.size + 1) #[.int .i64 (0), .int .i64 (0)] 61 ∧ Kept w wq) (fun i _ => p.cells.length - (intOf i).toNat)
  case atStart => exact ⟨0, by omega, rfl, by simpa [sumH, sumA] using b2, b1, hk⟩
  case round =>
    clear b0c0 b0f0 b0c1 b0f1 b0c2 b0f2 b0c3 b0f3 b0c4 b0f4 b0c5 b0f5 b0c6 b0f6 b0c7 b0f7 b0c8 b0f8 b0c9 b0f9 b0l b0 b1 b2 hk
    obtain ⟨k, hkn, rfl, b2, b1, hk⟩ := hrel
    have hsb := sum_take HAL.out h1 k
    by_cases hlt : k < p.cells.length
    · obtain ⟨b, off, rfl, _, c0, c1, c2, c3, c4, c5, c6⟩ := Cell.row (hx.later hk (Nat.le_refl _)) k hlt
      have hs1 := sumBy_take Cell.helium p.cells k hlt
      have hs2 := sumBy_take Cell.air p.cells k hlt
      have hxc := cellB_iff.1 (List.all_eq_true.1 HAL.out _ (List.getElem_mem hlt))
      obtain ⟨x, hx0⟩ : ∃ x, x = p.cells[k] := ⟨_, rfl⟩
      rw [← hx0] at c0 c1 c2 c3 c4 c5 c6 hs1 hs2 hxc
      clear hx0
      obtain ⟨sh, hsh⟩ : ∃ y, y = H0 + sumH (p.cells.take k) := ⟨_, rfl⟩
      obtain ⟨sa, hsa⟩ : ∃ y, y = A0 + sumA (p.cells.take k) := ⟨_, rfl⟩
      have HS1 := Lib.hid (show H0 + sumH (p.cells.take (k + 1)) = sh + x.helium by rw [hsh]; unfold sumH; rw [hs1]; omega)
      have HS2 := Lib.hid (show A0 + sumA (p.cells.take (k + 1)) = sa + x.air by rw [hsa]; unfold sumA; rw [hs2]; omega)
      have g1 : 0 ≤ sh ∧ sh ≤ 4000120000000 := by omega
      have g2 : 0 ≤ sa ∧ sa ≤ 4000120000000 := by omega
      rw [← hsh, ← hsa] at b2
      clear hs1 hs2 hsh hsa hsb
      have k0 : (0 : Int) ≤ (k : Int) := by omega
      have k1 : (k : Int) < (p.cells.length : Int) := by omega
      have y1 := i64_inH (n := sh + x.helium) (by omega)
      have y2 := i64_inH (n := sa + x.air) (by omega)
      clear hxc
      have b2c0 := b2.cell 0
      have b2f0 := b2.free 0
      have b2c1 := b2.cell 1
      have b2f1 := b2.free 1
      have b2l := b2.lt
      simp at b2c0 b2c1
      go_wp2
      go_round
      case rel => exact ⟨k + 1, by omega, by go_num, by rw [HS1.out, HS2.out]; exact blkd, by exact blkd, by exact kpt⟩
      case measure => simp [intOf]; omega
    · obtain rfl : k = p.cells.length := by omega
      rw [← EH.out, ← EA.out] at b2
      have b2c0 := b2.cell 0
      have b2f0 := b2.free 0
      have b2c1 := b2.cell 1
      have b2f1 := b2.free 1
      have b2l := b2.lt
      simp at b2c0 b2c1
      have b1c0 := b1.cell 0
      have b1f0 := b1.free 0
      have b1c1 := b1.cell 1
      have b1f1 := b1.free 1
      have b1l := b1.lt
      simp at b1c0 b1c1
      go_wp2
      refine bodyPost_ret (v := .agg #[.int .i64 (allH p), .int .i64 (allA p)]) (by simp [results, Try.results70, go_sem, b1c0, b1c1, b1f0, b1f1, b2c0, b2c1, b2f0, b2f1]) rfl ⟨rfl, by exact kpt⟩
end Go.Proofs.Ytemafanncejeiaa

/-
  A warmer cell lifts no less: plain Lean, no program in sight.
-/
namespace Bal.Gas
open Bal.Trim
/-- a cell with so much more superheat -/
def warmC (c : Cell) (b : Int) : Cell := { c with wlo := min (c.wlo + b) 300, whi := min (c.whi + b) 300 }
def coldC (c : Cell) : Cell := { c with wlo := 0, whi := 0 }
theorem warm_ok {c : Cell} {b : Int} (hc : cellB c = true) (hb : 0 ≤ b) : cellB (warmC c b) = true := by
  have h := cellB_iff.1 hc
  refine cellB_iff.2 ?_
  simp only [warmC]
  omega
theorem cold_ok {c : Cell} (hc : cellB c = true) : cellB (coldC c) = true := by
  have h := cellB_iff.1 hc
  refine cellB_iff.2 ?_
  simp only [coldC]
  omega
theorem warm_lift {c : Cell} {a : Air} {b : Int} (hc : cellB c = true) (ha : airB a = true) (hb : 0 ≤ b) : liftLo c a ≤ liftLo (warmC c b) a ∧ liftHi c a ≤ liftHi (warmC c b) a := by
  obtain ⟨n0, _⟩ := prod_bd hc ha
  obtain ⟨_, b1, b2, b3⟩ := airB_iff.1 ha
  obtain ⟨_, _, _, _, _, u3, u4, u5⟩ := cellB_iff.1 hc
  have m1 : pull c c.wlo ≤ pull (warmC c b) (warmC c b).wlo := by
    show 29 * amount c * c.wlo ≤ 29 * amount c * min (c.wlo + b) 300
    exact Int.mul_le_mul_of_nonneg_left (by omega) (by omega)
  have m2 : pull c c.whi ≤ pull (warmC c b) (warmC c b).whi := by
    show 29 * amount c * c.whi ≤ 29 * amount c * min (c.whi + b) 300
    exact Int.mul_le_mul_of_nonneg_left (by omega) (by omega)
  have d1 := Int.ediv_le_ediv (show 0 < a.tlo by omega) m1
  have d2 := Int.ediv_le_ediv (show 0 < a.thi by omega) m1
  have d3 := Int.ediv_le_ediv (show 0 < a.tlo by omega) (Int.neg_le_neg m2)
  have d4 := Int.ediv_le_ediv (show 0 < a.thi by omega) (Int.neg_le_neg m2)
  have eh : (warmC c b).helium = c.helium := rfl
  unfold liftLo liftHi
  rw [eh]
  omega
theorem warm_vol {c : Cell} {a : Air} {b : Int} (hc : cellB c = true) (ha : airB a = true) (hb : 0 ≤ b) : volLo c a ≤ volLo (warmC c b) a ∧ volHi c a ≤ volHi (warmC c b) a := by
  obtain ⟨n0, _⟩ := prod_bd hc ha
  obtain ⟨⟨p1, p2, p3⟩, b1, b2, b3⟩ := airB_iff.1 ha
  obtain ⟨_, _, _, _, _, u3, u4, u5⟩ := cellB_iff.1 hc
  have m1 : amount c * heatLo c a ≤ amount (warmC c b) * heatLo (warmC c b) a := by
    show amount c * (a.tlo + c.wlo) ≤ amount c * (a.tlo + min (c.wlo + b) 300)
    exact Int.mul_le_mul_of_nonneg_left (by omega) (by omega)
  have m2 : amount c * heatHi c a ≤ amount (warmC c b) * heatHi (warmC c b) a := by
    show amount c * (a.thi + c.whi) ≤ amount c * (a.thi + min (c.whi + b) 300)
    exact Int.mul_le_mul_of_nonneg_left (by omega) (by omega)
  have d1 := Int.ediv_le_ediv (show 0 < a.phi by omega) m1
  have d2 := Int.ediv_le_ediv (show 0 < a.plo by omega) (Int.neg_le_neg m2)
  unfold volLo volHi
  omega
theorem cold_lift (c : Cell) (a : Air) : liftLo (coldC c) a = 25 * c.helium ∧ liftHi (coldC c) a = 25 * c.helium := by
  have e1 : pull (coldC c) (coldC c).wlo = 0 := by show 29 * amount c * 0 = 0; simp
  have e2 : pull (coldC c) (coldC c).whi = 0 := by show 29 * amount c * 0 = 0; simp
  have eh : (coldC c).helium = c.helium := rfl
  unfold liftLo liftHi
  rw [e1, e2, eh]
  simp
def pressA (a : Air) (p q : Int) : Air := { a with plo := p, phi := q }
theorem press_lift (c : Cell) (a : Air) (p q : Int) : liftLo c (pressA a p q) = liftLo c a ∧ liftHi c (pressA a p q) = liftHi c a := ⟨rfl, rfl⟩
theorem press_asked {c : Cell} {a : Air} (hc : cellB c = true) (p q : Int) : asked c (pressA a p q) = 0 ∨ asked c (pressA a p q) = 30 := by
  unfold asked checkAir
  rw [hc]
  simp only [if_true]
  split <;> simp
end Bal.Gas

/-
  The roof: at its pressure a hull can be held, at no lesser one: plain Lean, no program in sight.
-/
namespace Bal.Gas
open Bal.Trim
theorem hung_cases (h : Hl) (a : Air) : hung h a = 0 ∨ hung h a = 30 ∨ hung h a = 33 := by
  unfold hung checkAir
  repeat (first | split | simp)
theorem blowE_cases (h : Hl) (a : Air) : blowE h a = 0 ∨ blowE h a = 6 ∨ blowE h a = 30 ∨ blowE h a = 33 := by
  have := hung_cases h a
  unfold blowE
  split
  · split <;> simp
  · omega
theorem roofCE_cases (h : Hl) (x y : Int) : roofCE h x y = 0 ∨ roofCE h x y = 6 ∨ roofCE h x y = 2 ∨ roofCE h x y = 33 := by
  unfold roofCE roofE
  split
  · split
    · split <;> simp
    · simp
  · simp
theorem hung_zero {h : Hl} {a : Air} (hz : hung h a = 0) : hullB h = true ∧ airB a = true := by
  unfold hung checkAir at hz
  cases h1 : hullB h
  · simp [h1] at hz
  · cases h2 : airB a
    · simp [h1, h2] at hz
    · exact ⟨rfl, rfl⟩
theorem blowE_hung {h : Hl} {a : Air} (hb : blowE h a = 0 ∨ blowE h a = 6) : hung h a = 0 := by
  by_cases h0 : hung h a = 0
  · exact h0
  · have := hung_cases h a
    unfold blowE at hb
    rw [if_neg h0] at hb
    omega
theorem roof_none {h : Hl} {x y p : Int} (hE : roofCE h x y = 6) (hF : blowE h (calm x y p) = 0 ∨ blowE h (calm x y p) = 6) : blowE h (calm x y p) = 6 ∧ roofCN h x y = 0 := by
  have hz := blowE_hung hF
  obtain ⟨h1, h2⟩ := hung_zero hz
  obtain ⟨⟨b1, _, b2⟩, b4, b5, b6⟩ := airB_iff.1 h2
  have hs : spanIn x y 1500 3500 = true := spanIn_iff.2 ⟨b4, b5, b6⟩
  have hr : roof h x y = none := by
    unfold roofCE at hE
    rw [if_pos h1, if_pos hs] at hE
    cases hr : roof h x y with
    | none => rfl
    | some k => rw [hr] at hE; simp [roofE] at hE
  have hN : roofCN h x y = 0 := by unfold roofCN; rw [if_pos h1, if_pos hs, hr]; rfl
  refine ⟨?_, hN⟩
  unfold roof firstOf at hr
  rw [List.find?_range_eq_none] at hr
  have hk := hr (p - 1000).toNat (by simp only at b1 b2; omega)
  simp only [roofs, Bool.not_eq_true', decide_eq_false_iff_not] at hk
  have ep : 1000 + ((p - 1000).toNat : Int) = p := by simp only at b1; omega
  rw [ep] at hk
  unfold blowE
  rw [if_pos hz, if_pos (by omega)]
theorem roof_some {h : Hl} {x y p : Int} (hE : roofCE h x y = 0) (hF : blowE h (calm x y p) = 0 ∨ blowE h (calm x y p) = 6) :
    (1000 ≤ roofCN h x y ∧ roofCN h x y ≤ 12000) ∧ blowE h (calm x y (roofCN h x y)) = 0 ∧ blowLo h (calm x y (roofCN h x y)) ≤ blowHi h (calm x y (roofCN h x y)) ∧ (p < roofCN h x y → blowE h (calm x y p) = 6) := by
  have hz := blowE_hung hF
  obtain ⟨h1, h2⟩ := hung_zero hz
  obtain ⟨⟨b1, _, b2⟩, b4, b5, b6⟩ := airB_iff.1 h2
  have hs : spanIn x y 1500 3500 = true := spanIn_iff.2 ⟨b4, b5, b6⟩
  obtain ⟨k, hr⟩ : ∃ k, roof h x y = some k := by
    unfold roofCE at hE
    rw [if_pos h1, if_pos hs] at hE
    cases hr : roof h x y with
    | none => rw [hr] at hE; simp [roofE] at hE
    | some k => exact ⟨k, rfl⟩
  have hN : roofCN h x y = 1000 + k := by unfold roofCN; rw [if_pos h1, if_pos hs, hr]; rfl
  unfold roof firstOf at hr
  rw [List.find?_range_eq_some] at hr
  obtain ⟨q1, q2, q3⟩ := hr
  have hk : k < 11001 := by simpa using q2
  simp only [roofs, decide_eq_true_eq] at q1
  rw [hN]
  have hc : hung h (calm x y (1000 + k)) = 0 := by unfold hung checkAir; rw [if_pos h1, if_pos (calm_B hs (by omega))]
  refine ⟨by omega, ?_, q1, fun hp => ?_⟩
  · unfold blowE
    rw [if_pos hc, if_neg (by omega)]
  · have hj := q3 (p - 1000).toNat (by simp only at b1; omega)
    simp only [roofs, Bool.not_eq_true', decide_eq_false_iff_not] at hj
    have ep : 1000 + ((p - 1000).toNat : Int) = p := by simp only at b1; omega
    rw [ep] at hj
    unfold blowE
    rw [if_pos hz, if_pos (by omega)]
end Bal.Gas

/-
  A hull and what its ballonet holds: plain Lean, no program in sight.
-/
namespace Bal.Gas
open Bal.Trim
/-- what there is inside, over what is outside, times the room -/
def innerG (h : Hl) (p t v : Int) : Int := h.gas * (t + v) + h.ballonet * t - p * h.room
theorem inner_in {h : Hl} {a : Air} {p t v : Int} (hc : hullB h = true) (hp : a.plo ≤ p ∧ p ≤ a.phi) (ht : a.tlo ≤ t ∧ t ≤ a.thi) (hv : h.wlo ≤ v ∧ v ≤ h.whi) :
    pressLo h a.tlo - a.phi * h.room ≤ innerG h p t v ∧ innerG h p t v ≤ pressHi h a.thi - a.plo * h.room := by
  obtain ⟨h1, h2, h3, h4, h5⟩ := hullB_iff.1 hc
  have m1 := Int.mul_le_mul_of_nonneg_left (show a.tlo ≤ t by omega) (show 0 ≤ h.gas + h.ballonet by omega)
  have m2 := Int.mul_le_mul_of_nonneg_left (show t ≤ a.thi by omega) (show 0 ≤ h.gas + h.ballonet by omega)
  have m3 := Int.mul_le_mul_of_nonneg_left hv.1 (show 0 ≤ h.gas by omega)
  have m4 := Int.mul_le_mul_of_nonneg_left hv.2 (show 0 ≤ h.gas by omega)
  have m5 := Int.mul_le_mul_of_nonneg_right hp.1 (show 0 ≤ h.room by omega)
  have m6 := Int.mul_le_mul_of_nonneg_right hp.2 (show 0 ≤ h.room by omega)
  have e1 : h.gas * (t + v) + h.ballonet * t = (h.gas + h.ballonet) * t + h.gas * v := by
    rw [Int.mul_add, Int.add_mul]
    omega
  unfold innerG pressLo pressHi
  rw [e1]
  omega
theorem inner_over {h : Hl} {a : Air} {p t v : Int} (hc : hullB h = true) (hp : a.plo ≤ p ∧ p ≤ a.phi) (ht : a.tlo ≤ t ∧ t ≤ a.thi) (hv : h.wlo ≤ v ∧ v ≤ h.whi) :
    overLo h a * h.room ≤ innerG h p t v ∧ innerG h p t v ≤ overHi h a * h.room := by
  obtain ⟨h1, h2, h3, h4, h5⟩ := hullB_iff.1 hc
  obtain ⟨i1, i2⟩ := inner_in hc hp ht hv
  have f1 : pressLo h a.tlo / h.room * h.room ≤ pressLo h a.tlo := Int.ediv_mul_le _ (by omega)
  have f2 : (-pressHi h a.thi) / h.room * h.room ≤ -pressHi h a.thi := Int.ediv_mul_le _ (by omega)
  unfold overLo overHi
  rw [Int.sub_mul, Int.sub_mul, Int.neg_mul]
  omega
theorem inner_held {h : Hl} {a : Air} {p t v : Int} (hc : hullB h = true) (hp : a.plo ≤ p ∧ p ≤ a.phi) (ht : a.tlo ≤ t ∧ t ≤ a.thi) (hv : h.wlo ≤ v ∧ v ≤ h.whi) (hb : holdsB h a = true) :
    h.least * h.room ≤ innerG h p t v ∧ innerG h p t v ≤ h.most * h.room := by
  obtain ⟨i1, i2⟩ := inner_in hc hp ht hv
  simp only [holdsB, Bool.and_eq_true, decide_eq_true_eq, Int.add_mul] at hb
  omega
theorem over_bd {h : Hl} {a : Air} (hc : hullB h = true) (ha : airB a = true) : (-200000000000 ≤ overLo h a ∧ overLo h a ≤ 200000000000) ∧ (-200000000000 ≤ overHi h a ∧ overHi h a ≤ 200000000000) := by
  obtain ⟨h1, h2, h3, h4, h5⟩ := hullB_iff.1 hc
  obtain ⟨h7, h8⟩ := airB_iff.1 ha
  obtain ⟨_, p, q⟩ := press_bd hc h8
  have d1 := div_bd (N := 100000000000) (a := pressLo h a.tlo) (b := h.room) (by unfold pressLo; omega) (by unfold pressLo; omega) (by omega) (by omega)
  have d2 := div_bd (N := 100000000000) (a := -pressHi h a.thi) (b := h.room) (by unfold pressHi; omega) (by unfold pressHi; omega) (by omega) (by omega)
  unfold overLo overHi
  omega
theorem with_B {h : Hl} {m : Int} (hc : hullB h = true) (hm : 0 ≤ m ∧ m ≤ h.bag) : hullB { h with ballonet := m } = true := by
  obtain ⟨h1, h2, h3, h4, h5⟩ := hullB_iff.1 hc
  exact hullB_iff.2 ⟨h1, h2, ⟨hm.1, hm.2, h3.2.2⟩, h4, h5⟩
/-- it holds with m in its ballonet exactly if m is in the span -/
theorem holds_iff {h : Hl} {a : Air} {m : Int} (ha : airB a = true) (hm : 0 ≤ m ∧ m ≤ h.bag) : holdsB { h with ballonet := m } a = true ↔ blowLo h a ≤ m ∧ m ≤ blowHi h a := by
  obtain ⟨_, h8⟩ := airB_iff.1 ha
  have e1 : -(m) ≤ (-((a.phi + h.least) * h.room - pressLo (bare h) a.tlo)) / a.tlo ↔ -m * a.tlo ≤ -((a.phi + h.least) * h.room - pressLo (bare h) a.tlo) := Int.le_ediv_iff_mul_le (by omega)
  have e2 : m ≤ ((a.plo + h.most) * h.room - pressHi (bare h) a.thi) / a.thi ↔ m * a.thi ≤ (a.plo + h.most) * h.room - pressHi (bare h) a.thi := Int.le_ediv_iff_mul_le (by omega)
  have e3 : pressLo { h with ballonet := m } a.tlo = pressLo (bare h) a.tlo + m * a.tlo := by
    simp only [pressLo, Int.add_mul, Int.zero_mul]
    omega
  have e4 : pressHi { h with ballonet := m } a.thi = pressHi (bare h) a.thi + m * a.thi := by
    simp only [pressHi, Int.add_mul, Int.zero_mul]
    omega
  simp only [holdsB, Bool.and_eq_true, decide_eq_true_eq]
  rw [e3, e4]
  rw [Int.neg_mul] at e1
  unfold blowLo blowHi
  omega
theorem blown_span {h : Hl} {a : Air} (hc : hullB h = true) (ha : airB a = true) : 0 ≤ blowLo h a ∧ blowHi h a ≤ h.bag ∧ (blowE h a = 0 ∧ blowLo h a ≤ blowHi h a ∨ blowE h a = 6 ∧ blowHi h a < blowLo h a) := by
  have hz := hung_ok hc ha
  have h1 : 0 ≤ blowLo h a := by unfold blowLo; omega
  have h2 : blowHi h a ≤ h.bag := by unfold blowHi; omega
  unfold blowE
  rw [if_pos hz]
  split
  · exact ⟨h1, h2, .inr ⟨rfl, by assumption⟩⟩
  · exact ⟨h1, h2, .inl ⟨rfl, by omega⟩⟩
end Bal.Gas

/-
  Purity and leaks: plain Lean, no program in sight.
-/
namespace Bal.Gas
open Bal.Trim
theorem cellAt_set (p : Plant) (i j : Nat) (c : Cell) (hi : i < p.cells.length) : (p.cells.set i c).getD j default = if i = j then c else cellAt p j := by
  unfold cellAt
  by_cases h : i = j
  · subst h
    simp [hi]
  · rw [if_neg h, List.getD_eq_getElem?_getD, List.getD_eq_getElem?_getD, List.getElem?_set_ne h]
/-- less by its share: what is gone, and how far off the mixture is -/
theorem less_pure {c : Cell} {n : Int} (hN : 0 < c.helium + c.air) :
    (c.helium + c.air) - ((less c n).helium + (less c n).air) = n ∧
    0 ≤ (less c n).helium * (c.helium + c.air) - c.helium * ((less c n).helium + (less c n).air) ∧
    (less c n).helium * (c.helium + c.air) - c.helium * ((less c n).helium + (less c n).air) < c.helium + c.air := by
  have h1 : (less c n).helium = c.helium - shareH c n := rfl
  have h2 : (less c n).air = c.air - (n - shareH c n) := rfl
  have h3 : (less c n).helium + (less c n).air = (c.helium + c.air) - n := by rw [h1, h2]; omega
  rw [h3, h1]
  have e : (c.helium - shareH c n) * (c.helium + c.air) - c.helium * (c.helium + c.air - n) = n * c.helium - shareH c n * (c.helium + c.air) := by
    rw [Int.sub_mul, Int.mul_sub, Int.mul_comm n]
    omega
  rw [e]
  have f1 := Int.emod_nonneg (n * c.helium) (show c.helium + c.air ≠ 0 by omega)
  have f2 := Int.emod_lt_of_pos (n * c.helium) hN
  have f3 : n * c.helium % (c.helium + c.air) = n * c.helium - shareH c n * (c.helium + c.air) := by
    rw [Int.emod_def, Int.mul_comm (c.helium + c.air)]
    rfl
  omega
/-- a cell that leaks k times -/
def leakK (c : Cell) : Nat → Cell
  | 0 => c
  | k + 1 => leakC (leakK c k)
theorem leakC_sum (c : Cell) : (leakC c).helium + (leakC c).air = c.helium + c.air - leakN c := by
  show (c.helium - shareH c (leakN c)) + (c.air - (leakN c - shareH c (leakN c))) = _
  omega
theorem leakC_owed (c : Cell) : leakN c * 1000000 + (leakC c).owed = c.owed + (c.helium + c.air) * c.leak := by
  show (c.owed + (c.helium + c.air) * c.leak) / 1000000 * 1000000 + (c.owed + (c.helium + c.air) * c.leak) % 1000000 = _
  omega
theorem leakK_bd {c : Cell} (hc : cellB c = true) : ∀ k : Nat, cellB (leakK c k) = true ∧ (leakK c k).leak = c.leak ∧ (leakK c k).helium + (leakK c k).air ≤ c.helium + c.air ∧
    ((c.helium + c.air) - ((leakK c k).helium + (leakK c k).air)) * 1000000 + (leakK c k).owed ≤ (k : Int) * ((c.helium + c.air) * c.leak) + c.owed
  | 0 => ⟨hc, rfl, Int.le_refl _, by show (c.helium + c.air - (c.helium + c.air)) * 1000000 + c.owed ≤ _; simp⟩
  | k + 1 => by
    obtain ⟨h1, h2, h3, h4⟩ := leakK_bd hc k
    have g1 := leakC_sum (leakK c k)
    have g2 := leakC_owed (leakK c k)
    obtain ⟨_, _, g3, g4⟩ := leak_bd h1
    have g5 : (leakC (leakK c k)).leak = (leakK c k).leak := rfl
    obtain ⟨_, _, _, ⟨q1, q2⟩, _⟩ := cellB_iff.1 hc
    have m := Int.mul_le_mul_of_nonneg_right h3 q1
    have e : ((k + 1 : Nat) : Int) * ((c.helium + c.air) * c.leak) = (k : Int) * ((c.helium + c.air) * c.leak) + (c.helium + c.air) * c.leak := by
      rw [Int.natCast_add, Int.add_mul]
      simp
    show cellB (leakC (leakK c k)) = true ∧ (leakC (leakK c k)).leak = c.leak ∧ (leakC (leakK c k)).helium + (leakC (leakK c k)).air ≤ c.helium + c.air ∧
      ((c.helium + c.air) - ((leakC (leakK c k)).helium + (leakC (leakK c k)).air)) * 1000000 + (leakC (leakK c k)).owed ≤ ((k + 1 : Nat) : Int) * ((c.helium + c.air) * c.leak) + c.owed
    rw [h2] at g2 g5
    refine ⟨leakC_B h1, g5, by omega, ?_⟩
    rw [e, g1]
    omega
theorem tickTo_at (p : Plant) (i : Nat) : ∀ k, k ≤ p.cells.length → cellAt (tickTo p k) i = if i < k then leakC (cellAt p i) else cellAt p i
  | 0, _ => by simp [tickTo]
  | k + 1, h => by
    have h1 := tickTo_at p i k (by omega)
    have h2 := tickTo_at p k k (by omega)
    rw [if_neg (by omega)] at h2
    have h3 : cellAt (tickTo p (k + 1)) i = ((tickTo p k).cells.set k (leakC (cellAt (tickTo p k) k))).getD i default := rfl
    rw [h3, cellAt_set _ _ _ _ (by rw [tickTo_len]; omega), h1, h2]
    by_cases e : k = i
    · subst e
      rw [if_pos rfl, if_pos (by omega)]
    · rw [if_neg e]
      by_cases e2 : i < k
      · rw [if_pos e2, if_pos (by omega)]
      · rw [if_neg e2, if_neg (by omega)]
theorem ticks_at (p : Plant) (i : Nat) (hi : i < p.cells.length) : ∀ k, cellAt (ticks p k) i = leakK (cellAt p i) k
  | 0 => rfl
  | k + 1 => by
    show cellAt (tickTo (ticks p k) p.cells.length) i = leakC (leakK (cellAt p i) k)
    rw [tickTo_at _ _ _ (by rw [ticks_len]; exact Nat.le_refl _), if_pos hi, ticks_at p i hi k]
theorem pure_tick {p : Plant} {d : Deed} {i : Nat} (hp : plantB p = true) (hi : i < p.cells.length) (hk : d.kind = 7) (he : errA p d = 0) :
    (1 ≤ d.n ∧ d.n ≤ 1000) ∧ (cellAt (resA p d) i).helium + (cellAt (resA p d) i).air ≤ (cellAt p i).helium + (cellAt p i).air ∧
    (((cellAt p i).helium + (cellAt p i).air) - ((cellAt (resA p d) i).helium + (cellAt (resA p d) i).air)) * 1000000 ≤ d.n * (((cellAt p i).helium + (cellAt p i).air) * (cellAt p i).leak) + (cellAt p i).owed ∧
    (d.n = 1 → ((cellAt p i).helium + (cellAt p i).air) * (cellAt p i).leak + (cellAt p i).owed = (((cellAt p i).helium + (cellAt p i).air) - ((cellAt (resA p d) i).helium + (cellAt (resA p d) i).air)) * 1000000 + (cellAt (resA p d) i).owed) := by
  have hc : cellB (cellAt p i) = true := by
    have h1 : cellAt p i = p.cells[i] := by simp [cellAt, hi]
    rw [h1]
    exact (plantB_iff.1 hp).2.2.2.2.2.2.1 _ (List.getElem_mem hi)
  have hn : 1 ≤ d.n ∧ d.n ≤ 1000 := by
    unfold errA at he
    simp [hk, rng, inB] at he
    omega
  have hr : cellAt (resA p d) i = leakK (cellAt p i) d.n.toNat := by
    have h1 : resA p d = ticks p d.n.toNat := by unfold resA; simp [hk, tickP]
    rw [h1, ticks_at p i hi]
  obtain ⟨h1, h2, h3, h4⟩ := leakK_bd hc d.n.toNat
  have g4 := (cellB_iff.1 h1).2.2.2.2.1
  have e1 : ((d.n.toNat : Nat) : Int) = d.n := by omega
  rw [e1] at h4
  rw [hr]
  refine ⟨hn, h3, by omega, fun h => ?_⟩
  rw [h]
  have g1 := leakC_sum (cellAt p i)
  have g2 := leakC_owed (cellAt p i)
  show _ = ((cellAt p i).helium + (cellAt p i).air - ((leakC (cellAt p i)).helium + (leakC (cellAt p i)).air)) * 1000000 + (leakC (cellAt p i)).owed
  omega
theorem pure_less {p : Plant} {d : Deed} {i : Nat} (hi : i < p.cells.length) (hk : d.kind = 3 ∨ d.kind = 4 ∨ d.kind = 5) (hd : d.cell = (i : Int)) (he : errA p d = 0) :
    cellAt (resA p d) i = less (cellAt p i) d.n ∧ 0 < (cellAt p i).helium + (cellAt p i).air := by
  have ha : at_ p d = cellAt p i := by simp [at_, hd]
  rcases hk with hk | hk | hk
  · have h1 : (argB p d = true) ∧ ¬ amount (cellAt p i) < d.n := by
      unfold errA at he
      rw [ha] at he
      cases hb : argB p d
      · simp [hb, hk] at he
      · refine ⟨rfl, fun hlt => ?_⟩
        simp [hb, hlt, hk] at he
    have h2 := h1.1
    simp [argB, rng, inB] at h2
    refine ⟨?_, by have := h1.2; unfold amount at this; omega⟩
    have h3 : cellAt (resA p d) i = (p.cells.set d.cell.toNat (less (at_ p d) d.n)).getD i default := by unfold resA; simp [hk]; rfl
    rw [h3, cellAt_set _ _ _ _ (by omega), if_pos (by omega), ha]
  · have h1 : (argB p d = true) ∧ ¬ amount (cellAt p i) < d.n ∧ toB p d = true := by
      unfold errA at he
      rw [ha] at he
      cases hb : argB p d
      · simp [hb, hk] at he
      · cases hc : toB p d
        · simp [hb, hc, hk] at he
        · refine ⟨rfl, fun hlt => ?_, rfl⟩
          simp [hb, hc, hlt, hk] at he
    have h2 := h1.1
    have h4 := h1.2.2
    simp [argB, rng, inB] at h2
    simp [toB, rng, inB] at h4
    refine ⟨?_, by have := h1.2.1; unfold amount at this; omega⟩
    have h3 : cellAt (resA p d) i = ((lessP p d).cells.set d.to.toNat (more (cellAt (lessP p d) d.to.toNat) (shareH (at_ p d) d.n) (d.n - shareH (at_ p d) d.n))).getD i default := by unfold resA; simp [hk]; rfl
    have hl : (lessP p d).cells.length = p.cells.length := by simp [lessP]
    rw [h3, cellAt_set _ _ _ _ (by rw [hl]; omega), if_neg (by omega)]
    have h5 : cellAt (lessP p d) i = (p.cells.set d.cell.toNat (less (at_ p d) d.n)).getD i default := rfl
    rw [h5, cellAt_set _ _ _ _ (by omega), if_pos (by omega), ha]
  · have h1 : (argB p d = true) ∧ ¬ amount (cellAt p i) < d.n := by
      unfold errA at he
      rw [ha] at he
      cases hb : argB p d
      · simp [hb, hk] at he
      · refine ⟨rfl, fun hlt => ?_⟩
        simp [hb, hlt, hk] at he
    have h2 := h1.1
    simp [argB, rng, inB] at h2
    refine ⟨?_, by have := h1.2; unfold amount at this; omega⟩
    have h3 : cellAt (resA p d) i = (p.cells.set d.cell.toNat (less (at_ p d) d.n)).getD i default := by unfold resA; simp [hk]; rfl
    rw [h3, cellAt_set _ _ _ _ (by omega), if_pos (by omega), ha]
theorem resA_len (p : Plant) (d : Deed) : (resA p d).cells.length = p.cells.length := by
  unfold resA
  by_cases h1 : d.kind = 1
  · simp [h1, buyP]
  · by_cases h2 : d.kind = 2
    · simp [h2, fillP]
    · by_cases h3 : d.kind = 3
      · simp [h3, valveP, lessP]
      · by_cases h4 : d.kind = 4
        · simp [h4, moveP, lessP]
        · by_cases h5 : d.kind = 5
          · simp [h5, purifyP, lessP]
          · by_cases h6 : d.kind = 6
            · simp [h6, breatheP]
            · simp only [h1, h2, h3, h4, h5, h6, if_false]
              exact ticks_len p _
end Bal.Gas

/-
  Gas is conserved: what an act leaves as it was: plain Lean, no program in sight.
-/
namespace Bal.Gas
open Bal.Trim
/-- what stays of a cell, whatever the act -/
def SameC (c e : Cell) : Prop := c.room = e.room ∧ c.wlo = e.wlo ∧ c.whi = e.whi ∧ c.leak = e.leak
theorem SameC.rfl' (c : Cell) : SameC c c := ⟨rfl, rfl, rfl, rfl⟩
theorem leakK_same (c : Cell) : ∀ k, SameC (leakK c k) c
  | 0 => .rfl' c
  | k + 1 => by obtain ⟨h1, h2, h3, h4⟩ := leakK_same c k; exact ⟨h1, h2, h3, h4⟩
def namedB (d : Deed) (i : Nat) : Bool := decide (d.kind = 7) || (!decide (d.kind = 1) && decide ((i : Int) = d.cell)) || (decide (d.kind = 4) && decide ((i : Int) = d.to))
theorem err_kind {p : Plant} {d : Deed} (he : errA p d = 0) : 1 ≤ d.kind ∧ d.kind ≤ 7 := by
  by_cases h1 : d.kind = 1
  · omega
  by_cases h2 : d.kind = 2
  · omega
  by_cases h3 : d.kind = 3
  · omega
  by_cases h4 : d.kind = 4
  · omega
  by_cases h5 : d.kind = 5
  · omega
  by_cases h6 : d.kind = 6
  · omega
  by_cases h7 : d.kind = 7
  · omega
  simp [errA, h1, h2, h3, h4, h5, h6, h7] at he
theorem err_arg {p : Plant} {d : Deed} (he : errA p d = 0) : (d.kind ≠ 1 → d.kind ≠ 7 → argB p d = true) ∧ (d.kind = 4 → toB p d = true) ∧ 1 ≤ d.n := by
  have hk := err_kind he
  unfold errA at he
  by_cases h1 : d.kind = 1
  · simp [h1, rng, inB] at he
    exact ⟨fun h => absurd h1 h, fun h => by omega, by omega⟩
  by_cases h7 : d.kind = 7
  · simp [h7, rng, inB] at he
    exact ⟨fun _ h => absurd h7 h, fun h => by omega, by omega⟩
  have ha : argB p d = true := by
    cases hb : argB p d
    · have : d.kind = 2 ∨ d.kind = 3 ∨ d.kind = 4 ∨ d.kind = 5 ∨ d.kind = 6 := by omega
      rcases this with h | h | h | h | h <;> simp [h, hb] at he
    · rfl
  have hn := ha
  simp [argB, rng, inB] at hn
  refine ⟨fun _ _ => ha, fun h => ?_, by omega⟩
  cases hb : toB p d
  · simp [h, ha, hb] at he
  · rfl
theorem argB_iff {p : Plant} {d : Deed} : argB p d = true ↔ (0 ≤ d.cell ∧ d.cell ≤ p.cells.length - 1) ∧ 1 ≤ d.n ∧ d.n ≤ 10000000 := by simp [argB, rng, inB]
theorem toB_iff {p : Plant} {d : Deed} : toB p d = true ↔ (0 ≤ d.to ∧ d.to ≤ p.cells.length - 1) ∧ d.to ≠ d.cell := by simp [toB, rng, inB]
/-- one cell was set -/
theorem set_same {p : Plant} {d : Deed} {c : Cell} {i : Nat} (h : (0 ≤ d.cell ∧ d.cell ≤ p.cells.length - 1)) (hc : SameC c (at_ p d)) (ho : c.owed = (at_ p d).owed) :
    SameC ((p.cells.set d.cell.toNat c).getD i default) (cellAt p i) ∧ ((p.cells.set d.cell.toNat c).getD i default).owed = (cellAt p i).owed ∧
    ((i : Int) ≠ d.cell → (p.cells.set d.cell.toNat c).getD i default = cellAt p i) := by
  rw [cellAt_set _ _ _ _ (by omega)]
  by_cases e : d.cell.toNat = i
  · rw [if_pos e]
    have h2 : at_ p d = cellAt p i := by rw [at_, e]
    rw [← h2]
    exact ⟨hc, ho, fun h => by omega⟩
  · rw [if_neg e]
    exact ⟨.rfl' _, rfl, fun _ => rfl⟩
theorem kept_cell {p : Plant} {d : Deed} {i : Nat} (hi : i < p.cells.length) (he : errA p d = 0) :
    SameC (cellAt (resA p d) i) (cellAt p i) ∧ (d.kind ≠ 7 → (cellAt (resA p d) i).owed = (cellAt p i).owed) ∧ (namedB d i = false → cellAt (resA p d) i = cellAt p i) := by
  have hk := err_kind he
  obtain ⟨ha, ht, hn⟩ := err_arg he
  have hs := @set_same p d
  by_cases h1 : d.kind = 1
  · have hr : cellAt (resA p d) i = cellAt p i := by unfold resA; simp [h1]; rfl
    rw [hr]
    exact ⟨.rfl' _, fun _ => rfl, fun _ => rfl⟩
  by_cases h7 : d.kind = 7
  · have hr : cellAt (resA p d) i = leakK (cellAt p i) d.n.toNat := by
      have h1 : resA p d = ticks p d.n.toNat := by unfold resA; simp [h7, tickP]
      rw [h1, ticks_at p i hi]
    rw [hr]
    exact ⟨leakK_same _ _, fun h => absurd h7 h, fun h => by simp [namedB, h7] at h⟩
  have h2 := ha h1 h7
  rw [argB_iff] at h2
  have key : ∀ c : Cell, SameC c (at_ p d) → c.owed = (at_ p d).owed → cellAt (resA p d) i = (p.cells.set d.cell.toNat c).getD i default →
      SameC (cellAt (resA p d) i) (cellAt p i) ∧ (d.kind ≠ 7 → (cellAt (resA p d) i).owed = (cellAt p i).owed) ∧ (namedB d i = false → cellAt (resA p d) i = cellAt p i) := by
    intro c hc ho e
    obtain ⟨q1, q2, q3⟩ := hs (i := i) h2.1 hc ho
    rw [e]
    refine ⟨q1, fun _ => q2, fun hf => q3 fun h => ?_⟩
    simp [namedB, h, h1, h7] at hf
  by_cases h4 : d.kind = 4
  · have h3 := ht h4
    rw [toB_iff] at h3
    have hl : (lessP p d).cells.length = p.cells.length := by simp [lessP]
    obtain ⟨q1, q2, q3⟩ := hs (c := less (at_ p d) d.n) (i := i) h2.1 ⟨rfl, rfl, rfl, rfl⟩ rfl
    have e5 : cellAt (lessP p d) i = (p.cells.set d.cell.toNat (less (at_ p d) d.n)).getD i default := rfl
    rw [← e5] at q1 q2 q3
    have e : cellAt (resA p d) i = ((lessP p d).cells.set d.to.toNat (more (cellAt (lessP p d) d.to.toNat) (shareH (at_ p d) d.n) (d.n - shareH (at_ p d) d.n))).getD i default := by unfold resA; simp [h4]; rfl
    rw [cellAt_set _ _ _ _ (by rw [hl]; omega)] at e
    by_cases e2 : d.to.toNat = i
    · rw [if_pos e2] at e
      rw [e2] at e
      rw [e]
      refine ⟨⟨q1.1, q1.2.1, q1.2.2.1, q1.2.2.2⟩, fun _ => q2, fun hf => ?_⟩
      have : (i : Int) = d.to := by omega
      simp [namedB, h1, h7, h4, this] at hf
    · rw [if_neg e2] at e
      rw [e]
      refine ⟨q1, fun _ => q2, fun hf => q3 fun h => ?_⟩
      simp [namedB, h, h1, h7] at hf
  have h0 : d.kind = 2 ∨ d.kind = 3 ∨ d.kind = 5 ∨ d.kind = 6 := by omega
  rcases h0 with h | h | h | h
  · refine key { at_ p d with helium := (at_ p d).helium + d.n } ⟨rfl, rfl, rfl, rfl⟩ rfl ?_
    unfold resA; simp [h]; rfl
  · refine key (less (at_ p d) d.n) ⟨rfl, rfl, rfl, rfl⟩ rfl ?_
    unfold resA; simp [h]; rfl
  · refine key (less (at_ p d) d.n) ⟨rfl, rfl, rfl, rfl⟩ rfl ?_
    unfold resA; simp [h]; rfl
  · refine key { at_ p d with air := (at_ p d).air + d.n } ⟨rfl, rfl, rfl, rfl⟩ rfl ?_
    unfold resA; simp [h]; rfl
/-- the accounts that an act leaves -/
theorem tickTo_in (p : Plant) : ∀ k, (tickTo p k).inH = p.inH ∧ (tickTo p k).inA = p.inA ∧ (tickTo p k).vH = p.vH ∧ (tickTo p k).vA = p.vA ∧ (tickTo p k).pH = p.pH ∧ (tickTo p k).pA = p.pA
  | 0 => ⟨rfl, rfl, rfl, rfl, rfl, rfl⟩
  | k + 1 => tickTo_in p k
theorem ticks_in (p : Plant) : ∀ k, (ticks p k).inH = p.inH ∧ (ticks p k).inA = p.inA ∧ (ticks p k).vH = p.vH ∧ (ticks p k).vA = p.vA ∧ (ticks p k).pH = p.pH ∧ (ticks p k).pA = p.pA
  | 0 => ⟨rfl, rfl, rfl, rfl, rfl, rfl⟩
  | k + 1 => by
    obtain ⟨a1, a2, a3, a4, a5, a6⟩ := ticks_in p k
    obtain ⟨b1, b2, b3, b4, b5, b6⟩ := tickTo_in (ticks p k) p.cells.length
    exact ⟨b1.trans a1, b2.trans a2, b3.trans a3, b4.trans a4, b5.trans a5, b6.trans a6⟩
theorem kept_books {p : Plant} {d : Deed} (he : errA p d = 0) :
    ((d.kind = 1 ∨ d.kind = 6) → ¬ ((resA p d).inH = p.inH ∧ (resA p d).inA = p.inA)) ∧ (¬ (d.kind = 1 ∨ d.kind = 6) → (resA p d).inH = p.inH ∧ (resA p d).inA = p.inA) ∧
    (d.kind = 3 → ¬ ((resA p d).vH = p.vH ∧ (resA p d).vA = p.vA)) ∧ (d.kind ≠ 3 → (resA p d).vH = p.vH ∧ (resA p d).vA = p.vA) ∧
    (d.kind ≠ 7 → (resA p d).lH = p.lH ∧ (resA p d).lA = p.lA) ∧ (d.kind ≠ 5 → (resA p d).pH = p.pH ∧ (resA p d).pA = p.pA) := by
  have hk := err_kind he
  obtain ⟨ha, ht, hn⟩ := err_arg he
  have h0 : d.kind = 1 ∨ d.kind = 2 ∨ d.kind = 3 ∨ d.kind = 4 ∨ d.kind = 5 ∨ d.kind = 6 ∨ d.kind = 7 := by omega
  rcases h0 with h | h | h | h | h | h | h
  · simp [resA, h, buyP]; omega
  · simp [resA, h, fillP]
  · simp [resA, h, valveP, lessP]; omega
  · simp [resA, h, moveP, lessP]
  · simp [resA, h, purifyP, lessP]
  · simp [resA, h, breatheP]; omega
  · have h1 : resA p d = ticks p d.n.toNat := by unfold resA; simp [h, tickP]
    obtain ⟨a1, a2, a3, a4, a5, a6⟩ := ticks_in p d.n.toNat
    rw [h1, a1, a2, a3, a4, a5, a6]
    simp [h]
theorem doE_cases {p : Plant} {d : Deed} (hp : plantB p = true) : doE p d = 0 ∧ errA p d = 0 ∧ plantB (resA p d) = true ∧ doQ p d = resA p d ∨ (doE p d = 2 ∨ doE p d = 6 ∨ doE p d = 9) ∧ doQ p d = noPlant := by
  have hE : errA p d = 0 ∨ errA p d = 2 ∨ errA p d = 6 := by
    unfold errA
    repeat' split
    all_goals simp
  unfold doQ
  have e : doE p d = if errA p d = 0 then if plantB (resA p d) then 0 else 9 else errA p d := by rw [doE, if_pos hp]
  by_cases h : errA p d = 0
  · rw [if_pos h] at e
    cases hb : plantB (resA p d)
    · rw [hb] at e
      right
      rw [e]
      exact ⟨by simp, rfl⟩
    · rw [hb] at e
      left
      rw [e]
      exact ⟨rfl, h, rfl, rfl⟩
  · rw [if_neg h] at e
    right
    rw [e]
    refine ⟨by omega, if_neg h⟩
end Bal.Gas

/-
  GasPure: purity and leaks: the walk.
-/
namespace Go.Proofs.Ytemafanncejeiaa
open Go.RowKit Bal Bal.Trim Bal.Gas
set_option linter.unusedVariables false
set_option linter.unusedSimpArgs false
set_option maxHeartbeats 8000000
set_option maxRecDepth 100000

theorem f_DoP (p : Plant) (d : Deed) (a : Option Addr) (cap : Nat) {w : World} (hx : Row Cell.cells 7 w.heap.size w a p.cells) (hc : p.cells.length ≤ cap) (hM : cap ≤ maxLen) (hz : a = none → cap = 0) (hu : 0 ≤ d.kind ∧ d.kind ≤ 255) (Q : Plant) (E : Int) (hQ : Q = doQ p d) (hE : E = doE p d) :
    Calls Try.prog 48 #[.agg #[.slice a p.cells.length cap, .int .i64 p.bottles, .int .i64 p.inH, .int .i64 p.inA, .int .i64 p.vH, .int .i64 p.vA, .int .i64 p.lH, .int .i64 p.lA, .int .i64 p.pH, .int .i64 p.pA], .agg #[.int .u8 d.kind, .int .i64 d.cell, .int .i64 d.to, .int .i64 d.n]] w fun e w' => ∃ v, e = .returned (.tuple #[.agg #[v, .int .i64 Q.bottles, .int .i64 Q.inH, .int .i64 Q.inA, .int .i64 Q.vH, .int .i64 Q.vA, .int .i64 Q.lH, .int .i64 Q.lA, .int .i64 Q.pH, .int .i64 Q.pA], .int .i64 E]) ∧ Mine 25 w.heap.size w' v Q.cells ∧ Kept w w' := by
  subst hQ hE
  exact f_Do p d a cap w hx hc hM hz hu
theorem law_GasPure_great (p : Plant) (d : Deed) (x : Int) (a : Option Addr) (cap : Nat) (w : World) (hx : Row Cell.cells 7 w.heap.size w a p.cells) (hc : p.cells.length ≤ cap) (hM : cap ≤ maxLen) (hz : a = none → cap = 0) (hg : greatB p [d] = true) : Calls Try.prog 11 #[.agg #[.slice a p.cells.length cap, .int .i64 p.bottles, .int .i64 p.inH, .int .i64 p.inA, .int .i64 p.vH, .int .i64 p.vA, .int .i64 p.lH, .int .i64 p.lA, .int .i64 p.pH, .int .i64 p.pA], .agg #[.int .u8 d.kind, .int .i64 d.cell, .int .i64 d.to, .int .i64 d.n], .int .i64 x] w fun e w' => e = .returned (.bool true) ∧ Kept w w' := by
  have HG := Lib.hid hg
  clear hg
  go_enter Try.func11, Try.ntmps11
  go_wp2_with (first | (go_at_call 68; (with_reducible refine (o_alive _).mono ?_); rintro e wa ⟨rfl, hba⟩; refine Blk.thru (b := w.heap.size) (arr := ?_) (t := ?_) ?_ hba ?_; rotate_left 2; (focus (exact blk)); intro rap; have rapc0 := rap.cell 0; have rapf0 := rap.free 0; have rapc1 := rap.cell 1; have rapf1 := rap.free 1; have rapc2 := rap.cell 2; have rapf2 := rap.free 2; have rapc3 := rap.cell 3; have rapf3 := rap.free 3; have rapc4 := rap.cell 4; have rapf4 := rap.free 4; have rapc5 := rap.cell 5; have rapf5 := rap.free 5; have rapc6 := rap.cell 6; have rapf6 := rap.free 6; have rapc7 := rap.cell 7; have rapf7 := rap.free 7; have rapc8 := rap.cell 8; have rapf8 := rap.free 8; have rapc9 := rap.cell 9; have rapf9 := rap.free 9; have rapl := rap.lt; simp at rapc0 rapc1 rapc2 rapc3 rapc4 rapc5 rapc6 rapc7 rapc8 rapc9; refine Blk.thru (b := (w.heap.size + 1)) (arr := ?_) (t := ?_) ?_ hba ?_; rotate_left 2; (focus (exact blk)); intro rad; have radc0 := rad.cell 0; have radf0 := rad.free 0; have radc1 := rad.cell 1; have radf1 := rad.free 1; have radc2 := rad.cell 2; have radf2 := rad.free 2; have radc3 := rad.cell 3; have radf3 := rad.free 3; have radl := rad.lt; simp at radc0 radc1 radc2 radc3) | (go_at_call 46; (with_reducible refine (r_Great1 p d _ a cap _ _ rfl (by (exact blk)) hc hM).mono ?_); rw [HG.out]; rintro e w1 ⟨rfl, hb1⟩; refine Blk.thru (b := w.heap.size) (arr := ?_) (t := ?_) ?_ hb1 ?_; rotate_left 2; (focus (exact blk)); intro rbp; have rbpc0 := rbp.cell 0; have rbpf0 := rbp.free 0; have rbpc1 := rbp.cell 1; have rbpf1 := rbp.free 1; have rbpc2 := rbp.cell 2; have rbpf2 := rbp.free 2; have rbpc3 := rbp.cell 3; have rbpf3 := rbp.free 3; have rbpc4 := rbp.cell 4; have rbpf4 := rbp.free 4; have rbpc5 := rbp.cell 5; have rbpf5 := rbp.free 5; have rbpc6 := rbp.cell 6; have rbpf6 := rbp.free 6; have rbpc7 := rbp.cell 7; have rbpf7 := rbp.free 7; have rbpc8 := rbp.cell 8; have rbpf8 := rbp.free 8; have rbpc9 := rbp.cell 9; have rbpf9 := rbp.free 9; have rbpl := rbp.lt; simp at rbpc0 rbpc1 rbpc2 rbpc3 rbpc4 rbpc5 rbpc6 rbpc7 rbpc8 rbpc9; refine Blk.thru (b := (w.heap.size + 1)) (arr := ?_) (t := ?_) ?_ hb1 ?_; rotate_left 2; (focus (exact blk)); intro rbd; have rbdc0 := rbd.cell 0; have rbdf0 := rbd.free 0; have rbdc1 := rbd.cell 1; have rbdf1 := rbd.free 1; have rbdc2 := rbd.cell 2; have rbdf2 := rbd.free 2; have rbdc3 := rbd.cell 3; have rbdf3 := rbd.free 3; have rbdl := rbd.lt; simp at rbdc0 rbdc1 rbdc2 rbdc3))
  go_ret
  exact ⟨rfl, by exact kpt⟩

theorem law_GasPure_out (p : Plant) (d : Deed) (x : Int) (a : Option Addr) (cap : Nat) (w : World) (hx : Row Cell.cells 7 w.heap.size w a p.cells) (hc : p.cells.length ≤ cap) (hM : cap ≤ maxLen) (hz : a = none → cap = 0) (hg : greatB p [d] = false) (ho : x < 0 ∨ (p.cells.length : Int) ≤ x) : Calls Try.prog 11 #[.agg #[.slice a p.cells.length cap, .int .i64 p.bottles, .int .i64 p.inH, .int .i64 p.inA, .int .i64 p.vH, .int .i64 p.vA, .int .i64 p.lH, .int .i64 p.lA, .int .i64 p.pH, .int .i64 p.pA], .agg #[.int .u8 d.kind, .int .i64 d.cell, .int .i64 d.to, .int .i64 d.n], .int .i64 x] w fun e w' => e = .returned (.bool true) ∧ Kept w w' := by
  have HG := Lib.hid hg
  clear hg
  rcases ho with h | h
  · have d1 : decide (x < 0) = true := by simp; omega
    clear h
    go_enter Try.func11, Try.ntmps11
    go_wp2_with (first | (go_at_call 68; (with_reducible refine (o_alive _).mono ?_); rintro e wa ⟨rfl, hba⟩; refine Blk.thru (b := w.heap.size) (arr := ?_) (t := ?_) ?_ hba ?_; rotate_left 2; (focus (exact blk)); intro rap; have rapc0 := rap.cell 0; have rapf0 := rap.free 0; have rapc1 := rap.cell 1; have rapf1 := rap.free 1; have rapc2 := rap.cell 2; have rapf2 := rap.free 2; have rapc3 := rap.cell 3; have rapf3 := rap.free 3; have rapc4 := rap.cell 4; have rapf4 := rap.free 4; have rapc5 := rap.cell 5; have rapf5 := rap.free 5; have rapc6 := rap.cell 6; have rapf6 := rap.free 6; have rapc7 := rap.cell 7; have rapf7 := rap.free 7; have rapc8 := rap.cell 8; have rapf8 := rap.free 8; have rapc9 := rap.cell 9; have rapf9 := rap.free 9; have rapl := rap.lt; simp at rapc0 rapc1 rapc2 rapc3 rapc4 rapc5 rapc6 rapc7 rapc8 rapc9; refine Blk.thru (b := (w.heap.size + 1)) (arr := ?_) (t := ?_) ?_ hba ?_; rotate_left 2; (focus (exact blk)); intro rad; have radc0 := rad.cell 0; have radf0 := rad.free 0; have radc1 := rad.cell 1; have radf1 := rad.free 1; have radc2 := rad.cell 2; have radf2 := rad.free 2; have radc3 := rad.cell 3; have radf3 := rad.free 3; have radl := rad.lt; simp at radc0 radc1 radc2 radc3) | (go_at_call 46; (with_reducible refine (r_Great1 p d _ a cap _ _ rfl (by (exact blk)) hc hM).mono ?_); rw [HG.out]; rintro e w1 ⟨rfl, hb1⟩; refine Blk.thru (b := w.heap.size) (arr := ?_) (t := ?_) ?_ hb1 ?_; rotate_left 2; (focus (exact blk)); intro rbp; have rbpc0 := rbp.cell 0; have rbpf0 := rbp.free 0; have rbpc1 := rbp.cell 1; have rbpf1 := rbp.free 1; have rbpc2 := rbp.cell 2; have rbpf2 := rbp.free 2; have rbpc3 := rbp.cell 3; have rbpf3 := rbp.free 3; have rbpc4 := rbp.cell 4; have rbpf4 := rbp.free 4; have rbpc5 := rbp.cell 5; have rbpf5 := rbp.free 5; have rbpc6 := rbp.cell 6; have rbpf6 := rbp.free 6; have rbpc7 := rbp.cell 7; have rbpf7 := rbp.free 7; have rbpc8 := rbp.cell 8; have rbpf8 := rbp.free 8; have rbpc9 := rbp.cell 9; have rbpf9 := rbp.free 9; have rbpl := rbp.lt; simp at rbpc0 rbpc1 rbpc2 rbpc3 rbpc4 rbpc5 rbpc6 rbpc7 rbpc8 rbpc9; refine Blk.thru (b := (w.heap.size + 1)) (arr := ?_) (t := ?_) ?_ hb1 ?_; rotate_left 2; (focus (exact blk)); intro rbd; have rbdc0 := rbd.cell 0; have rbdf0 := rbd.free 0; have rbdc1 := rbd.cell 1; have rbdf1 := rbd.free 1; have rbdc2 := rbd.cell 2; have rbdf2 := rbd.free 2; have rbdc3 := rbd.cell 3; have rbdf3 := rbd.free 3; have rbdl := rbd.lt; simp at rbdc0 rbdc1 rbdc2 rbdc3))
    go_ret
    exact ⟨rfl, by exact kpt⟩
  · have d1 : decide (x < 0) = false := by simp; omega
    have d2 : decide ((p.cells.length : Int) ≤ x) = true := by simp; omega
    clear h
    go_enter Try.func11, Try.ntmps11
    go_wp2_with (first | (go_at_call 68; (with_reducible refine (o_alive _).mono ?_); rintro e wa ⟨rfl, hba⟩; refine Blk.thru (b := w.heap.size) (arr := ?_) (t := ?_) ?_ hba ?_; rotate_left 2; (focus (exact blk)); intro rap; have rapc0 := rap.cell 0; have rapf0 := rap.free 0; have rapc1 := rap.cell 1; have rapf1 := rap.free 1; have rapc2 := rap.cell 2; have rapf2 := rap.free 2; have rapc3 := rap.cell 3; have rapf3 := rap.free 3; have rapc4 := rap.cell 4; have rapf4 := rap.free 4; have rapc5 := rap.cell 5; have rapf5 := rap.free 5; have rapc6 := rap.cell 6; have rapf6 := rap.free 6; have rapc7 := rap.cell 7; have rapf7 := rap.free 7; have rapc8 := rap.cell 8; have rapf8 := rap.free 8; have rapc9 := rap.cell 9; have rapf9 := rap.free 9; have rapl := rap.lt; simp at rapc0 rapc1 rapc2 rapc3 rapc4 rapc5 rapc6 rapc7 rapc8 rapc9; refine Blk.thru (b := (w.heap.size + 1)) (arr := ?_) (t := ?_) ?_ hba ?_; rotate_left 2; (focus (exact blk)); intro rad; have radc0 := rad.cell 0; have radf0 := rad.free 0; have radc1 := rad.cell 1; have radf1 := rad.free 1; have radc2 := rad.cell 2; have radf2 := rad.free 2; have radc3 := rad.cell 3; have radf3 := rad.free 3; have radl := rad.lt; simp at radc0 radc1 radc2 radc3) | (go_at_call 46; (with_reducible refine (r_Great1 p d _ a cap _ _ rfl (by (exact blk)) hc hM).mono ?_); rw [HG.out]; rintro e w1 ⟨rfl, hb1⟩; refine Blk.thru (b := w.heap.size) (arr := ?_) (t := ?_) ?_ hb1 ?_; rotate_left 2; (focus (exact blk)); intro rbp; have rbpc0 := rbp.cell 0; have rbpf0 := rbp.free 0; have rbpc1 := rbp.cell 1; have rbpf1 := rbp.free 1; have rbpc2 := rbp.cell 2; have rbpf2 := rbp.free 2; have rbpc3 := rbp.cell 3; have rbpf3 := rbp.free 3; have rbpc4 := rbp.cell 4; have rbpf4 := rbp.free 4; have rbpc5 := rbp.cell 5; have rbpf5 := rbp.free 5; have rbpc6 := rbp.cell 6; have rbpf6 := rbp.free 6; have rbpc7 := rbp.cell 7; have rbpf7 := rbp.free 7; have rbpc8 := rbp.cell 8; have rbpf8 := rbp.free 8; have rbpc9 := rbp.cell 9; have rbpf9 := rbp.free 9; have rbpl := rbp.lt; simp at rbpc0 rbpc1 rbpc2 rbpc3 rbpc4 rbpc5 rbpc6 rbpc7 rbpc8 rbpc9; refine Blk.thru (b := (w.heap.size + 1)) (arr := ?_) (t := ?_) ?_ hb1 ?_; rotate_left 2; (focus (exact blk)); intro rbd; have rbdc0 := rbd.cell 0; have rbdf0 := rbd.free 0; have rbdc1 := rbd.cell 1; have rbdf1 := rbd.free 1; have rbdc2 := rbd.cell 2; have rbdf2 := rbd.free 2; have rbdc3 := rbd.cell 3; have rbdf3 := rbd.free 3; have rbdl := rbd.lt; simp at rbdc0 rbdc1 rbdc2 rbdc3))
    go_ret
    exact ⟨rfl, by exact kpt⟩

theorem law_GasPure_chk (p : Plant) (d : Deed) (x : Int) (a : Option Addr) (cap : Nat) (w : World) (hx : Row Cell.cells 7 w.heap.size w a p.cells) (hc : p.cells.length ≤ cap) (hM : cap ≤ maxLen) (hz : a = none → cap = 0) (hg : greatB p [d] = false) (h0 : 0 ≤ x) (h1 : x < p.cells.length) (hp : plantB p = false) : Calls Try.prog 11 #[.agg #[.slice a p.cells.length cap, .int .i64 p.bottles, .int .i64 p.inH, .int .i64 p.inA, .int .i64 p.vH, .int .i64 p.vA, .int .i64 p.lH, .int .i64 p.lA, .int .i64 p.pH, .int .i64 p.pA], .agg #[.int .u8 d.kind, .int .i64 d.cell, .int .i64 d.to, .int .i64 d.n], .int .i64 x] w fun e w' => e = .returned (.bool true) ∧ Kept w w' := by
  have HG := Lib.hid hg
  have HPE := Lib.hid (show plantE p = 32 by simp [plantE, hp])
  have d1 : decide (x < 0) = false := by simp; omega
  have d2 : decide ((p.cells.length : Int) ≤ x) = false := by simp; omega
  clear hg hp h0 h1
  go_enter Try.func11, Try.ntmps11
  go_wp2_with (first | (go_at_call 68; (with_reducible refine (o_alive _).mono ?_); rintro e wa ⟨rfl, hba⟩; refine Blk.thru (b := w.heap.size) (arr := ?_) (t := ?_) ?_ hba ?_; rotate_left 2; (focus (exact blk)); intro rap; have rapc0 := rap.cell 0; have rapf0 := rap.free 0; have rapc1 := rap.cell 1; have rapf1 := rap.free 1; have rapc2 := rap.cell 2; have rapf2 := rap.free 2; have rapc3 := rap.cell 3; have rapf3 := rap.free 3; have rapc4 := rap.cell 4; have rapf4 := rap.free 4; have rapc5 := rap.cell 5; have rapf5 := rap.free 5; have rapc6 := rap.cell 6; have rapf6 := rap.free 6; have rapc7 := rap.cell 7; have rapf7 := rap.free 7; have rapc8 := rap.cell 8; have rapf8 := rap.free 8; have rapc9 := rap.cell 9; have rapf9 := rap.free 9; have rapl := rap.lt; simp at rapc0 rapc1 rapc2 rapc3 rapc4 rapc5 rapc6 rapc7 rapc8 rapc9; refine Blk.thru (b := (w.heap.size + 1)) (arr := ?_) (t := ?_) ?_ hba ?_; rotate_left 2; (focus (exact blk)); intro rad; have radc0 := rad.cell 0; have radf0 := rad.free 0; have radc1 := rad.cell 1; have radf1 := rad.free 1; have radc2 := rad.cell 2; have radf2 := rad.free 2; have radc3 := rad.cell 3; have radf3 := rad.free 3; have radl := rad.lt; simp at radc0 radc1 radc2 radc3) | (go_at_call 46; (with_reducible refine (r_Great1 p d _ a cap _ _ rfl (by (exact blk)) hc hM).mono ?_); rw [HG.out]; rintro e w1 ⟨rfl, hb1⟩; refine Blk.thru (b := w.heap.size) (arr := ?_) (t := ?_) ?_ hb1 ?_; rotate_left 2; (focus (exact blk)); intro rbp; have rbpc0 := rbp.cell 0; have rbpf0 := rbp.free 0; have rbpc1 := rbp.cell 1; have rbpf1 := rbp.free 1; have rbpc2 := rbp.cell 2; have rbpf2 := rbp.free 2; have rbpc3 := rbp.cell 3; have rbpf3 := rbp.free 3; have rbpc4 := rbp.cell 4; have rbpf4 := rbp.free 4; have rbpc5 := rbp.cell 5; have rbpf5 := rbp.free 5; have rbpc6 := rbp.cell 6; have rbpf6 := rbp.free 6; have rbpc7 := rbp.cell 7; have rbpf7 := rbp.free 7; have rbpc8 := rbp.cell 8; have rbpf8 := rbp.free 8; have rbpc9 := rbp.cell 9; have rbpf9 := rbp.free 9; have rbpl := rbp.lt; simp at rbpc0 rbpc1 rbpc2 rbpc3 rbpc4 rbpc5 rbpc6 rbpc7 rbpc8 rbpc9; refine Blk.thru (b := (w.heap.size + 1)) (arr := ?_) (t := ?_) ?_ hb1 ?_; rotate_left 2; (focus (exact blk)); intro rbd; have rbdc0 := rbd.cell 0; have rbdf0 := rbd.free 0; have rbdc1 := rbd.cell 1; have rbdf1 := rbd.free 1; have rbdc2 := rbd.cell 2; have rbdf2 := rbd.free 2; have rbdc3 := rbd.cell 3; have rbdf3 := rbd.free 3; have rbdl := rbd.lt; simp at rbdc0 rbdc1 rbdc2 rbdc3) | (go_at_call 50; (with_reducible refine (f_Check p a cap _ (hx.later (by (exact kpt)) (Nat.le_refl _)) hc hM).mono ?_); rw [HPE.out]; rintro e w2 ⟨rfl, hb2⟩; refine Blk.thru (b := w.heap.size) (arr := ?_) (t := ?_) ?_ hb2 ?_; rotate_left 2; (focus (exact blk)); intro rcp; have rcpc0 := rcp.cell 0; have rcpf0 := rcp.free 0; have rcpc1 := rcp.cell 1; have rcpf1 := rcp.free 1; have rcpc2 := rcp.cell 2; have rcpf2 := rcp.free 2; have rcpc3 := rcp.cell 3; have rcpf3 := rcp.free 3; have rcpc4 := rcp.cell 4; have rcpf4 := rcp.free 4; have rcpc5 := rcp.cell 5; have rcpf5 := rcp.free 5; have rcpc6 := rcp.cell 6; have rcpf6 := rcp.free 6; have rcpc7 := rcp.cell 7; have rcpf7 := rcp.free 7; have rcpc8 := rcp.cell 8; have rcpf8 := rcp.free 8; have rcpc9 := rcp.cell 9; have rcpf9 := rcp.free 9; have rcpl := rcp.lt; simp at rcpc0 rcpc1 rcpc2 rcpc3 rcpc4 rcpc5 rcpc6 rcpc7 rcpc8 rcpc9; refine Blk.thru (b := (w.heap.size + 1)) (arr := ?_) (t := ?_) ?_ hb2 ?_; rotate_left 2; (focus (exact blk)); intro rcd; have rcdc0 := rcd.cell 0; have rcdf0 := rcd.free 0; have rcdc1 := rcd.cell 1; have rcdf1 := rcd.free 1; have rcdc2 := rcd.cell 2; have rcdf2 := rcd.free 2; have rcdc3 := rcd.cell 3; have rcdf3 := rcd.free 3; have rcdl := rcd.lt; simp at rcdc0 rcdc1 rcdc2 rcdc3))
  go_ret
  exact ⟨rfl, by exact kpt⟩

theorem law_GasPure_err (p : Plant) (d : Deed) (x : Int) (a : Option Addr) (cap : Nat) (w : World) (hx : Row Cell.cells 7 w.heap.size w a p.cells) (hc : p.cells.length ≤ cap) (hM : cap ≤ maxLen) (hz : a = none → cap = 0) (hg : greatB p [d] = false) (h0 : 0 ≤ x) (h1 : x < p.cells.length) (hp : plantB p = true) (hu : 0 ≤ d.kind ∧ d.kind ≤ 255) (hr : doE p d ≠ 0) : Calls Try.prog 11 #[.agg #[.slice a p.cells.length cap, .int .i64 p.bottles, .int .i64 p.inH, .int .i64 p.inA, .int .i64 p.vH, .int .i64 p.vA, .int .i64 p.lH, .int .i64 p.lA, .int .i64 p.pH, .int .i64 p.pA], .agg #[.int .u8 d.kind, .int .i64 d.cell, .int .i64 d.to, .int .i64 d.n], .int .i64 x] w fun e w' => e = .returned (.bool true) ∧ Kept w w' := by
  obtain ⟨Q, hQ⟩ : ∃ Q, Q = doQ p d := ⟨_, rfl⟩
  obtain ⟨E, hE⟩ : ∃ E, E = doE p d := ⟨_, rfl⟩
  have HQ := Lib.hid hQ
  have HE := Lib.hid hE
  have HU := Lib.hid hu
  have HG := Lib.hid hg
  have HPE := Lib.hid (show plantE p = 0 by simp [plantE, hp])
  have d1 : decide (x < 0) = false := by simp; omega
  have d2 : decide ((p.cells.length : Int) ≤ x) = false := by simp; omega
  have d3 : (E != 0) = true := by rw [hE]; simpa using hr
  clear hg hp h0 h1 hQ hE hu hr
  go_enter Try.func11, Try.ntmps11
  go_wp2_with (first | (go_at_call 68; (with_reducible refine (o_alive _).mono ?_); rintro e wa ⟨rfl, hba⟩; refine Blk.thru (b := w.heap.size) (arr := ?_) (t := ?_) ?_ hba ?_; rotate_left 2; (focus (exact blk)); intro rap; have rapc0 := rap.cell 0; have rapf0 := rap.free 0; have rapc1 := rap.cell 1; have rapf1 := rap.free 1; have rapc2 := rap.cell 2; have rapf2 := rap.free 2; have rapc3 := rap.cell 3; have rapf3 := rap.free 3; have rapc4 := rap.cell 4; have rapf4 := rap.free 4; have rapc5 := rap.cell 5; have rapf5 := rap.free 5; have rapc6 := rap.cell 6; have rapf6 := rap.free 6; have rapc7 := rap.cell 7; have rapf7 := rap.free 7; have rapc8 := rap.cell 8; have rapf8 := rap.free 8; have rapc9 := rap.cell 9; have rapf9 := rap.free 9; have rapl := rap.lt; simp at rapc0 rapc1 rapc2 rapc3 rapc4 rapc5 rapc6 rapc7 rapc8 rapc9; refine Blk.thru (b := (w.heap.size + 1)) (arr := ?_) (t := ?_) ?_ hba ?_; rotate_left 2; (focus (exact blk)); intro rad; have radc0 := rad.cell 0; have radf0 := rad.free 0; have radc1 := rad.cell 1; have radf1 := rad.free 1; have radc2 := rad.cell 2; have radf2 := rad.free 2; have radc3 := rad.cell 3; have radf3 := rad.free 3; have radl := rad.lt; simp at radc0 radc1 radc2 radc3) | (go_at_call 46; (with_reducible refine (r_Great1 p d _ a cap _ _ rfl (by (exact blk)) hc hM).mono ?_); rw [HG.out]; rintro e w1 ⟨rfl, hb1⟩; refine Blk.thru (b := w.heap.size) (arr := ?_) (t := ?_) ?_ hb1 ?_; rotate_left 2; (focus (exact blk)); intro rbp; have rbpc0 := rbp.cell 0; have rbpf0 := rbp.free 0; have rbpc1 := rbp.cell 1; have rbpf1 := rbp.free 1; have rbpc2 := rbp.cell 2; have rbpf2 := rbp.free 2; have rbpc3 := rbp.cell 3; have rbpf3 := rbp.free 3; have rbpc4 := rbp.cell 4; have rbpf4 := rbp.free 4; have rbpc5 := rbp.cell 5; have rbpf5 := rbp.free 5; have rbpc6 := rbp.cell 6; have rbpf6 := rbp.free 6; have rbpc7 := rbp.cell 7; have rbpf7 := rbp.free 7; have rbpc8 := rbp.cell 8; have rbpf8 := rbp.free 8; have rbpc9 := rbp.cell 9; have rbpf9 := rbp.free 9; have rbpl := rbp.lt; simp at rbpc0 rbpc1 rbpc2 rbpc3 rbpc4 rbpc5 rbpc6 rbpc7 rbpc8 rbpc9; refine Blk.thru (b := (w.heap.size + 1)) (arr := ?_) (t := ?_) ?_ hb1 ?_; rotate_left 2; (focus (exact blk)); intro rbd; have rbdc0 := rbd.cell 0; have rbdf0 := rbd.free 0; have rbdc1 := rbd.cell 1; have rbdf1 := rbd.free 1; have rbdc2 := rbd.cell 2; have rbdf2 := rbd.free 2; have rbdc3 := rbd.cell 3; have rbdf3 := rbd.free 3; have rbdl := rbd.lt; simp at rbdc0 rbdc1 rbdc2 rbdc3) | (go_at_call 50; (with_reducible refine (f_Check p a cap _ (hx.later (by (exact kpt)) (Nat.le_refl _)) hc hM).mono ?_); rw [HPE.out]; rintro e w2 ⟨rfl, hb2⟩; refine Blk.thru (b := w.heap.size) (arr := ?_) (t := ?_) ?_ hb2 ?_; rotate_left 2; (focus (exact blk)); intro rcp; have rcpc0 := rcp.cell 0; have rcpf0 := rcp.free 0; have rcpc1 := rcp.cell 1; have rcpf1 := rcp.free 1; have rcpc2 := rcp.cell 2; have rcpf2 := rcp.free 2; have rcpc3 := rcp.cell 3; have rcpf3 := rcp.free 3; have rcpc4 := rcp.cell 4; have rcpf4 := rcp.free 4; have rcpc5 := rcp.cell 5; have rcpf5 := rcp.free 5; have rcpc6 := rcp.cell 6; have rcpf6 := rcp.free 6; have rcpc7 := rcp.cell 7; have rcpf7 := rcp.free 7; have rcpc8 := rcp.cell 8; have rcpf8 := rcp.free 8; have rcpc9 := rcp.cell 9; have rcpf9 := rcp.free 9; have rcpl := rcp.lt; simp at rcpc0 rcpc1 rcpc2 rcpc3 rcpc4 rcpc5 rcpc6 rcpc7 rcpc8 rcpc9; refine Blk.thru (b := (w.heap.size + 1)) (arr := ?_) (t := ?_) ?_ hb2 ?_; rotate_left 2; (focus (exact blk)); intro rcd; have rcdc0 := rcd.cell 0; have rcdf0 := rcd.free 0; have rcdc1 := rcd.cell 1; have rcdf1 := rcd.free 1; have rcdc2 := rcd.cell 2; have rcdf2 := rcd.free 2; have rcdc3 := rcd.cell 3; have rcdf3 := rcd.free 3; have rcdl := rcd.lt; simp at rcdc0 rcdc1 rcdc2 rcdc3) | (go_at_call 48; (with_reducible refine (f_DoP p d a cap (hx.later (by (exact kpt)) (Nat.le_refl _)) hc hM hz HU.out Q E HQ.out HE.out).mono ?_); rintro e w3 ⟨v3, rfl, hm3, hb3⟩; obtain ⟨ad3, cp3, rfl, hl3, hc3, hz3⟩ := hm3.slice; refine Blk.thru (b := w.heap.size) (arr := ?_) (t := ?_) ?_ hb3 ?_; rotate_left 2; (focus (exact blk)); intro rdp; have rdpc0 := rdp.cell 0; have rdpf0 := rdp.free 0; have rdpc1 := rdp.cell 1; have rdpf1 := rdp.free 1; have rdpc2 := rdp.cell 2; have rdpf2 := rdp.free 2; have rdpc3 := rdp.cell 3; have rdpf3 := rdp.free 3; have rdpc4 := rdp.cell 4; have rdpf4 := rdp.free 4; have rdpc5 := rdp.cell 5; have rdpf5 := rdp.free 5; have rdpc6 := rdp.cell 6; have rdpf6 := rdp.free 6; have rdpc7 := rdp.cell 7; have rdpf7 := rdp.free 7; have rdpc8 := rdp.cell 8; have rdpf8 := rdp.free 8; have rdpc9 := rdp.cell 9; have rdpf9 := rdp.free 9; have rdpl := rdp.lt; simp at rdpc0 rdpc1 rdpc2 rdpc3 rdpc4 rdpc5 rdpc6 rdpc7 rdpc8 rdpc9; refine Blk.thru (b := (w.heap.size + 1)) (arr := ?_) (t := ?_) ?_ hb3 ?_; rotate_left 2; (focus (exact blk)); intro rdd; have rddc0 := rdd.cell 0; have rddf0 := rdd.free 0; have rddc1 := rdd.cell 1; have rddf1 := rdd.free 1; have rddc2 := rdd.cell 2; have rddf2 := rdd.free 2; have rddc3 := rdd.cell 3; have rddf3 := rdd.free 3; have rddl := rdd.lt; simp at rddc0 rddc1 rddc2 rddc3))
  go_ret
  exact ⟨rfl, by exact kpt⟩

theorem law_GasPure_ok (p : Plant) (d : Deed) (x : Int) (a : Option Addr) (cap : Nat) (w : World) (hx : Row Cell.cells 7 w.heap.size w a p.cells) (hc : p.cells.length ≤ cap) (hM : cap ≤ maxLen) (hz : a = none → cap = 0) (i : Nat) (hi : i < p.cells.length) (hxi : x = (i : Int)) (hg : greatB p [d] = false) (hp : plantB p = true) (hu : 0 ≤ d.kind ∧ d.kind ≤ 255) (hr : doE p d = 0) : Calls Try.prog 11 #[.agg #[.slice a p.cells.length cap, .int .i64 p.bottles, .int .i64 p.inH, .int .i64 p.inA, .int .i64 p.vH, .int .i64 p.vA, .int .i64 p.lH, .int .i64 p.lA, .int .i64 p.pH, .int .i64 p.pA], .agg #[.int .u8 d.kind, .int .i64 d.cell, .int .i64 d.to, .int .i64 d.n], .int .i64 x] w fun e w' => e = .returned (.bool true) ∧ Kept w w' := by
  subst hxi
  obtain ⟨Q, hQ⟩ : ∃ Q, Q = doQ p d := ⟨_, rfl⟩
  obtain ⟨E, hE⟩ : ∃ E, E = doE p d := ⟨_, rfl⟩
  have hQl : Q.cells.length = p.cells.length := by rw [hQ]; simp [doQ, hr, resA_len]
  have HQ := Lib.hid hQ
  have HE := Lib.hid hE
  have HU := Lib.hid hu
  have HG := Lib.hid hg
  have HPE := Lib.hid (show plantE p = 0 by simp [plantE, hp])
  have d1 : decide ((i : Int) < 0) = false := by simp
  have d2 : decide ((p.cells.length : Int) ≤ (i : Int)) = false := by simp; omega
  have d3 : (E != 0) = false := by rw [hE]; simpa using hr
  have d4 : ((Q.cells.length : Int) != (p.cells.length : Int)) = false := by rw [hQl]; simp
  have hn12 : p.cells.length ≤ 12 := (plantB_iff.1 hp).1
  have HP := Lib.hid hp
  have HQL := Lib.hid hQl
  clear hg hp hQ hE hu hr hQl
  go_enter Try.func11, Try.ntmps11
  go_upto_region 9 with (first | (go_at_call 68; (with_reducible refine (o_alive _).mono ?_); rintro e wa ⟨rfl, hba⟩; refine Blk.thru (b := w.heap.size) (arr := ?_) (t := ?_) ?_ hba ?_; rotate_left 2; (focus (exact blk)); intro rap; have rapc0 := rap.cell 0; have rapf0 := rap.free 0; have rapc1 := rap.cell 1; have rapf1 := rap.free 1; have rapc2 := rap.cell 2; have rapf2 := rap.free 2; have rapc3 := rap.cell 3; have rapf3 := rap.free 3; have rapc4 := rap.cell 4; have rapf4 := rap.free 4; have rapc5 := rap.cell 5; have rapf5 := rap.free 5; have rapc6 := rap.cell 6; have rapf6 := rap.free 6; have rapc7 := rap.cell 7; have rapf7 := rap.free 7; have rapc8 := rap.cell 8; have rapf8 := rap.free 8; have rapc9 := rap.cell 9; have rapf9 := rap.free 9; have rapl := rap.lt; simp at rapc0 rapc1 rapc2 rapc3 rapc4 rapc5 rapc6 rapc7 rapc8 rapc9; refine Blk.thru (b := (w.heap.size + 1)) (arr := ?_) (t := ?_) ?_ hba ?_; rotate_left 2; (focus (exact blk)); intro rad; have radc0 := rad.cell 0; have radf0 := rad.free 0; have radc1 := rad.cell 1; have radf1 := rad.free 1; have radc2 := rad.cell 2; have radf2 := rad.free 2; have radc3 := rad.cell 3; have radf3 := rad.free 3; have radl := rad.lt; simp at radc0 radc1 radc2 radc3) | (go_at_call 46; (with_reducible refine (r_Great1 p d _ a cap _ _ rfl (by (exact blk)) hc hM).mono ?_); rw [HG.out]; rintro e w1 ⟨rfl, hb1⟩; refine Blk.thru (b := w.heap.size) (arr := ?_) (t := ?_) ?_ hb1 ?_; rotate_left 2; (focus (exact blk)); intro rbp; have rbpc0 := rbp.cell 0; have rbpf0 := rbp.free 0; have rbpc1 := rbp.cell 1; have rbpf1 := rbp.free 1; have rbpc2 := rbp.cell 2; have rbpf2 := rbp.free 2; have rbpc3 := rbp.cell 3; have rbpf3 := rbp.free 3; have rbpc4 := rbp.cell 4; have rbpf4 := rbp.free 4; have rbpc5 := rbp.cell 5; have rbpf5 := rbp.free 5; have rbpc6 := rbp.cell 6; have rbpf6 := rbp.free 6; have rbpc7 := rbp.cell 7; have rbpf7 := rbp.free 7; have rbpc8 := rbp.cell 8; have rbpf8 := rbp.free 8; have rbpc9 := rbp.cell 9; have rbpf9 := rbp.free 9; have rbpl := rbp.lt; simp at rbpc0 rbpc1 rbpc2 rbpc3 rbpc4 rbpc5 rbpc6 rbpc7 rbpc8 rbpc9; refine Blk.thru (b := (w.heap.size + 1)) (arr := ?_) (t := ?_) ?_ hb1 ?_; rotate_left 2; (focus (exact blk)); intro rbd; have rbdc0 := rbd.cell 0; have rbdf0 := rbd.free 0; have rbdc1 := rbd.cell 1; have rbdf1 := rbd.free 1; have rbdc2 := rbd.cell 2; have rbdf2 := rbd.free 2; have rbdc3 := rbd.cell 3; have rbdf3 := rbd.free 3; have rbdl := rbd.lt; simp at rbdc0 rbdc1 rbdc2 rbdc3) | (go_at_call 50; (with_reducible refine (f_Check p a cap _ (hx.later (by (exact kpt)) (Nat.le_refl _)) hc hM).mono ?_); rw [HPE.out]; rintro e w2 ⟨rfl, hb2⟩; refine Blk.thru (b := w.heap.size) (arr := ?_) (t := ?_) ?_ hb2 ?_; rotate_left 2; (focus (exact blk)); intro rcp; have rcpc0 := rcp.cell 0; have rcpf0 := rcp.free 0; have rcpc1 := rcp.cell 1; have rcpf1 := rcp.free 1; have rcpc2 := rcp.cell 2; have rcpf2 := rcp.free 2; have rcpc3 := rcp.cell 3; have rcpf3 := rcp.free 3; have rcpc4 := rcp.cell 4; have rcpf4 := rcp.free 4; have rcpc5 := rcp.cell 5; have rcpf5 := rcp.free 5; have rcpc6 := rcp.cell 6; have rcpf6 := rcp.free 6; have rcpc7 := rcp.cell 7; have rcpf7 := rcp.free 7; have rcpc8 := rcp.cell 8; have rcpf8 := rcp.free 8; have rcpc9 := rcp.cell 9; have rcpf9 := rcp.free 9; have rcpl := rcp.lt; simp at rcpc0 rcpc1 rcpc2 rcpc3 rcpc4 rcpc5 rcpc6 rcpc7 rcpc8 rcpc9; refine Blk.thru (b := (w.heap.size + 1)) (arr := ?_) (t := ?_) ?_ hb2 ?_; rotate_left 2; (focus (exact blk)); intro rcd; have rcdc0 := rcd.cell 0; have rcdf0 := rcd.free 0; have rcdc1 := rcd.cell 1; have rcdf1 := rcd.free 1; have rcdc2 := rcd.cell 2; have rcdf2 := rcd.free 2; have rcdc3 := rcd.cell 3; have rcdf3 := rcd.free 3; have rcdl := rcd.lt; simp at rcdc0 rcdc1 rcdc2 rcdc3) | (go_at_call 48; (with_reducible refine (f_DoP p d a cap (hx.later (by (exact kpt)) (Nat.le_refl _)) hc hM hz HU.out Q E HQ.out HE.out).mono ?_); rintro e w3 ⟨v3, rfl, hm3, hb3⟩; obtain ⟨ad3, cp3, rfl, hl3, hc3, hz3⟩ := hm3.slice; refine Blk.thru (b := w.heap.size) (arr := ?_) (t := ?_) ?_ hb3 ?_; rotate_left 2; (focus (exact blk)); intro rdp; have rdpc0 := rdp.cell 0; have rdpf0 := rdp.free 0; have rdpc1 := rdp.cell 1; have rdpf1 := rdp.free 1; have rdpc2 := rdp.cell 2; have rdpf2 := rdp.free 2; have rdpc3 := rdp.cell 3; have rdpf3 := rdp.free 3; have rdpc4 := rdp.cell 4; have rdpf4 := rdp.free 4; have rdpc5 := rdp.cell 5; have rdpf5 := rdp.free 5; have rdpc6 := rdp.cell 6; have rdpf6 := rdp.free 6; have rdpc7 := rdp.cell 7; have rdpf7 := rdp.free 7; have rdpc8 := rdp.cell 8; have rdpf8 := rdp.free 8; have rdpc9 := rdp.cell 9; have rdpf9 := rdp.free 9; have rdpl := rdp.lt; simp at rdpc0 rdpc1 rdpc2 rdpc3 rdpc4 rdpc5 rdpc6 rdpc7 rdpc8 rdpc9; refine Blk.thru (b := (w.heap.size + 1)) (arr := ?_) (t := ?_) ?_ hb3 ?_; rotate_left 2; (focus (exact blk)); intro rdd; have rddc0 := rdd.cell 0; have rddf0 := rdd.free 0; have rddc1 := rdd.cell 1; have rddf1 := rdd.free 1; have rddc2 := rdd.cell 2; have rddf2 := rdd.free 2; have rddc3 := rdd.cell 3; have rddf3 := rdd.free 3; have rddl := rdd.lt; simp at rddc0 rddc1 rddc2 rddc3))
  have hm3b := hm3.base (C := w.heap.size) (by exact (show Kept w _ by exact kpt).size)
  refine at_world (S := fun X => Blk X w.heap.size #[.slice a p.cells.length cap, .int .i64 p.bottles, .int .i64 p.inH, .int .i64 p.inA, .int .i64 p.vH, .int .i64 p.vA, .int .i64 p.lH, .int .i64 p.lA, .int .i64 p.pH, .int .i64 p.pA] 63 ∧ Blk X (w.heap.size + 1) #[.int .u8 d.kind, .int .i64 d.cell, .int .i64 d.to, .int .i64 d.n] 65 ∧ Blk X w3.heap.size #[.slice ad3 Q.cells.length cp3, .int .i64 Q.bottles, .int .i64 Q.inH, .int .i64 Q.inA, .int .i64 Q.vH, .int .i64 Q.vA, .int .i64 Q.lH, .int .i64 Q.lA, .int .i64 Q.pH, .int .i64 Q.pA] 63 ∧ Mine 25 w.heap.size X (.slice ad3 Q.cells.length cp3) Q.cells ∧ Kept w X) ⟨by (exact blkc), by (exact blkc), by (exact blkc), (by exact (by have hnp := mine_past hm3b (Nat.le_refl _); (repeat (with_reducible refine Mine.off ?_ hnp _)); first | exact hm3b | exact hm3b.alloc _)), by exact kpt⟩ ?_
  clear hm3 hm3b
  rintro X ⟨b0, b1, b8, hm, hk⟩
  generalize w3.heap.size = s8 at b8 ⊢
  have b0c0 := b0.cell 0
  have b0f0 := b0.free 0
  have b0c1 := b0.cell 1
  have b0f1 := b0.free 1
  have b0c2 := b0.cell 2
  have b0f2 := b0.free 2
  have b0c3 := b0.cell 3
  have b0f3 := b0.free 3
  have b0c4 := b0.cell 4
  have b0f4 := b0.free 4
  have b0c5 := b0.cell 5
  have b0f5 := b0.free 5
  have b0c6 := b0.cell 6
  have b0f6 := b0.free 6
  have b0c7 := b0.cell 7
  have b0f7 := b0.free 7
  have b0c8 := b0.cell 8
  have b0f8 := b0.free 8
  have b0c9 := b0.cell 9
  have b0f9 := b0.free 9
  have b0l := b0.lt
  simp at b0c0 b0c1 b0c2 b0c3 b0c4 b0c5 b0c6 b0c7 b0c8 b0c9
  have b8c0 := b8.cell 0
  have b8f0 := b8.free 0
  have b8c1 := b8.cell 1
  have b8f1 := b8.free 1
  have b8c2 := b8.cell 2
  have b8f2 := b8.free 2
  have b8c3 := b8.cell 3
  have b8f3 := b8.free 3
  have b8c4 := b8.cell 4
  have b8f4 := b8.free 4
  have b8c5 := b8.cell 5
  have b8f5 := b8.free 5
  have b8c6 := b8.cell 6
  have b8f6 := b8.free 6
  have b8c7 := b8.cell 7
  have b8f7 := b8.free 7
  have b8c8 := b8.cell 8
  have b8f8 := b8.free 8
  have b8c9 := b8.cell 9
  have b8f9 := b8.free 9
  have b8l := b8.lt
  simp at b8c0 b8c1 b8c2 b8c3 b8c4 b8c5 b8c6 b8c7 b8c8 b8c9
  go_upto_region 11 with fail
  clear b0c0 b0f0 b0c1 b0f1 b0c2 b0f2 b0c3 b0f3 b0c4 b0f4 b0c5 b0f5 b0c6 b0f6 b0c7 b0f7 b0c8 b0f8 b0c9 b0f9 b0l b8c0 b8f0 b8c1 b8f1 b8c2 b8f2 b8c3 b8f3 b8c4 b8f4 b8c5 b8f5 b8c6 b8f6 b8c7 b8f7 b8c8 b8f8 b8c9 b8f9 b8l
  have hiq : i < Q.cells.length := by rw [HQL.out]; exact hi
  have hi3 : (i : Int) < (Q.cells.length : Int) := by omega
  have hi4 : (i : Int) < (p.cells.length : Int) := by omega
  obtain ⟨g1, o1, rfl, hb1, v0, v1, v2, v3, v4, v5, v6⟩ := Cell.row (hx.later hk (Nat.le_refl _)) i hi
  obtain ⟨g2, o2, rfl, hb2, u0, u1, u2, u3, u4, u5, u6⟩ := Cell.row (hm.row).2.1 i hiq
  obtain ⟨c, hcx⟩ : ∃ c, c = p.cells[i] := ⟨_, rfl⟩
  obtain ⟨e, hex⟩ : ∃ e, e = Q.cells[i] := ⟨_, rfl⟩
  rw [← hcx] at v0 v1 v2 v3 v4 v5 v6
  rw [← hex] at u0 u1 u2 u3 u4 u5 u6
  have HC := Lib.hid hcx
  have HX := Lib.hid hex
  clear hcx hex
  have y0 : ∀ w', Kept X w' → w'.cell? ⟨g1, o1 + i * 7, none⟩ = _ := fun w' h => (h.cell (p := ⟨g1, o1 + i * 7, none⟩) hb1).trans v0
  have y1 : ∀ w', Kept X w' → w'.cell? ⟨g1, o1 + i * 7 + 1, none⟩ = _ := fun w' h => (h.cell (p := ⟨g1, o1 + i * 7 + 1, none⟩) hb1).trans v1
  have y2 : ∀ w', Kept X w' → w'.cell? ⟨g1, o1 + i * 7 + 2, none⟩ = _ := fun w' h => (h.cell (p := ⟨g1, o1 + i * 7 + 2, none⟩) hb1).trans v2
  have y3 : ∀ w', Kept X w' → w'.cell? ⟨g1, o1 + i * 7 + 3, none⟩ = _ := fun w' h => (h.cell (p := ⟨g1, o1 + i * 7 + 3, none⟩) hb1).trans v3
  have y4 : ∀ w', Kept X w' → w'.cell? ⟨g1, o1 + i * 7 + 4, none⟩ = _ := fun w' h => (h.cell (p := ⟨g1, o1 + i * 7 + 4, none⟩) hb1).trans v4
  have y5 : ∀ w', Kept X w' → w'.cell? ⟨g1, o1 + i * 7 + 5, none⟩ = _ := fun w' h => (h.cell (p := ⟨g1, o1 + i * 7 + 5, none⟩) hb1).trans v5
  have y6 : ∀ w', Kept X w' → w'.cell? ⟨g1, o1 + i * 7 + 6, none⟩ = _ := fun w' h => (h.cell (p := ⟨g1, o1 + i * 7 + 6, none⟩) hb1).trans v6
  have z0 : ∀ w', Kept X w' → w'.cell? ⟨g2, o2 + i * 7, none⟩ = _ := fun w' h => (h.cell (p := ⟨g2, o2 + i * 7, none⟩) hb2).trans u0
  have z1 : ∀ w', Kept X w' → w'.cell? ⟨g2, o2 + i * 7 + 1, none⟩ = _ := fun w' h => (h.cell (p := ⟨g2, o2 + i * 7 + 1, none⟩) hb2).trans u1
  have z2 : ∀ w', Kept X w' → w'.cell? ⟨g2, o2 + i * 7 + 2, none⟩ = _ := fun w' h => (h.cell (p := ⟨g2, o2 + i * 7 + 2, none⟩) hb2).trans u2
  have z3 : ∀ w', Kept X w' → w'.cell? ⟨g2, o2 + i * 7 + 3, none⟩ = _ := fun w' h => (h.cell (p := ⟨g2, o2 + i * 7 + 3, none⟩) hb2).trans u3
  have z4 : ∀ w', Kept X w' → w'.cell? ⟨g2, o2 + i * 7 + 4, none⟩ = _ := fun w' h => (h.cell (p := ⟨g2, o2 + i * 7 + 4, none⟩) hb2).trans u4
  have z5 : ∀ w', Kept X w' → w'.cell? ⟨g2, o2 + i * 7 + 5, none⟩ = _ := fun w' h => (h.cell (p := ⟨g2, o2 + i * 7 + 5, none⟩) hb2).trans u5
  have z6 : ∀ w', Kept X w' → w'.cell? ⟨g2, o2 + i * 7 + 6, none⟩ = _ := fun w' h => (h.cell (p := ⟨g2, o2 + i * 7 + 6, none⟩) hb2).trans u6
  have b0k0 : ∀ w', Kept X w' → w'.cell? ⟨w.heap.size, 0, none⟩ = _ := fun w' h => (b0.keep h).cell 0
  simp at b0k0
  have b8k0 : ∀ w', Kept X w' → w'.cell? ⟨s8, 0, none⟩ = _ := fun w' h => (b8.keep h).cell 0
  simp at b8k0
  have l0 := b0.lt
  have l8 := b8.lt
  have l1 := b1.lt
  go_cut [10, 11] (fun s10 s11 wx => ∃ n1 n2, s10 = .pointer (some ⟨n1, 0, none⟩) ∧ s11 = .pointer (some ⟨n2, 0, none⟩) ∧ n1 ≠ n2 ∧ Blk wx n1 #[.int .i64 c.room, .int .i64 c.helium, .int .i64 c.air, .int .i64 c.wlo, .int .i64 c.whi, .int .i64 c.leak, .int .i64 c.owed] 25 ∧ Blk wx n2 #[.int .i64 e.room, .int .i64 e.helium, .int .i64 e.air, .int .i64 e.wlo, .int .i64 e.whi, .int .i64 e.leak, .int .i64 e.owed] 25 ∧ Blk wx (w.heap.size + 1) #[.int .u8 d.kind, .int .i64 d.cell, .int .i64 d.to, .int .i64 d.n] 65 ∧ Kept w wx)
  case first =>
    clear v0 v1 v2 v3 v4 v5 v6 u0 u1 u2 u3 u4 u5 u6
    go_region_held3 (fun w' => Kept X w') (exact kpt) (fail)
    all_goals (go_wp2_with fail; go_meet)
    all_goals refine ⟨_, _, rfl, rfl, by (first | (simp; done) | (simp; omega)), ?_, ?_, by exact blkx, by exact kpt⟩
    all_goals first | exact Blk.drew (Blk.alloc (Blk.new' rfl) _) | exact Blk.drew (Blk.new' (by simp))
  case rest =>
    clear y0 z0 y1 z1 y2 z2 y3 z3 y4 z4 y5 z5 y6 z6 b0k0 b8k0
    clear v0 v1 v2 v3 v4 v5 v6 u0 u1 u2 u3 u4 u5 u6 hm b0 b8 b1 l0 l8 l1 hx
    obtain ⟨n1, n2, rfl, rfl, hne, q10, q11, b1, hk2⟩ := hcut
    have hcB : cellB c = true := by rw [HC.out]; exact (plantB_iff.1 HP.out).2.2.2.2.2.2.1 _ (List.getElem_mem hi)
    have HR : doE p d = 0 := by rw [← HE.out]; simpa using d3
    obtain ⟨_, heA, hQB, hQR⟩ := (doE_cases HP.out).resolve_right (fun h => by rw [HR] at h; omega)
    have hQP : Q = resA p d := by rw [HQ.out]; exact hQR
    have hcp : cellAt p i = c := by rw [HC.out]; simp [cellAt, hi]
    have hep : cellAt (resA p d) i = e := by rw [← hQP, HX.out]; simp [cellAt, hiq]
    have heB : cellB e = true := by rw [HX.out]; rw [← hQP] at hQB; exact (plantB_iff.1 hQB).2.2.2.2.2.2.1 _ (List.getElem_mem hiq)
    have ht := fun h7 : d.kind = 7 => pure_tick HP.out hi h7 heA
    have hl := fun (h3 : d.kind = 3 ∨ d.kind = 4 ∨ d.kind = 5) (hd : d.cell = (i : Int)) => pure_less hi h3 hd heA
    rw [hcp, hep] at ht hl
    obtain ⟨_, ⟨c1, c2⟩, ⟨c3, c4⟩, ⟨c5, c6⟩, ⟨c7, c8⟩, _⟩ := cellB_iff.1 hcB
    obtain ⟨_, ⟨e1, e2⟩, ⟨e3, e4⟩, ⟨e5, e6⟩, ⟨e7, e8⟩, _⟩ := cellB_iff.1 heB
    obtain ⟨N, hN⟩ : ∃ N, c.helium + c.air = N := ⟨_, rfl⟩
    obtain ⟨M, hM2⟩ : ∃ M, e.helium + e.air = M := ⟨_, rfl⟩
    obtain ⟨G, hG⟩ : ∃ G, N - M = G := ⟨_, rfl⟩
    obtain ⟨nU, hU⟩ : ∃ nU, d.n * N = nU := ⟨_, rfl⟩
    obtain ⟨nV, hV⟩ : ∃ nV, nU * c.leak = nV := ⟨_, rfl⟩
    obtain ⟨nT, hT⟩ : ∃ nT, N * c.leak = nT := ⟨_, rfl⟩
    have hV2 : d.n * nT = nV := by rw [← hT, ← hV, ← hU, Int.mul_assoc]
    have t1 := Int.mul_nonneg (show 0 ≤ N by omega) c5
    have t2 := mul_bd (A := 20000000) (B := 100000) (x := N) (y := c.leak) (by omega) (by omega) (by omega) (by omega)
    rw [hT] at t1 t2
    rw [hN, hM2, hG, hT, hV2] at ht
    clear hcp hep hQB hQR heA
    go_upto_region 12 with fail
    refine at_world (S := fun V => Blk V n1 #[.int .i64 c.room, .int .i64 c.helium, .int .i64 c.air, .int .i64 c.wlo, .int .i64 c.whi, .int .i64 c.leak, .int .i64 c.owed] 25 ∧ Blk V n2 #[.int .i64 e.room, .int .i64 e.helium, .int .i64 e.air, .int .i64 e.wlo, .int .i64 e.whi, .int .i64 e.leak, .int .i64 e.owed] 25 ∧ Blk V (w.heap.size + 1) #[.int .u8 d.kind, .int .i64 d.cell, .int .i64 d.to, .int .i64 d.n] 65 ∧ Kept w V) ⟨by exact blkd, by exact blkd, by exact blkd, by exact kpt⟩ ?_
    rintro V ⟨q10, q11, b1, hkV⟩
    have q10c0 := fun g : Later V => (q10.later g).cell 0
    have q10f0 := fun g : Later V => (q10.later g).free 0
    have q10c1 := fun g : Later V => (q10.later g).cell 1
    have q10f1 := fun g : Later V => (q10.later g).free 1
    have q10c2 := fun g : Later V => (q10.later g).cell 2
    have q10f2 := fun g : Later V => (q10.later g).free 2
    have q10c3 := fun g : Later V => (q10.later g).cell 3
    have q10f3 := fun g : Later V => (q10.later g).free 3
    have q10c4 := fun g : Later V => (q10.later g).cell 4
    have q10f4 := fun g : Later V => (q10.later g).free 4
    have q10c5 := fun g : Later V => (q10.later g).cell 5
    have q10f5 := fun g : Later V => (q10.later g).free 5
    have q10c6 := fun g : Later V => (q10.later g).cell 6
    have q10f6 := fun g : Later V => (q10.later g).free 6
    have q10l := fun g : Later V => (q10.later g).lt
    simp at q10c0 q10c1 q10c2 q10c3 q10c4 q10c5 q10c6
    have q11c0 := fun g : Later V => (q11.later g).cell 0
    have q11f0 := fun g : Later V => (q11.later g).free 0
    have q11c1 := fun g : Later V => (q11.later g).cell 1
    have q11f1 := fun g : Later V => (q11.later g).free 1
    have q11c2 := fun g : Later V => (q11.later g).cell 2
    have q11f2 := fun g : Later V => (q11.later g).free 2
    have q11c3 := fun g : Later V => (q11.later g).cell 3
    have q11f3 := fun g : Later V => (q11.later g).free 3
    have q11c4 := fun g : Later V => (q11.later g).cell 4
    have q11f4 := fun g : Later V => (q11.later g).free 4
    have q11c5 := fun g : Later V => (q11.later g).cell 5
    have q11f5 := fun g : Later V => (q11.later g).free 5
    have q11c6 := fun g : Later V => (q11.later g).cell 6
    have q11f6 := fun g : Later V => (q11.later g).free 6
    have q11l := fun g : Later V => (q11.later g).lt
    simp at q11c0 q11c1 q11c2 q11c3 q11c4 q11c5 q11c6
    refine Later.region (by kernel_rfl) (by kernel_rfl) ?_
    repeat (first | go_big_quiet_skip | (go_big_quiet_want; go_big_quiet_op; first | go_big_quiet_on | (apply Exists.intro; refine ⟨fun g_ => ?_, ?_⟩; (focus (first | fail)); go_big_quiet_on)))
    refine wpQuiet_nil ?_
    intro gg
    have p10 := q10.later gg
    have p11 := q11.later gg
    have pd := b1.later gg
    have hkg := Kept.drop hkV gg.ok
    clear q10c0 q10f0 q10c1 q10f1 q10c2 q10f2 q10c3 q10f3 q10c4 q10f4 q10c5 q10f5 q10c6 q10f6 q10l q11c0 q11f0 q11c1 q11f1 q11c2 q11f2 q11c3 q11f3 q11c4 q11f4 q11c5 q11f5 q11c6 q11f6 q11l
    have p10c0 := p10.cell 0
    have p10f0 := p10.free 0
    have p10c1 := p10.cell 1
    have p10f1 := p10.free 1
    have p10c2 := p10.cell 2
    have p10f2 := p10.free 2
    have p10c3 := p10.cell 3
    have p10f3 := p10.free 3
    have p10c4 := p10.cell 4
    have p10f4 := p10.free 4
    have p10c5 := p10.cell 5
    have p10f5 := p10.free 5
    have p10c6 := p10.cell 6
    have p10f6 := p10.free 6
    have p10l := p10.lt
    simp at p10c0 p10c1 p10c2 p10c3 p10c4 p10c5 p10c6
    have p11c0 := p11.cell 0
    have p11f0 := p11.free 0
    have p11c1 := p11.cell 1
    have p11f1 := p11.free 1
    have p11c2 := p11.cell 2
    have p11f2 := p11.free 2
    have p11c3 := p11.cell 3
    have p11f3 := p11.free 3
    have p11c4 := p11.cell 4
    have p11f4 := p11.free 4
    have p11c5 := p11.cell 5
    have p11f5 := p11.free 5
    have p11c6 := p11.cell 6
    have p11f6 := p11.free 6
    have p11l := p11.lt
    simp at p11c0 p11c1 p11c2 p11c3 p11c4 p11c5 p11c6
    have pdc0 := pd.cell 0
    have pdf0 := pd.free 0
    have pdc1 := pd.cell 1
    have pdf1 := pd.free 1
    have pdc2 := pd.cell 2
    have pdf2 := pd.free 2
    have pdc3 := pd.cell 3
    have pdf3 := pd.free 3
    have pdl := pd.lt
    simp at pdc0 pdc1 pdc2 pdc3
    have x1 := i64_inH (n := N) (by omega)
    have x2 := i64_inH (n := M) (by omega)
    have x3 := i64_inH (n := G) (by omega)
    by_cases k7 : d.kind = 7
    · obtain ⟨⟨hn0, hn1⟩, hr1, hr2, hr3⟩ := ht k7
      have m1 := mul_bd (A := 1000) (B := 20000000) (x := d.n) (y := N) (by omega) (by omega) (by omega) (by omega)
      have m2 := mul_bd (A := 1000) (B := 2000000000000) (x := d.n) (y := nT) (by omega) (by omega) (by omega) (by omega)
      rw [hU] at m1
      rw [hV2] at m2
      have x4 := i64_inH (n := G * 1000000) (by omega)
      have x5 := i64_inH (n := nU) (by omega)
      have x6 := i64_inH (n := nV) (by omega)
      have x7 := i64_inH (n := nV + c.owed) (by omega)
      have x8 := i64_inH (n := nT) (by omega)
      have x9 := i64_inH (n := nT + c.owed) (by omega)
      have x10 := i64_inH (n := G * 1000000 + e.owed) (by omega)
      have y1 : (d.kind == 7) = true := by simp [k7]
      have y2 : decide (0 ≤ G) = true := by simp; omega
      have y3 : decide (G * 1000000 ≤ nV + c.owed) = true := by simp; omega
      have Hh := Lib.hid (And.intro hr2 hr1)
      by_cases hd1 : d.n = 1
      · have y4 : (d.n != 1) = false := by simp [hd1]
        have y5 : (nT + c.owed == G * 1000000 + e.owed) = true := by simp; exact hr3 hd1
        have H1 := Lib.hid hd1
        have H7 := Lib.hid k7
        clear hd1 k7 ht hl hr1 hr2 hr3 hV2
        go_wp2
        go_ret
        exact ⟨rfl, by exact kpt⟩
      · have y4 : (d.n != 1) = true := by simp [hd1]
        have H7 := Lib.hid k7
        clear hd1 k7 ht hl hr1 hr2 hr3 hV2
        go_wp2
        go_ret
        exact ⟨rfl, by exact kpt⟩
    · have y1 : (d.kind == 7) = false := by simp [k7]
      by_cases hd : d.cell = (i : Int)
      · have y2 : (d.cell != (i : Int)) = false := by simp [hd]
        by_cases k : d.kind = 3 ∨ d.kind = 4 ∨ d.kind = 5
        · obtain ⟨he, hpos⟩ := hl k hd
          rw [hN] at hpos
          obtain ⟨z1, z2, z3⟩ := less_pure (c := c) (n := d.n) (by omega)
          rw [← he, hN, hM2] at z1 z2 z3
          rw [hG] at z1
          clear ht hl hV2
          obtain ⟨A1, hA1⟩ : ∃ A1, e.helium * N = A1 := ⟨_, rfl⟩
          obtain ⟨A2, hA2⟩ : ∃ A2, c.helium * M = A2 := ⟨_, rfl⟩
          obtain ⟨A3, hA3⟩ : ∃ A3, A1 - A2 = A3 := ⟨_, rfl⟩
          have m1 := mul_bd (A := 10000000) (B := 20000000) (x := e.helium) (y := N) (by omega) (by omega) (by omega) (by omega)
          have m2 := mul_bd (A := 10000000) (B := 20000000) (x := c.helium) (y := M) (by omega) (by omega) (by omega) (by omega)
          rw [hA1, hA2, hA3] at z2 z3
          rw [hA1] at m1
          rw [hA2] at m2
          have x4 := i64_inH (n := A1) (by omega)
          have x5 := i64_inH (n := A2) (by omega)
          have x6 := i64_inH (n := A3) (by omega)
          have y4 : (G == d.n) = true := by simp [z1]
          have y5 : decide (0 ≤ A3) = true := by simp; omega
          have y6 : decide (A3 < N) = true := by simp; omega
          have H1 := Lib.hid he
          have H2 := Lib.hid z1
          have H3 := Lib.hid hd
          clear he z1 hd
          rcases k with k3 | k3 | k3
          · have y7 : (d.kind != 3) = false := by simp [k3]
            have H7 := Lib.hid k3
            clear k3 k7
            go_wp2
            go_ret
            exact ⟨rfl, by exact kpt⟩
          · have y7 : (d.kind != 3) = true := by simp [k3]
            have y8 : (d.kind != 4) = false := by simp [k3]
            have H7 := Lib.hid k3
            clear k3 k7
            go_wp2
            go_ret
            exact ⟨rfl, by exact kpt⟩
          · have y7 : (d.kind != 3) = true := by simp [k3]
            have y8 : (d.kind != 4) = true := by simp [k3]
            have y9 : (d.kind != 5) = false := by simp [k3]
            have H7 := Lib.hid k3
            clear k3 k7
            go_wp2
            go_ret
            exact ⟨rfl, by exact kpt⟩
        · have y7 : (d.kind != 3) = true := by simp; omega
          have y8 : (d.kind != 4) = true := by simp; omega
          have y9 : (d.kind != 5) = true := by simp; omega
          have H3 := Lib.hid hd
          clear ht hl hV2 hd k k7
          go_wp2
          go_ret
          exact ⟨rfl, by exact kpt⟩
      · have y2 : (d.cell != (i : Int)) = true := by simp [hd]
        clear ht hl hV2 hd k7
        go_wp2
        go_ret
        exact ⟨rfl, by exact kpt⟩

theorem law_GasPure (p : Plant) (d : Deed) (x : Int) (a : Option Addr) (cap : Nat) (w : World) (hx : Row Cell.cells 7 w.heap.size w a p.cells) (hc : p.cells.length ≤ cap) (hM : cap ≤ maxLen) (hz : a = none → cap = 0) (hu : 0 ≤ d.kind ∧ d.kind ≤ 255) : Calls Try.prog 11 #[.agg #[.slice a p.cells.length cap, .int .i64 p.bottles, .int .i64 p.inH, .int .i64 p.inA, .int .i64 p.vH, .int .i64 p.vA, .int .i64 p.lH, .int .i64 p.lA, .int .i64 p.pH, .int .i64 p.pA], .agg #[.int .u8 d.kind, .int .i64 d.cell, .int .i64 d.to, .int .i64 d.n], .int .i64 x] w fun e w' => e = .returned (.bool true) ∧ Kept w w' := by
  cases hg : greatB p [d]
  · by_cases h0 : x < 0
    · exact law_GasPure_out p d x a cap w hx hc hM hz hg (.inl h0)
    · by_cases h1 : (p.cells.length : Int) ≤ x
      · exact law_GasPure_out p d x a cap w hx hc hM hz hg (.inr h1)
      · cases hp : plantB p
        · exact law_GasPure_chk p d x a cap w hx hc hM hz hg (by omega) (by omega) hp
        · by_cases hr : doE p d = 0
          · exact law_GasPure_ok p d x a cap w hx hc hM hz x.toNat (by omega) (by omega) hg hp hu hr
          · exact law_GasPure_err p d x a cap w hx hc hM hz hg (by omega) (by omega) hp hu hr
  · exact law_GasPure_great p d x a cap w hx hc hM hz hg

end Go.Proofs.Ytemafanncejeiaa

/-
  GasKept: gas is conserved: the walk.
-/
namespace Go.Proofs.Ytemafanncejeiaa
open Go.RowKit Bal Bal.Trim Bal.Gas
set_option linter.unusedVariables false
set_option linter.unusedSimpArgs false
set_option maxHeartbeats 8000000
set_option maxRecDepth 100000

theorem neq_pair {a b c d : Int} {z : Bool} (h : (!(decide (a = c) && decide (b = d))) = z) (w : World) : (binOp .neq 61 (.agg #[.int .i64 a, .int .i64 b]) (.agg #[.int .i64 c, .int .i64 d])).run Try.prog w = .ok (.bool z) w := by
  subst h
  simp [go_sem]
  by_cases h1 : a = c <;> by_cases h2 : b = d <;> simp [h1, h2]
theorem o_sumI (p : Plant) (a : Option Addr) (cap : Nat) (w : World) (hx : Row Cell.cells 7 w.heap.size w a p.cells) (hc : p.cells.length ≤ cap) (hM : cap ≤ maxLen) (hp : plantB p = true) :
    Calls Try.prog 70 #[.agg #[.slice a p.cells.length cap, .int .i64 p.bottles, .int .i64 p.inH, .int .i64 p.inA, .int .i64 p.vH, .int .i64 p.vA, .int .i64 p.lH, .int .i64 p.lA, .int .i64 p.pH, .int .i64 p.pA]] w fun e w' => e = .returned (.agg #[.int .i64 p.inH, .int .i64 p.inA]) ∧ Kept w w' := by
  have h := (plantB_iff.1 hp).2.2.2.2.2.2.2
  have := o_sum p a cap w hx hc hM hp
  rw [h.1, h.2] at this
  exact this
theorem law_GasKept_great (p : Plant) (d : Deed) (a : Option Addr) (cap : Nat) (w : World) (hx : Row Cell.cells 7 w.heap.size w a p.cells) (hc : p.cells.length ≤ cap) (hM : cap ≤ maxLen) (hz : a = none → cap = 0) (hg : greatB p [d] = true) : Calls Try.prog 10 #[.agg #[.slice a p.cells.length cap, .int .i64 p.bottles, .int .i64 p.inH, .int .i64 p.inA, .int .i64 p.vH, .int .i64 p.vA, .int .i64 p.lH, .int .i64 p.lA, .int .i64 p.pH, .int .i64 p.pA], .agg #[.int .u8 d.kind, .int .i64 d.cell, .int .i64 d.to, .int .i64 d.n]] w fun e w' => e = .returned (.bool true) ∧ Kept w w' := by
  have HG := Lib.hid hg
  clear hg
  go_enter Try.func10, Try.ntmps10
  go_wp2_with (first | (go_at_call 68; (with_reducible refine (o_alive _).mono ?_); rintro e wa ⟨rfl, hba⟩; refine Blk.thru (b := w.heap.size) (arr := ?_) (t := ?_) ?_ hba ?_; rotate_left 2; (focus (exact blk)); intro rap; have rapc0 := rap.cell 0; have rapf0 := rap.free 0; have rapc1 := rap.cell 1; have rapf1 := rap.free 1; have rapc2 := rap.cell 2; have rapf2 := rap.free 2; have rapc3 := rap.cell 3; have rapf3 := rap.free 3; have rapc4 := rap.cell 4; have rapf4 := rap.free 4; have rapc5 := rap.cell 5; have rapf5 := rap.free 5; have rapc6 := rap.cell 6; have rapf6 := rap.free 6; have rapc7 := rap.cell 7; have rapf7 := rap.free 7; have rapc8 := rap.cell 8; have rapf8 := rap.free 8; have rapc9 := rap.cell 9; have rapf9 := rap.free 9; have rapl := rap.lt; simp at rapc0 rapc1 rapc2 rapc3 rapc4 rapc5 rapc6 rapc7 rapc8 rapc9; refine Blk.thru (b := (w.heap.size + 1)) (arr := ?_) (t := ?_) ?_ hba ?_; rotate_left 2; (focus (exact blk)); intro rad; have radc0 := rad.cell 0; have radf0 := rad.free 0; have radc1 := rad.cell 1; have radf1 := rad.free 1; have radc2 := rad.cell 2; have radf2 := rad.free 2; have radc3 := rad.cell 3; have radf3 := rad.free 3; have radl := rad.lt; simp at radc0 radc1 radc2 radc3) | (go_at_call 46; (with_reducible refine (r_Great1 p d _ a cap _ _ rfl (by (exact blk)) hc hM).mono ?_); rw [HG.out]; rintro e w1 ⟨rfl, hb1⟩; refine Blk.thru (b := w.heap.size) (arr := ?_) (t := ?_) ?_ hb1 ?_; rotate_left 2; (focus (exact blk)); intro rbp; have rbpc0 := rbp.cell 0; have rbpf0 := rbp.free 0; have rbpc1 := rbp.cell 1; have rbpf1 := rbp.free 1; have rbpc2 := rbp.cell 2; have rbpf2 := rbp.free 2; have rbpc3 := rbp.cell 3; have rbpf3 := rbp.free 3; have rbpc4 := rbp.cell 4; have rbpf4 := rbp.free 4; have rbpc5 := rbp.cell 5; have rbpf5 := rbp.free 5; have rbpc6 := rbp.cell 6; have rbpf6 := rbp.free 6; have rbpc7 := rbp.cell 7; have rbpf7 := rbp.free 7; have rbpc8 := rbp.cell 8; have rbpf8 := rbp.free 8; have rbpc9 := rbp.cell 9; have rbpf9 := rbp.free 9; have rbpl := rbp.lt; simp at rbpc0 rbpc1 rbpc2 rbpc3 rbpc4 rbpc5 rbpc6 rbpc7 rbpc8 rbpc9; refine Blk.thru (b := (w.heap.size + 1)) (arr := ?_) (t := ?_) ?_ hb1 ?_; rotate_left 2; (focus (exact blk)); intro rbd; have rbdc0 := rbd.cell 0; have rbdf0 := rbd.free 0; have rbdc1 := rbd.cell 1; have rbdf1 := rbd.free 1; have rbdc2 := rbd.cell 2; have rbdf2 := rbd.free 2; have rbdc3 := rbd.cell 3; have rbdf3 := rbd.free 3; have rbdl := rbd.lt; simp at rbdc0 rbdc1 rbdc2 rbdc3))
  go_ret
  exact ⟨rfl, by exact kpt⟩

theorem law_GasKept_chk (p : Plant) (d : Deed) (a : Option Addr) (cap : Nat) (w : World) (hx : Row Cell.cells 7 w.heap.size w a p.cells) (hc : p.cells.length ≤ cap) (hM : cap ≤ maxLen) (hz : a = none → cap = 0) (hg : greatB p [d] = false) (hp : plantB p = false) : Calls Try.prog 10 #[.agg #[.slice a p.cells.length cap, .int .i64 p.bottles, .int .i64 p.inH, .int .i64 p.inA, .int .i64 p.vH, .int .i64 p.vA, .int .i64 p.lH, .int .i64 p.lA, .int .i64 p.pH, .int .i64 p.pA], .agg #[.int .u8 d.kind, .int .i64 d.cell, .int .i64 d.to, .int .i64 d.n]] w fun e w' => e = .returned (.bool true) ∧ Kept w w' := by
  have HG := Lib.hid hg
  have HPE := Lib.hid (show plantE p = 32 by simp [plantE, hp])
  clear hg hp
  go_enter Try.func10, Try.ntmps10
  go_wp2_with (first | (go_at_call 68; (with_reducible refine (o_alive _).mono ?_); rintro e wa ⟨rfl, hba⟩; refine Blk.thru (b := w.heap.size) (arr := ?_) (t := ?_) ?_ hba ?_; rotate_left 2; (focus (exact blk)); intro rap; have rapc0 := rap.cell 0; have rapf0 := rap.free 0; have rapc1 := rap.cell 1; have rapf1 := rap.free 1; have rapc2 := rap.cell 2; have rapf2 := rap.free 2; have rapc3 := rap.cell 3; have rapf3 := rap.free 3; have rapc4 := rap.cell 4; have rapf4 := rap.free 4; have rapc5 := rap.cell 5; have rapf5 := rap.free 5; have rapc6 := rap.cell 6; have rapf6 := rap.free 6; have rapc7 := rap.cell 7; have rapf7 := rap.free 7; have rapc8 := rap.cell 8; have rapf8 := rap.free 8; have rapc9 := rap.cell 9; have rapf9 := rap.free 9; have rapl := rap.lt; simp at rapc0 rapc1 rapc2 rapc3 rapc4 rapc5 rapc6 rapc7 rapc8 rapc9; refine Blk.thru (b := (w.heap.size + 1)) (arr := ?_) (t := ?_) ?_ hba ?_; rotate_left 2; (focus (exact blk)); intro rad; have radc0 := rad.cell 0; have radf0 := rad.free 0; have radc1 := rad.cell 1; have radf1 := rad.free 1; have radc2 := rad.cell 2; have radf2 := rad.free 2; have radc3 := rad.cell 3; have radf3 := rad.free 3; have radl := rad.lt; simp at radc0 radc1 radc2 radc3) | (go_at_call 46; (with_reducible refine (r_Great1 p d _ a cap _ _ rfl (by (exact blk)) hc hM).mono ?_); rw [HG.out]; rintro e w1 ⟨rfl, hb1⟩; refine Blk.thru (b := w.heap.size) (arr := ?_) (t := ?_) ?_ hb1 ?_; rotate_left 2; (focus (exact blk)); intro rbp; have rbpc0 := rbp.cell 0; have rbpf0 := rbp.free 0; have rbpc1 := rbp.cell 1; have rbpf1 := rbp.free 1; have rbpc2 := rbp.cell 2; have rbpf2 := rbp.free 2; have rbpc3 := rbp.cell 3; have rbpf3 := rbp.free 3; have rbpc4 := rbp.cell 4; have rbpf4 := rbp.free 4; have rbpc5 := rbp.cell 5; have rbpf5 := rbp.free 5; have rbpc6 := rbp.cell 6; have rbpf6 := rbp.free 6; have rbpc7 := rbp.cell 7; have rbpf7 := rbp.free 7; have rbpc8 := rbp.cell 8; have rbpf8 := rbp.free 8; have rbpc9 := rbp.cell 9; have rbpf9 := rbp.free 9; have rbpl := rbp.lt; simp at rbpc0 rbpc1 rbpc2 rbpc3 rbpc4 rbpc5 rbpc6 rbpc7 rbpc8 rbpc9; refine Blk.thru (b := (w.heap.size + 1)) (arr := ?_) (t := ?_) ?_ hb1 ?_; rotate_left 2; (focus (exact blk)); intro rbd; have rbdc0 := rbd.cell 0; have rbdf0 := rbd.free 0; have rbdc1 := rbd.cell 1; have rbdf1 := rbd.free 1; have rbdc2 := rbd.cell 2; have rbdf2 := rbd.free 2; have rbdc3 := rbd.cell 3; have rbdf3 := rbd.free 3; have rbdl := rbd.lt; simp at rbdc0 rbdc1 rbdc2 rbdc3) | (go_at_call 50; (with_reducible refine (f_Check p a cap _ (hx.later (by (exact kpt)) (Nat.le_refl _)) hc hM).mono ?_); rw [HPE.out]; rintro e w2 ⟨rfl, hb2⟩; refine Blk.thru (b := w.heap.size) (arr := ?_) (t := ?_) ?_ hb2 ?_; rotate_left 2; (focus (exact blk)); intro rcp; have rcpc0 := rcp.cell 0; have rcpf0 := rcp.free 0; have rcpc1 := rcp.cell 1; have rcpf1 := rcp.free 1; have rcpc2 := rcp.cell 2; have rcpf2 := rcp.free 2; have rcpc3 := rcp.cell 3; have rcpf3 := rcp.free 3; have rcpc4 := rcp.cell 4; have rcpf4 := rcp.free 4; have rcpc5 := rcp.cell 5; have rcpf5 := rcp.free 5; have rcpc6 := rcp.cell 6; have rcpf6 := rcp.free 6; have rcpc7 := rcp.cell 7; have rcpf7 := rcp.free 7; have rcpc8 := rcp.cell 8; have rcpf8 := rcp.free 8; have rcpc9 := rcp.cell 9; have rcpf9 := rcp.free 9; have rcpl := rcp.lt; simp at rcpc0 rcpc1 rcpc2 rcpc3 rcpc4 rcpc5 rcpc6 rcpc7 rcpc8 rcpc9; refine Blk.thru (b := (w.heap.size + 1)) (arr := ?_) (t := ?_) ?_ hb2 ?_; rotate_left 2; (focus (exact blk)); intro rcd; have rcdc0 := rcd.cell 0; have rcdf0 := rcd.free 0; have rcdc1 := rcd.cell 1; have rcdf1 := rcd.free 1; have rcdc2 := rcd.cell 2; have rcdf2 := rcd.free 2; have rcdc3 := rcd.cell 3; have rcdf3 := rcd.free 3; have rcdl := rcd.lt; simp at rcdc0 rcdc1 rcdc2 rcdc3))
  go_ret
  exact ⟨rfl, by exact kpt⟩

theorem law_GasKept_err (p : Plant) (d : Deed) (a : Option Addr) (cap : Nat) (w : World) (hx : Row Cell.cells 7 w.heap.size w a p.cells) (hc : p.cells.length ≤ cap) (hM : cap ≤ maxLen) (hz : a = none → cap = 0) (hg : greatB p [d] = false) (hp : plantB p = true) (hu : 0 ≤ d.kind ∧ d.kind ≤ 255) (hr : doE p d ≠ 0) : Calls Try.prog 10 #[.agg #[.slice a p.cells.length cap, .int .i64 p.bottles, .int .i64 p.inH, .int .i64 p.inA, .int .i64 p.vH, .int .i64 p.vA, .int .i64 p.lH, .int .i64 p.lA, .int .i64 p.pH, .int .i64 p.pA], .agg #[.int .u8 d.kind, .int .i64 d.cell, .int .i64 d.to, .int .i64 d.n]] w fun e w' => e = .returned (.bool true) ∧ Kept w w' := by
  obtain ⟨hE0, hQ0⟩ := (doE_cases hp).resolve_left (fun h => hr h.1)
  obtain ⟨Q, hQ⟩ : ∃ Q, Q = doQ p d := ⟨_, rfl⟩
  obtain ⟨E, hE⟩ : ∃ E, E = doE p d := ⟨_, rfl⟩
  have hq0 : Q.cells.length = 0 := by rw [hQ, hQ0]; rfl
  rw [← hE] at hE0
  have HQ := Lib.hid hQ
  have HE := Lib.hid hE
  have HU := Lib.hid hu
  have HG := Lib.hid hg
  have HPE := Lib.hid (show plantE p = 0 by simp [plantE, hp])
  clear hg hp hQ hE hu hr hQ0
  have HE0 := Lib.hid hq0
  rcases hE0 with rfl | rfl | rfl
  all_goals
    clear hq0
    go_enter Try.func10, Try.ntmps10
    go_upto_region 8 with (first | (go_at_call 68; (with_reducible refine (o_alive _).mono ?_); rintro e wa ⟨rfl, hba⟩; refine Blk.thru (b := w.heap.size) (arr := ?_) (t := ?_) ?_ hba ?_; rotate_left 2; (focus (exact blk)); intro rap; have rapc0 := rap.cell 0; have rapf0 := rap.free 0; have rapc1 := rap.cell 1; have rapf1 := rap.free 1; have rapc2 := rap.cell 2; have rapf2 := rap.free 2; have rapc3 := rap.cell 3; have rapf3 := rap.free 3; have rapc4 := rap.cell 4; have rapf4 := rap.free 4; have rapc5 := rap.cell 5; have rapf5 := rap.free 5; have rapc6 := rap.cell 6; have rapf6 := rap.free 6; have rapc7 := rap.cell 7; have rapf7 := rap.free 7; have rapc8 := rap.cell 8; have rapf8 := rap.free 8; have rapc9 := rap.cell 9; have rapf9 := rap.free 9; have rapl := rap.lt; simp at rapc0 rapc1 rapc2 rapc3 rapc4 rapc5 rapc6 rapc7 rapc8 rapc9; refine Blk.thru (b := (w.heap.size + 1)) (arr := ?_) (t := ?_) ?_ hba ?_; rotate_left 2; (focus (exact blk)); intro rad; have radc0 := rad.cell 0; have radf0 := rad.free 0; have radc1 := rad.cell 1; have radf1 := rad.free 1; have radc2 := rad.cell 2; have radf2 := rad.free 2; have radc3 := rad.cell 3; have radf3 := rad.free 3; have radl := rad.lt; simp at radc0 radc1 radc2 radc3) | (go_at_call 46; (with_reducible refine (r_Great1 p d _ a cap _ _ rfl (by (exact blk)) hc hM).mono ?_); rw [HG.out]; rintro e w1 ⟨rfl, hb1⟩; refine Blk.thru (b := w.heap.size) (arr := ?_) (t := ?_) ?_ hb1 ?_; rotate_left 2; (focus (exact blk)); intro rbp; have rbpc0 := rbp.cell 0; have rbpf0 := rbp.free 0; have rbpc1 := rbp.cell 1; have rbpf1 := rbp.free 1; have rbpc2 := rbp.cell 2; have rbpf2 := rbp.free 2; have rbpc3 := rbp.cell 3; have rbpf3 := rbp.free 3; have rbpc4 := rbp.cell 4; have rbpf4 := rbp.free 4; have rbpc5 := rbp.cell 5; have rbpf5 := rbp.free 5; have rbpc6 := rbp.cell 6; have rbpf6 := rbp.free 6; have rbpc7 := rbp.cell 7; have rbpf7 := rbp.free 7; have rbpc8 := rbp.cell 8; have rbpf8 := rbp.free 8; have rbpc9 := rbp.cell 9; have rbpf9 := rbp.free 9; have rbpl := rbp.lt; simp at rbpc0 rbpc1 rbpc2 rbpc3 rbpc4 rbpc5 rbpc6 rbpc7 rbpc8 rbpc9; refine Blk.thru (b := (w.heap.size + 1)) (arr := ?_) (t := ?_) ?_ hb1 ?_; rotate_left 2; (focus (exact blk)); intro rbd; have rbdc0 := rbd.cell 0; have rbdf0 := rbd.free 0; have rbdc1 := rbd.cell 1; have rbdf1 := rbd.free 1; have rbdc2 := rbd.cell 2; have rbdf2 := rbd.free 2; have rbdc3 := rbd.cell 3; have rbdf3 := rbd.free 3; have rbdl := rbd.lt; simp at rbdc0 rbdc1 rbdc2 rbdc3) | (go_at_call 50; (with_reducible refine (f_Check p a cap _ (hx.later (by (exact kpt)) (Nat.le_refl _)) hc hM).mono ?_); rw [HPE.out]; rintro e w2 ⟨rfl, hb2⟩; refine Blk.thru (b := w.heap.size) (arr := ?_) (t := ?_) ?_ hb2 ?_; rotate_left 2; (focus (exact blk)); intro rcp; have rcpc0 := rcp.cell 0; have rcpf0 := rcp.free 0; have rcpc1 := rcp.cell 1; have rcpf1 := rcp.free 1; have rcpc2 := rcp.cell 2; have rcpf2 := rcp.free 2; have rcpc3 := rcp.cell 3; have rcpf3 := rcp.free 3; have rcpc4 := rcp.cell 4; have rcpf4 := rcp.free 4; have rcpc5 := rcp.cell 5; have rcpf5 := rcp.free 5; have rcpc6 := rcp.cell 6; have rcpf6 := rcp.free 6; have rcpc7 := rcp.cell 7; have rcpf7 := rcp.free 7; have rcpc8 := rcp.cell 8; have rcpf8 := rcp.free 8; have rcpc9 := rcp.cell 9; have rcpf9 := rcp.free 9; have rcpl := rcp.lt; simp at rcpc0 rcpc1 rcpc2 rcpc3 rcpc4 rcpc5 rcpc6 rcpc7 rcpc8 rcpc9; refine Blk.thru (b := (w.heap.size + 1)) (arr := ?_) (t := ?_) ?_ hb2 ?_; rotate_left 2; (focus (exact blk)); intro rcd; have rcdc0 := rcd.cell 0; have rcdf0 := rcd.free 0; have rcdc1 := rcd.cell 1; have rcdf1 := rcd.free 1; have rcdc2 := rcd.cell 2; have rcdf2 := rcd.free 2; have rcdc3 := rcd.cell 3; have rcdf3 := rcd.free 3; have rcdl := rcd.lt; simp at rcdc0 rcdc1 rcdc2 rcdc3) | (go_at_call 48; (with_reducible refine (f_DoP p d a cap (hx.later (by (exact kpt)) (Nat.le_refl _)) hc hM hz HU.out Q _ HQ.out HE.out).mono ?_); rintro e w3 ⟨v3, rfl, hm3, hb3⟩; obtain ⟨ad3, cp3, rfl, hl3, hc3, hz3⟩ := hm3.slice; refine Blk.thru (b := w.heap.size) (arr := ?_) (t := ?_) ?_ hb3 ?_; rotate_left 2; (focus (exact blk)); intro rdp; have rdpc0 := rdp.cell 0; have rdpf0 := rdp.free 0; have rdpc1 := rdp.cell 1; have rdpf1 := rdp.free 1; have rdpc2 := rdp.cell 2; have rdpf2 := rdp.free 2; have rdpc3 := rdp.cell 3; have rdpf3 := rdp.free 3; have rdpc4 := rdp.cell 4; have rdpf4 := rdp.free 4; have rdpc5 := rdp.cell 5; have rdpf5 := rdp.free 5; have rdpc6 := rdp.cell 6; have rdpf6 := rdp.free 6; have rdpc7 := rdp.cell 7; have rdpf7 := rdp.free 7; have rdpc8 := rdp.cell 8; have rdpf8 := rdp.free 8; have rdpc9 := rdp.cell 9; have rdpf9 := rdp.free 9; have rdpl := rdp.lt; simp at rdpc0 rdpc1 rdpc2 rdpc3 rdpc4 rdpc5 rdpc6 rdpc7 rdpc8 rdpc9; refine Blk.thru (b := (w.heap.size + 1)) (arr := ?_) (t := ?_) ?_ hb3 ?_; rotate_left 2; (focus (exact blk)); intro rdd; have rddc0 := rdd.cell 0; have rddf0 := rdd.free 0; have rddc1 := rdd.cell 1; have rddf1 := rdd.free 1; have rddc2 := rdd.cell 2; have rddf2 := rdd.free 2; have rddc3 := rdd.cell 3; have rddf3 := rdd.free 3; have rddl := rdd.lt; simp at rddc0 rddc1 rddc2 rddc3))
    have y0 : ((Q.cells.length : Int) == 0) = true := by simp [HE0.out]
    go_wp2
    go_ret
    exact ⟨rfl, by exact kpt⟩

theorem law_GasKept_ok (p : Plant) (d : Deed) (a : Option Addr) (cap : Nat) (w : World) (hx : Row Cell.cells 7 w.heap.size w a p.cells) (hc : p.cells.length ≤ cap) (hM : cap ≤ maxLen) (hz : a = none → cap = 0) (hg : greatB p [d] = false) (hp : plantB p = true) (hu : 0 ≤ d.kind ∧ d.kind ≤ 255) (hr : doE p d = 0) : Calls Try.prog 10 #[.agg #[.slice a p.cells.length cap, .int .i64 p.bottles, .int .i64 p.inH, .int .i64 p.inA, .int .i64 p.vH, .int .i64 p.vA, .int .i64 p.lH, .int .i64 p.lA, .int .i64 p.pH, .int .i64 p.pA], .agg #[.int .u8 d.kind, .int .i64 d.cell, .int .i64 d.to, .int .i64 d.n]] w fun e w' => e = .returned (.bool true) ∧ Kept w w' := by
  obtain ⟨_, heA, hQB, hQR⟩ := (doE_cases hp).resolve_right (fun h => by rw [hr] at h; omega)
  obtain ⟨Q, hQ⟩ : ∃ Q, Q = doQ p d := ⟨_, rfl⟩
  obtain ⟨E, hE⟩ : ∃ E, E = doE p d := ⟨_, rfl⟩
  have hQP : Q = resA p d := by rw [hQ]; exact hQR
  have hQl : Q.cells.length = p.cells.length := by rw [hQP, resA_len]
  have kb := kept_books heA
  have kk := err_kind heA
  rw [← hQP] at hQB kb
  have HKC := Lib.hid (fun (i : Nat) (hi : i < p.cells.length) => @kept_cell p d i hi heA)
  rw [← hQP] at HKC
  have HQ := Lib.hid hQ
  have HE := Lib.hid hE
  have HU := Lib.hid hu
  have HG := Lib.hid hg
  have HQB := Lib.hid hQB
  have HPE := Lib.hid (show plantE p = 0 by simp [plantE, hp])
  have HQE := Lib.hid (show plantE Q = 0 by simp [plantE, hQB])
  have d3 : (E != 0) = false := by rw [hE]; simpa using hr
  have d4 : ((Q.cells.length : Int) != (p.cells.length : Int)) = false := by rw [hQl]; simp
  have hn12 : p.cells.length ≤ 12 := (plantB_iff.1 hp).1
  have HP := Lib.hid hp
  have HQL := Lib.hid hQl
  have KB := Lib.hid kb
  have KK := Lib.hid kk
  have HEA := Lib.hid heA
  clear hg hp hQ hE hu hr hQl hQP hQR hQB kb kk heA
  go_enter Try.func10, Try.ntmps10
  go_upto_region 9 with (first | (go_at_call 68; (with_reducible refine (o_alive _).mono ?_); rintro e wa ⟨rfl, hba⟩; refine Blk.thru (b := w.heap.size) (arr := ?_) (t := ?_) ?_ hba ?_; rotate_left 2; (focus (exact blk)); intro rap; have rapc0 := rap.cell 0; have rapf0 := rap.free 0; have rapc1 := rap.cell 1; have rapf1 := rap.free 1; have rapc2 := rap.cell 2; have rapf2 := rap.free 2; have rapc3 := rap.cell 3; have rapf3 := rap.free 3; have rapc4 := rap.cell 4; have rapf4 := rap.free 4; have rapc5 := rap.cell 5; have rapf5 := rap.free 5; have rapc6 := rap.cell 6; have rapf6 := rap.free 6; have rapc7 := rap.cell 7; have rapf7 := rap.free 7; have rapc8 := rap.cell 8; have rapf8 := rap.free 8; have rapc9 := rap.cell 9; have rapf9 := rap.free 9; have rapl := rap.lt; simp at rapc0 rapc1 rapc2 rapc3 rapc4 rapc5 rapc6 rapc7 rapc8 rapc9; refine Blk.thru (b := (w.heap.size + 1)) (arr := ?_) (t := ?_) ?_ hba ?_; rotate_left 2; (focus (exact blk)); intro rad; have radc0 := rad.cell 0; have radf0 := rad.free 0; have radc1 := rad.cell 1; have radf1 := rad.free 1; have radc2 := rad.cell 2; have radf2 := rad.free 2; have radc3 := rad.cell 3; have radf3 := rad.free 3; have radl := rad.lt; simp at radc0 radc1 radc2 radc3) | (go_at_call 46; (with_reducible refine (r_Great1 p d _ a cap _ _ rfl (by (exact blk)) hc hM).mono ?_); rw [HG.out]; rintro e w1 ⟨rfl, hb1⟩; refine Blk.thru (b := w.heap.size) (arr := ?_) (t := ?_) ?_ hb1 ?_; rotate_left 2; (focus (exact blk)); intro rbp; have rbpc0 := rbp.cell 0; have rbpf0 := rbp.free 0; have rbpc1 := rbp.cell 1; have rbpf1 := rbp.free 1; have rbpc2 := rbp.cell 2; have rbpf2 := rbp.free 2; have rbpc3 := rbp.cell 3; have rbpf3 := rbp.free 3; have rbpc4 := rbp.cell 4; have rbpf4 := rbp.free 4; have rbpc5 := rbp.cell 5; have rbpf5 := rbp.free 5; have rbpc6 := rbp.cell 6; have rbpf6 := rbp.free 6; have rbpc7 := rbp.cell 7; have rbpf7 := rbp.free 7; have rbpc8 := rbp.cell 8; have rbpf8 := rbp.free 8; have rbpc9 := rbp.cell 9; have rbpf9 := rbp.free 9; have rbpl := rbp.lt; simp at rbpc0 rbpc1 rbpc2 rbpc3 rbpc4 rbpc5 rbpc6 rbpc7 rbpc8 rbpc9; refine Blk.thru (b := (w.heap.size + 1)) (arr := ?_) (t := ?_) ?_ hb1 ?_; rotate_left 2; (focus (exact blk)); intro rbd; have rbdc0 := rbd.cell 0; have rbdf0 := rbd.free 0; have rbdc1 := rbd.cell 1; have rbdf1 := rbd.free 1; have rbdc2 := rbd.cell 2; have rbdf2 := rbd.free 2; have rbdc3 := rbd.cell 3; have rbdf3 := rbd.free 3; have rbdl := rbd.lt; simp at rbdc0 rbdc1 rbdc2 rbdc3) | (go_at_call 50; (with_reducible refine (f_Check p a cap _ (hx.later (by (exact kpt)) (Nat.le_refl _)) hc hM).mono ?_); rw [HPE.out]; rintro e w2 ⟨rfl, hb2⟩; refine Blk.thru (b := w.heap.size) (arr := ?_) (t := ?_) ?_ hb2 ?_; rotate_left 2; (focus (exact blk)); intro rcp; have rcpc0 := rcp.cell 0; have rcpf0 := rcp.free 0; have rcpc1 := rcp.cell 1; have rcpf1 := rcp.free 1; have rcpc2 := rcp.cell 2; have rcpf2 := rcp.free 2; have rcpc3 := rcp.cell 3; have rcpf3 := rcp.free 3; have rcpc4 := rcp.cell 4; have rcpf4 := rcp.free 4; have rcpc5 := rcp.cell 5; have rcpf5 := rcp.free 5; have rcpc6 := rcp.cell 6; have rcpf6 := rcp.free 6; have rcpc7 := rcp.cell 7; have rcpf7 := rcp.free 7; have rcpc8 := rcp.cell 8; have rcpf8 := rcp.free 8; have rcpc9 := rcp.cell 9; have rcpf9 := rcp.free 9; have rcpl := rcp.lt; simp at rcpc0 rcpc1 rcpc2 rcpc3 rcpc4 rcpc5 rcpc6 rcpc7 rcpc8 rcpc9; refine Blk.thru (b := (w.heap.size + 1)) (arr := ?_) (t := ?_) ?_ hb2 ?_; rotate_left 2; (focus (exact blk)); intro rcd; have rcdc0 := rcd.cell 0; have rcdf0 := rcd.free 0; have rcdc1 := rcd.cell 1; have rcdf1 := rcd.free 1; have rcdc2 := rcd.cell 2; have rcdf2 := rcd.free 2; have rcdc3 := rcd.cell 3; have rcdf3 := rcd.free 3; have rcdl := rcd.lt; simp at rcdc0 rcdc1 rcdc2 rcdc3) | (go_at_call 48; (with_reducible refine (f_DoP p d a cap (hx.later (by (exact kpt)) (Nat.le_refl _)) hc hM hz HU.out Q E HQ.out HE.out).mono ?_); rintro e w3 ⟨v3, rfl, hm3, hb3⟩; obtain ⟨ad3, cp3, rfl, hl3, hc3, hz3⟩ := hm3.slice; refine Blk.thru (b := w.heap.size) (arr := ?_) (t := ?_) ?_ hb3 ?_; rotate_left 2; (focus (exact blk)); intro rdp; have rdpc0 := rdp.cell 0; have rdpf0 := rdp.free 0; have rdpc1 := rdp.cell 1; have rdpf1 := rdp.free 1; have rdpc2 := rdp.cell 2; have rdpf2 := rdp.free 2; have rdpc3 := rdp.cell 3; have rdpf3 := rdp.free 3; have rdpc4 := rdp.cell 4; have rdpf4 := rdp.free 4; have rdpc5 := rdp.cell 5; have rdpf5 := rdp.free 5; have rdpc6 := rdp.cell 6; have rdpf6 := rdp.free 6; have rdpc7 := rdp.cell 7; have rdpf7 := rdp.free 7; have rdpc8 := rdp.cell 8; have rdpf8 := rdp.free 8; have rdpc9 := rdp.cell 9; have rdpf9 := rdp.free 9; have rdpl := rdp.lt; simp at rdpc0 rdpc1 rdpc2 rdpc3 rdpc4 rdpc5 rdpc6 rdpc7 rdpc8 rdpc9; refine Blk.thru (b := (w.heap.size + 1)) (arr := ?_) (t := ?_) ?_ hb3 ?_; rotate_left 2; (focus (exact blk)); intro rdd; have rddc0 := rdd.cell 0; have rddf0 := rdd.free 0; have rddc1 := rdd.cell 1; have rddf1 := rdd.free 1; have rddc2 := rdd.cell 2; have rddf2 := rdd.free 2; have rddc3 := rdd.cell 3; have rddf3 := rdd.free 3; have rddl := rdd.lt; simp at rddc0 rddc1 rddc2 rddc3))
  have hm3b := hm3.base (C := w.heap.size) (by exact (show Kept w _ by exact kpt).size)
  refine at_world (S := fun V => Blk V w.heap.size #[.slice a p.cells.length cap, .int .i64 p.bottles, .int .i64 p.inH, .int .i64 p.inA, .int .i64 p.vH, .int .i64 p.vA, .int .i64 p.lH, .int .i64 p.lA, .int .i64 p.pH, .int .i64 p.pA] 63 ∧ Blk V (w.heap.size + 1) #[.int .u8 d.kind, .int .i64 d.cell, .int .i64 d.to, .int .i64 d.n] 65 ∧ Blk V w3.heap.size #[.slice ad3 Q.cells.length cp3, .int .i64 Q.bottles, .int .i64 Q.inH, .int .i64 Q.inA, .int .i64 Q.vH, .int .i64 Q.vA, .int .i64 Q.lH, .int .i64 Q.lA, .int .i64 Q.pH, .int .i64 Q.pA] 63 ∧ Mine 25 w.heap.size V (.slice ad3 Q.cells.length cp3) Q.cells ∧ Kept w V) ⟨by exact blkd, by exact blkd, by exact blkd, (by exact (by have hnp := mine_past hm3b (Nat.le_refl _); (repeat (with_reducible refine Mine.off ?_ hnp _)); first | exact hm3b | exact hm3b.alloc _)), by exact kpt⟩ ?_
  clear hm3 hm3b
  rintro V ⟨b0, b1, b8, hm, hk⟩
  generalize w3.heap.size = s8 at b8 ⊢
  obtain ⟨_, hq, hqc, hqM, _⟩ := hm.row
  clear hm
  have KC : ∀ V', Kept V V' → Calls Try.prog 50 #[.agg #[.slice ad3 Q.cells.length cp3, .int .i64 Q.bottles, .int .i64 Q.inH, .int .i64 Q.inA, .int .i64 Q.vH, .int .i64 Q.vA, .int .i64 Q.lH, .int .i64 Q.lA, .int .i64 Q.pH, .int .i64 Q.pA]] V' fun e w' => e = .returned (.int .i64 0) ∧ Kept V' w' := fun V' h => by
    have := f_Check Q ad3 cp3 V' (hq.later h (Nat.le_refl _)) hqc hqM
    rw [HQE.out] at this
    exact this
  have KQ : ∀ V', Kept V V' → Calls Try.prog 70 #[.agg #[.slice ad3 Q.cells.length cp3, .int .i64 Q.bottles, .int .i64 Q.inH, .int .i64 Q.inA, .int .i64 Q.vH, .int .i64 Q.vA, .int .i64 Q.lH, .int .i64 Q.lA, .int .i64 Q.pH, .int .i64 Q.pA]] V' fun e w' => e = .returned (.agg #[.int .i64 Q.inH, .int .i64 Q.inA]) ∧ Kept V' w' := fun V' h => o_sumI Q ad3 cp3 V' (hq.later h (Nat.le_refl _)) hqc hqM HQB.out
  have KP : ∀ V', Kept V V' → Calls Try.prog 70 #[.agg #[.slice a p.cells.length cap, .int .i64 p.bottles, .int .i64 p.inH, .int .i64 p.inA, .int .i64 p.vH, .int .i64 p.vA, .int .i64 p.lH, .int .i64 p.lA, .int .i64 p.pH, .int .i64 p.pA]] V' fun e w' => e = .returned (.agg #[.int .i64 p.inH, .int .i64 p.inA]) ∧ Kept V' w' := fun V' h => o_sumI p a cap V' (hx.later (hk.trans (h.mono hk.size)) (Nat.le_refl _)) hc hM HP.out
  have b0c0 := fun g : Later V => (b0.later g).cell 0
  have b0f0 := fun g : Later V => (b0.later g).free 0
  have b0c1 := fun g : Later V => (b0.later g).cell 1
  have b0f1 := fun g : Later V => (b0.later g).free 1
  have b0c2 := fun g : Later V => (b0.later g).cell 2
  have b0f2 := fun g : Later V => (b0.later g).free 2
  have b0c3 := fun g : Later V => (b0.later g).cell 3
  have b0f3 := fun g : Later V => (b0.later g).free 3
  have b0c4 := fun g : Later V => (b0.later g).cell 4
  have b0f4 := fun g : Later V => (b0.later g).free 4
  have b0c5 := fun g : Later V => (b0.later g).cell 5
  have b0f5 := fun g : Later V => (b0.later g).free 5
  have b0c6 := fun g : Later V => (b0.later g).cell 6
  have b0f6 := fun g : Later V => (b0.later g).free 6
  have b0c7 := fun g : Later V => (b0.later g).cell 7
  have b0f7 := fun g : Later V => (b0.later g).free 7
  have b0c8 := fun g : Later V => (b0.later g).cell 8
  have b0f8 := fun g : Later V => (b0.later g).free 8
  have b0c9 := fun g : Later V => (b0.later g).cell 9
  have b0f9 := fun g : Later V => (b0.later g).free 9
  have b0l := fun g : Later V => (b0.later g).lt
  simp at b0c0 b0c1 b0c2 b0c3 b0c4 b0c5 b0c6 b0c7 b0c8 b0c9
  have b1c0 := fun g : Later V => (b1.later g).cell 0
  have b1f0 := fun g : Later V => (b1.later g).free 0
  have b1c1 := fun g : Later V => (b1.later g).cell 1
  have b1f1 := fun g : Later V => (b1.later g).free 1
  have b1c2 := fun g : Later V => (b1.later g).cell 2
  have b1f2 := fun g : Later V => (b1.later g).free 2
  have b1c3 := fun g : Later V => (b1.later g).cell 3
  have b1f3 := fun g : Later V => (b1.later g).free 3
  have b1l := fun g : Later V => (b1.later g).lt
  simp at b1c0 b1c1 b1c2 b1c3
  have b8c0 := fun g : Later V => (b8.later g).cell 0
  have b8f0 := fun g : Later V => (b8.later g).free 0
  have b8c1 := fun g : Later V => (b8.later g).cell 1
  have b8f1 := fun g : Later V => (b8.later g).free 1
  have b8c2 := fun g : Later V => (b8.later g).cell 2
  have b8f2 := fun g : Later V => (b8.later g).free 2
  have b8c3 := fun g : Later V => (b8.later g).cell 3
  have b8f3 := fun g : Later V => (b8.later g).free 3
  have b8c4 := fun g : Later V => (b8.later g).cell 4
  have b8f4 := fun g : Later V => (b8.later g).free 4
  have b8c5 := fun g : Later V => (b8.later g).cell 5
  have b8f5 := fun g : Later V => (b8.later g).free 5
  have b8c6 := fun g : Later V => (b8.later g).cell 6
  have b8f6 := fun g : Later V => (b8.later g).free 6
  have b8c7 := fun g : Later V => (b8.later g).cell 7
  have b8f7 := fun g : Later V => (b8.later g).free 7
  have b8c8 := fun g : Later V => (b8.later g).cell 8
  have b8f8 := fun g : Later V => (b8.later g).free 8
  have b8c9 := fun g : Later V => (b8.later g).cell 9
  have b8f9 := fun g : Later V => (b8.later g).free 9
  have b8l := fun g : Later V => (b8.later g).lt
  simp at b8c0 b8c1 b8c2 b8c3 b8c4 b8c5 b8c6 b8c7 b8c8 b8c9
  refine Later.region (by kernel_rfl) (by kernel_rfl) ?_
  repeat (first | go_big_quiet_skip | (go_big_quiet_want; go_big_quiet_op; first | go_big_quiet_on | (apply Exists.intro; refine ⟨fun g_ => ?_, ?_⟩; (focus (first | (go_at_call 50; with_reducible exact Later.call (KC _ g_.ok)) | (go_at_call 70; with_reducible exact Later.call (KQ _ g_.ok)) | (go_at_call 70; with_reducible exact Later.call (KP _ g_.ok)))); go_big_quiet_on)))
  refine wpQuiet_nil ?_
  intro gg
  have b0' := b0.later gg
  have b1' := b1.later gg
  have b8' := b8.later gg
  have hq' := hq.later gg.ok (Nat.le_refl _)
  have hk' := Kept.drop hk gg.ok
  clear b0c0 b0f0 b0c1 b0f1 b0c2 b0f2 b0c3 b0f3 b0c4 b0f4 b0c5 b0f5 b0c6 b0f6 b0c7 b0f7 b0c8 b0f8 b0c9 b0f9 b0l b1c0 b1f0 b1c1 b1f1 b1c2 b1f2 b1c3 b1f3 b1l b8c0 b8f0 b8c1 b8f1 b8c2 b8f2 b8c3 b8f3 b8c4 b8f4 b8c5 b8f5 b8c6 b8f6 b8c7 b8f7 b8c8 b8f8 b8c9 b8f9 b8l KC KQ KP
  go_upto_region 11 with fail
  refine at_world (S := fun X => Blk X w.heap.size #[.slice a p.cells.length cap, .int .i64 p.bottles, .int .i64 p.inH, .int .i64 p.inA, .int .i64 p.vH, .int .i64 p.vA, .int .i64 p.lH, .int .i64 p.lA, .int .i64 p.pH, .int .i64 p.pA] 63 ∧ Blk X (w.heap.size + 1) #[.int .u8 d.kind, .int .i64 d.cell, .int .i64 d.to, .int .i64 d.n] 65 ∧ Blk X s8 #[.slice ad3 Q.cells.length cp3, .int .i64 Q.bottles, .int .i64 Q.inH, .int .i64 Q.inA, .int .i64 Q.vH, .int .i64 Q.vA, .int .i64 Q.lH, .int .i64 Q.lA, .int .i64 Q.pH, .int .i64 Q.pA] 63 ∧ Row Cell.cells 7 X.heap.size X ad3 Q.cells ∧ Kept w X ) ⟨by exact blkd, by exact blkd, by exact blkd, (by exact hq'.later (by exact kpt) (Nat.le_refl _)), by exact kpt⟩ ?_
  rintro X ⟨b0, b1, b8, hq, hk⟩
  obtain ⟨kb1, kb2, kb3, kb4, kb5, kb6⟩ := KB.out
  go_cut [126] (fun s wx => s = .bool false ∧ Blk wx w.heap.size #[.slice a p.cells.length cap, .int .i64 p.bottles, .int .i64 p.inH, .int .i64 p.inA, .int .i64 p.vH, .int .i64 p.vA, .int .i64 p.lH, .int .i64 p.lA, .int .i64 p.pH, .int .i64 p.pA] 63 ∧ Blk wx (w.heap.size + 1) #[.int .u8 d.kind, .int .i64 d.cell, .int .i64 d.to, .int .i64 d.n] 65 ∧ Blk wx s8 #[.slice ad3 Q.cells.length cp3, .int .i64 Q.bottles, .int .i64 Q.inH, .int .i64 Q.inA, .int .i64 Q.vH, .int .i64 Q.vA, .int .i64 Q.lH, .int .i64 Q.lA, .int .i64 Q.pH, .int .i64 Q.pA] 63 ∧ Row Cell.cells 7 wx.heap.size wx ad3 Q.cells ∧ Kept w wx )
  case first =>
    have b0c0 := fun g : Later X => (b0.later g).cell 0
    have b0f0 := fun g : Later X => (b0.later g).free 0
    have b0c1 := fun g : Later X => (b0.later g).cell 1
    have b0f1 := fun g : Later X => (b0.later g).free 1
    have b0c2 := fun g : Later X => (b0.later g).cell 2
    have b0f2 := fun g : Later X => (b0.later g).free 2
    have b0c3 := fun g : Later X => (b0.later g).cell 3
    have b0f3 := fun g : Later X => (b0.later g).free 3
    have b0c4 := fun g : Later X => (b0.later g).cell 4
    have b0f4 := fun g : Later X => (b0.later g).free 4
    have b0c5 := fun g : Later X => (b0.later g).cell 5
    have b0f5 := fun g : Later X => (b0.later g).free 5
    have b0c6 := fun g : Later X => (b0.later g).cell 6
    have b0f6 := fun g : Later X => (b0.later g).free 6
    have b0c7 := fun g : Later X => (b0.later g).cell 7
    have b0f7 := fun g : Later X => (b0.later g).free 7
    have b0c8 := fun g : Later X => (b0.later g).cell 8
    have b0f8 := fun g : Later X => (b0.later g).free 8
    have b0c9 := fun g : Later X => (b0.later g).cell 9
    have b0f9 := fun g : Later X => (b0.later g).free 9
    have b0l := fun g : Later X => (b0.later g).lt
    simp at b0c0 b0c1 b0c2 b0c3 b0c4 b0c5 b0c6 b0c7 b0c8 b0c9
    have b1c0 := fun g : Later X => (b1.later g).cell 0
    have b1f0 := fun g : Later X => (b1.later g).free 0
    have b1c1 := fun g : Later X => (b1.later g).cell 1
    have b1f1 := fun g : Later X => (b1.later g).free 1
    have b1c2 := fun g : Later X => (b1.later g).cell 2
    have b1f2 := fun g : Later X => (b1.later g).free 2
    have b1c3 := fun g : Later X => (b1.later g).cell 3
    have b1f3 := fun g : Later X => (b1.later g).free 3
    have b1l := fun g : Later X => (b1.later g).lt
    simp at b1c0 b1c1 b1c2 b1c3
    have b8c0 := fun g : Later X => (b8.later g).cell 0
    have b8f0 := fun g : Later X => (b8.later g).free 0
    have b8c1 := fun g : Later X => (b8.later g).cell 1
    have b8f1 := fun g : Later X => (b8.later g).free 1
    have b8c2 := fun g : Later X => (b8.later g).cell 2
    have b8f2 := fun g : Later X => (b8.later g).free 2
    have b8c3 := fun g : Later X => (b8.later g).cell 3
    have b8f3 := fun g : Later X => (b8.later g).free 3
    have b8c4 := fun g : Later X => (b8.later g).cell 4
    have b8f4 := fun g : Later X => (b8.later g).free 4
    have b8c5 := fun g : Later X => (b8.later g).cell 5
    have b8f5 := fun g : Later X => (b8.later g).free 5
    have b8c6 := fun g : Later X => (b8.later g).cell 6
    have b8f6 := fun g : Later X => (b8.later g).free 6
    have b8c7 := fun g : Later X => (b8.later g).cell 7
    have b8f7 := fun g : Later X => (b8.later g).free 7
    have b8c8 := fun g : Later X => (b8.later g).cell 8
    have b8f8 := fun g : Later X => (b8.later g).free 8
    have b8c9 := fun g : Later X => (b8.later g).cell 9
    have b8f9 := fun g : Later X => (b8.later g).free 9
    have b8l := fun g : Later X => (b8.later g).lt
    simp at b8c0 b8c1 b8c2 b8c3 b8c4 b8c5 b8c6 b8c7 b8c8 b8c9
    by_cases hk_ : d.kind = 1
    · have y1 : (d.kind == 1) = true := by simp [hk_]
      have n1 : ∀ w, (binOp .neq 61 (.agg #[.int .i64 Q.inH, .int .i64 Q.inA]) (.agg #[.int .i64 p.inH, .int .i64 p.inA])).run Try.prog w = .ok (.bool (true)) w := fun w => neq_pair (by have q := kb1 (.inl hk_); rw [Bool.not_eq_true', Bool.and_eq_false_iff, decide_eq_false_iff_not, decide_eq_false_iff_not]; omega) w
      have n2 : ∀ w, (binOp .neq 61 (.agg #[.int .i64 Q.vH, .int .i64 Q.vA]) (.agg #[.int .i64 p.vH, .int .i64 p.vA])).run Try.prog w = .ok (.bool (d.kind == 3)) w := fun w => neq_pair (by obtain ⟨q1, q2⟩ := kb4 (by omega); rw [q1, q2]; simp [hk_]) w
      have n3 : ∀ w, (binOp .neq 61 (.agg #[.int .i64 Q.lH, .int .i64 Q.lA]) (.agg #[.int .i64 p.lH, .int .i64 p.lA])).run Try.prog w = .ok (.bool (false)) w := fun w => neq_pair (by obtain ⟨q1, q2⟩ := kb5 (by omega); rw [q1, q2]; simp) w
      have n4 : ∀ w, (binOp .neq 61 (.agg #[.int .i64 Q.pH, .int .i64 Q.pA]) (.agg #[.int .i64 p.pH, .int .i64 p.pA])).run Try.prog w = .ok (.bool (false)) w := fun w => neq_pair (by obtain ⟨q1, q2⟩ := kb6 (by omega); rw [q1, q2]; simp) w
      have H_ := Lib.hid hk_
      clear hk_ kb1 kb2 kb3 kb4 kb5 kb6
      as_aux_lemma =>
        refine Later.region (by kernel_rfl) (by kernel_rfl) ?_
        repeat (first | go_big_quiet_skip | (go_big_quiet_want; go_big_quiet_op; first | go_big_quiet_on | (apply Exists.intro; refine ⟨fun g_ => ?_, ?_⟩; (focus (first | fail)); go_big_quiet_on)))
        refine wpQuiet_nil ?_
        intro gg
        go_wp2_with fail
        go_meet
        exact ⟨rfl, b0.later gg, b1.later gg, b8.later gg, hq.later gg.ok (Nat.le_refl _), Kept.drop hk gg.ok⟩
    · have y1 : (d.kind == 1) = false := by simp [hk_]
      have n1 : ∀ w, (binOp .neq 61 (.agg #[.int .i64 Q.inH, .int .i64 Q.inA]) (.agg #[.int .i64 p.inH, .int .i64 p.inA])).run Try.prog w = .ok (.bool (d.kind == 6)) w := fun w => neq_pair (by
        by_cases h6 : d.kind = 6
        · have q := kb1 (.inr h6); rw [show (d.kind == 6) = true by simp [h6]]; rw [Bool.not_eq_true', Bool.and_eq_false_iff, decide_eq_false_iff_not, decide_eq_false_iff_not]; omega
        · obtain ⟨q1, q2⟩ := kb2 (by omega); rw [q1, q2]; simp [h6]) w
      have n2 : ∀ w, (binOp .neq 61 (.agg #[.int .i64 Q.vH, .int .i64 Q.vA]) (.agg #[.int .i64 p.vH, .int .i64 p.vA])).run Try.prog w = .ok (.bool (d.kind == 3)) w := fun w => neq_pair (by
        by_cases h6 : d.kind = 3
        · have q := kb3 h6; rw [show (d.kind == 3) = true by simp [h6]]; rw [Bool.not_eq_true', Bool.and_eq_false_iff, decide_eq_false_iff_not, decide_eq_false_iff_not]; omega
        · obtain ⟨q1, q2⟩ := kb4 (by omega); rw [q1, q2]; simp [h6]) w
      by_cases h7 : (!(decide (Q.lH = p.lH) && decide (Q.lA = p.lA))) = true
      · have k7 : d.kind = 7 := Decidable.byContradiction fun h => by obtain ⟨q1, q2⟩ := kb5 h; rw [q1, q2] at h7; simp at h7
        have y7 : (d.kind != 7) = false := by simp [k7]
        have n3 : ∀ w, (binOp .neq 61 (.agg #[.int .i64 Q.lH, .int .i64 Q.lA]) (.agg #[.int .i64 p.lH, .int .i64 p.lA])).run Try.prog w = .ok (.bool true) w := fun w => neq_pair h7 w
        have n4 : ∀ w, (binOp .neq 61 (.agg #[.int .i64 Q.pH, .int .i64 Q.pA]) (.agg #[.int .i64 p.pH, .int .i64 p.pA])).run Try.prog w = .ok (.bool (false)) w := fun w => neq_pair (by obtain ⟨q1, q2⟩ := kb6 (by omega); rw [q1, q2]; simp) w
        have H_ := Lib.hid k7
        clear k7 h7 hk_ kb1 kb2 kb3 kb4 kb5 kb6
        as_aux_lemma =>
          refine Later.region (by kernel_rfl) (by kernel_rfl) ?_
          repeat (first | go_big_quiet_skip | (go_big_quiet_want; go_big_quiet_op; first | go_big_quiet_on | (apply Exists.intro; refine ⟨fun g_ => ?_, ?_⟩; (focus (first | fail)); go_big_quiet_on)))
          refine wpQuiet_nil ?_
          intro gg
          go_wp2_with fail
          go_meet
          exact ⟨rfl, b0.later gg, b1.later gg, b8.later gg, hq.later gg.ok (Nat.le_refl _), Kept.drop hk gg.ok⟩
      · have n3 : ∀ w, (binOp .neq 61 (.agg #[.int .i64 Q.lH, .int .i64 Q.lA]) (.agg #[.int .i64 p.lH, .int .i64 p.lA])).run Try.prog w = .ok (.bool false) w := fun w => neq_pair (by simpa using h7) w
        by_cases h5 : (!(decide (Q.pH = p.pH) && decide (Q.pA = p.pA))) = true
        · have k5 : d.kind = 5 := Decidable.byContradiction fun h => by obtain ⟨q1, q2⟩ := kb6 h; rw [q1, q2] at h5; simp at h5
          have y5 : (d.kind != 5) = false := by simp [k5]
          have n4 : ∀ w, (binOp .neq 61 (.agg #[.int .i64 Q.pH, .int .i64 Q.pA]) (.agg #[.int .i64 p.pH, .int .i64 p.pA])).run Try.prog w = .ok (.bool true) w := fun w => neq_pair h5 w
          have H_ := Lib.hid k5
          clear k5 h5 h7 hk_ kb1 kb2 kb3 kb4 kb5 kb6
          as_aux_lemma =>
            refine Later.region (by kernel_rfl) (by kernel_rfl) ?_
            repeat (first | go_big_quiet_skip | (go_big_quiet_want; go_big_quiet_op; first | go_big_quiet_on | (apply Exists.intro; refine ⟨fun g_ => ?_, ?_⟩; (focus (first | fail)); go_big_quiet_on)))
            refine wpQuiet_nil ?_
            intro gg
            go_wp2_with fail
            go_meet
            exact ⟨rfl, b0.later gg, b1.later gg, b8.later gg, hq.later gg.ok (Nat.le_refl _), Kept.drop hk gg.ok⟩
        · have n4 : ∀ w, (binOp .neq 61 (.agg #[.int .i64 Q.pH, .int .i64 Q.pA]) (.agg #[.int .i64 p.pH, .int .i64 p.pA])).run Try.prog w = .ok (.bool false) w := fun w => neq_pair (by simpa using h5) w
          clear h5 h7 hk_ kb1 kb2 kb3 kb4 kb5 kb6
          as_aux_lemma =>
            refine Later.region (by kernel_rfl) (by kernel_rfl) ?_
            repeat (first | go_big_quiet_skip | (go_big_quiet_want; go_big_quiet_op; first | go_big_quiet_on | (apply Exists.intro; refine ⟨fun g_ => ?_, ?_⟩; (focus (first | fail)); go_big_quiet_on)))
            refine wpQuiet_nil ?_
            intro gg
            go_wp2_with fail
            go_meet
            exact ⟨rfl, b0.later gg, b1.later gg, b8.later gg, hq.later gg.ok (Nat.le_refl _), Kept.drop hk gg.ok⟩
  case rest =>
    as_aux_lemma =>
      clear b0 b1 b8 hq hk
      obtain ⟨rfl, b0, b1, b8, hq, hk⟩ := hcut
      have b8c0 := b8.cell 0
      have b8f0 := b8.free 0
      have b8c1 := b8.cell 1
      have b8f1 := b8.free 1
      have b8c2 := b8.cell 2
      have b8f2 := b8.free 2
      have b8c3 := b8.cell 3
      have b8f3 := b8.free 3
      have b8c4 := b8.cell 4
      have b8f4 := b8.free 4
      have b8c5 := b8.cell 5
      have b8f5 := b8.free 5
      have b8c6 := b8.cell 6
      have b8f6 := b8.free 6
      have b8c7 := b8.cell 7
      have b8f7 := b8.free 7
      have b8c8 := b8.cell 8
      have b8f8 := b8.free 8
      have b8c9 := b8.cell 9
      have b8f9 := b8.free 9
      have b8l := b8.lt
      simp at b8c0 b8c1 b8c2 b8c3 b8c4 b8c5 b8c6 b8c7 b8c8 b8c9
      go_wp2
      clear b8c0 b8f0 b8c1 b8f1 b8c2 b8f2 b8c3 b8f3 b8c4 b8f4 b8c5 b8f5 b8c6 b8f6 b8c7 b8f7 b8c8 b8f8 b8c9 b8f9 b8l
      go_loopw [130] (fun i wr => ∃ k : Nat, k ≤ Q.cells.length ∧ i = .int .i64 k ∧ Blk wr w.heap.size #[.slice a p.cells.length cap, .int .i64 p.bottles, .int .i64 p.inH, .int .i64 p.inA, .int .i64 p.vH, .int .i64 p.vA, .int .i64 p.lH, .int .i64 p.lA, .int .i64 p.pH, .int .i64 p.pA] 63 ∧ Blk wr (w.heap.size + 1) #[.int .u8 d.kind, .int .i64 d.cell, .int .i64 d.to, .int .i64 d.n] 65 ∧ Kept wc wr) (fun i _ => Q.cells.length - (intOf i).toNat)
      case atStart => exact ⟨0, Nat.zero_le _, rfl, b0, b1, Below.refl _ _⟩
      case round =>
        clear b0 b1
        obtain ⟨k, hkn, rfl, b0, b1, hkX⟩ := hrel
        by_cases hlt : k < Q.cells.length
        · have hltp : k < p.cells.length := by rw [← HQL.out]; exact hlt
          obtain ⟨g1, o1, rfl, hb1, v0, v1, v2, v3, v4, v5, v6⟩ := Cell.row (hx.later (hk.trans (hkX.mono hk.size)) (Nat.le_refl _)) k hltp
          obtain ⟨g2, o2, rfl, hb2, u0, u1, u2, u3, u4, u5, u6⟩ := Cell.row (hq.later hkX (Nat.le_refl _)) k hlt
          obtain ⟨⟨s1, s2, s3, s4⟩, s5, s6⟩ := HKC.out k hltp
          rw [show cellAt p k = p.cells[k] by simp [cellAt, hltp], show cellAt Q k = Q.cells[k] by simp [cellAt, hlt]] at s1 s2 s3 s4 s5 s6
          generalize p.cells[k] = c at v0 v1 v2 v3 v4 v5 v6 s1 s2 s3 s4 s5 s6
          generalize Q.cells[k] = e at u0 u1 u2 u3 u4 u5 u6 s1 s2 s3 s4 s5 s6
          rw [s1] at u0
          rw [s2] at u3
          rw [s3] at u4
          rw [s4] at u5
          clear s1 s2 s3 s4
          have k0 : (0 : Int) ≤ (k : Int) := by omega
          have k1 : (k : Int) < (Q.cells.length : Int) := by omega
          have k2 : (k : Int) < (p.cells.length : Int) := by omega
          have b0c0 := b0.cell 0
          have b0f0 := b0.free 0
          have b0c1 := b0.cell 1
          have b0f1 := b0.free 1
          have b0c2 := b0.cell 2
          have b0f2 := b0.free 2
          have b0c3 := b0.cell 3
          have b0f3 := b0.free 3
          have b0c4 := b0.cell 4
          have b0f4 := b0.free 4
          have b0c5 := b0.cell 5
          have b0f5 := b0.free 5
          have b0c6 := b0.cell 6
          have b0f6 := b0.free 6
          have b0c7 := b0.cell 7
          have b0f7 := b0.free 7
          have b0c8 := b0.cell 8
          have b0f8 := b0.free 8
          have b0c9 := b0.cell 9
          have b0f9 := b0.free 9
          have b0l := b0.lt
          simp at b0c0 b0c1 b0c2 b0c3 b0c4 b0c5 b0c6 b0c7 b0c8 b0c9
          have b1c0 := b1.cell 0
          have b1f0 := b1.free 0
          have b1c1 := b1.cell 1
          have b1f1 := b1.free 1
          have b1c2 := b1.cell 2
          have b1f2 := b1.free 2
          have b1c3 := b1.cell 3
          have b1f3 := b1.free 3
          have b1l := b1.lt
          simp at b1c0 b1c1 b1c2 b1c3
          by_cases k7 : d.kind = 7
          · have y7 : (d.kind == 7) = true := by simp [k7]
            have z7 : (d.kind != 7) = false := by simp [k7]
            have H7 := Lib.hid k7
            clear s5 s6 k7
            by_cases ho : e.owed = c.owed
            · rw [ho] at u6
              clear ho
              go_wp2
              go_round
              case rel => exact ⟨k + 1, by omega, by go_num, by exact blkd, by exact blkd, by exact kpt⟩
              case measure => simp [intOf]; omega
            · have yo : (e.owed != c.owed) = true := by simp [ho]
              clear ho
              go_wp2
              go_round
              case rel => exact ⟨k + 1, by omega, by go_num, by exact blkd, by exact blkd, by exact kpt⟩
              case measure => simp [intOf]; omega
          · have y7 : (d.kind == 7) = false := by simp [k7]
            have z7 : (d.kind != 7) = true := by simp [k7]
            rw [s5 k7] at u6
            clear s5
            by_cases n1 : d.kind ≠ 1 ∧ (k : Int) = d.cell
            · have y1 : (d.kind != 1) = true := by simp [n1.1]
              have y2 : ((k : Int) == d.cell) = true := by simp [n1.2]
              have H2 := Lib.hid n1
              clear n1 s6 k7
              go_wp2
              go_round
              case rel => exact ⟨k + 1, by omega, by go_num, by exact blkd, by exact blkd, by exact kpt⟩
              case measure => simp [intOf]; omega
            · by_cases n2 : d.kind = 4 ∧ (k : Int) = d.to
              · have hne : (k : Int) ≠ d.cell := fun h => n1 ⟨by omega, h⟩
                have y1 : (d.kind != 1) = true := by simp [n2.1]
                have y2 : ((k : Int) == d.cell) = false := by simp [hne]
                have y4 : (d.kind == 4) = true := by simp [n2.1]
                have y5 : ((k : Int) == d.to) = true := by simp [n2.2]
                have H2 := Lib.hid n2
                clear n1 n2 hne s6 k7
                go_wp2
                go_round
                case rel => exact ⟨k + 1, by omega, by go_num, by exact blkd, by exact blkd, by exact kpt⟩
                case measure => simp [intOf]; omega
              · have he := s6 (by simp only [namedB, k7, decide_false, Bool.false_or, Bool.or_eq_false_iff, Bool.and_eq_false_iff, Bool.not_eq_false', decide_eq_true_eq, decide_eq_false_iff_not]; omega)
                subst he
                clear s6
                by_cases m1 : d.kind = 1
                · have y1 : (d.kind != 1) = false := by simp [m1]
                  have y4 : (d.kind == 4) = false := by simp [m1]
                  have H2 := Lib.hid m1
                  clear n1 n2 k7 m1
                  go_wp2
                  go_round
                  case rel => exact ⟨k + 1, by omega, by go_num, by exact blkd, by exact blkd, by exact kpt⟩
                  case measure => simp [intOf]; omega
                · have y1 : (d.kind != 1) = true := by simp [m1]
                  have y2 : ((k : Int) == d.cell) = false := by simp; exact fun h => n1 ⟨m1, h⟩
                  by_cases m4 : d.kind = 4
                  · have y4 : (d.kind == 4) = true := by simp [m4]
                    have y5 : ((k : Int) == d.to) = false := by simp; exact fun h => n2 ⟨m4, h⟩
                    have H2 := Lib.hid m4
                    clear n1 n2 k7 m1 m4
                    go_wp2
                    go_round
                    case rel => exact ⟨k + 1, by omega, by go_num, by exact blkd, by exact blkd, by exact kpt⟩
                    case measure => simp [intOf]; omega
                  · have y4 : (d.kind == 4) = false := by simp [m4]
                    clear n1 n2 k7 m1 m4
                    go_wp2
                    go_round
                    case rel => exact ⟨k + 1, by omega, by go_num, by exact blkd, by exact blkd, by exact kpt⟩
                    case measure => simp [intOf]; omega
        · obtain rfl : k = Q.cells.length := by omega
          go_wp2
          go_ret
          exact ⟨rfl, hk.trans ((show Kept wc _ by exact kpt).mono hk.size)⟩

theorem law_GasKept (p : Plant) (d : Deed) (a : Option Addr) (cap : Nat) (w : World) (hx : Row Cell.cells 7 w.heap.size w a p.cells) (hc : p.cells.length ≤ cap) (hM : cap ≤ maxLen) (hz : a = none → cap = 0) (hu : 0 ≤ d.kind ∧ d.kind ≤ 255) : Calls Try.prog 10 #[.agg #[.slice a p.cells.length cap, .int .i64 p.bottles, .int .i64 p.inH, .int .i64 p.inA, .int .i64 p.vH, .int .i64 p.vA, .int .i64 p.lH, .int .i64 p.lA, .int .i64 p.pH, .int .i64 p.pA], .agg #[.int .u8 d.kind, .int .i64 d.cell, .int .i64 d.to, .int .i64 d.n]] w fun e w' => e = .returned (.bool true) ∧ Kept w w' := by
  cases hg : greatB p [d]
  · cases hp : plantB p
    · exact law_GasKept_chk p d a cap w hx hc hM hz hg hp
    · by_cases hr : doE p d = 0
      · exact law_GasKept_ok p d a cap w hx hc hM hz hg hp hu hr
      · exact law_GasKept_err p d a cap w hx hc hM hz hg hp hu hr
  · exact law_GasKept_great p d a cap w hx hc hM hz hg

end Go.Proofs.Ytemafanncejeiaa

/-
  GasKept, the statement: for every input the call returns true and leaves the input alone.
-/
namespace Go.Proofs.Ytemafanncejeiaa.gasKept
open Go.ChangeShapes Go.WideShapes Go.ChangeAt Go.RowKit Bal Bal.Trim Bal.Gas
open Go.ChangeMaps (open_string shut_string)
set_option linter.unusedVariables false

theorem own : ownKnob Try.prog.godebug = none := by kernel_rfl
theorem laidOut : laidOutB Try.prog = true := by kernel_rfl

set_option maxRecDepth 100000 in
theorem lifted (os : Os) (started : os.Started) (H : Type) (enc : TypeId × Value → H) :
    ReturnsInHanded {} Try.checked os 10 .any (Rows.gasKeptSpec.pre6 enc Try.prog Try.f10 Rows.gasKeptRow.domain false) (Rows.gasKeptSpec.post enc Try.prog Try.f10 false true false false) := by
  refine returnsInHanded_of_change (C := Try.checked) own started (by kernel_rfl) Try.func10
    (ChangeSpec.witness6 (enc := enc) (C := Try.checked) false ⟨#[], #[.agg #[.slice none 0 0, .int .i64 0, .int .i64 0, .int .i64 0, .int .i64 0, .int .i64 0, .int .i64 0, .int .i64 0, .int .i64 0, .int .i64 0], .agg #[.int .u8 0, .int .i64 0, .int .i64 0, .int .i64 0]], []⟩ 8 (by kernel_rfl) (by kernel_rfl) (by kernel_rfl) (by kernel_rfl)) ?_
  intro W base args ds gs before hval0 hW hcnd _
  have hval : ∀ (j : Nat) t v, Try.f10.params[j]? = some t → args[j]? = some v → Value.okWide Try.prog W .any base t v := hval0
  have hW' := hW
  obtain ⟨p, q, hA0, hV, rfl, hfz, hnd⟩ := hW
  have hA : DataW.TrodAll enc Try.prog W 0 (fun _ => true) true Try.f10.params.toList args.toList ds p := hA0
  rw [Try.params10] at hA hval
  obtain ⟨v0, vs0, d0, ds0, p0, q0, hargs, rfl, rfl, h0, r0⟩ := trodAll_cons hA
  obtain ⟨v1, vs1, d1, ds1, p1, q1, rfl, rfl, rfl, h1, r1⟩ := trodAll_cons r0
  obtain ⟨rfl, rfl, rfl⟩ := trodAll_nil r1
  obtain rfl : args = #[v0, v1] := by cases args; simp_all
  obtain ⟨rfl, rfl⟩ := trodVars_none hV
  have k0 := h0
  have lt0 : ∀ x ∈ p0, x.block < W.heap.size := by obtain ⟨m, hm⟩ := k0; exact DataW.trod_lt m _ _ _ hm
  obtain ⟨a0, c0, pl0, rfl, row0, hl0, hm0, z0⟩ := open_plant (hval 0 63 v0 rfl rfl) h0
  have k1 := h1
  have lt1 : ∀ x ∈ p1, x.block < W.heap.size := by obtain ⟨m, hm⟩ := k1; exact DataW.trod_lt m _ _ _ hm
  obtain ⟨a1, rfl, wf1⟩ := open_agg (n := 5) (fun _ h => Deed.of_leaves h) Try.underlying65 (by kernel_rfl) (hval 1 65 v1 rfl rfl) h1
  clear hA0 hval0
  refine (law_GasKept pl0 a1 a0 c0 W row0 hl0 hm0 z0 (wf_u8 wf1.1)).mono fun e W' ⟨he, bel⟩ => ?_
  subst he
  exact ⟨_, rfl, _, _, _, [], _, [], hW', trodAll_mk1 (shut_bool Try.underlying4 _), (trodAll_cons_mk (Below.trod laidOut (by kernel_rfl) (of_decide_eq_true (by kernel_rfl)) k0 bel lt0) (trodAll_cons_mk (Below.trod laidOut (by kernel_rfl) (of_decide_eq_true (by kernel_rfl)) k1 bel lt1) trodAll_mk0)), rfl, bel.frame _, fun h => by cases h⟩

theorem joined : joinedFacts Try.prog 10 Try.f10 Rows.gasKeptSpec Rows.gasKeptRow = true := by
  unfold joinedFacts
  rw [mayEnter_is, liftsFinal_is, make_is]
  kernel_rfl
theorem over : Rows.gasKeptRow.holds Try.pinned (OpenSpec.ofChange Rows.gasKeptSpec) :=
  OpenClaim.holds_of_wide 10 Try.f10 rfl rfl rfl rfl rfl rfl rfl ⟨rfl, rfl, rfl, rfl, rfl⟩ rfl rfl rfl rfl rfl (by kernel_rfl) Try.func10 joined
    (of_decide_eq_true (by kernel_rfl)) (by unfold Func.isWrapper; first | (rw [if_pos (by decide +kernel)]; kernel_rfl) | (rw [if_neg (by decide +kernel)]; exact ⟨rfl, rfl⟩))
    (fun os started H enc _ => lifted os started H enc)
end Go.Proofs.Ytemafanncejeiaa.gasKept

namespace Go.Proofs.Ytemafanncejeiaa
theorem gasKept_holds : Rows.GasKeptSaid := gasKept.over
#print axioms gasKept_holds
end Go.Proofs.Ytemafanncejeiaa
