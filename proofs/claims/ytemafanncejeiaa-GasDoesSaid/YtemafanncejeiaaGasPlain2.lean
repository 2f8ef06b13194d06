/-
  Volumes: the plain side.
-/
import Derived.Test.YtemafanncejeiaaGasPlain
namespace Bal.Gas
open Bal.Trim
def asked (c : Cell) (a : Air) : Int := if cellB c then checkAir a else 31
def volLo (c : Cell) (a : Air) : Int := amount c * heatLo c a / a.phi
def volHi (c : Cell) (a : Air) : Int := -((-(amount c * heatHi c a)) / a.plo)
def state (c : Cell) (a : Air) : Int := if amount c * heatHi c a ≤ c.room * a.plo then 1 else if c.room * a.phi < amount c * heatLo c a then 3 else 2
theorem div_le_div {a b c d : Int} (ha : 0 ≤ a) (hac : a ≤ c) (hd : 0 < d) (hdb : d ≤ b) : a / b ≤ c / d := by
  rw [Int.le_ediv_iff_mul_le hd]
  have h1 : 0 ≤ a / b := Int.ediv_nonneg ha (by omega)
  have h2 : a / b * d ≤ a / b * b := Int.mul_le_mul_of_nonneg_left hdb h1
  have h3 : a / b * b ≤ a := Int.ediv_mul_le a (by omega)
  omega
theorem up_le_up {a b c d : Int} (ha : 0 ≤ a) (hac : a ≤ c) (hd : 0 < d) (hdb : d ≤ b) : -((-a) / b) ≤ -((-c) / d) := by
  have : (-c) / d ≤ (-a) / b := by
    rw [Int.le_ediv_iff_mul_le (by omega : 0 < b)]
    have h1 : (-c) / d ≤ 0 := by
      have := Int.ediv_le_ediv hd (show -c ≤ 0 by omega)
      simpa using this
    have h2 : (-c) / d * b ≤ (-c) / d * d := by
      rw [← Int.neg_le_neg_iff, ← Int.neg_mul, ← Int.neg_mul]
      exact Int.mul_le_mul_of_nonneg_left hdb (by omega)
    have h3 : (-c) / d * d ≤ -c := Int.ediv_mul_le (-c) (by omega)
    omega
  omega
theorem leastLo_two (r s : Ratio) : leastLo [r, s] = min (down r) (down s) := rfl
theorem leastHi_two (r s : Ratio) : leastHi [r, s] = max (up r) (up s) := rfl
/-- the products of a valid cell in valid air -/
theorem prod_bd {c : Cell} {a : Air} (hc : cellB c = true) (ha : airB a = true) :
    0 ≤ amount c ∧ amount c ≤ 20000000 ∧ (0 ≤ amount c * heatLo c a ∧ amount c * heatLo c a ≤ amount c * heatHi c a ∧ amount c * heatHi c a ≤ 76000000000) ∧
    (0 ≤ c.room * a.plo ∧ c.room * a.plo ≤ 120000000000 ∧ 0 ≤ c.room * a.phi ∧ c.room * a.phi ≤ 120000000000) := by
  obtain ⟨h1, h2, h3, h4, h5, h6⟩ := cellB_iff.1 hc
  obtain ⟨h7, h8⟩ := airB_iff.1 ha
  have hn0 : 0 ≤ amount c := by unfold amount; omega
  have hn1 : amount c ≤ 20000000 := by unfold amount; omega
  have ht0 : 0 ≤ heatLo c a := by unfold heatLo; omega
  have ht1 : heatLo c a ≤ heatHi c a := by unfold heatLo heatHi; omega
  have ht2 : heatHi c a ≤ 3800 := by unfold heatHi; omega
  have p0 := Int.mul_nonneg hn0 ht0
  have p1 := Int.mul_le_mul_of_nonneg_left ht1 hn0
  have p2 := (mul_bd (A := 20000000) (B := 3800) (x := amount c) (y := heatHi c a) (by omega) hn1 (by omega) ht2).2
  have q0 := Int.mul_nonneg (show 0 ≤ c.room by omega) (show 0 ≤ a.plo by omega)
  have q1 := (mul_bd (A := 10000000) (B := 12000) (x := c.room) (y := a.plo) (by omega) (by omega) (by omega) (by omega)).2
  have r0 := Int.mul_nonneg (show 0 ≤ c.room by omega) (show 0 ≤ a.phi by omega)
  have r1 := (mul_bd (A := 10000000) (B := 12000) (x := c.room) (y := a.phi) (by omega) (by omega) (by omega) (by omega)).2
  refine ⟨hn0, hn1, ⟨p0, p1, by omega⟩, q0, by omega, r0, by omega⟩
theorem vol_lo {c : Cell} {a : Air} (hc : cellB c = true) (ha : airB a = true) : leastLo [⟨amount c * heatLo c a, a.phi⟩, ⟨amount c * heatHi c a, a.plo⟩] = volLo c a := by
  obtain ⟨_, _, ⟨p0, p1, _⟩, _⟩ := prod_bd hc ha
  obtain ⟨h7, h8⟩ := airB_iff.1 ha
  rw [leastLo_two]
  have := div_le_div p0 p1 (show 0 < a.plo by omega) h7.2.1
  simp only [down, volLo]
  omega
theorem vol_hi {c : Cell} {a : Air} (hc : cellB c = true) (ha : airB a = true) : leastHi [⟨amount c * heatLo c a, a.phi⟩, ⟨amount c * heatHi c a, a.plo⟩] = volHi c a := by
  obtain ⟨_, _, ⟨p0, p1, _⟩, _⟩ := prod_bd hc ha
  obtain ⟨h7, h8⟩ := airB_iff.1 ha
  rw [leastHi_two]
  have := up_le_up p0 p1 (show 0 < a.plo by omega) h7.2.1
  simp only [up, volHi]
  omega
/-- Go's quotient, mended: rounded down -/
theorem floor_eq {a b : Int} (hb : 0 < b) : (if a.tdiv b * b > a then a.tdiv b - 1 else a.tdiv b) = a / b := by
  by_cases ha : a < 0
  · have h := tdiv_down ha hb
    rw [← h]
    have h1 := Int.mul_tdiv_add_tmod a b
    have h2 : a.tmod b ≤ 0 := by
      have h4 := Int.tmod_nonneg b (a := -a) (by omega)
      rw [Int.neg_tmod] at h4
      omega
    have h3 : b * a.tdiv b = a.tdiv b * b := Int.mul_comm _ _
    by_cases h0 : a.tmod b = 0
    · rw [if_pos h0, if_neg (by omega)]
    · rw [if_neg h0, if_pos (by omega)]
  · rw [tdiv_pos (by omega)]
    have := Int.ediv_mul_le a (show b ≠ 0 by omega)
    rw [if_neg (by omega)]
theorem tdiv_bd {a b N : Int} (h : -N ≤ a) (h' : a ≤ N) (hb : 0 < b) (hN : 0 ≤ N) : (-N ≤ a.tdiv b ∧ a.tdiv b ≤ N) ∧ -N ≤ a.tdiv b * b ∧ a.tdiv b * b ≤ N := by
  have h1 := Int.mul_tdiv_add_tmod a b
  rw [Int.mul_comm] at h1
  by_cases ha : a < 0
  · have h4 := Int.tmod_nonneg b (a := -a) (by omega)
    have h5 : (-a).tmod b ≤ -a := by
      have := Int.mul_tdiv_add_tmod (-a) b
      have h6 : 0 ≤ (-a).tdiv b := Int.tdiv_nonneg (by omega) (by omega)
      have h7 := Int.mul_nonneg (show 0 ≤ b by omega) h6
      omega
    rw [Int.neg_tmod] at h4 h5
    have h8 : 0 ≤ (-a).tdiv b := Int.tdiv_nonneg (by omega) (by omega)
    rw [Int.neg_tdiv] at h8
    have h9 : (-(a.tdiv b)) * 1 ≤ (-(a.tdiv b)) * b := Int.mul_le_mul_of_nonneg_left (by omega) h8
    rw [Int.neg_mul, Int.neg_mul] at h9
    refine ⟨⟨?_, ?_⟩, ?_, ?_⟩ <;> omega
  · have h2 := Int.tmod_nonneg b (a := a) (by omega)
    have h3 : 0 ≤ a.tdiv b := Int.tdiv_nonneg (by omega) (by omega)
    have h9 : (a.tdiv b) * 1 ≤ (a.tdiv b) * b := Int.mul_le_mul_of_nonneg_left (by omega) h3
    have h10 := Int.mul_nonneg h3 (show 0 ≤ b by omega)
    refine ⟨⟨?_, ?_⟩, ?_, ?_⟩ <;> omega
theorem asked_ok {c : Cell} {a : Air} (hc : cellB c = true) (ha : airB a = true) : asked c a = 0 := by simp [asked, checkAir, hc, ha]
theorem asked_air {c : Cell} {a : Air} (hc : cellB c = true) (ha : airB a = false) : asked c a = 30 := by simp [asked, checkAir, hc, ha]
theorem asked_cell {c : Cell} {a : Air} (hc : cellB c = false) : asked c a = 31 := by simp [asked, hc]
end Bal.Gas
