/-
  Lifts, ceilings and valving: the plain side.
-/
import Derived.Test.YtemafanncejeiaaGasPlain2
namespace Bal.Gas
open Bal.Trim
def pull (c : Cell) (x : Int) : Int := 29 * amount c * x
def liftLo (c : Cell) (a : Air) : Int := 25 * c.helium + min (pull c c.wlo / a.tlo) (pull c c.wlo / a.thi)
def liftHi (c : Cell) (a : Air) : Int := 25 * c.helium + max (-((-(pull c c.whi)) / a.tlo)) (-((-(pull c c.whi)) / a.thi))
def liftR (c : Cell) (a : Air) : List Ratio := [⟨pull c c.wlo, a.tlo⟩, ⟨pull c c.wlo, a.thi⟩, ⟨pull c c.whi, a.tlo⟩, ⟨pull c c.whi, a.thi⟩]
theorem leastLo_four (p q r s : Ratio) : leastLo [p, q, r, s] = min (min (min (down p) (down q)) (down r)) (down s) := rfl
theorem leastHi_four (p q r s : Ratio) : leastHi [p, q, r, s] = max (max (max (up p) (up q)) (up r)) (up s) := rfl
theorem pull_bd {c : Cell} {x : Int} (hc : cellB c = true) (hx : -300 ≤ x ∧ x ≤ 300) : -174000000000 ≤ pull c x ∧ pull c x ≤ 174000000000 := by
  obtain ⟨h1, h2, h3, h4, h5, h6⟩ := cellB_iff.1 hc
  have := mul_bd (A := 580000000) (B := 300) (x := 29 * amount c) (y := x) (by unfold amount; omega) (by unfold amount; omega) (by omega) (by omega)
  unfold pull
  omega
theorem pull_le {c : Cell} (hc : cellB c = true) : pull c c.wlo ≤ pull c c.whi := by
  obtain ⟨h1, h2, h3, h4, h5, h6⟩ := cellB_iff.1 hc
  exact Int.mul_le_mul_of_nonneg_left h6.2.1 (by unfold amount; omega)
theorem lift_lo {c : Cell} {a : Air} (hc : cellB c = true) (ha : airB a = true) : leastLo (liftR c a) + 25 * c.helium = liftLo c a := by
  obtain ⟨_, h8⟩ := airB_iff.1 ha
  have h := pull_le hc
  have d1 := Int.ediv_le_ediv (show 0 < a.tlo by omega) h
  have d2 := Int.ediv_le_ediv (show 0 < a.thi by omega) h
  unfold liftR liftLo
  rw [leastLo_four]
  simp only [down]
  omega
theorem lift_hi {c : Cell} {a : Air} (hc : cellB c = true) (ha : airB a = true) : leastHi (liftR c a) + 25 * c.helium = liftHi c a := by
  obtain ⟨_, h8⟩ := airB_iff.1 ha
  have h := pull_le hc
  have d1 := Int.ediv_le_ediv (show 0 < a.tlo by omega) (Int.neg_le_neg h)
  have d2 := Int.ediv_le_ediv (show 0 < a.thi by omega) (Int.neg_le_neg h)
  unfold liftR liftHi
  rw [leastHi_four]
  simp only [up]
  omega
def ceilLo (c : Cell) (x : Int) : Int := amount c * (x + c.wlo) / c.room
def ceilHi (c : Cell) (y : Int) : Int := -((-(amount c * (y + c.whi))) / c.room)
theorem spanIn_iff {x y lo hi : Int} : spanIn x y lo hi = true ↔ lo ≤ x ∧ x ≤ y ∧ y ≤ hi := by
  simp [spanIn, rng, inB]; omega
theorem ceil_bd {c : Cell} {x y : Int} (hc : cellB c = true) (hs : spanIn x y 1500 3500 = true) :
    (0 ≤ amount c ∧ amount c ≤ 20000000) ∧ 0 ≤ amount c * (x + c.wlo) ∧ amount c * (x + c.wlo) ≤ amount c * (y + c.whi) ∧ amount c * (y + c.whi) ≤ 76000000000 := by
  obtain ⟨h1, h2, h3, h4, h5, h6⟩ := cellB_iff.1 hc
  obtain ⟨s1, s2, s3⟩ := spanIn_iff.1 hs
  have hn0 : 0 ≤ amount c := by unfold amount; omega
  have hn1 : amount c ≤ 20000000 := by unfold amount; omega
  refine ⟨⟨hn0, hn1⟩, Int.mul_nonneg hn0 (by omega), Int.mul_le_mul_of_nonneg_left (by omega) hn0, ?_⟩
  have := (mul_bd (A := 20000000) (B := 3800) (x := amount c) (y := y + c.whi) (by omega) hn1 (by omega) (by omega)).2
  omega
theorem ceil_lo {c : Cell} {x y : Int} (hc : cellB c = true) (hs : spanIn x y 1500 3500 = true) : leastLo [⟨amount c * (x + c.wlo), c.room⟩, ⟨amount c * (y + c.whi), c.room⟩] = ceilLo c x := by
  obtain ⟨_, p0, p1, _⟩ := ceil_bd hc hs
  have := cellB_iff.1 hc
  have d1 := Int.ediv_le_ediv (show 0 < c.room by omega) p1
  rw [leastLo_two]
  simp only [down, ceilLo]
  omega
theorem ceil_hi {c : Cell} {x y : Int} (hc : cellB c = true) (hs : spanIn x y 1500 3500 = true) : leastHi [⟨amount c * (x + c.wlo), c.room⟩, ⟨amount c * (y + c.whi), c.room⟩] = ceilHi c y := by
  obtain ⟨_, p0, p1, _⟩ := ceil_bd hc hs
  have := cellB_iff.1 hc
  have d1 := Int.ediv_le_ediv (show 0 < c.room by omega) (Int.neg_le_neg p1)
  rw [leastHi_two]
  simp only [up, ceilHi]
  omega
def valveLo (c : Cell) (a : Air) : Int := max (amount c - c.room * a.phi / heatLo c a) 0
def valveHi (c : Cell) (a : Air) : Int := max (amount c - c.room * a.plo / heatHi c a) 0
end Bal.Gas
