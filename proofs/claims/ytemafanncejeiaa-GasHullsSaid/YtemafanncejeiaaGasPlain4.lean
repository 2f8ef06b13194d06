/-
  Hulls: the plain side.
-/
import Derived.Test.YtemafanncejeiaaGasPlain3
namespace Bal.Gas
open Bal.Trim
/-- a hull, its fields in the program's order -/
structure Hl where
  room : Int
  gas : Int
  wlo : Int
  whi : Int
  ballonet : Int
  bag : Int
  least : Int
  most : Int
  deriving DecidableEq, Inhabited
def hullB (h : Hl) : Bool := rng [h.room] 1 10000000 && rng [h.gas, h.bag] 0 10000000 && rng [h.ballonet] 0 h.bag && rng [h.least, h.most] 0 500 && decide (h.least ≤ h.most) && spanIn h.wlo h.whi (-300) 300
theorem hullB_iff {h : Hl} : hullB h = true ↔ (1 ≤ h.room ∧ h.room ≤ 10000000) ∧ (0 ≤ h.gas ∧ h.gas ≤ 10000000) ∧ (0 ≤ h.ballonet ∧ h.ballonet ≤ h.bag ∧ h.bag ≤ 10000000) ∧ (0 ≤ h.least ∧ h.least ≤ h.most ∧ h.most ≤ 500) ∧ (-300 ≤ h.wlo ∧ h.wlo ≤ h.whi ∧ h.whi ≤ 300) := by
  simp [hullB, spanIn, rng, inB]; omega
/-- the reference's own words for it -/
def hullR (h : Hl) : Bool := inB h.room 1 10000000 && inB h.gas 0 10000000 && inB h.bag 0 10000000 && inB h.ballonet 0 h.bag && spanIn h.wlo h.whi (-300) 300 && inB h.least 0 h.most && decide (h.most ≤ 500)
theorem hullR_eq (h : Hl) : hullR h = hullB h := by
  rw [Bool.eq_iff_iff, hullB_iff]
  simp [hullR, spanIn, rng, inB]; omega
def checkHull (h : Hl) : Int := if hullB h then 0 else 33
def hung (h : Hl) (a : Air) : Int := if hullB h then checkAir a else 33
theorem hung_ok {h : Hl} {a : Air} (hc : hullB h = true) (ha : airB a = true) : hung h a = 0 := by simp [hung, checkAir, hc, ha]
theorem hung_air {h : Hl} {a : Air} (hc : hullB h = true) (ha : airB a = false) : hung h a = 30 := by simp [hung, checkAir, hc, ha]
theorem hung_hull {h : Hl} {a : Air} (hc : hullB h = false) : hung h a = 33 := by simp [hung, hc]
def pressLo (h : Hl) (x : Int) : Int := (h.gas + h.ballonet) * x + h.gas * h.wlo
def pressHi (h : Hl) (y : Int) : Int := (h.gas + h.ballonet) * y + h.gas * h.whi
/-- a hull whose ballonet is empty -/
abbrev bare (h : Hl) : Hl := { h with ballonet := 0 }
theorem bare_B {h : Hl} (hc : hullB h = true) : hullB (bare h) = true := by
  obtain ⟨h1, h2, h3, h4, h5⟩ := hullB_iff.1 hc
  exact hullB_iff.2 ⟨h1, h2, ⟨Int.le_refl _, by show (0 : Int) ≤ h.bag; omega, h3.2.2⟩, h4, h5⟩
/-- the products of a valid hull -/
theorem press_bd {h : Hl} {x y : Int} (hc : hullB h = true) (hx : 1500 ≤ x ∧ x ≤ y ∧ y ≤ 3500) :
    (0 ≤ h.gas + h.ballonet ∧ h.gas + h.ballonet ≤ 20000000) ∧ (0 ≤ (h.gas + h.ballonet) * x ∧ (h.gas + h.ballonet) * x ≤ (h.gas + h.ballonet) * y ∧ (h.gas + h.ballonet) * y ≤ 70000000000) ∧
    (-3000000000 ≤ h.gas * h.wlo ∧ h.gas * h.wlo ≤ h.gas * h.whi ∧ h.gas * h.whi ≤ 3000000000) := by
  obtain ⟨h1, h2, h3, h4, h5⟩ := hullB_iff.1 hc
  have p1 := mul_bd (A := 20000000) (B := 3500) (x := h.gas + h.ballonet) (y := y) (by omega) (by omega) (by omega) (by omega)
  have p2 := mul_bd (A := 10000000) (B := 300) (x := h.gas) (y := h.wlo) (by omega) (by omega) (by omega) (by omega)
  have p3 := mul_bd (A := 10000000) (B := 300) (x := h.gas) (y := h.whi) (by omega) (by omega) (by omega) (by omega)
  refine ⟨by omega, ⟨Int.mul_nonneg (by omega) (by omega), Int.mul_le_mul_of_nonneg_left (by omega) (by omega), by omega⟩, by omega, Int.mul_le_mul_of_nonneg_left (by omega) (by omega), by omega⟩
theorem room_bd {h : Hl} {p : Int} (hc : hullB h = true) (hp : 0 ≤ p ∧ p ≤ 12500) : 0 ≤ p * h.room ∧ p * h.room ≤ 125000000000 := by
  obtain ⟨h1, _⟩ := hullB_iff.1 hc
  have p1 := mul_bd (A := 12500) (B := 10000000) (x := p) (y := h.room) (by omega) (by omega) (by omega) (by omega)
  exact ⟨Int.mul_nonneg (by omega) (by omega), by omega⟩
def overLo (h : Hl) (a : Air) : Int := pressLo h a.tlo / h.room - a.phi
def overHi (h : Hl) (a : Air) : Int := -((-pressHi h a.thi) / h.room) - a.plo
theorem over_lo {h : Hl} {a : Air} (hc : hullB h = true) (ha : airB a = true) : leastLo [⟨pressLo h a.tlo - a.phi * h.room, h.room⟩, ⟨pressHi h a.thi - a.plo * h.room, h.room⟩] = overLo h a := by
  obtain ⟨h1, _⟩ := hullB_iff.1 hc
  obtain ⟨h7, h8⟩ := airB_iff.1 ha
  obtain ⟨_, p, q⟩ := press_bd hc h8
  have m : a.plo * h.room ≤ a.phi * h.room := Int.mul_le_mul_of_nonneg_right (by omega) (by omega)
  have d := Int.ediv_le_ediv (show 0 < h.room by omega) (show pressLo h a.tlo - a.phi * h.room ≤ pressHi h a.thi - a.plo * h.room by unfold pressLo pressHi; omega)
  rw [leastLo_two]
  simp only [down, overLo]
  have e : (pressLo h a.tlo - a.phi * h.room) / h.room = pressLo h a.tlo / h.room - a.phi := by
    rw [Int.sub_eq_add_neg, ← Int.neg_mul, Int.add_mul_ediv_right _ _ (by omega)]
    omega
  omega
theorem over_hi {h : Hl} {a : Air} (hc : hullB h = true) (ha : airB a = true) : leastHi [⟨pressLo h a.tlo - a.phi * h.room, h.room⟩, ⟨pressHi h a.thi - a.plo * h.room, h.room⟩] = overHi h a := by
  obtain ⟨h1, _⟩ := hullB_iff.1 hc
  obtain ⟨h7, h8⟩ := airB_iff.1 ha
  obtain ⟨_, p, q⟩ := press_bd hc h8
  have m : a.plo * h.room ≤ a.phi * h.room := Int.mul_le_mul_of_nonneg_right (by omega) (by omega)
  have d := Int.ediv_le_ediv (show 0 < h.room by omega) (show -(pressHi h a.thi - a.plo * h.room) ≤ -(pressLo h a.tlo - a.phi * h.room) by unfold pressLo pressHi; omega)
  rw [leastHi_two]
  simp only [up, overHi]
  have e : (-(pressHi h a.thi - a.plo * h.room)) / h.room = (-pressHi h a.thi) / h.room + a.plo := by
    rw [show -(pressHi h a.thi - a.plo * h.room) = -pressHi h a.thi + a.plo * h.room by omega, Int.add_mul_ediv_right _ _ (by omega)]
  omega
def holdsB (h : Hl) (a : Air) : Bool := decide ((a.phi + h.least) * h.room ≤ pressLo h a.tlo) && decide (pressHi h a.thi ≤ (a.plo + h.most) * h.room)
def blowLo (h : Hl) (a : Air) : Int := max (-((-((a.phi + h.least) * h.room - pressLo (bare h) a.tlo)) / a.tlo)) 0
def blowHi (h : Hl) (a : Air) : Int := min (((a.plo + h.most) * h.room - pressHi (bare h) a.thi) / a.thi) h.bag
/-- the reference's own way to them -/
theorem blow_lo {h : Hl} {a : Air} (ha : airB a = true) : blowLo h a = max (-((-((h.least + a.phi) * h.room - h.gas * h.wlo)) / a.tlo) - h.gas) 0 := by
  obtain ⟨h7, h8⟩ := airB_iff.1 ha
  have e : (-((a.phi + h.least) * h.room - pressLo (bare h) a.tlo)) / a.tlo = (-((h.least + a.phi) * h.room - h.gas * h.wlo)) / a.tlo + h.gas := by
    rw [← Int.add_mul_ediv_right _ _ (show a.tlo ≠ 0 by omega)]
    congr 1
    simp only [pressLo, bare, Int.add_zero]
    rw [Int.add_comm a.phi]
    omega
  unfold blowLo
  omega
theorem blow_hi {h : Hl} {a : Air} (ha : airB a = true) : blowHi h a = min (((h.most + a.plo) * h.room - h.gas * h.whi) / a.thi - h.gas) h.bag := by
  obtain ⟨h7, h8⟩ := airB_iff.1 ha
  have e : ((h.most + a.plo) * h.room - h.gas * h.whi) / a.thi = ((a.plo + h.most) * h.room - pressHi (bare h) a.thi) / a.thi + h.gas := by
    rw [← Int.add_mul_ediv_right _ _ (show a.thi ≠ 0 by omega)]
    congr 1
    simp only [pressHi, bare, Int.add_zero]
    rw [Int.add_comm a.plo]
    omega
  unfold blowHi
  omega
/-- the first of the first n numbers of which f is true -/
def firstOf (f : Nat → Bool) (n : Nat) : Option Nat := (List.range n).find? f
theorem firstOf_some {f : Nat → Bool} {n k : Nat} (hk : k < n) (hb : ∀ j, j < k → f j = false) (h : f k = true) : firstOf f n = some k := by
  unfold firstOf
  rw [List.find?_range_eq_some]
  exact ⟨h, by simpa using hk, fun j hj => by simp [hb j hj]⟩
theorem firstOf_none {f : Nat → Bool} {n : Nat} (hb : ∀ j, j < n → f j = false) : firstOf f n = none := by
  unfold firstOf
  rw [List.find?_range_eq_none]
  intro j hj
  simp [hb j hj]
abbrev calm (x y p : Int) : Air := ⟨p, p, x, y⟩
theorem calm_B {x y p : Int} (hs : spanIn x y 1500 3500 = true) (hp : 1000 ≤ p ∧ p ≤ 12000) : airB (calm x y p) = true := by
  obtain ⟨s1, s2, s3⟩ := spanIn_iff.1 hs
  exact airB_iff.2 ⟨⟨hp.1, Int.le_refl _, hp.2⟩, s1, s2, s3⟩
def roofs (h : Hl) (x y : Int) (k : Nat) : Bool := decide (blowLo h (calm x y (1000 + k)) ≤ blowHi h (calm x y (1000 + k)))
def roof (h : Hl) (x y : Int) : Option Nat := firstOf (roofs h x y) 11001
def roofN (o : Option Nat) : Int := match o with | some k => 1000 + k | none => 0
def roofE (o : Option Nat) : Int := match o with | some _ => 0 | none => 6
/-! What the functions answer, errors and all. -/
def ifOk (e x : Int) : Int := if e = 0 then x else 0
theorem ifOk_ok (x : Int) : ifOk 0 x = x := rfl
def blowE (h : Hl) (a : Air) : Int := if hung h a = 0 then (if blowHi h a < blowLo h a then 6 else 0) else hung h a
def roofCE (h : Hl) (x y : Int) : Int := if hullB h = true then (if spanIn x y 1500 3500 = true then roofE (roof h x y) else 2) else 33
def roofCN (h : Hl) (x y : Int) : Int := if hullB h = true then (if spanIn x y 1500 3500 = true then roofN (roof h x y) else 0) else 0
theorem roofs_some {h : Hl} {x y : Int} {k : Nat} (hk : k < 11001) (hb : ∀ j, j < k → roofs h x y j = false) (hh : roofs h x y k = true) : roofN (roof h x y) = 1000 + k ∧ roofE (roof h x y) = 0 := by
  have : roof h x y = some k := firstOf_some hk hb hh
  rw [this]; exact ⟨rfl, rfl⟩
theorem roofs_none {h : Hl} {x y : Int} (hb : ∀ j, j < 11001 → roofs h x y j = false) : roofN (roof h x y) = 0 ∧ roofE (roof h x y) = 6 := by
  have : roof h x y = none := firstOf_none hb
  rw [this]; exact ⟨rfl, rfl⟩
end Bal.Gas
