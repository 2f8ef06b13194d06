/-
  The plain side of the gas statements: cells, air, hulls, and what is computed of them. No program in sight.
-/
import Derived.Test.YtemafanncejeiaaTrimPlain2
namespace Bal.Gas
open Bal.Trim

structure Cell where
  room : Int
  helium : Int
  air : Int
  wlo : Int
  whi : Int
  leak : Int
  owed : Int
  deriving DecidableEq, Inhabited
structure Air where
  plo : Int
  phi : Int
  tlo : Int
  thi : Int
  deriving DecidableEq, Inhabited
structure Hull where
  room : Int
  gas : Int
  ballonet : Int
  bag : Int
  wlo : Int
  whi : Int
  least : Int
  most : Int
  deriving DecidableEq, Inhabited
structure Ratio where
  num : Int
  den : Int
  deriving DecidableEq, Inhabited

def rng (xs : List Int) (lo hi : Int) : Bool := xs.all (fun n => inB n lo hi)
def spanIn (x y lo hi : Int) : Bool := rng [x, y] lo hi && decide (x ≤ y)
def airB (a : Air) : Bool := spanIn a.plo a.phi 1000 12000 && spanIn a.tlo a.thi 1500 3500
def checkAir (a : Air) : Int := if airB a then 0 else 30
def cellFits (c : Cell) : Bool := rng [c.room] 1 10000000 && rng [c.helium, c.air] 0 10000000 && rng [c.leak] 0 100000 && rng [c.owed] 0 999999
def cellB (c : Cell) : Bool := cellFits c && spanIn c.wlo c.whi (-300) 300
def checkCell (c : Cell) : Int := if cellB c then 0 else 31
def down (r : Ratio) : Int := r.num / r.den
def up (r : Ratio) : Int := -((-r.num) / r.den)
def leastLo (rs : List Ratio) : Int := lmin (rs.map down)
def leastHi (rs : List Ratio) : Int := lmax (rs.map up)
def amount (c : Cell) : Int := c.helium + c.air
def heatLo (c : Cell) (a : Air) : Int := a.tlo + c.wlo
def heatHi (c : Cell) (a : Air) : Int := a.thi + c.whi

theorem leastLo_snoc {xs : List Ratio} (r : Ratio) (h : xs ≠ []) : leastLo (xs ++ [r]) = min (leastLo xs) (down r) := by
  cases xs with
  | nil => exact absurd rfl h
  | cons x xs => simp [leastLo, lmin, List.foldl_append]
theorem leastHi_snoc {xs : List Ratio} (r : Ratio) (h : xs ≠ []) : leastHi (xs ++ [r]) = max (leastHi xs) (up r) := by
  cases xs with
  | nil => exact absurd rfl h
  | cons x xs => simp [leastHi, lmax, List.foldl_append]
theorem inB_iff {n lo hi : Int} : inB n lo hi = true ↔ lo ≤ n ∧ n ≤ hi := by simp [inB]
theorem airB_iff {a : Air} : airB a = true ↔ (1000 ≤ a.plo ∧ a.plo ≤ a.phi ∧ a.phi ≤ 12000) ∧ (1500 ≤ a.tlo ∧ a.tlo ≤ a.thi ∧ a.thi ≤ 3500) := by
  simp [airB, spanIn, rng, inB]; omega
theorem cellB_iff {c : Cell} : cellB c = true ↔ (1 ≤ c.room ∧ c.room ≤ 10000000) ∧ (0 ≤ c.helium ∧ c.helium ≤ 10000000) ∧ (0 ≤ c.air ∧ c.air ≤ 10000000) ∧ (0 ≤ c.leak ∧ c.leak ≤ 100000) ∧ (0 ≤ c.owed ∧ c.owed ≤ 999999) ∧ (-300 ≤ c.wlo ∧ c.wlo ≤ c.whi ∧ c.whi ≤ 300) := by
  simp [cellB, cellFits, spanIn, rng, inB]; omega

/-- Go's quotient and remainder of a negative number -/
theorem tdiv_down {a b : Int} (ha : a < 0) (hb : 0 < b) : (if a.tmod b = 0 then a.tdiv b else a.tdiv b - 1) = a / b := by
  have h1 := Int.mul_tdiv_add_tmod a b
  have h2 : -b < a.tmod b ∧ a.tmod b ≤ 0 := by
    have h3 := Int.tmod_lt_of_pos (-a) hb
    have h4 := Int.tmod_nonneg b (a := -a) (by omega)
    rw [Int.neg_tmod] at h3 h4
    omega
  generalize a.tdiv b = q at *
  generalize a.tmod b = r at *
  split
  · rename_i h0
    subst h0
    rw [← h1, Int.add_zero, Int.mul_ediv_cancel_left _ (by omega)]
  · have e : a = (b + r) + b * (q - 1) := by rw [← h1, Int.mul_sub, Int.mul_one]; omega
    rw [e, Int.add_mul_ediv_left _ _ (by omega), Int.ediv_eq_zero_of_lt (by omega) (by omega)]
    omega
theorem tdiv_pos {a b : Int} (ha : 0 ≤ a) : a.tdiv b = a / b := Int.tdiv_eq_ediv_of_nonneg ha
theorem div_bd {a b N : Int} (h : -N ≤ a) (h' : a ≤ N) (hb : 0 < b) (hN : 0 ≤ N) : -N ≤ a / b ∧ a / b ≤ N := by
  constructor
  · rw [Int.le_ediv_iff_mul_le hb]
    have : N * 1 ≤ N * b := Int.mul_le_mul_of_nonneg_left (by omega) hN
    rw [Int.neg_mul]; omega
  · by_cases h0 : 0 ≤ a
    · have := Int.ediv_le_self b h0; omega
    · have := Int.ediv_neg_of_neg_of_pos (by omega : a < 0) hb; omega
end Bal.Gas
