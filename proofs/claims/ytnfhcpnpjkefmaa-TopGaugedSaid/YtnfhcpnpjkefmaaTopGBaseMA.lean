/-
  The plain side of the trim statements: what loads, limits, frames and the rest are, and what is asked of them. No program in sight.
-/

set_option linter.unusedVariables false
set_option linter.unusedSimpArgs false
/-
  The plain side of the trim statements: what loads, limits, frames and the rest are, and what is asked of them. No program in sight.
-/
namespace Bal.Trim

def inB (n lo hi : Int) : Bool := decide (lo ≤ n) && decide (n ≤ hi)
def great (a b c d : Int) : Bool := decide (50 < a) || decide (50 < b) || decide (50 < c) || decide (50 < d)

theorem take_all {α : Type} {valid : α → Bool} {xs : List α} {k : Nat} (hk : k < xs.length) (h : (xs.take k).all valid = true) (h' : valid xs[k] = true) : (xs.take (k + 1)).all valid = true := by
  rw [List.take_succ_eq_append_getElem hk, List.all_append, h]
  simp [h']
end Bal.Trim

/-
  Sums, products, least and greatest: plain Lean.
-/
namespace Bal.Trim
/-! ### Sums and products -/
def sumBy {α : Type} (g : α → Int) (xs : List α) : Int := xs.foldr (fun x s => g x + s) 0
@[simp] theorem sumBy_nil {α : Type} (g : α → Int) : sumBy g [] = 0 := rfl
theorem sumBy_cons {α : Type} (g : α → Int) (x : α) (xs : List α) : sumBy g (x :: xs) = g x + sumBy g xs := rfl
theorem sumBy_append {α : Type} (g : α → Int) (xs ys : List α) : sumBy g (xs ++ ys) = sumBy g xs + sumBy g ys := by
  induction xs with
  | nil => simp
  | cons x xs ih => simp only [List.cons_append, sumBy_cons, ih]; omega
theorem sumBy_take {α : Type} (g : α → Int) (xs : List α) (k : Nat) (hk : k < xs.length) : sumBy g (xs.take (k + 1)) = sumBy g (xs.take k) + g xs[k] := by
  rw [List.take_succ_eq_append_getElem hk, sumBy_append, sumBy_cons, sumBy_nil]; omega
theorem sumBy_bd {α : Type} (g : α → Int) (M : Int) (xs : List α) (h : ∀ x ∈ xs, -M ≤ g x ∧ g x ≤ M) : -(M * xs.length) ≤ sumBy g xs ∧ sumBy g xs ≤ M * xs.length := by
  induction xs with
  | nil => simp
  | cons x xs ih =>
    have h1 := ih (fun y hy => h y (by simp [hy]))
    have h2 := h x (by simp)
    rw [sumBy_cons, List.length_cons]
    have e : M * ((xs.length + 1 : Nat) : Int) = M * (xs.length : Int) + M := by rw [Int.natCast_add, Int.mul_add]; simp
    rw [e]
    omega
/-- the sum of the first k of at most n terms, each from -M to M -/
theorem sumBy_take_bd {α : Type} (g : α → Int) (M N : Int) (xs : List α) (n : Nat) (hn : xs.length ≤ n) (hM : 0 ≤ M) (hN : M * n ≤ N) (h : ∀ x ∈ xs, -M ≤ g x ∧ g x ≤ M) (k : Nat) : -N ≤ sumBy g (xs.take k) ∧ sumBy g (xs.take k) ≤ N := by
  have h1 := sumBy_bd g M (xs.take k) (fun x hx => h x (List.mem_of_mem_take hx))
  have h2 : M * ((xs.take k).length : Int) ≤ M * (n : Int) := Int.mul_le_mul_of_nonneg_left (by have : (xs.take k).length ≤ n := by rw [List.length_take]; omega
                                                                                                omega) hM
  omega
theorem mul_bd {x y A B : Int} (hx : -A ≤ x) (hx' : x ≤ A) (hy : -B ≤ y) (hy' : y ≤ B) : -(A * B) ≤ x * y ∧ x * y ≤ A * B := by
  have h1 : x.natAbs ≤ A.toNat := by omega
  have h2 : y.natAbs ≤ B.toNat := by omega
  have h3 := Nat.mul_le_mul h1 h2
  rw [← Int.natAbs_mul] at h3
  have h4 : ((A.toNat * B.toNat : Nat) : Int) = A * B := by
    rw [Int.natCast_mul, Int.toNat_of_nonneg (by omega), Int.toNat_of_nonneg (by omega)]
  omega
theorem ite_min (a b : Int) : (if b < a then b else a) = min a b := by split <;> omega
theorem ite_max (a b : Int) : (if a < b then b else a) = max a b := by split <;> omega
def lmin : List Int → Int
  | [] => 0
  | x :: xs => xs.foldl min x
def lmax : List Int → Int
  | [] => 0
  | x :: xs => xs.foldl max x
/-- a result, if there is no error -/
def ifOk (e v : Int) : Int := if e = 0 then v else 0
end Bal.Trim

/-
  The plain side of the gas statements: cells, air, hulls, and what is computed of them. No program in sight.
-/
namespace Bal.Gas
open Bal.Trim

structure Cell where
  room : Int
  helium : Int
  air : Int
  wlo : Int
  whi : Int
  leak : Int
  owed : Int
  deriving DecidableEq, Inhabited
structure Air where
  plo : Int
  phi : Int
  tlo : Int
  thi : Int
  deriving DecidableEq, Inhabited
structure Hull where
  room : Int
  gas : Int
  ballonet : Int
  bag : Int
  wlo : Int
  whi : Int
  least : Int
  most : Int
  deriving DecidableEq, Inhabited
structure Ratio where
  num : Int
  den : Int
  deriving DecidableEq, Inhabited

def rng (xs : List Int) (lo hi : Int) : Bool := xs.all (fun n => inB n lo hi)
def spanIn (x y lo hi : Int) : Bool := rng [x, y] lo hi && decide (x ≤ y)
def airB (a : Air) : Bool := spanIn a.plo a.phi 1000 12000 && spanIn a.tlo a.thi 1500 3500
def checkAir (a : Air) : Int := if airB a then 0 else 30
def cellFits (c : Cell) : Bool := rng [c.room] 1 10000000 && rng [c.helium, c.air] 0 10000000 && rng [c.leak] 0 100000 && rng [c.owed] 0 999999
def cellB (c : Cell) : Bool := cellFits c && spanIn c.wlo c.whi (-300) 300
def checkCell (c : Cell) : Int := if cellB c then 0 else 31
def down (r : Ratio) : Int := r.num / r.den
def up (r : Ratio) : Int := -((-r.num) / r.den)
def leastLo (rs : List Ratio) : Int := lmin (rs.map down)
def leastHi (rs : List Ratio) : Int := lmax (rs.map up)
def amount (c : Cell) : Int := c.helium + c.air
def heatLo (c : Cell) (a : Air) : Int := a.tlo + c.wlo
def heatHi (c : Cell) (a : Air) : Int := a.thi + c.whi

theorem leastLo_snoc {xs : List Ratio} (r : Ratio) (h : xs ≠ []) : leastLo (xs ++ [r]) = min (leastLo xs) (down r) := by
  cases xs with
  | nil => exact absurd rfl h
  | cons x xs => simp [leastLo, lmin, List.foldl_append]
theorem leastHi_snoc {xs : List Ratio} (r : Ratio) (h : xs ≠ []) : leastHi (xs ++ [r]) = max (leastHi xs) (up r) := by
  cases xs with
  | nil => exact absurd rfl h
  | cons x xs => simp [leastHi, lmax, List.foldl_append]
theorem inB_iff {n lo hi : Int} : inB n lo hi = true ↔ lo ≤ n ∧ n ≤ hi := by simp [inB]
theorem airB_iff {a : Air} : airB a = true ↔ (1000 ≤ a.plo ∧ a.plo ≤ a.phi ∧ a.phi ≤ 12000) ∧ (1500 ≤ a.tlo ∧ a.tlo ≤ a.thi ∧ a.thi ≤ 3500) := by
  simp [airB, spanIn, rng, inB]; omega
theorem cellB_iff {c : Cell} : cellB c = true ↔ (1 ≤ c.room ∧ c.room ≤ 10000000) ∧ (0 ≤ c.helium ∧ c.helium ≤ 10000000) ∧ (0 ≤ c.air ∧ c.air ≤ 10000000) ∧ (0 ≤ c.leak ∧ c.leak ≤ 100000) ∧ (0 ≤ c.owed ∧ c.owed ≤ 999999) ∧ (-300 ≤ c.wlo ∧ c.wlo ≤ c.whi ∧ c.whi ≤ 300) := by
  simp [cellB, cellFits, spanIn, rng, inB]; omega

/-- Go's quotient and remainder of a negative number -/
theorem tdiv_down {a b : Int} (ha : a < 0) (hb : 0 < b) : (if a.tmod b = 0 then a.tdiv b else a.tdiv b - 1) = a / b := by
  have h1 := Int.mul_tdiv_add_tmod a b
  have h2 : -b < a.tmod b ∧ a.tmod b ≤ 0 := by
    have h3 := Int.tmod_lt_of_pos (-a) hb
    have h4 := Int.tmod_nonneg b (a := -a) (by omega)
    rw [Int.neg_tmod] at h3 h4
    omega
  generalize a.tdiv b = q at *
  generalize a.tmod b = r at *
  split
  · rename_i h0
    subst h0
    rw [← h1, Int.add_zero, Int.mul_ediv_cancel_left _ (by omega)]
  · have e : a = (b + r) + b * (q - 1) := by rw [← h1, Int.mul_sub, Int.mul_one]; omega
    rw [e, Int.add_mul_ediv_left _ _ (by omega), Int.ediv_eq_zero_of_lt (by omega) (by omega)]
    omega
theorem tdiv_pos {a b : Int} (ha : 0 ≤ a) : a.tdiv b = a / b := Int.tdiv_eq_ediv_of_nonneg ha
theorem div_bd {a b N : Int} (h : -N ≤ a) (h' : a ≤ N) (hb : 0 < b) (hN : 0 ≤ N) : -N ≤ a / b ∧ a / b ≤ N := by
  constructor
  · rw [Int.le_ediv_iff_mul_le hb]
    have : N * 1 ≤ N * b := Int.mul_le_mul_of_nonneg_left (by omega) hN
    rw [Int.neg_mul]; omega
  · by_cases h0 : 0 ≤ a
    · have := Int.ediv_le_self b h0; omega
    · have := Int.ediv_neg_of_neg_of_pos (by omega : a < 0) hb; omega
end Bal.Gas

/-
  Volumes: the plain side.
-/
namespace Bal.Gas
open Bal.Trim
def asked (c : Cell) (a : Air) : Int := if cellB c then checkAir a else 31
def volLo (c : Cell) (a : Air) : Int := amount c * heatLo c a / a.phi
def volHi (c : Cell) (a : Air) : Int := -((-(amount c * heatHi c a)) / a.plo)
def state (c : Cell) (a : Air) : Int := if amount c * heatHi c a ≤ c.room * a.plo then 1 else if c.room * a.phi < amount c * heatLo c a then 3 else 2
theorem div_le_div {a b c d : Int} (ha : 0 ≤ a) (hac : a ≤ c) (hd : 0 < d) (hdb : d ≤ b) : a / b ≤ c / d := by
  rw [Int.le_ediv_iff_mul_le hd]
  have h1 : 0 ≤ a / b := Int.ediv_nonneg ha (by omega)
  have h2 : a / b * d ≤ a / b * b := Int.mul_le_mul_of_nonneg_left hdb h1
  have h3 : a / b * b ≤ a := Int.ediv_mul_le a (by omega)
  omega
theorem up_le_up {a b c d : Int} (ha : 0 ≤ a) (hac : a ≤ c) (hd : 0 < d) (hdb : d ≤ b) : -((-a) / b) ≤ -((-c) / d) := by
  have : (-c) / d ≤ (-a) / b := by
    rw [Int.le_ediv_iff_mul_le (by omega : 0 < b)]
    have h1 : (-c) / d ≤ 0 := by
      have := Int.ediv_le_ediv hd (show -c ≤ 0 by omega)
      simpa using this
    have h2 : (-c) / d * b ≤ (-c) / d * d := by
      rw [← Int.neg_le_neg_iff, ← Int.neg_mul, ← Int.neg_mul]
      exact Int.mul_le_mul_of_nonneg_left hdb (by omega)
    have h3 : (-c) / d * d ≤ -c := Int.ediv_mul_le (-c) (by omega)
    omega
  omega
theorem leastLo_two (r s : Ratio) : leastLo [r, s] = min (down r) (down s) := rfl
theorem leastHi_two (r s : Ratio) : leastHi [r, s] = max (up r) (up s) := rfl
/-- the products of a valid cell in valid air -/
theorem prod_bd {c : Cell} {a : Air} (hc : cellB c = true) (ha : airB a = true) :
    0 ≤ amount c ∧ amount c ≤ 20000000 ∧ (0 ≤ amount c * heatLo c a ∧ amount c * heatLo c a ≤ amount c * heatHi c a ∧ amount c * heatHi c a ≤ 76000000000) ∧
    (0 ≤ c.room * a.plo ∧ c.room * a.plo ≤ 120000000000 ∧ 0 ≤ c.room * a.phi ∧ c.room * a.phi ≤ 120000000000) := by
  obtain ⟨h1, h2, h3, h4, h5, h6⟩ := cellB_iff.1 hc
  obtain ⟨h7, h8⟩ := airB_iff.1 ha
  have hn0 : 0 ≤ amount c := by unfold amount; omega
  have hn1 : amount c ≤ 20000000 := by unfold amount; omega
  have ht0 : 0 ≤ heatLo c a := by unfold heatLo; omega
  have ht1 : heatLo c a ≤ heatHi c a := by unfold heatLo heatHi; omega
  have ht2 : heatHi c a ≤ 3800 := by unfold heatHi; omega
  have p0 := Int.mul_nonneg hn0 ht0
  have p1 := Int.mul_le_mul_of_nonneg_left ht1 hn0
  have p2 := (mul_bd (A := 20000000) (B := 3800) (x := amount c) (y := heatHi c a) (by omega) hn1 (by omega) ht2).2
  have q0 := Int.mul_nonneg (show 0 ≤ c.room by omega) (show 0 ≤ a.plo by omega)
  have q1 := (mul_bd (A := 10000000) (B := 12000) (x := c.room) (y := a.plo) (by omega) (by omega) (by omega) (by omega)).2
  have r0 := Int.mul_nonneg (show 0 ≤ c.room by omega) (show 0 ≤ a.phi by omega)
  have r1 := (mul_bd (A := 10000000) (B := 12000) (x := c.room) (y := a.phi) (by omega) (by omega) (by omega) (by omega)).2
  refine ⟨hn0, hn1, ⟨p0, p1, by omega⟩, q0, by omega, r0, by omega⟩
theorem vol_lo {c : Cell} {a : Air} (hc : cellB c = true) (ha : airB a = true) : leastLo [⟨amount c * heatLo c a, a.phi⟩, ⟨amount c * heatHi c a, a.plo⟩] = volLo c a := by
  obtain ⟨_, _, ⟨p0, p1, _⟩, _⟩ := prod_bd hc ha
  obtain ⟨h7, h8⟩ := airB_iff.1 ha
  rw [leastLo_two]
  have := div_le_div p0 p1 (show 0 < a.plo by omega) h7.2.1
  simp only [down, volLo]
  omega
theorem vol_hi {c : Cell} {a : Air} (hc : cellB c = true) (ha : airB a = true) : leastHi [⟨amount c * heatLo c a, a.phi⟩, ⟨amount c * heatHi c a, a.plo⟩] = volHi c a := by
  obtain ⟨_, _, ⟨p0, p1, _⟩, _⟩ := prod_bd hc ha
  obtain ⟨h7, h8⟩ := airB_iff.1 ha
  rw [leastHi_two]
  have := up_le_up p0 p1 (show 0 < a.plo by omega) h7.2.1
  simp only [up, volHi]
  omega
end Bal.Gas

/-
  Plants and acts: what the document says of them. Plain Lean, no program in sight.
-/
namespace Bal.Gas
open Bal.Trim
structure Plant where
  cells : List Cell
  bottles : Int
  inH : Int
  inA : Int
  vH : Int
  vA : Int
  lH : Int
  lA : Int
  pH : Int
  pA : Int
  deriving Inhabited
structure Deed where
  kind : Int
  cell : Int
  to : Int
  n : Int
  deriving DecidableEq, Inhabited
structure Par where
  h : Int
  a : Int
  deriving DecidableEq, Inhabited
def noPlant : Plant := ⟨[], 0, 0, 0, 0, 0, 0, 0, 0, 0⟩
def booksB (a b : Int) : Bool := rng [a, b] 0 1000000000000
def parB (x : Par) : Bool := booksB x.h x.a
def books (p : Plant) : List Par := [⟨p.inH, p.inA⟩, ⟨p.vH, p.vA⟩, ⟨p.lH, p.lA⟩, ⟨p.pH, p.pA⟩]
def books3 (p : Plant) : List Par := [⟨p.vH, p.vA⟩, ⟨p.lH, p.lA⟩, ⟨p.pH, p.pA⟩]
def sumH (l : List Cell) : Int := sumBy Cell.helium l
def sumA (l : List Cell) : Int := sumBy Cell.air l
def allH (p : Plant) : Int := p.bottles + p.vH + p.lH + p.pH + sumH p.cells
def allA (p : Plant) : Int := p.vA + p.lA + p.pA + sumA p.cells
def plantB (p : Plant) : Bool := decide (p.cells.length ≤ 12) && inB p.bottles 0 10000000 && booksB p.inH p.inA && booksB p.vH p.vA && booksB p.lH p.lA && booksB p.pH p.pA && p.cells.all cellB && decide (allH p = p.inH) && decide (allA p = p.inA)
def plantE (p : Plant) : Int := if plantB p then 0 else 32
/-- the share of so many units of a cell, and the cell without it -/
def shareH (c : Cell) (n : Int) : Int := n * c.helium / (c.helium + c.air)
def less (c : Cell) (n : Int) : Cell := { c with helium := c.helium - shareH c n, air := c.air - (n - shareH c n) }
def leakN (c : Cell) : Int := (c.owed + (c.helium + c.air) * c.leak) / 1000000
def leakC (c : Cell) : Cell := { less c (leakN c) with owed := (c.owed + (c.helium + c.air) * c.leak) % 1000000 }
def cellAt (p : Plant) (i : Nat) : Cell := p.cells.getD i default
/-- the i-th cell leaks once -/
def leakAt (p : Plant) (i : Nat) : Plant :=
  { p with cells := p.cells.set i (leakC (cellAt p i)), lH := p.lH + shareH (cellAt p i) (leakN (cellAt p i)), lA := p.lA + (leakN (cellAt p i) - shareH (cellAt p i) (leakN (cellAt p i))) }
def tickTo (p : Plant) : Nat → Plant
  | 0 => p
  | k + 1 => leakAt (tickTo p k) k
def ticks (p : Plant) : Nat → Plant
  | 0 => p
  | k + 1 => tickTo (ticks p k) p.cells.length
def argB (p : Plant) (d : Deed) : Bool := rng [d.cell] 0 (p.cells.length - 1) && rng [d.n] 1 10000000
def toB (p : Plant) (d : Deed) : Bool := rng [d.to] 0 (p.cells.length - 1) && !decide (d.to = d.cell)
def at_ (p : Plant) (d : Deed) : Cell := cellAt p d.cell.toNat
/-- the error of an act that a valid plant is asked for; 0 if there is none -/
def errA (p : Plant) (d : Deed) : Int :=
  if d.kind = 1 then if rng [d.n] 1 10000000 then 0 else 2
  else if d.kind = 2 then if argB p d then if p.bottles < d.n then 6 else 0 else 2
  else if d.kind = 3 then if argB p d then if amount (at_ p d) < d.n then 6 else 0 else 2
  else if d.kind = 4 then if argB p d then if toB p d then if amount (at_ p d) < d.n then 6 else 0 else 2 else 2
  else if d.kind = 5 then if argB p d then if amount (at_ p d) < d.n then 6 else 0 else 2
  else if d.kind = 6 then if argB p d then 0 else 2
  else if d.kind = 7 then if rng [d.n] 1 1000 then 0 else 2
  else 2
def buyP (p : Plant) (d : Deed) : Plant := { p with bottles := p.bottles + d.n, inH := p.inH + d.n }
def fillP (p : Plant) (d : Deed) : Plant := { p with cells := p.cells.set d.cell.toNat { at_ p d with helium := (at_ p d).helium + d.n }, bottles := p.bottles - d.n }
def lessP (p : Plant) (d : Deed) : Plant := { p with cells := p.cells.set d.cell.toNat (less (at_ p d) d.n) }
def valveP (p : Plant) (d : Deed) : Plant := { lessP p d with vH := p.vH + shareH (at_ p d) d.n, vA := p.vA + (d.n - shareH (at_ p d) d.n) }
def more (c : Cell) (h a : Int) : Cell := { c with helium := c.helium + h, air := c.air + a }
def moveP (p : Plant) (d : Deed) : Plant :=
  { lessP p d with cells := (lessP p d).cells.set d.to.toNat (more (cellAt (lessP p d) d.to.toNat) (shareH (at_ p d) d.n) (d.n - shareH (at_ p d) d.n)) }
def purifyP (p : Plant) (d : Deed) : Plant :=
  { lessP p d with bottles := p.bottles + (shareH (at_ p d) d.n - shareH (at_ p d) d.n / 50), pH := p.pH + shareH (at_ p d) d.n / 50, pA := p.pA + (d.n - shareH (at_ p d) d.n) }
def breatheP (p : Plant) (d : Deed) : Plant := { p with cells := p.cells.set d.cell.toNat { at_ p d with air := (at_ p d).air + d.n }, inA := p.inA + d.n }
def tickP (p : Plant) (d : Deed) : Plant := ticks p d.n.toNat
def resA (p : Plant) (d : Deed) : Plant :=
  if d.kind = 1 then buyP p d else if d.kind = 2 then fillP p d else if d.kind = 3 then valveP p d else if d.kind = 4 then moveP p d else if d.kind = 5 then purifyP p d
  else if d.kind = 6 then breatheP p d else tickP p d
def doE (p : Plant) (d : Deed) : Int := if plantB p then if errA p d = 0 then if plantB (resA p d) then 0 else 9 else errA p d else 32
def doQ (p : Plant) (d : Deed) : Plant := if doE p d = 0 then resA p d else noPlant

theorem booksB_iff {a b : Int} : booksB a b = true ↔ (0 ≤ a ∧ a ≤ 1000000000000) ∧ 0 ≤ b ∧ b ≤ 1000000000000 := by
  simp [booksB, rng, inB]
theorem plantB_iff {p : Plant} : plantB p = true ↔ p.cells.length ≤ 12 ∧ (0 ≤ p.bottles ∧ p.bottles ≤ 10000000) ∧ ((0 ≤ p.inH ∧ p.inH ≤ 1000000000000) ∧ 0 ≤ p.inA ∧ p.inA ≤ 1000000000000) ∧
    ((0 ≤ p.vH ∧ p.vH ≤ 1000000000000) ∧ 0 ≤ p.vA ∧ p.vA ≤ 1000000000000) ∧ ((0 ≤ p.lH ∧ p.lH ≤ 1000000000000) ∧ 0 ≤ p.lA ∧ p.lA ≤ 1000000000000) ∧ ((0 ≤ p.pH ∧ p.pH ≤ 1000000000000) ∧ 0 ≤ p.pA ∧ p.pA ≤ 1000000000000) ∧
    (∀ c ∈ p.cells, cellB c = true) ∧ allH p = p.inH ∧ allA p = p.inA := by
  simp only [plantB, Bool.and_eq_true, decide_eq_true_eq, booksB_iff, inB_iff, List.all_eq_true]
  constructor
  · rintro ⟨⟨⟨⟨⟨⟨⟨⟨a, b⟩, c⟩, d⟩, e⟩, f⟩, g⟩, h⟩, i⟩; exact ⟨a, b, c, d, e, f, g, h, i⟩
  · rintro ⟨a, b, c, d, e, f, g, h, i⟩; exact ⟨⟨⟨⟨⟨⟨⟨⟨a, b⟩, c⟩, d⟩, e⟩, f⟩, g⟩, h⟩, i⟩

theorem sumBy_set {α : Type} (g : α → Int) : ∀ (l : List α) (i : Nat) (x : α) (hi : i < l.length), sumBy g (l.set i x) = sumBy g l - g l[i] + g x
  | [], i, x, hi => by simp at hi
  | y :: ys, 0, x, hi => by simp [sumBy_cons]; omega
  | y :: ys, i + 1, x, hi => by
    have := sumBy_set g ys i x (by simpa using hi)
    simp only [List.set_cons_succ, sumBy_cons, this, List.getElem_cons_succ]
    omega
theorem sumBy_nonneg {α : Type} (g : α → Int) : ∀ (l : List α), (∀ x ∈ l, 0 ≤ g x) → 0 ≤ sumBy g l
  | [], _ => by simp
  | y :: ys, h => by
    have h1 := h y (by simp)
    have h2 := sumBy_nonneg g ys fun x hx => h x (by simp [hx])
    rw [sumBy_cons]; omega
/-- amounts that a cell may have -/
def okC (c : Cell) : Prop := (0 ≤ c.helium ∧ c.helium ≤ 10000000) ∧ 0 ≤ c.air ∧ c.air ≤ 10000000
theorem okC_of {c : Cell} (hc : cellB c = true) : okC c := ⟨(cellB_iff.1 hc).2.1, (cellB_iff.1 hc).2.2.1⟩
theorem share_bd {c : Cell} {n : Int} (hc : okC c) (h0 : 0 ≤ n) (h1 : n ≤ c.helium + c.air) : 0 ≤ shareH c n ∧ shareH c n ≤ c.helium ∧ shareH c n ≤ n ∧ n - shareH c n ≤ c.air := by
  obtain ⟨⟨hh, _⟩, ha, _⟩ := hc
  unfold shareH
  by_cases hz : c.helium + c.air = 0
  · have : n = 0 := by omega
    subst this
    have : c.helium = 0 := by omega
    have : c.air = 0 := by omega
    simp [*]
  · have hp : 0 < c.helium + c.air := by omega
    have m0 : 0 ≤ n * c.helium := Int.mul_nonneg h0 hh
    refine ⟨Int.ediv_nonneg m0 (by omega), ?_, ?_, ?_⟩
    · refine Int.ediv_le_of_le_mul hp ?_
      rw [Int.mul_comm c.helium]
      exact Int.mul_le_mul_of_nonneg_right h1 hh
    · refine Int.ediv_le_of_le_mul hp ?_
      have := Int.mul_le_mul_of_nonneg_left (show c.helium ≤ c.helium + c.air by omega) h0
      exact this
    · have : n - c.air ≤ n * c.helium / (c.helium + c.air) := by
        rw [Int.le_ediv_iff_mul_le hp]
        have e : (n - c.air) * (c.helium + c.air) = n * c.helium - c.air * (c.helium + c.air - n) := by
          simp only [Int.mul_add, Int.mul_sub, Int.mul_comm]; omega
        have := Int.mul_nonneg ha (show 0 ≤ c.helium + c.air - n by omega)
        omega
      omega
theorem leak_bd {c : Cell} (hc : cellB c = true) : (0 ≤ c.owed + (c.helium + c.air) * c.leak ∧ c.owed + (c.helium + c.air) * c.leak ≤ 2000001000000) ∧ (0 ≤ (c.helium + c.air) * c.leak ∧ (c.helium + c.air) * c.leak ≤ 2000000000000) ∧ 0 ≤ leakN c ∧ leakN c ≤ c.helium + c.air := by
  obtain ⟨_, ⟨hh, hh'⟩, ⟨ha, ha'⟩, ⟨hl, hl'⟩, ⟨ho, ho'⟩, _⟩ := cellB_iff.1 hc
  have m0 : 0 ≤ (c.helium + c.air) * c.leak := Int.mul_nonneg (by omega) hl
  have m1 : (c.helium + c.air) * c.leak ≤ (c.helium + c.air) * 100000 := Int.mul_le_mul_of_nonneg_left hl' (by omega)
  refine ⟨⟨by omega, by omega⟩, ⟨m0, by omega⟩, ?_, ?_⟩ <;> unfold leakN <;> omega
theorem less_B {c : Cell} {n : Int} (hc : cellB c = true) (h0 : 0 ≤ n) (h1 : n ≤ c.helium + c.air) : cellB (less c n) = true := by
  have hs := share_bd (okC_of hc) h0 h1
  rw [cellB_iff] at hc ⊢
  simp only [less]
  omega
theorem leakC_B {c : Cell} (hc : cellB c = true) : cellB (leakC c) = true := by
  have hb := leak_bd hc
  have hl := less_B hc hb.2.2.1 hb.2.2.2
  rw [cellB_iff] at hl ⊢
  simp only [leakC]
  simp only [less] at hl ⊢
  have := Int.emod_nonneg (c.owed + (c.helium + c.air) * c.leak) (show (1000000 : Int) ≠ 0 by decide)
  have := Int.emod_lt_of_pos (c.owed + (c.helium + c.air) * c.leak) (show (0 : Int) < 1000000 by decide)
  omega
theorem cellAt_get {p : Plant} {i : Nat} (hi : i < p.cells.length) : cellAt p i = p.cells[i] := by simp [cellAt, hi]
theorem leakAt_len (p : Plant) (i : Nat) : (leakAt p i).cells.length = p.cells.length := by simp [leakAt]
theorem tickTo_len (p : Plant) : ∀ k, (tickTo p k).cells.length = p.cells.length
  | 0 => rfl
  | k + 1 => by rw [tickTo, leakAt_len, tickTo_len p k]
theorem ticks_len (p : Plant) : ∀ k, (ticks p k).cells.length = p.cells.length
  | 0 => rfl
  | k + 1 => by rw [ticks, tickTo_len, ticks_len p k]
theorem leakAt_B {p : Plant} {i : Nat} (hp : plantB p = true) (hi : i < p.cells.length) : plantB (leakAt p i) = true := by
  rw [plantB_iff] at hp
  obtain ⟨h1, h2, h3, h4, h5, h6, h7, h8, h9⟩ := hp
  have hc := h7 _ (List.getElem_mem hi)
  have hb := leak_bd hc
  have hs := share_bd (okC_of hc) hb.2.2.1 hb.2.2.2
  have e := cellAt_get hi
  have hsH := sumBy_set Cell.helium p.cells i (leakC p.cells[i]) hi
  have hsA := sumBy_set Cell.air p.cells i (leakC p.cells[i]) hi
  have h7' : ∀ c ∈ p.cells.set i (leakC p.cells[i]), cellB c = true := fun c hc' => by
    rcases List.mem_or_eq_of_mem_set hc' with h | h
    · exact h7 c h
    · rw [h]; exact leakC_B hc
  have nH : 0 ≤ sumBy Cell.helium (p.cells.set i (leakC p.cells[i])) := sumBy_nonneg _ _ fun c hc' => (cellB_iff.1 (h7' c hc')).2.1.1
  have nA : 0 ≤ sumBy Cell.air (p.cells.set i (leakC p.cells[i])) := sumBy_nonneg _ _ fun c hc' => (cellB_iff.1 (h7' c hc')).2.2.1.1
  rw [plantB_iff]
  simp only [allH, allA, sumH, sumA] at h8 h9
  simp only [leakAt, e, allH, allA, sumH, sumA, List.length_set]
  simp only [leakC, less] at hsH hsA
  simp only [leakC, less] at nH nA h7' ⊢
  generalize sumBy Cell.helium (p.cells.set i _) = SH at *
  generalize sumBy Cell.air (p.cells.set i _) = SA at *
  generalize sumBy Cell.helium p.cells = TH at *
  generalize sumBy Cell.air p.cells = TA at *
  generalize shareH p.cells[i] (leakN p.cells[i]) = S at *
  generalize leakN p.cells[i] = L at *
  refine ⟨h1, h2, h3, h4, ?_, h6, h7', ?_, ?_⟩ <;> omega
theorem tickTo_B {p : Plant} (hp : plantB p = true) : ∀ k, k ≤ p.cells.length → plantB (tickTo p k) = true
  | 0, _ => hp
  | k + 1, h => leakAt_B (tickTo_B hp k (by omega)) (by rw [tickTo_len]; omega)
theorem ticks_B {p : Plant} (hp : plantB p = true) : ∀ k, plantB (ticks p k) = true
  | 0 => hp
  | k + 1 => by rw [ticks]; exact tickTo_B (ticks_B hp k) _ (by rw [ticks_len]; exact Nat.le_refl _)
end Bal.Gas

/-
  Lifts, ceilings and valving: the plain side.
-/
namespace Bal.Gas
open Bal.Trim
def pull (c : Cell) (x : Int) : Int := 29 * amount c * x
def liftLo (c : Cell) (a : Air) : Int := 25 * c.helium + min (pull c c.wlo / a.tlo) (pull c c.wlo / a.thi)
def liftHi (c : Cell) (a : Air) : Int := 25 * c.helium + max (-((-(pull c c.whi)) / a.tlo)) (-((-(pull c c.whi)) / a.thi))
theorem pull_bd {c : Cell} {x : Int} (hc : cellB c = true) (hx : -300 ≤ x ∧ x ≤ 300) : -174000000000 ≤ pull c x ∧ pull c x ≤ 174000000000 := by
  obtain ⟨h1, h2, h3, h4, h5, h6⟩ := cellB_iff.1 hc
  have := mul_bd (A := 580000000) (B := 300) (x := 29 * amount c) (y := x) (by unfold amount; omega) (by unfold amount; omega) (by omega) (by omega)
  unfold pull
  omega
def ceilLo (c : Cell) (x : Int) : Int := amount c * (x + c.wlo) / c.room
def ceilHi (c : Cell) (y : Int) : Int := -((-(amount c * (y + c.whi))) / c.room)
theorem spanIn_iff {x y lo hi : Int} : spanIn x y lo hi = true ↔ lo ≤ x ∧ x ≤ y ∧ y ≤ hi := by
  simp [spanIn, rng, inB]; omega
theorem ceil_bd {c : Cell} {x y : Int} (hc : cellB c = true) (hs : spanIn x y 1500 3500 = true) :
    (0 ≤ amount c ∧ amount c ≤ 20000000) ∧ 0 ≤ amount c * (x + c.wlo) ∧ amount c * (x + c.wlo) ≤ amount c * (y + c.whi) ∧ amount c * (y + c.whi) ≤ 76000000000 := by
  obtain ⟨h1, h2, h3, h4, h5, h6⟩ := cellB_iff.1 hc
  obtain ⟨s1, s2, s3⟩ := spanIn_iff.1 hs
  have hn0 : 0 ≤ amount c := by unfold amount; omega
  have hn1 : amount c ≤ 20000000 := by unfold amount; omega
  refine ⟨⟨hn0, hn1⟩, Int.mul_nonneg hn0 (by omega), Int.mul_le_mul_of_nonneg_left (by omega) hn0, ?_⟩
  have := (mul_bd (A := 20000000) (B := 3800) (x := amount c) (y := y + c.whi) (by omega) hn1 (by omega) (by omega)).2
  omega
end Bal.Gas

/-
  Hulls: the plain side.
-/
namespace Bal.Gas
open Bal.Trim
/-- a hull, its fields in the program's order -/
structure Hl where
  room : Int
  gas : Int
  wlo : Int
  whi : Int
  ballonet : Int
  bag : Int
  least : Int
  most : Int
  deriving DecidableEq, Inhabited
def pressLo (h : Hl) (x : Int) : Int := (h.gas + h.ballonet) * x + h.gas * h.wlo
def pressHi (h : Hl) (y : Int) : Int := (h.gas + h.ballonet) * y + h.gas * h.whi
/-- a hull whose ballonet is empty -/
abbrev bare (h : Hl) : Hl := { h with ballonet := 0 }
def blowLo (h : Hl) (a : Air) : Int := max (-((-((a.phi + h.least) * h.room - pressLo (bare h) a.tlo)) / a.tlo)) 0
def blowHi (h : Hl) (a : Air) : Int := min (((a.plo + h.most) * h.room - pressHi (bare h) a.thi) / a.thi) h.bag
/-- the first of the first n numbers of which f is true -/
def firstOf (f : Nat → Bool) (n : Nat) : Option Nat := (List.range n).find? f
abbrev calm (x y p : Int) : Air := ⟨p, p, x, y⟩
def roofs (h : Hl) (x y : Int) (k : Nat) : Bool := decide (blowLo h (calm x y (1000 + k)) ≤ blowHi h (calm x y (1000 + k)))
def roof (h : Hl) (x y : Int) : Option Nat := firstOf (roofs h x y) 11001
/-! What the functions answer, errors and all. -/
def ifOk (e x : Int) : Int := if e = 0 then x else 0
end Bal.Gas

/-
  Histories, what gauges allow, clashes, what has leaked: what the document says of them. Plain Lean, no program in sight.
-/
namespace Bal.Gas
open Bal.Trim
structure Sp where
  lo : Int
  hi : Int
  deriving DecidableEq, Inhabited
/-- a gauge; va, vc: where its volumes lie -/
structure Gauge where
  time : Int
  air : Air
  va : Option (Nat × Nat × Option Nat)
  vc : Nat
  vols : List Sp
  deriving Inhabited
structure Flow where
  time : Int
  cell : Int
  n : Int
  deriving DecidableEq, Inhabited
structure Hist where
  warm : List Sp
  gauges : List Gauge
  flows : List Flow
  deriving Inhabited
def warmB (s : Sp) : Bool := spanIn s.lo s.hi (-300) 300
def volB (s : Sp) : Bool := spanIn s.lo s.hi 0 10000000
def gaugeB (n : Nat) (last : Int) (g : Gauge) : Bool := inB g.time (last + 1) 1000000 && airB g.air && decide (g.vols.length = n) && g.vols.all volB
def gaugesB (n : Nat) : Int → List Gauge → Bool
  | _, [] => true
  | last, g :: gs => gaugeB n last g && gaugesB n g.time gs
def flowB (n : Nat) (f : Flow) : Bool := inB f.time 0 1000000 && inB f.cell 0 (n - 1) && inB f.n (-10000000) 10000000
def sizesB (h : Hist) : Bool := inB h.warm.length 1 12 && inB h.gauges.length 1 30 && decide (h.flows.length ≤ 100)
def histB (h : Hist) : Bool := sizesB h && h.warm.all warmB && gaugesB h.warm.length (-1) h.gauges && h.flows.all (flowB h.warm.length)
def histE (h : Hist) : Int := if histB h then 0 else 34
def gAt (h : Hist) (i : Nat) : Gauge := h.gauges.getD i default
def wAt (h : Hist) (c : Nat) : Sp := h.warm.getD c default
def vAt (g : Gauge) (c : Nat) : Sp := g.vols.getD c default
/-- what a gauge allows of a cell -/
def alLo (h : Hist) (g c : Nat) : Int := -((-((vAt (gAt h g) c).lo * (gAt h g).air.plo)) / ((gAt h g).air.thi + (wAt h c).hi))
def alHi (h : Hist) (g c : Nat) : Int := (vAt (gAt h g) c).hi * (gAt h g).air.phi / ((gAt h g).air.tlo + (wAt h c).lo)
def flowIn (c : Nat) (a b : Int) (f : Flow) : Bool := decide (f.cell = c) && decide (a < f.time) && decide (f.time ≤ b)
def flowN (c : Nat) (a b : Int) (f : Flow) : Int := if flowIn c a b f then f.n else 0
def come (h : Hist) (c : Nat) (a b : Int) : Int := sumBy (flowN c a b) h.flows
def tt (h : Hist) (i : Nat) : Int := (gAt h i).time
def toldLo (h : Hist) (c i : Nat) : Int := alLo h i c - come h c (tt h 0) (tt h i)
def toldHi (h : Hist) (c i : Nat) : Int := alHi h i c - come h c (tt h 0) (tt h i)
/-- a clash of a valid history: cell c, gauges f and t -/
def clashB (h : Hist) (c f t : Nat) : Bool :=
  if f = t then decide (alHi h f c < alLo h f c)
  else decide (alLo h f c ≤ alHi h f c) && decide (alLo h t c ≤ alHi h t c) && decide (alHi h f c + come h c (tt h f) (tt h t) < alLo h t c)
/-- the clashes in the order in which they are looked for -/
def clashList (h : Hist) : List (Nat × Nat × Nat) := (List.range h.warm.length).flatMap fun c => (List.range h.gauges.length).flatMap fun t => (List.range (t + 1)).map fun f => (c, f, t)
def conf (h : Hist) : Option (Nat × Nat × Nat) := (clashList h).find? fun x => clashB h x.1 x.2.1 x.2.2
def confE (h : Hist) : Int := if histB h then (if (conf h).isSome then 0 else 6) else 34
/-- what has leaked of a cell, no clash given -/
def needTo (h : Hist) (c : Nat) : Nat → Int
  | 0 => -1152921504606846976
  | k + 1 => max (needTo h c k) (toldLo h c k)
def canTo (h : Hist) (c : Nat) : Nat → Int
  | 0 => 1152921504606846976
  | k + 1 => min (canTo h c k) (toldHi h c k)
def lostLo (h : Hist) (c : Nat) : Int := if h.gauges.length = 1 then 0 else max (needTo h c h.gauges.length - canTo h c h.gauges.length) 0
def lostHi (h : Hist) (c : Nat) : Int := if h.gauges.length = 1 then 0 else toldHi h c 0 - toldLo h c (h.gauges.length - 1)
def allLo (h : Hist) (k : Nat) : Int := sumBy (fun c => lostLo h c) (List.range k)
def allHi (h : Hist) (k : Nat) : Int := sumBy (fun c => lostHi h c) (List.range k)
def leakLo (h : Hist) (x : Int) (c : Nat) : Int := max (lostLo h c) (x - allHi h h.warm.length + lostHi h c)
def leakHi (h : Hist) (y : Int) (c : Nat) : Int := min (lostHi h c) (y - allLo h h.warm.length + lostLo h c)
def leaksE (h : Hist) (x y : Int) : Int :=
  if histB h then (if spanIn x y 0 1000000000000 then (if (conf h).isSome then 6 else if y < allLo h h.warm.length ∨ allHi h h.warm.length < x then 6 else 0) else 2) else 34
def leaksL (h : Hist) (x y : Int) : List Sp := if leaksE h x y = 0 then (List.range h.warm.length).map fun c => ⟨leakLo h x c, leakHi h y c⟩ else []
def namedTo (l : List Sp) : Nat → List Int
  | 0 => []
  | k + 1 => namedTo l k ++ (if 0 < (l.getD k default).lo then [(k : Int)] else [])
def namedL (h : Hist) (x y : Int) : List Int := namedTo (leaksL h x y) h.warm.length
def amtE (h : Hist) (g c : Int) : Int :=
  if histB h then (if inB g 0 (h.gauges.length - 1) && inB c 0 (h.warm.length - 1) then (if alHi h g.toNat c.toNat < alLo h g.toNat c.toNat then 6 else 0) else 2) else 34
theorem sizesB_iff {h : Hist} : sizesB h = true ↔ (1 ≤ h.warm.length ∧ h.warm.length ≤ 12) ∧ (1 ≤ h.gauges.length ∧ h.gauges.length ≤ 30) ∧ h.flows.length ≤ 100 := by
  simp [sizesB, inB]; omega
theorem gaugesB_at : ∀ (gs : List Gauge) (n : Nat) (last : Int), gaugesB n last gs = true → ∀ i (hi : i < gs.length), gaugeB n (if i = 0 then last else (gs.getD (i - 1) default).time) gs[i] = true
  | [], _, _, _, i, hi => by simp at hi
  | g :: gs, n, last, h, i, hi => by
    simp only [gaugesB, Bool.and_eq_true] at h
    cases i with
    | zero => exact h.1
    | succ i =>
      have := gaugesB_at gs n g.time h.2 i (by simpa using hi)
      simp only [Nat.succ_ne_zero, if_false, Nat.add_sub_cancel, List.getElem_cons_succ]
      cases i with
      | zero => simpa using this
      | succ i => simpa using this
theorem gaugesB_of : ∀ (gs : List Gauge) (n : Nat) (last : Int), (∀ i (hi : i < gs.length), gaugeB n (if i = 0 then last else (gs.getD (i - 1) default).time) gs[i] = true) → gaugesB n last gs = true
  | [], _, _, _ => rfl
  | g :: gs, n, last, h => by
    simp only [gaugesB, Bool.and_eq_true]
    refine ⟨h 0 (by simp), gaugesB_of gs n g.time fun i hi => ?_⟩
    have := h (i + 1) (by simpa using hi)
    simp only [Nat.succ_ne_zero, if_false, Nat.add_sub_cancel, List.getElem_cons_succ] at this
    cases i with
    | zero => simpa using this
    | succ i => simpa using this
/-- whether the i-th gauge is valid, the ones before it given -/
def okG (h : Hist) (i : Nat) : Bool := gaugeB h.warm.length (if i = 0 then -1 else tt h (i - 1)) (gAt h i)
theorem okG_iff (h : Hist) : gaugesB h.warm.length (-1) h.gauges = true ↔ ∀ i, i < h.gauges.length → okG h i = true := by
  constructor
  · intro hg i hi
    have := gaugesB_at _ _ _ hg i hi
    have e : gAt h i = h.gauges[i] := by simp [gAt, hi]
    unfold okG
    rw [e]
    exact this
  · intro hg
    refine gaugesB_of _ _ _ fun i hi => ?_
    have := hg i hi
    unfold okG at this
    rw [show gAt h i = h.gauges[i] by simp [gAt, hi]] at this
    exact this
theorem histB_sizes {h : Hist} (hs : sizesB h = false) : histB h = false := by simp [histB, hs]
theorem histB_warm {h : Hist} {c : Nat} (hc : c < h.warm.length) (hb : warmB (wAt h c) = false) : histB h = false := by
  cases hh : histB h with
  | false => rfl
  | true =>
    simp only [histB, Bool.and_eq_true, List.all_eq_true] at hh
    have := hh.1.1.2 _ (List.getElem_mem hc)
    rw [show h.warm[c] = wAt h c by simp [wAt, hc], hb] at this
    cases this
theorem histB_gauge {h : Hist} {i : Nat} (hi : i < h.gauges.length) (hb : okG h i = false) : histB h = false := by
  cases hh : histB h with
  | false => rfl
  | true =>
    simp only [histB, Bool.and_eq_true] at hh
    have := (okG_iff h).1 hh.1.2 i hi
    rw [hb] at this
    cases this
theorem histB_flow {h : Hist} {k : Nat} (hk : k < h.flows.length) (hb : flowB h.warm.length h.flows[k] = false) : histB h = false := by
  cases hh : histB h with
  | false => rfl
  | true =>
    simp only [histB, Bool.and_eq_true, List.all_eq_true] at hh
    have := hh.2 _ (List.getElem_mem hk)
    rw [hb] at this
    cases this
theorem histB_true {h : Hist} (hs : sizesB h = true) (hw : ∀ c, c < h.warm.length → warmB (wAt h c) = true) (hg : ∀ i, i < h.gauges.length → okG h i = true) (hf : ∀ k (hk : k < h.flows.length), flowB h.warm.length h.flows[k] = true) : histB h = true := by
  simp only [histB, Bool.and_eq_true, List.all_eq_true]
  refine ⟨⟨⟨hs, fun s hsm => ?_⟩, (okG_iff h).2 hg⟩, fun f hfm => ?_⟩
  · obtain ⟨c, hc, rfl⟩ := List.mem_iff_getElem.1 hsm
    rw [show h.warm[c] = wAt h c by simp [wAt, hc]]
    exact hw c hc
  · obtain ⟨k, hk, rfl⟩ := List.mem_iff_getElem.1 hfm
    exact hf k hk
/-- a gauge's parts; prev: the time ahead of it, if there is one -/
theorem okG_parts {h : Hist} {i : Nat} (hp : i ≠ 0 → 0 ≤ tt h (i - 1)) : okG h i = (inB (tt h i) 0 1000000 && (decide (i = 0) || decide (tt h (i - 1) < tt h i)) && airB (gAt h i).air && decide ((gAt h i).vols.length = h.warm.length) && (gAt h i).vols.all volB) := by
  unfold okG gaugeB tt
  congr 3
  by_cases h0 : i = 0
  · subst h0; simp
  · have := hp h0
    unfold tt at this
    rw [Bool.eq_iff_iff]
    simp [h0, inB]
    omega
theorem times_pos {h : Hist} : ∀ (i : Nat), (∀ j, j < i → okG h j = true) → ∀ j, j < i → 0 ≤ tt h j
  | 0, _, j, hj => by omega
  | i + 1, hok, j, hj => by
    have ih := times_pos i (fun j hj => hok j (by omega))
    by_cases hji : j < i
    · exact ih j hji
    · obtain rfl : j = i := by omega
      have hp : j ≠ 0 → 0 ≤ tt h (j - 1) := fun h0 => ih (j - 1) (by omega)
      have := hok j (by omega)
      rw [okG_parts hp] at this
      simp only [Bool.and_eq_true, inB_iff] at this
      exact this.1.1.1.1.1
structure HistOk (h : Hist) : Prop where
  w1 : 1 ≤ h.warm.length
  w2 : h.warm.length ≤ 12
  g1 : 1 ≤ h.gauges.length
  g2 : h.gauges.length ≤ 30
  f2 : h.flows.length ≤ 100
  warm : ∀ c, c < h.warm.length → -300 ≤ (wAt h c).lo ∧ (wAt h c).lo ≤ (wAt h c).hi ∧ (wAt h c).hi ≤ 300
  time : ∀ i, i < h.gauges.length → 0 ≤ tt h i ∧ tt h i ≤ 1000000
  up : ∀ i, i + 1 < h.gauges.length → tt h i < tt h (i + 1)
  air : ∀ i, i < h.gauges.length → airB (gAt h i).air = true
  vlen : ∀ i, i < h.gauges.length → (gAt h i).vols.length = h.warm.length
  vol : ∀ i c, i < h.gauges.length → c < h.warm.length → 0 ≤ (vAt (gAt h i) c).lo ∧ (vAt (gAt h i) c).lo ≤ (vAt (gAt h i) c).hi ∧ (vAt (gAt h i) c).hi ≤ 10000000
  flow : ∀ f ∈ h.flows, (0 ≤ f.time ∧ f.time ≤ 1000000) ∧ (0 ≤ f.cell ∧ f.cell < h.warm.length) ∧ -10000000 ≤ f.n ∧ f.n ≤ 10000000
theorem span3 {x y lo hi : Int} (h : spanIn x y lo hi = true) : lo ≤ x ∧ x ≤ y ∧ y ≤ hi := by simp [spanIn, rng, inB] at h; omega
theorem histB_ok {h : Hist} (hb : histB h = true) : HistOk h := by
  simp only [histB, Bool.and_eq_true, List.all_eq_true] at hb
  obtain ⟨⟨⟨hs, hw⟩, hg⟩, hf⟩ := hb
  obtain ⟨⟨a1, a2⟩, ⟨a3, a4⟩, a5⟩ := sizesB_iff.1 hs
  have hgi := gaugesB_at _ _ _ hg
  have gg : ∀ i (hi : i < h.gauges.length), gAt h i = h.gauges[i] := fun i hi => by simp [gAt, hi]
  have key : ∀ i (hi : i < h.gauges.length), gaugeB h.warm.length (if i = 0 then -1 else tt h (i - 1)) (gAt h i) = true := fun i hi => by
    rw [gg i hi]; exact hgi i hi
  have kk : ∀ i (hi : i < h.gauges.length), ((if i = 0 then -1 else tt h (i - 1)) + 1 ≤ tt h i ∧ tt h i ≤ 1000000) ∧ airB (gAt h i).air = true ∧ (gAt h i).vols.length = h.warm.length ∧ ∀ v ∈ (gAt h i).vols, volB v = true := fun i hi => by
    have := key i hi
    simp only [gaugeB, Bool.and_eq_true, inB_iff, decide_eq_true_eq, List.all_eq_true] at this
    exact ⟨this.1.1.1, this.1.1.2, this.1.2, this.2⟩
  have tpos : ∀ i, i < h.gauges.length → 0 ≤ tt h i := by
    intro i
    induction i with
    | zero => intro hi; have := (kk 0 hi).1.1; simp at this; omega
    | succ i ih => intro hi; have h1 := ih (by omega); have h2 := (kk (i + 1) hi).1.1; simp at h2; omega
  refine ⟨a1, a2, a3, a4, a5, fun c hc => ?_, fun i hi => ⟨tpos i hi, (kk i hi).1.2⟩, fun i hi => ?_, fun i hi => (kk i hi).2.1, fun i hi => (kk i hi).2.2.1, fun i c hi hc => ?_, fun f hfm => ?_⟩
  · have e : wAt h c = h.warm[c] := by simp [wAt, hc]
    rw [e]
    exact span3 (hw _ (List.getElem_mem hc))
  · have := (kk (i + 1) hi).1.1
    simp at this
    omega
  · have hl := (kk i hi).2.2.1
    have e : vAt (gAt h i) c = (gAt h i).vols[c]'(by omega) := by simp [vAt, show c < (gAt h i).vols.length by omega]
    rw [e]
    exact span3 ((kk i hi).2.2.2 _ (List.getElem_mem _))
  · have := hf f hfm
    simp only [flowB, Bool.and_eq_true, inB_iff] at this
    omega
theorem al_bd {h : Hist} (ho : HistOk h) {g c : Nat} (hg : g < h.gauges.length) (hc : c < h.warm.length) :
    (1200 ≤ (gAt h g).air.tlo + (wAt h c).lo ∧ (gAt h g).air.tlo + (wAt h c).lo ≤ (gAt h g).air.thi + (wAt h c).hi ∧ (gAt h g).air.thi + (wAt h c).hi ≤ 3800) ∧
    (0 ≤ (vAt (gAt h g) c).lo * (gAt h g).air.plo ∧ (vAt (gAt h g) c).lo * (gAt h g).air.plo ≤ 120000000000) ∧ (0 ≤ (vAt (gAt h g) c).hi * (gAt h g).air.phi ∧ (vAt (gAt h g) c).hi * (gAt h g).air.phi ≤ 120000000000) ∧
    (0 ≤ alLo h g c ∧ alLo h g c ≤ 120000000000) ∧ 0 ≤ alHi h g c ∧ alHi h g c ≤ 120000000000 := by
  obtain ⟨v0, v1, v2⟩ := ho.vol g c hg hc
  obtain ⟨w0, w1, w2⟩ := ho.warm c hc
  obtain ⟨⟨p0, p1, p2⟩, t0, t1, t2⟩ := airB_iff.1 (ho.air g hg)
  have m1 := mul_bd (A := 10000000) (B := 12000) (x := (vAt (gAt h g) c).lo) (y := (gAt h g).air.plo) (by omega) (by omega) (by omega) (by omega)
  have m2 := mul_bd (A := 10000000) (B := 12000) (x := (vAt (gAt h g) c).hi) (y := (gAt h g).air.phi) (by omega) (by omega) (by omega) (by omega)
  have n1 : 0 ≤ (vAt (gAt h g) c).lo * (gAt h g).air.plo := Int.mul_nonneg v0 (by omega)
  have n2 : 0 ≤ (vAt (gAt h g) c).hi * (gAt h g).air.phi := Int.mul_nonneg (by omega) (by omega)
  refine ⟨by omega, ⟨n1, by omega⟩, ⟨n2, by omega⟩, ?_, ?_⟩
  · unfold alLo
    generalize (vAt (gAt h g) c).lo * (gAt h g).air.plo = P at *
    generalize hD : (gAt h g).air.thi + (wAt h c).hi = D at *
    have d := div_bd (a := -P) (b := D) (N := 120000000000) (by omega) (by omega) (by omega) (by omega)
    have d2 : -P / D ≤ 0 := Int.ediv_le_of_le_mul (by omega) (by rw [Int.zero_mul]; omega)
    omega
  · unfold alHi
    generalize (vAt (gAt h g) c).hi * (gAt h g).air.phi = P at *
    generalize hD : (gAt h g).air.tlo + (wAt h c).lo = D at *
    have d := div_bd (a := P) (b := D) (N := 120000000000) (by omega) (by omega) (by omega) (by omega)
    have d2 : 0 ≤ P / D := Int.ediv_nonneg (by omega) (by omega)
    omega
theorem come_bd {h : Hist} (ho : HistOk h) (c : Nat) (a b : Int) (k : Nat) : -1000000000 ≤ sumBy (flowN c a b) (h.flows.take k) ∧ sumBy (flowN c a b) (h.flows.take k) ≤ 1000000000 := by
  refine sumBy_take_bd (flowN c a b) 10000000 1000000000 h.flows 100 ho.f2 (by omega) (by omega) (fun f hf => ?_) k
  have := ho.flow f hf
  unfold flowN
  split <;> omega
theorem come_all (h : Hist) (c : Nat) (a b : Int) : come h c a b = sumBy (flowN c a b) (h.flows.take h.flows.length) := by rw [List.take_length]; rfl
theorem told_bd {h : Hist} (ho : HistOk h) {c i : Nat} (hi : i < h.gauges.length) (hc : c < h.warm.length) : (-1000000000 ≤ toldLo h c i ∧ toldLo h c i ≤ 121000000000) ∧ -1000000000 ≤ toldHi h c i ∧ toldHi h c i ≤ 121000000000 := by
  have h1 := al_bd ho hi hc
  have h2 := come_bd ho c (tt h 0) (tt h i) h.flows.length
  rw [← come_all] at h2
  unfold toldLo toldHi
  omega
theorem tt_mono {h : Hist} (ho : HistOk h) : ∀ (j i : Nat), i ≤ j → j < h.gauges.length → tt h i ≤ tt h j
  | 0, i, hij, _ => by have : i = 0 := by omega
                       subst this; omega
  | j + 1, i, hij, hj => by
    by_cases h1 : i = j + 1
    · subst h1; omega
    · have := tt_mono ho j i (by omega) (by omega)
      have := ho.up j hj
      omega
theorem come_split (h : Hist) (c : Nat) {a b d : Int} (h1 : a ≤ b) (h2 : b ≤ d) : come h c a d = come h c a b + come h c b d := by
  unfold come
  induction h.flows with
  | nil => simp
  | cons f fs ih =>
    rw [sumBy_cons, sumBy_cons, sumBy_cons, ih]
    have : flowN c a d f = flowN c a b f + flowN c b d f := by
      unfold flowN flowIn
      by_cases h3 : f.cell = c <;> by_cases h4 : a < f.time <;> by_cases h5 : f.time ≤ d <;> by_cases h6 : f.time ≤ b <;> by_cases h7 : b < f.time <;> simp [h3, h4, h5, h6, h7] <;> omega
    omega
/-- a clash by what is told -/
theorem clash_told {h : Hist} (ho : HistOk h) {c f t : Nat} (hft : f ≤ t) (ht : t < h.gauges.length) :
    clashB h c f t = ((decide (f = t) && decide (toldHi h c f < toldLo h c f)) || (decide (f < t) && !decide (toldHi h c f < toldLo h c f) && decide (toldLo h c t ≤ toldHi h c t) && decide (toldHi h c f < toldLo h c t))) := by
  have m := tt_mono ho t f hft ht
  have m0 := tt_mono ho f 0 (by omega) (by omega)
  have s := come_split h c m0 m
  unfold clashB toldLo toldHi
  rw [Bool.eq_iff_iff]
  by_cases he : f = t
  · subst he
    simp
  · simp only [he, if_false, decide_false, Bool.false_and, Bool.false_or, Bool.and_eq_true, decide_eq_true_eq, Bool.not_eq_true', decide_eq_false_iff_not]
    omega
end Bal.Gas

/-
  The first clash of a history: plain Lean, no program in sight.
-/
namespace Bal.Gas
theorem findSome_none {α : Type} {g : Nat → Option α} : ∀ (n : Nat), (∀ j, j < n → g j = none) → (List.range n).findSome? g = none
  | 0, _ => rfl
  | n + 1, h => by rw [List.range_succ, List.findSome?_append, findSome_none n fun j hj => h j (by omega)]; simp [h n (by omega)]
theorem findSome_first {α : Type} {g : Nat → Option α} {x : α} {k : Nat} (hb : ∀ j, j < k → g j = none) (hx : g k = some x) : ∀ (n : Nat), k < n → (List.range n).findSome? g = some x
  | 0, h => by omega
  | n + 1, h => by
    rw [List.range_succ, List.findSome?_append]
    by_cases hk : k < n
    · rw [findSome_first hb hx n hk]; rfl
    · obtain rfl : k = n := by omega
      rw [findSome_none k hb]
      simp [hx]
def confF (h : Hist) (c t : Nat) : Option (Nat × Nat × Nat) := (List.range (t + 1)).findSome? fun f => if clashB h c f t then some (c, f, t) else none
theorem conf_eq (h : Hist) : conf h = (List.range h.warm.length).findSome? fun c => (List.range h.gauges.length).findSome? fun t => confF h c t := by
  unfold conf clashList confF
  rw [List.find?_flatMap]
  congr 1
  funext c
  rw [List.find?_flatMap]
  congr 1
  funext t
  rw [List.find?_map]
  generalize List.range (t + 1) = l
  induction l with
  | nil => rfl
  | cons f l ih =>
    simp only [List.find?_cons, List.findSome?_cons, Function.comp]
    cases hb : clashB h c f t
    · simpa [Function.comp_def] using ih
    · simp
theorem conf_none {h : Hist} (hn : ∀ c t f, c < h.warm.length → t < h.gauges.length → f ≤ t → clashB h c f t = false) : conf h = none := by
  rw [conf_eq]
  refine findSome_none _ fun c hc => findSome_none _ fun t ht => findSome_none _ fun f hf => ?_
  simp [hn c t f hc ht (by omega)]
theorem conf_some {h : Hist} {c t f : Nat} (hc : c < h.warm.length) (ht : t < h.gauges.length) (hf : f ≤ t) (hx : clashB h c f t = true)
    (hb : ∀ c' t' f', c' < h.warm.length → t' < h.gauges.length → f' ≤ t' → (c' < c ∨ (c' = c ∧ (t' < t ∨ (t' = t ∧ f' < f)))) → clashB h c' f' t' = false) : conf h = some (c, f, t) := by
  rw [conf_eq]
  refine findSome_first (k := c) (fun c' hc' => findSome_none _ fun t' ht' => findSome_none _ fun f' hf' => by simp [hb c' t' f' (by omega) ht' (by omega) (.inl hc')]) ?_ _ hc
  refine findSome_first (k := t) (fun t' ht' => findSome_none _ fun f' hf' => by simp [hb c t' f' hc (by omega) (by omega) (.inr ⟨rfl, .inl ht'⟩)]) ?_ _ ht
  refine findSome_first (k := f) (fun f' hf' => by simp [hb c t f' hc ht (by omega) (.inr ⟨rfl, .inr ⟨rfl, hf'⟩⟩)]) ?_ _ (by omega)
  simp [hx]
def Clear (h : Hist) (c t f : Nat) : Prop := ∀ c' t' f', c' < h.warm.length → t' < h.gauges.length → f' ≤ t' → (c' < c ∨ (c' = c ∧ (t' < t ∨ (t' = t ∧ f' < f)))) → clashB h c' f' t' = false
theorem Clear.zero (h : Hist) : Clear h 0 0 0 := fun c' t' f' _ _ _ hx => by omega
theorem Clear.step {h : Hist} {c t f : Nat} (k : Clear h c t f) (hn : clashB h c f t = false) : Clear h c t (f + 1) := fun c' t' f' h1 h2 h3 hx => by
  by_cases he : c' = c ∧ t' = t ∧ f' = f
  · obtain ⟨rfl, rfl, rfl⟩ := he; exact hn
  · exact k c' t' f' h1 h2 h3 (by omega)
theorem Clear.row {h : Hist} {c t : Nat} (k : Clear h c t (t + 1)) : Clear h c (t + 1) 0 := fun c' t' f' h1 h2 h3 hx => k c' t' f' h1 h2 h3 (by omega)
theorem Clear.cell {h : Hist} {c : Nat} (k : Clear h c h.gauges.length 0) : Clear h (c + 1) 0 0 := fun c' t' f' h1 h2 h3 hx => k c' t' f' h1 h2 h3 (by omega)
theorem Clear.none {h : Hist} (k : Clear h h.warm.length 0 0) : conf h = Option.none := conf_none fun c t f h1 h2 h3 => k c t f h1 h2 h3 (.inl h1)
theorem Clear.found {h : Hist} {c t f : Nat} (k : Clear h c t f) (hc : c < h.warm.length) (ht : t < h.gauges.length) (hf : f ≤ t) (hx : clashB h c f t = true) : conf h = some (c, f, t) := conf_some hc ht hf hx k
def cfC (h : Hist) : Int := if histB h then (match conf h with | some x => x.1 | none => 0) else 0
def cfF (h : Hist) : Int := if histB h then (match conf h with | some x => x.2.1 | none => 0) else 0
def cfT (h : Hist) : Int := if histB h then (match conf h with | some x => x.2.2 | none => 0) else 0
theorem cf_bad {h : Hist} (hb : histB h = false) : cfC h = 0 ∧ cfF h = 0 ∧ cfT h = 0 ∧ confE h = 34 := by simp [cfC, cfF, cfT, confE, hb]
theorem cf_none {h : Hist} (hb : histB h = true) (hn : conf h = none) : cfC h = 0 ∧ cfF h = 0 ∧ cfT h = 0 ∧ confE h = 6 := by simp [cfC, cfF, cfT, confE, hb, hn]
theorem cf_some {h : Hist} {c f t : Nat} (hb : histB h = true) (hn : conf h = some (c, f, t)) : cfC h = c ∧ cfF h = f ∧ cfT h = t ∧ confE h = 0 := by simp [cfC, cfF, cfT, confE, hb, hn]
end Bal.Gas

/-
  What has leaked of all cells: plain Lean, no program in sight.
-/
namespace Bal.Gas
open Bal.Trim
theorem need_bdP {h : Hist} (ho : HistOk h) {c : Nat} (hc : c < h.warm.length) : ∀ k, k ≤ h.gauges.length → -1152921504606846976 ≤ needTo h c k ∧ needTo h c k ≤ 121000000000 ∧ -1000000000 ≤ canTo h c k ∧ canTo h c k ≤ 1152921504606846976
  | 0, _ => by simp [needTo, canTo]
  | k + 1, hk => by
    have ih := need_bdP ho hc k (by omega)
    have b := told_bd ho (i := k) (by omega) hc
    simp only [needTo, canTo]
    omega
theorem lost_bd {h : Hist} (ho : HistOk h) {c : Nat} (hc : c < h.warm.length) : (0 ≤ lostLo h c ∧ lostLo h c ≤ 130000000000) ∧ -130000000000 ≤ lostHi h c ∧ lostHi h c ≤ 130000000000 := by
  have b := need_bdP ho hc h.gauges.length (Nat.le_refl _)
  have g1 := ho.g1
  have t0 := told_bd ho (i := 0) (by omega) hc
  have t1 := told_bd ho (i := h.gauges.length - 1) (by omega) hc
  unfold lostLo lostHi
  split <;> omega
theorem allLo_succ (h : Hist) (k : Nat) : allLo h (k + 1) = allLo h k + lostLo h k := by unfold allLo; rw [List.range_succ, sumBy_append, sumBy_cons, sumBy_nil]; omega
theorem allHi_succ (h : Hist) (k : Nat) : allHi h (k + 1) = allHi h k + lostHi h k := by unfold allHi; rw [List.range_succ, sumBy_append, sumBy_cons, sumBy_nil]; omega
theorem all_bd {h : Hist} (ho : HistOk h) : ∀ k, k ≤ h.warm.length → (0 ≤ allLo h k ∧ allLo h k ≤ 130000000000 * k) ∧ -(130000000000 * k) ≤ allHi h k ∧ allHi h k ≤ 130000000000 * k
  | 0, _ => by simp [allLo, allHi]
  | k + 1, hk => by
    have ih := all_bd ho k (by omega)
    have b := lost_bd ho (c := k) (by omega)
    rw [allLo_succ, allHi_succ]
    omega
/-- what is known of the first k cells -/
def partL (h : Hist) (k : Nat) : List Sp := (List.range k).map fun c => ⟨lostLo h c, lostHi h c⟩
/-- the first k cells narrowed by the total -/
def mixL (h : Hist) (x y : Int) (k : Nat) : List Sp := (List.range h.warm.length).map fun c => if c < k then ⟨leakLo h x c, leakHi h y c⟩ else ⟨lostLo h c, lostHi h c⟩
theorem partL_succ (h : Hist) (k : Nat) : partL h (k + 1) = partL h k ++ [⟨lostLo h k, lostHi h k⟩] := by simp [partL, List.range_succ]
theorem partL_len (h : Hist) (k : Nat) : (partL h k).length = k := by simp [partL]
theorem mixL_len (h : Hist) (x y : Int) (k : Nat) : (mixL h x y k).length = h.warm.length := by simp [mixL]
theorem mixL_zero (h : Hist) (x y : Int) : mixL h x y 0 = partL h h.warm.length := by simp [mixL, partL]
theorem mixL_all (h : Hist) (x y : Int) : mixL h x y h.warm.length = (List.range h.warm.length).map fun c => ⟨leakLo h x c, leakHi h y c⟩ := by
  unfold mixL
  apply List.map_congr_left
  intro c hc
  rw [if_pos (by simpa using hc)]
theorem mixL_at (h : Hist) (x y : Int) {k : Nat} (hk : k < h.warm.length) : (mixL h x y k)[k]? = some ⟨lostLo h k, lostHi h k⟩ := by simp [mixL, hk]
theorem mixL_succ (h : Hist) (x y : Int) {k : Nat} (hk : k < h.warm.length) : mixL h x y (k + 1) = (mixL h x y k).set k ⟨leakLo h x k, leakHi h y k⟩ := by
  apply List.ext_getElem
  · simp [mixL]
  · intro i h1 h2
    have hi : i < h.warm.length := by simpa [mixL] using h1
    rw [List.getElem_set]
    by_cases hik : k = i
    · subst hik; simp [mixL]
    · rw [if_neg hik]
      simp only [mixL, List.getElem_map, List.getElem_range]
      by_cases h3 : i < k
      · rw [if_pos h3, if_pos (by omega)]
      · rw [if_neg h3, if_neg (by omega)]
/-- whether the total is out of reach -/
def outB (h : Hist) (x y : Int) : Bool := decide (y < allLo h h.warm.length) || decide (allHi h h.warm.length < x)
theorem leaks_bad {h : Hist} {x y : Int} (hb : histB h = false) : leaksE h x y = 34 ∧ leaksL h x y = [] := by
  have : leaksE h x y = 34 := by simp [leaksE, hb]
  exact ⟨this, by simp [leaksL, this]⟩
theorem leaks_arg {h : Hist} {x y : Int} (hb : histB h = true) (hs : spanIn x y 0 1000000000000 = false) : leaksE h x y = 2 ∧ leaksL h x y = [] := by
  have : leaksE h x y = 2 := by simp [leaksE, hb, hs]
  exact ⟨this, by simp [leaksL, this]⟩
theorem leaks_conf {h : Hist} {x y : Int} (hb : histB h = true) (hs : spanIn x y 0 1000000000000 = true) (hc : confE h = 0) : leaksE h x y = 6 ∧ leaksL h x y = [] := by
  have : leaksE h x y = 6 := by
    unfold confE at hc
    simp only [hb, if_true] at hc
    have : (conf h).isSome = true := by
      cases h1 : (conf h).isSome
      · simp [h1] at hc
      · rfl
    simp [leaksE, hb, hs, this]
  exact ⟨this, by simp [leaksL, this]⟩
theorem leaks_free {h : Hist} {x y : Int} (hb : histB h = true) (hs : spanIn x y 0 1000000000000 = true) (hc : confE h ≠ 0) : leaksE h x y = if outB h x y then 6 else 0 := by
  have h1 : (conf h).isSome = false := by
    cases h1 : (conf h).isSome
    · rfl
    · exfalso; apply hc; simp [confE, hb, h1]
  simp only [leaksE, hb, hs, h1, if_true, Bool.false_eq_true, if_false, outB, Bool.or_eq_true, decide_eq_true_eq]
theorem leaks_out {h : Hist} {x y : Int} (he : leaksE h x y ≠ 0) : leaksL h x y = [] := by simp [leaksL, he]
theorem leaks_in {h : Hist} {x y : Int} (he : leaksE h x y = 0) : leaksL h x y = mixL h x y h.warm.length := by rw [mixL_all]; simp [leaksL, he]
theorem leaks_cases (h : Hist) (x y : Int) : leaksE h x y = 0 ∨ leaksE h x y = 2 ∨ leaksE h x y = 6 ∨ leaksE h x y = 34 := by
  unfold leaksE
  repeat (first | (split) | simp)
end Bal.Gas

/-
  Clashes, and what can have leaked without one: plain Lean, no program in sight.
-/
namespace Bal.Gas
open Bal.Trim
theorem need_le {h : Hist} {c : Nat} {M : Int} (hM : -1152921504606846976 ≤ M) : ∀ k, (∀ i, i < k → toldLo h c i ≤ M) → needTo h c k ≤ M
  | 0, _ => hM
  | k + 1, hk => by
    have h1 := need_le hM k fun i hi => hk i (by omega)
    have h2 := hk k (by omega)
    simp only [needTo]
    omega
theorem can_ge {h : Hist} {c : Nat} {M : Int} (hM : M ≤ 1152921504606846976) : ∀ k, (∀ i, i < k → M ≤ toldHi h c i) → M ≤ canTo h c k
  | 0, _ => hM
  | k + 1, hk => by
    have h1 := can_ge hM k fun i hi => hk i (by omega)
    have h2 := hk k (by omega)
    simp only [canTo]
    omega
end Bal.Gas

/-
  Cells that did leak, flows that are known, gauges that tell no wrong: plain Lean, no program in sight.
-/
namespace Bal.Gas
open Bal.Trim
/-- what a gauge tells of an amount -/
def gV (a : Air) (wl wide n : Int) : Sp := ⟨max 0 (n * (a.tlo + wl) / a.plo - wide), n * (a.tlo + wl) / a.plo + 1 + wide⟩
structure Dr where
  am : List Int
  lo : List Int
  all : Int
  fl : List Flow
def inp (st : List Int) (i : Nat) : Int := if 2 * i + 1 < st.length then st.getD (2 * i) 0 else 0
def outp (st : List Int) (i : Nat) (A : Int) : Int := if 2 * i + 1 < st.length then min (st.getD (2 * i + 1) 0 % 16) A else 0
def inn (k : Nat) (st : List Int) (i : Nat) (A : Int) : Int := if k % 2 = 1 then -(min (inp st i) (A - outp st i A)) else inp st i
def Dr.step (k : Nat) (st : List Int) (d : Dr) (i : Nat) : Dr :=
  ⟨d.am.set i (d.am.getD i 0 + (inn k st i (d.am.getD i 0) - outp st i (d.am.getD i 0))), d.lo.set i (d.lo.getD i 0 + outp st i (d.am.getD i 0)), d.all + outp st i (d.am.getD i 0), d.fl ++ [⟨10 * k + 3, i, inn k st i (d.am.getD i 0)⟩]⟩
def Dr.cells (k : Nat) (st : List Int) (d : Dr) : Nat → Dr
  | 0 => d
  | i + 1 => (d.cells k st i).step k st i
def Dr.zero (start : List Int) : Dr := ⟨start, List.replicate start.length 0, 0, []⟩
def Dr.after (start : List Int) (sts : List (List Int)) : Nat → Dr
  | 0 => Dr.zero start
  | k + 1 => (Dr.after start sts k).cells k (sts.getD k []) start.length
/-- the flows of one cell -/
def ofC (c : Nat) (f : Flow) : Int := if f.cell = c then f.n else 0
structure Dr.Inv (start : List Int) (k : Nat) (d : Dr) : Prop where
  am : d.am.length = start.length
  lo : d.lo.length = start.length
  at_ : ∀ c, c < start.length → (0 ≤ d.am.getD c 0 ∧ d.am.getD c 0 ≤ 65535 + 255 * d.fl.length) ∧ (0 ≤ d.lo.getD c 0 ∧ d.lo.getD c 0 ≤ 15 * d.fl.length) ∧ d.am.getD c 0 = start.getD c 0 + sumBy (ofC c) d.fl - d.lo.getD c 0
  all0 : 0 ≤ d.all
  all1 : d.all ≤ 15 * d.fl.length
  sum : d.all = sumBy (fun x => x) d.lo
  fl : ∀ f ∈ d.fl, (0 ≤ f.time ∧ f.time ≤ 10 * k + 3) ∧ (0 ≤ f.cell ∧ f.cell < start.length) ∧ -255 ≤ f.n ∧ f.n ≤ 255
theorem outp_bd {st : List Int} (hst : ∀ x ∈ st, 0 ≤ x ∧ x ≤ 255) (i : Nat) {A : Int} (hA : 0 ≤ A) : 0 ≤ outp st i A ∧ outp st i A ≤ A ∧ outp st i A ≤ 15 := by
  unfold outp
  split
  · have : 0 ≤ st.getD (2 * i + 1) 0 % 16 ∧ st.getD (2 * i + 1) 0 % 16 < 16 := ⟨Int.emod_nonneg _ (by decide), Int.emod_lt_of_pos _ (by decide)⟩
    omega
  · omega
theorem getD_B {st : List Int} (hst : ∀ x ∈ st, 0 ≤ x ∧ x ≤ 255) (i : Nat) : 0 ≤ st.getD i 0 ∧ st.getD i 0 ≤ 255 := by
  by_cases h : i < st.length
  · rw [List.getD_eq_getElem?_getD, List.getElem?_eq_getElem h]
    exact hst _ (List.getElem_mem h)
  · rw [List.getD_eq_getElem?_getD, List.getElem?_eq_none (by omega)]
    simp
theorem inp_bd {st : List Int} (hst : ∀ x ∈ st, 0 ≤ x ∧ x ≤ 255) (i : Nat) : 0 ≤ inp st i ∧ inp st i ≤ 255 := by
  unfold inp
  split
  · exact getD_B hst _
  · omega
theorem inn_bd (k : Nat) {st : List Int} (hst : ∀ x ∈ st, 0 ≤ x ∧ x ≤ 255) (i : Nat) {A : Int} (hA : 0 ≤ A) : -255 ≤ inn k st i A ∧ inn k st i A ≤ 255 ∧ 0 ≤ A + inn k st i A - outp st i A := by
  have h1 := outp_bd hst i hA
  have h2 := inp_bd hst i
  unfold inn
  split <;> omega
theorem getD_set {l : List Int} {i c : Nat} {x : Int} (hi : i < l.length) : (l.set i x).getD c 0 = if c = i then x else l.getD c 0 := by
  rw [List.getD_eq_getElem?_getD, List.getElem?_set]
  by_cases h : i = c
  · subst h; simp [hi]
  · simp [h, Ne.symm h, List.getD_eq_getElem?_getD]
theorem Dr.step_inv {start : List Int} {k j : Nat} {d : Dr} (h : d.Inv start j) (hj : j ≤ k) {st : List Int} (hst : ∀ x ∈ st, 0 ≤ x ∧ x ≤ 255) {i : Nat} (hi : i < start.length) : (d.step k st i).Inv start k := by
  obtain ⟨h1, h2, h3, h4, h5, h6, h7⟩ := h
  obtain ⟨⟨a0, a1⟩, ⟨b0, b1⟩, ab⟩ := h3 i hi
  have o := outp_bd hst i a0
  have n := inn_bd k hst i a0
  refine ⟨by simp [Dr.step, h1], by simp [Dr.step, h2], fun c hc => ?_, ?_, ?_, ?_, fun f hf => ?_⟩
  · obtain ⟨⟨c0, c1⟩, ⟨e0, e1⟩, ce⟩ := h3 c hc
    simp only [Dr.step]
    rw [getD_set (by omega), getD_set (by omega), sumBy_append, sumBy_cons, sumBy_nil, List.length_append, List.length_singleton]
    by_cases hci : c = i
    · subst hci
      simp only [if_true, ofC]
      omega
    · have : ¬ ((i : Int) = (c : Int)) := by omega
      simp only [hci, if_false, ofC, this]
      omega
  · simp only [Dr.step]; omega
  · simp only [Dr.step, List.length_append, List.length_singleton]; omega
  · simp only [Dr.step]
    rw [sumBy_set _ _ _ _ (by omega), h6]
    have : d.lo.getD i 0 = d.lo[i]'(by omega) := by rw [List.getD_eq_getElem?_getD, List.getElem?_eq_getElem (by omega)]; rfl
    rw [this]
    omega
  · simp only [Dr.step, List.mem_append, List.mem_singleton] at hf
    rcases hf with hf | rfl
    · have := h7 f hf; omega
    · simp only; omega
theorem Dr.cells_inv {start : List Int} {k j : Nat} {d : Dr} (h : d.Inv start j) (hj : j ≤ k) {st : List Int} (hst : ∀ x ∈ st, 0 ≤ x ∧ x ≤ 255) : ∀ i, i ≤ start.length → (d.cells k st i).Inv start k
  | 0, _ => ⟨h.am, h.lo, h.at_, h.all0, h.all1, h.sum, fun f hf => by have := h.fl f hf; omega⟩
  | i + 1, hi => Dr.step_inv (Dr.cells_inv h hj hst i (by omega)) (Nat.le_refl _) hst (by omega)
theorem Dr.cells_fl (k : Nat) (st : List Int) (d : Dr) : ∀ i, ∃ r, (d.cells k st i).fl = d.fl ++ r ∧ r.length = i ∧ ∀ f ∈ r, f.time = 10 * (k : Int) + 3
  | 0 => ⟨[], by simp [Dr.cells], rfl, by simp⟩
  | i + 1 => by
    obtain ⟨r, h1, h2, h3⟩ := Dr.cells_fl k st d i
    refine ⟨r ++ [⟨10 * k + 3, i, inn k st i ((d.cells k st i).am.getD i 0)⟩], by simp [Dr.cells, Dr.step, h1], by simp [h2], fun f hf => ?_⟩
    simp only [List.mem_append, List.mem_singleton] at hf
    rcases hf with hf | rfl
    · exact h3 f hf
    · rfl
theorem Dr.cells_mono {start : List Int} {k j : Nat} {d : Dr} (h : d.Inv start j) (hj : j ≤ k) {st : List Int} (hst : ∀ x ∈ st, 0 ≤ x ∧ x ≤ 255) {c : Nat} : ∀ i, i ≤ start.length → d.lo.getD c 0 ≤ (d.cells k st i).lo.getD c 0
  | 0, _ => Int.le_refl _
  | i + 1, hi => by
    have ih := Dr.cells_mono h hj hst (c := c) i (by omega)
    have hv := Dr.cells_inv h hj hst i (by omega)
    have o := outp_bd hst i (hv.at_ i (by omega)).1.1
    have hl := hv.lo
    simp only [Dr.cells, Dr.step]
    rw [getD_set (by omega)]
    split
    · rename_i e; subst e; omega
    · exact ih
theorem Dr.zero_inv {start : List Int} (hs : ∀ x ∈ start, 0 ≤ x ∧ x ≤ 65535) : (Dr.zero start).Inv start 0 := by
  refine ⟨rfl, by simp [Dr.zero], fun c hc => ?_, by simp [Dr.zero], by simp [Dr.zero], ?_, by simp [Dr.zero]⟩
  · have e : start.getD c 0 = start[c] := by rw [List.getD_eq_getElem?_getD, List.getElem?_eq_getElem hc]; rfl
    have := hs _ (List.getElem_mem hc)
    simp only [Dr.zero, e]
    have r : (List.replicate start.length (0 : Int)).getD c 0 = 0 := by simp [List.getD_eq_getElem?_getD, List.getElem?_replicate]; split <;> rfl
    rw [r]
    simp
    omega
  · simp only [Dr.zero]
    generalize start.length = n
    induction n with
    | zero => rfl
    | succ n ih => rw [List.replicate_succ, sumBy_cons, ← ih]; rfl
theorem Dr.after_inv {start : List Int} {sts : List (List Int)} (hs : ∀ x ∈ start, 0 ≤ x ∧ x ≤ 65535) (ht : ∀ st ∈ sts, ∀ x ∈ st, 0 ≤ x ∧ x ≤ 255) : ∀ k, k ≤ sts.length → (Dr.after start sts k).Inv start (k - 1) ∧ (Dr.after start sts k).fl.length = k * start.length
  | 0, _ => ⟨Dr.zero_inv hs, by simp [Dr.after, Dr.zero]⟩
  | k + 1, hk => by
    obtain ⟨h1, h2⟩ := Dr.after_inv hs ht k (by omega)
    have hst : ∀ x ∈ sts.getD k [], 0 ≤ x ∧ x ≤ 255 := by
      rw [List.getD_eq_getElem?_getD, List.getElem?_eq_getElem (by omega)]
      exact ht _ (List.getElem_mem _)
    refine ⟨Dr.cells_inv h1 (by omega) hst start.length (Nat.le_refl _), ?_⟩
    obtain ⟨r, e, hr, _⟩ := Dr.cells_fl k (sts.getD k []) (Dr.after start sts k) start.length
    simp only [Dr.after]
    rw [e, List.length_append, hr, h2, Nat.succ_mul]
theorem Dr.after_fl {start : List Int} {sts : List (List Int)} {i : Nat} : ∀ k, i ≤ k → ∃ r, (Dr.after start sts k).fl = (Dr.after start sts i).fl ++ r ∧ ∀ f ∈ r, 10 * (i : Int) + 3 ≤ f.time
  | 0, hk => by obtain rfl : i = 0 := by omega
                exact ⟨[], by simp, by simp⟩
  | k + 1, hk => by
    by_cases h : i = k + 1
    · subst h; exact ⟨[], by simp, by simp⟩
    · obtain ⟨r, h1, h2⟩ := Dr.after_fl (start := start) (sts := sts) (i := i) k (by omega)
      obtain ⟨q, e, _, hq⟩ := Dr.cells_fl k (sts.getD k []) (Dr.after start sts k) start.length
      refine ⟨r ++ q, by simp only [Dr.after]; rw [e, h1, List.append_assoc], fun f hf => ?_⟩
      rcases List.mem_append.1 hf with hf | hf
      · exact h2 f hf
      · have := hq f hf; omega
theorem Dr.after_mono {start : List Int} {sts : List (List Int)} (hs : ∀ x ∈ start, 0 ≤ x ∧ x ≤ 65535) (ht : ∀ st ∈ sts, ∀ x ∈ st, 0 ≤ x ∧ x ≤ 255) {c i : Nat} : ∀ k, i ≤ k → k ≤ sts.length → (Dr.after start sts i).lo.getD c 0 ≤ (Dr.after start sts k).lo.getD c 0
  | 0, hk, _ => by obtain rfl : i = 0 := by omega
                   exact Int.le_refl _
  | k + 1, hk, hl => by
    by_cases h : i = k + 1
    · subst h; exact Int.le_refl _
    · have ih := Dr.after_mono hs ht (c := c) (i := i) k (by omega) (by omega)
      have hst : ∀ x ∈ sts.getD k [], 0 ≤ x ∧ x ≤ 255 := by
        rw [List.getD_eq_getElem?_getD, List.getElem?_eq_getElem (by omega)]
        exact ht _ (List.getElem_mem _)
      exact Int.le_trans ih (Dr.cells_mono (Dr.after_inv hs ht k (by omega)).1 (by omega) hst start.length (Nat.le_refl _))
/-- the history that the statement draws -/
structure Drawn (start : List Int) (sts : List (List Int)) (a : Air) (wl wh wide : Int) (h : Hist) : Prop where
  s0 : 1 ≤ start.length
  s1 : start.length ≤ 6
  t1 : sts.length ≤ 7
  hs : ∀ x ∈ start, 0 ≤ x ∧ x ≤ 65535
  ht : ∀ st ∈ sts, ∀ x ∈ st, 0 ≤ x ∧ x ≤ 255
  air : airB a = true
  wm : warmB ⟨wl, wh⟩ = true
  w0 : 0 ≤ wide
  w1 : wide ≤ 255
  warm : h.warm = List.replicate start.length ⟨wl, wh⟩
  glen : h.gauges.length = sts.length + 1
  ga : ∀ i, i < sts.length + 1 → tt h i = 10 * i ∧ (gAt h i).air = a ∧ (gAt h i).vols = (Dr.after start sts i).am.map (gV a wl wide)
  fl : h.flows = (Dr.after start sts sts.length).fl
variable {start : List Int} {sts : List (List Int)} {a : Air} {wl wh wide : Int} {h : Hist}
theorem come_part (l r : List Flow) (c : Nat) (b : Int) (hl : ∀ f ∈ l, 0 < f.time ∧ f.time ≤ b) (hr : ∀ f ∈ r, b < f.time) : sumBy (flowN c 0 b) (l ++ r) = sumBy (ofC c) l := by
  rw [sumBy_append]
  have h1 : sumBy (flowN c 0 b) l = sumBy (ofC c) l := by
    induction l with
    | nil => rfl
    | cons f l ih =>
      rw [sumBy_cons, sumBy_cons, ih fun g hg => hl g (List.mem_cons_of_mem _ hg)]
      have := hl f (List.mem_cons_self ..)
      congr 1
      simp [flowN, flowIn, ofC, this]
  have h2 : sumBy (flowN c 0 b) r = 0 := by
    clear h1 hl
    induction r with
    | nil => rfl
    | cons f r ih =>
      rw [sumBy_cons, ih fun g hg => hr g (List.mem_cons_of_mem _ hg)]
      have := hr f (List.mem_cons_self ..)
      have : flowN c 0 b f = 0 := by simp [flowN, flowIn, show ¬ f.time ≤ b by omega]
      omega
  omega
theorem Dr.after_time : ∀ k, ∀ f ∈ (Dr.after start sts k).fl, 0 < f.time ∧ f.time ≤ 10 * (k : Int)
  | 0, f, hf => by simp [Dr.after, Dr.zero] at hf
  | k + 1, f, hf => by
    obtain ⟨q, e, _, hq⟩ := Dr.cells_fl k (sts.getD k []) (Dr.after start sts k) start.length
    simp only [Dr.after] at hf
    rw [e] at hf
    rcases List.mem_append.1 hf with hf | hf
    · have := Dr.after_time k f hf; omega
    · have := hq f hf; omega
theorem Drawn.come (d : Drawn start sts a wl wh wide h) {i : Nat} (hi : i ≤ sts.length) (c : Nat) : come h c (tt h 0) (tt h i) = sumBy (ofC c) (Dr.after start sts i).fl := by
  rw [(d.ga 0 (by omega)).1, (d.ga i (by omega)).1]
  unfold Bal.Gas.come
  rw [d.fl]
  obtain ⟨r, e, hr⟩ := Dr.after_fl (start := start) (sts := sts) (i := i) sts.length hi
  rw [e]
  refine come_part _ _ c _ (fun f hf => ?_) fun f hf => ?_
  · exact Dr.after_time i f hf
  · have := hr f hf; omega
theorem gV_bd {n : Int} (ha : airB a = true) (hw : warmB ⟨wl, wh⟩ = true) (h0 : 0 ≤ wide) (h1 : wide ≤ 255) (hn : 0 ≤ n) (hn1 : n ≤ 100000) : (0 ≤ n * (a.tlo + wl) ∧ n * (a.tlo + wl) ≤ 380000000) ∧ (0 ≤ n * (a.tlo + wl) / a.plo ∧ n * (a.tlo + wl) / a.plo ≤ 380000) ∧ (gV a wl wide n).lo ≤ n * (a.tlo + wl) / a.plo ∧ volB (gV a wl wide n) = true := by
  obtain ⟨⟨p0, p1, p2⟩, t0, t1, t2⟩ := airB_iff.1 ha
  have w := span3 hw
  simp only at w
  have m0 : 0 ≤ n * (a.tlo + wl) := Int.mul_nonneg hn (by omega)
  have m1 := mul_bd (A := 100000) (B := 3800) (x := n) (y := a.tlo + wl) (by omega) (by omega) (by omega) (by omega)
  have d0 : 0 ≤ n * (a.tlo + wl) / a.plo := Int.ediv_nonneg m0 (by omega)
  have d1 : n * (a.tlo + wl) / a.plo ≤ 380000 := by
    refine Int.ediv_le_of_le_mul (by omega) ?_
    omega
  unfold gV
  generalize n * (a.tlo + wl) / a.plo = v at *
  generalize n * (a.tlo + wl) = v2 at *
  refine ⟨by omega, by omega, ?_, ?_⟩
  · simp only
    omega
  · simp [volB, spanIn, rng, inB]
    omega
theorem Drawn.vAt (d : Drawn start sts a wl wh wide h) {i c : Nat} (hi : i ≤ sts.length) (hc : c < start.length) : vAt (gAt h i) c = gV a wl wide ((Dr.after start sts i).am.getD c 0) := by
  unfold Bal.Gas.vAt
  rw [(d.ga i (by omega)).2.2]
  have := (Dr.after_inv d.hs d.ht i hi).1.am
  simp [List.getD_eq_getElem?_getD, show c < (Dr.after start sts i).am.length by omega]
theorem Drawn.wAt (d : Drawn start sts a wl wh wide h) {c : Nat} (hc : c < start.length) : wAt h c = ⟨wl, wh⟩ := by
  unfold Bal.Gas.wAt
  rw [d.warm]
  simp [List.getD_eq_getElem?_getD, hc]
theorem Drawn.am_bd (d : Drawn start sts a wl wh wide h) {i c : Nat} (hi : i ≤ sts.length) (hc : c < start.length) : 0 ≤ (Dr.after start sts i).am.getD c 0 ∧ (Dr.after start sts i).am.getD c 0 ≤ 76245 := by
  obtain ⟨h1, h2⟩ := Dr.after_inv d.hs d.ht i hi
  have := (h1.at_ c hc).1
  have s1 := d.s1
  have t1 := d.t1
  have : i * start.length ≤ 7 * 6 := Nat.mul_le_mul (by omega) s1
  omega
/-- a gauge tells no wrong -/
theorem Drawn.al (d : Drawn start sts a wl wh wide h) {i c : Nat} (hi : i ≤ sts.length) (hc : c < start.length) : alLo h i c ≤ (Dr.after start sts i).am.getD c 0 ∧ (Dr.after start sts i).am.getD c 0 ≤ alHi h i c := by
  obtain ⟨n0, n1⟩ := d.am_bd hi hc
  obtain ⟨⟨p0, p1, p2⟩, t0, t1, t2⟩ := airB_iff.1 d.air
  have w := span3 d.wm
  simp only at w
  have w0 := d.w0
  obtain ⟨⟨m0, m1⟩, ⟨q0, q1⟩, _, _⟩ := gV_bd d.air d.wm d.w0 d.w1 n0 (show (Dr.after start sts i).am.getD c 0 ≤ 100000 by omega)
  unfold alLo alHi
  rw [d.vAt hi hc, d.wAt hc, (d.ga i (by omega)).2.1]
  generalize (Dr.after start sts i).am.getD c 0 = n at *
  have e1 := Int.mul_ediv_self_le (x := n * (a.tlo + wl)) (k := a.plo) (by omega)
  have e2 := Int.lt_mul_ediv_self_add (x := n * (a.tlo + wl)) (k := a.plo) (by omega)
  generalize hv : n * (a.tlo + wl) / a.plo = v at *
  simp only [gV, hv]
  constructor
  · have : -n ≤ -(max 0 (v - wide) * a.plo) / (a.thi + wh) := by
      rw [Int.le_ediv_iff_mul_le (by omega)]
      have k1 : max 0 (v - wide) * a.plo ≤ v * a.plo := Int.mul_le_mul_of_nonneg_right (by omega) (by omega)
      have k2 : n * (a.tlo + wl) ≤ n * (a.thi + wh) := Int.mul_le_mul_of_nonneg_left (by omega) n0
      rw [Int.mul_comm v] at k1
      rw [Int.neg_mul]
      omega
    omega
  · rw [Int.le_ediv_iff_mul_le (by omega)]
    have k1 : (v + 1) * a.plo ≤ (v + 1 + wide) * a.phi := Int.mul_le_mul (by omega) (by omega) (by omega) (by omega)
    have k2 : (v + 1) * a.plo = a.plo * v + a.plo := by rw [Int.mul_comm, Int.mul_add]; omega
    omega
theorem Drawn.valid (d : Drawn start sts a wl wh wide h) : histB h = true := by
  have s0 := d.s0
  have s1 := d.s1
  have t1 := d.t1
  have wl_ : h.warm.length = start.length := by rw [d.warm]; simp
  have fv := (Dr.after_inv d.hs d.ht sts.length (Nat.le_refl _))
  have hmul : sts.length * start.length ≤ 7 * 6 := Nat.mul_le_mul t1 s1
  refine histB_true ?_ (fun c hc => ?_) (fun i hi => ?_) fun k hk => ?_
  · rw [sizesB_iff, wl_, d.glen, d.fl]
    omega
  · rw [d.wAt (by omega)]; exact d.wm
  · have hi' : i < sts.length + 1 := by rw [d.glen] at hi; exact hi
    rw [okG_parts fun h0 => by rw [(d.ga (i - 1) (by omega)).1]; omega]
    rw [(d.ga i hi').1, (d.ga i hi').2.1, (d.ga i hi').2.2]
    have hl := (Dr.after_inv d.hs d.ht i (by omega)).1.am
    simp only [Bool.and_eq_true, decide_eq_true_eq, List.length_map, Bool.or_eq_true, d.air, and_true, List.all_eq_true, List.mem_map]
    refine ⟨⟨⟨by rw [inB_iff]; omega, ?_⟩, by rw [hl, wl_]⟩, ?_⟩
    · by_cases h0 : i = 0
      · exact .inl h0
      · right; rw [(d.ga (i - 1) (by omega)).1]; omega
    · rintro v ⟨n, hn, rfl⟩
      obtain ⟨c, hc, rfl⟩ := List.mem_iff_getElem.1 hn
      have := d.am_bd (i := i) (c := c) (by omega) (by omega)
      have e : (Dr.after start sts i).am.getD c 0 = (Dr.after start sts i).am[c] := by rw [List.getD_eq_getElem?_getD, List.getElem?_eq_getElem hc]; rfl
      rw [e] at this
      exact (gV_bd d.air d.wm d.w0 d.w1 this.1 (by omega)).2.2.2
  · have hm : h.flows[k] ∈ (Dr.after start sts sts.length).fl := by rw [← d.fl]; exact List.getElem_mem hk
    obtain ⟨h1, h2, h3⟩ := fv.1.fl _ hm
    rw [wl_]
    simp only [flowB, Bool.and_eq_true, inB_iff]
    omega
theorem Drawn.told (d : Drawn start sts a wl wh wide h) {i c : Nat} (hi : i ≤ sts.length) (hc : c < start.length) : toldLo h c i ≤ start.getD c 0 - (Dr.after start sts i).lo.getD c 0 ∧ start.getD c 0 - (Dr.after start sts i).lo.getD c 0 ≤ toldHi h c i := by
  have h1 := d.al hi hc
  have h2 := d.come hi c
  have h3 := ((Dr.after_inv d.hs d.ht i hi).1.at_ c hc).2.2
  unfold toldLo toldHi
  omega
theorem Drawn.free (d : Drawn start sts a wl wh wide h) : conf h = none := by
  have ho := histB_ok d.valid
  have wl_ : h.warm.length = start.length := by rw [d.warm]; simp
  have gl := d.glen
  refine conf_none fun c t f hc ht hf => ?_
  rw [clash_told ho hf ht]
  have h1 := d.told (i := f) (c := c) (by omega) (by omega)
  have h2 := d.told (i := t) (c := c) (by omega) (by omega)
  have m := Dr.after_mono d.hs d.ht (c := c) (i := f) t hf (by omega)
  have n1 : ¬ toldHi h c f < toldLo h c f := by omega
  have n2 : ¬ toldHi h c f < toldLo h c t := by omega
  simp [n1, n2]
theorem Drawn.confE (d : Drawn start sts a wl wh wide h) : confE h = 6 := (cf_none d.valid d.free).2.2.2
/-- what has leaked of a cell -/
def lostAt (start : List Int) (sts : List (List Int)) (c : Nat) : Int := (Dr.after start sts sts.length).lo.getD c 0
theorem Drawn.lost (d : Drawn start sts a wl wh wide h) {c : Nat} (hc : c < start.length) : lostLo h c ≤ lostAt start sts c ∧ lostAt start sts c ≤ lostHi h c := by
  have gl := d.glen
  have z := (Dr.after_inv d.hs d.ht sts.length (Nat.le_refl _)).1.at_ c hc
  unfold lostAt
  by_cases h0 : sts.length = 0
  · have e : (Dr.after start sts sts.length).lo.getD c 0 = 0 := by
      rw [h0]
      simp only [Dr.after, Dr.zero, List.getD_eq_getElem?_getD, List.getElem?_replicate]
      split <;> rfl
    rw [e]
    unfold lostLo lostHi
    rw [gl, h0]
    simp
  · have h1 := d.told (i := 0) (c := c) (by omega) hc
    have h2 := d.told (i := sts.length) (c := c) (by omega) hc
    have e : (Dr.after start sts 0).lo.getD c 0 = 0 := by
      simp only [Dr.after, Dr.zero, List.getD_eq_getElem?_getD, List.getElem?_replicate]
      split <;> rfl
    rw [e] at h1
    have ss := (Dr.after_inv d.hs d.ht 0 (Nat.zero_le _)).1.at_ c hc
    have hst : 0 ≤ start.getD c 0 ∧ start.getD c 0 ≤ 65535 := by
      rw [List.getD_eq_getElem?_getD, List.getElem?_eq_getElem hc]
      exact d.hs _ (List.getElem_mem hc)
    have nn := need_le (h := h) (c := c) (M := start.getD c 0) (by omega) h.gauges.length fun i hi => by
      have := d.told (i := i) (c := c) (by omega) hc
      have := (Dr.after_inv d.hs d.ht i (by omega)).1.at_ c hc
      omega
    have t1 := d.t1
    have s1 := d.s1
    have hmul : sts.length * start.length ≤ 7 * 6 := Nat.mul_le_mul t1 s1
    have fl := (Dr.after_inv d.hs d.ht sts.length (Nat.le_refl _)).2
    have cc := can_ge (h := h) (c := c) (M := start.getD c 0 - (Dr.after start sts sts.length).lo.getD c 0) (by omega) h.gauges.length fun i hi => by
      have := d.told (i := i) (c := c) (by omega) hc
      have := Dr.after_mono d.hs d.ht (c := c) (i := i) sts.length (by omega) (Nat.le_refl _)
      omega
    unfold lostLo lostHi
    rw [if_neg (by omega), if_neg (by omega)]
    have e2 : h.gauges.length - 1 = sts.length := by omega
    rw [e2]
    omega
theorem sum_getD (l : List Int) : ∀ k, k ≤ l.length → sumBy (fun c => l.getD c 0) (List.range k) = sumBy (fun x => x) (l.take k)
  | 0, _ => by simp
  | k + 1, hk => by
    rw [List.range_succ, sumBy_append, sum_getD l k (by omega), sumBy_take _ _ _ (by omega), sumBy_cons, sumBy_nil]
    rw [List.getD_eq_getElem?_getD, List.getElem?_eq_getElem (by omega)]
    simp
theorem Drawn.alls (d : Drawn start sts a wl wh wide h) : ∀ k, k ≤ start.length → allLo h k ≤ sumBy (lostAt start sts) (List.range k) ∧ sumBy (lostAt start sts) (List.range k) ≤ allHi h k ∧
    (∀ c, c < k → allLo h k - lostLo h c ≤ sumBy (lostAt start sts) (List.range k) - lostAt start sts c ∧ sumBy (lostAt start sts) (List.range k) - lostAt start sts c ≤ allHi h k - lostHi h c)
  | 0, _ => by simp [allLo, allHi]
  | k + 1, hk => by
    obtain ⟨h1, h2, h3⟩ := d.alls k (by omega)
    have b := d.lost (c := k) (by omega)
    rw [allLo_succ, allHi_succ, List.range_succ, sumBy_append, sumBy_cons, sumBy_nil]
    refine ⟨by omega, by omega, fun c hc => ?_⟩
    by_cases e : c = k
    · subst e; omega
    · have := h3 c (by omega); omega
theorem Drawn.all (d : Drawn start sts a wl wh wide h) : sumBy (lostAt start sts) (List.range start.length) = (Dr.after start sts sts.length).all := by
  have z := (Dr.after_inv d.hs d.ht sts.length (Nat.le_refl _)).1
  rw [z.sum]
  have := sum_getD (Dr.after start sts sts.length).lo start.length (by rw [z.lo]; exact Nat.le_refl _)
  rw [← z.lo, List.take_length] at this
  rw [← this, z.lo]
  rfl
theorem Drawn.leaks (d : Drawn start sts a wl wh wide h) {x y : Int} (hx : 0 ≤ x) (hy : y ≤ 1000000000000) (hxa : x ≤ (Dr.after start sts sts.length).all) (hya : (Dr.after start sts sts.length).all ≤ y) :
    leaksE h x y = 0 ∧ (leaksL h x y).length = start.length ∧ ∀ c (hc : c < (leaksL h x y).length), (leaksL h x y)[c].lo ≤ lostAt start sts c ∧ lostAt start sts c ≤ (leaksL h x y)[c].hi := by
  have wl_ : h.warm.length = start.length := by rw [d.warm]; simp
  obtain ⟨h1, h2, h3⟩ := d.alls start.length (Nat.le_refl _)
  rw [d.all] at h1 h2 h3
  have hsp : spanIn x y 0 1000000000000 = true := by simp [spanIn, rng, inB]; omega
  have e : leaksE h x y = 0 := by
    rw [leaks_free d.valid hsp (by rw [d.confE]; decide)]
    have : outB h x y = false := by
      simp only [outB, wl_]
      simp
      omega
    rw [this]; rfl
  have el : leaksL h x y = (List.range h.warm.length).map fun c => ⟨leakLo h x c, leakHi h y c⟩ := by simp [leaksL, e]
  rw [el]
  refine ⟨e, by simp [wl_], fun c hc => ?_⟩
  have hc : c < start.length := by simpa [wl_] using hc
  have := h3 c hc
  have b := d.lost hc
  simp only [List.getElem_map, List.getElem_range, leakLo, leakHi, wl_]
  omega
theorem namedTo_mem {l : List Sp} : ∀ (k : Nat) (x : Int), x ∈ namedTo l k → ∃ j : Nat, j < k ∧ x = j ∧ 0 < (l.getD j default).lo
  | 0, x, hx => by simp [namedTo] at hx
  | k + 1, x, hx => by
    simp only [namedTo, List.mem_append] at hx
    rcases hx with hx | hx
    · obtain ⟨j, h1, h2, h3⟩ := namedTo_mem k x hx
      exact ⟨j, by omega, h2, h3⟩
    · split at hx
      · rename_i hp
        simp at hx
        exact ⟨k, by omega, hx, hp⟩
      · simp at hx
theorem namedTo_sorted {l : List Sp} : ∀ k, (namedTo l k).Pairwise (· < ·)
  | 0 => List.Pairwise.nil
  | k + 1 => by
    simp only [namedTo]
    rw [List.pairwise_append]
    refine ⟨namedTo_sorted k, ?_, fun x hx y hy => ?_⟩
    · split <;> simp
    · obtain ⟨j, h1, h2, _⟩ := namedTo_mem k x hx
      split at hy
      · simp at hy; omega
      · simp at hy
theorem Drawn.named (d : Drawn start sts a wl wh wide h) : leaksE h 0 1000000000000 = 0 ∧ (∀ i (hi : i < (namedL h 0 1000000000000).length), ∃ j : Nat, j < start.length ∧ (namedL h 0 1000000000000)[i] = j ∧ lostAt start sts j ≠ 0) ∧
    (namedL h 0 1000000000000).Pairwise (· < ·) := by
  have wl_ : h.warm.length = start.length := by rw [d.warm]; simp
  have z := (Dr.after_inv d.hs d.ht sts.length (Nat.le_refl _))
  have t1 := d.t1
  have s1 := d.s1
  have hmul : sts.length * start.length ≤ 7 * 6 := Nat.mul_le_mul t1 s1
  have za := z.1.all0
  have zb := z.1.all1
  obtain ⟨e, el, hb⟩ := d.leaks (x := 0) (y := 1000000000000) (by decide) (by decide) (by omega) (by omega)
  refine ⟨e, fun i hi => ?_, namedTo_sorted _⟩
  obtain ⟨j, h1, h2, h3⟩ := namedTo_mem _ _ (List.getElem_mem hi)
  have hj : j < (leaksL h 0 1000000000000).length := by omega
  have := hb j hj
  rw [List.getD_eq_getElem?_getD, List.getElem?_eq_getElem hj] at h3
  simp at h3
  exact ⟨j, by omega, h2, by omega⟩
end Bal.Gas

/-
  Whatever there is lies in the spans that are told; no narrower spans: plain Lean, no program in sight.
-/
namespace Bal.Gas
open Bal.Trim
theorem fl_le {p T t : Int} (hT : 0 < T) (h : (0 ≤ p ∧ t ≤ T) ∨ (p ≤ 0 ∧ T ≤ t)) : (p / T) * t ≤ p := by
  have h0 : (p / T) * T ≤ p := Int.ediv_mul_le p (by omega)
  rcases h with ⟨h1, h2⟩ | ⟨h1, h2⟩
  · have := Int.mul_le_mul_of_nonneg_left h2 (Int.ediv_nonneg h1 (by omega) : 0 ≤ p / T)
    omega
  · have h3 : p / T ≤ 0 := Int.ediv_le_of_le_mul hT (by rw [Int.zero_mul]; exact h1)
    have := Int.mul_le_mul_of_nonpos_left h3 h2
    omega
theorem held_vol {c : Cell} {a : Air} {p t w : Int} (hc : cellB c = true) (ha : airB a = true) (hp : a.plo ≤ p ∧ p ≤ a.phi) (ht : a.tlo ≤ t ∧ t ≤ a.thi) (hw : c.wlo ≤ w ∧ w ≤ c.whi) :
    volLo c a * p ≤ amount c * (t + w) ∧ amount c * (t + w) ≤ volHi c a * p := by
  obtain ⟨n0, _, ⟨p0, p1, _⟩, _⟩ := prod_bd hc ha
  obtain ⟨⟨b1, b2, b3⟩, _⟩ := airB_iff.1 ha
  have m1 : amount c * heatLo c a ≤ amount c * (t + w) := Int.mul_le_mul_of_nonneg_left (by unfold heatLo; omega) n0
  have m2 : amount c * (t + w) ≤ amount c * heatHi c a := Int.mul_le_mul_of_nonneg_left (by unfold heatHi; omega) n0
  have f1 := fl_le (p := amount c * heatLo c a) (T := a.phi) (t := p) (by omega) (.inl ⟨p0, hp.2⟩)
  have f2 := fl_le (p := -(amount c * heatHi c a)) (T := a.plo) (t := p) (by omega) (.inr ⟨by omega, hp.1⟩)
  unfold volLo volHi
  rw [Int.neg_mul]
  omega
theorem span_bd {c : Cell} {a : Air} (hc : cellB c = true) (ha : airB a = true) :
    ((0 ≤ volLo c a ∧ volLo c a ≤ 76000000000) ∧ 0 ≤ volHi c a ∧ volHi c a ≤ 76000000000) ∧ ((-200000000000 ≤ liftLo c a ∧ liftLo c a ≤ 200000000000) ∧ -200000000000 ≤ liftHi c a ∧ liftHi c a ≤ 200000000000) ∧
    (0 ≤ ceilLo c a.tlo ∧ ceilLo c a.tlo ≤ 76000000000) ∧ 0 ≤ ceilHi c a.thi ∧ ceilHi c a.thi ≤ 76000000000 := by
  obtain ⟨n0, n1, ⟨p0, p1, p2⟩, _⟩ := prod_bd hc ha
  obtain ⟨⟨b1, b2, b3⟩, b4, b5, b6⟩ := airB_iff.1 ha
  obtain ⟨⟨r1, r2⟩, ⟨e1, e2⟩, _, _, _, u3, u4, u5⟩ := cellB_iff.1 hc
  have k1 := pull_bd (x := c.wlo) hc (by omega)
  have k2 := pull_bd (x := c.whi) hc (by omega)
  have d1 := div_bd (N := 76000000000) (a := amount c * heatLo c a) (b := a.phi) (by omega) (by omega) (by omega) (by omega)
  have d2 := div_bd (N := 76000000000) (a := -(amount c * heatHi c a)) (b := a.plo) (by omega) (by omega) (by omega) (by omega)
  have d3 := div_bd (N := 174000000000) k1.1 k1.2 (show 0 < a.tlo by omega) (by omega)
  have d4 := div_bd (N := 174000000000) k1.1 k1.2 (show 0 < a.thi by omega) (by omega)
  have d5 := div_bd (N := 174000000000) (a := -pull c c.whi) (by omega) (by omega) (show 0 < a.tlo by omega) (by omega)
  have d6 := div_bd (N := 174000000000) (a := -pull c c.whi) (by omega) (by omega) (show 0 < a.thi by omega) (by omega)
  have c1 : amount c * (a.tlo + c.wlo) = amount c * heatLo c a := rfl
  have c2 : amount c * (a.thi + c.whi) = amount c * heatHi c a := rfl
  have d7 := div_bd (N := 76000000000) (a := amount c * (a.tlo + c.wlo)) (b := c.room) (by omega) (by omega) (by omega) (by omega)
  have d8 := div_bd (N := 76000000000) (a := -(amount c * (a.thi + c.whi))) (b := c.room) (by omega) (by omega) (by omega) (by omega)
  have z1 : 0 ≤ amount c * heatLo c a / a.phi := Int.ediv_nonneg p0 (by omega)
  have z2 : -(amount c * heatHi c a) / a.plo ≤ 0 := Int.ediv_le_of_le_mul (by omega) (by rw [Int.zero_mul]; omega)
  have z3 : 0 ≤ amount c * (a.tlo + c.wlo) / c.room := Int.ediv_nonneg (by omega) (by omega)
  have z4 : -(amount c * (a.thi + c.whi)) / c.room ≤ 0 := Int.ediv_le_of_le_mul (by omega) (by rw [Int.zero_mul]; omega)
  unfold volLo volHi liftLo liftHi ceilLo ceilHi
  omega
end Bal.Gas

/-
  Purity and leaks: plain Lean, no program in sight.
-/
namespace Bal.Gas
open Bal.Trim
theorem cellAt_set (p : Plant) (i j : Nat) (c : Cell) (hi : i < p.cells.length) : (p.cells.set i c).getD j default = if i = j then c else cellAt p j := by
  unfold cellAt
  by_cases h : i = j
  · subst h
    simp [hi]
  · rw [if_neg h, List.getD_eq_getElem?_getD, List.getD_eq_getElem?_getD, List.getElem?_set_ne h]
/-- a cell that leaks k times -/
def leakK (c : Cell) : Nat → Cell
  | 0 => c
  | k + 1 => leakC (leakK c k)
theorem leakC_sum (c : Cell) : (leakC c).helium + (leakC c).air = c.helium + c.air - leakN c := by
  show (c.helium - shareH c (leakN c)) + (c.air - (leakN c - shareH c (leakN c))) = _
  omega
theorem leakC_owed (c : Cell) : leakN c * 1000000 + (leakC c).owed = c.owed + (c.helium + c.air) * c.leak := by
  show (c.owed + (c.helium + c.air) * c.leak) / 1000000 * 1000000 + (c.owed + (c.helium + c.air) * c.leak) % 1000000 = _
  omega
theorem leakK_bd {c : Cell} (hc : cellB c = true) : ∀ k : Nat, cellB (leakK c k) = true ∧ (leakK c k).leak = c.leak ∧ (leakK c k).helium + (leakK c k).air ≤ c.helium + c.air ∧
    ((c.helium + c.air) - ((leakK c k).helium + (leakK c k).air)) * 1000000 + (leakK c k).owed ≤ (k : Int) * ((c.helium + c.air) * c.leak) + c.owed
  | 0 => ⟨hc, rfl, Int.le_refl _, by show (c.helium + c.air - (c.helium + c.air)) * 1000000 + c.owed ≤ _; simp⟩
  | k + 1 => by
    obtain ⟨h1, h2, h3, h4⟩ := leakK_bd hc k
    have g1 := leakC_sum (leakK c k)
    have g2 := leakC_owed (leakK c k)
    obtain ⟨_, _, g3, g4⟩ := leak_bd h1
    have g5 : (leakC (leakK c k)).leak = (leakK c k).leak := rfl
    obtain ⟨_, _, _, ⟨q1, q2⟩, _⟩ := cellB_iff.1 hc
    have m := Int.mul_le_mul_of_nonneg_right h3 q1
    have e : ((k + 1 : Nat) : Int) * ((c.helium + c.air) * c.leak) = (k : Int) * ((c.helium + c.air) * c.leak) + (c.helium + c.air) * c.leak := by
      rw [Int.natCast_add, Int.add_mul]
      simp
    show cellB (leakC (leakK c k)) = true ∧ (leakC (leakK c k)).leak = c.leak ∧ (leakC (leakK c k)).helium + (leakC (leakK c k)).air ≤ c.helium + c.air ∧
      ((c.helium + c.air) - ((leakC (leakK c k)).helium + (leakC (leakK c k)).air)) * 1000000 + (leakC (leakK c k)).owed ≤ ((k + 1 : Nat) : Int) * ((c.helium + c.air) * c.leak) + c.owed
    rw [h2] at g2 g5
    refine ⟨leakC_B h1, g5, by omega, ?_⟩
    rw [e, g1]
    omega
theorem tickTo_at (p : Plant) (i : Nat) : ∀ k, k ≤ p.cells.length → cellAt (tickTo p k) i = if i < k then leakC (cellAt p i) else cellAt p i
  | 0, _ => by simp [tickTo]
  | k + 1, h => by
    have h1 := tickTo_at p i k (by omega)
    have h2 := tickTo_at p k k (by omega)
    rw [if_neg (by omega)] at h2
    have h3 : cellAt (tickTo p (k + 1)) i = ((tickTo p k).cells.set k (leakC (cellAt (tickTo p k) k))).getD i default := rfl
    rw [h3, cellAt_set _ _ _ _ (by rw [tickTo_len]; omega), h1, h2]
    by_cases e : k = i
    · subst e
      rw [if_pos rfl, if_pos (by omega)]
    · rw [if_neg e]
      by_cases e2 : i < k
      · rw [if_pos e2, if_pos (by omega)]
      · rw [if_neg e2, if_neg (by omega)]
theorem ticks_at (p : Plant) (i : Nat) (hi : i < p.cells.length) : ∀ k, cellAt (ticks p k) i = leakK (cellAt p i) k
  | 0 => rfl
  | k + 1 => by
    show cellAt (tickTo (ticks p k) p.cells.length) i = leakC (leakK (cellAt p i) k)
    rw [tickTo_at _ _ _ (by rw [ticks_len]; exact Nat.le_refl _), if_pos hi, ticks_at p i hi k]
theorem resA_len (p : Plant) (d : Deed) : (resA p d).cells.length = p.cells.length := by
  unfold resA
  by_cases h1 : d.kind = 1
  · simp [h1, buyP]
  · by_cases h2 : d.kind = 2
    · simp [h2, fillP]
    · by_cases h3 : d.kind = 3
      · simp [h3, valveP, lessP]
      · by_cases h4 : d.kind = 4
        · simp [h4, moveP, lessP]
        · by_cases h5 : d.kind = 5
          · simp [h5, purifyP, lessP]
          · by_cases h6 : d.kind = 6
            · simp [h6, breatheP]
            · simp only [h1, h2, h3, h4, h5, h6, if_false]
              exact ticks_len p _
end Bal.Gas

/-
  Gas is conserved: what an act leaves as it was: plain Lean, no program in sight.
-/
namespace Bal.Gas
open Bal.Trim
/-- what stays of a cell, whatever the act -/
def SameC (c e : Cell) : Prop := c.room = e.room ∧ c.wlo = e.wlo ∧ c.whi = e.whi ∧ c.leak = e.leak
theorem SameC.rfl' (c : Cell) : SameC c c := ⟨rfl, rfl, rfl, rfl⟩
theorem leakK_same (c : Cell) : ∀ k, SameC (leakK c k) c
  | 0 => .rfl' c
  | k + 1 => by obtain ⟨h1, h2, h3, h4⟩ := leakK_same c k; exact ⟨h1, h2, h3, h4⟩
def namedB (d : Deed) (i : Nat) : Bool := decide (d.kind = 7) || (!decide (d.kind = 1) && decide ((i : Int) = d.cell)) || (decide (d.kind = 4) && decide ((i : Int) = d.to))
theorem err_kind {p : Plant} {d : Deed} (he : errA p d = 0) : 1 ≤ d.kind ∧ d.kind ≤ 7 := by
  by_cases h1 : d.kind = 1
  · omega
  by_cases h2 : d.kind = 2
  · omega
  by_cases h3 : d.kind = 3
  · omega
  by_cases h4 : d.kind = 4
  · omega
  by_cases h5 : d.kind = 5
  · omega
  by_cases h6 : d.kind = 6
  · omega
  by_cases h7 : d.kind = 7
  · omega
  simp [errA, h1, h2, h3, h4, h5, h6, h7] at he
theorem err_arg {p : Plant} {d : Deed} (he : errA p d = 0) : (d.kind ≠ 1 → d.kind ≠ 7 → argB p d = true) ∧ (d.kind = 4 → toB p d = true) ∧ 1 ≤ d.n := by
  have hk := err_kind he
  unfold errA at he
  by_cases h1 : d.kind = 1
  · simp [h1, rng, inB] at he
    exact ⟨fun h => absurd h1 h, fun h => by omega, by omega⟩
  by_cases h7 : d.kind = 7
  · simp [h7, rng, inB] at he
    exact ⟨fun _ h => absurd h7 h, fun h => by omega, by omega⟩
  have ha : argB p d = true := by
    cases hb : argB p d
    · have : d.kind = 2 ∨ d.kind = 3 ∨ d.kind = 4 ∨ d.kind = 5 ∨ d.kind = 6 := by omega
      rcases this with h | h | h | h | h <;> simp [h, hb] at he
    · rfl
  have hn := ha
  simp [argB, rng, inB] at hn
  refine ⟨fun _ _ => ha, fun h => ?_, by omega⟩
  cases hb : toB p d
  · simp [h, ha, hb] at he
  · rfl
theorem argB_iff {p : Plant} {d : Deed} : argB p d = true ↔ (0 ≤ d.cell ∧ d.cell ≤ p.cells.length - 1) ∧ 1 ≤ d.n ∧ d.n ≤ 10000000 := by simp [argB, rng, inB]
theorem toB_iff {p : Plant} {d : Deed} : toB p d = true ↔ (0 ≤ d.to ∧ d.to ≤ p.cells.length - 1) ∧ d.to ≠ d.cell := by simp [toB, rng, inB]
/-- one cell was set -/
theorem set_same {p : Plant} {d : Deed} {c : Cell} {i : Nat} (h : (0 ≤ d.cell ∧ d.cell ≤ p.cells.length - 1)) (hc : SameC c (at_ p d)) (ho : c.owed = (at_ p d).owed) :
    SameC ((p.cells.set d.cell.toNat c).getD i default) (cellAt p i) ∧ ((p.cells.set d.cell.toNat c).getD i default).owed = (cellAt p i).owed ∧
    ((i : Int) ≠ d.cell → (p.cells.set d.cell.toNat c).getD i default = cellAt p i) := by
  rw [cellAt_set _ _ _ _ (by omega)]
  by_cases e : d.cell.toNat = i
  · rw [if_pos e]
    have h2 : at_ p d = cellAt p i := by rw [at_, e]
    rw [← h2]
    exact ⟨hc, ho, fun h => by omega⟩
  · rw [if_neg e]
    exact ⟨.rfl' _, rfl, fun _ => rfl⟩
theorem kept_cell {p : Plant} {d : Deed} {i : Nat} (hi : i < p.cells.length) (he : errA p d = 0) :
    SameC (cellAt (resA p d) i) (cellAt p i) ∧ (d.kind ≠ 7 → (cellAt (resA p d) i).owed = (cellAt p i).owed) ∧ (namedB d i = false → cellAt (resA p d) i = cellAt p i) := by
  have hk := err_kind he
  obtain ⟨ha, ht, hn⟩ := err_arg he
  have hs := @set_same p d
  by_cases h1 : d.kind = 1
  · have hr : cellAt (resA p d) i = cellAt p i := by unfold resA; simp [h1]; rfl
    rw [hr]
    exact ⟨.rfl' _, fun _ => rfl, fun _ => rfl⟩
  by_cases h7 : d.kind = 7
  · have hr : cellAt (resA p d) i = leakK (cellAt p i) d.n.toNat := by
      have h1 : resA p d = ticks p d.n.toNat := by unfold resA; simp [h7, tickP]
      rw [h1, ticks_at p i hi]
    rw [hr]
    exact ⟨leakK_same _ _, fun h => absurd h7 h, fun h => by simp [namedB, h7] at h⟩
  have h2 := ha h1 h7
  rw [argB_iff] at h2
  have key : ∀ c : Cell, SameC c (at_ p d) → c.owed = (at_ p d).owed → cellAt (resA p d) i = (p.cells.set d.cell.toNat c).getD i default →
      SameC (cellAt (resA p d) i) (cellAt p i) ∧ (d.kind ≠ 7 → (cellAt (resA p d) i).owed = (cellAt p i).owed) ∧ (namedB d i = false → cellAt (resA p d) i = cellAt p i) := by
    intro c hc ho e
    obtain ⟨q1, q2, q3⟩ := hs (i := i) h2.1 hc ho
    rw [e]
    refine ⟨q1, fun _ => q2, fun hf => q3 fun h => ?_⟩
    simp [namedB, h, h1, h7] at hf
  by_cases h4 : d.kind = 4
  · have h3 := ht h4
    rw [toB_iff] at h3
    have hl : (lessP p d).cells.length = p.cells.length := by simp [lessP]
    obtain ⟨q1, q2, q3⟩ := hs (c := less (at_ p d) d.n) (i := i) h2.1 ⟨rfl, rfl, rfl, rfl⟩ rfl
    have e5 : cellAt (lessP p d) i = (p.cells.set d.cell.toNat (less (at_ p d) d.n)).getD i default := rfl
    rw [← e5] at q1 q2 q3
    have e : cellAt (resA p d) i = ((lessP p d).cells.set d.to.toNat (more (cellAt (lessP p d) d.to.toNat) (shareH (at_ p d) d.n) (d.n - shareH (at_ p d) d.n))).getD i default := by unfold resA; simp [h4]; rfl
    rw [cellAt_set _ _ _ _ (by rw [hl]; omega)] at e
    by_cases e2 : d.to.toNat = i
    · rw [if_pos e2] at e
      rw [e2] at e
      rw [e]
      refine ⟨⟨q1.1, q1.2.1, q1.2.2.1, q1.2.2.2⟩, fun _ => q2, fun hf => ?_⟩
      have : (i : Int) = d.to := by omega
      simp [namedB, h1, h7, h4, this] at hf
    · rw [if_neg e2] at e
      rw [e]
      refine ⟨q1, fun _ => q2, fun hf => q3 fun h => ?_⟩
      simp [namedB, h, h1, h7] at hf
  have h0 : d.kind = 2 ∨ d.kind = 3 ∨ d.kind = 5 ∨ d.kind = 6 := by omega
  rcases h0 with h | h | h | h
  · refine key { at_ p d with helium := (at_ p d).helium + d.n } ⟨rfl, rfl, rfl, rfl⟩ rfl ?_
    unfold resA; simp [h]; rfl
  · refine key (less (at_ p d) d.n) ⟨rfl, rfl, rfl, rfl⟩ rfl ?_
    unfold resA; simp [h]; rfl
  · refine key (less (at_ p d) d.n) ⟨rfl, rfl, rfl, rfl⟩ rfl ?_
    unfold resA; simp [h]; rfl
  · refine key { at_ p d with air := (at_ p d).air + d.n } ⟨rfl, rfl, rfl, rfl⟩ rfl ?_
    unfold resA; simp [h]; rfl
/-- the accounts that an act leaves -/
theorem tickTo_in (p : Plant) : ∀ k, (tickTo p k).inH = p.inH ∧ (tickTo p k).inA = p.inA ∧ (tickTo p k).vH = p.vH ∧ (tickTo p k).vA = p.vA ∧ (tickTo p k).pH = p.pH ∧ (tickTo p k).pA = p.pA
  | 0 => ⟨rfl, rfl, rfl, rfl, rfl, rfl⟩
  | k + 1 => tickTo_in p k
theorem ticks_in (p : Plant) : ∀ k, (ticks p k).inH = p.inH ∧ (ticks p k).inA = p.inA ∧ (ticks p k).vH = p.vH ∧ (ticks p k).vA = p.vA ∧ (ticks p k).pH = p.pH ∧ (ticks p k).pA = p.pA
  | 0 => ⟨rfl, rfl, rfl, rfl, rfl, rfl⟩
  | k + 1 => by
    obtain ⟨a1, a2, a3, a4, a5, a6⟩ := ticks_in p k
    obtain ⟨b1, b2, b3, b4, b5, b6⟩ := tickTo_in (ticks p k) p.cells.length
    exact ⟨b1.trans a1, b2.trans a2, b3.trans a3, b4.trans a4, b5.trans a5, b6.trans a6⟩
theorem kept_books {p : Plant} {d : Deed} (he : errA p d = 0) :
    ((d.kind = 1 ∨ d.kind = 6) → ¬ ((resA p d).inH = p.inH ∧ (resA p d).inA = p.inA)) ∧ (¬ (d.kind = 1 ∨ d.kind = 6) → (resA p d).inH = p.inH ∧ (resA p d).inA = p.inA) ∧
    (d.kind = 3 → ¬ ((resA p d).vH = p.vH ∧ (resA p d).vA = p.vA)) ∧ (d.kind ≠ 3 → (resA p d).vH = p.vH ∧ (resA p d).vA = p.vA) ∧
    (d.kind ≠ 7 → (resA p d).lH = p.lH ∧ (resA p d).lA = p.lA) ∧ (d.kind ≠ 5 → (resA p d).pH = p.pH ∧ (resA p d).pA = p.pA) := by
  have hk := err_kind he
  obtain ⟨ha, ht, hn⟩ := err_arg he
  have h0 : d.kind = 1 ∨ d.kind = 2 ∨ d.kind = 3 ∨ d.kind = 4 ∨ d.kind = 5 ∨ d.kind = 6 ∨ d.kind = 7 := by omega
  rcases h0 with h | h | h | h | h | h | h
  · simp [resA, h, buyP]; omega
  · simp [resA, h, fillP]
  · simp [resA, h, valveP, lessP]; omega
  · simp [resA, h, moveP, lessP]
  · simp [resA, h, purifyP, lessP]
  · simp [resA, h, breatheP]; omega
  · have h1 : resA p d = ticks p d.n.toNat := by unfold resA; simp [h, tickP]
    obtain ⟨a1, a2, a3, a4, a5, a6⟩ := ticks_in p d.n.toNat
    rw [h1, a1, a2, a3, a4, a5, a6]
    simp [h]
theorem doE_cases {p : Plant} {d : Deed} (hp : plantB p = true) : doE p d = 0 ∧ errA p d = 0 ∧ plantB (resA p d) = true ∧ doQ p d = resA p d ∨ (doE p d = 2 ∨ doE p d = 6 ∨ doE p d = 9) ∧ doQ p d = noPlant := by
  have hE : errA p d = 0 ∨ errA p d = 2 ∨ errA p d = 6 := by
    unfold errA
    repeat' split
    all_goals simp
  unfold doQ
  have e : doE p d = if errA p d = 0 then if plantB (resA p d) then 0 else 9 else errA p d := by rw [doE, if_pos hp]
  by_cases h : errA p d = 0
  · rw [if_pos h] at e
    cases hb : plantB (resA p d)
    · rw [hb] at e
      right
      rw [e]
      exact ⟨by simp, rfl⟩
    · rw [hb] at e
      left
      rw [e]
      exact ⟨rfl, h, rfl, rfl⟩
  · rw [if_neg h] at e
    right
    rw [e]
    refine ⟨by omega, if_neg h⟩
end Bal.Gas
