/-
  The plain side of the trim statements: what loads, limits, frames and the rest are, and what is asked of them. No program in sight.
-/

set_option linter.unusedVariables false
set_option linter.unusedSimpArgs false
/-
  The plain side of the trim statements: what loads, limits, frames and the rest are, and what is asked of them. No program in sight.
-/
namespace Bal.Trim

structure Load where
  alo : Int
  ahi : Int
  wlo : Int
  whi : Int
  deriving DecidableEq, Inhabited
structure Limit where
  a : Int
  b : Int
  c : Int
  deriving DecidableEq, Inhabited
structure Frm where
  pos : Int
  shear : Int
  bend : Int
  deriving DecidableEq, Inhabited
structure Put where
  pos : Int
  wt : Int
  deriving DecidableEq, Inhabited
structure Hold where
  pos : Int
  room : Int
  deriving DecidableEq, Inhabited
structure Parcel where
  wt : Int
  cls : Int
  deriving DecidableEq, Inhabited
structure Rule where
  a : Int
  b : Int
  apart : Int
  deriving DecidableEq, Inhabited

def inB (n lo hi : Int) : Bool := decide (lo ≤ n) && decide (n ≤ hi)
def spanB (lo hi m : Int) : Bool := decide (lo ≤ hi) && decide (-m ≤ lo) && decide (hi ≤ m)
def loadB (x : Load) : Bool := spanB x.alo x.ahi 20000 && spanB x.wlo x.whi 1073741824
def limitB (x : Limit) : Bool := inB x.a (-1000) 1000 && inB x.b (-1000) 1000 && inB x.c (-1000000000000000000) 1000000000000000000
def checkList {α : Type} (valid : α → Bool) (most : Nat) (err : Int) (xs : List α) : Int := if most < xs.length then 4 else if xs.all valid then 0 else err
def checkLoads (l : List Load) : Int := checkList loadB 40 40 l
def checkLimits (l : List Limit) : Int := checkList limitB 12 41 l
theorem checkList_many {α : Type} {valid : α → Bool} {most : Nat} {err : Int} {xs : List α} (h : most < xs.length) : checkList valid most err xs = 4 := if_pos h
theorem checkList_ok {α : Type} {valid : α → Bool} {most : Nat} {err : Int} {xs : List α} (h : ¬ most < xs.length) (h' : xs.all valid = true) : checkList valid most err xs = 0 := by
  unfold checkList; rw [if_neg h, if_pos h']
theorem checkList_bad {α : Type} {valid : α → Bool} {most : Nat} {err : Int} {xs : List α} (h : ¬ most < xs.length) (k : Nat) (hk : k < xs.length) (h' : valid xs[k] = false) : checkList valid most err xs = err := by
  unfold checkList; rw [if_neg h, if_neg]
  intro ha
  rw [List.all_eq_true.1 ha _ (List.getElem_mem hk)] at h'
  cases h'
theorem take_all {α : Type} {valid : α → Bool} {xs : List α} {k : Nat} (hk : k < xs.length) (h : (xs.take k).all valid = true) (h' : valid xs[k] = true) : (xs.take (k + 1)).all valid = true := by
  rw [List.take_succ_eq_append_getElem hk, List.all_append, h]
  simp [h']
end Bal.Trim

/-
  Sums, products, least and greatest: plain Lean.
-/
namespace Bal.Trim
/-! ### Sums and products -/
def sumBy {α : Type} (g : α → Int) (xs : List α) : Int := xs.foldr (fun x s => g x + s) 0
@[simp] theorem sumBy_nil {α : Type} (g : α → Int) : sumBy g [] = 0 := rfl
theorem sumBy_cons {α : Type} (g : α → Int) (x : α) (xs : List α) : sumBy g (x :: xs) = g x + sumBy g xs := rfl
theorem sumBy_append {α : Type} (g : α → Int) (xs ys : List α) : sumBy g (xs ++ ys) = sumBy g xs + sumBy g ys := by
  induction xs with
  | nil => simp
  | cons x xs ih => simp only [List.cons_append, sumBy_cons, ih]; omega
theorem sumBy_take {α : Type} (g : α → Int) (xs : List α) (k : Nat) (hk : k < xs.length) : sumBy g (xs.take (k + 1)) = sumBy g (xs.take k) + g xs[k] := by
  rw [List.take_succ_eq_append_getElem hk, sumBy_append, sumBy_cons, sumBy_nil]; omega
theorem sumBy_bd {α : Type} (g : α → Int) (M : Int) (xs : List α) (h : ∀ x ∈ xs, -M ≤ g x ∧ g x ≤ M) : -(M * xs.length) ≤ sumBy g xs ∧ sumBy g xs ≤ M * xs.length := by
  induction xs with
  | nil => simp
  | cons x xs ih =>
    have h1 := ih (fun y hy => h y (by simp [hy]))
    have h2 := h x (by simp)
    rw [sumBy_cons, List.length_cons]
    have e : M * ((xs.length + 1 : Nat) : Int) = M * (xs.length : Int) + M := by rw [Int.natCast_add, Int.mul_add]; simp
    rw [e]
    omega
/-- the sum of the first k of at most n terms, each from -M to M -/
theorem sumBy_take_bd {α : Type} (g : α → Int) (M N : Int) (xs : List α) (n : Nat) (hn : xs.length ≤ n) (hM : 0 ≤ M) (hN : M * n ≤ N) (h : ∀ x ∈ xs, -M ≤ g x ∧ g x ≤ M) (k : Nat) : -N ≤ sumBy g (xs.take k) ∧ sumBy g (xs.take k) ≤ N := by
  have h1 := sumBy_bd g M (xs.take k) (fun x hx => h x (List.mem_of_mem_take hx))
  have h2 : M * ((xs.take k).length : Int) ≤ M * (n : Int) := Int.mul_le_mul_of_nonneg_left (by have : (xs.take k).length ≤ n := by rw [List.length_take]; omega
                                                                                                omega) hM
  omega
theorem mul_bd {x y A B : Int} (hx : -A ≤ x) (hx' : x ≤ A) (hy : -B ≤ y) (hy' : y ≤ B) : -(A * B) ≤ x * y ∧ x * y ≤ A * B := by
  have h1 : x.natAbs ≤ A.toNat := by omega
  have h2 : y.natAbs ≤ B.toNat := by omega
  have h3 := Nat.mul_le_mul h1 h2
  rw [← Int.natAbs_mul] at h3
  have h4 : ((A.toNat * B.toNat : Nat) : Int) = A * B := by
    rw [Int.natCast_mul, Int.toNat_of_nonneg (by omega), Int.toNat_of_nonneg (by omega)]
  omega
def tLo (a b c d : Int) : Int := min (min (min (a * c) (a * d)) (b * c)) (b * d)
def tHi (a b c d : Int) : Int := max (max (max (a * c) (a * d)) (b * c)) (b * d)
theorem t_bd {a b c d A B : Int} (h : -A ≤ a ∧ a ≤ A ∧ -A ≤ b ∧ b ≤ A) (h' : -B ≤ c ∧ c ≤ B ∧ -B ≤ d ∧ d ≤ B) :
    (-(A * B) ≤ tLo a b c d ∧ tLo a b c d ≤ A * B) ∧ (-(A * B) ≤ tHi a b c d ∧ tHi a b c d ≤ A * B) := by
  have h1 := mul_bd h.1 h.2.1 h'.1 h'.2.1
  have h2 := mul_bd h.1 h.2.1 h'.2.2.1 h'.2.2.2
  have h3 := mul_bd h.2.2.1 h.2.2.2 h'.1 h'.2.1
  have h4 := mul_bd h.2.2.1 h.2.2.2 h'.2.2.1 h'.2.2.2
  unfold tLo tHi
  omega
theorem ite_min (a b : Int) : (if b < a then b else a) = min a b := by split <;> omega
theorem ite_max (a b : Int) : (if a < b then b else a) = max a b := by split <;> omega
def lmin : List Int → Int
  | [] => 0
  | x :: xs => xs.foldl min x
def lmax : List Int → Int
  | [] => 0
  | x :: xs => xs.foldl max x
theorem lmin_take {xs : List Int} {k : Nat} (h0 : 0 < k) (hk : k < xs.length) : lmin (xs.take (k + 1)) = min (lmin (xs.take k)) xs[k] := by
  cases xs with
  | nil => simp at hk
  | cons x xs =>
    obtain ⟨j, rfl⟩ : ∃ j, k = j + 1 := ⟨k - 1, by omega⟩
    have hj : j < xs.length := by simpa using hk
    simp only [List.take_succ_cons, lmin, List.getElem_cons_succ]
    rw [List.take_succ_eq_append_getElem hj, List.foldl_append]
    rfl
theorem lmax_take {xs : List Int} {k : Nat} (h0 : 0 < k) (hk : k < xs.length) : lmax (xs.take (k + 1)) = max (lmax (xs.take k)) xs[k] := by
  cases xs with
  | nil => simp at hk
  | cons x xs =>
    obtain ⟨j, rfl⟩ : ∃ j, k = j + 1 := ⟨k - 1, by omega⟩
    have hj : j < xs.length := by simpa using hk
    simp only [List.take_succ_cons, lmax, List.getElem_cons_succ]
    rw [List.take_succ_eq_append_getElem hj, List.foldl_append]
    rfl
theorem loadB_bd {x : Load} (h : loadB x = true) : (-20000 ≤ x.alo ∧ x.alo ≤ 20000 ∧ -20000 ≤ x.ahi ∧ x.ahi ≤ 20000) ∧ (-1073741824 ≤ x.wlo ∧ x.wlo ≤ 1073741824 ∧ -1073741824 ≤ x.whi ∧ x.whi ≤ 1073741824) ∧ x.alo ≤ x.ahi ∧ x.wlo ≤ x.whi := by
  simp [loadB, spanB] at h
  omega
theorem checkLoads_ok {l : List Load} (h : checkLoads l = 0) : l.length ≤ 40 ∧ ∀ x ∈ l, loadB x = true := by
  unfold checkLoads checkList at h
  split at h
  · cases h
  · split at h
    · rename_i h1 h2
      exact ⟨by omega, fun x hx => List.all_eq_true.1 h2 x hx⟩
    · cases h
theorem checkLimits_ok {l : List Limit} (h : checkLimits l = 0) : l.length ≤ 12 ∧ ∀ x ∈ l, limitB x = true := by
  unfold checkLimits checkList at h
  split at h
  · cases h
  · split at h
    · rename_i h1 h2
      exact ⟨by omega, fun x hx => List.all_eq_true.1 h2 x hx⟩
    · cases h
/-- a result, if there is no error -/
def ifOk (e v : Int) : Int := if e = 0 then v else 0
def mLo (x : Load) : Int := tLo x.alo x.ahi x.wlo x.whi
def mHi (x : Load) : Int := tHi x.alo x.ahi x.wlo x.whi
end Bal.Trim

/-
  The plain side of the gas statements: cells, air, hulls, and what is computed of them. No program in sight.
-/
namespace Bal.Gas
open Bal.Trim

structure Cell where
  room : Int
  helium : Int
  air : Int
  wlo : Int
  whi : Int
  leak : Int
  owed : Int
  deriving DecidableEq, Inhabited
structure Air where
  plo : Int
  phi : Int
  tlo : Int
  thi : Int
  deriving DecidableEq, Inhabited
structure Hull where
  room : Int
  gas : Int
  ballonet : Int
  bag : Int
  wlo : Int
  whi : Int
  least : Int
  most : Int
  deriving DecidableEq, Inhabited
structure Ratio where
  num : Int
  den : Int
  deriving DecidableEq, Inhabited

def rng (xs : List Int) (lo hi : Int) : Bool := xs.all (fun n => inB n lo hi)
def spanIn (x y lo hi : Int) : Bool := rng [x, y] lo hi && decide (x ≤ y)
def airB (a : Air) : Bool := spanIn a.plo a.phi 1000 12000 && spanIn a.tlo a.thi 1500 3500
def checkAir (a : Air) : Int := if airB a then 0 else 30
def cellFits (c : Cell) : Bool := rng [c.room] 1 10000000 && rng [c.helium, c.air] 0 10000000 && rng [c.leak] 0 100000 && rng [c.owed] 0 999999
def cellB (c : Cell) : Bool := cellFits c && spanIn c.wlo c.whi (-300) 300
def checkCell (c : Cell) : Int := if cellB c then 0 else 31
def down (r : Ratio) : Int := r.num / r.den
def up (r : Ratio) : Int := -((-r.num) / r.den)
def leastLo (rs : List Ratio) : Int := lmin (rs.map down)
def leastHi (rs : List Ratio) : Int := lmax (rs.map up)
def amount (c : Cell) : Int := c.helium + c.air
def heatLo (c : Cell) (a : Air) : Int := a.tlo + c.wlo
def heatHi (c : Cell) (a : Air) : Int := a.thi + c.whi

theorem leastLo_snoc {xs : List Ratio} (r : Ratio) (h : xs ≠ []) : leastLo (xs ++ [r]) = min (leastLo xs) (down r) := by
  cases xs with
  | nil => exact absurd rfl h
  | cons x xs => simp [leastLo, lmin, List.foldl_append]
theorem leastHi_snoc {xs : List Ratio} (r : Ratio) (h : xs ≠ []) : leastHi (xs ++ [r]) = max (leastHi xs) (up r) := by
  cases xs with
  | nil => exact absurd rfl h
  | cons x xs => simp [leastHi, lmax, List.foldl_append]
theorem inB_iff {n lo hi : Int} : inB n lo hi = true ↔ lo ≤ n ∧ n ≤ hi := by simp [inB]
theorem airB_iff {a : Air} : airB a = true ↔ (1000 ≤ a.plo ∧ a.plo ≤ a.phi ∧ a.phi ≤ 12000) ∧ (1500 ≤ a.tlo ∧ a.tlo ≤ a.thi ∧ a.thi ≤ 3500) := by
  simp [airB, spanIn, rng, inB]; omega
theorem cellB_iff {c : Cell} : cellB c = true ↔ (1 ≤ c.room ∧ c.room ≤ 10000000) ∧ (0 ≤ c.helium ∧ c.helium ≤ 10000000) ∧ (0 ≤ c.air ∧ c.air ≤ 10000000) ∧ (0 ≤ c.leak ∧ c.leak ≤ 100000) ∧ (0 ≤ c.owed ∧ c.owed ≤ 999999) ∧ (-300 ≤ c.wlo ∧ c.wlo ≤ c.whi ∧ c.whi ≤ 300) := by
  simp [cellB, cellFits, spanIn, rng, inB]; omega

/-- Go's quotient and remainder of a negative number -/
theorem tdiv_down {a b : Int} (ha : a < 0) (hb : 0 < b) : (if a.tmod b = 0 then a.tdiv b else a.tdiv b - 1) = a / b := by
  have h1 := Int.mul_tdiv_add_tmod a b
  have h2 : -b < a.tmod b ∧ a.tmod b ≤ 0 := by
    have h3 := Int.tmod_lt_of_pos (-a) hb
    have h4 := Int.tmod_nonneg b (a := -a) (by omega)
    rw [Int.neg_tmod] at h3 h4
    omega
  generalize a.tdiv b = q at *
  generalize a.tmod b = r at *
  split
  · rename_i h0
    subst h0
    rw [← h1, Int.add_zero, Int.mul_ediv_cancel_left _ (by omega)]
  · have e : a = (b + r) + b * (q - 1) := by rw [← h1, Int.mul_sub, Int.mul_one]; omega
    rw [e, Int.add_mul_ediv_left _ _ (by omega), Int.ediv_eq_zero_of_lt (by omega) (by omega)]
    omega
theorem tdiv_pos {a b : Int} (ha : 0 ≤ a) : a.tdiv b = a / b := Int.tdiv_eq_ediv_of_nonneg ha
theorem div_bd {a b N : Int} (h : -N ≤ a) (h' : a ≤ N) (hb : 0 < b) (hN : 0 ≤ N) : -N ≤ a / b ∧ a / b ≤ N := by
  constructor
  · rw [Int.le_ediv_iff_mul_le hb]
    have : N * 1 ≤ N * b := Int.mul_le_mul_of_nonneg_left (by omega) hN
    rw [Int.neg_mul]; omega
  · by_cases h0 : 0 ≤ a
    · have := Int.ediv_le_self b h0; omega
    · have := Int.ediv_neg_of_neg_of_pos (by omega : a < 0) hb; omega
end Bal.Gas

/-
  Volumes: the plain side.
-/
namespace Bal.Gas
open Bal.Trim
def asked (c : Cell) (a : Air) : Int := if cellB c then checkAir a else 31
def state (c : Cell) (a : Air) : Int := if amount c * heatHi c a ≤ c.room * a.plo then 1 else if c.room * a.phi < amount c * heatLo c a then 3 else 2
/-- the products of a valid cell in valid air -/
theorem prod_bd {c : Cell} {a : Air} (hc : cellB c = true) (ha : airB a = true) :
    0 ≤ amount c ∧ amount c ≤ 20000000 ∧ (0 ≤ amount c * heatLo c a ∧ amount c * heatLo c a ≤ amount c * heatHi c a ∧ amount c * heatHi c a ≤ 76000000000) ∧
    (0 ≤ c.room * a.plo ∧ c.room * a.plo ≤ 120000000000 ∧ 0 ≤ c.room * a.phi ∧ c.room * a.phi ≤ 120000000000) := by
  obtain ⟨h1, h2, h3, h4, h5, h6⟩ := cellB_iff.1 hc
  obtain ⟨h7, h8⟩ := airB_iff.1 ha
  have hn0 : 0 ≤ amount c := by unfold amount; omega
  have hn1 : amount c ≤ 20000000 := by unfold amount; omega
  have ht0 : 0 ≤ heatLo c a := by unfold heatLo; omega
  have ht1 : heatLo c a ≤ heatHi c a := by unfold heatLo heatHi; omega
  have ht2 : heatHi c a ≤ 3800 := by unfold heatHi; omega
  have p0 := Int.mul_nonneg hn0 ht0
  have p1 := Int.mul_le_mul_of_nonneg_left ht1 hn0
  have p2 := (mul_bd (A := 20000000) (B := 3800) (x := amount c) (y := heatHi c a) (by omega) hn1 (by omega) ht2).2
  have q0 := Int.mul_nonneg (show 0 ≤ c.room by omega) (show 0 ≤ a.plo by omega)
  have q1 := (mul_bd (A := 10000000) (B := 12000) (x := c.room) (y := a.plo) (by omega) (by omega) (by omega) (by omega)).2
  have r0 := Int.mul_nonneg (show 0 ≤ c.room by omega) (show 0 ≤ a.phi by omega)
  have r1 := (mul_bd (A := 10000000) (B := 12000) (x := c.room) (y := a.phi) (by omega) (by omega) (by omega) (by omega)).2
  refine ⟨hn0, hn1, ⟨p0, p1, by omega⟩, q0, by omega, r0, by omega⟩
end Bal.Gas

/-
  Plants and acts: what the document says of them. Plain Lean, no program in sight.
-/
namespace Bal.Gas
open Bal.Trim
structure Plant where
  cells : List Cell
  bottles : Int
  inH : Int
  inA : Int
  vH : Int
  vA : Int
  lH : Int
  lA : Int
  pH : Int
  pA : Int
  deriving Inhabited
structure Deed where
  kind : Int
  cell : Int
  to : Int
  n : Int
  deriving DecidableEq, Inhabited
structure Par where
  h : Int
  a : Int
  deriving DecidableEq, Inhabited
def noPlant : Plant := ⟨[], 0, 0, 0, 0, 0, 0, 0, 0, 0⟩
def booksB (a b : Int) : Bool := rng [a, b] 0 1000000000000
def parB (x : Par) : Bool := booksB x.h x.a
def books (p : Plant) : List Par := [⟨p.inH, p.inA⟩, ⟨p.vH, p.vA⟩, ⟨p.lH, p.lA⟩, ⟨p.pH, p.pA⟩]
def books3 (p : Plant) : List Par := [⟨p.vH, p.vA⟩, ⟨p.lH, p.lA⟩, ⟨p.pH, p.pA⟩]
def sumH (l : List Cell) : Int := sumBy Cell.helium l
def sumA (l : List Cell) : Int := sumBy Cell.air l
def allH (p : Plant) : Int := p.bottles + p.vH + p.lH + p.pH + sumH p.cells
def allA (p : Plant) : Int := p.vA + p.lA + p.pA + sumA p.cells
def plantB (p : Plant) : Bool := decide (p.cells.length ≤ 12) && inB p.bottles 0 10000000 && booksB p.inH p.inA && booksB p.vH p.vA && booksB p.lH p.lA && booksB p.pH p.pA && p.cells.all cellB && decide (allH p = p.inH) && decide (allA p = p.inA)
def plantE (p : Plant) : Int := if plantB p then 0 else 32
/-- the share of so many units of a cell, and the cell without it -/
def shareH (c : Cell) (n : Int) : Int := n * c.helium / (c.helium + c.air)
def less (c : Cell) (n : Int) : Cell := { c with helium := c.helium - shareH c n, air := c.air - (n - shareH c n) }
def leakN (c : Cell) : Int := (c.owed + (c.helium + c.air) * c.leak) / 1000000
def leakC (c : Cell) : Cell := { less c (leakN c) with owed := (c.owed + (c.helium + c.air) * c.leak) % 1000000 }
def cellAt (p : Plant) (i : Nat) : Cell := p.cells.getD i default
/-- the i-th cell leaks once -/
def leakAt (p : Plant) (i : Nat) : Plant :=
  { p with cells := p.cells.set i (leakC (cellAt p i)), lH := p.lH + shareH (cellAt p i) (leakN (cellAt p i)), lA := p.lA + (leakN (cellAt p i) - shareH (cellAt p i) (leakN (cellAt p i))) }
def tickTo (p : Plant) : Nat → Plant
  | 0 => p
  | k + 1 => leakAt (tickTo p k) k
def ticks (p : Plant) : Nat → Plant
  | 0 => p
  | k + 1 => tickTo (ticks p k) p.cells.length
def argB (p : Plant) (d : Deed) : Bool := rng [d.cell] 0 (p.cells.length - 1) && rng [d.n] 1 10000000
def toB (p : Plant) (d : Deed) : Bool := rng [d.to] 0 (p.cells.length - 1) && !decide (d.to = d.cell)
def at_ (p : Plant) (d : Deed) : Cell := cellAt p d.cell.toNat
/-- the error of an act that a valid plant is asked for; 0 if there is none -/
def errA (p : Plant) (d : Deed) : Int :=
  if d.kind = 1 then if rng [d.n] 1 10000000 then 0 else 2
  else if d.kind = 2 then if argB p d then if p.bottles < d.n then 6 else 0 else 2
  else if d.kind = 3 then if argB p d then if amount (at_ p d) < d.n then 6 else 0 else 2
  else if d.kind = 4 then if argB p d then if toB p d then if amount (at_ p d) < d.n then 6 else 0 else 2 else 2
  else if d.kind = 5 then if argB p d then if amount (at_ p d) < d.n then 6 else 0 else 2
  else if d.kind = 6 then if argB p d then 0 else 2
  else if d.kind = 7 then if rng [d.n] 1 1000 then 0 else 2
  else 2
def buyP (p : Plant) (d : Deed) : Plant := { p with bottles := p.bottles + d.n, inH := p.inH + d.n }
def fillP (p : Plant) (d : Deed) : Plant := { p with cells := p.cells.set d.cell.toNat { at_ p d with helium := (at_ p d).helium + d.n }, bottles := p.bottles - d.n }
def lessP (p : Plant) (d : Deed) : Plant := { p with cells := p.cells.set d.cell.toNat (less (at_ p d) d.n) }
def valveP (p : Plant) (d : Deed) : Plant := { lessP p d with vH := p.vH + shareH (at_ p d) d.n, vA := p.vA + (d.n - shareH (at_ p d) d.n) }
def more (c : Cell) (h a : Int) : Cell := { c with helium := c.helium + h, air := c.air + a }
def moveP (p : Plant) (d : Deed) : Plant :=
  { lessP p d with cells := (lessP p d).cells.set d.to.toNat (more (cellAt (lessP p d) d.to.toNat) (shareH (at_ p d) d.n) (d.n - shareH (at_ p d) d.n)) }
def purifyP (p : Plant) (d : Deed) : Plant :=
  { lessP p d with bottles := p.bottles + (shareH (at_ p d) d.n - shareH (at_ p d) d.n / 50), pH := p.pH + shareH (at_ p d) d.n / 50, pA := p.pA + (d.n - shareH (at_ p d) d.n) }
def breatheP (p : Plant) (d : Deed) : Plant := { p with cells := p.cells.set d.cell.toNat { at_ p d with air := (at_ p d).air + d.n }, inA := p.inA + d.n }
def tickP (p : Plant) (d : Deed) : Plant := ticks p d.n.toNat
def resA (p : Plant) (d : Deed) : Plant :=
  if d.kind = 1 then buyP p d else if d.kind = 2 then fillP p d else if d.kind = 3 then valveP p d else if d.kind = 4 then moveP p d else if d.kind = 5 then purifyP p d
  else if d.kind = 6 then breatheP p d else tickP p d
def doE (p : Plant) (d : Deed) : Int := if plantB p then if errA p d = 0 then if plantB (resA p d) then 0 else 9 else errA p d else 32
def doQ (p : Plant) (d : Deed) : Plant := if doE p d = 0 then resA p d else noPlant

theorem booksB_iff {a b : Int} : booksB a b = true ↔ (0 ≤ a ∧ a ≤ 1000000000000) ∧ 0 ≤ b ∧ b ≤ 1000000000000 := by
  simp [booksB, rng, inB]
theorem plantB_iff {p : Plant} : plantB p = true ↔ p.cells.length ≤ 12 ∧ (0 ≤ p.bottles ∧ p.bottles ≤ 10000000) ∧ ((0 ≤ p.inH ∧ p.inH ≤ 1000000000000) ∧ 0 ≤ p.inA ∧ p.inA ≤ 1000000000000) ∧
    ((0 ≤ p.vH ∧ p.vH ≤ 1000000000000) ∧ 0 ≤ p.vA ∧ p.vA ≤ 1000000000000) ∧ ((0 ≤ p.lH ∧ p.lH ≤ 1000000000000) ∧ 0 ≤ p.lA ∧ p.lA ≤ 1000000000000) ∧ ((0 ≤ p.pH ∧ p.pH ≤ 1000000000000) ∧ 0 ≤ p.pA ∧ p.pA ≤ 1000000000000) ∧
    (∀ c ∈ p.cells, cellB c = true) ∧ allH p = p.inH ∧ allA p = p.inA := by
  simp only [plantB, Bool.and_eq_true, decide_eq_true_eq, booksB_iff, inB_iff, List.all_eq_true]
  constructor
  · rintro ⟨⟨⟨⟨⟨⟨⟨⟨a, b⟩, c⟩, d⟩, e⟩, f⟩, g⟩, h⟩, i⟩; exact ⟨a, b, c, d, e, f, g, h, i⟩
  · rintro ⟨a, b, c, d, e, f, g, h, i⟩; exact ⟨⟨⟨⟨⟨⟨⟨⟨a, b⟩, c⟩, d⟩, e⟩, f⟩, g⟩, h⟩, i⟩

theorem sumBy_set {α : Type} (g : α → Int) : ∀ (l : List α) (i : Nat) (x : α) (hi : i < l.length), sumBy g (l.set i x) = sumBy g l - g l[i] + g x
  | [], i, x, hi => by simp at hi
  | y :: ys, 0, x, hi => by simp [sumBy_cons]; omega
  | y :: ys, i + 1, x, hi => by
    have := sumBy_set g ys i x (by simpa using hi)
    simp only [List.set_cons_succ, sumBy_cons, this, List.getElem_cons_succ]
    omega
theorem sumBy_nonneg {α : Type} (g : α → Int) : ∀ (l : List α), (∀ x ∈ l, 0 ≤ g x) → 0 ≤ sumBy g l
  | [], _ => by simp
  | y :: ys, h => by
    have h1 := h y (by simp)
    have h2 := sumBy_nonneg g ys fun x hx => h x (by simp [hx])
    rw [sumBy_cons]; omega
/-- amounts that a cell may have -/
def okC (c : Cell) : Prop := (0 ≤ c.helium ∧ c.helium ≤ 10000000) ∧ 0 ≤ c.air ∧ c.air ≤ 10000000
theorem okC_of {c : Cell} (hc : cellB c = true) : okC c := ⟨(cellB_iff.1 hc).2.1, (cellB_iff.1 hc).2.2.1⟩
theorem share_bd {c : Cell} {n : Int} (hc : okC c) (h0 : 0 ≤ n) (h1 : n ≤ c.helium + c.air) : 0 ≤ shareH c n ∧ shareH c n ≤ c.helium ∧ shareH c n ≤ n ∧ n - shareH c n ≤ c.air := by
  obtain ⟨⟨hh, _⟩, ha, _⟩ := hc
  unfold shareH
  by_cases hz : c.helium + c.air = 0
  · have : n = 0 := by omega
    subst this
    have : c.helium = 0 := by omega
    have : c.air = 0 := by omega
    simp [*]
  · have hp : 0 < c.helium + c.air := by omega
    have m0 : 0 ≤ n * c.helium := Int.mul_nonneg h0 hh
    refine ⟨Int.ediv_nonneg m0 (by omega), ?_, ?_, ?_⟩
    · refine Int.ediv_le_of_le_mul hp ?_
      rw [Int.mul_comm c.helium]
      exact Int.mul_le_mul_of_nonneg_right h1 hh
    · refine Int.ediv_le_of_le_mul hp ?_
      have := Int.mul_le_mul_of_nonneg_left (show c.helium ≤ c.helium + c.air by omega) h0
      exact this
    · have : n - c.air ≤ n * c.helium / (c.helium + c.air) := by
        rw [Int.le_ediv_iff_mul_le hp]
        have e : (n - c.air) * (c.helium + c.air) = n * c.helium - c.air * (c.helium + c.air - n) := by
          simp only [Int.mul_add, Int.mul_sub, Int.mul_comm]; omega
        have := Int.mul_nonneg ha (show 0 ≤ c.helium + c.air - n by omega)
        omega
      omega
theorem leak_bd {c : Cell} (hc : cellB c = true) : (0 ≤ c.owed + (c.helium + c.air) * c.leak ∧ c.owed + (c.helium + c.air) * c.leak ≤ 2000001000000) ∧ (0 ≤ (c.helium + c.air) * c.leak ∧ (c.helium + c.air) * c.leak ≤ 2000000000000) ∧ 0 ≤ leakN c ∧ leakN c ≤ c.helium + c.air := by
  obtain ⟨_, ⟨hh, hh'⟩, ⟨ha, ha'⟩, ⟨hl, hl'⟩, ⟨ho, ho'⟩, _⟩ := cellB_iff.1 hc
  have m0 : 0 ≤ (c.helium + c.air) * c.leak := Int.mul_nonneg (by omega) hl
  have m1 : (c.helium + c.air) * c.leak ≤ (c.helium + c.air) * 100000 := Int.mul_le_mul_of_nonneg_left hl' (by omega)
  refine ⟨⟨by omega, by omega⟩, ⟨m0, by omega⟩, ?_, ?_⟩ <;> unfold leakN <;> omega
theorem less_B {c : Cell} {n : Int} (hc : cellB c = true) (h0 : 0 ≤ n) (h1 : n ≤ c.helium + c.air) : cellB (less c n) = true := by
  have hs := share_bd (okC_of hc) h0 h1
  rw [cellB_iff] at hc ⊢
  simp only [less]
  omega
theorem leakC_B {c : Cell} (hc : cellB c = true) : cellB (leakC c) = true := by
  have hb := leak_bd hc
  have hl := less_B hc hb.2.2.1 hb.2.2.2
  rw [cellB_iff] at hl ⊢
  simp only [leakC]
  simp only [less] at hl ⊢
  have := Int.emod_nonneg (c.owed + (c.helium + c.air) * c.leak) (show (1000000 : Int) ≠ 0 by decide)
  have := Int.emod_lt_of_pos (c.owed + (c.helium + c.air) * c.leak) (show (0 : Int) < 1000000 by decide)
  omega
theorem cellAt_get {p : Plant} {i : Nat} (hi : i < p.cells.length) : cellAt p i = p.cells[i] := by simp [cellAt, hi]
theorem leakAt_len (p : Plant) (i : Nat) : (leakAt p i).cells.length = p.cells.length := by simp [leakAt]
theorem tickTo_len (p : Plant) : ∀ k, (tickTo p k).cells.length = p.cells.length
  | 0 => rfl
  | k + 1 => by rw [tickTo, leakAt_len, tickTo_len p k]
theorem ticks_len (p : Plant) : ∀ k, (ticks p k).cells.length = p.cells.length
  | 0 => rfl
  | k + 1 => by rw [ticks, tickTo_len, ticks_len p k]
theorem leakAt_B {p : Plant} {i : Nat} (hp : plantB p = true) (hi : i < p.cells.length) : plantB (leakAt p i) = true := by
  rw [plantB_iff] at hp
  obtain ⟨h1, h2, h3, h4, h5, h6, h7, h8, h9⟩ := hp
  have hc := h7 _ (List.getElem_mem hi)
  have hb := leak_bd hc
  have hs := share_bd (okC_of hc) hb.2.2.1 hb.2.2.2
  have e := cellAt_get hi
  have hsH := sumBy_set Cell.helium p.cells i (leakC p.cells[i]) hi
  have hsA := sumBy_set Cell.air p.cells i (leakC p.cells[i]) hi
  have h7' : ∀ c ∈ p.cells.set i (leakC p.cells[i]), cellB c = true := fun c hc' => by
    rcases List.mem_or_eq_of_mem_set hc' with h | h
    · exact h7 c h
    · rw [h]; exact leakC_B hc
  have nH : 0 ≤ sumBy Cell.helium (p.cells.set i (leakC p.cells[i])) := sumBy_nonneg _ _ fun c hc' => (cellB_iff.1 (h7' c hc')).2.1.1
  have nA : 0 ≤ sumBy Cell.air (p.cells.set i (leakC p.cells[i])) := sumBy_nonneg _ _ fun c hc' => (cellB_iff.1 (h7' c hc')).2.2.1.1
  rw [plantB_iff]
  simp only [allH, allA, sumH, sumA] at h8 h9
  simp only [leakAt, e, allH, allA, sumH, sumA, List.length_set]
  simp only [leakC, less] at hsH hsA
  simp only [leakC, less] at nH nA h7' ⊢
  generalize sumBy Cell.helium (p.cells.set i _) = SH at *
  generalize sumBy Cell.air (p.cells.set i _) = SA at *
  generalize sumBy Cell.helium p.cells = TH at *
  generalize sumBy Cell.air p.cells = TA at *
  generalize shareH p.cells[i] (leakN p.cells[i]) = S at *
  generalize leakN p.cells[i] = L at *
  refine ⟨h1, h2, h3, h4, ?_, h6, h7', ?_, ?_⟩ <;> omega
theorem tickTo_B {p : Plant} (hp : plantB p = true) : ∀ k, k ≤ p.cells.length → plantB (tickTo p k) = true
  | 0, _ => hp
  | k + 1, h => leakAt_B (tickTo_B hp k (by omega)) (by rw [tickTo_len]; omega)
theorem ticks_B {p : Plant} (hp : plantB p = true) : ∀ k, plantB (ticks p k) = true
  | 0 => hp
  | k + 1 => by rw [ticks]; exact tickTo_B (ticks_B hp k) _ (by rw [ticks_len]; exact Nat.le_refl _)
end Bal.Gas

/-
  Lifts, ceilings and valving: the plain side.
-/
namespace Bal.Gas
open Bal.Trim
def pull (c : Cell) (x : Int) : Int := 29 * amount c * x
def liftLo (c : Cell) (a : Air) : Int := 25 * c.helium + min (pull c c.wlo / a.tlo) (pull c c.wlo / a.thi)
def liftHi (c : Cell) (a : Air) : Int := 25 * c.helium + max (-((-(pull c c.whi)) / a.tlo)) (-((-(pull c c.whi)) / a.thi))
def liftR (c : Cell) (a : Air) : List Ratio := [⟨pull c c.wlo, a.tlo⟩, ⟨pull c c.wlo, a.thi⟩, ⟨pull c c.whi, a.tlo⟩, ⟨pull c c.whi, a.thi⟩]
theorem leastLo_four (p q r s : Ratio) : leastLo [p, q, r, s] = min (min (min (down p) (down q)) (down r)) (down s) := rfl
theorem leastHi_four (p q r s : Ratio) : leastHi [p, q, r, s] = max (max (max (up p) (up q)) (up r)) (up s) := rfl
theorem pull_bd {c : Cell} {x : Int} (hc : cellB c = true) (hx : -300 ≤ x ∧ x ≤ 300) : -174000000000 ≤ pull c x ∧ pull c x ≤ 174000000000 := by
  obtain ⟨h1, h2, h3, h4, h5, h6⟩ := cellB_iff.1 hc
  have := mul_bd (A := 580000000) (B := 300) (x := 29 * amount c) (y := x) (by unfold amount; omega) (by unfold amount; omega) (by omega) (by omega)
  unfold pull
  omega
theorem pull_le {c : Cell} (hc : cellB c = true) : pull c c.wlo ≤ pull c c.whi := by
  obtain ⟨h1, h2, h3, h4, h5, h6⟩ := cellB_iff.1 hc
  exact Int.mul_le_mul_of_nonneg_left h6.2.1 (by unfold amount; omega)
theorem lift_lo {c : Cell} {a : Air} (hc : cellB c = true) (ha : airB a = true) : leastLo (liftR c a) + 25 * c.helium = liftLo c a := by
  obtain ⟨_, h8⟩ := airB_iff.1 ha
  have h := pull_le hc
  have d1 := Int.ediv_le_ediv (show 0 < a.tlo by omega) h
  have d2 := Int.ediv_le_ediv (show 0 < a.thi by omega) h
  unfold liftR liftLo
  rw [leastLo_four]
  simp only [down]
  omega
theorem lift_hi {c : Cell} {a : Air} (hc : cellB c = true) (ha : airB a = true) : leastHi (liftR c a) + 25 * c.helium = liftHi c a := by
  obtain ⟨_, h8⟩ := airB_iff.1 ha
  have h := pull_le hc
  have d1 := Int.ediv_le_ediv (show 0 < a.tlo by omega) (Int.neg_le_neg h)
  have d2 := Int.ediv_le_ediv (show 0 < a.thi by omega) (Int.neg_le_neg h)
  unfold liftR liftHi
  rw [leastHi_four]
  simp only [up]
  omega
end Bal.Gas

/-
  Limits at work, worst choices, breaches, shear and bending: the plain side.
-/
namespace Bal.Trim
/-- what a put adds to the value of a limit -/
def vOf (m : Limit) (p : Put) : Int := p.wt * (m.a + m.b * p.pos)
def better (m : Limit) (b p : Put) : Put := if vOf m b < vOf m p then p else b
def corners (x : Load) : List Put := [⟨x.alo, x.wlo⟩, ⟨x.ahi, x.wlo⟩, ⟨x.alo, x.whi⟩, ⟨x.ahi, x.whi⟩]
def best1 (m : Limit) (x : Load) : Put := better m ⟨x.alo, x.wlo⟩ ⟨x.ahi, x.wlo⟩
def best2 (m : Limit) (x : Load) : Put := better m (best1 m x) ⟨x.alo, x.whi⟩
def best (m : Limit) (x : Load) : Put := better m (best2 m x) ⟨x.ahi, x.whi⟩
def choice (m : Limit) (xs : List Load) : List Put := xs.map (best m)
def value (m : Limit) (ps : List Put) : Int := sumBy (vOf m) ps
def worstV (m : Limit) (xs : List Load) : Int := value m (choice m xs)
def putB (p : Put) : Prop := (-20000 ≤ p.pos ∧ p.pos ≤ 20000) ∧ -1073741824 ≤ p.wt ∧ p.wt ≤ 1073741824
theorem corner_B {x : Load} (h : loadB x = true) {p : Put} (hp : p ∈ corners x) : putB p := by
  have h := loadB_bd h
  simp only [corners, List.mem_cons, List.not_mem_nil, or_false] at hp
  rcases hp with rfl | rfl | rfl | rfl <;> (unfold putB; simp only; omega)
theorem better_of {m : Limit} {b p : Put} : better m b p = b ∨ better m b p = p := by unfold better; split <;> simp
theorem best1_mem (m : Limit) (x : Load) : best1 m x ∈ corners x := by
  unfold best1; rcases better_of (m := m) (b := ⟨x.alo, x.wlo⟩) (p := ⟨x.ahi, x.wlo⟩) with h | h <;> rw [h] <;> simp [corners]
theorem best2_mem (m : Limit) (x : Load) : best2 m x ∈ corners x := by
  unfold best2; rcases better_of (m := m) (b := best1 m x) (p := ⟨x.alo, x.whi⟩) with h | h <;> rw [h]
  · exact best1_mem m x
  · simp [corners]
theorem best_mem (m : Limit) (x : Load) : best m x ∈ corners x := by
  unfold best; rcases better_of (m := m) (b := best2 m x) (p := ⟨x.ahi, x.whi⟩) with h | h <;> rw [h]
  · exact best2_mem m x
  · simp [corners]
theorem limitB_bd {m : Limit} (h : limitB m = true) : (-1000 ≤ m.a ∧ m.a ≤ 1000) ∧ (-1000 ≤ m.b ∧ m.b ≤ 1000) ∧ -1000000000000000000 ≤ m.c ∧ m.c ≤ 1000000000000000000 := by
  simp [limitB, inB] at h; omega
/-- the products of a valid limit and a put in its bounds -/
theorem put_bd {m : Limit} {p : Put} (hm : limitB m = true) (hp : putB p) :
    (-20000000 ≤ m.b * p.pos ∧ m.b * p.pos ≤ 20000000) ∧ (-20001000 ≤ m.a + m.b * p.pos ∧ m.a + m.b * p.pos ≤ 20001000) ∧ -22000000000000000 ≤ p.wt * (m.a + m.b * p.pos) ∧ p.wt * (m.a + m.b * p.pos) ≤ 22000000000000000 := by
  obtain ⟨h1, h2, _⟩ := limitB_bd hm
  obtain ⟨h3, h4⟩ := hp
  have p1 := mul_bd (A := 1000) (B := 20000) h2.1 h2.2 h3.1 h3.2
  have p2 := mul_bd (A := 1073741824) (B := 20001000) (x := p.wt) (y := m.a + m.b * p.pos) h4.1 h4.2 (by omega) (by omega)
  refine ⟨by omega, by omega, by omega, by omega⟩
theorem vOf_bd {m : Limit} {p : Put} (hm : limitB m = true) (hp : putB p) : -22000000000000000 ≤ vOf m p ∧ vOf m p ≤ 22000000000000000 := (put_bd hm hp).2.2
theorem best_bd {m : Limit} {x : Load} (hm : limitB m = true) (hx : loadB x = true) : -22000000000000000 ≤ vOf m (best m x) ∧ vOf m (best m x) ≤ 22000000000000000 := vOf_bd hm (corner_B hx (best_mem m x))
theorem sumBy_map {α β : Type} (g : β → Int) (f : α → β) (xs : List α) : sumBy g (xs.map f) = sumBy (fun x => g (f x)) xs := by
  induction xs with
  | nil => rfl
  | cons x xs ih => rw [List.map_cons, sumBy_cons, sumBy_cons, ih]
theorem worstV_eq (m : Limit) (xs : List Load) : worstV m xs = sumBy (fun x => vOf m (best m x)) xs := sumBy_map _ _ _
theorem choice_len (m : Limit) (xs : List Load) : (choice m xs).length = xs.length := by simp [choice]
/-- the first of the first n numbers of which f is true -/
def firstOf (f : Nat → Bool) (n : Nat) : Option Nat := (List.range n).find? f
theorem firstOf_some {f : Nat → Bool} {n k : Nat} (hk : k < n) (hb : ∀ j, j < k → f j = false) (h : f k = true) : firstOf f n = some k := by
  unfold firstOf
  rw [List.find?_range_eq_some]
  exact ⟨h, by simpa using hk, fun j hj => by simp [hb j hj]⟩
theorem firstOf_none {f : Nat → Bool} {n : Nat} (hb : ∀ j, j < n → f j = false) : firstOf f n = none := by
  unfold firstOf
  rw [List.find?_range_eq_none]
  intro j hj
  simp [hb j hj]
/-- whether loads break the limit of a number -/
def brk (xs : List Load) (ms : List Limit) (i : Nat) : Bool := match ms[i]? with | some m => decide (m.c < worstV m xs) | none => false
theorem brk_at {xs : List Load} {ms : List Limit} {i : Nat} (hi : i < ms.length) : brk xs ms i = decide (ms[i].c < worstV ms[i] xs) := by
  unfold brk; rw [List.getElem?_eq_getElem hi]
def broken (xs : List Load) (ms : List Limit) : Option Nat := firstOf (brk xs ms) ms.length
def optN (o : Option Nat) : Int := match o with | some i => i | none => 0
def both (xs : List Load) (ms : List Limit) : Int := if checkLoads xs = 0 then checkLimits ms else checkLoads xs
theorem both_ok {xs : List Load} {ms : List Limit} (h : both xs ms = 0) : checkLoads xs = 0 ∧ checkLimits ms = 0 := by
  unfold both at h; split at h
  · rename_i h1; exact ⟨h1, h⟩
  · rename_i h1; exact absurd h h1
/-! ### Shear and bending -/
def aLo (x : Load) (n : Int) : Int := max (n - x.ahi) 0
def aHi (x : Load) (n : Int) : Int := max (n - x.alo) 0
def bLo (n : Int) (x : Load) : Int := tLo (aLo x n) (aHi x n) x.wlo x.whi
def bHi (n : Int) (x : Load) : Int := tHi (aLo x n) (aHi x n) x.wlo x.whi
end Bal.Trim

/-
  Breaches and what proves one: the plain side.
-/
namespace Bal.Trim
def brP (xs : List Load) (ms : List Limit) (o : Option Nat) : List Put := match o with | some i => (match ms[i]? with | some m => choice m xs | none => []) | none => []
def breachE (xs : List Load) (ms : List Limit) : Int := if both xs ms = 0 then (match broken xs ms with | some _ => 0 | none => 6) else both xs ms
def breachN (xs : List Load) (ms : List Limit) : Int := if both xs ms = 0 then optN (broken xs ms) else 0
def breachP (xs : List Load) (ms : List Limit) : List Put := if both xs ms = 0 then brP xs ms (broken xs ms) else []
theorem broken_some {xs : List Load} {ms : List Limit} {k : Nat} (hk : k < ms.length) (hb : ∀ j, j < k → brk xs ms j = false) (h : ms[k].c < worstV ms[k] xs) : broken xs ms = some k :=
  firstOf_some hk hb (by rw [brk_at hk]; exact decide_eq_true h)
theorem broken_none {xs : List Load} {ms : List Limit} (hb : ∀ j, j < ms.length → brk xs ms j = false) : broken xs ms = none := firstOf_none hb
theorem brk_false {xs : List Load} {ms : List Limit} {k : Nat} (hk : k < ms.length) (h : ¬ ms[k].c < worstV ms[k] xs) : brk xs ms k = false := by rw [brk_at hk]; exact decide_eq_false h
theorem brP_at {xs : List Load} {ms : List Limit} {k : Nat} (hk : k < ms.length) : brP xs ms (some k) = choice ms[k] xs := by
  simp only [brP, List.getElem?_eq_getElem hk]
end Bal.Trim

/-
  A ship in trim whatever the air: the plain side. No program in sight.
-/
namespace Bal.Top
open Bal.Trim Bal.Gas
/-- the lift of a cell at a temperature and a superheat, times the temperature -/
def liftT (c : Cell) (t u : Int) : Int := 29 * (c.helium + c.air) * (t + u) - t * (4 * c.helium + 29 * c.air)
theorem liftT_eq (c : Cell) (t u : Int) : liftT c t u = 25 * c.helium * t + pull c u := by
  unfold liftT pull amount
  simp only [Int.mul_add, Int.add_mul]
  have e1 : t * (4 * c.helium) = 4 * c.helium * t := Int.mul_comm _ _
  have e2 : t * (29 * c.air) = 29 * c.air * t := Int.mul_comm _ _
  have e3 : 29 * c.helium * t = 25 * c.helium * t + 4 * c.helium * t := by rw [← Int.add_mul]; congr 1; omega
  omega
theorem low_mul {P x y t : Int} (hx : 0 < x) (h1 : x ≤ t) (h2 : t ≤ y) : min (P / x) (P / y) * t ≤ P := by
  have ht : 0 < t := by omega
  by_cases hP : 0 ≤ P
  · have q0 : 0 ≤ P / y := Int.ediv_nonneg hP (by omega)
    have q1 : P / y * t ≤ P / y * y := Int.mul_le_mul_of_nonneg_left h2 q0
    have q2 : P / y * y ≤ P := Int.ediv_mul_le P (by omega)
    have q3 : min (P / x) (P / y) * t ≤ P / y * t := Int.mul_le_mul_of_nonneg_right (by omega) (by omega)
    omega
  · have q0 : P / x < 0 := Int.ediv_neg_of_neg_of_pos (by omega) hx
    have q1 : P / x * t ≤ P / x * x := Int.mul_le_mul_of_nonpos_left (by omega) h1
    have q2 : P / x * x ≤ P := Int.ediv_mul_le P (by omega)
    have q3 : min (P / x) (P / y) * t ≤ P / x * t := Int.mul_le_mul_of_nonneg_right (by omega) (by omega)
    omega
theorem high_mul {P x y t : Int} (hx : 0 < x) (h1 : x ≤ t) (h2 : t ≤ y) : P ≤ max (-(-P / x)) (-(-P / y)) * t := by
  have h := low_mul (P := -P) hx h1 h2
  have e : max (-(-P / x)) (-(-P / y)) * t = -(min (-P / x) (-P / y) * t) := by rw [← Int.neg_mul]; congr 1; omega
  omega
theorem lift_in {c : Cell} {a : Air} {t u : Int} (hc : cellB c = true) (ha : airB a = true) (h1 : a.tlo ≤ t) (h2 : t ≤ a.thi) (h3 : c.wlo ≤ u) (h4 : u ≤ c.whi) :
    liftLo c a * t ≤ liftT c t u ∧ liftT c t u ≤ liftHi c a * t := by
  obtain ⟨_, k1, k2, k3⟩ := airB_iff.1 ha
  obtain ⟨_, k4, k5, _⟩ := cellB_iff.1 hc
  have hn : 0 ≤ 29 * amount c := by unfold amount; omega
  have p1 : pull c c.wlo ≤ pull c u := Int.mul_le_mul_of_nonneg_left h3 hn
  have p2 : pull c u ≤ pull c c.whi := Int.mul_le_mul_of_nonneg_left h4 hn
  have l := low_mul (P := pull c c.wlo) (x := a.tlo) (y := a.thi) (by omega) h1 h2
  have r := high_mul (P := pull c c.whi) (x := a.tlo) (y := a.thi) (by omega) h1 h2
  rw [liftT_eq]
  unfold liftLo liftHi
  rw [Int.add_mul, Int.add_mul]
  omega
theorem lift_bd {c : Cell} {a : Air} (hc : cellB c = true) (ha : airB a = true) : (-400000000 ≤ liftLo c a ∧ liftLo c a ≤ 400000000) ∧ (-400000000 ≤ liftHi c a ∧ liftHi c a ≤ 400000000) ∧ liftLo c a ≤ liftHi c a := by
  obtain ⟨_, k1, k2, k3⟩ := airB_iff.1 ha
  obtain ⟨_, k4, k5, k6⟩ := cellB_iff.1 hc
  have q : ∀ P x : Int, -174000000000 ≤ P → P ≤ 174000000000 → 1500 ≤ x → -116000000 ≤ P / x ∧ P / x ≤ 116000000 := by
    intro P x h1 h2 h3
    constructor
    · rw [Int.le_ediv_iff_mul_le (by omega)]
      have : -116000000 * x ≤ -116000000 * 1500 := Int.mul_le_mul_of_nonpos_left (by omega) h3
      omega
    · refine Int.ediv_le_of_le_mul (by omega) ?_
      have : 116000000 * 1500 ≤ 116000000 * x := Int.mul_le_mul_of_nonneg_left h3 (by omega)
      omega
  have b1 := pull_bd hc (x := c.wlo) (by omega)
  have b2 := pull_bd hc (x := c.whi) (by omega)
  have r1 := q _ a.tlo b1.1 b1.2 (by omega)
  have r2 := q _ a.thi b1.1 b1.2 (by omega)
  have r3 := q (-pull c c.whi) a.tlo (by omega) (by omega) (by omega)
  have r4 := q (-pull c c.whi) a.thi (by omega) (by omega) (by omega)
  have hle : liftLo c a ≤ liftHi c a := by
    have h := lift_in hc ha (t := a.tlo) (u := c.wlo) (by omega) (by omega) (by omega) (by omega)
    have h5 : liftLo c a * a.tlo ≤ liftHi c a * a.tlo := by omega
    exact Int.le_of_mul_le_mul_right h5 (by omega)
  refine ⟨?_, ?_, hle⟩
  · unfold liftLo; omega
  · unfold liftHi; omega
/-- a cell's lift as a load -/
def cellLoad (a : Air) (c : Cell) (p : Int) : Load := ⟨p, p, -liftHi c a, -liftLo c a⟩
/-! ### Bounds -/
end Bal.Top

/-
  Hulls: the plain side.
-/
namespace Bal.Gas
open Bal.Trim
/-- a hull, its fields in the program's order -/
structure Hl where
  room : Int
  gas : Int
  wlo : Int
  whi : Int
  ballonet : Int
  bag : Int
  least : Int
  most : Int
  deriving DecidableEq, Inhabited
def pressLo (h : Hl) (x : Int) : Int := (h.gas + h.ballonet) * x + h.gas * h.wlo
def pressHi (h : Hl) (y : Int) : Int := (h.gas + h.ballonet) * y + h.gas * h.whi
/-- a hull whose ballonet is empty -/
abbrev bare (h : Hl) : Hl := { h with ballonet := 0 }
def blowLo (h : Hl) (a : Air) : Int := max (-((-((a.phi + h.least) * h.room - pressLo (bare h) a.tlo)) / a.tlo)) 0
def blowHi (h : Hl) (a : Air) : Int := min (((a.plo + h.most) * h.room - pressHi (bare h) a.thi) / a.thi) h.bag
/-- the first of the first n numbers of which f is true -/
def firstOf (f : Nat → Bool) (n : Nat) : Option Nat := (List.range n).find? f
theorem firstOf_some {f : Nat → Bool} {n k : Nat} (hk : k < n) (hb : ∀ j, j < k → f j = false) (h : f k = true) : firstOf f n = some k := by
  unfold firstOf
  rw [List.find?_range_eq_some]
  exact ⟨h, by simpa using hk, fun j hj => by simp [hb j hj]⟩
theorem firstOf_none {f : Nat → Bool} {n : Nat} (hb : ∀ j, j < n → f j = false) : firstOf f n = none := by
  unfold firstOf
  rw [List.find?_range_eq_none]
  intro j hj
  simp [hb j hj]
abbrev calm (x y p : Int) : Air := ⟨p, p, x, y⟩
def roofs (h : Hl) (x y : Int) (k : Nat) : Bool := decide (blowLo h (calm x y (1000 + k)) ≤ blowHi h (calm x y (1000 + k)))
def roof (h : Hl) (x y : Int) : Option Nat := firstOf (roofs h x y) 11001
/-! What the functions answer, errors and all. -/
def ifOk (e x : Int) : Int := if e = 0 then x else 0
end Bal.Gas

/-
  Histories, what gauges allow, clashes, what has leaked: what the document says of them. Plain Lean, no program in sight.
-/
namespace Bal.Gas
open Bal.Trim
structure Sp where
  lo : Int
  hi : Int
  deriving DecidableEq, Inhabited
/-- a gauge; va, vc: where its volumes lie -/
structure Gauge where
  time : Int
  air : Air
  va : Option (Nat × Nat × Option Nat)
  vc : Nat
  vols : List Sp
  deriving Inhabited
structure Flow where
  time : Int
  cell : Int
  n : Int
  deriving DecidableEq, Inhabited
structure Hist where
  warm : List Sp
  gauges : List Gauge
  flows : List Flow
  deriving Inhabited
def gAt (h : Hist) (i : Nat) : Gauge := h.gauges.getD i default
def wAt (h : Hist) (c : Nat) : Sp := h.warm.getD c default
def vAt (g : Gauge) (c : Nat) : Sp := g.vols.getD c default
/-- what a gauge allows of a cell -/
def alLo (h : Hist) (g c : Nat) : Int := -((-((vAt (gAt h g) c).lo * (gAt h g).air.plo)) / ((gAt h g).air.thi + (wAt h c).hi))
def alHi (h : Hist) (g c : Nat) : Int := (vAt (gAt h g) c).hi * (gAt h g).air.phi / ((gAt h g).air.tlo + (wAt h c).lo)
def flowIn (c : Nat) (a b : Int) (f : Flow) : Bool := decide (f.cell = c) && decide (a < f.time) && decide (f.time ≤ b)
def flowN (c : Nat) (a b : Int) (f : Flow) : Int := if flowIn c a b f then f.n else 0
def come (h : Hist) (c : Nat) (a b : Int) : Int := sumBy (flowN c a b) h.flows
def tt (h : Hist) (i : Nat) : Int := (gAt h i).time
/-- a clash of a valid history: cell c, gauges f and t -/
def clashB (h : Hist) (c f t : Nat) : Bool :=
  if f = t then decide (alHi h f c < alLo h f c)
  else decide (alLo h f c ≤ alHi h f c) && decide (alLo h t c ≤ alHi h t c) && decide (alHi h f c + come h c (tt h f) (tt h t) < alLo h t c)
/-- the clashes in the order in which they are looked for -/
def clashList (h : Hist) : List (Nat × Nat × Nat) := (List.range h.warm.length).flatMap fun c => (List.range h.gauges.length).flatMap fun t => (List.range (t + 1)).map fun f => (c, f, t)
def conf (h : Hist) : Option (Nat × Nat × Nat) := (clashList h).find? fun x => clashB h x.1 x.2.1 x.2.2
end Bal.Gas

/-
  The first clash of a history: plain Lean, no program in sight.
-/
namespace Bal.Gas
theorem findSome_none {α : Type} {g : Nat → Option α} : ∀ (n : Nat), (∀ j, j < n → g j = none) → (List.range n).findSome? g = none
  | 0, _ => rfl
  | n + 1, h => by rw [List.range_succ, List.findSome?_append, findSome_none n fun j hj => h j (by omega)]; simp [h n (by omega)]
def confF (h : Hist) (c t : Nat) : Option (Nat × Nat × Nat) := (List.range (t + 1)).findSome? fun f => if clashB h c f t then some (c, f, t) else none
theorem conf_eq (h : Hist) : conf h = (List.range h.warm.length).findSome? fun c => (List.range h.gauges.length).findSome? fun t => confF h c t := by
  unfold conf clashList confF
  rw [List.find?_flatMap]
  congr 1
  funext c
  rw [List.find?_flatMap]
  congr 1
  funext t
  rw [List.find?_map]
  generalize List.range (t + 1) = l
  induction l with
  | nil => rfl
  | cons f l ih =>
    simp only [List.find?_cons, List.findSome?_cons, Function.comp]
    cases hb : clashB h c f t
    · simpa [Function.comp_def] using ih
    · simp
theorem conf_none {h : Hist} (hn : ∀ c t f, c < h.warm.length → t < h.gauges.length → f ≤ t → clashB h c f t = false) : conf h = none := by
  rw [conf_eq]
  refine findSome_none _ fun c hc => findSome_none _ fun t ht => findSome_none _ fun f hf => ?_
  simp [hn c t f hc ht (by omega)]
def Clear (h : Hist) (c t f : Nat) : Prop := ∀ c' t' f', c' < h.warm.length → t' < h.gauges.length → f' ≤ t' → (c' < c ∨ (c' = c ∧ (t' < t ∨ (t' = t ∧ f' < f)))) → clashB h c' f' t' = false
theorem Clear.zero (h : Hist) : Clear h 0 0 0 := fun c' t' f' _ _ _ hx => by omega
theorem Clear.step {h : Hist} {c t f : Nat} (k : Clear h c t f) (hn : clashB h c f t = false) : Clear h c t (f + 1) := fun c' t' f' h1 h2 h3 hx => by
  by_cases he : c' = c ∧ t' = t ∧ f' = f
  · obtain ⟨rfl, rfl, rfl⟩ := he; exact hn
  · exact k c' t' f' h1 h2 h3 (by omega)
theorem Clear.row {h : Hist} {c t : Nat} (k : Clear h c t (t + 1)) : Clear h c (t + 1) 0 := fun c' t' f' h1 h2 h3 hx => k c' t' f' h1 h2 h3 (by omega)
theorem Clear.cell {h : Hist} {c : Nat} (k : Clear h c h.gauges.length 0) : Clear h (c + 1) 0 0 := fun c' t' f' h1 h2 h3 hx => k c' t' f' h1 h2 h3 (by omega)
theorem Clear.none {h : Hist} (k : Clear h h.warm.length 0 0) : conf h = Option.none := conf_none fun c t f h1 h2 h3 => k c t f h1 h2 h3 (.inl h1)
end Bal.Gas

/-
  Purity and leaks: plain Lean, no program in sight.
-/
namespace Bal.Gas
open Bal.Trim
theorem cellAt_set (p : Plant) (i j : Nat) (c : Cell) (hi : i < p.cells.length) : (p.cells.set i c).getD j default = if i = j then c else cellAt p j := by
  unfold cellAt
  by_cases h : i = j
  · subst h
    simp [hi]
  · rw [if_neg h, List.getD_eq_getElem?_getD, List.getD_eq_getElem?_getD, List.getElem?_set_ne h]
/-- a cell that leaks k times -/
def leakK (c : Cell) : Nat → Cell
  | 0 => c
  | k + 1 => leakC (leakK c k)
theorem tickTo_at (p : Plant) (i : Nat) : ∀ k, k ≤ p.cells.length → cellAt (tickTo p k) i = if i < k then leakC (cellAt p i) else cellAt p i
  | 0, _ => by simp [tickTo]
  | k + 1, h => by
    have h1 := tickTo_at p i k (by omega)
    have h2 := tickTo_at p k k (by omega)
    rw [if_neg (by omega)] at h2
    have h3 : cellAt (tickTo p (k + 1)) i = ((tickTo p k).cells.set k (leakC (cellAt (tickTo p k) k))).getD i default := rfl
    rw [h3, cellAt_set _ _ _ _ (by rw [tickTo_len]; omega), h1, h2]
    by_cases e : k = i
    · subst e
      rw [if_pos rfl, if_pos (by omega)]
    · rw [if_neg e]
      by_cases e2 : i < k
      · rw [if_pos e2, if_pos (by omega)]
      · rw [if_neg e2, if_neg (by omega)]
theorem ticks_at (p : Plant) (i : Nat) (hi : i < p.cells.length) : ∀ k, cellAt (ticks p k) i = leakK (cellAt p i) k
  | 0 => rfl
  | k + 1 => by
    show cellAt (tickTo (ticks p k) p.cells.length) i = leakC (leakK (cellAt p i) k)
    rw [tickTo_at _ _ _ (by rw [ticks_len]; exact Nat.le_refl _), if_pos hi, ticks_at p i hi k]
theorem resA_len (p : Plant) (d : Deed) : (resA p d).cells.length = p.cells.length := by
  unfold resA
  by_cases h1 : d.kind = 1
  · simp [h1, buyP]
  · by_cases h2 : d.kind = 2
    · simp [h2, fillP]
    · by_cases h3 : d.kind = 3
      · simp [h3, valveP, lessP]
      · by_cases h4 : d.kind = 4
        · simp [h4, moveP, lessP]
        · by_cases h5 : d.kind = 5
          · simp [h5, purifyP, lessP]
          · by_cases h6 : d.kind = 6
            · simp [h6, breatheP]
            · simp only [h1, h2, h3, h4, h5, h6, if_false]
              exact ticks_len p _
end Bal.Gas

/-
  Gas is conserved: what an act leaves as it was: plain Lean, no program in sight.
-/
namespace Bal.Gas
open Bal.Trim
/-- what stays of a cell, whatever the act -/
def SameC (c e : Cell) : Prop := c.room = e.room ∧ c.wlo = e.wlo ∧ c.whi = e.whi ∧ c.leak = e.leak
theorem SameC.rfl' (c : Cell) : SameC c c := ⟨rfl, rfl, rfl, rfl⟩
theorem leakK_same (c : Cell) : ∀ k, SameC (leakK c k) c
  | 0 => .rfl' c
  | k + 1 => by obtain ⟨h1, h2, h3, h4⟩ := leakK_same c k; exact ⟨h1, h2, h3, h4⟩
def namedB (d : Deed) (i : Nat) : Bool := decide (d.kind = 7) || (!decide (d.kind = 1) && decide ((i : Int) = d.cell)) || (decide (d.kind = 4) && decide ((i : Int) = d.to))
theorem err_kind {p : Plant} {d : Deed} (he : errA p d = 0) : 1 ≤ d.kind ∧ d.kind ≤ 7 := by
  by_cases h1 : d.kind = 1
  · omega
  by_cases h2 : d.kind = 2
  · omega
  by_cases h3 : d.kind = 3
  · omega
  by_cases h4 : d.kind = 4
  · omega
  by_cases h5 : d.kind = 5
  · omega
  by_cases h6 : d.kind = 6
  · omega
  by_cases h7 : d.kind = 7
  · omega
  simp [errA, h1, h2, h3, h4, h5, h6, h7] at he
theorem err_arg {p : Plant} {d : Deed} (he : errA p d = 0) : (d.kind ≠ 1 → d.kind ≠ 7 → argB p d = true) ∧ (d.kind = 4 → toB p d = true) ∧ 1 ≤ d.n := by
  have hk := err_kind he
  unfold errA at he
  by_cases h1 : d.kind = 1
  · simp [h1, rng, inB] at he
    exact ⟨fun h => absurd h1 h, fun h => by omega, by omega⟩
  by_cases h7 : d.kind = 7
  · simp [h7, rng, inB] at he
    exact ⟨fun _ h => absurd h7 h, fun h => by omega, by omega⟩
  have ha : argB p d = true := by
    cases hb : argB p d
    · have : d.kind = 2 ∨ d.kind = 3 ∨ d.kind = 4 ∨ d.kind = 5 ∨ d.kind = 6 := by omega
      rcases this with h | h | h | h | h <;> simp [h, hb] at he
    · rfl
  have hn := ha
  simp [argB, rng, inB] at hn
  refine ⟨fun _ _ => ha, fun h => ?_, by omega⟩
  cases hb : toB p d
  · simp [h, ha, hb] at he
  · rfl
theorem argB_iff {p : Plant} {d : Deed} : argB p d = true ↔ (0 ≤ d.cell ∧ d.cell ≤ p.cells.length - 1) ∧ 1 ≤ d.n ∧ d.n ≤ 10000000 := by simp [argB, rng, inB]
theorem toB_iff {p : Plant} {d : Deed} : toB p d = true ↔ (0 ≤ d.to ∧ d.to ≤ p.cells.length - 1) ∧ d.to ≠ d.cell := by simp [toB, rng, inB]
/-- one cell was set -/
theorem set_same {p : Plant} {d : Deed} {c : Cell} {i : Nat} (h : (0 ≤ d.cell ∧ d.cell ≤ p.cells.length - 1)) (hc : SameC c (at_ p d)) (ho : c.owed = (at_ p d).owed) :
    SameC ((p.cells.set d.cell.toNat c).getD i default) (cellAt p i) ∧ ((p.cells.set d.cell.toNat c).getD i default).owed = (cellAt p i).owed ∧
    ((i : Int) ≠ d.cell → (p.cells.set d.cell.toNat c).getD i default = cellAt p i) := by
  rw [cellAt_set _ _ _ _ (by omega)]
  by_cases e : d.cell.toNat = i
  · rw [if_pos e]
    have h2 : at_ p d = cellAt p i := by rw [at_, e]
    rw [← h2]
    exact ⟨hc, ho, fun h => by omega⟩
  · rw [if_neg e]
    exact ⟨.rfl' _, rfl, fun _ => rfl⟩
theorem kept_cell {p : Plant} {d : Deed} {i : Nat} (hi : i < p.cells.length) (he : errA p d = 0) :
    SameC (cellAt (resA p d) i) (cellAt p i) ∧ (d.kind ≠ 7 → (cellAt (resA p d) i).owed = (cellAt p i).owed) ∧ (namedB d i = false → cellAt (resA p d) i = cellAt p i) := by
  have hk := err_kind he
  obtain ⟨ha, ht, hn⟩ := err_arg he
  have hs := @set_same p d
  by_cases h1 : d.kind = 1
  · have hr : cellAt (resA p d) i = cellAt p i := by unfold resA; simp [h1]; rfl
    rw [hr]
    exact ⟨.rfl' _, fun _ => rfl, fun _ => rfl⟩
  by_cases h7 : d.kind = 7
  · have hr : cellAt (resA p d) i = leakK (cellAt p i) d.n.toNat := by
      have h1 : resA p d = ticks p d.n.toNat := by unfold resA; simp [h7, tickP]
      rw [h1, ticks_at p i hi]
    rw [hr]
    exact ⟨leakK_same _ _, fun h => absurd h7 h, fun h => by simp [namedB, h7] at h⟩
  have h2 := ha h1 h7
  rw [argB_iff] at h2
  have key : ∀ c : Cell, SameC c (at_ p d) → c.owed = (at_ p d).owed → cellAt (resA p d) i = (p.cells.set d.cell.toNat c).getD i default →
      SameC (cellAt (resA p d) i) (cellAt p i) ∧ (d.kind ≠ 7 → (cellAt (resA p d) i).owed = (cellAt p i).owed) ∧ (namedB d i = false → cellAt (resA p d) i = cellAt p i) := by
    intro c hc ho e
    obtain ⟨q1, q2, q3⟩ := hs (i := i) h2.1 hc ho
    rw [e]
    refine ⟨q1, fun _ => q2, fun hf => q3 fun h => ?_⟩
    simp [namedB, h, h1, h7] at hf
  by_cases h4 : d.kind = 4
  · have h3 := ht h4
    rw [toB_iff] at h3
    have hl : (lessP p d).cells.length = p.cells.length := by simp [lessP]
    obtain ⟨q1, q2, q3⟩ := hs (c := less (at_ p d) d.n) (i := i) h2.1 ⟨rfl, rfl, rfl, rfl⟩ rfl
    have e5 : cellAt (lessP p d) i = (p.cells.set d.cell.toNat (less (at_ p d) d.n)).getD i default := rfl
    rw [← e5] at q1 q2 q3
    have e : cellAt (resA p d) i = ((lessP p d).cells.set d.to.toNat (more (cellAt (lessP p d) d.to.toNat) (shareH (at_ p d) d.n) (d.n - shareH (at_ p d) d.n))).getD i default := by unfold resA; simp [h4]; rfl
    rw [cellAt_set _ _ _ _ (by rw [hl]; omega)] at e
    by_cases e2 : d.to.toNat = i
    · rw [if_pos e2] at e
      rw [e2] at e
      rw [e]
      refine ⟨⟨q1.1, q1.2.1, q1.2.2.1, q1.2.2.2⟩, fun _ => q2, fun hf => ?_⟩
      have : (i : Int) = d.to := by omega
      simp [namedB, h1, h7, h4, this] at hf
    · rw [if_neg e2] at e
      rw [e]
      refine ⟨q1, fun _ => q2, fun hf => q3 fun h => ?_⟩
      simp [namedB, h, h1, h7] at hf
  have h0 : d.kind = 2 ∨ d.kind = 3 ∨ d.kind = 5 ∨ d.kind = 6 := by omega
  rcases h0 with h | h | h | h
  · refine key { at_ p d with helium := (at_ p d).helium + d.n } ⟨rfl, rfl, rfl, rfl⟩ rfl ?_
    unfold resA; simp [h]; rfl
  · refine key (less (at_ p d) d.n) ⟨rfl, rfl, rfl, rfl⟩ rfl ?_
    unfold resA; simp [h]; rfl
  · refine key (less (at_ p d) d.n) ⟨rfl, rfl, rfl, rfl⟩ rfl ?_
    unfold resA; simp [h]; rfl
  · refine key { at_ p d with air := (at_ p d).air + d.n } ⟨rfl, rfl, rfl, rfl⟩ rfl ?_
    unfold resA; simp [h]; rfl
/-- the accounts that an act leaves -/
theorem tickTo_in (p : Plant) : ∀ k, (tickTo p k).inH = p.inH ∧ (tickTo p k).inA = p.inA ∧ (tickTo p k).vH = p.vH ∧ (tickTo p k).vA = p.vA ∧ (tickTo p k).pH = p.pH ∧ (tickTo p k).pA = p.pA
  | 0 => ⟨rfl, rfl, rfl, rfl, rfl, rfl⟩
  | k + 1 => tickTo_in p k
theorem ticks_in (p : Plant) : ∀ k, (ticks p k).inH = p.inH ∧ (ticks p k).inA = p.inA ∧ (ticks p k).vH = p.vH ∧ (ticks p k).vA = p.vA ∧ (ticks p k).pH = p.pH ∧ (ticks p k).pA = p.pA
  | 0 => ⟨rfl, rfl, rfl, rfl, rfl, rfl⟩
  | k + 1 => by
    obtain ⟨a1, a2, a3, a4, a5, a6⟩ := ticks_in p k
    obtain ⟨b1, b2, b3, b4, b5, b6⟩ := tickTo_in (ticks p k) p.cells.length
    exact ⟨b1.trans a1, b2.trans a2, b3.trans a3, b4.trans a4, b5.trans a5, b6.trans a6⟩
theorem kept_books {p : Plant} {d : Deed} (he : errA p d = 0) :
    ((d.kind = 1 ∨ d.kind = 6) → ¬ ((resA p d).inH = p.inH ∧ (resA p d).inA = p.inA)) ∧ (¬ (d.kind = 1 ∨ d.kind = 6) → (resA p d).inH = p.inH ∧ (resA p d).inA = p.inA) ∧
    (d.kind = 3 → ¬ ((resA p d).vH = p.vH ∧ (resA p d).vA = p.vA)) ∧ (d.kind ≠ 3 → (resA p d).vH = p.vH ∧ (resA p d).vA = p.vA) ∧
    (d.kind ≠ 7 → (resA p d).lH = p.lH ∧ (resA p d).lA = p.lA) ∧ (d.kind ≠ 5 → (resA p d).pH = p.pH ∧ (resA p d).pA = p.pA) := by
  have hk := err_kind he
  obtain ⟨ha, ht, hn⟩ := err_arg he
  have h0 : d.kind = 1 ∨ d.kind = 2 ∨ d.kind = 3 ∨ d.kind = 4 ∨ d.kind = 5 ∨ d.kind = 6 ∨ d.kind = 7 := by omega
  rcases h0 with h | h | h | h | h | h | h
  · simp [resA, h, buyP]; omega
  · simp [resA, h, fillP]
  · simp [resA, h, valveP, lessP]; omega
  · simp [resA, h, moveP, lessP]
  · simp [resA, h, purifyP, lessP]
  · simp [resA, h, breatheP]; omega
  · have h1 : resA p d = ticks p d.n.toNat := by unfold resA; simp [h, tickP]
    obtain ⟨a1, a2, a3, a4, a5, a6⟩ := ticks_in p d.n.toNat
    rw [h1, a1, a2, a3, a4, a5, a6]
    simp [h]
theorem doE_cases {p : Plant} {d : Deed} (hp : plantB p = true) : doE p d = 0 ∧ errA p d = 0 ∧ plantB (resA p d) = true ∧ doQ p d = resA p d ∨ (doE p d = 2 ∨ doE p d = 6 ∨ doE p d = 9) ∧ doQ p d = noPlant := by
  have hE : errA p d = 0 ∨ errA p d = 2 ∨ errA p d = 6 := by
    unfold errA
    repeat' split
    all_goals simp
  unfold doQ
  have e : doE p d = if errA p d = 0 then if plantB (resA p d) then 0 else 9 else errA p d := by rw [doE, if_pos hp]
  by_cases h : errA p d = 0
  · rw [if_pos h] at e
    cases hb : plantB (resA p d)
    · rw [hb] at e
      right
      rw [e]
      exact ⟨by simp, rfl⟩
    · rw [hb] at e
      left
      rw [e]
      exact ⟨rfl, h, rfl, rfl⟩
  · rw [if_neg h] at e
    right
    rw [e]
    refine ⟨by omega, if_neg h⟩
end Bal.Gas
