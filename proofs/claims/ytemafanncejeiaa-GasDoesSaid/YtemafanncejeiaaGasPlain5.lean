/-
  Plants and acts: what the document says of them. Plain Lean, no program in sight.
-/
import Derived.Test.YtemafanncejeiaaGasPlain
namespace Bal.Gas
open Bal.Trim
structure Plant where
  cells : List Cell
  bottles : Int
  inH : Int
  inA : Int
  vH : Int
  vA : Int
  lH : Int
  lA : Int
  pH : Int
  pA : Int
  deriving Inhabited
structure Deed where
  kind : Int
  cell : Int
  to : Int
  n : Int
  deriving DecidableEq, Inhabited
structure Par where
  h : Int
  a : Int
  deriving DecidableEq, Inhabited
def noPlant : Plant := ⟨[], 0, 0, 0, 0, 0, 0, 0, 0, 0⟩
def booksB (a b : Int) : Bool := rng [a, b] 0 1000000000000
def parB (x : Par) : Bool := booksB x.h x.a
def books (p : Plant) : List Par := [⟨p.inH, p.inA⟩, ⟨p.vH, p.vA⟩, ⟨p.lH, p.lA⟩, ⟨p.pH, p.pA⟩]
def books3 (p : Plant) : List Par := [⟨p.vH, p.vA⟩, ⟨p.lH, p.lA⟩, ⟨p.pH, p.pA⟩]
def sumH (l : List Cell) : Int := sumBy Cell.helium l
def sumA (l : List Cell) : Int := sumBy Cell.air l
def allH (p : Plant) : Int := p.bottles + p.vH + p.lH + p.pH + sumH p.cells
def allA (p : Plant) : Int := p.vA + p.lA + p.pA + sumA p.cells
def plantB (p : Plant) : Bool := decide (p.cells.length ≤ 12) && inB p.bottles 0 10000000 && booksB p.inH p.inA && booksB p.vH p.vA && booksB p.lH p.lA && booksB p.pH p.pA && p.cells.all cellB && decide (allH p = p.inH) && decide (allA p = p.inA)
def plantE (p : Plant) : Int := if plantB p then 0 else 32
/-- the share of so many units of a cell, and the cell without it -/
def shareH (c : Cell) (n : Int) : Int := n * c.helium / (c.helium + c.air)
def less (c : Cell) (n : Int) : Cell := { c with helium := c.helium - shareH c n, air := c.air - (n - shareH c n) }
def leakN (c : Cell) : Int := (c.owed + (c.helium + c.air) * c.leak) / 1000000
def leakC (c : Cell) : Cell := { less c (leakN c) with owed := (c.owed + (c.helium + c.air) * c.leak) % 1000000 }
def cellAt (p : Plant) (i : Nat) : Cell := p.cells.getD i default
/-- the i-th cell leaks once -/
def leakAt (p : Plant) (i : Nat) : Plant :=
  { p with cells := p.cells.set i (leakC (cellAt p i)), lH := p.lH + shareH (cellAt p i) (leakN (cellAt p i)), lA := p.lA + (leakN (cellAt p i) - shareH (cellAt p i) (leakN (cellAt p i))) }
def tickTo (p : Plant) : Nat → Plant
  | 0 => p
  | k + 1 => leakAt (tickTo p k) k
def ticks (p : Plant) : Nat → Plant
  | 0 => p
  | k + 1 => tickTo (ticks p k) p.cells.length
def argB (p : Plant) (d : Deed) : Bool := rng [d.cell] 0 (p.cells.length - 1) && rng [d.n] 1 10000000
def toB (p : Plant) (d : Deed) : Bool := rng [d.to] 0 (p.cells.length - 1) && !decide (d.to = d.cell)
def at_ (p : Plant) (d : Deed) : Cell := cellAt p d.cell.toNat
/-- the error of an act that a valid plant is asked for; 0 if there is none -/
def errA (p : Plant) (d : Deed) : Int :=
  if d.kind = 1 then if rng [d.n] 1 10000000 then 0 else 2
  else if d.kind = 2 then if argB p d then if p.bottles < d.n then 6 else 0 else 2
  else if d.kind = 3 then if argB p d then if amount (at_ p d) < d.n then 6 else 0 else 2
  else if d.kind = 4 then if argB p d then if toB p d then if amount (at_ p d) < d.n then 6 else 0 else 2 else 2
  else if d.kind = 5 then if argB p d then if amount (at_ p d) < d.n then 6 else 0 else 2
  else if d.kind = 6 then if argB p d then 0 else 2
  else if d.kind = 7 then if rng [d.n] 1 1000 then 0 else 2
  else 2
def buyP (p : Plant) (d : Deed) : Plant := { p with bottles := p.bottles + d.n, inH := p.inH + d.n }
def fillP (p : Plant) (d : Deed) : Plant := { p with cells := p.cells.set d.cell.toNat { at_ p d with helium := (at_ p d).helium + d.n }, bottles := p.bottles - d.n }
def lessP (p : Plant) (d : Deed) : Plant := { p with cells := p.cells.set d.cell.toNat (less (at_ p d) d.n) }
def valveP (p : Plant) (d : Deed) : Plant := { lessP p d with vH := p.vH + shareH (at_ p d) d.n, vA := p.vA + (d.n - shareH (at_ p d) d.n) }
def more (c : Cell) (h a : Int) : Cell := { c with helium := c.helium + h, air := c.air + a }
def moveP (p : Plant) (d : Deed) : Plant :=
  { lessP p d with cells := (lessP p d).cells.set d.to.toNat (more (cellAt (lessP p d) d.to.toNat) (shareH (at_ p d) d.n) (d.n - shareH (at_ p d) d.n)) }
def purifyP (p : Plant) (d : Deed) : Plant :=
  { lessP p d with bottles := p.bottles + (shareH (at_ p d) d.n - shareH (at_ p d) d.n / 50), pH := p.pH + shareH (at_ p d) d.n / 50, pA := p.pA + (d.n - shareH (at_ p d) d.n) }
def breatheP (p : Plant) (d : Deed) : Plant := { p with cells := p.cells.set d.cell.toNat { at_ p d with air := (at_ p d).air + d.n }, inA := p.inA + d.n }
def tickP (p : Plant) (d : Deed) : Plant := ticks p d.n.toNat
def resA (p : Plant) (d : Deed) : Plant :=
  if d.kind = 1 then buyP p d else if d.kind = 2 then fillP p d else if d.kind = 3 then valveP p d else if d.kind = 4 then moveP p d else if d.kind = 5 then purifyP p d
  else if d.kind = 6 then breatheP p d else tickP p d
def doE (p : Plant) (d : Deed) : Int := if plantB p then if errA p d = 0 then if plantB (resA p d) then 0 else 9 else errA p d else 32
def doQ (p : Plant) (d : Deed) : Plant := if doE p d = 0 then resA p d else noPlant

theorem booksB_iff {a b : Int} : booksB a b = true ↔ (0 ≤ a ∧ a ≤ 1000000000000) ∧ 0 ≤ b ∧ b ≤ 1000000000000 := by
  simp [booksB, rng, inB]
theorem plantB_iff {p : Plant} : plantB p = true ↔ p.cells.length ≤ 12 ∧ (0 ≤ p.bottles ∧ p.bottles ≤ 10000000) ∧ ((0 ≤ p.inH ∧ p.inH ≤ 1000000000000) ∧ 0 ≤ p.inA ∧ p.inA ≤ 1000000000000) ∧
    ((0 ≤ p.vH ∧ p.vH ≤ 1000000000000) ∧ 0 ≤ p.vA ∧ p.vA ≤ 1000000000000) ∧ ((0 ≤ p.lH ∧ p.lH ≤ 1000000000000) ∧ 0 ≤ p.lA ∧ p.lA ≤ 1000000000000) ∧ ((0 ≤ p.pH ∧ p.pH ≤ 1000000000000) ∧ 0 ≤ p.pA ∧ p.pA ≤ 1000000000000) ∧
    (∀ c ∈ p.cells, cellB c = true) ∧ allH p = p.inH ∧ allA p = p.inA := by
  simp only [plantB, Bool.and_eq_true, decide_eq_true_eq, booksB_iff, inB_iff, List.all_eq_true]
  constructor
  · rintro ⟨⟨⟨⟨⟨⟨⟨⟨a, b⟩, c⟩, d⟩, e⟩, f⟩, g⟩, h⟩, i⟩; exact ⟨a, b, c, d, e, f, g, h, i⟩
  · rintro ⟨a, b, c, d, e, f, g, h, i⟩; exact ⟨⟨⟨⟨⟨⟨⟨⟨a, b⟩, c⟩, d⟩, e⟩, f⟩, g⟩, h⟩, i⟩

theorem sumBy_set {α : Type} (g : α → Int) : ∀ (l : List α) (i : Nat) (x : α) (hi : i < l.length), sumBy g (l.set i x) = sumBy g l - g l[i] + g x
  | [], i, x, hi => by simp at hi
  | y :: ys, 0, x, hi => by simp [sumBy_cons]; omega
  | y :: ys, i + 1, x, hi => by
    have := sumBy_set g ys i x (by simpa using hi)
    simp only [List.set_cons_succ, sumBy_cons, this, List.getElem_cons_succ]
    omega
theorem sumBy_nonneg {α : Type} (g : α → Int) : ∀ (l : List α), (∀ x ∈ l, 0 ≤ g x) → 0 ≤ sumBy g l
  | [], _ => by simp
  | y :: ys, h => by
    have h1 := h y (by simp)
    have h2 := sumBy_nonneg g ys fun x hx => h x (by simp [hx])
    rw [sumBy_cons]; omega
/-- amounts that a cell may have -/
def okC (c : Cell) : Prop := (0 ≤ c.helium ∧ c.helium ≤ 10000000) ∧ 0 ≤ c.air ∧ c.air ≤ 10000000
theorem okC_of {c : Cell} (hc : cellB c = true) : okC c := ⟨(cellB_iff.1 hc).2.1, (cellB_iff.1 hc).2.2.1⟩
theorem share_bd {c : Cell} {n : Int} (hc : okC c) (h0 : 0 ≤ n) (h1 : n ≤ c.helium + c.air) : 0 ≤ shareH c n ∧ shareH c n ≤ c.helium ∧ shareH c n ≤ n ∧ n - shareH c n ≤ c.air := by
  obtain ⟨⟨hh, _⟩, ha, _⟩ := hc
  unfold shareH
  by_cases hz : c.helium + c.air = 0
  · have : n = 0 := by omega
    subst this
    have : c.helium = 0 := by omega
    have : c.air = 0 := by omega
    simp [*]
  · have hp : 0 < c.helium + c.air := by omega
    have m0 : 0 ≤ n * c.helium := Int.mul_nonneg h0 hh
    refine ⟨Int.ediv_nonneg m0 (by omega), ?_, ?_, ?_⟩
    · refine Int.ediv_le_of_le_mul hp ?_
      rw [Int.mul_comm c.helium]
      exact Int.mul_le_mul_of_nonneg_right h1 hh
    · refine Int.ediv_le_of_le_mul hp ?_
      have := Int.mul_le_mul_of_nonneg_left (show c.helium ≤ c.helium + c.air by omega) h0
      exact this
    · have : n - c.air ≤ n * c.helium / (c.helium + c.air) := by
        rw [Int.le_ediv_iff_mul_le hp]
        have e : (n - c.air) * (c.helium + c.air) = n * c.helium - c.air * (c.helium + c.air - n) := by
          simp only [Int.mul_add, Int.mul_sub, Int.mul_comm]; omega
        have := Int.mul_nonneg ha (show 0 ≤ c.helium + c.air - n by omega)
        omega
      omega
theorem leak_bd {c : Cell} (hc : cellB c = true) : (0 ≤ c.owed + (c.helium + c.air) * c.leak ∧ c.owed + (c.helium + c.air) * c.leak ≤ 2000001000000) ∧ (0 ≤ (c.helium + c.air) * c.leak ∧ (c.helium + c.air) * c.leak ≤ 2000000000000) ∧ 0 ≤ leakN c ∧ leakN c ≤ c.helium + c.air := by
  obtain ⟨_, ⟨hh, hh'⟩, ⟨ha, ha'⟩, ⟨hl, hl'⟩, ⟨ho, ho'⟩, _⟩ := cellB_iff.1 hc
  have m0 : 0 ≤ (c.helium + c.air) * c.leak := Int.mul_nonneg (by omega) hl
  have m1 : (c.helium + c.air) * c.leak ≤ (c.helium + c.air) * 100000 := Int.mul_le_mul_of_nonneg_left hl' (by omega)
  refine ⟨⟨by omega, by omega⟩, ⟨m0, by omega⟩, ?_, ?_⟩ <;> unfold leakN <;> omega
theorem less_B {c : Cell} {n : Int} (hc : cellB c = true) (h0 : 0 ≤ n) (h1 : n ≤ c.helium + c.air) : cellB (less c n) = true := by
  have hs := share_bd (okC_of hc) h0 h1
  rw [cellB_iff] at hc ⊢
  simp only [less]
  omega
theorem leakC_B {c : Cell} (hc : cellB c = true) : cellB (leakC c) = true := by
  have hb := leak_bd hc
  have hl := less_B hc hb.2.2.1 hb.2.2.2
  rw [cellB_iff] at hl ⊢
  simp only [leakC]
  simp only [less] at hl ⊢
  have := Int.emod_nonneg (c.owed + (c.helium + c.air) * c.leak) (show (1000000 : Int) ≠ 0 by decide)
  have := Int.emod_lt_of_pos (c.owed + (c.helium + c.air) * c.leak) (show (0 : Int) < 1000000 by decide)
  omega
theorem cellAt_get {p : Plant} {i : Nat} (hi : i < p.cells.length) : cellAt p i = p.cells[i] := by simp [cellAt, hi]
theorem leakAt_len (p : Plant) (i : Nat) : (leakAt p i).cells.length = p.cells.length := by simp [leakAt]
theorem tickTo_len (p : Plant) : ∀ k, (tickTo p k).cells.length = p.cells.length
  | 0 => rfl
  | k + 1 => by rw [tickTo, leakAt_len, tickTo_len p k]
theorem ticks_len (p : Plant) : ∀ k, (ticks p k).cells.length = p.cells.length
  | 0 => rfl
  | k + 1 => by rw [ticks, tickTo_len, ticks_len p k]
theorem leakAt_B {p : Plant} {i : Nat} (hp : plantB p = true) (hi : i < p.cells.length) : plantB (leakAt p i) = true := by
  rw [plantB_iff] at hp
  obtain ⟨h1, h2, h3, h4, h5, h6, h7, h8, h9⟩ := hp
  have hc := h7 _ (List.getElem_mem hi)
  have hb := leak_bd hc
  have hs := share_bd (okC_of hc) hb.2.2.1 hb.2.2.2
  have e := cellAt_get hi
  have hsH := sumBy_set Cell.helium p.cells i (leakC p.cells[i]) hi
  have hsA := sumBy_set Cell.air p.cells i (leakC p.cells[i]) hi
  have h7' : ∀ c ∈ p.cells.set i (leakC p.cells[i]), cellB c = true := fun c hc' => by
    rcases List.mem_or_eq_of_mem_set hc' with h | h
    · exact h7 c h
    · rw [h]; exact leakC_B hc
  have nH : 0 ≤ sumBy Cell.helium (p.cells.set i (leakC p.cells[i])) := sumBy_nonneg _ _ fun c hc' => (cellB_iff.1 (h7' c hc')).2.1.1
  have nA : 0 ≤ sumBy Cell.air (p.cells.set i (leakC p.cells[i])) := sumBy_nonneg _ _ fun c hc' => (cellB_iff.1 (h7' c hc')).2.2.1.1
  rw [plantB_iff]
  simp only [allH, allA, sumH, sumA] at h8 h9
  simp only [leakAt, e, allH, allA, sumH, sumA, List.length_set]
  simp only [leakC, less] at hsH hsA
  simp only [leakC, less] at nH nA h7' ⊢
  generalize sumBy Cell.helium (p.cells.set i _) = SH at *
  generalize sumBy Cell.air (p.cells.set i _) = SA at *
  generalize sumBy Cell.helium p.cells = TH at *
  generalize sumBy Cell.air p.cells = TA at *
  generalize shareH p.cells[i] (leakN p.cells[i]) = S at *
  generalize leakN p.cells[i] = L at *
  refine ⟨h1, h2, h3, h4, ?_, h6, h7', ?_, ?_⟩ <;> omega
theorem tickTo_B {p : Plant} (hp : plantB p = true) : ∀ k, k ≤ p.cells.length → plantB (tickTo p k) = true
  | 0, _ => hp
  | k + 1, h => leakAt_B (tickTo_B hp k (by omega)) (by rw [tickTo_len]; omega)
theorem ticks_B {p : Plant} (hp : plantB p = true) : ∀ k, plantB (ticks p k) = true
  | 0 => hp
  | k + 1 => by rw [ticks]; exact tickTo_B (ticks_B hp k) _ (by rw [ticks_len]; exact Nat.le_refl _)
end Bal.Gas
