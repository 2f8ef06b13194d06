/-
  The plain side of the trim statements: what loads, limits, frames and the rest are, and what is asked of them. No program in sight.
-/

/-
  The plain side of the trim statements: what loads, limits, frames and the rest are, and what is asked of them. No program in sight.
-/
namespace Bal.Trim

structure Load where
  alo : Int
  ahi : Int
  wlo : Int
  whi : Int
  deriving DecidableEq, Inhabited
structure Limit where
  a : Int
  b : Int
  c : Int
  deriving DecidableEq, Inhabited
structure Frm where
  pos : Int
  shear : Int
  bend : Int
  deriving DecidableEq, Inhabited
structure Put where
  pos : Int
  wt : Int
  deriving DecidableEq, Inhabited
structure Hold where
  pos : Int
  room : Int
  deriving DecidableEq, Inhabited
structure Parcel where
  wt : Int
  cls : Int
  deriving DecidableEq, Inhabited
structure Rule where
  a : Int
  b : Int
  apart : Int
  deriving DecidableEq, Inhabited

def inB (n lo hi : Int) : Bool := decide (lo ≤ n) && decide (n ≤ hi)
def spanB (lo hi m : Int) : Bool := decide (lo ≤ hi) && decide (-m ≤ lo) && decide (hi ≤ m)
def loadB (x : Load) : Bool := spanB x.alo x.ahi 20000 && spanB x.wlo x.whi 1073741824
def limitB (x : Limit) : Bool := inB x.a (-1000) 1000 && inB x.b (-1000) 1000 && inB x.c (-1000000000000000000) 1000000000000000000
def frameB (x : Frm) : Bool := inB x.pos (-20000) 20000 && inB x.shear 0 1000000000000 && inB x.bend 0 10000000000000000

def checkList {α : Type} (valid : α → Bool) (most : Nat) (err : Int) (xs : List α) : Int := if most < xs.length then 4 else if xs.all valid then 0 else err
def checkLoads (l : List Load) : Int := checkList loadB 40 40 l
def checkLimits (l : List Limit) : Int := checkList limitB 12 41 l
def checkFrames (l : List Frm) : Int := checkList frameB 12 42 l
def great (a b c d : Int) : Bool := decide (50 < a) || decide (50 < b) || decide (50 < c) || decide (50 < d)

theorem checkList_many {α : Type} {valid : α → Bool} {most : Nat} {err : Int} {xs : List α} (h : most < xs.length) : checkList valid most err xs = 4 := if_pos h
theorem checkList_ok {α : Type} {valid : α → Bool} {most : Nat} {err : Int} {xs : List α} (h : ¬ most < xs.length) (h' : xs.all valid = true) : checkList valid most err xs = 0 := by
  unfold checkList; rw [if_neg h, if_pos h']
theorem checkList_bad {α : Type} {valid : α → Bool} {most : Nat} {err : Int} {xs : List α} (h : ¬ most < xs.length) (k : Nat) (hk : k < xs.length) (h' : valid xs[k] = false) : checkList valid most err xs = err := by
  unfold checkList; rw [if_neg h, if_neg]
  intro ha
  rw [List.all_eq_true.1 ha _ (List.getElem_mem hk)] at h'
  cases h'
theorem take_all {α : Type} {valid : α → Bool} {xs : List α} {k : Nat} (hk : k < xs.length) (h : (xs.take k).all valid = true) (h' : valid xs[k] = true) : (xs.take (k + 1)).all valid = true := by
  rw [List.take_succ_eq_append_getElem hk, List.all_append, h]
  simp [h']
end Bal.Trim

/-
  Sums, products, least and greatest: plain Lean.
-/
namespace Bal.Trim
/-! ### Sums and products -/
def sumBy {α : Type} (g : α → Int) (xs : List α) : Int := xs.foldr (fun x s => g x + s) 0
@[simp] theorem sumBy_nil {α : Type} (g : α → Int) : sumBy g [] = 0 := rfl
theorem sumBy_cons {α : Type} (g : α → Int) (x : α) (xs : List α) : sumBy g (x :: xs) = g x + sumBy g xs := rfl
theorem sumBy_append {α : Type} (g : α → Int) (xs ys : List α) : sumBy g (xs ++ ys) = sumBy g xs + sumBy g ys := by
  induction xs with
  | nil => simp
  | cons x xs ih => simp only [List.cons_append, sumBy_cons, ih]; omega
theorem sumBy_take {α : Type} (g : α → Int) (xs : List α) (k : Nat) (hk : k < xs.length) : sumBy g (xs.take (k + 1)) = sumBy g (xs.take k) + g xs[k] := by
  rw [List.take_succ_eq_append_getElem hk, sumBy_append, sumBy_cons, sumBy_nil]; omega
theorem sumBy_bd {α : Type} (g : α → Int) (M : Int) (xs : List α) (h : ∀ x ∈ xs, -M ≤ g x ∧ g x ≤ M) : -(M * xs.length) ≤ sumBy g xs ∧ sumBy g xs ≤ M * xs.length := by
  induction xs with
  | nil => simp
  | cons x xs ih =>
    have h1 := ih (fun y hy => h y (by simp [hy]))
    have h2 := h x (by simp)
    rw [sumBy_cons, List.length_cons]
    have e : M * ((xs.length + 1 : Nat) : Int) = M * (xs.length : Int) + M := by rw [Int.natCast_add, Int.mul_add]; simp
    rw [e]
    omega
/-- the sum of the first k of at most n terms, each from -M to M -/
theorem sumBy_take_bd {α : Type} (g : α → Int) (M N : Int) (xs : List α) (n : Nat) (hn : xs.length ≤ n) (hM : 0 ≤ M) (hN : M * n ≤ N) (h : ∀ x ∈ xs, -M ≤ g x ∧ g x ≤ M) (k : Nat) : -N ≤ sumBy g (xs.take k) ∧ sumBy g (xs.take k) ≤ N := by
  have h1 := sumBy_bd g M (xs.take k) (fun x hx => h x (List.mem_of_mem_take hx))
  have h2 : M * ((xs.take k).length : Int) ≤ M * (n : Int) := Int.mul_le_mul_of_nonneg_left (by have : (xs.take k).length ≤ n := by rw [List.length_take]; omega
                                                                                                omega) hM
  omega
theorem mul_bd {x y A B : Int} (hx : -A ≤ x) (hx' : x ≤ A) (hy : -B ≤ y) (hy' : y ≤ B) : -(A * B) ≤ x * y ∧ x * y ≤ A * B := by
  have h1 : x.natAbs ≤ A.toNat := by omega
  have h2 : y.natAbs ≤ B.toNat := by omega
  have h3 := Nat.mul_le_mul h1 h2
  rw [← Int.natAbs_mul] at h3
  have h4 : ((A.toNat * B.toNat : Nat) : Int) = A * B := by
    rw [Int.natCast_mul, Int.toNat_of_nonneg (by omega), Int.toNat_of_nonneg (by omega)]
  omega
def tLo (a b c d : Int) : Int := min (min (min (a * c) (a * d)) (b * c)) (b * d)
def tHi (a b c d : Int) : Int := max (max (max (a * c) (a * d)) (b * c)) (b * d)
theorem t_bd {a b c d A B : Int} (h : -A ≤ a ∧ a ≤ A ∧ -A ≤ b ∧ b ≤ A) (h' : -B ≤ c ∧ c ≤ B ∧ -B ≤ d ∧ d ≤ B) :
    (-(A * B) ≤ tLo a b c d ∧ tLo a b c d ≤ A * B) ∧ (-(A * B) ≤ tHi a b c d ∧ tHi a b c d ≤ A * B) := by
  have h1 := mul_bd h.1 h.2.1 h'.1 h'.2.1
  have h2 := mul_bd h.1 h.2.1 h'.2.2.1 h'.2.2.2
  have h3 := mul_bd h.2.2.1 h.2.2.2 h'.1 h'.2.1
  have h4 := mul_bd h.2.2.1 h.2.2.2 h'.2.2.1 h'.2.2.2
  unfold tLo tHi
  omega
theorem ite_min (a b : Int) : (if b < a then b else a) = min a b := by split <;> omega
theorem ite_max (a b : Int) : (if a < b then b else a) = max a b := by split <;> omega
def lmin : List Int → Int
  | [] => 0
  | x :: xs => xs.foldl min x
def lmax : List Int → Int
  | [] => 0
  | x :: xs => xs.foldl max x
theorem lmin_take {xs : List Int} {k : Nat} (h0 : 0 < k) (hk : k < xs.length) : lmin (xs.take (k + 1)) = min (lmin (xs.take k)) xs[k] := by
  cases xs with
  | nil => simp at hk
  | cons x xs =>
    obtain ⟨j, rfl⟩ : ∃ j, k = j + 1 := ⟨k - 1, by omega⟩
    have hj : j < xs.length := by simpa using hk
    simp only [List.take_succ_cons, lmin, List.getElem_cons_succ]
    rw [List.take_succ_eq_append_getElem hj, List.foldl_append]
    rfl
theorem lmax_take {xs : List Int} {k : Nat} (h0 : 0 < k) (hk : k < xs.length) : lmax (xs.take (k + 1)) = max (lmax (xs.take k)) xs[k] := by
  cases xs with
  | nil => simp at hk
  | cons x xs =>
    obtain ⟨j, rfl⟩ : ∃ j, k = j + 1 := ⟨k - 1, by omega⟩
    have hj : j < xs.length := by simpa using hk
    simp only [List.take_succ_cons, lmax, List.getElem_cons_succ]
    rw [List.take_succ_eq_append_getElem hj, List.foldl_append]
    rfl
theorem loadB_bd {x : Load} (h : loadB x = true) : (-20000 ≤ x.alo ∧ x.alo ≤ 20000 ∧ -20000 ≤ x.ahi ∧ x.ahi ≤ 20000) ∧ (-1073741824 ≤ x.wlo ∧ x.wlo ≤ 1073741824 ∧ -1073741824 ≤ x.whi ∧ x.whi ≤ 1073741824) ∧ x.alo ≤ x.ahi ∧ x.wlo ≤ x.whi := by
  simp [loadB, spanB] at h
  omega
theorem checkLoads_ok {l : List Load} (h : checkLoads l = 0) : l.length ≤ 40 ∧ ∀ x ∈ l, loadB x = true := by
  unfold checkLoads checkList at h
  split at h
  · cases h
  · split at h
    · rename_i h1 h2
      exact ⟨by omega, fun x hx => List.all_eq_true.1 h2 x hx⟩
    · cases h
theorem checkLimits_ok {l : List Limit} (h : checkLimits l = 0) : l.length ≤ 12 ∧ ∀ x ∈ l, limitB x = true := by
  unfold checkLimits checkList at h
  split at h
  · cases h
  · split at h
    · rename_i h1 h2
      exact ⟨by omega, fun x hx => List.all_eq_true.1 h2 x hx⟩
    · cases h
theorem checkFrames_ok {l : List Frm} (h : checkFrames l = 0) : l.length ≤ 12 ∧ ∀ x ∈ l, frameB x = true := by
  unfold checkFrames checkList at h
  split at h
  · cases h
  · split at h
    · rename_i h1 h2
      exact ⟨by omega, fun x hx => List.all_eq_true.1 h2 x hx⟩
    · cases h
/-- a result, if there is no error -/
def ifOk (e v : Int) : Int := if e = 0 then v else 0
/-- what the heaviness and the moment of loads are -/
def wLo (x : Load) : Int := x.wlo
def wHi (x : Load) : Int := x.whi
def mLo (x : Load) : Int := tLo x.alo x.ahi x.wlo x.whi
def mHi (x : Load) : Int := tHi x.alo x.ahi x.wlo x.whi
end Bal.Trim

/-
  The plain side of the gas statements: cells, air, hulls, and what is computed of them. No program in sight.
-/
namespace Bal.Gas
open Bal.Trim

structure Cell where
  room : Int
  helium : Int
  air : Int
  wlo : Int
  whi : Int
  leak : Int
  owed : Int
  deriving DecidableEq, Inhabited
structure Air where
  plo : Int
  phi : Int
  tlo : Int
  thi : Int
  deriving DecidableEq, Inhabited
structure Hull where
  room : Int
  gas : Int
  ballonet : Int
  bag : Int
  wlo : Int
  whi : Int
  least : Int
  most : Int
  deriving DecidableEq, Inhabited
structure Ratio where
  num : Int
  den : Int
  deriving DecidableEq, Inhabited

def rng (xs : List Int) (lo hi : Int) : Bool := xs.all (fun n => inB n lo hi)
def spanIn (x y lo hi : Int) : Bool := rng [x, y] lo hi && decide (x ≤ y)
def airB (a : Air) : Bool := spanIn a.plo a.phi 1000 12000 && spanIn a.tlo a.thi 1500 3500
def checkAir (a : Air) : Int := if airB a then 0 else 30
def cellFits (c : Cell) : Bool := rng [c.room] 1 10000000 && rng [c.helium, c.air] 0 10000000 && rng [c.leak] 0 100000 && rng [c.owed] 0 999999
def cellB (c : Cell) : Bool := cellFits c && spanIn c.wlo c.whi (-300) 300
def checkCell (c : Cell) : Int := if cellB c then 0 else 31
def down (r : Ratio) : Int := r.num / r.den
def up (r : Ratio) : Int := -((-r.num) / r.den)
def leastLo (rs : List Ratio) : Int := lmin (rs.map down)
def leastHi (rs : List Ratio) : Int := lmax (rs.map up)
def amount (c : Cell) : Int := c.helium + c.air
def heatLo (c : Cell) (a : Air) : Int := a.tlo + c.wlo
def heatHi (c : Cell) (a : Air) : Int := a.thi + c.whi

theorem leastLo_snoc {xs : List Ratio} (r : Ratio) (h : xs ≠ []) : leastLo (xs ++ [r]) = min (leastLo xs) (down r) := by
  cases xs with
  | nil => exact absurd rfl h
  | cons x xs => simp [leastLo, lmin, List.foldl_append]
theorem leastHi_snoc {xs : List Ratio} (r : Ratio) (h : xs ≠ []) : leastHi (xs ++ [r]) = max (leastHi xs) (up r) := by
  cases xs with
  | nil => exact absurd rfl h
  | cons x xs => simp [leastHi, lmax, List.foldl_append]
theorem inB_iff {n lo hi : Int} : inB n lo hi = true ↔ lo ≤ n ∧ n ≤ hi := by simp [inB]
theorem airB_iff {a : Air} : airB a = true ↔ (1000 ≤ a.plo ∧ a.plo ≤ a.phi ∧ a.phi ≤ 12000) ∧ (1500 ≤ a.tlo ∧ a.tlo ≤ a.thi ∧ a.thi ≤ 3500) := by
  simp [airB, spanIn, rng, inB]; omega
theorem cellB_iff {c : Cell} : cellB c = true ↔ (1 ≤ c.room ∧ c.room ≤ 10000000) ∧ (0 ≤ c.helium ∧ c.helium ≤ 10000000) ∧ (0 ≤ c.air ∧ c.air ≤ 10000000) ∧ (0 ≤ c.leak ∧ c.leak ≤ 100000) ∧ (0 ≤ c.owed ∧ c.owed ≤ 999999) ∧ (-300 ≤ c.wlo ∧ c.wlo ≤ c.whi ∧ c.whi ≤ 300) := by
  simp [cellB, cellFits, spanIn, rng, inB]; omega

/-- Go's quotient and remainder of a negative number -/
theorem tdiv_down {a b : Int} (ha : a < 0) (hb : 0 < b) : (if a.tmod b = 0 then a.tdiv b else a.tdiv b - 1) = a / b := by
  have h1 := Int.mul_tdiv_add_tmod a b
  have h2 : -b < a.tmod b ∧ a.tmod b ≤ 0 := by
    have h3 := Int.tmod_lt_of_pos (-a) hb
    have h4 := Int.tmod_nonneg b (a := -a) (by omega)
    rw [Int.neg_tmod] at h3 h4
    omega
  generalize a.tdiv b = q at *
  generalize a.tmod b = r at *
  split
  · rename_i h0
    subst h0
    rw [← h1, Int.add_zero, Int.mul_ediv_cancel_left _ (by omega)]
  · have e : a = (b + r) + b * (q - 1) := by rw [← h1, Int.mul_sub, Int.mul_one]; omega
    rw [e, Int.add_mul_ediv_left _ _ (by omega), Int.ediv_eq_zero_of_lt (by omega) (by omega)]
    omega
theorem tdiv_pos {a b : Int} (ha : 0 ≤ a) : a.tdiv b = a / b := Int.tdiv_eq_ediv_of_nonneg ha
theorem div_bd {a b N : Int} (h : -N ≤ a) (h' : a ≤ N) (hb : 0 < b) (hN : 0 ≤ N) : -N ≤ a / b ∧ a / b ≤ N := by
  constructor
  · rw [Int.le_ediv_iff_mul_le hb]
    have : N * 1 ≤ N * b := Int.mul_le_mul_of_nonneg_left (by omega) hN
    rw [Int.neg_mul]; omega
  · by_cases h0 : 0 ≤ a
    · have := Int.ediv_le_self b h0; omega
    · have := Int.ediv_neg_of_neg_of_pos (by omega : a < 0) hb; omega
end Bal.Gas

/-
  Volumes: the plain side.
-/
namespace Bal.Gas
open Bal.Trim
def asked (c : Cell) (a : Air) : Int := if cellB c then checkAir a else 31
def volLo (c : Cell) (a : Air) : Int := amount c * heatLo c a / a.phi
def volHi (c : Cell) (a : Air) : Int := -((-(amount c * heatHi c a)) / a.plo)
def state (c : Cell) (a : Air) : Int := if amount c * heatHi c a ≤ c.room * a.plo then 1 else if c.room * a.phi < amount c * heatLo c a then 3 else 2
theorem div_le_div {a b c d : Int} (ha : 0 ≤ a) (hac : a ≤ c) (hd : 0 < d) (hdb : d ≤ b) : a / b ≤ c / d := by
  rw [Int.le_ediv_iff_mul_le hd]
  have h1 : 0 ≤ a / b := Int.ediv_nonneg ha (by omega)
  have h2 : a / b * d ≤ a / b * b := Int.mul_le_mul_of_nonneg_left hdb h1
  have h3 : a / b * b ≤ a := Int.ediv_mul_le a (by omega)
  omega
theorem up_le_up {a b c d : Int} (ha : 0 ≤ a) (hac : a ≤ c) (hd : 0 < d) (hdb : d ≤ b) : -((-a) / b) ≤ -((-c) / d) := by
  have : (-c) / d ≤ (-a) / b := by
    rw [Int.le_ediv_iff_mul_le (by omega : 0 < b)]
    have h1 : (-c) / d ≤ 0 := by
      have := Int.ediv_le_ediv hd (show -c ≤ 0 by omega)
      simpa using this
    have h2 : (-c) / d * b ≤ (-c) / d * d := by
      rw [← Int.neg_le_neg_iff, ← Int.neg_mul, ← Int.neg_mul]
      exact Int.mul_le_mul_of_nonneg_left hdb (by omega)
    have h3 : (-c) / d * d ≤ -c := Int.ediv_mul_le (-c) (by omega)
    omega
  omega
theorem leastLo_two (r s : Ratio) : leastLo [r, s] = min (down r) (down s) := rfl
theorem leastHi_two (r s : Ratio) : leastHi [r, s] = max (up r) (up s) := rfl
/-- the products of a valid cell in valid air -/
theorem prod_bd {c : Cell} {a : Air} (hc : cellB c = true) (ha : airB a = true) :
    0 ≤ amount c ∧ amount c ≤ 20000000 ∧ (0 ≤ amount c * heatLo c a ∧ amount c * heatLo c a ≤ amount c * heatHi c a ∧ amount c * heatHi c a ≤ 76000000000) ∧
    (0 ≤ c.room * a.plo ∧ c.room * a.plo ≤ 120000000000 ∧ 0 ≤ c.room * a.phi ∧ c.room * a.phi ≤ 120000000000) := by
  obtain ⟨h1, h2, h3, h4, h5, h6⟩ := cellB_iff.1 hc
  obtain ⟨h7, h8⟩ := airB_iff.1 ha
  have hn0 : 0 ≤ amount c := by unfold amount; omega
  have hn1 : amount c ≤ 20000000 := by unfold amount; omega
  have ht0 : 0 ≤ heatLo c a := by unfold heatLo; omega
  have ht1 : heatLo c a ≤ heatHi c a := by unfold heatLo heatHi; omega
  have ht2 : heatHi c a ≤ 3800 := by unfold heatHi; omega
  have p0 := Int.mul_nonneg hn0 ht0
  have p1 := Int.mul_le_mul_of_nonneg_left ht1 hn0
  have p2 := (mul_bd (A := 20000000) (B := 3800) (x := amount c) (y := heatHi c a) (by omega) hn1 (by omega) ht2).2
  have q0 := Int.mul_nonneg (show 0 ≤ c.room by omega) (show 0 ≤ a.plo by omega)
  have q1 := (mul_bd (A := 10000000) (B := 12000) (x := c.room) (y := a.plo) (by omega) (by omega) (by omega) (by omega)).2
  have r0 := Int.mul_nonneg (show 0 ≤ c.room by omega) (show 0 ≤ a.phi by omega)
  have r1 := (mul_bd (A := 10000000) (B := 12000) (x := c.room) (y := a.phi) (by omega) (by omega) (by omega) (by omega)).2
  refine ⟨hn0, hn1, ⟨p0, p1, by omega⟩, q0, by omega, r0, by omega⟩
theorem vol_lo {c : Cell} {a : Air} (hc : cellB c = true) (ha : airB a = true) : leastLo [⟨amount c * heatLo c a, a.phi⟩, ⟨amount c * heatHi c a, a.plo⟩] = volLo c a := by
  obtain ⟨_, _, ⟨p0, p1, _⟩, _⟩ := prod_bd hc ha
  obtain ⟨h7, h8⟩ := airB_iff.1 ha
  rw [leastLo_two]
  have := div_le_div p0 p1 (show 0 < a.plo by omega) h7.2.1
  simp only [down, volLo]
  omega
theorem vol_hi {c : Cell} {a : Air} (hc : cellB c = true) (ha : airB a = true) : leastHi [⟨amount c * heatLo c a, a.phi⟩, ⟨amount c * heatHi c a, a.plo⟩] = volHi c a := by
  obtain ⟨_, _, ⟨p0, p1, _⟩, _⟩ := prod_bd hc ha
  obtain ⟨h7, h8⟩ := airB_iff.1 ha
  rw [leastHi_two]
  have := up_le_up p0 p1 (show 0 < a.plo by omega) h7.2.1
  simp only [up, volHi]
  omega
/-- Go's quotient, mended: rounded down -/
theorem floor_eq {a b : Int} (hb : 0 < b) : (if a.tdiv b * b > a then a.tdiv b - 1 else a.tdiv b) = a / b := by
  by_cases ha : a < 0
  · have h := tdiv_down ha hb
    rw [← h]
    have h1 := Int.mul_tdiv_add_tmod a b
    have h2 : a.tmod b ≤ 0 := by
      have h4 := Int.tmod_nonneg b (a := -a) (by omega)
      rw [Int.neg_tmod] at h4
      omega
    have h3 : b * a.tdiv b = a.tdiv b * b := Int.mul_comm _ _
    by_cases h0 : a.tmod b = 0
    · rw [if_pos h0, if_neg (by omega)]
    · rw [if_neg h0, if_pos (by omega)]
  · rw [tdiv_pos (by omega)]
    have := Int.ediv_mul_le a (show b ≠ 0 by omega)
    rw [if_neg (by omega)]
theorem tdiv_bd {a b N : Int} (h : -N ≤ a) (h' : a ≤ N) (hb : 0 < b) (hN : 0 ≤ N) : (-N ≤ a.tdiv b ∧ a.tdiv b ≤ N) ∧ -N ≤ a.tdiv b * b ∧ a.tdiv b * b ≤ N := by
  have h1 := Int.mul_tdiv_add_tmod a b
  rw [Int.mul_comm] at h1
  by_cases ha : a < 0
  · have h4 := Int.tmod_nonneg b (a := -a) (by omega)
    have h5 : (-a).tmod b ≤ -a := by
      have := Int.mul_tdiv_add_tmod (-a) b
      have h6 : 0 ≤ (-a).tdiv b := Int.tdiv_nonneg (by omega) (by omega)
      have h7 := Int.mul_nonneg (show 0 ≤ b by omega) h6
      omega
    rw [Int.neg_tmod] at h4 h5
    have h8 : 0 ≤ (-a).tdiv b := Int.tdiv_nonneg (by omega) (by omega)
    rw [Int.neg_tdiv] at h8
    have h9 : (-(a.tdiv b)) * 1 ≤ (-(a.tdiv b)) * b := Int.mul_le_mul_of_nonneg_left (by omega) h8
    rw [Int.neg_mul, Int.neg_mul] at h9
    refine ⟨⟨?_, ?_⟩, ?_, ?_⟩ <;> omega
  · have h2 := Int.tmod_nonneg b (a := a) (by omega)
    have h3 : 0 ≤ a.tdiv b := Int.tdiv_nonneg (by omega) (by omega)
    have h9 : (a.tdiv b) * 1 ≤ (a.tdiv b) * b := Int.mul_le_mul_of_nonneg_left (by omega) h3
    have h10 := Int.mul_nonneg h3 (show 0 ≤ b by omega)
    refine ⟨⟨?_, ?_⟩, ?_, ?_⟩ <;> omega
theorem asked_ok {c : Cell} {a : Air} (hc : cellB c = true) (ha : airB a = true) : asked c a = 0 := by simp [asked, checkAir, hc, ha]
theorem asked_air {c : Cell} {a : Air} (hc : cellB c = true) (ha : airB a = false) : asked c a = 30 := by simp [asked, checkAir, hc, ha]
theorem asked_cell {c : Cell} {a : Air} (hc : cellB c = false) : asked c a = 31 := by simp [asked, hc]
end Bal.Gas

/-
  Plants and acts: what the document says of them. Plain Lean, no program in sight.
-/
namespace Bal.Gas
open Bal.Trim
structure Plant where
  cells : List Cell
  bottles : Int
  inH : Int
  inA : Int
  vH : Int
  vA : Int
  lH : Int
  lA : Int
  pH : Int
  pA : Int
  deriving Inhabited
structure Deed where
  kind : Int
  cell : Int
  to : Int
  n : Int
  deriving DecidableEq, Inhabited
structure Par where
  h : Int
  a : Int
  deriving DecidableEq, Inhabited
def noPlant : Plant := ⟨[], 0, 0, 0, 0, 0, 0, 0, 0, 0⟩
def booksB (a b : Int) : Bool := rng [a, b] 0 1000000000000
def parB (x : Par) : Bool := booksB x.h x.a
def books (p : Plant) : List Par := [⟨p.inH, p.inA⟩, ⟨p.vH, p.vA⟩, ⟨p.lH, p.lA⟩, ⟨p.pH, p.pA⟩]
def books3 (p : Plant) : List Par := [⟨p.vH, p.vA⟩, ⟨p.lH, p.lA⟩, ⟨p.pH, p.pA⟩]
def sumH (l : List Cell) : Int := sumBy Cell.helium l
def sumA (l : List Cell) : Int := sumBy Cell.air l
def allH (p : Plant) : Int := p.bottles + p.vH + p.lH + p.pH + sumH p.cells
def allA (p : Plant) : Int := p.vA + p.lA + p.pA + sumA p.cells
def plantB (p : Plant) : Bool := decide (p.cells.length ≤ 12) && inB p.bottles 0 10000000 && booksB p.inH p.inA && booksB p.vH p.vA && booksB p.lH p.lA && booksB p.pH p.pA && p.cells.all cellB && decide (allH p = p.inH) && decide (allA p = p.inA)
def plantE (p : Plant) : Int := if plantB p then 0 else 32
/-- the share of so many units of a cell, and the cell without it -/
def shareH (c : Cell) (n : Int) : Int := n * c.helium / (c.helium + c.air)
def less (c : Cell) (n : Int) : Cell := { c with helium := c.helium - shareH c n, air := c.air - (n - shareH c n) }
def leakN (c : Cell) : Int := (c.owed + (c.helium + c.air) * c.leak) / 1000000
def leakC (c : Cell) : Cell := { less c (leakN c) with owed := (c.owed + (c.helium + c.air) * c.leak) % 1000000 }
def cellAt (p : Plant) (i : Nat) : Cell := p.cells.getD i default
/-- the i-th cell leaks once -/
def leakAt (p : Plant) (i : Nat) : Plant :=
  { p with cells := p.cells.set i (leakC (cellAt p i)), lH := p.lH + shareH (cellAt p i) (leakN (cellAt p i)), lA := p.lA + (leakN (cellAt p i) - shareH (cellAt p i) (leakN (cellAt p i))) }
def tickTo (p : Plant) : Nat → Plant
  | 0 => p
  | k + 1 => leakAt (tickTo p k) k
def ticks (p : Plant) : Nat → Plant
  | 0 => p
  | k + 1 => tickTo (ticks p k) p.cells.length
def argB (p : Plant) (d : Deed) : Bool := rng [d.cell] 0 (p.cells.length - 1) && rng [d.n] 1 10000000
def toB (p : Plant) (d : Deed) : Bool := rng [d.to] 0 (p.cells.length - 1) && !decide (d.to = d.cell)
def at_ (p : Plant) (d : Deed) : Cell := cellAt p d.cell.toNat
/-- the error of an act that a valid plant is asked for; 0 if there is none -/
def errA (p : Plant) (d : Deed) : Int :=
  if d.kind = 1 then if rng [d.n] 1 10000000 then 0 else 2
  else if d.kind = 2 then if argB p d then if p.bottles < d.n then 6 else 0 else 2
  else if d.kind = 3 then if argB p d then if amount (at_ p d) < d.n then 6 else 0 else 2
  else if d.kind = 4 then if argB p d then if toB p d then if amount (at_ p d) < d.n then 6 else 0 else 2 else 2
  else if d.kind = 5 then if argB p d then if amount (at_ p d) < d.n then 6 else 0 else 2
  else if d.kind = 6 then if argB p d then 0 else 2
  else if d.kind = 7 then if rng [d.n] 1 1000 then 0 else 2
  else 2
def buyP (p : Plant) (d : Deed) : Plant := { p with bottles := p.bottles + d.n, inH := p.inH + d.n }
def fillP (p : Plant) (d : Deed) : Plant := { p with cells := p.cells.set d.cell.toNat { at_ p d with helium := (at_ p d).helium + d.n }, bottles := p.bottles - d.n }
def lessP (p : Plant) (d : Deed) : Plant := { p with cells := p.cells.set d.cell.toNat (less (at_ p d) d.n) }
def valveP (p : Plant) (d : Deed) : Plant := { lessP p d with vH := p.vH + shareH (at_ p d) d.n, vA := p.vA + (d.n - shareH (at_ p d) d.n) }
def more (c : Cell) (h a : Int) : Cell := { c with helium := c.helium + h, air := c.air + a }
def moveP (p : Plant) (d : Deed) : Plant :=
  { lessP p d with cells := (lessP p d).cells.set d.to.toNat (more (cellAt (lessP p d) d.to.toNat) (shareH (at_ p d) d.n) (d.n - shareH (at_ p d) d.n)) }
def purifyP (p : Plant) (d : Deed) : Plant :=
  { lessP p d with bottles := p.bottles + (shareH (at_ p d) d.n - shareH (at_ p d) d.n / 50), pH := p.pH + shareH (at_ p d) d.n / 50, pA := p.pA + (d.n - shareH (at_ p d) d.n) }
def breatheP (p : Plant) (d : Deed) : Plant := { p with cells := p.cells.set d.cell.toNat { at_ p d with air := (at_ p d).air + d.n }, inA := p.inA + d.n }
def tickP (p : Plant) (d : Deed) : Plant := ticks p d.n.toNat
def resA (p : Plant) (d : Deed) : Plant :=
  if d.kind = 1 then buyP p d else if d.kind = 2 then fillP p d else if d.kind = 3 then valveP p d else if d.kind = 4 then moveP p d else if d.kind = 5 then purifyP p d
  else if d.kind = 6 then breatheP p d else tickP p d
def doE (p : Plant) (d : Deed) : Int := if plantB p then if errA p d = 0 then if plantB (resA p d) then 0 else 9 else errA p d else 32
def doQ (p : Plant) (d : Deed) : Plant := if doE p d = 0 then resA p d else noPlant

theorem booksB_iff {a b : Int} : booksB a b = true ↔ (0 ≤ a ∧ a ≤ 1000000000000) ∧ 0 ≤ b ∧ b ≤ 1000000000000 := by
  simp [booksB, rng, inB]
theorem plantB_iff {p : Plant} : plantB p = true ↔ p.cells.length ≤ 12 ∧ (0 ≤ p.bottles ∧ p.bottles ≤ 10000000) ∧ ((0 ≤ p.inH ∧ p.inH ≤ 1000000000000) ∧ 0 ≤ p.inA ∧ p.inA ≤ 1000000000000) ∧
    ((0 ≤ p.vH ∧ p.vH ≤ 1000000000000) ∧ 0 ≤ p.vA ∧ p.vA ≤ 1000000000000) ∧ ((0 ≤ p.lH ∧ p.lH ≤ 1000000000000) ∧ 0 ≤ p.lA ∧ p.lA ≤ 1000000000000) ∧ ((0 ≤ p.pH ∧ p.pH ≤ 1000000000000) ∧ 0 ≤ p.pA ∧ p.pA ≤ 1000000000000) ∧
    (∀ c ∈ p.cells, cellB c = true) ∧ allH p = p.inH ∧ allA p = p.inA := by
  simp only [plantB, Bool.and_eq_true, decide_eq_true_eq, booksB_iff, inB_iff, List.all_eq_true]
  constructor
  · rintro ⟨⟨⟨⟨⟨⟨⟨⟨a, b⟩, c⟩, d⟩, e⟩, f⟩, g⟩, h⟩, i⟩; exact ⟨a, b, c, d, e, f, g, h, i⟩
  · rintro ⟨a, b, c, d, e, f, g, h, i⟩; exact ⟨⟨⟨⟨⟨⟨⟨⟨a, b⟩, c⟩, d⟩, e⟩, f⟩, g⟩, h⟩, i⟩

theorem sumBy_set {α : Type} (g : α → Int) : ∀ (l : List α) (i : Nat) (x : α) (hi : i < l.length), sumBy g (l.set i x) = sumBy g l - g l[i] + g x
  | [], i, x, hi => by simp at hi
  | y :: ys, 0, x, hi => by simp [sumBy_cons]; omega
  | y :: ys, i + 1, x, hi => by
    have := sumBy_set g ys i x (by simpa using hi)
    simp only [List.set_cons_succ, sumBy_cons, this, List.getElem_cons_succ]
    omega
theorem sumBy_nonneg {α : Type} (g : α → Int) : ∀ (l : List α), (∀ x ∈ l, 0 ≤ g x) → 0 ≤ sumBy g l
  | [], _ => by simp
  | y :: ys, h => by
    have h1 := h y (by simp)
    have h2 := sumBy_nonneg g ys fun x hx => h x (by simp [hx])
    rw [sumBy_cons]; omega
/-- amounts that a cell may have -/
def okC (c : Cell) : Prop := (0 ≤ c.helium ∧ c.helium ≤ 10000000) ∧ 0 ≤ c.air ∧ c.air ≤ 10000000
theorem okC_of {c : Cell} (hc : cellB c = true) : okC c := ⟨(cellB_iff.1 hc).2.1, (cellB_iff.1 hc).2.2.1⟩
theorem share_bd {c : Cell} {n : Int} (hc : okC c) (h0 : 0 ≤ n) (h1 : n ≤ c.helium + c.air) : 0 ≤ shareH c n ∧ shareH c n ≤ c.helium ∧ shareH c n ≤ n ∧ n - shareH c n ≤ c.air := by
  obtain ⟨⟨hh, _⟩, ha, _⟩ := hc
  unfold shareH
  by_cases hz : c.helium + c.air = 0
  · have : n = 0 := by omega
    subst this
    have : c.helium = 0 := by omega
    have : c.air = 0 := by omega
    simp [*]
  · have hp : 0 < c.helium + c.air := by omega
    have m0 : 0 ≤ n * c.helium := Int.mul_nonneg h0 hh
    refine ⟨Int.ediv_nonneg m0 (by omega), ?_, ?_, ?_⟩
    · refine Int.ediv_le_of_le_mul hp ?_
      rw [Int.mul_comm c.helium]
      exact Int.mul_le_mul_of_nonneg_right h1 hh
    · refine Int.ediv_le_of_le_mul hp ?_
      have := Int.mul_le_mul_of_nonneg_left (show c.helium ≤ c.helium + c.air by omega) h0
      exact this
    · have : n - c.air ≤ n * c.helium / (c.helium + c.air) := by
        rw [Int.le_ediv_iff_mul_le hp]
        have e : (n - c.air) * (c.helium + c.air) = n * c.helium - c.air * (c.helium + c.air - n) := by
          simp only [Int.mul_add, Int.mul_sub, Int.mul_comm]; omega
        have := Int.mul_nonneg ha (show 0 ≤ c.helium + c.air - n by omega)
        omega
      omega
theorem leak_bd {c : Cell} (hc : cellB c = true) : (0 ≤ c.owed + (c.helium + c.air) * c.leak ∧ c.owed + (c.helium + c.air) * c.leak ≤ 2000001000000) ∧ (0 ≤ (c.helium + c.air) * c.leak ∧ (c.helium + c.air) * c.leak ≤ 2000000000000) ∧ 0 ≤ leakN c ∧ leakN c ≤ c.helium + c.air := by
  obtain ⟨_, ⟨hh, hh'⟩, ⟨ha, ha'⟩, ⟨hl, hl'⟩, ⟨ho, ho'⟩, _⟩ := cellB_iff.1 hc
  have m0 : 0 ≤ (c.helium + c.air) * c.leak := Int.mul_nonneg (by omega) hl
  have m1 : (c.helium + c.air) * c.leak ≤ (c.helium + c.air) * 100000 := Int.mul_le_mul_of_nonneg_left hl' (by omega)
  refine ⟨⟨by omega, by omega⟩, ⟨m0, by omega⟩, ?_, ?_⟩ <;> unfold leakN <;> omega
theorem less_B {c : Cell} {n : Int} (hc : cellB c = true) (h0 : 0 ≤ n) (h1 : n ≤ c.helium + c.air) : cellB (less c n) = true := by
  have hs := share_bd (okC_of hc) h0 h1
  rw [cellB_iff] at hc ⊢
  simp only [less]
  omega
theorem leakC_B {c : Cell} (hc : cellB c = true) : cellB (leakC c) = true := by
  have hb := leak_bd hc
  have hl := less_B hc hb.2.2.1 hb.2.2.2
  rw [cellB_iff] at hl ⊢
  simp only [leakC]
  simp only [less] at hl ⊢
  have := Int.emod_nonneg (c.owed + (c.helium + c.air) * c.leak) (show (1000000 : Int) ≠ 0 by decide)
  have := Int.emod_lt_of_pos (c.owed + (c.helium + c.air) * c.leak) (show (0 : Int) < 1000000 by decide)
  omega
theorem cellAt_get {p : Plant} {i : Nat} (hi : i < p.cells.length) : cellAt p i = p.cells[i] := by simp [cellAt, hi]
theorem leakAt_len (p : Plant) (i : Nat) : (leakAt p i).cells.length = p.cells.length := by simp [leakAt]
theorem tickTo_len (p : Plant) : ∀ k, (tickTo p k).cells.length = p.cells.length
  | 0 => rfl
  | k + 1 => by rw [tickTo, leakAt_len, tickTo_len p k]
theorem ticks_len (p : Plant) : ∀ k, (ticks p k).cells.length = p.cells.length
  | 0 => rfl
  | k + 1 => by rw [ticks, tickTo_len, ticks_len p k]
theorem leakAt_B {p : Plant} {i : Nat} (hp : plantB p = true) (hi : i < p.cells.length) : plantB (leakAt p i) = true := by
  rw [plantB_iff] at hp
  obtain ⟨h1, h2, h3, h4, h5, h6, h7, h8, h9⟩ := hp
  have hc := h7 _ (List.getElem_mem hi)
  have hb := leak_bd hc
  have hs := share_bd (okC_of hc) hb.2.2.1 hb.2.2.2
  have e := cellAt_get hi
  have hsH := sumBy_set Cell.helium p.cells i (leakC p.cells[i]) hi
  have hsA := sumBy_set Cell.air p.cells i (leakC p.cells[i]) hi
  have h7' : ∀ c ∈ p.cells.set i (leakC p.cells[i]), cellB c = true := fun c hc' => by
    rcases List.mem_or_eq_of_mem_set hc' with h | h
    · exact h7 c h
    · rw [h]; exact leakC_B hc
  have nH : 0 ≤ sumBy Cell.helium (p.cells.set i (leakC p.cells[i])) := sumBy_nonneg _ _ fun c hc' => (cellB_iff.1 (h7' c hc')).2.1.1
  have nA : 0 ≤ sumBy Cell.air (p.cells.set i (leakC p.cells[i])) := sumBy_nonneg _ _ fun c hc' => (cellB_iff.1 (h7' c hc')).2.2.1.1
  rw [plantB_iff]
  simp only [allH, allA, sumH, sumA] at h8 h9
  simp only [leakAt, e, allH, allA, sumH, sumA, List.length_set]
  simp only [leakC, less] at hsH hsA
  simp only [leakC, less] at nH nA h7' ⊢
  generalize sumBy Cell.helium (p.cells.set i _) = SH at *
  generalize sumBy Cell.air (p.cells.set i _) = SA at *
  generalize sumBy Cell.helium p.cells = TH at *
  generalize sumBy Cell.air p.cells = TA at *
  generalize shareH p.cells[i] (leakN p.cells[i]) = S at *
  generalize leakN p.cells[i] = L at *
  refine ⟨h1, h2, h3, h4, ?_, h6, h7', ?_, ?_⟩ <;> omega
theorem tickTo_B {p : Plant} (hp : plantB p = true) : ∀ k, k ≤ p.cells.length → plantB (tickTo p k) = true
  | 0, _ => hp
  | k + 1, h => leakAt_B (tickTo_B hp k (by omega)) (by rw [tickTo_len]; omega)
theorem ticks_B {p : Plant} (hp : plantB p = true) : ∀ k, plantB (ticks p k) = true
  | 0 => hp
  | k + 1 => by rw [ticks]; exact tickTo_B (ticks_B hp k) _ (by rw [ticks_len]; exact Nat.le_refl _)
end Bal.Gas

/-
  Acts played one behind the other: what the document says. Plain Lean, no program in sight.
-/
namespace Bal.Gas
def playGo : Plant → List Deed → Nat → Plant × Int × Int
  | q, [], _ => (q, 0, 0)
  | q, d :: ds, i => if doE q d = 0 then playGo (doQ q d) ds (i + 1) else (q, (i : Int), doE q d)
def play (p : Plant) (ds : List Deed) : Plant × Int × Int := if plantB p then if ds.length ≤ 200 then playGo p ds 0 else (noPlant, 0, 4) else (noPlant, 0, 32)
theorem playGo_last (q : Plant) (ds : List Deed) : playGo q (ds.drop ds.length) ds.length = (q, 0, 0) := by rw [List.drop_length, playGo]
theorem playGo_ok {q : Plant} {ds : List Deed} {k : Nat} (hk : k < ds.length) {d : Deed} (hd : d = ds[k]) (h : doE q d = 0) : playGo q (ds.drop k) k = playGo (doQ q d) (ds.drop (k + 1)) (k + 1) := by
  subst hd
  rw [List.drop_eq_getElem_cons hk, playGo, if_pos h]
theorem playGo_no {q : Plant} {ds : List Deed} {k : Nat} (hk : k < ds.length) {d : Deed} (hd : d = ds[k]) (h : doE q d ≠ 0) : playGo q (ds.drop k) k = (q, (k : Int), doE q d) := by
  subst hd
  rw [List.drop_eq_getElem_cons hk, playGo, if_neg h]
theorem doQ_zero {q : Plant} {d : Deed} (h : doE q d = 0) : doQ q d = resA q d := by simp [doQ, h]
end Bal.Gas
