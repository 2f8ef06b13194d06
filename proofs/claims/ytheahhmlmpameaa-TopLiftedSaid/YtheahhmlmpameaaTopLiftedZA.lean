/-
  The plain side of the trim statements: what loads, limits, frames and the rest are, and what is asked of them. No program in sight.
-/

/-
  The plain side of the trim statements: what loads, limits, frames and the rest are, and what is asked of them. No program in sight.
-/
namespace Bal.Trim

structure Load where
  alo : Int
  ahi : Int
  wlo : Int
  whi : Int
  deriving DecidableEq, Inhabited
structure Limit where
  a : Int
  b : Int
  c : Int
  deriving DecidableEq, Inhabited
structure Frm where
  pos : Int
  shear : Int
  bend : Int
  deriving DecidableEq, Inhabited
structure Put where
  pos : Int
  wt : Int
  deriving DecidableEq, Inhabited
structure Hold where
  pos : Int
  room : Int
  deriving DecidableEq, Inhabited
structure Parcel where
  wt : Int
  cls : Int
  deriving DecidableEq, Inhabited
structure Rule where
  a : Int
  b : Int
  apart : Int
  deriving DecidableEq, Inhabited

def inB (n lo hi : Int) : Bool := decide (lo ≤ n) && decide (n ≤ hi)
def spanB (lo hi m : Int) : Bool := decide (lo ≤ hi) && decide (-m ≤ lo) && decide (hi ≤ m)
def loadB (x : Load) : Bool := spanB x.alo x.ahi 20000 && spanB x.wlo x.whi 1073741824
def limitB (x : Limit) : Bool := inB x.a (-1000) 1000 && inB x.b (-1000) 1000 && inB x.c (-1000000000000000000) 1000000000000000000
def frameB (x : Frm) : Bool := inB x.pos (-20000) 20000 && inB x.shear 0 1000000000000 && inB x.bend 0 10000000000000000

def checkList {α : Type} (valid : α → Bool) (most : Nat) (err : Int) (xs : List α) : Int := if most < xs.length then 4 else if xs.all valid then 0 else err
def checkLoads (l : List Load) : Int := checkList loadB 40 40 l
def checkLimits (l : List Limit) : Int := checkList limitB 12 41 l
def checkFrames (l : List Frm) : Int := checkList frameB 12 42 l
def great (a b c d : Int) : Bool := decide (50 < a) || decide (50 < b) || decide (50 < c) || decide (50 < d)

theorem checkList_many {α : Type} {valid : α → Bool} {most : Nat} {err : Int} {xs : List α} (h : most < xs.length) : checkList valid most err xs = 4 := if_pos h
theorem checkList_ok {α : Type} {valid : α → Bool} {most : Nat} {err : Int} {xs : List α} (h : ¬ most < xs.length) (h' : xs.all valid = true) : checkList valid most err xs = 0 := by
  unfold checkList; rw [if_neg h, if_pos h']
theorem checkList_bad {α : Type} {valid : α → Bool} {most : Nat} {err : Int} {xs : List α} (h : ¬ most < xs.length) (k : Nat) (hk : k < xs.length) (h' : valid xs[k] = false) : checkList valid most err xs = err := by
  unfold checkList; rw [if_neg h, if_neg]
  intro ha
  rw [List.all_eq_true.1 ha _ (List.getElem_mem hk)] at h'
  cases h'
theorem take_all {α : Type} {valid : α → Bool} {xs : List α} {k : Nat} (hk : k < xs.length) (h : (xs.take k).all valid = true) (h' : valid xs[k] = true) : (xs.take (k + 1)).all valid = true := by
  rw [List.take_succ_eq_append_getElem hk, List.all_append, h]
  simp [h']
end Bal.Trim

/-
  Sums, products, least and greatest: plain Lean.
-/
namespace Bal.Trim
/-! ### Sums and products -/
def sumBy {α : Type} (g : α → Int) (xs : List α) : Int := xs.foldr (fun x s => g x + s) 0
@[simp] theorem sumBy_nil {α : Type} (g : α → Int) : sumBy g [] = 0 := rfl
theorem sumBy_cons {α : Type} (g : α → Int) (x : α) (xs : List α) : sumBy g (x :: xs) = g x + sumBy g xs := rfl
theorem sumBy_append {α : Type} (g : α → Int) (xs ys : List α) : sumBy g (xs ++ ys) = sumBy g xs + sumBy g ys := by
  induction xs with
  | nil => simp
  | cons x xs ih => simp only [List.cons_append, sumBy_cons, ih]; omega
theorem sumBy_take {α : Type} (g : α → Int) (xs : List α) (k : Nat) (hk : k < xs.length) : sumBy g (xs.take (k + 1)) = sumBy g (xs.take k) + g xs[k] := by
  rw [List.take_succ_eq_append_getElem hk, sumBy_append, sumBy_cons, sumBy_nil]; omega
theorem sumBy_bd {α : Type} (g : α → Int) (M : Int) (xs : List α) (h : ∀ x ∈ xs, -M ≤ g x ∧ g x ≤ M) : -(M * xs.length) ≤ sumBy g xs ∧ sumBy g xs ≤ M * xs.length := by
  induction xs with
  | nil => simp
  | cons x xs ih =>
    have h1 := ih (fun y hy => h y (by simp [hy]))
    have h2 := h x (by simp)
    rw [sumBy_cons, List.length_cons]
    have e : M * ((xs.length + 1 : Nat) : Int) = M * (xs.length : Int) + M := by rw [Int.natCast_add, Int.mul_add]; simp
    rw [e]
    omega
/-- the sum of the first k of at most n terms, each from -M to M -/
theorem sumBy_take_bd {α : Type} (g : α → Int) (M N : Int) (xs : List α) (n : Nat) (hn : xs.length ≤ n) (hM : 0 ≤ M) (hN : M * n ≤ N) (h : ∀ x ∈ xs, -M ≤ g x ∧ g x ≤ M) (k : Nat) : -N ≤ sumBy g (xs.take k) ∧ sumBy g (xs.take k) ≤ N := by
  have h1 := sumBy_bd g M (xs.take k) (fun x hx => h x (List.mem_of_mem_take hx))
  have h2 : M * ((xs.take k).length : Int) ≤ M * (n : Int) := Int.mul_le_mul_of_nonneg_left (by have : (xs.take k).length ≤ n := by rw [List.length_take]; omega
                                                                                                omega) hM
  omega
theorem mul_bd {x y A B : Int} (hx : -A ≤ x) (hx' : x ≤ A) (hy : -B ≤ y) (hy' : y ≤ B) : -(A * B) ≤ x * y ∧ x * y ≤ A * B := by
  have h1 : x.natAbs ≤ A.toNat := by omega
  have h2 : y.natAbs ≤ B.toNat := by omega
  have h3 := Nat.mul_le_mul h1 h2
  rw [← Int.natAbs_mul] at h3
  have h4 : ((A.toNat * B.toNat : Nat) : Int) = A * B := by
    rw [Int.natCast_mul, Int.toNat_of_nonneg (by omega), Int.toNat_of_nonneg (by omega)]
  omega
def tLo (a b c d : Int) : Int := min (min (min (a * c) (a * d)) (b * c)) (b * d)
def tHi (a b c d : Int) : Int := max (max (max (a * c) (a * d)) (b * c)) (b * d)
theorem t_bd {a b c d A B : Int} (h : -A ≤ a ∧ a ≤ A ∧ -A ≤ b ∧ b ≤ A) (h' : -B ≤ c ∧ c ≤ B ∧ -B ≤ d ∧ d ≤ B) :
    (-(A * B) ≤ tLo a b c d ∧ tLo a b c d ≤ A * B) ∧ (-(A * B) ≤ tHi a b c d ∧ tHi a b c d ≤ A * B) := by
  have h1 := mul_bd h.1 h.2.1 h'.1 h'.2.1
  have h2 := mul_bd h.1 h.2.1 h'.2.2.1 h'.2.2.2
  have h3 := mul_bd h.2.2.1 h.2.2.2 h'.1 h'.2.1
  have h4 := mul_bd h.2.2.1 h.2.2.2 h'.2.2.1 h'.2.2.2
  unfold tLo tHi
  omega
theorem ite_min (a b : Int) : (if b < a then b else a) = min a b := by split <;> omega
theorem ite_max (a b : Int) : (if a < b then b else a) = max a b := by split <;> omega
def lmin : List Int → Int
  | [] => 0
  | x :: xs => xs.foldl min x
def lmax : List Int → Int
  | [] => 0
  | x :: xs => xs.foldl max x
theorem lmin_take {xs : List Int} {k : Nat} (h0 : 0 < k) (hk : k < xs.length) : lmin (xs.take (k + 1)) = min (lmin (xs.take k)) xs[k] := by
  cases xs with
  | nil => simp at hk
  | cons x xs =>
    obtain ⟨j, rfl⟩ : ∃ j, k = j + 1 := ⟨k - 1, by omega⟩
    have hj : j < xs.length := by simpa using hk
    simp only [List.take_succ_cons, lmin, List.getElem_cons_succ]
    rw [List.take_succ_eq_append_getElem hj, List.foldl_append]
    rfl
theorem lmax_take {xs : List Int} {k : Nat} (h0 : 0 < k) (hk : k < xs.length) : lmax (xs.take (k + 1)) = max (lmax (xs.take k)) xs[k] := by
  cases xs with
  | nil => simp at hk
  | cons x xs =>
    obtain ⟨j, rfl⟩ : ∃ j, k = j + 1 := ⟨k - 1, by omega⟩
    have hj : j < xs.length := by simpa using hk
    simp only [List.take_succ_cons, lmax, List.getElem_cons_succ]
    rw [List.take_succ_eq_append_getElem hj, List.foldl_append]
    rfl
theorem loadB_bd {x : Load} (h : loadB x = true) : (-20000 ≤ x.alo ∧ x.alo ≤ 20000 ∧ -20000 ≤ x.ahi ∧ x.ahi ≤ 20000) ∧ (-1073741824 ≤ x.wlo ∧ x.wlo ≤ 1073741824 ∧ -1073741824 ≤ x.whi ∧ x.whi ≤ 1073741824) ∧ x.alo ≤ x.ahi ∧ x.wlo ≤ x.whi := by
  simp [loadB, spanB] at h
  omega
theorem checkLoads_ok {l : List Load} (h : checkLoads l = 0) : l.length ≤ 40 ∧ ∀ x ∈ l, loadB x = true := by
  unfold checkLoads checkList at h
  split at h
  · cases h
  · split at h
    · rename_i h1 h2
      exact ⟨by omega, fun x hx => List.all_eq_true.1 h2 x hx⟩
    · cases h
theorem checkLimits_ok {l : List Limit} (h : checkLimits l = 0) : l.length ≤ 12 ∧ ∀ x ∈ l, limitB x = true := by
  unfold checkLimits checkList at h
  split at h
  · cases h
  · split at h
    · rename_i h1 h2
      exact ⟨by omega, fun x hx => List.all_eq_true.1 h2 x hx⟩
    · cases h
theorem checkFrames_ok {l : List Frm} (h : checkFrames l = 0) : l.length ≤ 12 ∧ ∀ x ∈ l, frameB x = true := by
  unfold checkFrames checkList at h
  split at h
  · cases h
  · split at h
    · rename_i h1 h2
      exact ⟨by omega, fun x hx => List.all_eq_true.1 h2 x hx⟩
    · cases h
/-- a result, if there is no error -/
def ifOk (e v : Int) : Int := if e = 0 then v else 0
/-- what the heaviness and the moment of loads are -/
def wLo (x : Load) : Int := x.wlo
def wHi (x : Load) : Int := x.whi
def mLo (x : Load) : Int := tLo x.alo x.ahi x.wlo x.whi
def mHi (x : Load) : Int := tHi x.alo x.ahi x.wlo x.whi
end Bal.Trim

/-
  Limits at work, worst choices, breaches, shear and bending: the plain side.
-/
namespace Bal.Trim
/-- what a put adds to the value of a limit -/
def vOf (m : Limit) (p : Put) : Int := p.wt * (m.a + m.b * p.pos)
def better (m : Limit) (b p : Put) : Put := if vOf m b < vOf m p then p else b
def corners (x : Load) : List Put := [⟨x.alo, x.wlo⟩, ⟨x.ahi, x.wlo⟩, ⟨x.alo, x.whi⟩, ⟨x.ahi, x.whi⟩]
def best1 (m : Limit) (x : Load) : Put := better m ⟨x.alo, x.wlo⟩ ⟨x.ahi, x.wlo⟩
def best2 (m : Limit) (x : Load) : Put := better m (best1 m x) ⟨x.alo, x.whi⟩
def best (m : Limit) (x : Load) : Put := better m (best2 m x) ⟨x.ahi, x.whi⟩
def choice (m : Limit) (xs : List Load) : List Put := xs.map (best m)
def value (m : Limit) (ps : List Put) : Int := sumBy (vOf m) ps
def worstV (m : Limit) (xs : List Load) : Int := value m (choice m xs)
def putB (p : Put) : Prop := (-20000 ≤ p.pos ∧ p.pos ≤ 20000) ∧ -1073741824 ≤ p.wt ∧ p.wt ≤ 1073741824
theorem corner_B {x : Load} (h : loadB x = true) {p : Put} (hp : p ∈ corners x) : putB p := by
  have h := loadB_bd h
  simp only [corners, List.mem_cons, List.not_mem_nil, or_false] at hp
  rcases hp with rfl | rfl | rfl | rfl <;> (unfold putB; simp only; omega)
theorem better_of {m : Limit} {b p : Put} : better m b p = b ∨ better m b p = p := by unfold better; split <;> simp
theorem better_v (m : Limit) (b p : Put) : vOf m (better m b p) = max (vOf m b) (vOf m p) := by unfold better; split <;> omega
theorem best1_mem (m : Limit) (x : Load) : best1 m x ∈ corners x := by
  unfold best1; rcases better_of (m := m) (b := ⟨x.alo, x.wlo⟩) (p := ⟨x.ahi, x.wlo⟩) with h | h <;> rw [h] <;> simp [corners]
theorem best2_mem (m : Limit) (x : Load) : best2 m x ∈ corners x := by
  unfold best2; rcases better_of (m := m) (b := best1 m x) (p := ⟨x.alo, x.whi⟩) with h | h <;> rw [h]
  · exact best1_mem m x
  · simp [corners]
theorem best_mem (m : Limit) (x : Load) : best m x ∈ corners x := by
  unfold best; rcases better_of (m := m) (b := best2 m x) (p := ⟨x.ahi, x.whi⟩) with h | h <;> rw [h]
  · exact best2_mem m x
  · simp [corners]
theorem limitB_bd {m : Limit} (h : limitB m = true) : (-1000 ≤ m.a ∧ m.a ≤ 1000) ∧ (-1000 ≤ m.b ∧ m.b ≤ 1000) ∧ -1000000000000000000 ≤ m.c ∧ m.c ≤ 1000000000000000000 := by
  simp [limitB, inB] at h; omega
/-- the products of a valid limit and a put in its bounds -/
theorem put_bd {m : Limit} {p : Put} (hm : limitB m = true) (hp : putB p) :
    (-20000000 ≤ m.b * p.pos ∧ m.b * p.pos ≤ 20000000) ∧ (-20001000 ≤ m.a + m.b * p.pos ∧ m.a + m.b * p.pos ≤ 20001000) ∧ -22000000000000000 ≤ p.wt * (m.a + m.b * p.pos) ∧ p.wt * (m.a + m.b * p.pos) ≤ 22000000000000000 := by
  obtain ⟨h1, h2, _⟩ := limitB_bd hm
  obtain ⟨h3, h4⟩ := hp
  have p1 := mul_bd (A := 1000) (B := 20000) h2.1 h2.2 h3.1 h3.2
  have p2 := mul_bd (A := 1073741824) (B := 20001000) (x := p.wt) (y := m.a + m.b * p.pos) h4.1 h4.2 (by omega) (by omega)
  refine ⟨by omega, by omega, by omega, by omega⟩
theorem vOf_bd {m : Limit} {p : Put} (hm : limitB m = true) (hp : putB p) : -22000000000000000 ≤ vOf m p ∧ vOf m p ≤ 22000000000000000 := (put_bd hm hp).2.2
theorem best_bd {m : Limit} {x : Load} (hm : limitB m = true) (hx : loadB x = true) : -22000000000000000 ≤ vOf m (best m x) ∧ vOf m (best m x) ≤ 22000000000000000 := vOf_bd hm (corner_B hx (best_mem m x))
theorem sumBy_map {α β : Type} (g : β → Int) (f : α → β) (xs : List α) : sumBy g (xs.map f) = sumBy (fun x => g (f x)) xs := by
  induction xs with
  | nil => rfl
  | cons x xs ih => rw [List.map_cons, sumBy_cons, sumBy_cons, ih]
theorem worstV_eq (m : Limit) (xs : List Load) : worstV m xs = sumBy (fun x => vOf m (best m x)) xs := sumBy_map _ _ _
theorem choice_len (m : Limit) (xs : List Load) : (choice m xs).length = xs.length := by simp [choice]
/-- the first of the first n numbers of which f is true -/
def firstOf (f : Nat → Bool) (n : Nat) : Option Nat := (List.range n).find? f
theorem firstOf_some {f : Nat → Bool} {n k : Nat} (hk : k < n) (hb : ∀ j, j < k → f j = false) (h : f k = true) : firstOf f n = some k := by
  unfold firstOf
  rw [List.find?_range_eq_some]
  exact ⟨h, by simpa using hk, fun j hj => by simp [hb j hj]⟩
theorem firstOf_none {f : Nat → Bool} {n : Nat} (hb : ∀ j, j < n → f j = false) : firstOf f n = none := by
  unfold firstOf
  rw [List.find?_range_eq_none]
  intro j hj
  simp [hb j hj]
theorem firstOf_get {f : Nat → Bool} {n k : Nat} (h : firstOf f n = some k) : k < n ∧ f k = true := by
  unfold firstOf at h
  rw [List.find?_range_eq_some] at h
  exact ⟨by simpa using h.2.1, h.1⟩
/-- whether loads break the limit of a number -/
def brk (xs : List Load) (ms : List Limit) (i : Nat) : Bool := match ms[i]? with | some m => decide (m.c < worstV m xs) | none => false
theorem brk_at {xs : List Load} {ms : List Limit} {i : Nat} (hi : i < ms.length) : brk xs ms i = decide (ms[i].c < worstV ms[i] xs) := by
  unfold brk; rw [List.getElem?_eq_getElem hi]
def broken (xs : List Load) (ms : List Limit) : Option Nat := firstOf (brk xs ms) ms.length
def optN (o : Option Nat) : Int := match o with | some i => i | none => 0
def optM (o : Option Nat) : Int := match o with | some i => i | none => -1
def both (xs : List Load) (ms : List Limit) : Int := if checkLoads xs = 0 then checkLimits ms else checkLoads xs
theorem both_ok {xs : List Load} {ms : List Limit} (h : both xs ms = 0) : checkLoads xs = 0 ∧ checkLimits ms = 0 := by
  unfold both at h; split at h
  · rename_i h1; exact ⟨h1, h⟩
  · rename_i h1; exact absurd h h1
/-! ### Shear and bending -/
def aLo (x : Load) (n : Int) : Int := max (n - x.ahi) 0
def aHi (x : Load) (n : Int) : Int := max (n - x.alo) 0
def sLo (n : Int) (x : Load) : Int := tLo (min (aLo x n) 1) (min (aHi x n) 1) x.wlo x.whi
def sHi (n : Int) (x : Load) : Int := tHi (min (aLo x n) 1) (min (aHi x n) 1) x.wlo x.whi
def bLo (n : Int) (x : Load) : Int := tLo (aLo x n) (aHi x n) x.wlo x.whi
def bHi (n : Int) (x : Load) : Int := tHi (aLo x n) (aHi x n) x.wlo x.whi
theorem a_bd {x : Load} {n : Int} (h : loadB x = true) (hn : -20000 ≤ n ∧ n ≤ 20000) : (0 ≤ aLo x n ∧ aLo x n ≤ 40000) ∧ 0 ≤ aHi x n ∧ aHi x n ≤ 40000 := by
  have := loadB_bd h
  unfold aLo aHi; omega
theorem s_bd {n : Int} {x : Load} (h : loadB x = true) (hn : -20000 ≤ n ∧ n ≤ 20000) : (-50000000000000 ≤ sLo n x ∧ sLo n x ≤ 50000000000000) ∧ (-50000000000000 ≤ sHi n x ∧ sHi n x ≤ 50000000000000) := by
  have h1 := loadB_bd h
  have h2 := a_bd h hn
  have h3 := t_bd (A := 40000) (B := 1073741824) (a := min (aLo x n) 1) (b := min (aHi x n) 1) (c := x.wlo) (d := x.whi) (by omega) (by omega)
  unfold sLo sHi
  omega
theorem b_bd {n : Int} {x : Load} (h : loadB x = true) (hn : -20000 ≤ n ∧ n ≤ 20000) : (-50000000000000 ≤ bLo n x ∧ bLo n x ≤ 50000000000000) ∧ (-50000000000000 ≤ bHi n x ∧ bHi n x ≤ 50000000000000) := by
  have h1 := loadB_bd h
  have h2 := a_bd h hn
  have h3 := t_bd (A := 40000) (B := 1073741824) (a := aLo x n) (b := aHi x n) (c := x.wlo) (d := x.whi) (by omega) (by omega)
  unfold bLo bHi
  omega
/-- the reference's parts of a load in front of a place -/
theorem part_lo (x : Load) (n : Int) : (if x.ahi < n then (1 : Int) else 0) = min (aLo x n) 1 := by unfold aLo; split <;> omega
theorem part_hi (x : Load) (n : Int) : (if n ≤ x.alo then (0 : Int) else 1) = min (aHi x n) 1 := by unfold aHi; split <;> omega
def strain (xs : List Load) (f : Frm) : Bool :=
  !(spanB (sumBy (sLo f.pos) xs) (sumBy (sHi f.pos) xs) f.shear) || !(spanB (sumBy (bLo f.pos) xs) (sumBy (bHi f.pos) xs) f.bend)
theorem t_le (a b c d : Int) : tLo a b c d ≤ tHi a b c d := by unfold tLo tHi; omega
theorem sumBy_le {α : Type} (g h : α → Int) (xs : List α) (hh : ∀ x, g x ≤ h x) : sumBy g xs ≤ sumBy h xs := by
  induction xs with
  | nil => simp
  | cons x xs ih => rw [sumBy_cons, sumBy_cons]; have := hh x; omega
/-- the indices of the frames that are strained -/
def strainedTo (xs : List Load) (fs : List Frm) : Nat → List Int
  | 0 => []
  | k + 1 => strainedTo xs fs k ++ (match fs[k]? with | some f => if strain xs f then [(k : Int)] else [] | none => [])
theorem strainedTo_succ {xs : List Load} {fs : List Frm} {k : Nat} (hk : k < fs.length) : strainedTo xs fs (k + 1) = strainedTo xs fs k ++ (if strain xs fs[k] then [(k : Int)] else []) := by
  rw [strainedTo, List.getElem?_eq_getElem hk]
end Bal.Trim

/-
  The plain side of the gas statements: cells, air, hulls, and what is computed of them. No program in sight.
-/
namespace Bal.Gas
open Bal.Trim

structure Cell where
  room : Int
  helium : Int
  air : Int
  wlo : Int
  whi : Int
  leak : Int
  owed : Int
  deriving DecidableEq, Inhabited
structure Air where
  plo : Int
  phi : Int
  tlo : Int
  thi : Int
  deriving DecidableEq, Inhabited
structure Hull where
  room : Int
  gas : Int
  ballonet : Int
  bag : Int
  wlo : Int
  whi : Int
  least : Int
  most : Int
  deriving DecidableEq, Inhabited
structure Ratio where
  num : Int
  den : Int
  deriving DecidableEq, Inhabited

def rng (xs : List Int) (lo hi : Int) : Bool := xs.all (fun n => inB n lo hi)
def spanIn (x y lo hi : Int) : Bool := rng [x, y] lo hi && decide (x ≤ y)
def airB (a : Air) : Bool := spanIn a.plo a.phi 1000 12000 && spanIn a.tlo a.thi 1500 3500
def checkAir (a : Air) : Int := if airB a then 0 else 30
def cellFits (c : Cell) : Bool := rng [c.room] 1 10000000 && rng [c.helium, c.air] 0 10000000 && rng [c.leak] 0 100000 && rng [c.owed] 0 999999
def cellB (c : Cell) : Bool := cellFits c && spanIn c.wlo c.whi (-300) 300
def checkCell (c : Cell) : Int := if cellB c then 0 else 31
def down (r : Ratio) : Int := r.num / r.den
def up (r : Ratio) : Int := -((-r.num) / r.den)
def leastLo (rs : List Ratio) : Int := lmin (rs.map down)
def leastHi (rs : List Ratio) : Int := lmax (rs.map up)
def amount (c : Cell) : Int := c.helium + c.air
def heatLo (c : Cell) (a : Air) : Int := a.tlo + c.wlo
def heatHi (c : Cell) (a : Air) : Int := a.thi + c.whi

theorem leastLo_snoc {xs : List Ratio} (r : Ratio) (h : xs ≠ []) : leastLo (xs ++ [r]) = min (leastLo xs) (down r) := by
  cases xs with
  | nil => exact absurd rfl h
  | cons x xs => simp [leastLo, lmin, List.foldl_append]
theorem leastHi_snoc {xs : List Ratio} (r : Ratio) (h : xs ≠ []) : leastHi (xs ++ [r]) = max (leastHi xs) (up r) := by
  cases xs with
  | nil => exact absurd rfl h
  | cons x xs => simp [leastHi, lmax, List.foldl_append]
theorem inB_iff {n lo hi : Int} : inB n lo hi = true ↔ lo ≤ n ∧ n ≤ hi := by simp [inB]
theorem airB_iff {a : Air} : airB a = true ↔ (1000 ≤ a.plo ∧ a.plo ≤ a.phi ∧ a.phi ≤ 12000) ∧ (1500 ≤ a.tlo ∧ a.tlo ≤ a.thi ∧ a.thi ≤ 3500) := by
  simp [airB, spanIn, rng, inB]; omega
theorem cellB_iff {c : Cell} : cellB c = true ↔ (1 ≤ c.room ∧ c.room ≤ 10000000) ∧ (0 ≤ c.helium ∧ c.helium ≤ 10000000) ∧ (0 ≤ c.air ∧ c.air ≤ 10000000) ∧ (0 ≤ c.leak ∧ c.leak ≤ 100000) ∧ (0 ≤ c.owed ∧ c.owed ≤ 999999) ∧ (-300 ≤ c.wlo ∧ c.wlo ≤ c.whi ∧ c.whi ≤ 300) := by
  simp [cellB, cellFits, spanIn, rng, inB]; omega

/-- Go's quotient and remainder of a negative number -/
theorem tdiv_down {a b : Int} (ha : a < 0) (hb : 0 < b) : (if a.tmod b = 0 then a.tdiv b else a.tdiv b - 1) = a / b := by
  have h1 := Int.mul_tdiv_add_tmod a b
  have h2 : -b < a.tmod b ∧ a.tmod b ≤ 0 := by
    have h3 := Int.tmod_lt_of_pos (-a) hb
    have h4 := Int.tmod_nonneg b (a := -a) (by omega)
    rw [Int.neg_tmod] at h3 h4
    omega
  generalize a.tdiv b = q at *
  generalize a.tmod b = r at *
  split
  · rename_i h0
    subst h0
    rw [← h1, Int.add_zero, Int.mul_ediv_cancel_left _ (by omega)]
  · have e : a = (b + r) + b * (q - 1) := by rw [← h1, Int.mul_sub, Int.mul_one]; omega
    rw [e, Int.add_mul_ediv_left _ _ (by omega), Int.ediv_eq_zero_of_lt (by omega) (by omega)]
    omega
theorem tdiv_pos {a b : Int} (ha : 0 ≤ a) : a.tdiv b = a / b := Int.tdiv_eq_ediv_of_nonneg ha
theorem div_bd {a b N : Int} (h : -N ≤ a) (h' : a ≤ N) (hb : 0 < b) (hN : 0 ≤ N) : -N ≤ a / b ∧ a / b ≤ N := by
  constructor
  · rw [Int.le_ediv_iff_mul_le hb]
    have : N * 1 ≤ N * b := Int.mul_le_mul_of_nonneg_left (by omega) hN
    rw [Int.neg_mul]; omega
  · by_cases h0 : 0 ≤ a
    · have := Int.ediv_le_self b h0; omega
    · have := Int.ediv_neg_of_neg_of_pos (by omega : a < 0) hb; omega
end Bal.Gas

/-
  Volumes: the plain side.
-/
namespace Bal.Gas
open Bal.Trim
def asked (c : Cell) (a : Air) : Int := if cellB c then checkAir a else 31
def volLo (c : Cell) (a : Air) : Int := amount c * heatLo c a / a.phi
def volHi (c : Cell) (a : Air) : Int := -((-(amount c * heatHi c a)) / a.plo)
def state (c : Cell) (a : Air) : Int := if amount c * heatHi c a ≤ c.room * a.plo then 1 else if c.room * a.phi < amount c * heatLo c a then 3 else 2
theorem div_le_div {a b c d : Int} (ha : 0 ≤ a) (hac : a ≤ c) (hd : 0 < d) (hdb : d ≤ b) : a / b ≤ c / d := by
  rw [Int.le_ediv_iff_mul_le hd]
  have h1 : 0 ≤ a / b := Int.ediv_nonneg ha (by omega)
  have h2 : a / b * d ≤ a / b * b := Int.mul_le_mul_of_nonneg_left hdb h1
  have h3 : a / b * b ≤ a := Int.ediv_mul_le a (by omega)
  omega
theorem up_le_up {a b c d : Int} (ha : 0 ≤ a) (hac : a ≤ c) (hd : 0 < d) (hdb : d ≤ b) : -((-a) / b) ≤ -((-c) / d) := by
  have : (-c) / d ≤ (-a) / b := by
    rw [Int.le_ediv_iff_mul_le (by omega : 0 < b)]
    have h1 : (-c) / d ≤ 0 := by
      have := Int.ediv_le_ediv hd (show -c ≤ 0 by omega)
      simpa using this
    have h2 : (-c) / d * b ≤ (-c) / d * d := by
      rw [← Int.neg_le_neg_iff, ← Int.neg_mul, ← Int.neg_mul]
      exact Int.mul_le_mul_of_nonneg_left hdb (by omega)
    have h3 : (-c) / d * d ≤ -c := Int.ediv_mul_le (-c) (by omega)
    omega
  omega
theorem leastLo_two (r s : Ratio) : leastLo [r, s] = min (down r) (down s) := rfl
theorem leastHi_two (r s : Ratio) : leastHi [r, s] = max (up r) (up s) := rfl
/-- the products of a valid cell in valid air -/
theorem prod_bd {c : Cell} {a : Air} (hc : cellB c = true) (ha : airB a = true) :
    0 ≤ amount c ∧ amount c ≤ 20000000 ∧ (0 ≤ amount c * heatLo c a ∧ amount c * heatLo c a ≤ amount c * heatHi c a ∧ amount c * heatHi c a ≤ 76000000000) ∧
    (0 ≤ c.room * a.plo ∧ c.room * a.plo ≤ 120000000000 ∧ 0 ≤ c.room * a.phi ∧ c.room * a.phi ≤ 120000000000) := by
  obtain ⟨h1, h2, h3, h4, h5, h6⟩ := cellB_iff.1 hc
  obtain ⟨h7, h8⟩ := airB_iff.1 ha
  have hn0 : 0 ≤ amount c := by unfold amount; omega
  have hn1 : amount c ≤ 20000000 := by unfold amount; omega
  have ht0 : 0 ≤ heatLo c a := by unfold heatLo; omega
  have ht1 : heatLo c a ≤ heatHi c a := by unfold heatLo heatHi; omega
  have ht2 : heatHi c a ≤ 3800 := by unfold heatHi; omega
  have p0 := Int.mul_nonneg hn0 ht0
  have p1 := Int.mul_le_mul_of_nonneg_left ht1 hn0
  have p2 := (mul_bd (A := 20000000) (B := 3800) (x := amount c) (y := heatHi c a) (by omega) hn1 (by omega) ht2).2
  have q0 := Int.mul_nonneg (show 0 ≤ c.room by omega) (show 0 ≤ a.plo by omega)
  have q1 := (mul_bd (A := 10000000) (B := 12000) (x := c.room) (y := a.plo) (by omega) (by omega) (by omega) (by omega)).2
  have r0 := Int.mul_nonneg (show 0 ≤ c.room by omega) (show 0 ≤ a.phi by omega)
  have r1 := (mul_bd (A := 10000000) (B := 12000) (x := c.room) (y := a.phi) (by omega) (by omega) (by omega) (by omega)).2
  refine ⟨hn0, hn1, ⟨p0, p1, by omega⟩, q0, by omega, r0, by omega⟩
theorem vol_lo {c : Cell} {a : Air} (hc : cellB c = true) (ha : airB a = true) : leastLo [⟨amount c * heatLo c a, a.phi⟩, ⟨amount c * heatHi c a, a.plo⟩] = volLo c a := by
  obtain ⟨_, _, ⟨p0, p1, _⟩, _⟩ := prod_bd hc ha
  obtain ⟨h7, h8⟩ := airB_iff.1 ha
  rw [leastLo_two]
  have := div_le_div p0 p1 (show 0 < a.plo by omega) h7.2.1
  simp only [down, volLo]
  omega
theorem vol_hi {c : Cell} {a : Air} (hc : cellB c = true) (ha : airB a = true) : leastHi [⟨amount c * heatLo c a, a.phi⟩, ⟨amount c * heatHi c a, a.plo⟩] = volHi c a := by
  obtain ⟨_, _, ⟨p0, p1, _⟩, _⟩ := prod_bd hc ha
  obtain ⟨h7, h8⟩ := airB_iff.1 ha
  rw [leastHi_two]
  have := up_le_up p0 p1 (show 0 < a.plo by omega) h7.2.1
  simp only [up, volHi]
  omega
/-- Go's quotient, mended: rounded down -/
theorem floor_eq {a b : Int} (hb : 0 < b) : (if a.tdiv b * b > a then a.tdiv b - 1 else a.tdiv b) = a / b := by
  by_cases ha : a < 0
  · have h := tdiv_down ha hb
    rw [← h]
    have h1 := Int.mul_tdiv_add_tmod a b
    have h2 : a.tmod b ≤ 0 := by
      have h4 := Int.tmod_nonneg b (a := -a) (by omega)
      rw [Int.neg_tmod] at h4
      omega
    have h3 : b * a.tdiv b = a.tdiv b * b := Int.mul_comm _ _
    by_cases h0 : a.tmod b = 0
    · rw [if_pos h0, if_neg (by omega)]
    · rw [if_neg h0, if_pos (by omega)]
  · rw [tdiv_pos (by omega)]
    have := Int.ediv_mul_le a (show b ≠ 0 by omega)
    rw [if_neg (by omega)]
theorem tdiv_bd {a b N : Int} (h : -N ≤ a) (h' : a ≤ N) (hb : 0 < b) (hN : 0 ≤ N) : (-N ≤ a.tdiv b ∧ a.tdiv b ≤ N) ∧ -N ≤ a.tdiv b * b ∧ a.tdiv b * b ≤ N := by
  have h1 := Int.mul_tdiv_add_tmod a b
  rw [Int.mul_comm] at h1
  by_cases ha : a < 0
  · have h4 := Int.tmod_nonneg b (a := -a) (by omega)
    have h5 : (-a).tmod b ≤ -a := by
      have := Int.mul_tdiv_add_tmod (-a) b
      have h6 : 0 ≤ (-a).tdiv b := Int.tdiv_nonneg (by omega) (by omega)
      have h7 := Int.mul_nonneg (show 0 ≤ b by omega) h6
      omega
    rw [Int.neg_tmod] at h4 h5
    have h8 : 0 ≤ (-a).tdiv b := Int.tdiv_nonneg (by omega) (by omega)
    rw [Int.neg_tdiv] at h8
    have h9 : (-(a.tdiv b)) * 1 ≤ (-(a.tdiv b)) * b := Int.mul_le_mul_of_nonneg_left (by omega) h8
    rw [Int.neg_mul, Int.neg_mul] at h9
    refine ⟨⟨?_, ?_⟩, ?_, ?_⟩ <;> omega
  · have h2 := Int.tmod_nonneg b (a := a) (by omega)
    have h3 : 0 ≤ a.tdiv b := Int.tdiv_nonneg (by omega) (by omega)
    have h9 : (a.tdiv b) * 1 ≤ (a.tdiv b) * b := Int.mul_le_mul_of_nonneg_left (by omega) h3
    have h10 := Int.mul_nonneg h3 (show 0 ≤ b by omega)
    refine ⟨⟨?_, ?_⟩, ?_, ?_⟩ <;> omega
theorem asked_ok {c : Cell} {a : Air} (hc : cellB c = true) (ha : airB a = true) : asked c a = 0 := by simp [asked, checkAir, hc, ha]
theorem asked_air {c : Cell} {a : Air} (hc : cellB c = true) (ha : airB a = false) : asked c a = 30 := by simp [asked, checkAir, hc, ha]
theorem asked_cell {c : Cell} {a : Air} (hc : cellB c = false) : asked c a = 31 := by simp [asked, hc]
end Bal.Gas

/-
  Lifts, ceilings and valving: the plain side.
-/
namespace Bal.Gas
open Bal.Trim
def pull (c : Cell) (x : Int) : Int := 29 * amount c * x
def liftLo (c : Cell) (a : Air) : Int := 25 * c.helium + min (pull c c.wlo / a.tlo) (pull c c.wlo / a.thi)
def liftHi (c : Cell) (a : Air) : Int := 25 * c.helium + max (-((-(pull c c.whi)) / a.tlo)) (-((-(pull c c.whi)) / a.thi))
def liftR (c : Cell) (a : Air) : List Ratio := [⟨pull c c.wlo, a.tlo⟩, ⟨pull c c.wlo, a.thi⟩, ⟨pull c c.whi, a.tlo⟩, ⟨pull c c.whi, a.thi⟩]
theorem leastLo_four (p q r s : Ratio) : leastLo [p, q, r, s] = min (min (min (down p) (down q)) (down r)) (down s) := rfl
theorem leastHi_four (p q r s : Ratio) : leastHi [p, q, r, s] = max (max (max (up p) (up q)) (up r)) (up s) := rfl
theorem pull_bd {c : Cell} {x : Int} (hc : cellB c = true) (hx : -300 ≤ x ∧ x ≤ 300) : -174000000000 ≤ pull c x ∧ pull c x ≤ 174000000000 := by
  obtain ⟨h1, h2, h3, h4, h5, h6⟩ := cellB_iff.1 hc
  have := mul_bd (A := 580000000) (B := 300) (x := 29 * amount c) (y := x) (by unfold amount; omega) (by unfold amount; omega) (by omega) (by omega)
  unfold pull
  omega
theorem pull_le {c : Cell} (hc : cellB c = true) : pull c c.wlo ≤ pull c c.whi := by
  obtain ⟨h1, h2, h3, h4, h5, h6⟩ := cellB_iff.1 hc
  exact Int.mul_le_mul_of_nonneg_left h6.2.1 (by unfold amount; omega)
theorem lift_lo {c : Cell} {a : Air} (hc : cellB c = true) (ha : airB a = true) : leastLo (liftR c a) + 25 * c.helium = liftLo c a := by
  obtain ⟨_, h8⟩ := airB_iff.1 ha
  have h := pull_le hc
  have d1 := Int.ediv_le_ediv (show 0 < a.tlo by omega) h
  have d2 := Int.ediv_le_ediv (show 0 < a.thi by omega) h
  unfold liftR liftLo
  rw [leastLo_four]
  simp only [down]
  omega
theorem lift_hi {c : Cell} {a : Air} (hc : cellB c = true) (ha : airB a = true) : leastHi (liftR c a) + 25 * c.helium = liftHi c a := by
  obtain ⟨_, h8⟩ := airB_iff.1 ha
  have h := pull_le hc
  have d1 := Int.ediv_le_ediv (show 0 < a.tlo by omega) (Int.neg_le_neg h)
  have d2 := Int.ediv_le_ediv (show 0 < a.thi by omega) (Int.neg_le_neg h)
  unfold liftR liftHi
  rw [leastHi_four]
  simp only [up]
  omega
def ceilLo (c : Cell) (x : Int) : Int := amount c * (x + c.wlo) / c.room
def ceilHi (c : Cell) (y : Int) : Int := -((-(amount c * (y + c.whi))) / c.room)
theorem spanIn_iff {x y lo hi : Int} : spanIn x y lo hi = true ↔ lo ≤ x ∧ x ≤ y ∧ y ≤ hi := by
  simp [spanIn, rng, inB]; omega
theorem ceil_bd {c : Cell} {x y : Int} (hc : cellB c = true) (hs : spanIn x y 1500 3500 = true) :
    (0 ≤ amount c ∧ amount c ≤ 20000000) ∧ 0 ≤ amount c * (x + c.wlo) ∧ amount c * (x + c.wlo) ≤ amount c * (y + c.whi) ∧ amount c * (y + c.whi) ≤ 76000000000 := by
  obtain ⟨h1, h2, h3, h4, h5, h6⟩ := cellB_iff.1 hc
  obtain ⟨s1, s2, s3⟩ := spanIn_iff.1 hs
  have hn0 : 0 ≤ amount c := by unfold amount; omega
  have hn1 : amount c ≤ 20000000 := by unfold amount; omega
  refine ⟨⟨hn0, hn1⟩, Int.mul_nonneg hn0 (by omega), Int.mul_le_mul_of_nonneg_left (by omega) hn0, ?_⟩
  have := (mul_bd (A := 20000000) (B := 3800) (x := amount c) (y := y + c.whi) (by omega) hn1 (by omega) (by omega)).2
  omega
theorem ceil_lo {c : Cell} {x y : Int} (hc : cellB c = true) (hs : spanIn x y 1500 3500 = true) : leastLo [⟨amount c * (x + c.wlo), c.room⟩, ⟨amount c * (y + c.whi), c.room⟩] = ceilLo c x := by
  obtain ⟨_, p0, p1, _⟩ := ceil_bd hc hs
  have := cellB_iff.1 hc
  have d1 := Int.ediv_le_ediv (show 0 < c.room by omega) p1
  rw [leastLo_two]
  simp only [down, ceilLo]
  omega
theorem ceil_hi {c : Cell} {x y : Int} (hc : cellB c = true) (hs : spanIn x y 1500 3500 = true) : leastHi [⟨amount c * (x + c.wlo), c.room⟩, ⟨amount c * (y + c.whi), c.room⟩] = ceilHi c y := by
  obtain ⟨_, p0, p1, _⟩ := ceil_bd hc hs
  have := cellB_iff.1 hc
  have d1 := Int.ediv_le_ediv (show 0 < c.room by omega) (Int.neg_le_neg p1)
  rw [leastHi_two]
  simp only [up, ceilHi]
  omega
def valveLo (c : Cell) (a : Air) : Int := max (amount c - c.room * a.phi / heatLo c a) 0
def valveHi (c : Cell) (a : Air) : Int := max (amount c - c.room * a.plo / heatHi c a) 0
end Bal.Gas

/-
  A ship in trim whatever the air: the plain side. No program in sight.
-/
namespace Bal.Top
open Bal.Trim Bal.Gas
/-- a number of a span, chosen by another one -/
def ins (lo hi n : Int) : Int := lo + n % (hi - lo + 1)
theorem ins_in {lo hi : Int} (n : Int) (h : lo ≤ hi) : lo ≤ ins lo hi n ∧ ins lo hi n ≤ hi := by
  unfold ins
  have h1 := Int.emod_nonneg n (show hi - lo + 1 ≠ 0 by omega)
  have h2 := Int.emod_lt_of_pos n (show 0 < hi - lo + 1 by omega)
  omega
/-- the lift of a cell at a temperature and a superheat, times the temperature -/
def liftT (c : Cell) (t u : Int) : Int := 29 * (c.helium + c.air) * (t + u) - t * (4 * c.helium + 29 * c.air)
theorem liftT_eq (c : Cell) (t u : Int) : liftT c t u = 25 * c.helium * t + pull c u := by
  unfold liftT pull amount
  simp only [Int.mul_add, Int.add_mul]
  have e1 : t * (4 * c.helium) = 4 * c.helium * t := Int.mul_comm _ _
  have e2 : t * (29 * c.air) = 29 * c.air * t := Int.mul_comm _ _
  have e3 : 29 * c.helium * t = 25 * c.helium * t + 4 * c.helium * t := by rw [← Int.add_mul]; congr 1; omega
  omega
theorem low_mul {P x y t : Int} (hx : 0 < x) (h1 : x ≤ t) (h2 : t ≤ y) : min (P / x) (P / y) * t ≤ P := by
  have ht : 0 < t := by omega
  by_cases hP : 0 ≤ P
  · have q0 : 0 ≤ P / y := Int.ediv_nonneg hP (by omega)
    have q1 : P / y * t ≤ P / y * y := Int.mul_le_mul_of_nonneg_left h2 q0
    have q2 : P / y * y ≤ P := Int.ediv_mul_le P (by omega)
    have q3 : min (P / x) (P / y) * t ≤ P / y * t := Int.mul_le_mul_of_nonneg_right (by omega) (by omega)
    omega
  · have q0 : P / x < 0 := Int.ediv_neg_of_neg_of_pos (by omega) hx
    have q1 : P / x * t ≤ P / x * x := Int.mul_le_mul_of_nonpos_left (by omega) h1
    have q2 : P / x * x ≤ P := Int.ediv_mul_le P (by omega)
    have q3 : min (P / x) (P / y) * t ≤ P / x * t := Int.mul_le_mul_of_nonneg_right (by omega) (by omega)
    omega
theorem high_mul {P x y t : Int} (hx : 0 < x) (h1 : x ≤ t) (h2 : t ≤ y) : P ≤ max (-(-P / x)) (-(-P / y)) * t := by
  have h := low_mul (P := -P) hx h1 h2
  have e : max (-(-P / x)) (-(-P / y)) * t = -(min (-P / x) (-P / y) * t) := by rw [← Int.neg_mul]; congr 1; omega
  omega
theorem lift_in {c : Cell} {a : Air} {t u : Int} (hc : cellB c = true) (ha : airB a = true) (h1 : a.tlo ≤ t) (h2 : t ≤ a.thi) (h3 : c.wlo ≤ u) (h4 : u ≤ c.whi) :
    liftLo c a * t ≤ liftT c t u ∧ liftT c t u ≤ liftHi c a * t := by
  obtain ⟨_, k1, k2, k3⟩ := airB_iff.1 ha
  obtain ⟨_, k4, k5, _⟩ := cellB_iff.1 hc
  have hn : 0 ≤ 29 * amount c := by unfold amount; omega
  have p1 : pull c c.wlo ≤ pull c u := Int.mul_le_mul_of_nonneg_left h3 hn
  have p2 : pull c u ≤ pull c c.whi := Int.mul_le_mul_of_nonneg_left h4 hn
  have l := low_mul (P := pull c c.wlo) (x := a.tlo) (y := a.thi) (by omega) h1 h2
  have r := high_mul (P := pull c c.whi) (x := a.tlo) (y := a.thi) (by omega) h1 h2
  rw [liftT_eq]
  unfold liftLo liftHi
  rw [Int.add_mul, Int.add_mul]
  omega
theorem lift_bd {c : Cell} {a : Air} (hc : cellB c = true) (ha : airB a = true) : (-400000000 ≤ liftLo c a ∧ liftLo c a ≤ 400000000) ∧ (-400000000 ≤ liftHi c a ∧ liftHi c a ≤ 400000000) ∧ liftLo c a ≤ liftHi c a := by
  obtain ⟨_, k1, k2, k3⟩ := airB_iff.1 ha
  obtain ⟨_, k4, k5, k6⟩ := cellB_iff.1 hc
  have q : ∀ P x : Int, -174000000000 ≤ P → P ≤ 174000000000 → 1500 ≤ x → -116000000 ≤ P / x ∧ P / x ≤ 116000000 := by
    intro P x h1 h2 h3
    constructor
    · rw [Int.le_ediv_iff_mul_le (by omega)]
      have : -116000000 * x ≤ -116000000 * 1500 := Int.mul_le_mul_of_nonpos_left (by omega) h3
      omega
    · refine Int.ediv_le_of_le_mul (by omega) ?_
      have : 116000000 * 1500 ≤ 116000000 * x := Int.mul_le_mul_of_nonneg_left h3 (by omega)
      omega
  have b1 := pull_bd hc (x := c.wlo) (by omega)
  have b2 := pull_bd hc (x := c.whi) (by omega)
  have r1 := q _ a.tlo b1.1 b1.2 (by omega)
  have r2 := q _ a.thi b1.1 b1.2 (by omega)
  have r3 := q (-pull c c.whi) a.tlo (by omega) (by omega) (by omega)
  have r4 := q (-pull c c.whi) a.thi (by omega) (by omega) (by omega)
  have hle : liftLo c a ≤ liftHi c a := by
    have h := lift_in hc ha (t := a.tlo) (u := c.wlo) (by omega) (by omega) (by omega) (by omega)
    have h5 : liftLo c a * a.tlo ≤ liftHi c a * a.tlo := by omega
    exact Int.le_of_mul_le_mul_right h5 (by omega)
  refine ⟨?_, ?_, hle⟩
  · unfold liftLo; omega
  · unfold liftHi; omega
/-- what a weight between the ends adds is no more than the worst corner adds -/
theorem corner_le {m : Limit} {x : Load} {t W : Int} (ht : 0 ≤ t) (h1 : x.wlo * t ≤ W) (h2 : W ≤ x.whi * t) : W * (m.a + m.b * x.alo) ≤ t * vOf m (best m x) := by
  have hb : vOf m ⟨x.alo, x.wlo⟩ ≤ vOf m (best m x) ∧ vOf m ⟨x.alo, x.whi⟩ ≤ vOf m (best m x) := by
    unfold best best2 best1
    simp only [better_v]
    omega
  generalize vOf m (best m x) = V at hb ⊢
  unfold vOf at hb
  simp only at hb
  generalize m.a + m.b * x.alo = k at hb ⊢
  have g1 : t * (x.wlo * k) ≤ t * V := Int.mul_le_mul_of_nonneg_left hb.1 ht
  have g2 : t * (x.whi * k) ≤ t * V := Int.mul_le_mul_of_nonneg_left hb.2 ht
  have e1 : t * (x.wlo * k) = x.wlo * t * k := by rw [← Int.mul_assoc, Int.mul_comm t]
  have e2 : t * (x.whi * k) = x.whi * t * k := by rw [← Int.mul_assoc, Int.mul_comm t]
  by_cases hk : 0 ≤ k
  · have := Int.mul_le_mul_of_nonneg_right h2 hk
    omega
  · have := Int.mul_le_mul_of_nonpos_right h1 (show k ≤ 0 by omega)
    omega
/-- a cell's lift as a load -/
def cellLoad (a : Air) (c : Cell) (p : Int) : Load := ⟨p, p, -liftHi c a, -liftLo c a⟩
def cellLoads (a : Air) (cs : List Cell) (ps : List Int) (k : Nat) : List Load := (List.range k).map fun i => cellLoad a (cs.getD i default) (ps.getD i 0)
theorem cellLoads_succ (a : Air) (cs : List Cell) (ps : List Int) (k : Nat) : cellLoads a cs ps (k + 1) = cellLoads a cs ps k ++ [cellLoad a (cs.getD k default) (ps.getD k 0)] := by
  simp [cellLoads, List.range_succ]
theorem cellLoads_len (a : Air) (cs : List Cell) (ps : List Int) (k : Nat) : (cellLoads a cs ps k).length = k := by simp [cellLoads]
def moreV (t : Int) (m : Limit) (ys : List Load) (by_ : List Int) : Nat → Int
  | 0 => 0
  | k + 1 => moreV t m ys by_ k + t * ins (ys.getD k default).wlo (ys.getD k default).whi (by_.getD k 0) * (m.a + m.b * (ys.getD k default).alo)
def cellV (t : Int) (m : Limit) (cs : List Cell) (ps : List Int) (by_ : List Int) (n : Nat) (v : Int) : Nat → Int
  | 0 => v
  | k + 1 => cellV t m cs ps by_ n v k - liftT (cs.getD k default) t (ins (cs.getD k default).wlo (cs.getD k default).whi (by_.getD (k + n) 0)) * (m.a + m.b * ps.getD k 0)
theorem more_le {t : Int} (m : Limit) (ys : List Load) (by_ : List Int) (ht : 0 ≤ t) (hy : ∀ y ∈ ys, loadB y = true) : ∀ k, k ≤ ys.length → moreV t m ys by_ k ≤ t * worstV m (ys.take k)
  | 0, _ => by simp [moreV, worstV, value, choice]
  | k + 1, hk => by
    have ih := more_le m ys by_ ht hy k (by omega)
    have hkl : k < ys.length := by omega
    have e : ys.getD k default = ys[k] := by simp [hkl]
    have hb := loadB_bd (hy _ (List.getElem_mem hkl))
    have hi := ins_in (lo := ys[k].wlo) (hi := ys[k].whi) (by_.getD k 0) (by omega)
    have c := corner_le (m := m) (x := ys[k]) (t := t) (W := t * ins ys[k].wlo ys[k].whi (by_.getD k 0)) ht
      (by rw [Int.mul_comm]; exact Int.mul_le_mul_of_nonneg_left hi.1 ht) (by rw [Int.mul_comm ys[k].whi]; exact Int.mul_le_mul_of_nonneg_left hi.2 ht)
    rw [moreV, e, worstV_eq, sumBy_take _ _ _ hkl, ← worstV_eq, Int.mul_add t (worstV m (ys.take k))]
    omega
theorem cell_le {t : Int} (m : Limit) (a : Air) (cs : List Cell) (ps : List Int) (by_ : List Int) (n : Nat) (v : Int) (ht : 0 ≤ t) (ha : airB a = true) (hc : ∀ c ∈ cs, cellB c = true) (h1 : a.tlo ≤ t) (h2 : t ≤ a.thi) :
    ∀ k, k ≤ cs.length → cellV t m cs ps by_ n v k ≤ v + t * worstV m (cellLoads a cs ps k)
  | 0, _ => by simp [cellV, cellLoads, worstV, value, choice]
  | k + 1, hk => by
    have ih := cell_le m a cs ps by_ n v ht ha hc h1 h2 k (by omega)
    have hkl : k < cs.length := by omega
    have e : cs.getD k default = cs[k] := by simp [hkl]
    have hck := hc _ (List.getElem_mem hkl)
    have hw := (cellB_iff.1 hck).2.2.2.2.2
    have hi := ins_in (lo := cs[k].wlo) (hi := cs[k].whi) (by_.getD (k + n) 0) (by omega)
    have hl := lift_in hck ha h1 h2 hi.1 hi.2
    have c := corner_le (m := m) (x := cellLoad a cs[k] (ps.getD k 0)) (t := t) (W := -liftT cs[k] t (ins cs[k].wlo cs[k].whi (by_.getD (k + n) 0))) ht
      (by simp only [cellLoad]; rw [Int.neg_mul]; omega) (by simp only [cellLoad]; rw [Int.neg_mul]; omega)
    rw [cellV, e, cellLoads_succ, worstV_eq, sumBy_append, sumBy_cons, sumBy_nil, ← worstV_eq, e, Int.mul_add t (worstV m (cellLoads a cs ps k))]
    rw [Int.neg_mul] at c
    have e2 : (cellLoad a cs[k] (ps.getD k 0)).alo = ps.getD k 0 := rfl
    rw [e2] at c
    have e3 : vOf m (best m (cellLoad a cs[k] (ps.getD k 0))) + 0 = vOf m (best m (cellLoad a cs[k] (ps.getD k 0))) := by omega
    rw [e3]
    omega
/-- THE PLAIN LAW -/
theorem trim_le {t : Int} (m : Limit) (a : Air) (ys : List Load) (cs : List Cell) (ps : List Int) (by_ : List Int) (ht : 0 ≤ t) (ha : airB a = true) (hy : ∀ y ∈ ys, loadB y = true) (hc : ∀ c ∈ cs, cellB c = true) (h1 : a.tlo ≤ t) (h2 : t ≤ a.thi)
    (hw : worstV m (ys ++ cellLoads a cs ps cs.length) ≤ m.c) : cellV t m cs ps by_ ys.length (moreV t m ys by_ ys.length) cs.length ≤ m.c * t := by
  have p := more_le m ys by_ ht hy ys.length (Nat.le_refl _)
  have q := cell_le m a cs ps by_ ys.length (moreV t m ys by_ ys.length) ht ha hc h1 h2 cs.length (Nat.le_refl _)
  rw [List.take_length] at p
  rw [worstV_eq, sumBy_append, ← worstV_eq, ← worstV_eq] at hw
  have := Int.mul_le_mul_of_nonneg_left hw ht
  rw [Int.mul_add, Int.mul_comm t m.c] at this
  omega
/-! ### Bounds -/
theorem more_bd {t : Int} (m : Limit) (ys : List Load) (by_ : List Int) (h0 : 0 ≤ t ∧ t ≤ 3500) (hm : (-30 ≤ m.a ∧ m.a ≤ 30) ∧ -30 ≤ m.b ∧ m.b ≤ 30) (hy : ∀ y ∈ ys, loadB y = true) :
    ∀ k, k ≤ ys.length → (∀ i, i < k → -2000 ≤ (ys.getD i default).alo ∧ (ys.getD i default).alo ≤ 2000) →
      -(225598525931520000 * k) ≤ moreV t m ys by_ k ∧ moreV t m ys by_ k ≤ 225598525931520000 * k
  | 0, _, _ => by simp [moreV]
  | k + 1, hk, h => by
    have ih := more_bd m ys by_ h0 hm hy k (by omega) (fun i hi => h i (by omega))
    have hx := h k (by omega)
    have hkl : k < ys.length := by omega
    have e : ys.getD k default = ys[k] := by simp [hkl]
    have hb := loadB_bd (hy _ (List.getElem_mem hkl))
    rw [e] at hx
    rw [moreV, e]
    have hi := ins_in (lo := ys[k].wlo) (hi := ys[k].whi) (by_.getD k 0) (by omega)
    have p1 := mul_bd (A := 3500) (B := 1073741824) (x := t) (y := ins ys[k].wlo ys[k].whi (by_.getD k 0)) (by omega) (by omega) (by omega) (by omega)
    have p2 := mul_bd (A := 30) (B := 2000) (x := m.b) (y := ys[k].alo) (by omega) (by omega) (by omega) (by omega)
    have p3 := mul_bd (A := 3758096384000) (B := 60030) (x := t * ins ys[k].wlo ys[k].whi (by_.getD k 0)) (y := m.a + m.b * ys[k].alo) (by omega) (by omega) (by omega) (by omega)
    have e2 : (225598525931520000 : Int) * ((k + 1 : Nat) : Int) = 225598525931520000 * k + 225598525931520000 := by rw [Int.natCast_add, Int.mul_add]; simp
    rw [e2]
    omega
theorem liftT_bd {c : Cell} {t u : Int} (hc : cellB c = true) (h0 : 0 ≤ t ∧ t ≤ 3500) (hu : -300 ≤ u ∧ u ≤ 300) : (0 ≤ 29 * (c.helium + c.air) * (t + u) + 174000000000 ∧ 29 * (c.helium + c.air) * (t + u) ≤ 2204000000000) ∧ (0 ≤ t * (4 * c.helium + 29 * c.air) ∧ t * (4 * c.helium + 29 * c.air) ≤ 1155000000000) ∧ -174000000000 ≤ liftT c t u ∧ liftT c t u ≤ 1100000000000 := by
  have hk := cellB_iff.1 hc
  have p1 := mul_bd (A := 580000000) (B := 3800) (x := 29 * (c.helium + c.air)) (y := t + u) (by omega) (by omega) (by omega) (by omega)
  have p2 := mul_bd (A := 3500) (B := 330000000) (x := t) (y := 4 * c.helium + 29 * c.air) (by omega) (by omega) (by omega) (by omega)
  have p3 : 0 ≤ t * (4 * c.helium + 29 * c.air) := Int.mul_nonneg (by omega) (by omega)
  have p4 := pull_bd hc hu
  have p5 := mul_bd (A := 250000000) (B := 3500) (x := 25 * c.helium) (y := t) (by omega) (by omega) (by omega) (by omega)
  have p6 : 0 ≤ 25 * c.helium * t := Int.mul_nonneg (by omega) (by omega)
  have p7 : 29 * (c.helium + c.air) * (t + u) = 29 * (c.helium + c.air) * t + pull c u := by rw [Int.mul_add]; rfl
  have p8 : 0 ≤ 29 * (c.helium + c.air) * t := Int.mul_nonneg (by omega) (by omega)
  rw [liftT_eq]
  refine ⟨⟨?_, ?_⟩, ⟨p3, ?_⟩, ?_, ?_⟩ <;> omega
theorem cell_bd {t : Int} (m : Limit) (cs : List Cell) (ps : List Int) (by_ : List Int) (n : Nat) (v : Int) (h0 : 0 ≤ t ∧ t ≤ 3500) (hm : (-30 ≤ m.a ∧ m.a ≤ 30) ∧ -30 ≤ m.b ∧ m.b ≤ 30) (hc : ∀ c ∈ cs, cellB c = true) :
    ∀ k, k ≤ cs.length → (∀ i, i < k → -2000 ≤ ps.getD i 0 ∧ ps.getD i 0 ≤ 2000) →
      v - 66033000000000000 * k ≤ cellV t m cs ps by_ n v k ∧ cellV t m cs ps by_ n v k ≤ v + 66033000000000000 * k
  | 0, _, _ => by simp [cellV]
  | k + 1, hk, h => by
    have ih := cell_bd m cs ps by_ n v h0 hm hc k (by omega) (fun i hi => h i (by omega))
    have hx := h k (by omega)
    have hkl : k < cs.length := by omega
    have e : cs.getD k default = cs[k] := by simp [hkl]
    have hck := hc _ (List.getElem_mem hkl)
    have hw := (cellB_iff.1 hck).2.2.2.2.2
    rw [cellV, e]
    have hi := ins_in (lo := cs[k].wlo) (hi := cs[k].whi) (by_.getD (k + n) 0) (by omega)
    have hl := liftT_bd hck h0 (u := ins cs[k].wlo cs[k].whi (by_.getD (k + n) 0)) (by omega)
    have p2 := mul_bd (A := 30) (B := 2000) (x := m.b) (y := ps.getD k 0) (by omega) (by omega) (by omega) (by omega)
    have p3 := mul_bd (A := 1100000000000) (B := 60030) (x := liftT cs[k] t (ins cs[k].wlo cs[k].whi (by_.getD (k + n) 0))) (y := m.a + m.b * ps.getD k 0) (by omega) (by omega) (by omega) (by omega)
    have e2 : (66033000000000000 : Int) * ((k + 1 : Nat) : Int) = 66033000000000000 * k + 66033000000000000 := by rw [Int.natCast_add, Int.mul_add]; simp
    rw [e2]
    omega
theorem loads_ok {a : Air} {ys : List Load} {cs : List Cell} {ps : List Int} (ha : airB a = true) (hy : checkLoads ys = 0) (hn : ys.length ≤ 20) (hk : cs.length ≤ 12)
    (h : ∀ j, j < cs.length → cellB (cs.getD j default) = true ∧ -2000 ≤ ps.getD j 0 ∧ ps.getD j 0 ≤ 2000) : checkLoads (ys ++ cellLoads a cs ps cs.length) = 0 := by
  obtain ⟨_, hv⟩ := checkLoads_ok hy
  unfold checkLoads
  refine checkList_ok (by rw [List.length_append, cellLoads_len]; omega) ?_
  rw [List.all_eq_true]
  intro x hx
  rcases List.mem_append.1 hx with h1 | h1
  · exact hv x h1
  · simp only [cellLoads, List.mem_map, List.mem_range] at h1
    obtain ⟨j, hj, rfl⟩ := h1
    obtain ⟨k1, k2, k3⟩ := h j hj
    have := lift_bd k1 ha
    unfold cellLoad
    generalize ps.getD j 0 = e at *
    generalize liftLo (cs.getD j default) a = p at *
    generalize liftHi (cs.getD j default) a = q at *
    simp [loadB, spanB]
    omega
theorem both_one {xs : List Load} {m : Limit} (h : checkLoads xs = 0) (hm : (-30 ≤ m.a ∧ m.a ≤ 30) ∧ (-30 ≤ m.b ∧ m.b ≤ 30) ∧ -100000000000000 ≤ m.c ∧ m.c ≤ 100000000000000) : both xs [m] = 0 := by
  unfold both
  rw [if_pos h]
  unfold checkLimits
  refine checkList_ok (by simp) ?_
  simp [limitB, inB]
  omega
theorem broken_one {xs : List Load} {m : Limit} : broken xs [m] = if m.c < worstV m xs then some 0 else none := by
  split
  · rename_i h
    exact firstOf_some (by simp) (by omega) (by simp [brk, h])
  · rename_i h
    refine firstOf_none fun j hj => ?_
    have : j = 0 := by simpa using hj
    subst this
    simp [brk]; omega
end Bal.Top

/-
  Breaches and what proves one: the plain side.
-/
namespace Bal.Trim
def brP (xs : List Load) (ms : List Limit) (o : Option Nat) : List Put := match o with | some i => (match ms[i]? with | some m => choice m xs | none => []) | none => []
def breachE (xs : List Load) (ms : List Limit) : Int := if both xs ms = 0 then (match broken xs ms with | some _ => 0 | none => 6) else both xs ms
def breachN (xs : List Load) (ms : List Limit) : Int := if both xs ms = 0 then optN (broken xs ms) else 0
def breachP (xs : List Load) (ms : List Limit) : List Put := if both xs ms = 0 then brP xs ms (broken xs ms) else []
theorem broken_some {xs : List Load} {ms : List Limit} {k : Nat} (hk : k < ms.length) (hb : ∀ j, j < k → brk xs ms j = false) (h : ms[k].c < worstV ms[k] xs) : broken xs ms = some k :=
  firstOf_some hk hb (by rw [brk_at hk]; exact decide_eq_true h)
theorem broken_none {xs : List Load} {ms : List Limit} (hb : ∀ j, j < ms.length → brk xs ms j = false) : broken xs ms = none := firstOf_none hb
theorem brk_false {xs : List Load} {ms : List Limit} {k : Nat} (hk : k < ms.length) (h : ¬ ms[k].c < worstV ms[k] xs) : brk xs ms k = false := by rw [brk_at hk]; exact decide_eq_false h
theorem brP_at {xs : List Load} {ms : List Limit} {k : Nat} (hk : k < ms.length) : brP xs ms (some k) = choice ms[k] xs := by
  simp only [brP, List.getElem?_eq_getElem hk]
theorem broken_lt {xs : List Load} {ms : List Limit} {k : Nat} (h : broken xs ms = some k) : k < ms.length := (firstOf_get h).1
def putIn (x : Load) (p : Put) : Bool := inB p.pos x.alo x.ahi && inB p.wt x.wlo x.whi
def badAt (xs : List Load) (ps : List Put) (j : Nat) : Bool := match xs[j]?, ps[j]? with | some x, some p => !(putIn x p) | _, _ => false
theorem badAt_at {xs : List Load} {ps : List Put} {j : Nat} (h1 : j < xs.length) (h2 : j < ps.length) : badAt xs ps j = !(putIn xs[j] ps[j]) := by
  unfold badAt; rw [List.getElem?_eq_getElem h1, List.getElem?_eq_getElem h2]
theorem putIn_B {x : Load} {p : Put} (hx : loadB x = true) (h : putIn x p = true) : putB p := by
  have := loadB_bd hx
  simp [putIn, inB] at h
  unfold putB; omega
/-- what a check of a breach answers once the loads and the limits are valid, the number is one, and the puts are as many as the loads -/
def proofIn (xs : List Load) (m : Limit) (ps : List Put) : Int := if (firstOf (badAt xs ps) xs.length).isSome then 47 else if value m ps ≤ m.c then 47 else 0
def proofE (xs : List Load) (ms : List Limit) (n : Int) (ps : List Put) : Int :=
  if both xs ms = 0 then (if (inB n 0 (ms.length - 1) && decide (ps.length = xs.length)) = true then (match ms[n.toNat]? with | some m => proofIn xs m ps | none => 47) else 47) else both xs ms
theorem proof_bad {xs : List Load} {m : Limit} {ps : List Put} {k : Nat} (hk : k < xs.length) (hb : ∀ j, j < k → badAt xs ps j = false) (h : badAt xs ps k = true) : proofIn xs m ps = 47 := by
  unfold proofIn; rw [firstOf_some hk hb h]; rfl
theorem proof_good {xs : List Load} {m : Limit} {ps : List Put} (hb : ∀ j, j < xs.length → badAt xs ps j = false) : proofIn xs m ps = if value m ps ≤ m.c then 47 else 0 := by
  unfold proofIn; rw [firstOf_none hb]; rfl
theorem take_B {xs : List Load} {ps : List Put} {k : Nat} (hl : ps.length = xs.length) (hv : ∀ x ∈ xs, loadB x = true) (hk : k ≤ xs.length) (hb : ∀ j, j < k → badAt xs ps j = false) : ∀ p ∈ ps.take k, putB p := by
  intro p hp
  obtain ⟨j, hj, rfl⟩ := List.mem_iff_getElem.1 hp
  rw [List.length_take] at hj
  rw [List.getElem_take]
  have h1 := hb j (by omega)
  rw [badAt_at (by omega) (by omega)] at h1
  exact putIn_B (hv xs[j] (List.getElem_mem _)) (by simpa using h1)
theorem sum_take_B {m : Limit} {ps : List Put} {k : Nat} (hm : limitB m = true) (hn : ps.length ≤ 40) (h : ∀ p ∈ ps.take k, putB p) : -880000000000000000 ≤ sumBy (vOf m) (ps.take k) ∧ sumBy (vOf m) (ps.take k) ≤ 880000000000000000 := by
  have h1 := sumBy_bd (vOf m) 22000000000000000 (ps.take k) (fun p hp => vOf_bd hm (h p hp))
  have h2 : (ps.take k).length ≤ 40 := by rw [List.length_take]; omega
  omega
end Bal.Trim
