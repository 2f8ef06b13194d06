/-
  The plain side of the trim statements: what loads, limits, frames and the rest are, and what is asked of them. No program in sight.
-/

set_option linter.unusedVariables false
set_option linter.unusedSimpArgs false
/-
  The plain side of the trim statements: what loads, limits, frames and the rest are, and what is asked of them. No program in sight.
-/
namespace Bal.Trim

structure Load where
  alo : Int
  ahi : Int
  wlo : Int
  whi : Int
  deriving DecidableEq, Inhabited
structure Limit where
  a : Int
  b : Int
  c : Int
  deriving DecidableEq, Inhabited
structure Frm where
  pos : Int
  shear : Int
  bend : Int
  deriving DecidableEq, Inhabited
structure Put where
  pos : Int
  wt : Int
  deriving DecidableEq, Inhabited
structure Hold where
  pos : Int
  room : Int
  deriving DecidableEq, Inhabited
structure Parcel where
  wt : Int
  cls : Int
  deriving DecidableEq, Inhabited
structure Rule where
  a : Int
  b : Int
  apart : Int
  deriving DecidableEq, Inhabited

def inB (n lo hi : Int) : Bool := decide (lo ≤ n) && decide (n ≤ hi)
def spanB (lo hi m : Int) : Bool := decide (lo ≤ hi) && decide (-m ≤ lo) && decide (hi ≤ m)
def loadB (x : Load) : Bool := spanB x.alo x.ahi 20000 && spanB x.wlo x.whi 1073741824
def limitB (x : Limit) : Bool := inB x.a (-1000) 1000 && inB x.b (-1000) 1000 && inB x.c (-1000000000000000000) 1000000000000000000
def frameB (x : Frm) : Bool := inB x.pos (-20000) 20000 && inB x.shear 0 1000000000000 && inB x.bend 0 10000000000000000

def checkList {α : Type} (valid : α → Bool) (most : Nat) (err : Int) (xs : List α) : Int := if most < xs.length then 4 else if xs.all valid then 0 else err
def checkLoads (l : List Load) : Int := checkList loadB 40 40 l
def checkLimits (l : List Limit) : Int := checkList limitB 12 41 l
def checkFrames (l : List Frm) : Int := checkList frameB 12 42 l
def great (a b c d : Int) : Bool := decide (50 < a) || decide (50 < b) || decide (50 < c) || decide (50 < d)

theorem checkList_many {α : Type} {valid : α → Bool} {most : Nat} {err : Int} {xs : List α} (h : most < xs.length) : checkList valid most err xs = 4 := if_pos h
theorem checkList_ok {α : Type} {valid : α → Bool} {most : Nat} {err : Int} {xs : List α} (h : ¬ most < xs.length) (h' : xs.all valid = true) : checkList valid most err xs = 0 := by
  unfold checkList; rw [if_neg h, if_pos h']
theorem checkList_bad {α : Type} {valid : α → Bool} {most : Nat} {err : Int} {xs : List α} (h : ¬ most < xs.length) (k : Nat) (hk : k < xs.length) (h' : valid xs[k] = false) : checkList valid most err xs = err := by
  unfold checkList; rw [if_neg h, if_neg]
  intro ha
  rw [List.all_eq_true.1 ha _ (List.getElem_mem hk)] at h'
  cases h'
theorem take_all {α : Type} {valid : α → Bool} {xs : List α} {k : Nat} (hk : k < xs.length) (h : (xs.take k).all valid = true) (h' : valid xs[k] = true) : (xs.take (k + 1)).all valid = true := by
  rw [List.take_succ_eq_append_getElem hk, List.all_append, h]
  simp [h']
end Bal.Trim

/-
  Sums, products, least and greatest: plain Lean.
-/
namespace Bal.Trim
/-! ### Sums and products -/
def sumBy {α : Type} (g : α → Int) (xs : List α) : Int := xs.foldr (fun x s => g x + s) 0
@[simp] theorem sumBy_nil {α : Type} (g : α → Int) : sumBy g [] = 0 := rfl
theorem sumBy_cons {α : Type} (g : α → Int) (x : α) (xs : List α) : sumBy g (x :: xs) = g x + sumBy g xs := rfl
theorem sumBy_append {α : Type} (g : α → Int) (xs ys : List α) : sumBy g (xs ++ ys) = sumBy g xs + sumBy g ys := by
  induction xs with
  | nil => simp
  | cons x xs ih => simp only [List.cons_append, sumBy_cons, ih]; omega
theorem sumBy_take {α : Type} (g : α → Int) (xs : List α) (k : Nat) (hk : k < xs.length) : sumBy g (xs.take (k + 1)) = sumBy g (xs.take k) + g xs[k] := by
  rw [List.take_succ_eq_append_getElem hk, sumBy_append, sumBy_cons, sumBy_nil]; omega
theorem sumBy_bd {α : Type} (g : α → Int) (M : Int) (xs : List α) (h : ∀ x ∈ xs, -M ≤ g x ∧ g x ≤ M) : -(M * xs.length) ≤ sumBy g xs ∧ sumBy g xs ≤ M * xs.length := by
  induction xs with
  | nil => simp
  | cons x xs ih =>
    have h1 := ih (fun y hy => h y (by simp [hy]))
    have h2 := h x (by simp)
    rw [sumBy_cons, List.length_cons]
    have e : M * ((xs.length + 1 : Nat) : Int) = M * (xs.length : Int) + M := by rw [Int.natCast_add, Int.mul_add]; simp
    rw [e]
    omega
/-- the sum of the first k of at most n terms, each from -M to M -/
theorem sumBy_take_bd {α : Type} (g : α → Int) (M N : Int) (xs : List α) (n : Nat) (hn : xs.length ≤ n) (hM : 0 ≤ M) (hN : M * n ≤ N) (h : ∀ x ∈ xs, -M ≤ g x ∧ g x ≤ M) (k : Nat) : -N ≤ sumBy g (xs.take k) ∧ sumBy g (xs.take k) ≤ N := by
  have h1 := sumBy_bd g M (xs.take k) (fun x hx => h x (List.mem_of_mem_take hx))
  have h2 : M * ((xs.take k).length : Int) ≤ M * (n : Int) := Int.mul_le_mul_of_nonneg_left (by have : (xs.take k).length ≤ n := by rw [List.length_take]; omega
                                                                                                omega) hM
  omega
theorem mul_bd {x y A B : Int} (hx : -A ≤ x) (hx' : x ≤ A) (hy : -B ≤ y) (hy' : y ≤ B) : -(A * B) ≤ x * y ∧ x * y ≤ A * B := by
  have h1 : x.natAbs ≤ A.toNat := by omega
  have h2 : y.natAbs ≤ B.toNat := by omega
  have h3 := Nat.mul_le_mul h1 h2
  rw [← Int.natAbs_mul] at h3
  have h4 : ((A.toNat * B.toNat : Nat) : Int) = A * B := by
    rw [Int.natCast_mul, Int.toNat_of_nonneg (by omega), Int.toNat_of_nonneg (by omega)]
  omega
def tLo (a b c d : Int) : Int := min (min (min (a * c) (a * d)) (b * c)) (b * d)
def tHi (a b c d : Int) : Int := max (max (max (a * c) (a * d)) (b * c)) (b * d)
theorem t_bd {a b c d A B : Int} (h : -A ≤ a ∧ a ≤ A ∧ -A ≤ b ∧ b ≤ A) (h' : -B ≤ c ∧ c ≤ B ∧ -B ≤ d ∧ d ≤ B) :
    (-(A * B) ≤ tLo a b c d ∧ tLo a b c d ≤ A * B) ∧ (-(A * B) ≤ tHi a b c d ∧ tHi a b c d ≤ A * B) := by
  have h1 := mul_bd h.1 h.2.1 h'.1 h'.2.1
  have h2 := mul_bd h.1 h.2.1 h'.2.2.1 h'.2.2.2
  have h3 := mul_bd h.2.2.1 h.2.2.2 h'.1 h'.2.1
  have h4 := mul_bd h.2.2.1 h.2.2.2 h'.2.2.1 h'.2.2.2
  unfold tLo tHi
  omega
theorem ite_min (a b : Int) : (if b < a then b else a) = min a b := by split <;> omega
theorem ite_max (a b : Int) : (if a < b then b else a) = max a b := by split <;> omega
def lmin : List Int → Int
  | [] => 0
  | x :: xs => xs.foldl min x
def lmax : List Int → Int
  | [] => 0
  | x :: xs => xs.foldl max x
theorem lmin_take {xs : List Int} {k : Nat} (h0 : 0 < k) (hk : k < xs.length) : lmin (xs.take (k + 1)) = min (lmin (xs.take k)) xs[k] := by
  cases xs with
  | nil => simp at hk
  | cons x xs =>
    obtain ⟨j, rfl⟩ : ∃ j, k = j + 1 := ⟨k - 1, by omega⟩
    have hj : j < xs.length := by simpa using hk
    simp only [List.take_succ_cons, lmin, List.getElem_cons_succ]
    rw [List.take_succ_eq_append_getElem hj, List.foldl_append]
    rfl
theorem lmax_take {xs : List Int} {k : Nat} (h0 : 0 < k) (hk : k < xs.length) : lmax (xs.take (k + 1)) = max (lmax (xs.take k)) xs[k] := by
  cases xs with
  | nil => simp at hk
  | cons x xs =>
    obtain ⟨j, rfl⟩ : ∃ j, k = j + 1 := ⟨k - 1, by omega⟩
    have hj : j < xs.length := by simpa using hk
    simp only [List.take_succ_cons, lmax, List.getElem_cons_succ]
    rw [List.take_succ_eq_append_getElem hj, List.foldl_append]
    rfl
theorem loadB_bd {x : Load} (h : loadB x = true) : (-20000 ≤ x.alo ∧ x.alo ≤ 20000 ∧ -20000 ≤ x.ahi ∧ x.ahi ≤ 20000) ∧ (-1073741824 ≤ x.wlo ∧ x.wlo ≤ 1073741824 ∧ -1073741824 ≤ x.whi ∧ x.whi ≤ 1073741824) ∧ x.alo ≤ x.ahi ∧ x.wlo ≤ x.whi := by
  simp [loadB, spanB] at h
  omega
theorem checkLoads_ok {l : List Load} (h : checkLoads l = 0) : l.length ≤ 40 ∧ ∀ x ∈ l, loadB x = true := by
  unfold checkLoads checkList at h
  split at h
  · cases h
  · split at h
    · rename_i h1 h2
      exact ⟨by omega, fun x hx => List.all_eq_true.1 h2 x hx⟩
    · cases h
theorem checkLimits_ok {l : List Limit} (h : checkLimits l = 0) : l.length ≤ 12 ∧ ∀ x ∈ l, limitB x = true := by
  unfold checkLimits checkList at h
  split at h
  · cases h
  · split at h
    · rename_i h1 h2
      exact ⟨by omega, fun x hx => List.all_eq_true.1 h2 x hx⟩
    · cases h
theorem checkFrames_ok {l : List Frm} (h : checkFrames l = 0) : l.length ≤ 12 ∧ ∀ x ∈ l, frameB x = true := by
  unfold checkFrames checkList at h
  split at h
  · cases h
  · split at h
    · rename_i h1 h2
      exact ⟨by omega, fun x hx => List.all_eq_true.1 h2 x hx⟩
    · cases h
/-- a result, if there is no error -/
def ifOk (e v : Int) : Int := if e = 0 then v else 0
/-- what the heaviness and the moment of loads are -/
def wLo (x : Load) : Int := x.wlo
def wHi (x : Load) : Int := x.whi
def mLo (x : Load) : Int := tLo x.alo x.ahi x.wlo x.whi
def mHi (x : Load) : Int := tHi x.alo x.ahi x.wlo x.whi
end Bal.Trim

/-
  Limits at work, worst choices, breaches, shear and bending: the plain side.
-/
namespace Bal.Trim
/-- what a put adds to the value of a limit -/
def vOf (m : Limit) (p : Put) : Int := p.wt * (m.a + m.b * p.pos)
def better (m : Limit) (b p : Put) : Put := if vOf m b < vOf m p then p else b
def corners (x : Load) : List Put := [⟨x.alo, x.wlo⟩, ⟨x.ahi, x.wlo⟩, ⟨x.alo, x.whi⟩, ⟨x.ahi, x.whi⟩]
def best1 (m : Limit) (x : Load) : Put := better m ⟨x.alo, x.wlo⟩ ⟨x.ahi, x.wlo⟩
def best2 (m : Limit) (x : Load) : Put := better m (best1 m x) ⟨x.alo, x.whi⟩
def best (m : Limit) (x : Load) : Put := better m (best2 m x) ⟨x.ahi, x.whi⟩
def choice (m : Limit) (xs : List Load) : List Put := xs.map (best m)
def value (m : Limit) (ps : List Put) : Int := sumBy (vOf m) ps
def worstV (m : Limit) (xs : List Load) : Int := value m (choice m xs)
def putB (p : Put) : Prop := (-20000 ≤ p.pos ∧ p.pos ≤ 20000) ∧ -1073741824 ≤ p.wt ∧ p.wt ≤ 1073741824
theorem corner_B {x : Load} (h : loadB x = true) {p : Put} (hp : p ∈ corners x) : putB p := by
  have h := loadB_bd h
  simp only [corners, List.mem_cons, List.not_mem_nil, or_false] at hp
  rcases hp with rfl | rfl | rfl | rfl <;> (unfold putB; simp only; omega)
theorem better_of {m : Limit} {b p : Put} : better m b p = b ∨ better m b p = p := by unfold better; split <;> simp
theorem better_v (m : Limit) (b p : Put) : vOf m (better m b p) = max (vOf m b) (vOf m p) := by unfold better; split <;> omega
theorem best1_mem (m : Limit) (x : Load) : best1 m x ∈ corners x := by
  unfold best1; rcases better_of (m := m) (b := ⟨x.alo, x.wlo⟩) (p := ⟨x.ahi, x.wlo⟩) with h | h <;> rw [h] <;> simp [corners]
theorem best2_mem (m : Limit) (x : Load) : best2 m x ∈ corners x := by
  unfold best2; rcases better_of (m := m) (b := best1 m x) (p := ⟨x.alo, x.whi⟩) with h | h <;> rw [h]
  · exact best1_mem m x
  · simp [corners]
theorem best_mem (m : Limit) (x : Load) : best m x ∈ corners x := by
  unfold best; rcases better_of (m := m) (b := best2 m x) (p := ⟨x.ahi, x.whi⟩) with h | h <;> rw [h]
  · exact best2_mem m x
  · simp [corners]
theorem limitB_bd {m : Limit} (h : limitB m = true) : (-1000 ≤ m.a ∧ m.a ≤ 1000) ∧ (-1000 ≤ m.b ∧ m.b ≤ 1000) ∧ -1000000000000000000 ≤ m.c ∧ m.c ≤ 1000000000000000000 := by
  simp [limitB, inB] at h; omega
/-- the products of a valid limit and a put in its bounds -/
theorem put_bd {m : Limit} {p : Put} (hm : limitB m = true) (hp : putB p) :
    (-20000000 ≤ m.b * p.pos ∧ m.b * p.pos ≤ 20000000) ∧ (-20001000 ≤ m.a + m.b * p.pos ∧ m.a + m.b * p.pos ≤ 20001000) ∧ -22000000000000000 ≤ p.wt * (m.a + m.b * p.pos) ∧ p.wt * (m.a + m.b * p.pos) ≤ 22000000000000000 := by
  obtain ⟨h1, h2, _⟩ := limitB_bd hm
  obtain ⟨h3, h4⟩ := hp
  have p1 := mul_bd (A := 1000) (B := 20000) h2.1 h2.2 h3.1 h3.2
  have p2 := mul_bd (A := 1073741824) (B := 20001000) (x := p.wt) (y := m.a + m.b * p.pos) h4.1 h4.2 (by omega) (by omega)
  refine ⟨by omega, by omega, by omega, by omega⟩
theorem vOf_bd {m : Limit} {p : Put} (hm : limitB m = true) (hp : putB p) : -22000000000000000 ≤ vOf m p ∧ vOf m p ≤ 22000000000000000 := (put_bd hm hp).2.2
theorem best_bd {m : Limit} {x : Load} (hm : limitB m = true) (hx : loadB x = true) : -22000000000000000 ≤ vOf m (best m x) ∧ vOf m (best m x) ≤ 22000000000000000 := vOf_bd hm (corner_B hx (best_mem m x))
theorem sumBy_map {α β : Type} (g : β → Int) (f : α → β) (xs : List α) : sumBy g (xs.map f) = sumBy (fun x => g (f x)) xs := by
  induction xs with
  | nil => rfl
  | cons x xs ih => rw [List.map_cons, sumBy_cons, sumBy_cons, ih]
theorem worstV_eq (m : Limit) (xs : List Load) : worstV m xs = sumBy (fun x => vOf m (best m x)) xs := sumBy_map _ _ _
theorem choice_len (m : Limit) (xs : List Load) : (choice m xs).length = xs.length := by simp [choice]
/-- the first of the first n numbers of which f is true -/
def firstOf (f : Nat → Bool) (n : Nat) : Option Nat := (List.range n).find? f
theorem firstOf_some {f : Nat → Bool} {n k : Nat} (hk : k < n) (hb : ∀ j, j < k → f j = false) (h : f k = true) : firstOf f n = some k := by
  unfold firstOf
  rw [List.find?_range_eq_some]
  exact ⟨h, by simpa using hk, fun j hj => by simp [hb j hj]⟩
theorem firstOf_none {f : Nat → Bool} {n : Nat} (hb : ∀ j, j < n → f j = false) : firstOf f n = none := by
  unfold firstOf
  rw [List.find?_range_eq_none]
  intro j hj
  simp [hb j hj]
theorem firstOf_get {f : Nat → Bool} {n k : Nat} (h : firstOf f n = some k) : k < n ∧ f k = true := by
  unfold firstOf at h
  rw [List.find?_range_eq_some] at h
  exact ⟨by simpa using h.2.1, h.1⟩
/-- whether loads break the limit of a number -/
def brk (xs : List Load) (ms : List Limit) (i : Nat) : Bool := match ms[i]? with | some m => decide (m.c < worstV m xs) | none => false
theorem brk_at {xs : List Load} {ms : List Limit} {i : Nat} (hi : i < ms.length) : brk xs ms i = decide (ms[i].c < worstV ms[i] xs) := by
  unfold brk; rw [List.getElem?_eq_getElem hi]
def broken (xs : List Load) (ms : List Limit) : Option Nat := firstOf (brk xs ms) ms.length
def optN (o : Option Nat) : Int := match o with | some i => i | none => 0
def both (xs : List Load) (ms : List Limit) : Int := if checkLoads xs = 0 then checkLimits ms else checkLoads xs
theorem both_ok {xs : List Load} {ms : List Limit} (h : both xs ms = 0) : checkLoads xs = 0 ∧ checkLimits ms = 0 := by
  unfold both at h; split at h
  · rename_i h1; exact ⟨h1, h⟩
  · rename_i h1; exact absurd h h1
/-! ### Shear and bending -/
def aLo (x : Load) (n : Int) : Int := max (n - x.ahi) 0
def aHi (x : Load) (n : Int) : Int := max (n - x.alo) 0
def sLo (n : Int) (x : Load) : Int := tLo (min (aLo x n) 1) (min (aHi x n) 1) x.wlo x.whi
def sHi (n : Int) (x : Load) : Int := tHi (min (aLo x n) 1) (min (aHi x n) 1) x.wlo x.whi
def bLo (n : Int) (x : Load) : Int := tLo (aLo x n) (aHi x n) x.wlo x.whi
def bHi (n : Int) (x : Load) : Int := tHi (aLo x n) (aHi x n) x.wlo x.whi
theorem a_bd {x : Load} {n : Int} (h : loadB x = true) (hn : -20000 ≤ n ∧ n ≤ 20000) : (0 ≤ aLo x n ∧ aLo x n ≤ 40000) ∧ 0 ≤ aHi x n ∧ aHi x n ≤ 40000 := by
  have := loadB_bd h
  unfold aLo aHi; omega
theorem s_bd {n : Int} {x : Load} (h : loadB x = true) (hn : -20000 ≤ n ∧ n ≤ 20000) : (-50000000000000 ≤ sLo n x ∧ sLo n x ≤ 50000000000000) ∧ (-50000000000000 ≤ sHi n x ∧ sHi n x ≤ 50000000000000) := by
  have h1 := loadB_bd h
  have h2 := a_bd h hn
  have h3 := t_bd (A := 40000) (B := 1073741824) (a := min (aLo x n) 1) (b := min (aHi x n) 1) (c := x.wlo) (d := x.whi) (by omega) (by omega)
  unfold sLo sHi
  omega
theorem b_bd {n : Int} {x : Load} (h : loadB x = true) (hn : -20000 ≤ n ∧ n ≤ 20000) : (-50000000000000 ≤ bLo n x ∧ bLo n x ≤ 50000000000000) ∧ (-50000000000000 ≤ bHi n x ∧ bHi n x ≤ 50000000000000) := by
  have h1 := loadB_bd h
  have h2 := a_bd h hn
  have h3 := t_bd (A := 40000) (B := 1073741824) (a := aLo x n) (b := aHi x n) (c := x.wlo) (d := x.whi) (by omega) (by omega)
  unfold bLo bHi
  omega
def strain (xs : List Load) (f : Frm) : Bool :=
  !(spanB (sumBy (sLo f.pos) xs) (sumBy (sHi f.pos) xs) f.shear) || !(spanB (sumBy (bLo f.pos) xs) (sumBy (bHi f.pos) xs) f.bend)
theorem t_le (a b c d : Int) : tLo a b c d ≤ tHi a b c d := by unfold tLo tHi; omega
/-- the indices of the frames that are strained -/
def strainedTo (xs : List Load) (fs : List Frm) : Nat → List Int
  | 0 => []
  | k + 1 => strainedTo xs fs k ++ (match fs[k]? with | some f => if strain xs f then [(k : Int)] else [] | none => [])
theorem strainedTo_succ {xs : List Load} {fs : List Frm} {k : Nat} (hk : k < fs.length) : strainedTo xs fs (k + 1) = strainedTo xs fs k ++ (if strain xs fs[k] then [(k : Int)] else []) := by
  rw [strainedTo, List.getElem?_eq_getElem hk]
end Bal.Trim

/-
  Breaches and what proves one: the plain side.
-/
namespace Bal.Trim
def brP (xs : List Load) (ms : List Limit) (o : Option Nat) : List Put := match o with | some i => (match ms[i]? with | some m => choice m xs | none => []) | none => []
def breachE (xs : List Load) (ms : List Limit) : Int := if both xs ms = 0 then (match broken xs ms with | some _ => 0 | none => 6) else both xs ms
def breachN (xs : List Load) (ms : List Limit) : Int := if both xs ms = 0 then optN (broken xs ms) else 0
def breachP (xs : List Load) (ms : List Limit) : List Put := if both xs ms = 0 then brP xs ms (broken xs ms) else []
theorem broken_some {xs : List Load} {ms : List Limit} {k : Nat} (hk : k < ms.length) (hb : ∀ j, j < k → brk xs ms j = false) (h : ms[k].c < worstV ms[k] xs) : broken xs ms = some k :=
  firstOf_some hk hb (by rw [brk_at hk]; exact decide_eq_true h)
theorem broken_none {xs : List Load} {ms : List Limit} (hb : ∀ j, j < ms.length → brk xs ms j = false) : broken xs ms = none := firstOf_none hb
theorem brk_false {xs : List Load} {ms : List Limit} {k : Nat} (hk : k < ms.length) (h : ¬ ms[k].c < worstV ms[k] xs) : brk xs ms k = false := by rw [brk_at hk]; exact decide_eq_false h
theorem brP_at {xs : List Load} {ms : List Limit} {k : Nat} (hk : k < ms.length) : brP xs ms (some k) = choice ms[k] xs := by
  simp only [brP, List.getElem?_eq_getElem hk]
theorem broken_lt {xs : List Load} {ms : List Limit} {k : Nat} (h : broken xs ms = some k) : k < ms.length := (firstOf_get h).1
def putIn (x : Load) (p : Put) : Bool := inB p.pos x.alo x.ahi && inB p.wt x.wlo x.whi
def badAt (xs : List Load) (ps : List Put) (j : Nat) : Bool := match xs[j]?, ps[j]? with | some x, some p => !(putIn x p) | _, _ => false
theorem badAt_at {xs : List Load} {ps : List Put} {j : Nat} (h1 : j < xs.length) (h2 : j < ps.length) : badAt xs ps j = !(putIn xs[j] ps[j]) := by
  unfold badAt; rw [List.getElem?_eq_getElem h1, List.getElem?_eq_getElem h2]
theorem putIn_B {x : Load} {p : Put} (hx : loadB x = true) (h : putIn x p = true) : putB p := by
  have := loadB_bd hx
  simp [putIn, inB] at h
  unfold putB; omega
/-- what a check of a breach answers once the loads and the limits are valid, the number is one, and the puts are as many as the loads -/
def proofIn (xs : List Load) (m : Limit) (ps : List Put) : Int := if (firstOf (badAt xs ps) xs.length).isSome then 47 else if value m ps ≤ m.c then 47 else 0
def proofE (xs : List Load) (ms : List Limit) (n : Int) (ps : List Put) : Int :=
  if both xs ms = 0 then (if (inB n 0 (ms.length - 1) && decide (ps.length = xs.length)) = true then (match ms[n.toNat]? with | some m => proofIn xs m ps | none => 47) else 47) else both xs ms
theorem proof_bad {xs : List Load} {m : Limit} {ps : List Put} {k : Nat} (hk : k < xs.length) (hb : ∀ j, j < k → badAt xs ps j = false) (h : badAt xs ps k = true) : proofIn xs m ps = 47 := by
  unfold proofIn; rw [firstOf_some hk hb h]; rfl
theorem proof_good {xs : List Load} {m : Limit} {ps : List Put} (hb : ∀ j, j < xs.length → badAt xs ps j = false) : proofIn xs m ps = if value m ps ≤ m.c then 47 else 0 := by
  unfold proofIn; rw [firstOf_none hb]; rfl
theorem take_B {xs : List Load} {ps : List Put} {k : Nat} (hl : ps.length = xs.length) (hv : ∀ x ∈ xs, loadB x = true) (hk : k ≤ xs.length) (hb : ∀ j, j < k → badAt xs ps j = false) : ∀ p ∈ ps.take k, putB p := by
  intro p hp
  obtain ⟨j, hj, rfl⟩ := List.mem_iff_getElem.1 hp
  rw [List.length_take] at hj
  rw [List.getElem_take]
  have h1 := hb j (by omega)
  rw [badAt_at (by omega) (by omega)] at h1
  exact putIn_B (hv xs[j] (List.getElem_mem _)) (by simpa using h1)
theorem sum_take_B {m : Limit} {ps : List Put} {k : Nat} (hm : limitB m = true) (hn : ps.length ≤ 40) (h : ∀ p ∈ ps.take k, putB p) : -880000000000000000 ≤ sumBy (vOf m) (ps.take k) ∧ sumBy (vOf m) (ps.take k) ≤ 880000000000000000 := by
  have h1 := sumBy_bd (vOf m) 22000000000000000 (ps.take k) (fun p hp => vOf_bd hm (h p hp))
  have h2 : (ps.take k).length ≤ 40 := by rw [List.length_take]; omega
  omega
end Bal.Trim

/-
  The first of the fewest: all sets of numbers below n in order; one pass over all of them in any order keeps the first good one. Plain Lean.
-/
namespace Bal.Trim
/-- whether the indices of one list come before those of another one, of as many -/
def earlier : List Nat → List Nat → Bool
  | a :: as, b :: bs => if a = b then earlier as bs else decide (a < b)
  | _, _ => false
/-- fewer first, then by earlier -/
def before (a b : List Nat) : Bool := decide (a.length < b.length) || (decide (a.length = b.length) && earlier a b)
def BestOf (ok : List Nat → Bool) (seen : List (List Nat)) : Option (List Nat) → Prop
  | none => ∀ x ∈ seen, ok x = false
  | some b => b ∈ seen ∧ ok b = true ∧ ∀ x ∈ seen, ok x = true → before x b = false
theorem earlier_irr : ∀ a : List Nat, earlier a a = false
  | [] => rfl
  | a :: as => by simp only [earlier, if_true]; exact earlier_irr as
/-- THE LAW: where the lists in order hold the same sets, the first good one is the best one. -/
theorem best_is_first {ok : List Nat → Bool} {seen order : List (List Nat)} {best : Option (List Nat)} (hs : order.Pairwise (fun a b => before a b = true)) (hm : ∀ x, x ∈ order ↔ x ∈ seen) (h : BestOf ok seen best) : order.find? ok = best := by
  cases best with
  | none =>
    rw [List.find?_eq_none]
    intro x hx
    rw [h x ((hm x).1 hx)]
    simp
  | some b =>
    obtain ⟨h1, h2, h3⟩ := h
    have hb : b ∈ order := (hm b).2 h1
    cases hf : order.find? ok with
    | none =>
      rw [List.find?_eq_none] at hf
      exact absurd h2 (hf b hb)
    | some y =>
      obtain ⟨hy, as, bs, rfl, hno⟩ := List.find?_eq_some_iff_append.1 hf
      rcases List.mem_append.1 hb with hb | hb
      · have := hno b hb
        rw [h2] at this
        simp at this
      · rcases List.mem_cons.1 hb with rfl | hb
        · rfl
        · have h4 : before y b = true := by
            rw [List.pairwise_append] at hs
            exact (List.pairwise_cons.1 hs.2.1).1 b hb
          rw [h3 y ((hm y).1 (by simp)) hy] at h4
          cases h4
/-! ### The sets in order, and as a number's bits tell them -/
def incr (n : Nat) : Nat → List Nat → Prop
  | _, [] => True
  | lo, a :: as => lo ≤ a ∧ a < n ∧ incr n (a + 1) as
def combs (n : Nat) : Nat → Nat → List (List Nat)
  | 0, _ => [[]]
  | s + 1, lo => (List.range (n - lo)).flatMap fun d => (combs n s (lo + d + 1)).map (fun l => (lo + d) :: l)
theorem mem_combs {n : Nat} : ∀ (s lo : Nat) (x : List Nat), x ∈ combs n s lo ↔ x.length = s ∧ incr n lo x
  | 0, lo, x => by
    cases x with
    | nil => simp [combs, incr]
    | cons a as => simp [combs]
  | s + 1, lo, x => by
    simp only [combs, List.mem_flatMap, List.mem_range, List.mem_map]
    constructor
    · rintro ⟨d, hd, l, hl, rfl⟩
      obtain ⟨h1, h2⟩ := (mem_combs s _ l).1 hl
      exact ⟨by simp [h1], by omega, by omega, h2⟩
    · rintro ⟨h1, h2⟩
      cases x with
      | nil => simp at h1
      | cons a as =>
        obtain ⟨h3, h4, h5⟩ := h2
        refine ⟨a - lo, by omega, as, (mem_combs s _ as).2 ⟨by simpa using h1, ?_⟩, ?_⟩
        · rw [show lo + (a - lo) + 1 = a + 1 by omega]; exact h5
        · rw [show lo + (a - lo) = a by omega]
theorem combs_sorted {n : Nat} : ∀ (s lo : Nat), (combs n s lo).Pairwise (fun a b => earlier a b = true)
  | 0, lo => by simp [combs]
  | s + 1, lo => by
    simp only [combs]
    rw [List.pairwise_flatMap]
    refine ⟨fun d _ => ?_, ?_⟩
    · rw [List.pairwise_map]
      refine (combs_sorted s (lo + d + 1)).imp fun {a b} h => ?_
      simp only [earlier, if_true]
      exact h
    · refine List.Pairwise.imp (R := fun a b => a < b) ?_ List.pairwise_lt_range
      intro a b hab x hx y hy
      obtain ⟨x', _, rfl⟩ := List.mem_map.1 hx
      obtain ⟨y', _, rfl⟩ := List.mem_map.1 hy
      have hne : lo + a ≠ lo + b := by omega
      simp only [earlier, hne, if_false, decide_eq_true_eq]
      omega
/-- all sets of numbers below n: the smaller ones first -/
def order (n : Nat) : List (List Nat) := (List.range (n + 1)).flatMap fun s => combs n s 0
theorem order_sorted (n : Nat) : (order n).Pairwise (fun a b => before a b = true) := by
  unfold order
  rw [List.pairwise_flatMap]
  refine ⟨fun s _ => ?_, ?_⟩
  · refine List.Pairwise.imp_of_mem ?_ (combs_sorted (n := n) s 0)
    intro a b ha hb h
    have h1 := ((mem_combs s 0 a).1 ha).1
    have h2 := ((mem_combs s 0 b).1 hb).1
    simp [before, h, h1, h2]
  · refine List.Pairwise.imp (R := fun a b => a < b) ?_ List.pairwise_lt_range
    intro s t hst x hx y hy
    have h1 := ((mem_combs s 0 x).1 hx).1
    have h2 := ((mem_combs t 0 y).1 hy).1
    have : x.length < y.length := by omega
    simp [before, this]
theorem incr_len {n : Nat} : ∀ (lo : Nat) (x : List Nat), incr n lo x → x.length ≤ n - lo
  | lo, [], _ => by simp
  | lo, a :: as, ⟨h1, h2, h3⟩ => by
    have := incr_len (a + 1) as h3
    simp only [List.length_cons]
    omega
theorem mem_order {n : Nat} (x : List Nat) : x ∈ order n ↔ incr n 0 x := by
  simp only [order, List.mem_flatMap, List.mem_range]
  constructor
  · rintro ⟨s, _, h⟩; exact ((mem_combs s 0 x).1 h).2
  · intro h
    have := incr_len 0 x h
    exact ⟨x.length, by omega, (mem_combs _ 0 x).2 ⟨rfl, h⟩⟩
/-- the numbers of the bits that are set, of the first k -/
def listed (m : Nat) : Nat → Nat → List Nat
  | _, 0 => []
  | lo, k + 1 => if m.testBit lo then lo :: listed m (lo + 1) k else listed m (lo + 1) k
theorem listed_incr {m n : Nat} (hm : m < 2 ^ n) : ∀ (k lo : Nat), incr n lo (listed m lo k)
  | 0, lo => trivial
  | k + 1, lo => by
    have ih := listed_incr hm k (lo + 1)
    have mono : ∀ (l : List Nat) (a b : Nat), a ≤ b → incr n b l → incr n a l := by
      intro l a b hab h
      cases l with
      | nil => trivial
      | cons c cs => exact ⟨by have := h.1; omega, h.2⟩
    simp only [listed]
    split
    · rename_i hb
      refine ⟨Nat.le_refl _, ?_, ih⟩
      have := Nat.ge_two_pow_of_testBit hb
      rcases Nat.lt_or_ge lo n with h | h
      · exact h
      · have := Nat.pow_le_pow_right (show 0 < 2 by omega) h
        omega
    · exact mono _ _ _ (by omega) ih
/-- the number whose bits are a list's -/
def mask : List Nat → Nat
  | [] => 0
  | a :: as => 2 ^ a ||| mask as
theorem mask_bit : ∀ (x : List Nat) (i : Nat), (mask x).testBit i = decide (i ∈ x)
  | [], i => by simp [mask]
  | a :: as, i => by
    simp only [mask, Nat.testBit_or, mask_bit as i, Nat.testBit_two_pow, List.mem_cons]
    by_cases h : a = i
    · subst h; simp
    · have h' : ¬ i = a := fun e => h e.symm
      simp [h, h']
theorem mask_lt {n : Nat} : ∀ (lo : Nat) (x : List Nat), incr n lo x → mask x < 2 ^ n
  | _, [], _ => Nat.two_pow_pos n
  | lo, a :: as, ⟨_, h2, h3⟩ => by
    refine Nat.or_lt_two_pow ?_ (mask_lt (a + 1) as h3)
    exact Nat.pow_lt_pow_right (by omega) h2
theorem incr_ge {n : Nat} : ∀ (lo : Nat) (x : List Nat), incr n lo x → ∀ i ∈ x, lo ≤ i
  | _, [], _, i, hi => by simp at hi
  | lo, a :: as, ⟨h1, _, h3⟩, i, hi => by
    rcases List.mem_cons.1 hi with rfl | hi
    · exact h1
    · have := incr_ge (a + 1) as h3 i hi
      omega
theorem listed_eq {n m : Nat} : ∀ (k lo : Nat) (x : List Nat), incr n lo x → (∀ i, lo ≤ i → m.testBit i = decide (i ∈ x)) → n ≤ lo + k → listed m lo k = x
  | 0, lo, x, h, _, hn => by
    cases x with
    | nil => rfl
    | cons a as => obtain ⟨h1, h2, _⟩ := h; omega
  | k + 1, lo, x, h, hb, hn => by
    simp only [listed, hb lo (Nat.le_refl _), decide_eq_true_eq]
    split
    · rename_i hlo
      cases x with
      | nil => simp at hlo
      | cons a as =>
        obtain ⟨h1, h2, h3⟩ := h
        have ha : a = lo := by
          rcases List.mem_cons.1 hlo with e | hlo
          · exact e.symm
          · have := incr_ge (a + 1) as h3 lo hlo
            omega
        subst ha
        rw [listed_eq k (a + 1) as h3 (fun i hi => ?_) (by omega)]
        rw [hb i (by omega)]
        have hne : ¬ i = a := by omega
        simp [hne]
    · rename_i hlo
      refine listed_eq (n := n) k (lo + 1) x ?_ (fun i hi => hb i (Nat.le_of_succ_le hi)) (by omega)
      cases x with
      | nil => trivial
      | cons a as =>
        obtain ⟨h1, h2, h3⟩ := h
        refine ⟨?_, h2, h3⟩
        have : a ≠ lo := by rintro rfl; exact hlo (by simp)
        omega
/-- all sets as the reference lists them -/
def seen (n : Nat) : List (List Nat) := (List.range (2 ^ n)).map (fun m => listed m 0 10)
theorem mem_seen {n : Nat} (hn : n ≤ 10) (x : List Nat) : x ∈ seen n ↔ incr n 0 x := by
  simp only [seen, List.mem_map, List.mem_range]
  constructor
  · rintro ⟨m, hm, rfl⟩; exact listed_incr hm 10 0
  · intro h
    exact ⟨mask x, mask_lt 0 x h, listed_eq 10 0 x h (fun i _ => mask_bit x i) (by omega)⟩
theorem order_is_seen {n : Nat} (hn : n ≤ 10) (x : List Nat) : x ∈ order n ↔ x ∈ seen n := by rw [mem_order, mem_seen hn]
/-- THE LAW OF THE BAGS: the first good set in order is the one that a pass over all sets keeps -/
theorem first_is_best {n : Nat} {ok : List Nat → Bool} {best : Option (List Nat)} (hn : n ≤ 10) (h : BestOf ok (seen n) best) : (order n).find? ok = best :=
  best_is_first (order_sorted n) (fun x => order_is_seen hn x) h
/-! ### One list behind the other, as the program makes them -/
/-- the list that follows -/
def next (n : Nat) : List Nat → Option (List Nat)
  | [] => none
  | a :: as => match next n as with
    | some as' => some (a :: as')
    | none => if a + 1 + as.length < n then some (List.range' (a + 1) (as.length + 1)) else none
/-- each list is followed by the next one, the last one by o -/
def Run (n : Nat) : List (List Nat) → Option (List Nat) → Prop
  | [], _ => True
  | [l], o => next n l = o
  | l :: l' :: r, o => next n l = some l' ∧ Run n (l' :: r) o
theorem run_append {n : Nat} : ∀ (M L : List (List Nat)) (h o), M ≠ [] → Run n M (some h) → Run n (h :: L) o → Run n (M ++ h :: L) o
  | [], _, _, _, hM, _, _ => absurd rfl hM
  | [l], L, h, o, _, h1, h2 => ⟨h1, h2⟩
  | l :: l' :: r, L, h, o, _, h1, h2 => ⟨h1.1, run_append (l' :: r) L h o (by simp) h1.2 h2⟩
theorem run_map {n a s : Nat} : ∀ (M : List (List Nat)), (∀ l ∈ M, l.length = s) → M ≠ [] → Run n M none → Run n (M.map (fun l => a :: l)) (if a + 1 + s < n then some (List.range' (a + 1) (s + 1)) else none)
  | [], _, hM, _ => absurd rfl hM
  | [l], hl, _, h => by
    have h1 : next n l = none := h
    have h2 := hl l (by simp)
    show next n (a :: l) = _
    simp only [next, h1, h2]
  | l :: l' :: r, hl, _, h => by
    refine ⟨?_, run_map (l' :: r) (fun x hx => hl x (by simp at hx ⊢; right; exact hx)) (by simp) h.2⟩
    simp only [next, h.1]
theorem combs_len {n : Nat} : ∀ (s lo : Nat), ∀ l ∈ combs n s lo, l.length = s
  | 0, lo, l, h => by simp [combs] at h; simp [h]
  | s + 1, lo, l, h => by
    simp only [combs, List.mem_flatMap, List.mem_map] at h
    obtain ⟨d, _, l', h', rfl⟩ := h
    simp [combs_len s _ l' h']
theorem combs_succ {n : Nat} (s lo : Nat) (h : lo < n) : combs n (s + 1) lo = (combs n s (lo + 1)).map (fun l => lo :: l) ++ combs n (s + 1) (lo + 1) := by
  simp only [combs]
  rw [show n - lo = (n - (lo + 1)) + 1 by omega, List.range_succ_eq_map, List.flatMap_cons, List.flatMap_map]
  congr 1
  congr 1
  funext d
  simp only [Nat.succ_eq_add_one]
  rw [show lo + (d + 1) = lo + 1 + d by omega]
theorem combs_none {n : Nat} : ∀ (s lo : Nat), n < lo + (s + 1) → combs n (s + 1) lo = []
  | 0, lo, h => by
    simp only [combs]
    rw [show n - lo = 0 by omega]
    rfl
  | s + 1, lo, h => by
    rw [combs]
    rw [List.flatMap_eq_nil_iff]
    intro d hd
    rw [List.map_eq_nil_iff]
    exact combs_none s (lo + d + 1) (by omega)
theorem combs_run_lo {n s : Nat} (ih : ∀ lo, lo + s ≤ n → ∃ r, combs n s lo = List.range' lo s :: r ∧ Run n (List.range' lo s :: r) none) : ∀ (k lo : Nat), n - lo = k → lo + (s + 1) ≤ n →
    ∃ r, combs n (s + 1) lo = List.range' lo (s + 1) :: r ∧ Run n (List.range' lo (s + 1) :: r) none
  | 0, lo, hk, h => by omega
  | k + 1, lo, hk, h => by
    obtain ⟨r1, e1, h1⟩ := ih (lo + 1) (by omega)
    have hm := run_map (a := lo) (s := s) (List.range' (lo + 1) s :: r1) (fun l hl => combs_len s (lo + 1) l (by rw [e1]; exact hl)) (by simp) h1
    have hr : List.range' lo (s + 1) = lo :: List.range' (lo + 1) s := by rw [List.range'_succ]
    by_cases hc : lo + 1 + s < n
    · obtain ⟨r2, e2, h2⟩ := combs_run_lo ih k (lo + 1) (by omega) (by omega)
      rw [if_pos hc] at hm
      refine ⟨r1.map (fun l => lo :: l) ++ (List.range' (lo + 1) (s + 1) :: r2), ?_, ?_⟩
      · rw [combs_succ s lo (by omega), e1, e2, hr]; rfl
      · have := run_append _ r2 _ none (by simp) hm h2
        rw [hr]
        exact this
    · rw [if_neg hc] at hm
      refine ⟨r1.map (fun l => lo :: l), ?_, ?_⟩
      · rw [combs_succ s lo (by omega), e1, combs_none s (lo + 1) (by omega), hr]; simp
      · rw [hr]; exact hm
/-- THE LAW OF THE NEXT ONE: all lists of s numbers below n are a run from the first one -/
theorem combs_run {n : Nat} : ∀ (s lo : Nat), lo + s ≤ n → ∃ r, combs n s lo = List.range' lo s :: r ∧ Run n (List.range' lo s :: r) none
  | 0, lo, _ => ⟨[], by simp [combs], rfl⟩
  | s + 1, lo, h => combs_run_lo (fun lo hl => combs_run s lo hl) (n - lo) lo rfl h
/-- nothing follows a list that stands at the end -/
theorem next_none {n : Nat} : ∀ (lo : Nat) (l : List Nat), incr n lo l → (∀ (i : Nat) (h : i < l.length), l[i] = n - l.length + i) → next n l = none
  | _, [], _, _ => rfl
  | lo, a :: as, hi, h => by
    obtain ⟨_, h2, h3⟩ := hi
    have hl := incr_len (a + 1) as h3
    have h0 := h 0 (by simp)
    simp only [List.getElem_cons_zero, List.length_cons] at h0
    have ih := next_none (a + 1) as h3 (fun i hi => by
      have := h (i + 1) (by simp; omega)
      simp only [List.getElem_cons_succ, List.length_cons] at this
      omega)
    simp only [next, ih]
    rw [if_neg (by omega)]
/-- what follows: the last number that can grow, grown by one, and the rest close behind it -/
theorem next_some {n : Nat} : ∀ (lo : Nat) (l : List Nat), incr n lo l → ∀ (i : Nat) (hi : i < l.length), l[i] ≠ n - l.length + i → (∀ (j : Nat) (h : j < l.length), i < j → l[j] = n - l.length + j) →
    next n l = some (l.take i ++ List.range' (l[i] + 1) (l.length - i))
  | _, [], _, i, hi, _, _ => by simp at hi
  | lo, a :: as, hin, 0, hi, hne, h => by
    obtain ⟨_, h2, h3⟩ := hin
    have hl := incr_len (a + 1) as h3
    have ih := next_none (a + 1) as h3 (fun i hi => by
      have := h (i + 1) (by simp; omega) (by omega)
      simp only [List.getElem_cons_succ, List.length_cons] at this
      omega)
    simp only [List.getElem_cons_zero, List.length_cons] at hne
    simp only [next, ih]
    rw [if_pos (by omega)]
    simp
  | lo, a :: as, hin, i + 1, hi, hne, h => by
    obtain ⟨_, h2, h3⟩ := hin
    have hl := incr_len (a + 1) as h3
    simp only [List.length_cons] at hi
    have ih := next_some (a + 1) as h3 i (by omega) (by
      simp only [List.getElem_cons_succ, List.length_cons] at hne
      omega) (fun j hj hij => by
      have := h (j + 1) (by simp; omega) (by omega)
      simp only [List.getElem_cons_succ, List.length_cons] at this
      omega)
    simp only [next, ih]
    simp
end Bal.Trim

/-
  The bags: the loads that stay, the first good set; runs of lists; a number's bits. Plain Lean.
-/
namespace Bal.Trim
set_option linter.unusedVariables false
theorem run_at {n : Nat} : ∀ (pre : List (List Nat)) (x : List Nat) (rest : List (List Nat)), Run n (pre ++ x :: rest) none → next n x = rest.head?
  | [], x, [], h => h
  | [], x, y :: r, h => h.1
  | [p], x, rest, h => run_at [] x rest h.2
  | p :: q :: pre, x, rest, h => run_at (q :: pre) x rest h.2
theorem combs_next {n s : Nat} (hs : s ≤ n) {pre rest : List (List Nat)} {x : List Nat} (h : combs n s 0 = pre ++ x :: rest) : next n x = rest.head? := by
  obtain ⟨r, he, hr⟩ := combs_run (n := n) s 0 (by omega)
  rw [← he, h] at hr
  exact run_at pre x rest hr
theorem combs_first {n s : Nat} (hs : s ≤ n) : ∃ r, combs n s 0 = List.range s :: r := by
  obtain ⟨r, he, _⟩ := combs_run (n := n) s 0 (by omega)
  exact ⟨r, by rw [he, List.range_eq_range']⟩
theorem combs_nodup (n s : Nat) : (combs n s 0).Nodup :=
  (combs_sorted (n := n) s 0).imp fun {a b} h e => by subst e; rw [earlier_irr] at h; cases h
def leftOf (L : List (List Nat)) (x : List Nat) : Nat := (L.dropWhile (fun y => decide (y ≠ x))).length
theorem leftOf_at {L pre rest : List (List Nat)} {x : List Nat} (hd : L.Nodup) (h : L = pre ++ x :: rest) : leftOf L x = rest.length + 1 := by
  subst h
  have hx : ∀ y ∈ pre, decide (y ≠ x) = true := fun y hy => by
    rw [decide_eq_true_eq]
    rintro rfl
    exact (List.nodup_append.1 hd).2.2 y hy y (by simp) rfl
  unfold leftOf
  rw [List.dropWhile_append_of_pos hx]
  simp
theorem incr_lt {n : Nat} : ∀ (lo : Nat) (x : List Nat), incr n lo x → ∀ i ∈ x, i < n
  | _, [], _, i, hi => by simp at hi
  | lo, a :: as, ⟨_, h2, h3⟩, i, hi => by
    rcases List.mem_cons.1 hi with rfl | hi
    · exact h2
    · exact incr_lt (a + 1) as h3 i hi
theorem comb_mem {n s : Nat} {pre rest : List (List Nat)} {x : List Nat} (h : combs n s 0 = pre ++ x :: rest) : x.length = s ∧ incr n 0 x := (mem_combs s 0 x).1 (by rw [h]; simp)
/-- the list half turned: from p on q + 1, q + 2 .. up to k -/
def mid (x : List Nat) (p q k : Nat) : List Nat := x.take p ++ List.range' (q + 1) (k - p) ++ x.drop k
theorem mid_len {x : List Nat} {p q k : Nat} (h1 : p ≤ k) (h2 : k ≤ x.length) : (mid x p q k).length = x.length := by
  simp [mid]; omega
theorem mid_at {x : List Nat} {p q k : Nat} (h1 : p < k) (h2 : k ≤ x.length) (h3 : k - 1 < (mid x p q k).length) : (mid x p q k)[k - 1] = q + (k - p) := by
  have h : (mid x p q k)[k - 1]? = some (q + (k - p)) := by
    unfold mid
    rw [List.getElem?_append_left (by simp; omega), List.getElem?_append_right (by simp; omega), List.getElem?_range' (by simp; omega)]
    simp
    omega
  exact (List.getElem?_eq_some_iff.1 h).2
theorem mid_start {x : List Nat} {p q : Nat} (h : p < x.length) : x.set p (q + 1) = mid x p q (p + 1) := by
  unfold mid
  rw [List.set_eq_take_append_cons_drop, if_pos h, show p + 1 - p = 1 by omega]
  simp
theorem mid_set {x : List Nat} {p q k : Nat} (h1 : p < k) (h2 : k < x.length) : (mid x p q k).set k (q + (k - p) + 1) = mid x p q (k + 1) := by
  unfold mid
  have hl : (x.take p ++ List.range' (q + 1) (k - p)).length = k := by simp; omega
  rw [List.set_append, if_neg (by omega), hl, Nat.sub_self, List.drop_eq_getElem_cons h2, List.set_cons_zero, show k + 1 - p = (k - p) + 1 by omega, List.range'_concat]
  simp
  omega
theorem mid_end {x : List Nat} {p q : Nat} : mid x p q x.length = x.take p ++ List.range' (q + 1) (x.length - p) := by simp [mid]
/-! ### A number's bits -/
/-! ### The loads that stay -/
def exactL (p : Put) : Load := ⟨p.pos, p.pos, p.wt, p.wt⟩
def bagB (p : Put) : Bool := inB p.pos (-20000) 20000 && inB p.wt 1 1000000
def stay (bs : List Put) (f : Nat → Bool) : Nat → List Load
  | 0 => []
  | k + 1 => stay bs f k ++ (if f k then [] else match bs[k]? with | some b => [exactL b] | none => [])
theorem stay_drop {bs : List Put} {f : Nat → Bool} {k : Nat} (h : f k = true) : stay bs f (k + 1) = stay bs f k := by simp [stay, h]
theorem stay_keep {bs : List Put} {f : Nat → Bool} {k : Nat} (hk : k < bs.length) (h : f k = false) : stay bs f (k + 1) = stay bs f k ++ [exactL bs[k]] := by simp [stay, h, hk]
theorem stay_len (bs : List Put) (f : Nat → Bool) : ∀ k, (stay bs f k).length ≤ k
  | 0 => Nat.le_refl _
  | k + 1 => by
    have := stay_len bs f k
    simp only [stay, List.length_append]
    split
    · simp; omega
    · split <;> simp <;> omega
theorem exact_B {p : Put} (h : bagB p = true) : loadB (exactL p) = true := by
  simp only [bagB, inB, Bool.and_eq_true, decide_eq_true_eq] at h
  show (spanB p.pos p.pos 20000 && spanB p.wt p.wt 1073741824) = true
  simp only [spanB, Bool.and_eq_true, decide_eq_true_eq]
  omega
theorem stay_B {bs : List Put} {f : Nat → Bool} (h : ∀ p ∈ bs, bagB p = true) : ∀ k, ∀ x ∈ stay bs f k, loadB x = true
  | 0, x, hx => by simp [stay] at hx
  | k + 1, x, hx => by
    simp only [stay, List.mem_append] at hx
    rcases hx with hx | hx
    · exact stay_B h k x hx
    · split at hx
      · simp at hx
      · split at hx
        · rename_i b hb
          simp at hx; subst hx
          exact exact_B (h b (List.mem_of_getElem? hb))
        · simp at hx
def left (xs : List Load) (bs : List Put) (x : List Nat) : List Load := xs ++ stay bs (fun i => decide (i ∈ x)) bs.length
def okSet (xs : List Load) (bs : List Put) (ms : List Limit) (x : List Nat) : Bool := (broken (left xs bs x) ms).isNone
def many (xs : List Load) (bs : List Put) : Bool := decide (10 < bs.length) || decide (40 < xs.length + bs.length)
def dropS (xs : List Load) (bs : List Put) (ms : List Limit) : Option (List Nat) := (order bs.length).find? (okSet xs bs ms)
theorem find_flat {α : Type} (ok : α → Bool) (f : Nat → List α) : ∀ (k lo n : Nat), (∀ s, lo ≤ s → s < lo + k → ∀ y ∈ f s, ok y = false) → ((List.range' lo (k + n)).flatMap f).find? ok = ((List.range' (lo + k) n).flatMap f).find? ok
  | 0, lo, n, _ => by simp
  | k + 1, lo, n, h => by
    rw [show k + 1 + n = (k + n) + 1 by omega, List.range'_succ, List.flatMap_cons, List.find?_append, List.find?_eq_none.2 (fun y hy => by rw [h lo (by omega) (by omega) y hy]; simp), Option.none_or]
    rw [find_flat ok f k (lo + 1) n (fun s h1 h2 => h s (by omega) (by omega)), show lo + 1 + k = lo + (k + 1) by omega]
theorem drop_none {ok : List Nat → Bool} {n : Nat} (h : ∀ s, s < n + 1 → ∀ y ∈ combs n s 0, ok y = false) : (order n).find? ok = none := by
  rw [List.find?_eq_none]
  intro x hx
  simp only [order, List.mem_flatMap, List.mem_range] at hx
  obtain ⟨s, hs, hx⟩ := hx
  rw [h s hs x hx]
  simp
theorem drop_found {ok : List Nat → Bool} {n k : Nat} {pre rest : List (List Nat)} {x : List Nat} (hk : k < n + 1) (h : ∀ s, s < k → ∀ y ∈ combs n s 0, ok y = false) (hL : combs n k 0 = pre ++ x :: rest) (hp : ∀ y ∈ pre, ok y = false) (hx : ok x = true) : (order n).find? ok = some x := by
  unfold order
  rw [List.range_eq_range', show n + 1 = k + (n + 1 - k) by omega, find_flat ok _ k 0 _ (fun s _ hs => h s (by omega)), show n + 1 - k = (n - k) + 1 by omega, Nat.zero_add, List.range'_succ, List.flatMap_cons, hL]
  rw [List.append_assoc, List.find?_append, List.find?_eq_none.2 (fun y hy => by rw [hp y hy]; simp), Option.none_or]
  simp [hx]
def dropE (xs : List Load) (bs : List Put) (ms : List Limit) : Int :=
  if both xs ms = 0 then (if many xs bs then 4 else if bs.all bagB then (match dropS xs bs ms with | some _ => 0 | none => 6) else 40) else both xs ms
def dropL (xs : List Load) (bs : List Put) (ms : List Limit) : List Int :=
  if dropE xs bs ms = 0 then (match dropS xs bs ms with | some x => x.map Int.ofNat | none => []) else []
end Bal.Trim

/-
  Stowages: what the document says of them, and a search with pruning: plain Lean, no program in sight.
-/
namespace Bal.Trim
def holdB (h : Hold) : Bool := inB h.pos (-20000) 20000 && inB h.room 0 1073741824
def parcelB (p : Parcel) : Bool := inB p.wt 1 1000000 && inB p.cls 0 9
def ruleB (r : Rule) : Bool := inB r.a 0 9 && inB r.b 0 9 && inB r.apart 1 5
/-- what is to be stowed, and how -/
structure Fr where
  xs : List Load
  hs : List Hold
  ps : List Parcel
  rs : List Rule
  ms : List Limit
def frMany (F : Fr) : Bool := decide (5 < F.hs.length) || decide (6 < F.ps.length) || decide (20 < F.rs.length) || decide (40 < F.xs.length + F.ps.length)
def frB (F : Fr) : Bool := F.hs.all holdB && F.ps.all parcelB && F.rs.all ruleB
def frE (F : Fr) : Int := if both F.xs F.ms = 0 then (if frMany F then 4 else if frB F then 0 else 43) else both F.xs F.ms
def ruleHit (a b d : Int) (r : Rule) : Bool := decide (d < r.apart) && ((decide (r.a = a) && decide (r.b = b)) || (decide (r.a = b) && decide (r.b = a)))
def nearB (rs : List Rule) (a b d : Int) : Bool := rs.any (ruleHit a b d)
theorem ruleHit_comm (a b d : Int) (r : Rule) : ruleHit a b d r = ruleHit b a d r := by
  unfold ruleHit
  rw [Bool.or_comm]
theorem nearB_comm (rs : List Rule) (a b d : Int) : nearB rs a b d = nearB rs b a d := by
  unfold nearB
  congr 1
  funext r
  exact ruleHit_comm a b d r
def gap (i k : Int) : Int := max (i - k) (k - i)
theorem gap_comm (i k : Int) : gap i k = gap k i := by unfold gap; omega
def psAt (F : Fr) (i : Nat) : Parcel := F.ps.getD i default
def hsAt (F : Fr) (i : Nat) : Hold := F.hs.getD i default
/-- the weight in a hold -/
def wtIn (ps : List Parcel) (s : List Nat) (k : Nat) : Int := sumBy (fun x : Nat × Parcel => if x.1 = k then x.2.wt else 0) (s.zip ps)
def leftIn (F : Fr) (s : List Nat) (k : Nat) : Int := (hsAt F k).room - wtIn F.ps s k
def roomsOk (F : Fr) (s : List Nat) : Bool := (List.range F.hs.length).all fun k => decide (0 ≤ leftIn F s k)
/-- whether the next parcel would be too near in a hold -/
def nearAt (F : Fr) (s : List Nat) (n : Nat) (k : Int) (i : Nat) : Bool := nearB F.rs (psAt F i).cls (psAt F n).cls (gap (s.getD i 0 : Nat) k)
def nearNew (F : Fr) (s : List Nat) (k : Nat) : Bool := (List.range s.length).any (nearAt F s s.length k)
def nearAny (F : Fr) (s : List Nat) : Bool := (List.range s.length).any fun i => (List.range i).any (nearAt F s i (s.getD i 0 : Nat))
def puts (F : Fr) (s : List Nat) : List Load := (s.zip F.ps).map fun x => exactL ⟨(hsAt F x.1).pos, x.2.wt⟩
def offB (F : Fr) (s : List Nat) : Bool := (broken (F.xs ++ puts F s) F.ms).isSome
def faultS (F : Fr) (s : List Nat) : Int := if roomsOk F s then (if nearAny F s then 45 else if offB F s then 46 else 0) else 44
def argS (F : Fr) (t : List Int) : Bool := decide (t.length = F.ps.length) && t.all fun k => inB k 0 (F.hs.length - 1)
def checkStowE (F : Fr) (t : List Int) : Int := if frE F = 0 then (if argS F t then faultS F (t.map Int.toNat) else 2) else frE F
def lex (H : Nat) : Nat → List (List Nat)
  | 0 => [[]]
  | m + 1 => (List.range H).flatMap fun k => (lex H m).map (k :: ·)
def okS (F : Fr) (s : List Nat) : Bool := decide (faultS F s = 0)
def stowS (F : Fr) : Option (List Nat) := (lex F.hs.length F.ps.length).find? (okS F)
def stowE (F : Fr) : Int := if frE F = 0 then (match stowS F with | some _ => 0 | none => 6) else frE F
def stowL (F : Fr) : List Int := if frE F = 0 then (match stowS F with | some s => s.map Int.ofNat | none => []) else []
def goodS (F : Fr) (s : List Nat) : Bool := roomsOk F s && !nearAny F s
def fitS (F : Fr) (s : List Nat) (k : Nat) : Bool := decide (0 ≤ leftIn F (s ++ [k]) k) && !nearNew F s k
/-- the search: parcel by parcel, with those holds alone that fit -/
def search (F : Fr) : Nat → List Nat → Option (List Nat)
  | 0, s => if offB F s then none else some s
  | m + 1, s => (List.range F.hs.length).findSome? fun k => if fitS F s k then search F m (s ++ [k]) else none
theorem zip_snoc {ps : List Parcel} {s : List Nat} (k : Nat) (h : s.length < ps.length) : (s ++ [k]).zip ps = s.zip ps ++ [(k, ps[s.length])] := by
  induction s generalizing ps with
  | nil =>
    cases ps with
    | nil => simp at h
    | cons p ps => simp
  | cons x s ih =>
    cases ps with
    | nil => simp at h
    | cons p ps =>
      simp only [List.cons_append, List.zip_cons_cons, List.length_cons, List.getElem_cons_succ]
      rw [ih (by simpa using h)]
theorem wtIn_snoc {ps : List Parcel} {s : List Nat} (k j : Nat) (h : s.length < ps.length) : wtIn ps (s ++ [k]) j = wtIn ps s j + if k = j then ps[s.length].wt else 0 := by
  unfold wtIn
  rw [zip_snoc k h, sumBy_append, sumBy_cons, sumBy_nil]
  simp
theorem getD_snoc {s : List Nat} {i k : Nat} (h : i < s.length) : (s ++ [k]).getD i 0 = s.getD i 0 := by
  simp [List.getD_eq_getElem?_getD, List.getElem?_append_left h]
theorem any_congr {α : Type} {l : List α} {f g : α → Bool} (h : ∀ x ∈ l, f x = g x) : l.any f = l.any g := by
  induction l with
  | nil => rfl
  | cons x l ih => rw [List.any_cons, List.any_cons, h x (by simp), ih fun y hy => h y (by simp [hy])]
theorem nearAny_snoc (F : Fr) (s : List Nat) (k : Nat) : nearAny F (s ++ [k]) = (nearAny F s || nearNew F s k) := by
  unfold nearAny nearNew
  rw [List.length_append, List.length_singleton, List.range_succ, List.any_append]
  congr 1
  · apply any_congr
    intro i hi
    have hi : i < s.length := by simpa using hi
    rw [getD_snoc hi]
    apply any_congr
    intro j hj
    have hj : j < i := by simpa using hj
    unfold nearAt
    rw [getD_snoc (by omega)]
  · simp only [List.any_cons, List.any_nil, Bool.or_false]
    rw [show (s ++ [k]).getD s.length 0 = k by simp [List.getD_eq_getElem?_getD]]
    apply any_congr
    intro j hj
    have hj : j < s.length := by simpa using hj
    unfold nearAt
    rw [getD_snoc hj]
theorem rooms_snoc {F : Fr} (hw : ∀ p ∈ F.ps, 0 ≤ p.wt) {s : List Nat} {k : Nat} (hk : k < F.hs.length) (h : s.length < F.ps.length) : roomsOk F (s ++ [k]) = (roomsOk F s && decide (0 ≤ leftIn F (s ++ [k]) k)) := by
  have hp := hw _ (List.getElem_mem h)
  rw [Bool.eq_iff_iff]
  simp only [roomsOk, List.all_eq_true, List.mem_range, Bool.and_eq_true, decide_eq_true_eq]
  have e : ∀ j, leftIn F (s ++ [k]) j = leftIn F s j - if k = j then F.ps[s.length].wt else 0 := fun j => by
    unfold leftIn
    rw [wtIn_snoc k j h]
    omega
  constructor
  · intro hh
    refine ⟨fun j hj => ?_, hh k hk⟩
    have := hh j hj
    rw [e] at this
    split at this <;> omega
  · rintro ⟨h1, h2⟩ j hj
    by_cases hkj : k = j
    · subst hkj; exact h2
    · rw [e, if_neg hkj]
      have := h1 j hj
      omega
theorem good_snoc {F : Fr} (hw : ∀ p ∈ F.ps, 0 ≤ p.wt) {s : List Nat} {k : Nat} (hk : k < F.hs.length) (h : s.length < F.ps.length) : goodS F (s ++ [k]) = (goodS F s && fitS F s k) := by
  unfold goodS fitS
  rw [rooms_snoc hw hk h, nearAny_snoc]
  cases roomsOk F s <;> cases decide (0 ≤ leftIn F (s ++ [k]) k) <;> cases nearAny F s <;> cases nearNew F s k <;> rfl
theorem lex_mem {H : Nat} : ∀ {m : Nat} {t : List Nat}, t ∈ lex H m → t.length = m ∧ ∀ k ∈ t, k < H
  | 0, t, h => by
    have : t = [] := by simpa [lex] using h
    subst this
    simp
  | m + 1, t, h => by
    simp only [lex, List.mem_flatMap, List.mem_range, List.mem_map] at h
    obtain ⟨k, hk, u, hu, rfl⟩ := h
    obtain ⟨h1, h2⟩ := lex_mem hu
    refine ⟨by simp [h1], fun j hj => ?_⟩
    rcases List.mem_cons.1 hj with rfl | hj
    · exact hk
    · exact h2 j hj
theorem ok_good {F : Fr} {s : List Nat} (h : okS F s = true) : goodS F s = true := by
  unfold okS faultS at h
  unfold goodS
  cases h1 : roomsOk F s
  · simp [h1] at h
  · cases h2 : nearAny F s
    · rfl
    · simp [h1, h2] at h
theorem bad_all {F : Fr} (hw : ∀ p ∈ F.ps, 0 ≤ p.wt) : ∀ (t s : List Nat), s.length + t.length = F.ps.length → (∀ k ∈ t, k < F.hs.length) → goodS F s = false → okS F (s ++ t) = false
  | [], s, _, _, hg => by
    cases h : okS F (s ++ [])
    · rfl
    · rw [List.append_nil] at h
      rw [ok_good h] at hg
      cases hg
  | k :: t, s, hl, hk, hg => by
    have h := bad_all hw t (s ++ [k]) (by simp at hl ⊢; omega) (fun j hj => hk j (by simp [hj])) (by rw [good_snoc hw (hk k (by simp)) (by simp at hl; omega), hg]; rfl)
    rwa [List.append_assoc] at h
theorem search_eq {F : Fr} (hw : ∀ p ∈ F.ps, 0 ≤ p.wt) : ∀ (m : Nat) (s : List Nat), s.length + m = F.ps.length → goodS F s = true → search F m s = ((lex F.hs.length m).map (s ++ ·)).find? (okS F)
  | 0, s, hl, hg => by
    unfold search
    have e : okS F s = !offB F s := by
      unfold goodS at hg
      unfold okS faultS
      cases h1 : roomsOk F s
      · simp [h1] at hg
      · cases h2 : nearAny F s
        · cases h3 : offB F s <;> simp
        · simp [h1, h2] at hg
    simp only [lex, List.map_cons, List.map_nil, List.append_nil, List.find?_cons, List.find?_nil, e]
    cases offB F s <;> rfl
  | m + 1, s, hl, hg => by
    unfold search
    rw [lex, List.map_flatMap, List.find?_flatMap]
    have e : ∀ k ∈ List.range F.hs.length, (if fitS F s k = true then search F m (s ++ [k]) else none) = (((lex F.hs.length m).map (k :: ·)).map (s ++ ·)).find? (okS F) := by
      intro k hk
      have hk : k < F.hs.length := by simpa using hk
      have e1 : ((lex F.hs.length m).map (k :: ·)).map (s ++ ·) = (lex F.hs.length m).map ((s ++ [k]) ++ ·) := by
        rw [List.map_map]
        apply List.map_congr_left
        intro t _
        simp
      rw [e1]
      have hgs := good_snoc hw (s := s) hk (by omega)
      rw [hg, Bool.true_and] at hgs
      cases hf : fitS F s k
      · rw [hf] at hgs
        rw [if_neg (by simp), eq_comm, List.find?_eq_none]
        intro x hx
        rw [List.mem_map] at hx
        obtain ⟨t, ht, rfl⟩ := hx
        obtain ⟨h1, h2⟩ := lex_mem ht
        rw [bad_all hw t (s ++ [k]) (by simp; omega) h2 hgs]
        simp
      · rw [hf] at hgs
        rw [if_pos rfl]
        exact search_eq hw m (s ++ [k]) (by simp; omega) hgs
    have key : ∀ (l : List Nat), (∀ k ∈ l, (if fitS F s k = true then search F m (s ++ [k]) else none) = (((lex F.hs.length m).map (k :: ·)).map (s ++ ·)).find? (okS F)) →
        l.findSome? (fun k => if fitS F s k = true then search F m (s ++ [k]) else none) = l.findSome? (fun k => (((lex F.hs.length m).map (k :: ·)).map (s ++ ·)).find? (okS F)) := by
      intro l hl
      induction l with
      | nil => rfl
      | cons k l ih => rw [List.findSome?_cons, List.findSome?_cons, hl k (by simp), ih fun j hj => hl j (by simp [hj])]
    exact key _ e
theorem good_nil {F : Fr} (hh : ∀ h ∈ F.hs, 0 ≤ h.room) : goodS F [] = true := by
  unfold goodS roomsOk nearAny
  simp only [List.length_nil, List.range_zero, List.any_nil, Bool.not_false, Bool.and_true, List.all_eq_true, List.mem_range, decide_eq_true_eq]
  intro k hk
  have e : hsAt F k = F.hs[k] := by simp [hsAt, hk]
  unfold leftIn wtIn
  rw [e]
  have := hh _ (List.getElem_mem hk)
  simpa using this
theorem stow_search {F : Fr} (hw : ∀ p ∈ F.ps, 0 ≤ p.wt) (hh : ∀ h ∈ F.hs, 0 ≤ h.room) : stowS F = search F F.ps.length [] := by
  rw [search_eq hw _ _ (by simp) (good_nil hh)]
  unfold stowS
  simp
/-! ### The stowages by number -/
end Bal.Trim

/-
  Stowages: the steps of the loops that check and find them: plain Lean, no program in sight.
-/
namespace Bal.Trim
structure FrOk (F : Fr) : Prop where
  both : both F.xs F.ms = 0
  hn : F.hs.length ≤ 5
  pn : F.ps.length ≤ 6
  rn : F.rs.length ≤ 20
  ln : F.xs.length + F.ps.length ≤ 40
  hB : ∀ h ∈ F.hs, holdB h = true
  pB : ∀ p ∈ F.ps, parcelB p = true
  rB : ∀ r ∈ F.rs, ruleB r = true
theorem frE_ok {F : Fr} (h : frE F = 0) : FrOk F := by
  unfold frE at h
  by_cases h1 : Bal.Trim.both F.xs F.ms = 0
  · rw [if_pos h1] at h
    cases h2 : frMany F
    · rw [h2, if_neg (by simp)] at h
      cases h3 : frB F
      · rw [h3] at h
        simp at h
      · unfold frMany at h2
        unfold frB at h3
        simp only [Bool.or_eq_false_iff, decide_eq_false_iff_not, Bool.and_eq_true, List.all_eq_true] at h2 h3
        exact ⟨h1, by omega, by omega, by omega, by omega, h3.1.1, h3.1.2, h3.2⟩
    · rw [h2] at h
      simp at h
  · rw [if_neg h1] at h
    exact absurd h h1
theorem hold_bd {h : Hold} (hh : holdB h = true) : -20000 ≤ h.pos ∧ h.pos ≤ 20000 ∧ 0 ≤ h.room ∧ h.room ≤ 1073741824 := by
  simp only [holdB, inB, Bool.and_eq_true, decide_eq_true_eq] at hh
  omega
theorem parcel_bd {p : Parcel} (hh : parcelB p = true) : 1 ≤ p.wt ∧ p.wt ≤ 1000000 ∧ 0 ≤ p.cls ∧ p.cls ≤ 9 := by
  simp only [parcelB, inB, Bool.and_eq_true, decide_eq_true_eq] at hh
  omega
theorem psAt_eq {F : Fr} {i : Nat} (h : i < F.ps.length) : psAt F i = F.ps[i] := by simp [psAt, h]
theorem hsAt_eq {F : Fr} {i : Nat} (h : i < F.hs.length) : hsAt F i = F.hs[i] := by simp [hsAt, h]
theorem wt_ok {F : Fr} (h : FrOk F) : ∀ p ∈ F.ps, 0 ≤ p.wt := fun p hp => by have := parcel_bd (h.pB p hp); omega
theorem room_ok {F : Fr} (h : FrOk F) : ∀ p ∈ F.hs, 0 ≤ p.room := fun p hp => by have := hold_bd (h.hB p hp); omega
theorem left_nil (F : Fr) (k : Nat) : leftIn F [] k = (hsAt F k).room := by simp [leftIn, wtIn]
theorem left_snoc {F : Fr} {s : List Nat} (k j : Nat) (h : s.length < F.ps.length) : leftIn F (s ++ [k]) j = leftIn F s j - if k = j then (psAt F s.length).wt else 0 := by
  unfold leftIn
  rw [wtIn_snoc k j h, psAt_eq h]
  omega
theorem left_same {F : Fr} {s : List Nat} (k : Nat) (h : s.length < F.ps.length) : leftIn F (s ++ [k]) k = leftIn F s k - (psAt F s.length).wt := by
  rw [left_snoc k k h, if_pos rfl]
theorem wtIn_bd {ps : List Parcel} (h : ∀ p ∈ ps, 0 ≤ p.wt ∧ p.wt ≤ 1000000) (s : List Nat) (k : Nat) : 0 ≤ wtIn ps s k ∧ wtIn ps s k ≤ 1000000 * ps.length := by
  unfold wtIn
  have h1 : ∀ x ∈ s.zip ps, 0 ≤ (if x.1 = k then x.2.wt else 0) ∧ (if x.1 = k then x.2.wt else 0) ≤ 1000000 := fun x hx => by
    have := h x.2 (List.of_mem_zip hx).2
    split <;> omega
  have h2 : (s.zip ps).length ≤ ps.length := by rw [List.length_zip]; omega
  have key : ∀ l : List (Nat × Parcel), (∀ x ∈ l, 0 ≤ (if x.1 = k then x.2.wt else 0) ∧ (if x.1 = k then x.2.wt else 0) ≤ 1000000) → 0 ≤ sumBy (fun x : Nat × Parcel => if x.1 = k then x.2.wt else 0) l ∧ sumBy (fun x : Nat × Parcel => if x.1 = k then x.2.wt else 0) l ≤ 1000000 * l.length := by
    intro l hl
    induction l with
    | nil => simp
    | cons x l ih =>
      have h3 := hl x (by simp)
      have h4 := ih fun y hy => hl y (by simp [hy])
      rw [sumBy_cons]
      simp only [List.length_cons]
      omega
  have := key _ h1
  omega
theorem left_bd {F : Fr} (h : FrOk F) (s : List Nat) (k : Nat) : -6000000 ≤ leftIn F s k ∧ leftIn F s k ≤ 1073741824 := by
  have h1 := wtIn_bd (ps := F.ps) (fun p hp => by have := parcel_bd (h.pB p hp); omega) s k
  have h2 := h.pn
  unfold leftIn
  by_cases hk : k < F.hs.length
  · rw [hsAt_eq hk]
    have := hold_bd (h.hB _ (List.getElem_mem hk))
    omega
  · have : hsAt F k = default := by simp [hsAt, List.getD_eq_getElem?_getD, List.getElem?_eq_none (Nat.le_of_not_lt hk)]
    rw [this]
    have : (default : Hold).room = 0 := rfl
    omega
theorem left_out {F : Fr} {s : List Nat} {j : Nat} (hs : ∀ k ∈ s, k < F.hs.length) (hj : F.hs.length ≤ j) : leftIn F s j = 0 := by
  have e : hsAt F j = default := by simp [hsAt, List.getD_eq_getElem?_getD, List.getElem?_eq_none hj]
  have key : ∀ l : List (Nat × Parcel), (∀ x ∈ l, x.1 < F.hs.length) → sumBy (fun x : Nat × Parcel => if x.1 = j then x.2.wt else 0) l = 0 := by
    intro l hl
    induction l with
    | nil => rfl
    | cons x l ih =>
      rw [sumBy_cons, ih fun y hy => hl y (by simp [hy])]
      have := hl x (by simp)
      simp
      omega
  unfold leftIn wtIn
  rw [e, key _ fun x hx => hs x.1 (List.of_mem_zip hx).1]
  rfl
/-! ### The search -/
def stepS (F : Fr) (m : Nat) (s : List Nat) (k : Nat) : Option (List Nat) := if fitS F s k then search F m (s ++ [k]) else none
theorem search_found {F : Fr} {m : Nat} {s : List Nat} {k : Nat} {x : List Nat} (hk : k < F.hs.length) (hno : ∀ j, j < k → stepS F m s j = none) (h : stepS F m s k = some x) : search F (m + 1) s = some x := by
  unfold search
  change (List.range F.hs.length).findSome? (stepS F m s) = some x
  rw [show F.hs.length = k + (1 + (F.hs.length - k - 1)) by omega, List.range_add, List.findSome?_append, List.findSome?_eq_none_iff.2 fun j hj => hno j (by simpa using hj)]
  rw [show 1 + (F.hs.length - k - 1) = (F.hs.length - k - 1) + 1 by omega, List.range_succ_eq_map]
  simp only [List.map_cons, List.findSome?_cons, Nat.add_zero, Option.none_or, h]
theorem search_none {F : Fr} {m : Nat} {s : List Nat} (hno : ∀ j, j < F.hs.length → stepS F m s j = none) : search F (m + 1) s = none := by
  unfold search
  rw [List.findSome?_eq_none_iff]
  intro j hj
  exact hno j (by simpa using hj)
theorem step_room {F : Fr} {m : Nat} {s : List Nat} {k : Nat} (h : leftIn F (s ++ [k]) k < 0) : stepS F m s k = none := by
  unfold stepS fitS
  rw [decide_eq_false (by omega)]
  rfl
theorem step_near {F : Fr} {m : Nat} {s : List Nat} {k i : Nat} (hi : i < s.length) (h : nearAt F s s.length k i = true) : stepS F m s k = none := by
  unfold stepS fitS
  have : nearNew F s k = true := List.any_eq_true.2 ⟨i, by simpa using hi, h⟩
  rw [this]
  simp
theorem step_fit {F : Fr} {m : Nat} {s : List Nat} {k : Nat} (h1 : 0 ≤ leftIn F (s ++ [k]) k) (h2 : ∀ i, i < s.length → nearAt F s s.length k i = false) : stepS F m s k = search F m (s ++ [k]) := by
  unfold stepS fitS
  have : nearNew F s k = false := by
    unfold nearNew
    rw [List.any_eq_false]
    intro i hi
    rw [h2 i (by simpa using hi)]
    simp
  rw [this, decide_eq_true h1]
  rfl
theorem search_done {F : Fr} {s : List Nat} : search F 0 s = if offB F s then none else some s := rfl
/-! ### What is put, one by one -/
theorem puts_len {F : Fr} {s : List Nat} (h : s.length ≤ F.ps.length) : (puts F s).length = s.length := by
  simp [puts, List.length_zip]; omega
theorem puts_take {F : Fr} {s : List Nat} {i : Nat} (hi : i < s.length) (h : s.length ≤ F.ps.length) : (puts F s).take (i + 1) = (puts F s).take i ++ [exactL ⟨(hsAt F s[i]).pos, (psAt F i).wt⟩] := by
  have hl : i < (puts F s).length := by rw [puts_len h]; exact hi
  rw [List.take_succ_eq_append_getElem hl, psAt_eq (by omega)]
  simp [puts]
theorem puts_B {F : Fr} (ho : FrOk F) {s : List Nat} (hs : ∀ k ∈ s, k < F.hs.length) : ∀ y ∈ puts F s, loadB y = true := by
  intro y hy
  simp only [puts, List.mem_map] at hy
  obtain ⟨x, hx, rfl⟩ := hy
  have h1 := hs x.1 (List.of_mem_zip hx).1
  have h2 := parcel_bd (ho.pB x.2 (List.of_mem_zip hx).2)
  have h3 := hold_bd (ho.hB _ (List.getElem_mem h1))
  rw [hsAt_eq h1]
  exact exact_B (by simp only [bagB, inB, Bool.and_eq_true, decide_eq_true_eq]; omega)
theorem puts_both {F : Fr} (ho : FrOk F) {s : List Nat} (hs : ∀ k ∈ s, k < F.hs.length) (hl : s.length ≤ F.ps.length) : both (F.xs ++ puts F s) F.ms = 0 := by
  obtain ⟨h1, h2⟩ := both_ok ho.both
  obtain ⟨h3, h4⟩ := checkLoads_ok h1
  have h5 := ho.ln
  unfold both
  rw [if_pos, h2]
  refine checkList_ok ?_ ?_
  · rw [List.length_append, puts_len hl]; omega
  · rw [List.all_eq_true]
    intro y hy
    rcases List.mem_append.1 hy with hy | hy
    · exact h4 y hy
    · exact puts_B ho hs y hy
/-! ### The check of a stowage -/
theorem rooms_bad {F : Fr} {s : List Nat} {k : Nat} (hk : k < F.hs.length) (h : leftIn F s k < 0) : faultS F s = 44 := by
  have : roomsOk F s = false := by
    unfold roomsOk
    rw [List.all_eq_false]
    exact ⟨k, by simpa using hk, by simp; omega⟩
  unfold faultS
  rw [this]
  rfl
theorem rooms_good {F : Fr} {s : List Nat} (h : ∀ k, k < F.hs.length → 0 ≤ leftIn F s k) : roomsOk F s = true := by
  unfold roomsOk
  rw [List.all_eq_true]
  intro k hk
  exact decide_eq_true (h k (by simpa using hk))
theorem near_bad {F : Fr} {s : List Nat} (h1 : roomsOk F s = true) {i j : Nat} (hi : i < s.length) (hj : j < i) (h : nearAt F s i (s.getD i 0 : Nat) j = true) : faultS F s = 45 := by
  have : nearAny F s = true := List.any_eq_true.2 ⟨i, by simpa using hi, List.any_eq_true.2 ⟨j, by simpa using hj, h⟩⟩
  unfold faultS
  rw [h1, this]
  rfl
theorem near_good {F : Fr} {s : List Nat} (h : ∀ i, i < s.length → ∀ j, j < i → nearAt F s i (s.getD i 0 : Nat) j = false) : nearAny F s = false := by
  unfold nearAny
  rw [List.any_eq_false]
  intro i hi
  rw [Bool.not_eq_true, List.any_eq_false]
  intro j hj
  rw [h i (by simpa using hi) j (by simpa using hj)]
  simp
theorem fault_last {F : Fr} {s : List Nat} (h1 : roomsOk F s = true) (h2 : nearAny F s = false) : faultS F s = if offB F s then 46 else 0 := by
  unfold faultS
  rw [h1, h2]
  rfl
theorem near_eq {F : Fr} {s : List Nat} {i j : Nat} : nearAt F s i (s.getD i 0 : Nat) j = nearB F.rs (psAt F i).cls (psAt F j).cls (gap (s.getD i 0 : Nat) (s.getD j 0 : Nat)) := by
  unfold nearAt
  rw [nearB_comm, gap_comm]
/-! ### What comes in -/
theorem argS_ok {F : Fr} {t : List Int} (h : argS F t = true) : t.length = F.ps.length ∧ ∃ s : List Nat, t = s.map Int.ofNat ∧ t.map Int.toNat = s ∧ ∀ k ∈ s, k < F.hs.length := by
  simp only [argS, Bool.and_eq_true, decide_eq_true_eq, List.all_eq_true] at h
  refine ⟨h.1, t.map Int.toNat, ?_, rfl, ?_⟩
  · rw [List.map_map]
    conv => lhs; rw [← List.map_id t]
    apply List.map_congr_left
    intro x hx
    have := h.2 x hx
    simp only [inB, Bool.and_eq_true, decide_eq_true_eq] at this
    show x = Int.ofNat x.toNat
    rw [Int.ofNat_eq_natCast]
    omega
  · intro k hk
    rw [List.mem_map] at hk
    obtain ⟨x, hx, rfl⟩ := hk
    have := h.2 x hx
    simp only [inB, Bool.and_eq_true, decide_eq_true_eq] at this
    omega
/-! ### The stowages by number, as the reference tries them -/
theorem argS_nat {F : Fr} {s : List Nat} (hl : s.length = F.ps.length) (hs : ∀ k ∈ s, k < F.hs.length) : argS F (s.map Int.ofNat) = true ∧ (s.map Int.ofNat).map Int.toNat = s := by
  constructor
  · simp only [argS, Bool.and_eq_true, decide_eq_true_eq, List.all_eq_true, List.length_map]
    refine ⟨hl, fun x hx => ?_⟩
    obtain ⟨k, hk, rfl⟩ := List.mem_map.1 hx
    have := hs k hk
    simp only [inB, Bool.and_eq_true, decide_eq_true_eq, Int.ofNat_eq_natCast]
    omega
  · rw [List.map_map]
    conv => rhs; rw [← List.map_id s]
    apply List.map_congr_left
    intro x _
    rfl
end Bal.Trim

/-
  Choices for loads: their sums lie between the ends, and no choice is worse than the worst one. Plain Lean, no program in sight.
-/
namespace Bal.Trim
theorem lin_t {a c d y : Int} (h1 : c ≤ y) (h2 : y ≤ d) : min (a * c) (a * d) ≤ a * y ∧ a * y ≤ max (a * c) (a * d) := by
  rcases Int.le_total 0 a with h | h
  · have p := Int.mul_le_mul_of_nonneg_left h1 h
    have q := Int.mul_le_mul_of_nonneg_left h2 h
    omega
  · have p := Int.mul_le_mul_of_nonpos_left h h1
    have q := Int.mul_le_mul_of_nonpos_left h h2
    omega
theorem prod_t {a b c d x y : Int} (hx1 : a ≤ x) (hx2 : x ≤ b) (hy1 : c ≤ y) (hy2 : y ≤ d) : tLo a b c d ≤ x * y ∧ x * y ≤ tHi a b c d := by
  have h1 := lin_t (a := y) hx1 hx2
  have h2 := lin_t (a := a) hy1 hy2
  have h3 := lin_t (a := b) hy1 hy2
  rw [Int.mul_comm y x, Int.mul_comm y a, Int.mul_comm y b] at h1
  unfold tLo tHi
  omega
theorem putIn_bd {x : Load} {p : Put} (h : putIn x p = true) : x.alo ≤ p.pos ∧ p.pos ≤ x.ahi ∧ x.wlo ≤ p.wt ∧ p.wt ≤ x.whi := by
  simp only [putIn, inB, Bool.and_eq_true, decide_eq_true_eq] at h
  omega
theorem best_v (m : Limit) (x : Load) : vOf m (best m x) = max (max (max (vOf m ⟨x.alo, x.wlo⟩) (vOf m ⟨x.ahi, x.wlo⟩)) (vOf m ⟨x.alo, x.whi⟩)) (vOf m ⟨x.ahi, x.whi⟩) := by
  unfold best best2 best1
  rw [better_v, better_v, better_v]
theorem no_worse {m : Limit} {x : Load} {p : Put} (h : putIn x p = true) : vOf m p ≤ vOf m (best m x) := by
  obtain ⟨h1, h2, h3, h4⟩ := putIn_bd h
  rw [best_v]
  have q := lin_t (a := m.b) h1 h2
  simp only [vOf]
  obtain ⟨u, hu⟩ : ∃ u, u = m.a + m.b * x.alo := ⟨_, rfl⟩
  obtain ⟨v, hv⟩ : ∃ v, v = m.a + m.b * x.ahi := ⟨_, rfl⟩
  obtain ⟨z, hz⟩ : ∃ z, z = m.a + m.b * p.pos := ⟨_, rfl⟩
  rw [← hu, ← hv, ← hz]
  have q2 : min u v ≤ z ∧ z ≤ max u v := by omega
  rcases Int.le_total u v with huv | huv
  · have r := prod_t (a := u) (b := v) (c := x.wlo) (d := x.whi) (x := z) (y := p.wt) (by omega) (by omega) h3 h4
    unfold tHi tLo at r
    rw [Int.mul_comm p.wt z, Int.mul_comm x.wlo u, Int.mul_comm x.wlo v, Int.mul_comm x.whi u, Int.mul_comm x.whi v]
    omega
  · have r := prod_t (a := v) (b := u) (c := x.wlo) (d := x.whi) (x := z) (y := p.wt) (by omega) (by omega) h3 h4
    unfold tHi tLo at r
    rw [Int.mul_comm p.wt z, Int.mul_comm x.wlo u, Int.mul_comm x.wlo v, Int.mul_comm x.whi u, Int.mul_comm x.whi v]
    omega
theorem best_in {m : Limit} {x : Load} (hx : loadB x = true) : putIn x (best m x) = true := by
  have := loadB_bd hx
  have h := best_mem m x
  simp only [corners, List.mem_cons, List.not_mem_nil, or_false] at h
  rcases h with h | h | h | h <;> rw [h] <;> simp only [putIn, inB, Bool.and_eq_true, decide_eq_true_eq] <;> omega
/-! ### A choice -/
/-- each put lies in its load -/
def Picks (xs : List Load) (ps : List Put) : Prop := ps.length = xs.length ∧ ∀ (i : Nat) (h1 : i < xs.length) (h2 : i < ps.length), putIn xs[i] ps[i] = true
theorem picks_cons {x : Load} {xs : List Load} {p : Put} {ps : List Put} (h : Picks (x :: xs) (p :: ps)) : putIn x p = true ∧ Picks xs ps :=
  ⟨h.2 0 (by simp) (by simp), by simpa using h.1, fun i h1 h2 => h.2 (i + 1) (by simpa using h1) (by simpa using h2)⟩
theorem picks_le {g : Load → Int} {f : Put → Int} (hgf : ∀ x p, putIn x p = true → f p ≤ g x) : ∀ {xs : List Load} {ps : List Put}, Picks xs ps → sumBy f ps ≤ sumBy g xs
  | [], [], _ => by simp
  | [], p :: ps, h => by have := h.1; simp at this
  | x :: xs, [], h => by have := h.1; simp at this
  | x :: xs, p :: ps, h => by
    obtain ⟨h1, h2⟩ := picks_cons h
    have := hgf x p h1
    have := picks_le hgf h2
    rw [sumBy_cons, sumBy_cons]; omega
theorem picks_ge {g : Load → Int} {f : Put → Int} (hgf : ∀ x p, putIn x p = true → g x ≤ f p) : ∀ {xs : List Load} {ps : List Put}, Picks xs ps → sumBy g xs ≤ sumBy f ps
  | [], [], _ => by simp
  | [], p :: ps, h => by have := h.1; simp at this
  | x :: xs, [], h => by have := h.1; simp at this
  | x :: xs, p :: ps, h => by
    obtain ⟨h1, h2⟩ := picks_cons h
    have := hgf x p h1
    have := picks_ge hgf h2
    rw [sumBy_cons, sumBy_cons]; omega
theorem picks_value {m : Limit} {xs : List Load} {ps : List Put} (h : Picks xs ps) : value m ps ≤ worstV m xs := by
  rw [worstV_eq]
  exact picks_le (fun x p hp => no_worse hp) h
theorem choice_picks {m : Limit} {xs : List Load} (hx : ∀ x ∈ xs, loadB x = true) : Picks xs (choice m xs) :=
  ⟨choice_len m xs, fun i h1 h2 => by simp only [choice, List.getElem_map]; exact best_in (hx _ (List.getElem_mem h1))⟩
def wtS (ps : List Put) : Int := sumBy Put.wt ps
def moS (ps : List Put) : Int := sumBy (fun p => p.wt * p.pos) ps
theorem value_lin (m : Limit) : ∀ ps : List Put, value m ps = m.a * wtS ps + m.b * moS ps
  | [] => by simp [value, wtS, moS]
  | p :: ps => by
    have ih := value_lin m ps
    unfold value wtS moS at *
    rw [sumBy_cons, sumBy_cons, sumBy_cons, ih, Int.mul_add, Int.mul_add]
    have e : vOf m p = m.a * p.wt + m.b * (p.wt * p.pos) := by
      unfold vOf
      rw [Int.mul_add, Int.mul_comm p.wt m.a, ← Int.mul_assoc, ← Int.mul_assoc, Int.mul_comm p.wt m.b]
    rw [e]; omega
/-! ### What a choice by numbers is -/
def byN (bs : List Int) (i j : Nat) : Int := if 2 * i + 1 < bs.length then bs.getD (2 * i + j) 0 else 0
def pick (bs : List Int) (xs : List Load) (i : Nat) : Put := match xs[i]? with
  | some x => ⟨x.alo + byN bs i 0 % (x.ahi - x.alo + 1), x.wlo + byN bs i 1 % (x.whi - x.wlo + 1)⟩
  | none => ⟨0, 0⟩
def chosenTo (xs : List Load) (bs : List Int) (k : Nat) : List Put := (List.range k).map (pick bs xs)
def chosen (xs : List Load) (bs : List Int) : List Put := chosenTo xs bs xs.length
theorem chosenTo_succ (xs : List Load) (bs : List Int) (k : Nat) : chosenTo xs bs (k + 1) = chosenTo xs bs k ++ [pick bs xs k] := by simp [chosenTo, List.range_succ]
theorem pick_at {xs : List Load} {bs : List Int} {k : Nat} (hk : k < xs.length) : pick bs xs k = ⟨xs[k].alo + byN bs k 0 % (xs[k].ahi - xs[k].alo + 1), xs[k].wlo + byN bs k 1 % (xs[k].whi - xs[k].wlo + 1)⟩ := by
  unfold pick; rw [List.getElem?_eq_getElem hk]
theorem chosenTo_len (xs : List Load) (bs : List Int) (k : Nat) : (chosenTo xs bs k).length = k := by simp [chosenTo]
theorem inside_bd {lo hi n : Int} (h : lo ≤ hi) : lo ≤ lo + n % (hi - lo + 1) ∧ lo + n % (hi - lo + 1) ≤ hi := by
  have h1 := Int.emod_nonneg n (show hi - lo + 1 ≠ 0 by omega)
  have h2 := Int.emod_lt_of_pos n (show 0 < hi - lo + 1 by omega)
  omega
theorem pick_in {xs : List Load} {bs : List Int} {k : Nat} (hk : k < xs.length) (hx : loadB xs[k] = true) : putIn xs[k] (pick bs xs k) = true := by
  have hb := loadB_bd hx
  rw [pick_at hk]
  have h1 := inside_bd (n := byN bs k 0) (show xs[k].alo ≤ xs[k].ahi by omega)
  have h2 := inside_bd (n := byN bs k 1) (show xs[k].wlo ≤ xs[k].whi by omega)
  simp only [putIn, inB, Bool.and_eq_true, decide_eq_true_eq]
  omega
theorem chosen_picks {xs : List Load} {bs : List Int} (hx : ∀ x ∈ xs, loadB x = true) : Picks xs (chosen xs bs) :=
  ⟨chosenTo_len xs bs xs.length, fun i h1 h2 => by
    have : (chosen xs bs)[i] = pick bs xs i := by simp [chosen, chosenTo]
    rw [this]
    exact pick_in h1 (hx _ (List.getElem_mem h1))⟩
theorem picks_B {xs : List Load} {ps : List Put} (hx : ∀ x ∈ xs, loadB x = true) (h : Picks xs ps) : ∀ p ∈ ps, putB p := by
  intro p hp
  obtain ⟨i, hi, rfl⟩ := List.mem_iff_getElem.1 hp
  have h1 : i < xs.length := by rw [← h.1]; exact hi
  exact putIn_B (hx _ (List.getElem_mem h1)) (h.2 i h1 hi)
theorem wtS_bd {ps : List Put} (hp : ∀ p ∈ ps, putB p) (hn : ps.length ≤ 40) (k : Nat) : -43000000000 ≤ wtS (ps.take k) ∧ wtS (ps.take k) ≤ 43000000000 :=
  sumBy_take_bd Put.wt 1073741824 43000000000 ps 40 hn (by omega) (by omega) (fun p h => (hp p h).2) k
theorem mo_bd {p : Put} (h : putB p) : -21474836480000 ≤ p.wt * p.pos ∧ p.wt * p.pos ≤ 21474836480000 := by
  have := mul_bd (A := 1073741824) (B := 20000) (x := p.wt) (y := p.pos) h.2.1 h.2.2 h.1.1 h.1.2
  omega
theorem moS_bd {ps : List Put} (hp : ∀ p ∈ ps, putB p) (hn : ps.length ≤ 40) (k : Nat) : -859000000000000 ≤ moS (ps.take k) ∧ moS (ps.take k) ≤ 859000000000000 :=
  sumBy_take_bd (fun p : Put => p.wt * p.pos) 21474836480000 859000000000000 ps 40 hn (by omega) (by omega) (fun p h => mo_bd (hp p h)) k
theorem wtS_all {ps : List Put} (hp : ∀ p ∈ ps, putB p) (hn : ps.length ≤ 40) : -43000000000 ≤ wtS ps ∧ wtS ps ≤ 43000000000 := by
  have := wtS_bd hp hn ps.length
  rwa [List.take_length] at this
theorem moS_all {ps : List Put} (hp : ∀ p ∈ ps, putB p) (hn : ps.length ≤ 40) : -859000000000000 ≤ moS ps ∧ moS ps ≤ 859000000000000 := by
  have := moS_bd hp hn ps.length
  rwa [List.take_length] at this
/-! ### TrimKept, TrimWorst -/
theorem kept_law {xs : List Load} {ms : List Limit} {ps : List Put} (h : Picks xs ps) {j : Nat} (hj : j < ms.length) (hb : brk xs ms j = false) : ms[j].a * wtS ps + ms[j].b * moS ps ≤ ms[j].c := by
  rw [brk_at hj, decide_eq_false_iff_not] at hb
  have := picks_value (m := ms[j]) h
  rw [value_lin] at this
  omega
theorem broken_before {xs : List Load} {ms : List Limit} {k : Nat} (h : broken xs ms = some k) {j : Nat} (hj : j < k) : brk xs ms j = false := by
  unfold broken firstOf at h
  rw [List.find?_range_eq_some] at h
  simpa using h.2.2 j hj
theorem broken_never {xs : List Load} {ms : List Limit} (h : broken xs ms = none) {j : Nat} (hj : j < ms.length) : brk xs ms j = false := by
  unfold broken firstOf at h
  rw [List.find?_range_eq_none] at h
  simpa using h j hj
theorem picks_good {xs : List Load} {ps : List Put} (h : Picks xs ps) : ∀ j, j < xs.length → badAt xs ps j = false := by
  intro j hj
  rw [badAt_at hj (by rw [h.1]; exact hj), h.2 j hj (by rw [h.1]; exact hj)]
  rfl
/-- what Breach finds is a breach -/
theorem breach_proof {xs : List Load} {ms : List Limit} {k : Nat} (hb : both xs ms = 0) (h : broken xs ms = some k) : proofE xs ms (k : Int) (brP xs ms (some k)) = 0 := by
  have hk := broken_lt h
  obtain ⟨h1, _⟩ := both_ok hb
  obtain ⟨_, hx⟩ := checkLoads_ok h1
  have hbr : brk xs ms k = true := (firstOf_get h).2
  rw [brk_at hk, decide_eq_true_eq] at hbr
  unfold proofE
  rw [if_pos hb, brP_at hk, if_pos (by simp [inB, choice_len]; omega)]
  rw [show ((k : Nat) : Int).toNat = k by omega, List.getElem?_eq_getElem hk]
  simp only
  rw [proof_good (picks_good (choice_picks hx)), if_neg]
  unfold worstV at hbr
  omega
theorem brk_one {xs : List Load} {m : Limit} : broken xs [m] = if m.c < worstV m xs then some 0 else none := by
  by_cases h : m.c < worstV m xs
  · rw [if_pos h]
    exact broken_some (k := 0) (by simp) (fun j hj => by omega) h
  · rw [if_neg h]
    refine broken_none fun j hj => ?_
    obtain rfl : j = 0 := by simpa using hj
    exact brk_false (by simp) h
/-! ### TrimEnds -/
def aft (n : Int) (p : Put) : Int := if p.pos < n then p.wt else 0
def far (n : Int) (p : Put) : Int := if p.pos < n then p.wt * (n - p.pos) else 0
theorem wt_ends {x : Load} {p : Put} (h : putIn x p = true) : wLo x ≤ p.wt ∧ p.wt ≤ wHi x := by
  have := putIn_bd h
  unfold wLo wHi; omega
theorem mo_ends {x : Load} {p : Put} (h : putIn x p = true) : mLo x ≤ p.wt * p.pos ∧ p.wt * p.pos ≤ mHi x := by
  obtain ⟨h1, h2, h3, h4⟩ := putIn_bd h
  rw [Int.mul_comm]
  exact prod_t h1 h2 h3 h4
theorem aft_ends {n : Int} {x : Load} {p : Put} (h : putIn x p = true) : sLo n x ≤ aft n p ∧ aft n p ≤ sHi n x := by
  obtain ⟨h1, h2, h3, h4⟩ := putIn_bd h
  have e : aft n p = (if p.pos < n then 1 else 0) * p.wt := by unfold aft; split <;> simp
  rw [e]
  refine prod_t ?_ ?_ h3 h4
  · unfold aLo; split <;> omega
  · unfold aHi; split <;> omega
theorem far_ends {n : Int} {x : Load} {p : Put} (h : putIn x p = true) : bLo n x ≤ far n p ∧ far n p ≤ bHi n x := by
  obtain ⟨h1, h2, h3, h4⟩ := putIn_bd h
  have e : far n p = max (n - p.pos) 0 * p.wt := by
    unfold far
    split
    · rw [show max (n - p.pos) 0 = n - p.pos by omega, Int.mul_comm]
    · rw [show max (n - p.pos) 0 = 0 by omega, Int.zero_mul]
  rw [e]
  refine prod_t ?_ ?_ h3 h4
  · unfold aLo; omega
  · unfold aHi; omega
theorem ends_law {xs : List Load} {ps : List Put} (h : Picks xs ps) (n : Int) :
    (sumBy wLo xs ≤ wtS ps ∧ wtS ps ≤ sumBy wHi xs) ∧ (sumBy mLo xs ≤ moS ps ∧ moS ps ≤ sumBy mHi xs) ∧ (sumBy (sLo n) xs ≤ sumBy (aft n) ps ∧ sumBy (aft n) ps ≤ sumBy (sHi n) xs) ∧ (sumBy (bLo n) xs ≤ sumBy (far n) ps ∧ sumBy (far n) ps ≤ sumBy (bHi n) xs) :=
  ⟨⟨picks_ge (fun _ _ h => (wt_ends h).1) h, picks_le (fun _ _ h => (wt_ends h).2) h⟩, ⟨picks_ge (fun _ _ h => (mo_ends h).1) h, picks_le (fun _ _ h => (mo_ends h).2) h⟩,
   ⟨picks_ge (fun _ _ h => (aft_ends h).1) h, picks_le (fun _ _ h => (aft_ends h).2) h⟩, ⟨picks_ge (fun _ _ h => (far_ends h).1) h, picks_le (fun _ _ h => (far_ends h).2) h⟩⟩
end Bal.Trim
