/-
  Sums, products, least and greatest: plain Lean.
-/
import Derived.Test.YtemafanncejeiaaTrimPlain
namespace Bal.Trim
/-! ### Sums and products -/
def sumBy {α : Type} (g : α → Int) (xs : List α) : Int := xs.foldr (fun x s => g x + s) 0
@[simp] theorem sumBy_nil {α : Type} (g : α → Int) : sumBy g [] = 0 := rfl
theorem sumBy_cons {α : Type} (g : α → Int) (x : α) (xs : List α) : sumBy g (x :: xs) = g x + sumBy g xs := rfl
theorem sumBy_append {α : Type} (g : α → Int) (xs ys : List α) : sumBy g (xs ++ ys) = sumBy g xs + sumBy g ys := by
  induction xs with
  | nil => simp
  | cons x xs ih => simp only [List.cons_append, sumBy_cons, ih]; omega
theorem sumBy_take {α : Type} (g : α → Int) (xs : List α) (k : Nat) (hk : k < xs.length) : sumBy g (xs.take (k + 1)) = sumBy g (xs.take k) + g xs[k] := by
  rw [List.take_succ_eq_append_getElem hk, sumBy_append, sumBy_cons, sumBy_nil]; omega
theorem sumBy_bd {α : Type} (g : α → Int) (M : Int) (xs : List α) (h : ∀ x ∈ xs, -M ≤ g x ∧ g x ≤ M) : -(M * xs.length) ≤ sumBy g xs ∧ sumBy g xs ≤ M * xs.length := by
  induction xs with
  | nil => simp
  | cons x xs ih =>
    have h1 := ih (fun y hy => h y (by simp [hy]))
    have h2 := h x (by simp)
    rw [sumBy_cons, List.length_cons]
    have e : M * ((xs.length + 1 : Nat) : Int) = M * (xs.length : Int) + M := by rw [Int.natCast_add, Int.mul_add]; simp
    rw [e]
    omega
/-- the sum of the first k of at most n terms, each from -M to M -/
theorem sumBy_take_bd {α : Type} (g : α → Int) (M N : Int) (xs : List α) (n : Nat) (hn : xs.length ≤ n) (hM : 0 ≤ M) (hN : M * n ≤ N) (h : ∀ x ∈ xs, -M ≤ g x ∧ g x ≤ M) (k : Nat) : -N ≤ sumBy g (xs.take k) ∧ sumBy g (xs.take k) ≤ N := by
  have h1 := sumBy_bd g M (xs.take k) (fun x hx => h x (List.mem_of_mem_take hx))
  have h2 : M * ((xs.take k).length : Int) ≤ M * (n : Int) := Int.mul_le_mul_of_nonneg_left (by have : (xs.take k).length ≤ n := by rw [List.length_take]; omega
                                                                                                omega) hM
  omega
theorem mul_bd {x y A B : Int} (hx : -A ≤ x) (hx' : x ≤ A) (hy : -B ≤ y) (hy' : y ≤ B) : -(A * B) ≤ x * y ∧ x * y ≤ A * B := by
  have h1 : x.natAbs ≤ A.toNat := by omega
  have h2 : y.natAbs ≤ B.toNat := by omega
  have h3 := Nat.mul_le_mul h1 h2
  rw [← Int.natAbs_mul] at h3
  have h4 : ((A.toNat * B.toNat : Nat) : Int) = A * B := by
    rw [Int.natCast_mul, Int.toNat_of_nonneg (by omega), Int.toNat_of_nonneg (by omega)]
  omega
def tLo (a b c d : Int) : Int := min (min (min (a * c) (a * d)) (b * c)) (b * d)
def tHi (a b c d : Int) : Int := max (max (max (a * c) (a * d)) (b * c)) (b * d)
theorem t_bd {a b c d A B : Int} (h : -A ≤ a ∧ a ≤ A ∧ -A ≤ b ∧ b ≤ A) (h' : -B ≤ c ∧ c ≤ B ∧ -B ≤ d ∧ d ≤ B) :
    (-(A * B) ≤ tLo a b c d ∧ tLo a b c d ≤ A * B) ∧ (-(A * B) ≤ tHi a b c d ∧ tHi a b c d ≤ A * B) := by
  have h1 := mul_bd h.1 h.2.1 h'.1 h'.2.1
  have h2 := mul_bd h.1 h.2.1 h'.2.2.1 h'.2.2.2
  have h3 := mul_bd h.2.2.1 h.2.2.2 h'.1 h'.2.1
  have h4 := mul_bd h.2.2.1 h.2.2.2 h'.2.2.1 h'.2.2.2
  unfold tLo tHi
  omega
theorem ite_min (a b : Int) : (if b < a then b else a) = min a b := by split <;> omega
theorem ite_max (a b : Int) : (if a < b then b else a) = max a b := by split <;> omega
def lmin : List Int → Int
  | [] => 0
  | x :: xs => xs.foldl min x
def lmax : List Int → Int
  | [] => 0
  | x :: xs => xs.foldl max x
theorem lmin_take {xs : List Int} {k : Nat} (h0 : 0 < k) (hk : k < xs.length) : lmin (xs.take (k + 1)) = min (lmin (xs.take k)) xs[k] := by
  cases xs with
  | nil => simp at hk
  | cons x xs =>
    obtain ⟨j, rfl⟩ : ∃ j, k = j + 1 := ⟨k - 1, by omega⟩
    have hj : j < xs.length := by simpa using hk
    simp only [List.take_succ_cons, lmin, List.getElem_cons_succ]
    rw [List.take_succ_eq_append_getElem hj, List.foldl_append]
    rfl
theorem lmax_take {xs : List Int} {k : Nat} (h0 : 0 < k) (hk : k < xs.length) : lmax (xs.take (k + 1)) = max (lmax (xs.take k)) xs[k] := by
  cases xs with
  | nil => simp at hk
  | cons x xs =>
    obtain ⟨j, rfl⟩ : ∃ j, k = j + 1 := ⟨k - 1, by omega⟩
    have hj : j < xs.length := by simpa using hk
    simp only [List.take_succ_cons, lmax, List.getElem_cons_succ]
    rw [List.take_succ_eq_append_getElem hj, List.foldl_append]
    rfl
theorem loadB_bd {x : Load} (h : loadB x = true) : (-20000 ≤ x.alo ∧ x.alo ≤ 20000 ∧ -20000 ≤ x.ahi ∧ x.ahi ≤ 20000) ∧ (-1073741824 ≤ x.wlo ∧ x.wlo ≤ 1073741824 ∧ -1073741824 ≤ x.whi ∧ x.whi ≤ 1073741824) ∧ x.alo ≤ x.ahi ∧ x.wlo ≤ x.whi := by
  simp [loadB, spanB] at h
  omega
theorem checkLoads_ok {l : List Load} (h : checkLoads l = 0) : l.length ≤ 40 ∧ ∀ x ∈ l, loadB x = true := by
  unfold checkLoads checkList at h
  split at h
  · cases h
  · split at h
    · rename_i h1 h2
      exact ⟨by omega, fun x hx => List.all_eq_true.1 h2 x hx⟩
    · cases h
theorem checkLimits_ok {l : List Limit} (h : checkLimits l = 0) : l.length ≤ 12 ∧ ∀ x ∈ l, limitB x = true := by
  unfold checkLimits checkList at h
  split at h
  · cases h
  · split at h
    · rename_i h1 h2
      exact ⟨by omega, fun x hx => List.all_eq_true.1 h2 x hx⟩
    · cases h
theorem checkFrames_ok {l : List Frm} (h : checkFrames l = 0) : l.length ≤ 12 ∧ ∀ x ∈ l, frameB x = true := by
  unfold checkFrames checkList at h
  split at h
  · cases h
  · split at h
    · rename_i h1 h2
      exact ⟨by omega, fun x hx => List.all_eq_true.1 h2 x hx⟩
    · cases h
/-- a result, if there is no error -/
def ifOk (e v : Int) : Int := if e = 0 then v else 0
/-- what the heaviness and the moment of loads are -/
def wLo (x : Load) : Int := x.wlo
def wHi (x : Load) : Int := x.whi
def mLo (x : Load) : Int := tLo x.alo x.ahi x.wlo x.whi
def mHi (x : Load) : Int := tHi x.alo x.ahi x.wlo x.whi
end Bal.Trim
