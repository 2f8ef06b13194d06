/-
  Limits at work, worst choices, breaches, shear and bending: the plain side.
-/
import Derived.Test.YtlloijkmpmfapaaTrimPlain2
namespace Bal.Trim
/-- what a put adds to the value of a limit -/
def vOf (m : Limit) (p : Put) : Int := p.wt * (m.a + m.b * p.pos)
def better (m : Limit) (b p : Put) : Put := if vOf m b < vOf m p then p else b
def corners (x : Load) : List Put := [⟨x.alo, x.wlo⟩, ⟨x.ahi, x.wlo⟩, ⟨x.alo, x.whi⟩, ⟨x.ahi, x.whi⟩]
def best1 (m : Limit) (x : Load) : Put := better m ⟨x.alo, x.wlo⟩ ⟨x.ahi, x.wlo⟩
def best2 (m : Limit) (x : Load) : Put := better m (best1 m x) ⟨x.alo, x.whi⟩
def best (m : Limit) (x : Load) : Put := better m (best2 m x) ⟨x.ahi, x.whi⟩
def choice (m : Limit) (xs : List Load) : List Put := xs.map (best m)
def value (m : Limit) (ps : List Put) : Int := sumBy (vOf m) ps
def worstV (m : Limit) (xs : List Load) : Int := value m (choice m xs)
def putB (p : Put) : Prop := (-20000 ≤ p.pos ∧ p.pos ≤ 20000) ∧ -1073741824 ≤ p.wt ∧ p.wt ≤ 1073741824
theorem corner_B {x : Load} (h : loadB x = true) {p : Put} (hp : p ∈ corners x) : putB p := by
  have h := loadB_bd h
  simp only [corners, List.mem_cons, List.not_mem_nil, or_false] at hp
  rcases hp with rfl | rfl | rfl | rfl <;> (unfold putB; simp only; omega)
theorem better_of {m : Limit} {b p : Put} : better m b p = b ∨ better m b p = p := by unfold better; split <;> simp
theorem better_v (m : Limit) (b p : Put) : vOf m (better m b p) = max (vOf m b) (vOf m p) := by unfold better; split <;> omega
theorem best1_mem (m : Limit) (x : Load) : best1 m x ∈ corners x := by
  unfold best1; rcases better_of (m := m) (b := ⟨x.alo, x.wlo⟩) (p := ⟨x.ahi, x.wlo⟩) with h | h <;> rw [h] <;> simp [corners]
theorem best2_mem (m : Limit) (x : Load) : best2 m x ∈ corners x := by
  unfold best2; rcases better_of (m := m) (b := best1 m x) (p := ⟨x.alo, x.whi⟩) with h | h <;> rw [h]
  · exact best1_mem m x
  · simp [corners]
theorem best_mem (m : Limit) (x : Load) : best m x ∈ corners x := by
  unfold best; rcases better_of (m := m) (b := best2 m x) (p := ⟨x.ahi, x.whi⟩) with h | h <;> rw [h]
  · exact best2_mem m x
  · simp [corners]
theorem limitB_bd {m : Limit} (h : limitB m = true) : (-1000 ≤ m.a ∧ m.a ≤ 1000) ∧ (-1000 ≤ m.b ∧ m.b ≤ 1000) ∧ -1000000000000000000 ≤ m.c ∧ m.c ≤ 1000000000000000000 := by
  simp [limitB, inB] at h; omega
/-- the products of a valid limit and a put in its bounds -/
theorem put_bd {m : Limit} {p : Put} (hm : limitB m = true) (hp : putB p) :
    (-20000000 ≤ m.b * p.pos ∧ m.b * p.pos ≤ 20000000) ∧ (-20001000 ≤ m.a + m.b * p.pos ∧ m.a + m.b * p.pos ≤ 20001000) ∧ -22000000000000000 ≤ p.wt * (m.a + m.b * p.pos) ∧ p.wt * (m.a + m.b * p.pos) ≤ 22000000000000000 := by
  obtain ⟨h1, h2, _⟩ := limitB_bd hm
  obtain ⟨h3, h4⟩ := hp
  have p1 := mul_bd (A := 1000) (B := 20000) h2.1 h2.2 h3.1 h3.2
  have p2 := mul_bd (A := 1073741824) (B := 20001000) (x := p.wt) (y := m.a + m.b * p.pos) h4.1 h4.2 (by omega) (by omega)
  refine ⟨by omega, by omega, by omega, by omega⟩
theorem vOf_bd {m : Limit} {p : Put} (hm : limitB m = true) (hp : putB p) : -22000000000000000 ≤ vOf m p ∧ vOf m p ≤ 22000000000000000 := (put_bd hm hp).2.2
theorem best_bd {m : Limit} {x : Load} (hm : limitB m = true) (hx : loadB x = true) : -22000000000000000 ≤ vOf m (best m x) ∧ vOf m (best m x) ≤ 22000000000000000 := vOf_bd hm (corner_B hx (best_mem m x))
theorem sumBy_map {α β : Type} (g : β → Int) (f : α → β) (xs : List α) : sumBy g (xs.map f) = sumBy (fun x => g (f x)) xs := by
  induction xs with
  | nil => rfl
  | cons x xs ih => rw [List.map_cons, sumBy_cons, sumBy_cons, ih]
theorem worstV_eq (m : Limit) (xs : List Load) : worstV m xs = sumBy (fun x => vOf m (best m x)) xs := sumBy_map _ _ _
theorem choice_len (m : Limit) (xs : List Load) : (choice m xs).length = xs.length := by simp [choice]
/-- the first of the first n numbers of which f is true -/
def firstOf (f : Nat → Bool) (n : Nat) : Option Nat := (List.range n).find? f
theorem firstOf_some {f : Nat → Bool} {n k : Nat} (hk : k < n) (hb : ∀ j, j < k → f j = false) (h : f k = true) : firstOf f n = some k := by
  unfold firstOf
  rw [List.find?_range_eq_some]
  exact ⟨h, by simpa using hk, fun j hj => by simp [hb j hj]⟩
theorem firstOf_none {f : Nat → Bool} {n : Nat} (hb : ∀ j, j < n → f j = false) : firstOf f n = none := by
  unfold firstOf
  rw [List.find?_range_eq_none]
  intro j hj
  simp [hb j hj]
theorem firstOf_get {f : Nat → Bool} {n k : Nat} (h : firstOf f n = some k) : k < n ∧ f k = true := by
  unfold firstOf at h
  rw [List.find?_range_eq_some] at h
  exact ⟨by simpa using h.2.1, h.1⟩
/-- whether loads break the limit of a number -/
def brk (xs : List Load) (ms : List Limit) (i : Nat) : Bool := match ms[i]? with | some m => decide (m.c < worstV m xs) | none => false
theorem brk_at {xs : List Load} {ms : List Limit} {i : Nat} (hi : i < ms.length) : brk xs ms i = decide (ms[i].c < worstV ms[i] xs) := by
  unfold brk; rw [List.getElem?_eq_getElem hi]
def broken (xs : List Load) (ms : List Limit) : Option Nat := firstOf (brk xs ms) ms.length
def optN (o : Option Nat) : Int := match o with | some i => i | none => 0
def optM (o : Option Nat) : Int := match o with | some i => i | none => -1
def both (xs : List Load) (ms : List Limit) : Int := if checkLoads xs = 0 then checkLimits ms else checkLoads xs
theorem both_ok {xs : List Load} {ms : List Limit} (h : both xs ms = 0) : checkLoads xs = 0 ∧ checkLimits ms = 0 := by
  unfold both at h; split at h
  · rename_i h1; exact ⟨h1, h⟩
  · rename_i h1; exact absurd h h1
/-! ### Shear and bending -/
def aLo (x : Load) (n : Int) : Int := max (n - x.ahi) 0
def aHi (x : Load) (n : Int) : Int := max (n - x.alo) 0
def sLo (n : Int) (x : Load) : Int := tLo (min (aLo x n) 1) (min (aHi x n) 1) x.wlo x.whi
def sHi (n : Int) (x : Load) : Int := tHi (min (aLo x n) 1) (min (aHi x n) 1) x.wlo x.whi
def bLo (n : Int) (x : Load) : Int := tLo (aLo x n) (aHi x n) x.wlo x.whi
def bHi (n : Int) (x : Load) : Int := tHi (aLo x n) (aHi x n) x.wlo x.whi
theorem a_bd {x : Load} {n : Int} (h : loadB x = true) (hn : -20000 ≤ n ∧ n ≤ 20000) : (0 ≤ aLo x n ∧ aLo x n ≤ 40000) ∧ 0 ≤ aHi x n ∧ aHi x n ≤ 40000 := by
  have := loadB_bd h
  unfold aLo aHi; omega
theorem s_bd {n : Int} {x : Load} (h : loadB x = true) (hn : -20000 ≤ n ∧ n ≤ 20000) : (-50000000000000 ≤ sLo n x ∧ sLo n x ≤ 50000000000000) ∧ (-50000000000000 ≤ sHi n x ∧ sHi n x ≤ 50000000000000) := by
  have h1 := loadB_bd h
  have h2 := a_bd h hn
  have h3 := t_bd (A := 40000) (B := 1073741824) (a := min (aLo x n) 1) (b := min (aHi x n) 1) (c := x.wlo) (d := x.whi) (by omega) (by omega)
  unfold sLo sHi
  omega
theorem b_bd {n : Int} {x : Load} (h : loadB x = true) (hn : -20000 ≤ n ∧ n ≤ 20000) : (-50000000000000 ≤ bLo n x ∧ bLo n x ≤ 50000000000000) ∧ (-50000000000000 ≤ bHi n x ∧ bHi n x ≤ 50000000000000) := by
  have h1 := loadB_bd h
  have h2 := a_bd h hn
  have h3 := t_bd (A := 40000) (B := 1073741824) (a := aLo x n) (b := aHi x n) (c := x.wlo) (d := x.whi) (by omega) (by omega)
  unfold bLo bHi
  omega
/-- the reference's parts of a load in front of a place -/
theorem part_lo (x : Load) (n : Int) : (if x.ahi < n then (1 : Int) else 0) = min (aLo x n) 1 := by unfold aLo; split <;> omega
theorem part_hi (x : Load) (n : Int) : (if n ≤ x.alo then (0 : Int) else 1) = min (aHi x n) 1 := by unfold aHi; split <;> omega
def strain (xs : List Load) (f : Frm) : Bool :=
  !(spanB (sumBy (sLo f.pos) xs) (sumBy (sHi f.pos) xs) f.shear) || !(spanB (sumBy (bLo f.pos) xs) (sumBy (bHi f.pos) xs) f.bend)
theorem t_le (a b c d : Int) : tLo a b c d ≤ tHi a b c d := by unfold tLo tHi; omega
theorem sumBy_le {α : Type} (g h : α → Int) (xs : List α) (hh : ∀ x, g x ≤ h x) : sumBy g xs ≤ sumBy h xs := by
  induction xs with
  | nil => simp
  | cons x xs ih => rw [sumBy_cons, sumBy_cons]; have := hh x; omega
/-- the indices of the frames that are strained -/
def strainedTo (xs : List Load) (fs : List Frm) : Nat → List Int
  | 0 => []
  | k + 1 => strainedTo xs fs k ++ (match fs[k]? with | some f => if strain xs f then [(k : Int)] else [] | none => [])
theorem strainedTo_succ {xs : List Load} {fs : List Frm} {k : Nat} (hk : k < fs.length) : strainedTo xs fs (k + 1) = strainedTo xs fs k ++ (if strain xs fs[k] then [(k : Int)] else []) := by
  rw [strainedTo, List.getElem?_eq_getElem hk]
end Bal.Trim
