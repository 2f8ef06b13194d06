/-
  The plain side of the trim statements: what loads, limits, frames and the rest are, and what is asked of them. No program in sight.
-/

set_option linter.unusedVariables false
set_option linter.unusedSimpArgs false
/-
  The plain side of the trim statements: what loads, limits, frames and the rest are, and what is asked of them. No program in sight.
-/
namespace Bal.Trim

structure Load where
  alo : Int
  ahi : Int
  wlo : Int
  whi : Int
  deriving DecidableEq, Inhabited
structure Limit where
  a : Int
  b : Int
  c : Int
  deriving DecidableEq, Inhabited
structure Frm where
  pos : Int
  shear : Int
  bend : Int
  deriving DecidableEq, Inhabited
structure Put where
  pos : Int
  wt : Int
  deriving DecidableEq, Inhabited
structure Hold where
  pos : Int
  room : Int
  deriving DecidableEq, Inhabited
structure Parcel where
  wt : Int
  cls : Int
  deriving DecidableEq, Inhabited
structure Rule where
  a : Int
  b : Int
  apart : Int
  deriving DecidableEq, Inhabited

def inB (n lo hi : Int) : Bool := decide (lo ≤ n) && decide (n ≤ hi)
def spanB (lo hi m : Int) : Bool := decide (lo ≤ hi) && decide (-m ≤ lo) && decide (hi ≤ m)
def loadB (x : Load) : Bool := spanB x.alo x.ahi 20000 && spanB x.wlo x.whi 1073741824
def limitB (x : Limit) : Bool := inB x.a (-1000) 1000 && inB x.b (-1000) 1000 && inB x.c (-1000000000000000000) 1000000000000000000
def checkList {α : Type} (valid : α → Bool) (most : Nat) (err : Int) (xs : List α) : Int := if most < xs.length then 4 else if xs.all valid then 0 else err
def checkLoads (l : List Load) : Int := checkList loadB 40 40 l
def checkLimits (l : List Limit) : Int := checkList limitB 12 41 l
def great (a b c d : Int) : Bool := decide (50 < a) || decide (50 < b) || decide (50 < c) || decide (50 < d)

theorem checkList_many {α : Type} {valid : α → Bool} {most : Nat} {err : Int} {xs : List α} (h : most < xs.length) : checkList valid most err xs = 4 := if_pos h
theorem checkList_ok {α : Type} {valid : α → Bool} {most : Nat} {err : Int} {xs : List α} (h : ¬ most < xs.length) (h' : xs.all valid = true) : checkList valid most err xs = 0 := by
  unfold checkList; rw [if_neg h, if_pos h']
theorem checkList_bad {α : Type} {valid : α → Bool} {most : Nat} {err : Int} {xs : List α} (h : ¬ most < xs.length) (k : Nat) (hk : k < xs.length) (h' : valid xs[k] = false) : checkList valid most err xs = err := by
  unfold checkList; rw [if_neg h, if_neg]
  intro ha
  rw [List.all_eq_true.1 ha _ (List.getElem_mem hk)] at h'
  cases h'
theorem take_all {α : Type} {valid : α → Bool} {xs : List α} {k : Nat} (hk : k < xs.length) (h : (xs.take k).all valid = true) (h' : valid xs[k] = true) : (xs.take (k + 1)).all valid = true := by
  rw [List.take_succ_eq_append_getElem hk, List.all_append, h]
  simp [h']
end Bal.Trim

/-
  Sums, products, least and greatest: plain Lean.
-/
namespace Bal.Trim
/-! ### Sums and products -/
def sumBy {α : Type} (g : α → Int) (xs : List α) : Int := xs.foldr (fun x s => g x + s) 0
@[simp] theorem sumBy_nil {α : Type} (g : α → Int) : sumBy g [] = 0 := rfl
theorem sumBy_cons {α : Type} (g : α → Int) (x : α) (xs : List α) : sumBy g (x :: xs) = g x + sumBy g xs := rfl
theorem sumBy_append {α : Type} (g : α → Int) (xs ys : List α) : sumBy g (xs ++ ys) = sumBy g xs + sumBy g ys := by
  induction xs with
  | nil => simp
  | cons x xs ih => simp only [List.cons_append, sumBy_cons, ih]; omega
theorem sumBy_take {α : Type} (g : α → Int) (xs : List α) (k : Nat) (hk : k < xs.length) : sumBy g (xs.take (k + 1)) = sumBy g (xs.take k) + g xs[k] := by
  rw [List.take_succ_eq_append_getElem hk, sumBy_append, sumBy_cons, sumBy_nil]; omega
theorem sumBy_bd {α : Type} (g : α → Int) (M : Int) (xs : List α) (h : ∀ x ∈ xs, -M ≤ g x ∧ g x ≤ M) : -(M * xs.length) ≤ sumBy g xs ∧ sumBy g xs ≤ M * xs.length := by
  induction xs with
  | nil => simp
  | cons x xs ih =>
    have h1 := ih (fun y hy => h y (by simp [hy]))
    have h2 := h x (by simp)
    rw [sumBy_cons, List.length_cons]
    have e : M * ((xs.length + 1 : Nat) : Int) = M * (xs.length : Int) + M := by rw [Int.natCast_add, Int.mul_add]; simp
    rw [e]
    omega
/-- the sum of the first k of at most n terms, each from -M to M -/
theorem sumBy_take_bd {α : Type} (g : α → Int) (M N : Int) (xs : List α) (n : Nat) (hn : xs.length ≤ n) (hM : 0 ≤ M) (hN : M * n ≤ N) (h : ∀ x ∈ xs, -M ≤ g x ∧ g x ≤ M) (k : Nat) : -N ≤ sumBy g (xs.take k) ∧ sumBy g (xs.take k) ≤ N := by
  have h1 := sumBy_bd g M (xs.take k) (fun x hx => h x (List.mem_of_mem_take hx))
  have h2 : M * ((xs.take k).length : Int) ≤ M * (n : Int) := Int.mul_le_mul_of_nonneg_left (by have : (xs.take k).length ≤ n := by rw [List.length_take]; omega
                                                                                                omega) hM
  omega
theorem mul_bd {x y A B : Int} (hx : -A ≤ x) (hx' : x ≤ A) (hy : -B ≤ y) (hy' : y ≤ B) : -(A * B) ≤ x * y ∧ x * y ≤ A * B := by
  have h1 : x.natAbs ≤ A.toNat := by omega
  have h2 : y.natAbs ≤ B.toNat := by omega
  have h3 := Nat.mul_le_mul h1 h2
  rw [← Int.natAbs_mul] at h3
  have h4 : ((A.toNat * B.toNat : Nat) : Int) = A * B := by
    rw [Int.natCast_mul, Int.toNat_of_nonneg (by omega), Int.toNat_of_nonneg (by omega)]
  omega
theorem ite_min (a b : Int) : (if b < a then b else a) = min a b := by split <;> omega
theorem ite_max (a b : Int) : (if a < b then b else a) = max a b := by split <;> omega
def lmin : List Int → Int
  | [] => 0
  | x :: xs => xs.foldl min x
theorem lmin_take {xs : List Int} {k : Nat} (h0 : 0 < k) (hk : k < xs.length) : lmin (xs.take (k + 1)) = min (lmin (xs.take k)) xs[k] := by
  cases xs with
  | nil => simp at hk
  | cons x xs =>
    obtain ⟨j, rfl⟩ : ∃ j, k = j + 1 := ⟨k - 1, by omega⟩
    have hj : j < xs.length := by simpa using hk
    simp only [List.take_succ_cons, lmin, List.getElem_cons_succ]
    rw [List.take_succ_eq_append_getElem hj, List.foldl_append]
    rfl
theorem loadB_bd {x : Load} (h : loadB x = true) : (-20000 ≤ x.alo ∧ x.alo ≤ 20000 ∧ -20000 ≤ x.ahi ∧ x.ahi ≤ 20000) ∧ (-1073741824 ≤ x.wlo ∧ x.wlo ≤ 1073741824 ∧ -1073741824 ≤ x.whi ∧ x.whi ≤ 1073741824) ∧ x.alo ≤ x.ahi ∧ x.wlo ≤ x.whi := by
  simp [loadB, spanB] at h
  omega
theorem checkLoads_ok {l : List Load} (h : checkLoads l = 0) : l.length ≤ 40 ∧ ∀ x ∈ l, loadB x = true := by
  unfold checkLoads checkList at h
  split at h
  · cases h
  · split at h
    · rename_i h1 h2
      exact ⟨by omega, fun x hx => List.all_eq_true.1 h2 x hx⟩
    · cases h
theorem checkLimits_ok {l : List Limit} (h : checkLimits l = 0) : l.length ≤ 12 ∧ ∀ x ∈ l, limitB x = true := by
  unfold checkLimits checkList at h
  split at h
  · cases h
  · split at h
    · rename_i h1 h2
      exact ⟨by omega, fun x hx => List.all_eq_true.1 h2 x hx⟩
    · cases h
end Bal.Trim

/-
  Limits at work, worst choices, breaches, shear and bending: the plain side.
-/
namespace Bal.Trim
/-- what a put adds to the value of a limit -/
def vOf (m : Limit) (p : Put) : Int := p.wt * (m.a + m.b * p.pos)
def better (m : Limit) (b p : Put) : Put := if vOf m b < vOf m p then p else b
def corners (x : Load) : List Put := [⟨x.alo, x.wlo⟩, ⟨x.ahi, x.wlo⟩, ⟨x.alo, x.whi⟩, ⟨x.ahi, x.whi⟩]
def best1 (m : Limit) (x : Load) : Put := better m ⟨x.alo, x.wlo⟩ ⟨x.ahi, x.wlo⟩
def best2 (m : Limit) (x : Load) : Put := better m (best1 m x) ⟨x.alo, x.whi⟩
def best (m : Limit) (x : Load) : Put := better m (best2 m x) ⟨x.ahi, x.whi⟩
def choice (m : Limit) (xs : List Load) : List Put := xs.map (best m)
def value (m : Limit) (ps : List Put) : Int := sumBy (vOf m) ps
def worstV (m : Limit) (xs : List Load) : Int := value m (choice m xs)
def putB (p : Put) : Prop := (-20000 ≤ p.pos ∧ p.pos ≤ 20000) ∧ -1073741824 ≤ p.wt ∧ p.wt ≤ 1073741824
theorem corner_B {x : Load} (h : loadB x = true) {p : Put} (hp : p ∈ corners x) : putB p := by
  have h := loadB_bd h
  simp only [corners, List.mem_cons, List.not_mem_nil, or_false] at hp
  rcases hp with rfl | rfl | rfl | rfl <;> (unfold putB; simp only; omega)
theorem better_of {m : Limit} {b p : Put} : better m b p = b ∨ better m b p = p := by unfold better; split <;> simp
theorem best1_mem (m : Limit) (x : Load) : best1 m x ∈ corners x := by
  unfold best1; rcases better_of (m := m) (b := ⟨x.alo, x.wlo⟩) (p := ⟨x.ahi, x.wlo⟩) with h | h <;> rw [h] <;> simp [corners]
theorem best2_mem (m : Limit) (x : Load) : best2 m x ∈ corners x := by
  unfold best2; rcases better_of (m := m) (b := best1 m x) (p := ⟨x.alo, x.whi⟩) with h | h <;> rw [h]
  · exact best1_mem m x
  · simp [corners]
theorem best_mem (m : Limit) (x : Load) : best m x ∈ corners x := by
  unfold best; rcases better_of (m := m) (b := best2 m x) (p := ⟨x.ahi, x.whi⟩) with h | h <;> rw [h]
  · exact best2_mem m x
  · simp [corners]
theorem limitB_bd {m : Limit} (h : limitB m = true) : (-1000 ≤ m.a ∧ m.a ≤ 1000) ∧ (-1000 ≤ m.b ∧ m.b ≤ 1000) ∧ -1000000000000000000 ≤ m.c ∧ m.c ≤ 1000000000000000000 := by
  simp [limitB, inB] at h; omega
/-- the products of a valid limit and a put in its bounds -/
theorem put_bd {m : Limit} {p : Put} (hm : limitB m = true) (hp : putB p) :
    (-20000000 ≤ m.b * p.pos ∧ m.b * p.pos ≤ 20000000) ∧ (-20001000 ≤ m.a + m.b * p.pos ∧ m.a + m.b * p.pos ≤ 20001000) ∧ -22000000000000000 ≤ p.wt * (m.a + m.b * p.pos) ∧ p.wt * (m.a + m.b * p.pos) ≤ 22000000000000000 := by
  obtain ⟨h1, h2, _⟩ := limitB_bd hm
  obtain ⟨h3, h4⟩ := hp
  have p1 := mul_bd (A := 1000) (B := 20000) h2.1 h2.2 h3.1 h3.2
  have p2 := mul_bd (A := 1073741824) (B := 20001000) (x := p.wt) (y := m.a + m.b * p.pos) h4.1 h4.2 (by omega) (by omega)
  refine ⟨by omega, by omega, by omega, by omega⟩
theorem vOf_bd {m : Limit} {p : Put} (hm : limitB m = true) (hp : putB p) : -22000000000000000 ≤ vOf m p ∧ vOf m p ≤ 22000000000000000 := (put_bd hm hp).2.2
theorem best_bd {m : Limit} {x : Load} (hm : limitB m = true) (hx : loadB x = true) : -22000000000000000 ≤ vOf m (best m x) ∧ vOf m (best m x) ≤ 22000000000000000 := vOf_bd hm (corner_B hx (best_mem m x))
theorem sumBy_map {α β : Type} (g : β → Int) (f : α → β) (xs : List α) : sumBy g (xs.map f) = sumBy (fun x => g (f x)) xs := by
  induction xs with
  | nil => rfl
  | cons x xs ih => rw [List.map_cons, sumBy_cons, sumBy_cons, ih]
theorem worstV_eq (m : Limit) (xs : List Load) : worstV m xs = sumBy (fun x => vOf m (best m x)) xs := sumBy_map _ _ _
theorem choice_len (m : Limit) (xs : List Load) : (choice m xs).length = xs.length := by simp [choice]
/-- the first of the first n numbers of which f is true -/
def firstOf (f : Nat → Bool) (n : Nat) : Option Nat := (List.range n).find? f
theorem firstOf_some {f : Nat → Bool} {n k : Nat} (hk : k < n) (hb : ∀ j, j < k → f j = false) (h : f k = true) : firstOf f n = some k := by
  unfold firstOf
  rw [List.find?_range_eq_some]
  exact ⟨h, by simpa using hk, fun j hj => by simp [hb j hj]⟩
theorem firstOf_none {f : Nat → Bool} {n : Nat} (hb : ∀ j, j < n → f j = false) : firstOf f n = none := by
  unfold firstOf
  rw [List.find?_range_eq_none]
  intro j hj
  simp [hb j hj]
/-- whether loads break the limit of a number -/
def brk (xs : List Load) (ms : List Limit) (i : Nat) : Bool := match ms[i]? with | some m => decide (m.c < worstV m xs) | none => false
theorem brk_at {xs : List Load} {ms : List Limit} {i : Nat} (hi : i < ms.length) : brk xs ms i = decide (ms[i].c < worstV ms[i] xs) := by
  unfold brk; rw [List.getElem?_eq_getElem hi]
def broken (xs : List Load) (ms : List Limit) : Option Nat := firstOf (brk xs ms) ms.length
def optN (o : Option Nat) : Int := match o with | some i => i | none => 0
def optM (o : Option Nat) : Int := match o with | some i => i | none => -1
def both (xs : List Load) (ms : List Limit) : Int := if checkLoads xs = 0 then checkLimits ms else checkLoads xs
theorem both_ok {xs : List Load} {ms : List Limit} (h : both xs ms = 0) : checkLoads xs = 0 ∧ checkLimits ms = 0 := by
  unfold both at h; split at h
  · rename_i h1; exact ⟨h1, h⟩
  · rename_i h1; exact absurd h h1
/-! ### Shear and bending -/
end Bal.Trim

/-
  Breaches and what proves one: the plain side.
-/
namespace Bal.Trim
def brP (xs : List Load) (ms : List Limit) (o : Option Nat) : List Put := match o with | some i => (match ms[i]? with | some m => choice m xs | none => []) | none => []
theorem broken_some {xs : List Load} {ms : List Limit} {k : Nat} (hk : k < ms.length) (hb : ∀ j, j < k → brk xs ms j = false) (h : ms[k].c < worstV ms[k] xs) : broken xs ms = some k :=
  firstOf_some hk hb (by rw [brk_at hk]; exact decide_eq_true h)
theorem broken_none {xs : List Load} {ms : List Limit} (hb : ∀ j, j < ms.length → brk xs ms j = false) : broken xs ms = none := firstOf_none hb
theorem brk_false {xs : List Load} {ms : List Limit} {k : Nat} (hk : k < ms.length) (h : ¬ ms[k].c < worstV ms[k] xs) : brk xs ms k = false := by rw [brk_at hk]; exact decide_eq_false h
theorem brP_at {xs : List Load} {ms : List Limit} {k : Nat} (hk : k < ms.length) : brP xs ms (some k) = choice ms[k] xs := by
  simp only [brP, List.getElem?_eq_getElem hk]
end Bal.Trim

/-
  The first of the fewest: all sets of numbers below n in order; one pass over all of them in any order keeps the first good one. Plain Lean.
-/
namespace Bal.Trim
/-- whether the indices of one list come before those of another one, of as many -/
def earlier : List Nat → List Nat → Bool
  | a :: as, b :: bs => if a = b then earlier as bs else decide (a < b)
  | _, _ => false
/-- fewer first, then by earlier -/
def before (a b : List Nat) : Bool := decide (a.length < b.length) || (decide (a.length = b.length) && earlier a b)
/-! ### The sets in order, and as a number's bits tell them -/
def combs (n : Nat) : Nat → Nat → List (List Nat)
  | 0, _ => [[]]
  | s + 1, lo => (List.range (n - lo)).flatMap fun d => (combs n s (lo + d + 1)).map (fun l => (lo + d) :: l)
/-- all sets of numbers below n: the smaller ones first -/
def order (n : Nat) : List (List Nat) := (List.range (n + 1)).flatMap fun s => combs n s 0
/-- the numbers of the bits that are set, of the first k -/
def listed (m : Nat) : Nat → Nat → List Nat
  | _, 0 => []
  | lo, k + 1 => if m.testBit lo then lo :: listed m (lo + 1) k else listed m (lo + 1) k
/-! ### One list behind the other, as the program makes them -/
/-- the list that follows -/
def next (n : Nat) : List Nat → Option (List Nat)
  | [] => none
  | a :: as => match next n as with
    | some as' => some (a :: as')
    | none => if a + 1 + as.length < n then some (List.range' (a + 1) (as.length + 1)) else none
end Bal.Trim

/-
  The bags: the loads that stay, the first good set; runs of lists; a number's bits. Plain Lean.
-/
namespace Bal.Trim
set_option linter.unusedVariables false
/-! ### A number's bits -/
/-! ### The loads that stay -/
def exactL (p : Put) : Load := ⟨p.pos, p.pos, p.wt, p.wt⟩
def bagB (p : Put) : Bool := inB p.pos (-20000) 20000 && inB p.wt 1 1000000
def stay (bs : List Put) (f : Nat → Bool) : Nat → List Load
  | 0 => []
  | k + 1 => stay bs f k ++ (if f k then [] else match bs[k]? with | some b => [exactL b] | none => [])
theorem exact_B {p : Put} (h : bagB p = true) : loadB (exactL p) = true := by
  simp only [bagB, inB, Bool.and_eq_true, decide_eq_true_eq] at h
  show (spanB p.pos p.pos 20000 && spanB p.wt p.wt 1073741824) = true
  simp only [spanB, Bool.and_eq_true, decide_eq_true_eq]
  omega
def left (xs : List Load) (bs : List Put) (x : List Nat) : List Load := xs ++ stay bs (fun i => decide (i ∈ x)) bs.length
def many (xs : List Load) (bs : List Put) : Bool := decide (10 < bs.length) || decide (40 < xs.length + bs.length)
end Bal.Trim

/-
  Stowages: what the document says of them, and a search with pruning: plain Lean, no program in sight.
-/
namespace Bal.Trim
def holdB (h : Hold) : Bool := inB h.pos (-20000) 20000 && inB h.room 0 1073741824
def parcelB (p : Parcel) : Bool := inB p.wt 1 1000000 && inB p.cls 0 9
def ruleB (r : Rule) : Bool := inB r.a 0 9 && inB r.b 0 9 && inB r.apart 1 5
/-- what is to be stowed, and how -/
structure Fr where
  xs : List Load
  hs : List Hold
  ps : List Parcel
  rs : List Rule
  ms : List Limit
def frMany (F : Fr) : Bool := decide (5 < F.hs.length) || decide (6 < F.ps.length) || decide (20 < F.rs.length) || decide (40 < F.xs.length + F.ps.length)
def frB (F : Fr) : Bool := F.hs.all holdB && F.ps.all parcelB && F.rs.all ruleB
def frE (F : Fr) : Int := if both F.xs F.ms = 0 then (if frMany F then 4 else if frB F then 0 else 43) else both F.xs F.ms
def ruleHit (a b d : Int) (r : Rule) : Bool := decide (d < r.apart) && ((decide (r.a = a) && decide (r.b = b)) || (decide (r.a = b) && decide (r.b = a)))
def nearB (rs : List Rule) (a b d : Int) : Bool := rs.any (ruleHit a b d)
theorem ruleHit_comm (a b d : Int) (r : Rule) : ruleHit a b d r = ruleHit b a d r := by
  unfold ruleHit
  rw [Bool.or_comm]
theorem nearB_comm (rs : List Rule) (a b d : Int) : nearB rs a b d = nearB rs b a d := by
  unfold nearB
  congr 1
  funext r
  exact ruleHit_comm a b d r
def gap (i k : Int) : Int := max (i - k) (k - i)
theorem gap_comm (i k : Int) : gap i k = gap k i := by unfold gap; omega
def psAt (F : Fr) (i : Nat) : Parcel := F.ps.getD i default
def hsAt (F : Fr) (i : Nat) : Hold := F.hs.getD i default
/-- the weight in a hold -/
def wtIn (ps : List Parcel) (s : List Nat) (k : Nat) : Int := sumBy (fun x : Nat × Parcel => if x.1 = k then x.2.wt else 0) (s.zip ps)
def leftIn (F : Fr) (s : List Nat) (k : Nat) : Int := (hsAt F k).room - wtIn F.ps s k
def roomsOk (F : Fr) (s : List Nat) : Bool := (List.range F.hs.length).all fun k => decide (0 ≤ leftIn F s k)
/-- whether the next parcel would be too near in a hold -/
def nearAt (F : Fr) (s : List Nat) (n : Nat) (k : Int) (i : Nat) : Bool := nearB F.rs (psAt F i).cls (psAt F n).cls (gap (s.getD i 0 : Nat) k)
def nearNew (F : Fr) (s : List Nat) (k : Nat) : Bool := (List.range s.length).any (nearAt F s s.length k)
def nearAny (F : Fr) (s : List Nat) : Bool := (List.range s.length).any fun i => (List.range i).any (nearAt F s i (s.getD i 0 : Nat))
def puts (F : Fr) (s : List Nat) : List Load := (s.zip F.ps).map fun x => exactL ⟨(hsAt F x.1).pos, x.2.wt⟩
def offB (F : Fr) (s : List Nat) : Bool := (broken (F.xs ++ puts F s) F.ms).isSome
def faultS (F : Fr) (s : List Nat) : Int := if roomsOk F s then (if nearAny F s then 45 else if offB F s then 46 else 0) else 44
def argS (F : Fr) (t : List Int) : Bool := decide (t.length = F.ps.length) && t.all fun k => inB k 0 (F.hs.length - 1)
def checkStowE (F : Fr) (t : List Int) : Int := if frE F = 0 then (if argS F t then faultS F (t.map Int.toNat) else 2) else frE F
def lex (H : Nat) : Nat → List (List Nat)
  | 0 => [[]]
  | m + 1 => (List.range H).flatMap fun k => (lex H m).map (k :: ·)
def okS (F : Fr) (s : List Nat) : Bool := decide (faultS F s = 0)
def stowS (F : Fr) : Option (List Nat) := (lex F.hs.length F.ps.length).find? (okS F)
def stowE (F : Fr) : Int := if frE F = 0 then (match stowS F with | some _ => 0 | none => 6) else frE F
def stowL (F : Fr) : List Int := if frE F = 0 then (match stowS F with | some s => s.map Int.ofNat | none => []) else []
def goodS (F : Fr) (s : List Nat) : Bool := roomsOk F s && !nearAny F s
def fitS (F : Fr) (s : List Nat) (k : Nat) : Bool := decide (0 ≤ leftIn F (s ++ [k]) k) && !nearNew F s k
/-- the search: parcel by parcel, with those holds alone that fit -/
def search (F : Fr) : Nat → List Nat → Option (List Nat)
  | 0, s => if offB F s then none else some s
  | m + 1, s => (List.range F.hs.length).findSome? fun k => if fitS F s k then search F m (s ++ [k]) else none
theorem zip_snoc {ps : List Parcel} {s : List Nat} (k : Nat) (h : s.length < ps.length) : (s ++ [k]).zip ps = s.zip ps ++ [(k, ps[s.length])] := by
  induction s generalizing ps with
  | nil =>
    cases ps with
    | nil => simp at h
    | cons p ps => simp
  | cons x s ih =>
    cases ps with
    | nil => simp at h
    | cons p ps =>
      simp only [List.cons_append, List.zip_cons_cons, List.length_cons, List.getElem_cons_succ]
      rw [ih (by simpa using h)]
theorem wtIn_snoc {ps : List Parcel} {s : List Nat} (k j : Nat) (h : s.length < ps.length) : wtIn ps (s ++ [k]) j = wtIn ps s j + if k = j then ps[s.length].wt else 0 := by
  unfold wtIn
  rw [zip_snoc k h, sumBy_append, sumBy_cons, sumBy_nil]
  simp
theorem getD_snoc {s : List Nat} {i k : Nat} (h : i < s.length) : (s ++ [k]).getD i 0 = s.getD i 0 := by
  simp [List.getD_eq_getElem?_getD, List.getElem?_append_left h]
theorem any_congr {α : Type} {l : List α} {f g : α → Bool} (h : ∀ x ∈ l, f x = g x) : l.any f = l.any g := by
  induction l with
  | nil => rfl
  | cons x l ih => rw [List.any_cons, List.any_cons, h x (by simp), ih fun y hy => h y (by simp [hy])]
theorem nearAny_snoc (F : Fr) (s : List Nat) (k : Nat) : nearAny F (s ++ [k]) = (nearAny F s || nearNew F s k) := by
  unfold nearAny nearNew
  rw [List.length_append, List.length_singleton, List.range_succ, List.any_append]
  congr 1
  · apply any_congr
    intro i hi
    have hi : i < s.length := by simpa using hi
    rw [getD_snoc hi]
    apply any_congr
    intro j hj
    have hj : j < i := by simpa using hj
    unfold nearAt
    rw [getD_snoc (by omega)]
  · simp only [List.any_cons, List.any_nil, Bool.or_false]
    rw [show (s ++ [k]).getD s.length 0 = k by simp [List.getD_eq_getElem?_getD]]
    apply any_congr
    intro j hj
    have hj : j < s.length := by simpa using hj
    unfold nearAt
    rw [getD_snoc hj]
theorem rooms_snoc {F : Fr} (hw : ∀ p ∈ F.ps, 0 ≤ p.wt) {s : List Nat} {k : Nat} (hk : k < F.hs.length) (h : s.length < F.ps.length) : roomsOk F (s ++ [k]) = (roomsOk F s && decide (0 ≤ leftIn F (s ++ [k]) k)) := by
  have hp := hw _ (List.getElem_mem h)
  rw [Bool.eq_iff_iff]
  simp only [roomsOk, List.all_eq_true, List.mem_range, Bool.and_eq_true, decide_eq_true_eq]
  have e : ∀ j, leftIn F (s ++ [k]) j = leftIn F s j - if k = j then F.ps[s.length].wt else 0 := fun j => by
    unfold leftIn
    rw [wtIn_snoc k j h]
    omega
  constructor
  · intro hh
    refine ⟨fun j hj => ?_, hh k hk⟩
    have := hh j hj
    rw [e] at this
    split at this <;> omega
  · rintro ⟨h1, h2⟩ j hj
    by_cases hkj : k = j
    · subst hkj; exact h2
    · rw [e, if_neg hkj]
      have := h1 j hj
      omega
theorem good_snoc {F : Fr} (hw : ∀ p ∈ F.ps, 0 ≤ p.wt) {s : List Nat} {k : Nat} (hk : k < F.hs.length) (h : s.length < F.ps.length) : goodS F (s ++ [k]) = (goodS F s && fitS F s k) := by
  unfold goodS fitS
  rw [rooms_snoc hw hk h, nearAny_snoc]
  cases roomsOk F s <;> cases decide (0 ≤ leftIn F (s ++ [k]) k) <;> cases nearAny F s <;> cases nearNew F s k <;> rfl
theorem lex_mem {H : Nat} : ∀ {m : Nat} {t : List Nat}, t ∈ lex H m → t.length = m ∧ ∀ k ∈ t, k < H
  | 0, t, h => by
    have : t = [] := by simpa [lex] using h
    subst this
    simp
  | m + 1, t, h => by
    simp only [lex, List.mem_flatMap, List.mem_range, List.mem_map] at h
    obtain ⟨k, hk, u, hu, rfl⟩ := h
    obtain ⟨h1, h2⟩ := lex_mem hu
    refine ⟨by simp [h1], fun j hj => ?_⟩
    rcases List.mem_cons.1 hj with rfl | hj
    · exact hk
    · exact h2 j hj
theorem ok_good {F : Fr} {s : List Nat} (h : okS F s = true) : goodS F s = true := by
  unfold okS faultS at h
  unfold goodS
  cases h1 : roomsOk F s
  · simp [h1] at h
  · cases h2 : nearAny F s
    · rfl
    · simp [h1, h2] at h
theorem bad_all {F : Fr} (hw : ∀ p ∈ F.ps, 0 ≤ p.wt) : ∀ (t s : List Nat), s.length + t.length = F.ps.length → (∀ k ∈ t, k < F.hs.length) → goodS F s = false → okS F (s ++ t) = false
  | [], s, _, _, hg => by
    cases h : okS F (s ++ [])
    · rfl
    · rw [List.append_nil] at h
      rw [ok_good h] at hg
      cases hg
  | k :: t, s, hl, hk, hg => by
    have h := bad_all hw t (s ++ [k]) (by simp at hl ⊢; omega) (fun j hj => hk j (by simp [hj])) (by rw [good_snoc hw (hk k (by simp)) (by simp at hl; omega), hg]; rfl)
    rwa [List.append_assoc] at h
theorem search_eq {F : Fr} (hw : ∀ p ∈ F.ps, 0 ≤ p.wt) : ∀ (m : Nat) (s : List Nat), s.length + m = F.ps.length → goodS F s = true → search F m s = ((lex F.hs.length m).map (s ++ ·)).find? (okS F)
  | 0, s, hl, hg => by
    unfold search
    have e : okS F s = !offB F s := by
      unfold goodS at hg
      unfold okS faultS
      cases h1 : roomsOk F s
      · simp [h1] at hg
      · cases h2 : nearAny F s
        · cases h3 : offB F s <;> simp
        · simp [h1, h2] at hg
    simp only [lex, List.map_cons, List.map_nil, List.append_nil, List.find?_cons, List.find?_nil, e]
    cases offB F s <;> rfl
  | m + 1, s, hl, hg => by
    unfold search
    rw [lex, List.map_flatMap, List.find?_flatMap]
    have e : ∀ k ∈ List.range F.hs.length, (if fitS F s k = true then search F m (s ++ [k]) else none) = (((lex F.hs.length m).map (k :: ·)).map (s ++ ·)).find? (okS F) := by
      intro k hk
      have hk : k < F.hs.length := by simpa using hk
      have e1 : ((lex F.hs.length m).map (k :: ·)).map (s ++ ·) = (lex F.hs.length m).map ((s ++ [k]) ++ ·) := by
        rw [List.map_map]
        apply List.map_congr_left
        intro t _
        simp
      rw [e1]
      have hgs := good_snoc hw (s := s) hk (by omega)
      rw [hg, Bool.true_and] at hgs
      cases hf : fitS F s k
      · rw [hf] at hgs
        rw [if_neg (by simp), eq_comm, List.find?_eq_none]
        intro x hx
        rw [List.mem_map] at hx
        obtain ⟨t, ht, rfl⟩ := hx
        obtain ⟨h1, h2⟩ := lex_mem ht
        rw [bad_all hw t (s ++ [k]) (by simp; omega) h2 hgs]
        simp
      · rw [hf] at hgs
        rw [if_pos rfl]
        exact search_eq hw m (s ++ [k]) (by simp; omega) hgs
    have key : ∀ (l : List Nat), (∀ k ∈ l, (if fitS F s k = true then search F m (s ++ [k]) else none) = (((lex F.hs.length m).map (k :: ·)).map (s ++ ·)).find? (okS F)) →
        l.findSome? (fun k => if fitS F s k = true then search F m (s ++ [k]) else none) = l.findSome? (fun k => (((lex F.hs.length m).map (k :: ·)).map (s ++ ·)).find? (okS F)) := by
      intro l hl
      induction l with
      | nil => rfl
      | cons k l ih => rw [List.findSome?_cons, List.findSome?_cons, hl k (by simp), ih fun j hj => hl j (by simp [hj])]
    exact key _ e
theorem good_nil {F : Fr} (hh : ∀ h ∈ F.hs, 0 ≤ h.room) : goodS F [] = true := by
  unfold goodS roomsOk nearAny
  simp only [List.length_nil, List.range_zero, List.any_nil, Bool.not_false, Bool.and_true, List.all_eq_true, List.mem_range, decide_eq_true_eq]
  intro k hk
  have e : hsAt F k = F.hs[k] := by simp [hsAt, hk]
  unfold leftIn wtIn
  rw [e]
  have := hh _ (List.getElem_mem hk)
  simpa using this
theorem stow_search {F : Fr} (hw : ∀ p ∈ F.ps, 0 ≤ p.wt) (hh : ∀ h ∈ F.hs, 0 ≤ h.room) : stowS F = search F F.ps.length [] := by
  rw [search_eq hw _ _ (by simp) (good_nil hh)]
  unfold stowS
  simp
/-! ### The stowages by number -/
def digs (H : Nat) : Nat → Nat → List Nat
  | 0, _ => []
  | m + 1, n => digs H m (n / H) ++ [n % H]
theorem digs_len (H : Nat) : ∀ m n, (digs H m n).length = m
  | 0, _ => rfl
  | m + 1, n => by simp [digs, digs_len H m]
theorem range_mul (a b : Nat) : List.range (a * b) = (List.range a).flatMap fun q => (List.range b).map fun r => q * b + r := by
  induction a with
  | zero => simp
  | succ a ih =>
    rw [Nat.succ_mul, List.range_add, ih, List.range_succ, List.flatMap_append]
    simp
def lexr (H : Nat) : Nat → List (List Nat)
  | 0 => [[]]
  | m + 1 => (lexr H m).flatMap fun t => (List.range H).map fun r => t ++ [r]
theorem lexr_digs (H : Nat) : ∀ m, lexr H m = (List.range (H ^ m)).map (digs H m)
  | 0 => by simp [lexr, digs]
  | m + 1 => by
    rw [lexr, lexr_digs H m, Nat.pow_succ, range_mul, List.map_flatMap, List.flatMap_map]
    congr 1
    funext q
    rw [List.map_map]
    apply List.map_congr_left
    intro r hr
    have hr : r < H := by simpa using hr
    simp only [Function.comp, digs]
    rw [show (q * H + r) / H = q by rw [Nat.mul_comm, Nat.mul_add_div (by omega), Nat.div_eq_of_lt hr, Nat.add_zero], show (q * H + r) % H = r by rw [Nat.mul_comm, Nat.mul_add_mod, Nat.mod_eq_of_lt hr]]
theorem lexr_cons (H : Nat) : ∀ m, lexr H (m + 1) = (List.range H).flatMap fun k => (lexr H m).map (k :: ·)
  | 0 => by simp [lexr, List.map_eq_flatMap]
  | m + 1 => by
    rw [lexr, lexr_cons H m, List.flatMap_assoc]
    congr 1
    funext k
    rw [List.flatMap_map, ← lexr_cons H m, show lexr H (m + 1) = (lexr H m).flatMap fun t => (List.range H).map fun r => t ++ [r] from rfl, List.map_flatMap]
    congr 1
    funext t
    simp
theorem lex_lexr (H : Nat) : ∀ m, lex H m = lexr H m
  | 0 => rfl
  | m + 1 => by rw [lexr_cons, lex, lex_lexr H m]
theorem lex_digs (H m : Nat) : lex H m = (List.range (H ^ m)).map (digs H m) := by rw [lex_lexr, lexr_digs]
end Bal.Trim

/-
  Stowages: the steps of the loops that check and find them: plain Lean, no program in sight.
-/
namespace Bal.Trim
structure FrOk (F : Fr) : Prop where
  both : both F.xs F.ms = 0
  hn : F.hs.length ≤ 5
  pn : F.ps.length ≤ 6
  rn : F.rs.length ≤ 20
  ln : F.xs.length + F.ps.length ≤ 40
  hB : ∀ h ∈ F.hs, holdB h = true
  pB : ∀ p ∈ F.ps, parcelB p = true
  rB : ∀ r ∈ F.rs, ruleB r = true
theorem frE_ok {F : Fr} (h : frE F = 0) : FrOk F := by
  unfold frE at h
  by_cases h1 : Bal.Trim.both F.xs F.ms = 0
  · rw [if_pos h1] at h
    cases h2 : frMany F
    · rw [h2, if_neg (by simp)] at h
      cases h3 : frB F
      · rw [h3] at h
        simp at h
      · unfold frMany at h2
        unfold frB at h3
        simp only [Bool.or_eq_false_iff, decide_eq_false_iff_not, Bool.and_eq_true, List.all_eq_true] at h2 h3
        exact ⟨h1, by omega, by omega, by omega, by omega, h3.1.1, h3.1.2, h3.2⟩
    · rw [h2] at h
      simp at h
  · rw [if_neg h1] at h
    exact absurd h h1
theorem hold_bd {h : Hold} (hh : holdB h = true) : -20000 ≤ h.pos ∧ h.pos ≤ 20000 ∧ 0 ≤ h.room ∧ h.room ≤ 1073741824 := by
  simp only [holdB, inB, Bool.and_eq_true, decide_eq_true_eq] at hh
  omega
theorem parcel_bd {p : Parcel} (hh : parcelB p = true) : 1 ≤ p.wt ∧ p.wt ≤ 1000000 ∧ 0 ≤ p.cls ∧ p.cls ≤ 9 := by
  simp only [parcelB, inB, Bool.and_eq_true, decide_eq_true_eq] at hh
  omega
theorem psAt_eq {F : Fr} {i : Nat} (h : i < F.ps.length) : psAt F i = F.ps[i] := by simp [psAt, h]
theorem hsAt_eq {F : Fr} {i : Nat} (h : i < F.hs.length) : hsAt F i = F.hs[i] := by simp [hsAt, h]
theorem wt_ok {F : Fr} (h : FrOk F) : ∀ p ∈ F.ps, 0 ≤ p.wt := fun p hp => by have := parcel_bd (h.pB p hp); omega
theorem room_ok {F : Fr} (h : FrOk F) : ∀ p ∈ F.hs, 0 ≤ p.room := fun p hp => by have := hold_bd (h.hB p hp); omega
theorem left_nil (F : Fr) (k : Nat) : leftIn F [] k = (hsAt F k).room := by simp [leftIn, wtIn]
theorem left_snoc {F : Fr} {s : List Nat} (k j : Nat) (h : s.length < F.ps.length) : leftIn F (s ++ [k]) j = leftIn F s j - if k = j then (psAt F s.length).wt else 0 := by
  unfold leftIn
  rw [wtIn_snoc k j h, psAt_eq h]
  omega
theorem left_same {F : Fr} {s : List Nat} (k : Nat) (h : s.length < F.ps.length) : leftIn F (s ++ [k]) k = leftIn F s k - (psAt F s.length).wt := by
  rw [left_snoc k k h, if_pos rfl]
theorem wtIn_bd {ps : List Parcel} (h : ∀ p ∈ ps, 0 ≤ p.wt ∧ p.wt ≤ 1000000) (s : List Nat) (k : Nat) : 0 ≤ wtIn ps s k ∧ wtIn ps s k ≤ 1000000 * ps.length := by
  unfold wtIn
  have h1 : ∀ x ∈ s.zip ps, 0 ≤ (if x.1 = k then x.2.wt else 0) ∧ (if x.1 = k then x.2.wt else 0) ≤ 1000000 := fun x hx => by
    have := h x.2 (List.of_mem_zip hx).2
    split <;> omega
  have h2 : (s.zip ps).length ≤ ps.length := by rw [List.length_zip]; omega
  have key : ∀ l : List (Nat × Parcel), (∀ x ∈ l, 0 ≤ (if x.1 = k then x.2.wt else 0) ∧ (if x.1 = k then x.2.wt else 0) ≤ 1000000) → 0 ≤ sumBy (fun x : Nat × Parcel => if x.1 = k then x.2.wt else 0) l ∧ sumBy (fun x : Nat × Parcel => if x.1 = k then x.2.wt else 0) l ≤ 1000000 * l.length := by
    intro l hl
    induction l with
    | nil => simp
    | cons x l ih =>
      have h3 := hl x (by simp)
      have h4 := ih fun y hy => hl y (by simp [hy])
      rw [sumBy_cons]
      simp only [List.length_cons]
      omega
  have := key _ h1
  omega
theorem left_bd {F : Fr} (h : FrOk F) (s : List Nat) (k : Nat) : -6000000 ≤ leftIn F s k ∧ leftIn F s k ≤ 1073741824 := by
  have h1 := wtIn_bd (ps := F.ps) (fun p hp => by have := parcel_bd (h.pB p hp); omega) s k
  have h2 := h.pn
  unfold leftIn
  by_cases hk : k < F.hs.length
  · rw [hsAt_eq hk]
    have := hold_bd (h.hB _ (List.getElem_mem hk))
    omega
  · have : hsAt F k = default := by simp [hsAt, List.getD_eq_getElem?_getD, List.getElem?_eq_none (Nat.le_of_not_lt hk)]
    rw [this]
    have : (default : Hold).room = 0 := rfl
    omega
theorem left_out {F : Fr} {s : List Nat} {j : Nat} (hs : ∀ k ∈ s, k < F.hs.length) (hj : F.hs.length ≤ j) : leftIn F s j = 0 := by
  have e : hsAt F j = default := by simp [hsAt, List.getD_eq_getElem?_getD, List.getElem?_eq_none hj]
  have key : ∀ l : List (Nat × Parcel), (∀ x ∈ l, x.1 < F.hs.length) → sumBy (fun x : Nat × Parcel => if x.1 = j then x.2.wt else 0) l = 0 := by
    intro l hl
    induction l with
    | nil => rfl
    | cons x l ih =>
      rw [sumBy_cons, ih fun y hy => hl y (by simp [hy])]
      have := hl x (by simp)
      simp
      omega
  unfold leftIn wtIn
  rw [e, key _ fun x hx => hs x.1 (List.of_mem_zip hx).1]
  rfl
theorem wtIn_take {ps : List Parcel} {s : List Nat} {i : Nat} (k : Nat) (hi : i < s.length) (hl : s.length ≤ ps.length) : wtIn ps (s.take (i + 1)) k = wtIn ps (s.take i) k + if s[i] = k then (ps[i]'(by omega)).wt else 0 := by
  rw [List.take_succ_eq_append_getElem hi, wtIn_snoc _ _ (by rw [List.length_take]; omega)]
  have : (s.take i).length = i := by rw [List.length_take]; omega
  simp only [this]
/-! ### The search -/
def stepS (F : Fr) (m : Nat) (s : List Nat) (k : Nat) : Option (List Nat) := if fitS F s k then search F m (s ++ [k]) else none
theorem search_found {F : Fr} {m : Nat} {s : List Nat} {k : Nat} {x : List Nat} (hk : k < F.hs.length) (hno : ∀ j, j < k → stepS F m s j = none) (h : stepS F m s k = some x) : search F (m + 1) s = some x := by
  unfold search
  change (List.range F.hs.length).findSome? (stepS F m s) = some x
  rw [show F.hs.length = k + (1 + (F.hs.length - k - 1)) by omega, List.range_add, List.findSome?_append, List.findSome?_eq_none_iff.2 fun j hj => hno j (by simpa using hj)]
  rw [show 1 + (F.hs.length - k - 1) = (F.hs.length - k - 1) + 1 by omega, List.range_succ_eq_map]
  simp only [List.map_cons, List.findSome?_cons, Nat.add_zero, Option.none_or, h]
theorem search_none {F : Fr} {m : Nat} {s : List Nat} (hno : ∀ j, j < F.hs.length → stepS F m s j = none) : search F (m + 1) s = none := by
  unfold search
  rw [List.findSome?_eq_none_iff]
  intro j hj
  exact hno j (by simpa using hj)
theorem step_room {F : Fr} {m : Nat} {s : List Nat} {k : Nat} (h : leftIn F (s ++ [k]) k < 0) : stepS F m s k = none := by
  unfold stepS fitS
  rw [decide_eq_false (by omega)]
  rfl
theorem step_near {F : Fr} {m : Nat} {s : List Nat} {k i : Nat} (hi : i < s.length) (h : nearAt F s s.length k i = true) : stepS F m s k = none := by
  unfold stepS fitS
  have : nearNew F s k = true := List.any_eq_true.2 ⟨i, by simpa using hi, h⟩
  rw [this]
  simp
theorem step_fit {F : Fr} {m : Nat} {s : List Nat} {k : Nat} (h1 : 0 ≤ leftIn F (s ++ [k]) k) (h2 : ∀ i, i < s.length → nearAt F s s.length k i = false) : stepS F m s k = search F m (s ++ [k]) := by
  unfold stepS fitS
  have : nearNew F s k = false := by
    unfold nearNew
    rw [List.any_eq_false]
    intro i hi
    rw [h2 i (by simpa using hi)]
    simp
  rw [this, decide_eq_true h1]
  rfl
theorem search_done {F : Fr} {s : List Nat} : search F 0 s = if offB F s then none else some s := rfl
/-! ### What is put, one by one -/
theorem puts_len {F : Fr} {s : List Nat} (h : s.length ≤ F.ps.length) : (puts F s).length = s.length := by
  simp [puts, List.length_zip]; omega
theorem puts_take {F : Fr} {s : List Nat} {i : Nat} (hi : i < s.length) (h : s.length ≤ F.ps.length) : (puts F s).take (i + 1) = (puts F s).take i ++ [exactL ⟨(hsAt F s[i]).pos, (psAt F i).wt⟩] := by
  have hl : i < (puts F s).length := by rw [puts_len h]; exact hi
  rw [List.take_succ_eq_append_getElem hl, psAt_eq (by omega)]
  simp [puts]
theorem puts_B {F : Fr} (ho : FrOk F) {s : List Nat} (hs : ∀ k ∈ s, k < F.hs.length) : ∀ y ∈ puts F s, loadB y = true := by
  intro y hy
  simp only [puts, List.mem_map] at hy
  obtain ⟨x, hx, rfl⟩ := hy
  have h1 := hs x.1 (List.of_mem_zip hx).1
  have h2 := parcel_bd (ho.pB x.2 (List.of_mem_zip hx).2)
  have h3 := hold_bd (ho.hB _ (List.getElem_mem h1))
  rw [hsAt_eq h1]
  exact exact_B (by simp only [bagB, inB, Bool.and_eq_true, decide_eq_true_eq]; omega)
theorem puts_both {F : Fr} (ho : FrOk F) {s : List Nat} (hs : ∀ k ∈ s, k < F.hs.length) (hl : s.length ≤ F.ps.length) : both (F.xs ++ puts F s) F.ms = 0 := by
  obtain ⟨h1, h2⟩ := both_ok ho.both
  obtain ⟨h3, h4⟩ := checkLoads_ok h1
  have h5 := ho.ln
  unfold both
  rw [if_pos, h2]
  refine checkList_ok ?_ ?_
  · rw [List.length_append, puts_len hl]; omega
  · rw [List.all_eq_true]
    intro y hy
    rcases List.mem_append.1 hy with hy | hy
    · exact h4 y hy
    · exact puts_B ho hs y hy
/-! ### The check of a stowage -/
theorem rooms_bad {F : Fr} {s : List Nat} {k : Nat} (hk : k < F.hs.length) (h : leftIn F s k < 0) : faultS F s = 44 := by
  have : roomsOk F s = false := by
    unfold roomsOk
    rw [List.all_eq_false]
    exact ⟨k, by simpa using hk, by simp; omega⟩
  unfold faultS
  rw [this]
  rfl
theorem rooms_good {F : Fr} {s : List Nat} (h : ∀ k, k < F.hs.length → 0 ≤ leftIn F s k) : roomsOk F s = true := by
  unfold roomsOk
  rw [List.all_eq_true]
  intro k hk
  exact decide_eq_true (h k (by simpa using hk))
theorem near_bad {F : Fr} {s : List Nat} (h1 : roomsOk F s = true) {i j : Nat} (hi : i < s.length) (hj : j < i) (h : nearAt F s i (s.getD i 0 : Nat) j = true) : faultS F s = 45 := by
  have : nearAny F s = true := List.any_eq_true.2 ⟨i, by simpa using hi, List.any_eq_true.2 ⟨j, by simpa using hj, h⟩⟩
  unfold faultS
  rw [h1, this]
  rfl
theorem near_good {F : Fr} {s : List Nat} (h : ∀ i, i < s.length → ∀ j, j < i → nearAt F s i (s.getD i 0 : Nat) j = false) : nearAny F s = false := by
  unfold nearAny
  rw [List.any_eq_false]
  intro i hi
  rw [Bool.not_eq_true, List.any_eq_false]
  intro j hj
  rw [h i (by simpa using hi) j (by simpa using hj)]
  simp
theorem fault_last {F : Fr} {s : List Nat} (h1 : roomsOk F s = true) (h2 : nearAny F s = false) : faultS F s = if offB F s then 46 else 0 := by
  unfold faultS
  rw [h1, h2]
  rfl
theorem near_eq {F : Fr} {s : List Nat} {i j : Nat} : nearAt F s i (s.getD i 0 : Nat) j = nearB F.rs (psAt F i).cls (psAt F j).cls (gap (s.getD i 0 : Nat) (s.getD j 0 : Nat)) := by
  unfold nearAt
  rw [nearB_comm, gap_comm]
/-! ### What comes in -/
theorem argS_ok {F : Fr} {t : List Int} (h : argS F t = true) : t.length = F.ps.length ∧ ∃ s : List Nat, t = s.map Int.ofNat ∧ t.map Int.toNat = s ∧ ∀ k ∈ s, k < F.hs.length := by
  simp only [argS, Bool.and_eq_true, decide_eq_true_eq, List.all_eq_true] at h
  refine ⟨h.1, t.map Int.toNat, ?_, rfl, ?_⟩
  · rw [List.map_map]
    conv => lhs; rw [← List.map_id t]
    apply List.map_congr_left
    intro x hx
    have := h.2 x hx
    simp only [inB, Bool.and_eq_true, decide_eq_true_eq] at this
    show x = Int.ofNat x.toNat
    rw [Int.ofNat_eq_natCast]
    omega
  · intro k hk
    rw [List.mem_map] at hk
    obtain ⟨x, hx, rfl⟩ := hk
    have := h.2 x hx
    simp only [inB, Bool.and_eq_true, decide_eq_true_eq] at this
    omega
/-! ### The stowages by number, as the reference tries them -/
theorem stow_found {F : Fr} {n : Nat} (hn : n < F.hs.length ^ F.ps.length) (hno : ∀ j, j < n → okS F (digs F.hs.length F.ps.length j) = false) (h : okS F (digs F.hs.length F.ps.length n) = true) : stowS F = some (digs F.hs.length F.ps.length n) := by
  unfold stowS
  rw [lex_digs, List.find?_map]
  obtain ⟨d, hd⟩ : ∃ d, F.hs.length ^ F.ps.length = n + (d + 1) := ⟨F.hs.length ^ F.ps.length - n - 1, by omega⟩
  rw [hd, List.range_add, List.find?_append, List.find?_eq_none.2 (fun j hj => by simp [Function.comp, hno j (by simpa using hj)]), List.range_succ_eq_map]
  simp [Function.comp, h]
theorem stow_none {F : Fr} (hno : ∀ j, j < F.hs.length ^ F.ps.length → okS F (digs F.hs.length F.ps.length j) = false) : stowS F = none := by
  unfold stowS
  rw [lex_digs, List.find?_eq_none]
  intro x hx
  simp only [List.mem_map, List.mem_range] at hx
  obtain ⟨j, hj, rfl⟩ := hx
  rw [hno j hj]
  simp
theorem digs_lt {H : Nat} (hH : 0 < H) : ∀ (m n : Nat), ∀ k ∈ digs H m n, k < H
  | 0, _, k, h => by simp [digs] at h
  | m + 1, n, k, h => by
    simp only [digs, List.mem_append, List.mem_singleton] at h
    rcases h with h | rfl
    · exact digs_lt hH m _ k h
    · exact Nat.mod_lt _ hH
end Bal.Trim
