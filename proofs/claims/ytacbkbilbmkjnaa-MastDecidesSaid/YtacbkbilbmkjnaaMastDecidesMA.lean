/-
  The plain side of the trim statements: what loads, limits, frames and the rest are, and what is asked of them. No program in sight.
-/

set_option linter.unusedVariables false
set_option linter.unusedSimpArgs false
/-
  The plain side of the trim statements: what loads, limits, frames and the rest are, and what is asked of them. No program in sight.
-/
namespace Bal.Trim

def inB (n lo hi : Int) : Bool := decide (lo ≤ n) && decide (n ≤ hi)
def great (a b c d : Int) : Bool := decide (50 < a) || decide (50 < b) || decide (50 < c) || decide (50 < d)

theorem take_all {α : Type} {valid : α → Bool} {xs : List α} {k : Nat} (hk : k < xs.length) (h : (xs.take k).all valid = true) (h' : valid xs[k] = true) : (xs.take (k + 1)).all valid = true := by
  rw [List.take_succ_eq_append_getElem hk, List.all_append, h]
  simp [h']
end Bal.Trim

/-
  Sums, products, least and greatest: plain Lean.
-/
namespace Bal.Trim
/-! ### Sums and products -/
theorem ite_min (a b : Int) : (if b < a then b else a) = min a b := by split <;> omega
theorem ite_max (a b : Int) : (if a < b then b else a) = max a b := by split <;> omega
end Bal.Trim

/-
  The plain side of the mast statements: winds, axes, roots. No program in sight.
-/
namespace Bal.Mast
structure Wind where
  xlo : Int
  xhi : Int
  ylo : Int
  yhi : Int
  deriving DecidableEq, Inhabited
structure Axis where
  x : Int
  y : Int
  deriving DecidableEq, Inhabited
/-- the four corners of a wind, across an axis -/
def c0 (w : Wind) (a : Axis) : Int := w.xlo * a.y - w.ylo * a.x
def c1 (w : Wind) (a : Axis) : Int := w.xlo * a.y - w.yhi * a.x
def c2 (w : Wind) (a : Axis) : Int := w.xhi * a.y - w.ylo * a.x
def c3 (w : Wind) (a : Axis) : Int := w.xhi * a.y - w.yhi * a.x
def least (w : Wind) (a : Axis) : Int := min (min (min (c0 w a) (c1 w a)) (c2 w a)) (c3 w a)
def most (w : Wind) (a : Axis) : Int := max (max (max (c0 w a) (c1 w a)) (c2 w a)) (c3 w a)
def far (w : Wind) (a : Axis) : Int := max (-least w a) (most w a)
def long (a : Axis) : Int := a.x * a.x + a.y * a.y
/-! ### Turning a shed -/
end Bal.Mast

/-
  Mast, the plain side, on: ranges, roots as numbers, crosswinds and their errors. No program in sight.
-/
namespace Bal.Mast
open Bal.Trim
structure Span where
  lo : Int
  hi : Int
  deriving DecidableEq, Inhabited
def rng (xs : List Int) (lo hi : Int) : Bool := xs.all fun n => inB n lo hi
def spanIn (x y lo hi : Int) : Bool := decide (x ≤ y) && rng [x, y] lo hi
/-! ### The crosswinds and their errors -/
def calmS (w : Wind) (a : Axis) (m : Int) : Bool := decide (far w a * far w a ≤ m * m * long a)
end Bal.Mast

/-
  Mast, the plain side, on: turned sheds and manned lines. No program in sight.
-/
namespace Bal.Mast
open Bal.Trim
/-! ### Turning a shed -/
/-! ### Manning the lines -/
def needOf (m : Int) (s : Span) : Int := (s.hi + m - 1) / m
def needs (m : Int) (l : List Span) : List Int := l.map (needOf m)
/-- the line whose persons hold most, of the first k -/
def pick (hs : List Span) (ls : List Int) : Nat → Int
  | 0 => -1
  | k + 1 => if (hs.getD k default).hi = 0 then pick hs ls k else
      if pick hs ls k < 0 ∨ (hs.getD (pick hs ls k).toNat default).hi * ls.getD k 0 < (hs.getD k default).hi * ls.getD (pick hs ls k).toNat 0 then (k : Int) else pick hs ls k
/-- one person more -/
def one (hs : List Span) (ls : List Int) : List Int := if pick hs ls hs.length < 0 then ls else ls.set (pick hs ls hs.length).toNat (ls.getD (pick hs ls hs.length).toNat 0 + 1)
def after (hs : List Span) (ls : List Int) : Nat → List Int
  | 0 => ls
  | j + 1 => one hs (after hs ls j)
end Bal.Mast

/-
  Ports, berths, and acts at the mast: the plain side. No program in sight.
-/
namespace Bal.Mast
open Bal.Trim
structure Berth where
  ship : Int
  axis : Int
  held : Int
  wire : Bool
  opn : Bool
  deriving DecidableEq, Inhabited
structure Port where
  axes : List Axis
  people : Int
  most : Int
  pulls : List Span
  cross : Int
/-- a berth at work -/
structure Dock where
  b : Berth
  need : Int
  wind : Wind
  n : Int
theorem inB_iff {n lo hi : Int} : inB n lo hi = true ↔ lo ≤ n ∧ n ≤ hi := by simp [inB]
/-! ### Berths -/
/-! ### Rules and what is done -/
def opened (k : Dock) : Bool := k.b.opn
def quiet (p : Port) (k : Dock) : Bool := calmS k.wind (p.axes.getD k.b.axis.toNat default) p.cross
/-! ### Do -/
end Bal.Mast

/-
  Decision tables: rows that match, and the first state of a kind. No program in sight.
-/
namespace Bal.Mast
open Bal.Trim
set_option linter.unusedVariables false
structure Rw where
  conds : List Span
  action : Int
structure Tb where
  vars : List Span
  rows : List Rw
/-- whether a state's beginning is in the spans of a row -/
def hits : List Span → List Int → Bool
  | _, [] => true
  | [], _ :: _ => true
  | c :: cs, n :: ns => inB n c.lo c.hi && hits cs ns
def matchP (d : Tb) (st : List Int) (i : Nat) : Bool := match d.rows[i]? with | some r => hits r.conds st | none => false
/-- the rows that match, as far as k -/
def matchTo (d : Tb) (st : List Int) (k : Nat) : List Nat := (List.range k).filter (matchP d st)
def matchL (d : Tb) (st : List Int) : List Nat := matchTo d st d.rows.length
theorem matchTo_succ (d : Tb) (st : List Int) (k : Nat) : matchTo d st (k + 1) = matchTo d st k ++ if matchP d st k then [k] else [] := by
  unfold matchTo
  rw [List.range_succ, List.filter_append]
  cases h : matchP d st k <;> simp [h]
theorem mem_match {d : Tb} {st : List Int} {i : Nat} : i ∈ matchL d st ↔ ∃ h : i < d.rows.length, hits d.rows[i].conds st = true := by
  unfold matchL matchTo
  rw [List.mem_filter, List.mem_range]
  constructor
  · rintro ⟨h1, h2⟩
    refine ⟨h1, ?_⟩
    unfold matchP at h2
    rw [List.getElem?_eq_getElem h1] at h2
    exact h2
  · rintro ⟨h1, h2⟩
    refine ⟨h1, ?_⟩
    unfold matchP
    rw [List.getElem?_eq_getElem h1]
    exact h2
def Even (d : Tb) : Prop := ∀ r ∈ d.rows, r.conds.length = d.vars.length
theorem hits_app : ∀ (cs : List Span) (a b : List Int), hits cs (a ++ b) = (hits cs a && hits (cs.drop a.length) b)
  | cs, [], b => by cases cs <;> simp [hits]
  | [], x :: a, b => by cases b <;> simp [hits]
  | c :: cs, x :: a, b => by
    simp only [List.cons_append, hits, List.length_cons, List.drop_succ_cons]
    rw [hits_app cs a b, Bool.and_assoc]
theorem hits_mid {cs : List Span} {a u : List Int} {x : Int} (h : a.length < cs.length) : hits cs (a ++ x :: u) = (hits cs a && (inB x cs[a.length].lo cs[a.length].hi && hits (cs.drop (a.length + 1)) u)) := by
  rw [hits_app, List.drop_eq_getElem_cons h]
  rfl
/-- a state that the variables may have -/
def Box (d : Tb) (st : List Int) : Prop := st.length = d.vars.length ∧ hits d.vars st = true
/-- where what matches may change: behind a beginning, by the rows that match it -/
def Turns (d : Tb) (pre : List Int) (n : Int) : Prop := ∃ h : pre.length < d.vars.length, inB n d.vars[pre.length].lo d.vars[pre.length].hi = true ∧
  (n = d.vars[pre.length].lo ∨ ∃ i ∈ matchL d pre, ∃ r, d.rows[i]? = some r ∧ ∃ c, r.conds[pre.length]? = some c ∧ (n = c.lo ∨ n = c.hi + 1))
theorem match_same {d : Tb} {a b : List Int} (h : ∀ i (hi : i < d.rows.length), hits d.rows[i].conds a = hits d.rows[i].conds b) : matchL d a = matchL d b := by
  unfold matchL matchTo
  apply List.filter_congr
  intro i hi
  rw [List.mem_range] at hi
  unfold matchP
  rw [List.getElem?_eq_getElem hi]
  exact h i hi
/-- one less, where nothing turns -/
theorem lower_one {d : Tb} (hE : Even d) {pre u : List Int} {n : Int} (hb : Box d (pre ++ n :: u)) (hn : ¬ Turns d pre n) : Box d (pre ++ (n - 1) :: u) ∧ matchL d (pre ++ (n - 1) :: u) = matchL d (pre ++ n :: u) := by
  obtain ⟨hl, hh⟩ := hb
  have hk : pre.length < d.vars.length := by rw [← hl]; simp
  rw [hits_mid hk] at hh
  simp only [Bool.and_eq_true] at hh
  obtain ⟨h1, h2, h3⟩ := hh
  have hlo : n ≠ d.vars[pre.length].lo := fun e => hn ⟨hk, h2, .inl e⟩
  have h2b := inB_iff.1 h2
  refine ⟨⟨by simpa using hl, ?_⟩, match_same fun i hi => ?_⟩
  · rw [hits_mid hk]
    simp only [Bool.and_eq_true]
    exact ⟨h1, inB_iff.2 (by omega), h3⟩
  · have hc : pre.length < d.rows[i].conds.length := by rw [hE _ (List.getElem_mem hi)]; exact hk
    rw [hits_mid hc, hits_mid hc]
    cases hp : hits d.rows[i].conds pre with
    | false => simp
    | true =>
      have hm : i ∈ matchL d pre := mem_match.2 ⟨hi, hp⟩
      have hno : ∀ q, (n = (d.rows[i].conds[pre.length]).lo ∨ n = (d.rows[i].conds[pre.length]).hi + 1) → q := fun q e => absurd ⟨hk, h2, .inr ⟨i, hm, _, List.getElem?_eq_getElem hi, _, List.getElem?_eq_getElem hc, e⟩⟩ hn
      have e : inB (n - 1) (d.rows[i].conds[pre.length]).lo (d.rows[i].conds[pre.length]).hi = inB n (d.rows[i].conds[pre.length]).lo (d.rows[i].conds[pre.length]).hi := by
        rw [Bool.eq_iff_iff, inB_iff, inB_iff]
        constructor
        · intro h
          by_cases e : n = (d.rows[i].conds[pre.length]).hi + 1
          · exact hno _ (.inr e)
          · omega
        · intro h
          by_cases e : n = (d.rows[i].conds[pre.length]).lo
          · exact hno _ (.inl e)
          · omega
      rw [e]
theorem lowered {d : Tb} (hE : Even d) {pre u : List Int} : ∀ (m : Nat) (n : Int), Box d (pre ++ n :: u) → (∀ h : pre.length < d.vars.length, n - d.vars[pre.length].lo ≤ m) →
    ∃ n', n' ≤ n ∧ Turns d pre n' ∧ Box d (pre ++ n' :: u) ∧ matchL d (pre ++ n' :: u) = matchL d (pre ++ n :: u) := by
  intro m
  induction m with
  | zero =>
    intro n hb hm
    refine ⟨n, Int.le_refl _, ?_, hb, rfl⟩
    obtain ⟨hl, hh⟩ := hb
    have hk : pre.length < d.vars.length := by rw [← hl]; simp
    rw [hits_mid hk] at hh
    simp only [Bool.and_eq_true] at hh
    have h2 := inB_iff.1 hh.2.1
    have := hm hk
    exact ⟨hk, hh.2.1, .inl (by omega)⟩
  | succ m ih =>
    intro n hb hm
    by_cases ht : Turns d pre n
    · exact ⟨n, Int.le_refl _, ht, hb, rfl⟩
    · obtain ⟨h1, h2⟩ := lower_one hE hb ht
      obtain ⟨n', e1, e2, e3, e4⟩ := ih (n - 1) h1 (fun h => by have := hm h; omega)
      exact ⟨n', by omega, e2, e3, e4.trans h2⟩
/-- the order of states -/
def before : List Int → List Int → Prop
  | x :: xs, y :: ys => x < y ∨ x = y ∧ before xs ys
  | _, _ => False
theorem before_irrefl : ∀ a : List Int, ¬ before a a
  | [] => fun h => h
  | x :: a => fun h => by
    rcases h with h | ⟨_, h⟩
    · omega
    · exact before_irrefl a h
theorem before_trans : ∀ {a b c : List Int}, before a b → before b c → before a c
  | [], _, _, h, _ => h.elim
  | _ :: _, [], _, h, _ => h.elim
  | _ :: _, _ :: _, [], _, h => h.elim
  | x :: a, y :: b, z :: c, h, h' => by
    rcases h with h | ⟨rfl, h⟩
    · rcases h' with h' | ⟨rfl, h'⟩
      · exact .inl (by omega)
      · exact .inl h
    · rcases h' with h' | ⟨rfl, h'⟩
      · exact .inl h'
      · exact .inr ⟨rfl, before_trans h h'⟩
theorem before_total : ∀ {a b : List Int}, a.length = b.length → ¬ before a b → ¬ before b a → a = b
  | [], [], _, _, _ => rfl
  | [], _ :: _, h, _, _ => by simp at h
  | _ :: _, [], h, _, _ => by simp at h
  | x :: a, y :: b, h, h1, h2 => by
    have e : x = y := by
      rcases Int.lt_trichotomy x y with h3 | h3 | h3
      · exact absurd (.inl h3) h1
      · exact h3
      · exact absurd (.inl h3) h2
    subst e
    rw [before_total (by simpa using h) (fun h => h1 (.inr ⟨rfl, h⟩)) (fun h => h2 (.inr ⟨rfl, h⟩))]
theorem before_app : ∀ (p : List Int) {a b : List Int}, before (p ++ a) (p ++ b) ↔ before a b
  | [], a, b => Iff.rfl
  | x :: p, a, b => by
    simp only [List.cons_append, before]
    rw [before_app p]
    constructor
    · rintro (h | ⟨_, h⟩)
      · omega
      · exact h
    · exact fun h => .inr ⟨trivial, h⟩
/-- the first state with a beginning whose rows are wanted -/
def FirstExt (d : Tb) (W : List Nat → Bool) (pre : List Int) : Option (List Int) → Prop
  | some s => Box d s ∧ (∃ u, s = pre ++ u) ∧ W (matchL d s) = true ∧ ∀ t, Box d t → (∃ u, t = pre ++ u) → W (matchL d t) = true → ¬ before t s
  | none => ∀ t, Box d t → (∃ u, t = pre ++ u) → W (matchL d t) = false
theorem FirstExt.unique {d : Tb} {W : List Nat → Bool} {pre : List Int} {r r' : Option (List Int)} (h : FirstExt d W pre r) (h' : FirstExt d W pre r') : r = r' := by
  cases r with
  | none =>
    cases r' with
    | none => rfl
    | some s => obtain ⟨h1, h2, h3, _⟩ := h'; rw [h s h1 h2] at h3; cases h3
  | some s =>
    cases r' with
    | none => obtain ⟨h1, h2, h3, _⟩ := h; rw [h' s h1 h2] at h3; cases h3
    | some t =>
      obtain ⟨h1, h2, h3, h4⟩ := h
      obtain ⟨g1, g2, g3, g4⟩ := h'
      rw [before_total (h1.1.trans g1.1.symm) (g4 s h1 h2 h3) (h4 t g1 g2 g3)]
/-- a whole state -/
theorem FirstExt.whole {d : Tb} {W : List Nat → Bool} {pre : List Int} (hb : Box d pre) : FirstExt d W pre (if W (matchL d pre) then some pre else none) := by
  have key : ∀ t, Box d t → (∃ u, t = pre ++ u) → t = pre := by
    rintro t ht ⟨u, rfl⟩
    have h1 := ht.1
    have h2 := hb.1
    have : u = [] := List.eq_nil_of_length_eq_zero (by simp at h1; omega)
    subst this; simp
  cases hw : W (matchL d pre) with
  | true =>
    refine ⟨hb, ⟨[], by simp⟩, hw, fun t ht hu _ => ?_⟩
    rw [key t ht hu]
    exact before_irrefl _
  | false =>
    intro t ht hu
    rw [key t ht hu]; exact hw
/-- the search by one variable more: l: the values that are tried, in order -/
theorem FirstExt.step {d : Tb} (hE : Even d) {W : List Nat → Bool} {pre : List Int} {l : List Int} {f : Int → Option (List Int)} (hk : pre.length < d.vars.length) (hs : l.Pairwise (· ≤ ·)) (hc : ∀ n, Turns d pre n → n ∈ l)
    (hf : ∀ n ∈ l, FirstExt d W (pre ++ [n]) (f n)) : FirstExt d W pre (l.findSome? f) := by
  have low : ∀ t, Box d t → (∃ u, t = pre ++ u) → W (matchL d t) = true → ∃ n u t', n ∈ l ∧ t' = (pre ++ [n]) ++ u ∧ Box d t' ∧ W (matchL d t') = true ∧ ¬ before t t' := by
    rintro t ht ⟨u, rfl⟩ hw
    cases u with
    | nil => have := ht.1; simp at this; omega
    | cons n u =>
      obtain ⟨n', h1, h2, h3, h4⟩ := lowered hE (n - d.vars[pre.length].lo).toNat n ht (fun h => by omega)
      refine ⟨n', u, pre ++ n' :: u, hc n' h2, by simp, h3, by rw [h4]; exact hw, ?_⟩
      rw [before_app]
      rintro (h | ⟨_, h⟩)
      · omega
      · exact before_irrefl _ h
  cases hr : l.findSome? f with
  | none =>
    intro t ht hu
    cases hw : W (matchL d t) with
    | false => rfl
    | true =>
      obtain ⟨n, u, t', hn, he, hb, hw', _⟩ := low t ht hu hw
      have := hf n hn
      rw [List.findSome?_eq_none_iff.1 hr n hn] at this
      rw [this t' hb ⟨u, he⟩] at hw'
      cases hw'
  | some s =>
    obtain ⟨l1, n, l2, e, hfn, hno⟩ := List.findSome?_eq_some_iff.1 hr
    subst e
    have hn : n ∈ l1 ++ n :: l2 := by simp
    have h1 := hf n hn
    rw [hfn] at h1
    obtain ⟨g1, ⟨v, gv⟩, g3, g4⟩ := h1
    refine ⟨g1, ⟨n :: v, by rw [gv]; simp⟩, g3, fun t ht hu hw hlt => ?_⟩
    obtain ⟨n', u, t', hn', he, hb, hw', hnb⟩ := low t ht hu hw
    have hge : n ≤ n' := by
      rcases List.mem_append.1 hn' with h | h
      · exfalso
        have h2 := hf n' hn'
        rw [hno n' h] at h2
        rw [h2 t' hb ⟨u, he⟩] at hw'
        cases hw'
      · rcases List.mem_cons.1 h with rfl | h
        · exact Int.le_refl _
        · exact (List.pairwise_cons.1 (List.pairwise_append.1 hs).2.1).1 n' h
    have hlt2 : before t' s := by
      by_cases h2 : before t' t
      · exact before_trans h2 hlt
      · rw [← before_total (ht.1.trans hb.1.symm) hnb h2]; exact hlt
    rcases Int.lt_or_eq_of_le hge with h | h
    · rw [he, gv, List.append_assoc, List.append_assoc, before_app] at hlt2
      rcases hlt2 with h2 | ⟨h2, _⟩ <;> omega
    · subst h
      exact g4 t' hb ⟨u, he⟩ hw' hlt2
end Bal.Mast
