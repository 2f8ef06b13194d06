/-
  Mast, the plain side, on: turned sheds and manned lines. No program in sight.
-/
import Derived.Test.YtacbkbilbmkjnaaMastPlain2
namespace Bal.Mast
open Bal.Trim
/-! ### Turning a shed -/
def turnable (l : List Axis) : Bool := decide (1 ≤ l.length) && decide (l.length ≤ 32) && l.all axisB
def calmAt (v : Wind) (m : Int) (l : List Axis) (i : Nat) : Bool := calmS v (l.getD i default) m
def turnAt (v : Wind) (m : Int) (l : List Axis) (p s : Nat) : Bool := calmAt v m l (onBy l.length p s) || calmAt v m l (backBy l.length p s)
def turnS (v : Wind) (m : Int) (l : List Axis) (p : Nat) : Option Nat := firstOf (turnAt v m l p) l.length
def turnTo (v : Wind) (m : Int) (l : List Axis) (p s : Nat) : Nat := if calmAt v m l (onBy l.length p s) then onBy l.length p s else backBy l.length p s
def turnOk (l : List Axis) (p : Int) (v : Wind) (m : Int) : Int := if turnable l then (if windB v then (if inB p 0 (l.length - 1) && inB m 0 2000 then 0 else 2) else 71) else 72
def turnE (l : List Axis) (p : Int) (v : Wind) (m : Int) : Int := if turnOk l p v m = 0 then (match turnS v m l p.toNat with | some _ => 0 | none => 6) else turnOk l p v m
def turnN (l : List Axis) (p : Int) (v : Wind) (m : Int) : Int := if turnOk l p v m = 0 then (match turnS v m l p.toNat with | some s => (s : Int) | none => 0) else 0
def turnI (l : List Axis) (p : Int) (v : Wind) (m : Int) : Int := if turnOk l p v m = 0 then (match turnS v m l p.toNat with | some s => (turnTo v m l p.toNat s : Int) | none => 0) else 0
theorem turnS_half {v : Wind} {m : Int} {l : List Axis} {p : Nat} (h : 0 < l.length) : turnS v m l p = firstOf (turnAt v m l p) (l.length / 2 + 1) :=
  turn_short (fun i => calmAt v m l i) h
/-! ### Manning the lines -/
def linesB (l : List Span) : Bool := decide (l.length ≤ 8) && l.all (fun s => spanIn s.lo s.hi 0 1000000)
def needOf (m : Int) (s : Span) : Int := (s.hi + m - 1) / m
def needs (m : Int) (l : List Span) : List Int := l.map (needOf m)
def total (xs : List Int) : Int := sumBy id xs
/-- the line whose persons hold most, of the first k -/
def pick (hs : List Span) (ls : List Int) : Nat → Int
  | 0 => -1
  | k + 1 => if (hs.getD k default).hi = 0 then pick hs ls k else
      if pick hs ls k < 0 ∨ (hs.getD (pick hs ls k).toNat default).hi * ls.getD k 0 < (hs.getD k default).hi * ls.getD (pick hs ls k).toNat 0 then (k : Int) else pick hs ls k
theorem pick_bd (hs : List Span) (ls : List Int) : ∀ k, -1 ≤ pick hs ls k ∧ pick hs ls k < k
  | 0 => by simp [pick]
  | k + 1 => by
    have := pick_bd hs ls k
    simp only [pick]
    split
    · omega
    · split <;> omega
/-- one person more -/
def one (hs : List Span) (ls : List Int) : List Int := if pick hs ls hs.length < 0 then ls else ls.set (pick hs ls hs.length).toNat (ls.getD (pick hs ls hs.length).toNat 0 + 1)
def after (hs : List Span) (ls : List Int) : Nat → List Int
  | 0 => ls
  | j + 1 => one hs (after hs ls j)
theorem one_len (hs : List Span) (ls : List Int) : (one hs ls).length = ls.length := by unfold one; split <;> simp
theorem after_len (hs : List Span) (ls : List Int) : ∀ j, (after hs ls j).length = ls.length
  | 0 => rfl
  | j + 1 => by rw [after, one_len, after_len hs ls j]
theorem pick_none {hs : List Span} {ls : List Int} : ∀ k, (pick hs ls k < 0 ↔ ∀ i, i < k → (hs.getD i default).hi = 0)
  | 0 => by simp [pick]
  | k + 1 => by
    have ih := pick_none (hs := hs) (ls := ls) k
    have hb := pick_bd hs ls k
    simp only [pick]
    constructor
    · intro h i hi
      split at h
      · rename_i h0
        rcases Nat.lt_or_ge i k with h' | h'
        · exact ih.1 h i h'
        · obtain rfl : i = k := by omega
          exact h0
      · split at h
        · omega
        · rename_i h1 h2
          exact absurd (.inl h) h2
    · intro h
      rw [if_pos (h k (by omega))]
      exact ih.2 fun i hi => h i (by omega)
/-- where no line is picked once none ever is -/
theorem after_none {hs : List Span} {ls : List Int} (h : pick hs ls hs.length < 0) : ∀ j, after hs ls j = ls
  | 0 => rfl
  | j + 1 => by rw [after, after_none h j]; unfold one; rw [if_pos h]
theorem one_bd {hs : List Span} {ls : List Int} {M : Int} (h0 : 0 ≤ M) (h : ∀ x ∈ ls, 0 ≤ x ∧ x ≤ M) : ∀ x ∈ one hs ls, 0 ≤ x ∧ x ≤ M + 1 := by
  intro x hx
  unfold one at hx
  split at hx
  · have := h x hx; omega
  · rcases List.mem_or_eq_of_mem_set hx with hx | rfl
    · have := h x hx; omega
    · have : 0 ≤ ls.getD (pick hs ls hs.length).toNat 0 ∧ ls.getD (pick hs ls hs.length).toNat 0 ≤ M := by
        rw [List.getD_eq_getElem?_getD]
        cases he : ls[(pick hs ls hs.length).toNat]? with
        | none => simp; omega
        | some y => exact h y (List.mem_of_getElem? he)
      omega
theorem after_bd {hs : List Span} {ls : List Int} (h : ∀ x ∈ ls, 0 ≤ x ∧ x ≤ 200) : ∀ j : Nat, ∀ x ∈ after hs ls j, 0 ≤ x ∧ x ≤ 200 + j
  | 0, x, hx => by have := h x hx; simp; omega
  | j + 1, x, hx => by
    have := one_bd (hs := hs) (show (0 : Int) ≤ 200 + j by omega) (after_bd h j) x hx
    omega
theorem need_bd {m : Int} {s : Span} (h1 : 1 ≤ m) (h2 : 0 ≤ s.hi) (h3 : s.hi ≤ 1000000) : 0 ≤ needOf m s ∧ needOf m s ≤ 1000000 := by
  unfold needOf
  refine ⟨Int.ediv_nonneg (by omega) (by omega), ?_⟩
  rw [show s.hi + m - 1 = (s.hi - 1) + 1 * m by omega, Int.add_mul_ediv_right _ _ (by omega)]
  have : (s.hi - 1) / m ≤ 999999 := by
    rcases Int.lt_or_le (s.hi - 1) 0 with h | h
    · have : s.hi - 1 = -1 := by omega
      rw [this]
      have := Int.ediv_neg_of_neg_of_pos (show (-1 : Int) < 0 by omega) (show 0 < m by omega)
      omega
    · have := Int.ediv_le_self m h
      omega
  omega
theorem needs_take {m : Int} {l : List Span} {k : Nat} (hk : k < l.length) : needs m (l.take (k + 1)) = needs m (l.take k) ++ [needOf m l[k]] := by
  unfold needs
  rw [List.take_succ_eq_append_getElem hk, List.map_append]
  rfl
theorem total_snoc (xs : List Int) (y : Int) : total (xs ++ [y]) = total xs + y := by
  unfold total
  rw [sumBy_append, sumBy_cons, sumBy_nil]
  simp
theorem needs_len (m : Int) (l : List Span) : (needs m l).length = l.length := by simp [needs]
theorem line_bd {s : Span} (h : spanIn s.lo s.hi 0 1000000 = true) : 0 ≤ s.hi ∧ s.hi ≤ 1000000 := by
  simp [spanIn, rng, inB] at h; omega
theorem needs_bd {m : Int} {l : List Span} (h1 : 1 ≤ m) (h : ∀ s ∈ l, spanIn s.lo s.hi 0 1000000 = true) : ∀ x ∈ needs m l, 0 ≤ x ∧ x ≤ 1000000 := by
  intro x hx
  obtain ⟨s, hs, rfl⟩ := List.mem_map.1 hx
  obtain ⟨h2, h3⟩ := line_bd (h s hs)
  exact need_bd h1 h2 h3
theorem total_bd {xs : List Int} (h : ∀ x ∈ xs, 0 ≤ x ∧ x ≤ 1000000) : 0 ≤ total xs ∧ total xs ≤ 1000000 * xs.length := by
  induction xs with
  | nil => simp [total]
  | cons y ys ih =>
    have := ih fun x hx => h x (by simp [hx])
    have h0 := h y (by simp)
    have e : total (y :: ys) = y + total ys := rfl
    simp only [List.length_cons]
    omega
def manOk (l : List Span) (people m : Int) : Bool := linesB l && inB people 0 200 && inB m 1 1000000
def manE (l : List Span) (people m : Int) : Int := if manOk l people m then (if people < total (needs m l) then 75 else 0) else 2
def manL (l : List Span) (people m : Int) : List Int := if manE l people m = 0 then after l (needs m l) (people - total (needs m l)).toNat else []
theorem total_mem {xs : List Int} (h : ∀ x ∈ xs, 0 ≤ x) : 0 ≤ total xs ∧ ∀ x ∈ xs, x ≤ total xs := by
  induction xs with
  | nil => simp [total]
  | cons y ys ih =>
    obtain ⟨i1, i2⟩ := ih fun x hx => h x (by simp [hx])
    have h0 := h y (by simp)
    have e : total (y :: ys) = y + total ys := rfl
    refine ⟨by omega, fun x hx => ?_⟩
    rcases List.mem_cons.1 hx with rfl | hx
    · omega
    · have := i2 x hx; omega
end Bal.Mast
