/-
  MastManned, the statement: for every input the call returns true and leaves the input alone.
-/
import Derived.Test.YtacbkbilbmkjnaaGreatMastBaseZM
import Derived.WalkKit
import Derived.WalkSpells
import Derived.WalkLawsBesides
import Derived.Lib.Hide
import Derived.ProofKit
import Derived.OpenShut
import Derived.ChangeOld
import Derived.Below
import Derived.Deep.Slices
import Derived.Deep.Fields
import Derived.Deep.Quiet
import Derived.Laws.AppendOwn
import Derived.Laws.AppendOwnNone
import Derived.Test.YtacbkbilbmkjnaaGreatRows
set_option linter.unusedVariables false
set_option linter.unusedSimpArgs false
namespace Bal
open Go Go.RowKit Go.ChangeShapes Go.WideShapes

theorem bcell {W w1 : World} (hb : Below W.heap.size W w1) : (∀ b o, b < W.heap.size → w1.cell? ⟨b, o, none⟩ = W.cell? ⟨b, o, none⟩) ∧ (∀ b o, b < W.heap.size → w1.frozen? ⟨b, o, none⟩ = W.frozen? ⟨b, o, none⟩) :=
  ⟨fun b o h => hb.cell (p := ⟨b, o, none⟩) h, fun b o h => hb.frozen (p := ⟨b, o, none⟩) h⟩

/-! ### Slices that a call has made itself, element by element -/
/-! ### A block of the call's own, known whole -/
/-! ### Cells that are numbers or bools, whatever structs they lie in -/
section
variable {H : Type} {enc : TypeId × Value → H} {P : Program} {w : World} {base : Nat} {spare : Nat → Bool} {held : Bool}

end

/-! ### Regions that draw their order and only read or call: one walk of the text's order -/
instance {w : World} : Nonempty (Later w) := ⟨⟨w, Below.refl _ _⟩⟩

end Bal

namespace Bal.Mast
open Bal.Trim
set_option linter.unusedVariables false
theorem getD_at {α : Type} {l : List α} {i : Nat} {d : α} (h : i < l.length) : l.getD i d = l[i] := by
  rw [List.getD_eq_getElem?_getD, List.getElem?_eq_getElem h]; rfl
/-! ### Winds -/
/-! ### Turned sheds -/
/-! ### Manned lines -/
/-- a line that pulls has people, the fewest that may hold it, and no line is ahead of its turn -/
structure Fair (m : Int) (hs : List Span) (ls : List Int) : Prop where
  len : ls.length = hs.length
  zero : ∀ i, i < hs.length → (hs.getD i default).hi = 0 → ls.getD i 0 = 0
  enough : ∀ i, i < hs.length → (hs.getD i default).hi ≤ ls.getD i 0 * m
  pos : ∀ i, i < hs.length → 0 < (hs.getD i default).hi → 0 < ls.getD i 0
  turn : ∀ i j, i < hs.length → j < hs.length → 0 < (hs.getD i default).hi → 0 < (hs.getD j default).hi → (hs.getD j default).hi * (ls.getD i 0 - 1) ≤ (hs.getD i default).hi * ls.getD j 0
theorem needOf_bd {m : Int} {s : Span} (hm : 1 ≤ m) (h0 : 0 ≤ s.hi) : (s.hi = 0 → needOf m s = 0) ∧ s.hi ≤ needOf m s * m ∧ (0 < s.hi → 0 < needOf m s ∧ (needOf m s - 1) * m < s.hi) := by
  unfold needOf
  have h1 := Int.emod_add_mul_ediv (s.hi + m - 1) m
  have h2 := Int.emod_nonneg (s.hi + m - 1) (show m ≠ 0 by omega)
  have h3 := Int.emod_lt_of_pos (s.hi + m - 1) (show 0 < m by omega)
  generalize (s.hi + m - 1) / m = q at *
  have e : m * q = q * m := Int.mul_comm _ _
  have e2 : (q - 1) * m = q * m - m := by rw [Int.sub_mul]; omega
  refine ⟨fun hz => ?_, by omega, fun hp => ⟨?_, by omega⟩⟩
  · rcases Int.lt_trichotomy q 0 with h | h | h
    · exfalso
      have := Int.mul_le_mul_of_nonneg_right (show q ≤ -1 by omega) (show 0 ≤ m by omega)
      omega
    · exact h
    · exfalso
      have := Int.mul_le_mul_of_nonneg_right (show 1 ≤ q by omega) (show 0 ≤ m by omega)
      omega
  · rcases Int.lt_or_le 0 q with h | h
    · exact h
    · exfalso
      have := Int.mul_le_mul_of_nonneg_right (show q ≤ 0 by omega) (show 0 ≤ m by omega)
      omega
theorem fair_needs {m : Int} {hs : List Span} (hm : 1 ≤ m) (h : ∀ s ∈ hs, 0 ≤ s.hi) : Fair m hs (needs m hs) := by
  have hg : ∀ i, i < hs.length → 0 ≤ (hs.getD i default).hi ∧ (needs m hs).getD i 0 = needOf m (hs.getD i default) := fun i hi => by
    rw [getD_at hi]
    refine ⟨h _ (List.getElem_mem hi), ?_⟩
    rw [getD_at (by rw [needs_len]; exact hi)]
    simp [needs]
  refine ⟨needs_len _ _, fun i hi h0 => ?_, fun i hi => ?_, fun i hi h0 => ?_, fun i j hi hj h1 h2 => ?_⟩
  · obtain ⟨a, b⟩ := hg i hi; rw [b]; exact (needOf_bd hm a).1 h0
  · obtain ⟨a, b⟩ := hg i hi; rw [b]; exact (needOf_bd hm a).2.1
  · obtain ⟨a, b⟩ := hg i hi; rw [b]; exact ((needOf_bd hm a).2.2 h0).1
  · obtain ⟨a, b⟩ := hg i hi
    obtain ⟨a', b'⟩ := hg j hj
    rw [b, b']
    obtain ⟨p1, p2⟩ := (needOf_bd hm a).2.2 h1
    have p3 := (needOf_bd hm a').2.1
    have p4 := ((needOf_bd hm a').2.2 h2).1
    generalize needOf m (hs.getD i default) = x at *
    generalize needOf m (hs.getD j default) = y at *
    generalize (hs.getD i default).hi = A at *
    generalize (hs.getD j default).hi = B at *
    have q1 := Int.mul_le_mul_of_nonneg_right p3 (show 0 ≤ x - 1 by omega)
    have q2 := Int.mul_le_mul_of_nonneg_right (Int.le_of_lt p2) (show 0 ≤ y by omega)
    have e : y * m * (x - 1) = (x - 1) * m * y := by grind
    omega
/-- the line that is picked has the greatest part -/
theorem pick_best {hs : List Span} {ls : List Int} (hp : ∀ i, i < hs.length → 0 ≤ (hs.getD i default).hi) (hl : ∀ i, i < hs.length → 0 < (hs.getD i default).hi → 0 < ls.getD i 0) : ∀ k, k ≤ hs.length → ∀ q : Nat, pick hs ls k = q →
    0 < (hs.getD q default).hi ∧ ∀ i, i < k → 0 < (hs.getD i default).hi → (hs.getD i default).hi * ls.getD q 0 ≤ (hs.getD q default).hi * ls.getD i 0
  | 0, _, q, h => by simp only [pick] at h; omega
  | k + 1, hk, q, h => by
    have ih := pick_best hp hl k (by omega)
    have hb := pick_bd hs ls k
    have hpk := hp k (by omega)
    have hlk := hl k (by omega)
    simp only [pick] at h
    split at h
    · rename_i h0
      obtain ⟨i1, i2⟩ := ih q h
      refine ⟨i1, fun i hi hi0 => ?_⟩
      rcases Nat.lt_or_ge i k with h' | h'
      · exact i2 i h' hi0
      · obtain rfl : i = k := by omega
        omega
    · rename_i h0
      split at h
      · rename_i hc
        obtain rfl : k = q := by omega
        refine ⟨by omega, fun i hi hi0 => ?_⟩
        rcases Nat.lt_or_ge i k with h' | h'
        · rcases hc with hc | hc
          · exfalso
            have := (pick_none (hs := hs) (ls := ls) k).1 hc i h'
            omega
          · have h1 : ¬ pick hs ls k < 0 := fun hn => by
              have := (pick_none (hs := hs) (ls := ls) k).1 hn i h'
              omega
            obtain ⟨q', hq'⟩ : ∃ q' : Nat, pick hs ls k = q' := ⟨(pick hs ls k).toNat, by omega⟩
            obtain ⟨j1, j2⟩ := ih q' hq'
            rw [hq', Int.toNat_natCast] at hc
            have j3 := j2 i h' hi0
            have hli := hl i (by omega) hi0
            have hlq := hl q' (by omega) j1
            have hlk' := hlk (by omega)
            generalize (hs.getD i default).hi = A at *
            generalize (hs.getD q' default).hi = C at *
            generalize (hs.getD k default).hi = D at *
            generalize ls.getD i 0 = x at *
            generalize ls.getD q' 0 = y at *
            generalize ls.getD k 0 = z at *
            -- A y ≤ C x, C z < D y : A z ≤ D x
            have k1 := Int.mul_le_mul_of_nonneg_right j3 (show 0 ≤ z by omega)
            have k2 := Int.mul_le_mul_of_nonneg_right (Int.le_of_lt hc) (show 0 ≤ x by omega)
            have e1 : A * y * z = (A * z) * y := by grind
            have e2 : C * x * z = C * z * x := by grind
            have e3 : D * y * x = (D * x) * y := by grind
            have k3 : (A * z) * y ≤ (D * x) * y := by omega
            exact Int.le_of_mul_le_mul_right k3 hlq
        · obtain rfl : i = k := by omega
          exact Int.le_refl _
      · rename_i hc
        obtain ⟨i1, i2⟩ := ih q h
        refine ⟨i1, fun i hi hi0 => ?_⟩
        rcases Nat.lt_or_ge i k with h' | h'
        · exact i2 i h' hi0
        · obtain rfl : i = k := by omega
          rw [h, Int.toNat_natCast] at hc
          omega
theorem getD_set {l : List Int} {i j : Nat} {x : Int} (hi : i < l.length) : (l.set i x).getD j 0 = if j = i then x else l.getD j 0 := by
  rw [List.getD_eq_getElem?_getD, List.getElem?_set]
  split
  · rename_i h
    subst h
    simp
  · rename_i h
    rw [if_neg (fun e => h e.symm), List.getD_eq_getElem?_getD]
theorem fair_one {m : Int} {hs : List Span} {ls : List Int} (hm : 1 ≤ m) (h0 : ∀ i, i < hs.length → 0 ≤ (hs.getD i default).hi) (F : Fair m hs ls) : Fair m hs (one hs ls) := by
  unfold one
  split
  · exact F
  · rename_i hp
    obtain ⟨q, hq⟩ : ∃ q : Nat, pick hs ls hs.length = q := ⟨(pick hs ls hs.length).toNat, by omega⟩
    have hb := pick_bd hs ls hs.length
    obtain ⟨b1, b2⟩ := pick_best h0 F.pos hs.length (Nat.le_refl _) q hq
    rw [hq, Int.toNat_natCast]
    have hql : q < ls.length := by rw [F.len]; omega
    have hg : ∀ j, (ls.set q (ls.getD q 0 + 1)).getD j 0 = if j = q then ls.getD q 0 + 1 else ls.getD j 0 := fun j => getD_set hql
    have hqh : q < hs.length := by omega
    have hqp := F.pos q hqh b1
    refine ⟨by rw [List.length_set]; exact F.len, fun i hi hz => ?_, fun i hi => ?_, fun i hi hz => ?_, fun i j hi hj h1 h2 => ?_⟩
    · rw [hg, if_neg (by rintro rfl; omega)]
      exact F.zero i hi hz
    · rw [hg]
      split
      · rename_i e
        subst e
        have := F.enough i hi
        have e : (ls.getD i 0 + 1) * m = ls.getD i 0 * m + m := by rw [Int.add_mul]; omega
        omega
      · exact F.enough i hi
    · rw [hg]
      have := F.pos i hi hz
      split <;> omega
    · rw [hg, hg]
      have ht := F.turn i j hi hj h1 h2
      split
      · rename_i e
        subst e
        rw [show ls.getD i 0 + 1 - 1 = ls.getD i 0 by omega]
        split
        · rename_i e
          subst e
          have : (hs.getD j default).hi * (ls.getD j 0 + 1) = (hs.getD j default).hi * ls.getD j 0 + (hs.getD j default).hi := by rw [Int.mul_add]; omega
          omega
        · exact b2 j hj h2
      · split
        · rename_i e
          subst e
          have : (hs.getD i default).hi * (ls.getD j 0 + 1) = (hs.getD i default).hi * ls.getD j 0 + (hs.getD i default).hi := by rw [Int.mul_add]; omega
          omega
        · exact ht
theorem fair_after {m : Int} {hs : List Span} (hm : 1 ≤ m) (h : ∀ s ∈ hs, 0 ≤ s.hi) : ∀ j, Fair m hs (after hs (needs m hs) j)
  | 0 => fair_needs hm h
  | j + 1 => fair_one hm (fun i hi => by rw [getD_at hi]; exact h _ (List.getElem_mem hi)) (fair_after hm h j)
theorem total_set {l : List Int} {i : Nat} (hi : i < l.length) (x : Int) : total (l.set i x) = total l - l.getD i 0 + x := by
  induction l generalizing i with
  | nil => simp at hi
  | cons y l ih =>
    cases i with
    | zero =>
      show x + total l = y + total l - y + x
      omega
    | succ i =>
      have := ih (i := i) (by simpa using hi)
      show y + total (l.set i x) = y + total l - (y :: l).getD (i + 1) 0 + x
      rw [this]
      show _ = y + total l - l.getD i 0 + x
      omega
/-- everybody is on a line, where one pulls -/
theorem total_after {hs : List Span} {L : List Int} (hl : L.length = hs.length) (h : ∃ i, i < hs.length ∧ (hs.getD i default).hi ≠ 0) : ∀ j : Nat, total (after hs L j) = total L + j
  | 0 => by simp [after]
  | j + 1 => by
    have ih := total_after hl h j
    have hlen := after_len hs L j
    simp only [after]
    unfold one
    obtain ⟨i, hi, hz⟩ := h
    have hp : ¬ pick hs (after hs L j) hs.length < 0 := fun hn => hz ((pick_none (hs := hs) hs.length).1 hn i hi)
    have hb := pick_bd hs (after hs L j) hs.length
    rw [if_neg hp, total_set (by rw [hlen, hl]; omega), ih]
    omega
theorem total_getD : ∀ (l : List Int), (∀ x ∈ l, 0 ≤ x) → ∀ i, 0 ≤ l.getD i 0
  | l, h, i => by
    rw [List.getD_eq_getElem?_getD]
    cases he : l[i]? with
    | none => simp
    | some y => exact h y (List.mem_of_getElem? he)
theorem total_le : ∀ (l k : List Int), l.length = k.length → (∀ i, i < l.length → l.getD i 0 ≤ k.getD i 0) → total l ≤ total k
  | [], [], _, _ => Int.le_refl _
  | [], _ :: _, h, _ => by simp at h
  | _ :: _, [], h, _ => by simp at h
  | x :: l, y :: k, h, hle => by
    have hxy : x ≤ y := by simpa using hle 0 (by simp)
    have := total_le l k (by simpa using h) (fun i hi => by simpa using hle (i + 1) (by simpa using hi))
    show x + total l ≤ y + total k
    omega
theorem total_lt : ∀ (l k : List Int), l.length = k.length → (∀ i, i < l.length → l.getD i 0 ≤ k.getD i 0) → (∃ i, i < l.length ∧ l.getD i 0 < k.getD i 0) → total l < total k
  | [], [], _, _, ⟨i, hi, _⟩ => by simp at hi
  | [], _ :: _, h, _, _ => by simp at h
  | _ :: _, [], h, _, _ => by simp at h
  | x :: l, y :: k, h, hle, ⟨i, hi, hlt⟩ => by
    have hxy : x ≤ y := by simpa using hle 0 (by simp)
    have hl : l.length = k.length := by simpa using h
    have hle' : ∀ i, i < l.length → l.getD i 0 ≤ k.getD i 0 := fun i hi => by simpa using hle (i + 1) (by simpa using hi)
    have hmono := total_le l k hl hle'
    show x + total l < y + total k
    cases i with
    | zero => have : x < y := by simpa using hlt
              omega
    | succ i =>
      have := total_lt l k hl hle' ⟨i, by simpa using hi, by simpa using hlt⟩
      omega
/-- THE LAW OF THE CREW: another way to share all people has no lesser greatest part -/
theorem manned_law {m people : Int} {hs : List Span} (hm : 1 ≤ m) (h : ∀ s ∈ hs, 0 ≤ s.hi) (hp : total (needs m hs) ≤ people) (ns : List Int) (hn : ns.length = hs.length) (hn0 : ∀ x ∈ ns, 0 ≤ x) (j : Nat) (hj : j < hs.length) (hj0 : 0 < (hs.getD j default).hi)
    (hless : ∀ i, i < hs.length → (hs.getD i default).hi = 0 ∨ 0 < ns.getD i 0 ∧ (hs.getD i default).hi * (after hs (needs m hs) (people - total (needs m hs)).toNat).getD j 0 < (hs.getD j default).hi * ns.getD i 0) :
    total (after hs (needs m hs) (people - total (needs m hs)).toNat) = people ∧ people < total ns := by
  have F := fair_after hm h (people - total (needs m hs)).toNat
  have ht := total_after (needs_len m hs) ⟨j, hj, by omega⟩ (people - total (needs m hs)).toNat
  rw [Int.toNat_of_nonneg (by omega)] at ht
  generalize after hs (needs m hs) (people - total (needs m hs)).toNat = ls at *
  have hsum : total ls = people := by omega
  refine ⟨hsum, ?_⟩
  rw [← hsum]
  have hpos : ∀ i, i < hs.length → 0 ≤ (hs.getD i default).hi := fun i hi => by rw [getD_at hi]; exact h _ (List.getElem_mem hi)
  have hlj := F.pos j hj hj0
  apply total_lt ls ns (by rw [F.len, hn])
  · intro i hi
    rw [F.len] at hi
    rcases hless i hi with hz | ⟨q1, q2⟩
    · rw [F.zero i hi hz]
      exact total_getD ns hn0 i
    · rcases Int.lt_or_le 0 (hs.getD i default).hi with hp' | hp'
      · have := F.turn i j hi hj hp' hj0
        rcases Int.lt_or_le (ns.getD i 0) (ls.getD i 0) with hlt | hle
        · exfalso
          have k := Int.mul_le_mul_of_nonneg_left (show ns.getD i 0 ≤ ls.getD i 0 - 1 by omega) (show 0 ≤ (hs.getD j default).hi by omega)
          omega
        · exact hle
      · have hz : (hs.getD i default).hi = 0 := by have := hpos i hi; omega
        rw [F.zero i hi hz]
        exact total_getD ns hn0 i
  · refine ⟨j, by rw [F.len]; exact hj, ?_⟩
    rcases hless j hj with hz | ⟨q1, q2⟩
    · omega
    · exact Int.lt_of_mul_lt_mul_left q2 (by omega)
end Bal.Mast

namespace Bal.Trim
open Go Go.RowKit Go.ChangeShapes Go.WideShapes
set_option linter.unusedVariables false
def bcell (n : Int) : List Value := [.int .u8 n]
theorem u8_of_leaves {cs : List Value} (h : LeavesOk [.int .u8] cs) : ∃ x : Int, cs = bcell x ∧ (Lit.int .u8 x).wf = true := by
  obtain ⟨hl, h⟩ := h
  match cs, hl with
  | [v0], _ =>
    obtain ⟨_, e0, n0, rfl, w0⟩ := h 0 (.int .u8) rfl; simp at e0; subst e0
    exact ⟨n0, rfl, w0⟩
end Bal.Trim

/-
  Manned lines: what the statement asks of them, step by step: the plain side. No program in sight.
-/
namespace Bal.Mast
open Bal.Trim
set_option linter.unusedVariables false
/-- the greatest part, as the statement seeks it -/
def gpart (hs : List Span) (ls : List Int) : Nat → Int × Int
  | 0 => (0, 1)
  | k + 1 => if 0 < ls.getD k 0 ∧ (gpart hs ls k).1 * ls.getD k 0 < (hs.getD k default).hi * (gpart hs ls k).2 then ((hs.getD k default).hi, ls.getD k 0) else gpart hs ls k
/-- another way to share -/
def otherL (ot : List Int) (n : Nat) : List Int := (List.range n).map fun i => ot.getD i 0
theorem otherL_len (ot : List Int) (n : Nat) : (otherL ot n).length = n := by simp [otherL]
theorem otherL_at {ot : List Int} {n i : Nat} (h : i < n) : (otherL ot n).getD i 0 = ot.getD i 0 := by
  rw [getD_at (by rw [otherL_len]; exact h)]
  simp [otherL]
theorem otherL_succ (ot : List Int) (k : Nat) : otherL ot (k + 1) = otherL ot k ++ [ot.getD k 0] := by
  unfold otherL
  rw [List.range_succ, List.map_append]
  rfl
def lessAt (hs : List Span) (ot : List Int) (num den : Int) (k : Nat) : Bool := decide ((hs.getD k default).hi = 0) || (decide (0 < ot.getD k 0) && decide ((hs.getD k default).hi * den < num * ot.getD k 0))
def lessTo (hs : List Span) (ot : List Int) (num den : Int) : Nat → Bool
  | 0 => true
  | k + 1 => lessTo hs ot num den k && lessAt hs ot num den k
theorem lessTo_all {hs : List Span} {ot : List Int} {num den : Int} : ∀ {n : Nat}, lessTo hs ot num den n = true → ∀ i, i < n → lessAt hs ot num den i = true
  | 0, _, i, h => absurd h (Nat.not_lt_zero _)
  | n + 1, h, i, hi => by
    simp only [lessTo, Bool.and_eq_true] at h
    rcases Nat.lt_or_ge i n with h' | h'
    · exact lessTo_all h.1 i h'
    · obtain rfl : i = n := by omega
      exact h.2
structure ManOk (hs : List Span) (people m : Int) (L : List Int) : Prop where
  few : hs.length ≤ 8
  most : 1 ≤ m ∧ m ≤ 1000000
  pp : 0 ≤ people ∧ people ≤ 200
  len : L.length = hs.length
  hi : ∀ i, 0 ≤ (hs.getD i default).hi ∧ (hs.getD i default).hi ≤ 1000000
  bd : ∀ i, 0 ≤ L.getD i 0 ∧ L.getD i 0 ≤ 400
  enough : ∀ i, i < hs.length → (hs.getD i default).hi ≤ L.getD i 0 * m
  zero : ∀ i, i < hs.length → (hs.getD i default).hi = 0 → L.getD i 0 = 0
  sum : total L ≤ people
  all : (∃ j, j < hs.length ∧ 0 < (hs.getD j default).hi) → total L = people
  best : ∀ (ot : List Int), (∀ x ∈ ot, 0 ≤ x) → ∀ j, j < hs.length → 0 < (hs.getD j default).hi → lessTo hs ot (hs.getD j default).hi (L.getD j 0) hs.length = true → people < total (otherL ot hs.length)
theorem manE_ok {hs : List Span} {people m : Int} (h : manE hs people m = 0) : ManOk hs people m (manL hs people m) := by
  have h0 := h
  unfold manE at h
  cases hk : manOk hs people m
  · rw [hk] at h; simp at h
  · rw [hk] at h
    simp only [if_true] at h
    have hle : total (needs m hs) ≤ people := by
      rcases Int.lt_or_le people (total (needs m hs)) with h1 | h1
      · rw [if_pos h1] at h; omega
      · exact h1
    unfold manOk at hk
    simp only [Bool.and_eq_true, inB_iff] at hk
    obtain ⟨⟨k1, k2⟩, k3⟩ := hk
    obtain ⟨k4, k5⟩ := linesB_parts k1
    have hpos : ∀ s ∈ hs, 0 ≤ s.hi := fun s hs' => (line_bd (k5 s hs')).1
    have hL : manL hs people m = after hs (needs m hs) (people - total (needs m hs)).toNat := by unfold manL; rw [if_pos h0]
    have F := fair_after k3.1 hpos (people - total (needs m hs)).toNat
    have hnb := needs_bd k3.1 k5
    have htm := total_mem (fun x hx => (hnb x hx).1)
    have hab := after_bd (hs := hs) (ls := needs m hs) (fun x hx => ⟨(hnb x hx).1, by have := htm.2 x hx; omega⟩) (people - total (needs m hs)).toNat
    rw [← hL] at F hab
    refine ⟨k4, k3, k2, F.len, fun i => ?_, fun i => ?_, F.enough, F.zero, ?_, ?_, ?_⟩
    · rw [List.getD_eq_getElem?_getD]
      cases he : hs[i]? with
      | none => exact ⟨by decide, by decide⟩
      | some s => exact line_bd (k5 s (List.mem_of_getElem? he))
    · rw [List.getD_eq_getElem?_getD]
      cases he : (manL hs people m)[i]? with
      | none => exact ⟨by decide, by decide⟩
      | some x =>
        have := hab x (List.mem_of_getElem? he)
        have := htm.1
        simp only [Option.getD_some]
        omega
    · by_cases hex : ∃ i, i < hs.length ∧ (hs.getD i default).hi ≠ 0
      · have := total_after (L := needs m hs) (needs_len m hs) hex (people - total (needs m hs)).toNat
        rw [hL, this]; omega
      · have hp : pick hs (needs m hs) hs.length < 0 := (pick_none (hs := hs) hs.length).2 fun i hi => by
          by_cases hz : (hs.getD i default).hi = 0
          · exact hz
          · exact absurd ⟨i, hi, hz⟩ hex
        rw [hL, after_none hp]; exact hle
    · rintro ⟨j, hj, hj0⟩
      have := total_after (L := needs m hs) (needs_len m hs) ⟨j, hj, by omega⟩ (people - total (needs m hs)).toNat
      rw [hL, this]; omega
    · intro ot hot j hj hj0 hl
      have := manned_law k3.1 hpos hle (otherL ot hs.length) (otherL_len _ _) (fun x hx => by
        obtain ⟨i, _, rfl⟩ := List.mem_map.1 hx
        exact total_getD ot hot i) j hj hj0 (fun i hi => by
          have hh := lessTo_all hl i hi
          unfold lessAt at hh
          rw [otherL_at hi, ← hL]
          simp only [Bool.or_eq_true, Bool.and_eq_true, decide_eq_true_eq] at hh
          exact hh)
      exact this.2
theorem gpart_ok {hs : List Span} {people m : Int} {L : List Int} (M : ManOk hs people m L) : ∀ k, k ≤ hs.length → (0 ≤ (gpart hs L k).1 ∧ (gpart hs L k).1 ≤ 1000000) ∧ (1 ≤ (gpart hs L k).2 ∧ (gpart hs L k).2 ≤ 400) ∧
    (0 < (gpart hs L k).1 → ∃ j, j < hs.length ∧ gpart hs L k = ((hs.getD j default).hi, L.getD j 0))
  | 0, _ => by simp [gpart]
  | k + 1, hk => by
    have ih := gpart_ok M k (by omega)
    have h1 := M.hi k
    have h2 := M.bd k
    simp only [gpart]
    split
    · rename_i hc
      exact ⟨h1, by omega, fun _ => ⟨k, by omega, rfl⟩⟩
    · exact ih
/-- THE LAW OF THE CREW, as the statement asks it -/
theorem manned_end {hs : List Span} {people m : Int} {L : List Int} (M : ManOk hs people m L) {num den : Int} (hg : gpart hs L hs.length = (num, den)) : (0 < num → total L = people) ∧ ∀ ot : List Int, (∀ x ∈ ot, 0 ≤ x) → 0 < num → lessTo hs ot num den hs.length = true → people < total (otherL ot hs.length) := by
  obtain ⟨_, _, h⟩ := gpart_ok M hs.length (Nat.le_refl _)
  rw [hg] at h
  refine ⟨fun hp => ?_, fun ot hot hp hl => ?_⟩
  · obtain ⟨j, hj, e⟩ := h hp
    have e1 : num = (hs.getD j default).hi := congrArg Prod.fst e
    exact M.all ⟨j, hj, by omega⟩
  · obtain ⟨j, hj, e⟩ := h hp
    have e1 : num = (hs.getD j default).hi := congrArg Prod.fst e
    have e2 : den = L.getD j 0 := congrArg Prod.snd e
    rw [e1, e2] at hl
    exact M.best ot hot j hj (by omega) hl
theorem manE_not {hs : List Span} {people m : Int} (h : manE hs people m ≠ 0) : (manE hs people m = 2 ∨ manE hs people m = 75) ∧ manL hs people m = [] := by
  refine ⟨?_, by unfold manL; rw [if_neg h]⟩
  unfold manE at h ⊢
  split
  · rename_i hk
    rw [if_pos hk] at h
    split
    · exact .inr rfl
    · rename_i h2
      rw [if_neg h2] at h; exact absurd rfl h
  · exact .inl rfl
end Bal.Mast

/-
  MastManned: no person holds more than is stated: the walk.
-/
namespace Go.Proofs.YtacbkbilbmkjnaaGreat
open Go.RowKit Bal Bal.Trim Bal.Mast
set_option linter.unusedVariables false
set_option linter.unusedSimpArgs false
set_option maxHeartbeats 4000000
set_option maxRecDepth 100000

theorem total_tb {xs : List Int} (h : ∀ i, 0 ≤ xs.getD i 0 ∧ xs.getD i 0 ≤ 400) : ∀ k, k ≤ 100 → 0 ≤ total (xs.take k) ∧ total (xs.take k) ≤ 400 * k := by
  intro k
  induction k with
  | zero => intro _; simp [total]
  | succ k ih =>
    intro hk
    have := ih (by omega)
    rcases Nat.lt_or_ge k xs.length with hl | hl
    · have h1 := h k
      rw [getD_at hl] at h1
      rw [List.take_succ_eq_append_getElem hl, total_snoc]
      omega
    · rw [show xs.take (k + 1) = xs.take k by rw [List.take_of_length_le hl, List.take_of_length_le (by omega)]]
      omega
theorem getD_255 {ot : List Int} (h : ∀ x ∈ ot, 0 ≤ x ∧ x ≤ 255) (k : Nat) : 0 ≤ ot.getD k 0 ∧ ot.getD k 0 ≤ 255 := by
  rw [List.getD_eq_getElem?_getD]
  cases he : ot[k]? with
  | none => exact ⟨by decide, by decide⟩
  | some y => exact h y (List.mem_of_getElem? he)
theorem total_other {ot : List Int} (h : ∀ x ∈ ot, 0 ≤ x ∧ x ≤ 255) : ∀ k : Nat, 0 ≤ total (otherL ot k) ∧ total (otherL ot k) ≤ 255 * k
  | 0 => by simp [otherL, total]
  | k + 1 => by
    have := total_other h k
    have := getD_255 h k
    rw [otherL_succ, total_snoc]
    omega

theorem u8_row {B : Nat} {w : World} {a : Option Addr} {xs : List Int} (h : Row bcell 1 B w a xs) (i : Nat) (hi : i < xs.length) : ∃ b off, a = some ⟨b, off, none⟩ ∧ b < B ∧ w.cell? ⟨b, off + i, none⟩ = some (.int .u8 xs[i]) := by
  obtain ⟨b, off, ha, hb, hc⟩ := h i xs[i] (by simp [hi])
  have := hc 0 _ rfl
  simp only [Nat.mul_one, Nat.add_zero] at this
  exact ⟨b, off, ha, hb, this⟩
theorem law_MastManned_great (a : Option Addr) (c : Nat) (e : Option Addr) (d : Nat) (p : Port) (w : World) (hx : Row Axis.cells 2 w.heap.size w a p.axes) (hc : p.axes.length ≤ c) (hM : c ≤ maxLen) (hy : Row Span.cells 2 w.heap.size w e p.pulls) (hd : p.pulls.length ≤ d) (hN : d ≤ maxLen) (q : Int) (oa : Option Addr) (oc : Nat) (ot : List Int) (ho : Row bcell 1 w.heap.size w oa ot) (hol : ot.length ≤ oc) (hom : oc ≤ maxLen) (hob : ∀ x ∈ ot, 0 ≤ x ∧ x ≤ 255) (hg : (decide (40 < p.axes.length) || decide (20 < p.pulls.length)) = true) : Calls Tryz.prog 3 #[.agg #[.slice a p.axes.length c, .int .i64 p.people, .int .i64 p.most, .slice e p.pulls.length d, .int .i64 p.cross], .int .i64 q, .slice oa ot.length oc] w fun z w' => z = .returned (.bool true) ∧ Kept w w' := by
  have HG := Lib.hid hg
  clear hg
  go_enter Tryz.func3, Tryz.ntmps3
  go_wp2_with (first | (go_at_call 11; (with_reducible refine (o_alive _).mono ?_); rintro z wA ⟨rfl, hbA⟩; refine Blk.thru (b := w.heap.size) (arr := ?_) (t := ?_) ?_ hbA ?_; rotate_left 2; (focus (exact blk)); intro r0; have r0c0 := r0.cell 0; have r0f0 := r0.free 0; have r0c1 := r0.cell 1; have r0f1 := r0.free 1; have r0c2 := r0.cell 2; have r0f2 := r0.free 2; have r0c3 := r0.cell 3; have r0f3 := r0.free 3; have r0c4 := r0.cell 4; have r0f4 := r0.free 4; have r0l := r0.lt; simp at r0c0 r0c1 r0c2 r0c3 r0c4) | (go_at_call 12; (with_reducible refine (r_Great a c p.axes p.people p.most e d p.pulls p.cross _ hM hN hc hd).mono ?_); rw [HG.out]; rintro z wG ⟨rfl, hbG⟩; refine Blk.thru (b := w.heap.size) (arr := ?_) (t := ?_) ?_ hbG ?_; rotate_left 2; (focus (exact blk)); intro r0; have r0c0 := r0.cell 0; have r0f0 := r0.free 0; have r0c1 := r0.cell 1; have r0f1 := r0.free 1; have r0c2 := r0.cell 2; have r0f2 := r0.free 2; have r0c3 := r0.cell 3; have r0f3 := r0.free 3; have r0c4 := r0.cell 4; have r0f4 := r0.free 4; have r0l := r0.lt; simp at r0c0 r0c1 r0c2 r0c3 r0c4))
  go_ret
  exact ⟨rfl, by (exact kpt)⟩
theorem law_MastManned_not (a : Option Addr) (c : Nat) (e : Option Addr) (d : Nat) (p : Port) (w : World) (hx : Row Axis.cells 2 w.heap.size w a p.axes) (hc : p.axes.length ≤ c) (hM : c ≤ maxLen) (hy : Row Span.cells 2 w.heap.size w e p.pulls) (hd : p.pulls.length ≤ d) (hN : d ≤ maxLen) (q : Int) (oa : Option Addr) (oc : Nat) (ot : List Int) (ho : Row bcell 1 w.heap.size w oa ot) (hol : ot.length ≤ oc) (hom : oc ≤ maxLen) (hob : ∀ x ∈ ot, 0 ≤ x ∧ x ≤ 255) (hg : (decide (40 < p.axes.length) || decide (20 < p.pulls.length)) = false) (h2 : p.pulls.length ≤ 1000000) (hne : manE p.pulls q p.most ≠ 0) : Calls Tryz.prog 3 #[.agg #[.slice a p.axes.length c, .int .i64 p.people, .int .i64 p.most, .slice e p.pulls.length d, .int .i64 p.cross], .int .i64 q, .slice oa ot.length oc] w fun z w' => z = .returned (.bool true) ∧ Kept w w' := by
  have HG := Lib.hid hg
  obtain ⟨he, hl⟩ := manE_not hne
  have HL := Lib.hid hl
  obtain ⟨E, hE⟩ : ∃ x, manE p.pulls q p.most = x := ⟨_, rfl⟩
  rw [hE] at he
  have HE := Lib.hid hE
  clear hg hl hE hne
  rcases he with rfl | rfl
  all_goals
    go_enter Tryz.func3, Tryz.ntmps3
    go_wp2_with (first | (go_at_call 11; (with_reducible refine (o_alive _).mono ?_); rintro z wA ⟨rfl, hbA⟩; refine Blk.thru (b := w.heap.size) (arr := ?_) (t := ?_) ?_ hbA ?_; rotate_left 2; (focus (exact blk)); intro r0; have r0c0 := r0.cell 0; have r0f0 := r0.free 0; have r0c1 := r0.cell 1; have r0f1 := r0.free 1; have r0c2 := r0.cell 2; have r0f2 := r0.free 2; have r0c3 := r0.cell 3; have r0f3 := r0.free 3; have r0c4 := r0.cell 4; have r0f4 := r0.free 4; have r0l := r0.lt; simp at r0c0 r0c1 r0c2 r0c3 r0c4) | (go_at_call 12; (with_reducible refine (r_Great a c p.axes p.people p.most e d p.pulls p.cross _ hM hN hc hd).mono ?_); rw [HG.out]; rintro z wG ⟨rfl, hbG⟩; refine Blk.thru (b := w.heap.size) (arr := ?_) (t := ?_) ?_ hbG ?_; rotate_left 2; (focus (exact blk)); intro r0; have r0c0 := r0.cell 0; have r0f0 := r0.free 0; have r0c1 := r0.cell 1; have r0f1 := r0.free 1; have r0c2 := r0.cell 2; have r0f2 := r0.free 2; have r0c3 := r0.cell 3; have r0f3 := r0.free 3; have r0c4 := r0.cell 4; have r0f4 := r0.free 4; have r0l := r0.lt; simp at r0c0 r0c1 r0c2 r0c3 r0c4) | (go_at_call 13; (with_reducible refine (f_Man e d p.pulls q p.most _ (hy.later (by (exact kpt)) (Nat.le_refl _)) hd hN h2).mono ?_); rw [HE.out, HL.out]; rintro z w1 ⟨v1, rfl, ho1, hb1⟩; obtain ⟨ad, cp, rfl, hr1, hc1, hm1⟩ := owns_row (enc := icell) (k := 1) (fun _ => rfl) ho1; refine Blk.thru (b := w.heap.size) (arr := ?_) (t := ?_) ?_ hb1 ?_; rotate_left 2; (focus (exact blk)); intro r0; have r0c0 := r0.cell 0; have r0f0 := r0.free 0; have r0c1 := r0.cell 1; have r0f1 := r0.free 1; have r0c2 := r0.cell 2; have r0f2 := r0.free 2; have r0c3 := r0.cell 3; have r0f3 := r0.free 3; have r0c4 := r0.cell 4; have r0f4 := r0.free 4; have r0l := r0.lt; simp at r0c0 r0c1 r0c2 r0c3 r0c4))
    go_ret
    exact ⟨rfl, by (exact kpt)⟩
theorem law_MastManned_ok (a : Option Addr) (c : Nat) (e : Option Addr) (d : Nat) (p : Port) (w : World) (hx : Row Axis.cells 2 w.heap.size w a p.axes) (hc : p.axes.length ≤ c) (hM : c ≤ maxLen) (hy : Row Span.cells 2 w.heap.size w e p.pulls) (hd : p.pulls.length ≤ d) (hN : d ≤ maxLen) (q : Int) (oa : Option Addr) (oc : Nat) (ot : List Int) (ho : Row bcell 1 w.heap.size w oa ot) (hol : ot.length ≤ oc) (hom : oc ≤ maxLen) (hob : ∀ x ∈ ot, 0 ≤ x ∧ x ≤ 255) (hg : (decide (40 < p.axes.length) || decide (20 < p.pulls.length)) = false) (h2 : p.pulls.length ≤ 1000000) (he : manE p.pulls q p.most = 0) : Calls Tryz.prog 3 #[.agg #[.slice a p.axes.length c, .int .i64 p.people, .int .i64 p.most, .slice e p.pulls.length d, .int .i64 p.cross], .int .i64 q, .slice oa ot.length oc] w fun z w' => z = .returned (.bool true) ∧ Kept w w' := by
  have hom' := hom
  have hN' := hN
  unfold maxLen at hom' hN'
  have HG := Lib.hid hg
  have HE := Lib.hid he
  have M := manE_ok he
  obtain ⟨L, hL⟩ : ∃ x, manL p.pulls q p.most = x := ⟨_, rfl⟩
  rw [hL] at M
  have HL := Lib.hid hL
  have HM := Lib.hid M
  have hll := M.len
  have hfew := M.few
  have hmm := M.most
  have hpp := M.pp
  clear hg he hL
  obtain ⟨ln, hln⟩ : ∃ n, L.length = n := ⟨_, rfl⟩
  have hln2 : ln = p.pulls.length := by omega
  have HLN := Lib.hid hln
  go_enter Tryz.func3, Tryz.ntmps3
  go_upto_region 12 with (first | (go_at_call 11; (with_reducible refine (o_alive _).mono ?_); rintro z wA ⟨rfl, hbA⟩; refine Blk.thru (b := w.heap.size) (arr := ?_) (t := ?_) ?_ hbA ?_; rotate_left 2; (focus (exact blk)); intro r0; have r0c0 := r0.cell 0; have r0f0 := r0.free 0; have r0c1 := r0.cell 1; have r0f1 := r0.free 1; have r0c2 := r0.cell 2; have r0f2 := r0.free 2; have r0c3 := r0.cell 3; have r0f3 := r0.free 3; have r0c4 := r0.cell 4; have r0f4 := r0.free 4; have r0l := r0.lt; simp at r0c0 r0c1 r0c2 r0c3 r0c4) | (go_at_call 12; (with_reducible refine (r_Great a c p.axes p.people p.most e d p.pulls p.cross _ hM hN hc hd).mono ?_); rw [HG.out]; rintro z wG ⟨rfl, hbG⟩; refine Blk.thru (b := w.heap.size) (arr := ?_) (t := ?_) ?_ hbG ?_; rotate_left 2; (focus (exact blk)); intro r0; have r0c0 := r0.cell 0; have r0f0 := r0.free 0; have r0c1 := r0.cell 1; have r0f1 := r0.free 1; have r0c2 := r0.cell 2; have r0f2 := r0.free 2; have r0c3 := r0.cell 3; have r0f3 := r0.free 3; have r0c4 := r0.cell 4; have r0f4 := r0.free 4; have r0l := r0.lt; simp at r0c0 r0c1 r0c2 r0c3 r0c4) | (go_at_call 13; (with_reducible refine (f_Man e d p.pulls q p.most _ (hy.later (by (exact kpt)) (Nat.le_refl _)) hd hN h2).mono ?_); rw [HE.out, HL.out]; rintro z w1 ⟨v1, rfl, ho1, hb1⟩; obtain ⟨ad, cp, rfl, hr1, hc1, hm1⟩ := owns_row (enc := icell) (k := 1) (fun _ => rfl) ho1; rw [HLN.out] at hc1 ⊢; have hm2 := hm1; unfold maxLen at hm2; refine Blk.thru (b := w.heap.size) (arr := ?_) (t := ?_) ?_ hb1 ?_; rotate_left 2; (focus (exact blk)); intro r0; have r0c0 := r0.cell 0; have r0f0 := r0.free 0; have r0c1 := r0.cell 1; have r0f1 := r0.free 1; have r0c2 := r0.cell 2; have r0f2 := r0.free 2; have r0c3 := r0.cell 3; have r0f3 := r0.free 3; have r0c4 := r0.cell 4; have r0f4 := r0.free 4; have r0l := r0.lt; simp at r0c0 r0c1 r0c2 r0c3 r0c4))
  refine at_world (S := fun V => Blk V w.heap.size #[.slice a p.axes.length c, .int .i64 p.people, .int .i64 p.most, .slice e p.pulls.length d, .int .i64 p.cross] 25 ∧ Row icell 1 V.heap.size V ad L ∧ Kept w V) ⟨by (exact blk), hr1.later (by (exact kpt)) (Nat.le_refl _), by (exact kpt)⟩ ?_
  clear r0c0 r0f0 r0c1 r0f1 r0c2 r0f2 r0c3 r0f3 r0c4 r0f4 r0l
  clear r0 hr1 hb1 ho1
  rintro V ⟨r0, rl, hk⟩
  go_wp2
  go_loopw [10, 11, 12, 60] (fun s10 s11 s12 i wr => ∃ k : Nat, k ≤ ln ∧ i = .int .i64 k ∧ s10 = .int .i64 (total (L.take k)) ∧ s11 = .int .i64 (gpart p.pulls L k).1 ∧ s12 = .int .i64 (gpart p.pulls L k).2 ∧ Blk wr w.heap.size #[.slice a p.axes.length c, .int .i64 p.people, .int .i64 p.most, .slice e p.pulls.length d, .int .i64 p.cross] 25 ∧ Row icell 1 wr.heap.size wr ad L ∧ Kept w wr) (fun _ _ _ i _ => ln - (intOf i).toNat)
  case atStart => exact ⟨0, Nat.zero_le _, rfl, rfl, rfl, rfl, r0, rl, hk⟩
  case round =>
    clear r0 rl hk
    obtain ⟨k, hkl, rfl, rfl, rfl, rfl, r0, rl, hk⟩ := hrel
    by_cases hlt : k < ln
    · have hkL : k < L.length := by omega
      have hkP : k < p.pulls.length := by omega
      obtain ⟨b1, o1, rfl, hb1, g0⟩ := int_row rl k hkL
      obtain ⟨b2, o2, rfl, hb2, j0, j1⟩ := Span.row (hy.later hk (Nat.le_refl _)) k hkP
      have M := HM.out
      have y1 := M.bd k
      have y2 := M.hi k
      have y3 := M.enough k hkP
      have y4 := M.zero k hkP
      obtain ⟨y5, y6, _⟩ := gpart_ok M k (by omega)
      have HST := Lib.hid (show total (L.take (k + 1)) = total (L.take k) + L.getD k 0 by rw [List.take_succ_eq_append_getElem hkL, total_snoc, getD_at hkL])
      have HGP := Lib.hid (show gpart p.pulls L (k + 1) = if 0 < L.getD k 0 ∧ (gpart p.pulls L k).1 * L.getD k 0 < (p.pulls.getD k default).hi * (gpart p.pulls L k).2 then ((p.pulls.getD k default).hi, L.getD k 0) else gpart p.pulls L k from rfl)
      have htb := total_tb (xs := L) (fun i => M.bd i) k (by omega)
      rw [getD_at hkP] at y2 y3 y4 HGP
      rw [getD_at hkL] at y1 y3 y4 HST HGP
      obtain ⟨h, hh⟩ : ∃ x, x = p.pulls[k] := ⟨_, rfl⟩
      obtain ⟨n, hn⟩ : ∃ x, x = L[k] := ⟨_, rfl⟩
      obtain ⟨S, hS⟩ : ∃ x, x = total (L.take k) := ⟨_, rfl⟩
      obtain ⟨G, hG⟩ : ∃ x, x = gpart p.pulls L k := ⟨_, rfl⟩
      rw [← hh] at y2 y3 y4 HGP j0 j1
      rw [← hn] at y1 y3 y4 HST HGP g0
      rw [← hS] at HST htb ⊢
      rw [← hG] at y5 y6 HGP ⊢
      clear hh hn hS hG M
      obtain ⟨num, den⟩ := G
      simp only at y5 y6 HGP ⊢
      have m1 := mul_bd (A := 400) (B := 1000000) (x := n) (y := p.most) (by omega) (by omega) (by omega) (by omega)
      have m2 := mul_bd (A := 1000000) (B := 400) (x := h.hi) (y := den) (by omega) (by omega) (by omega) (by omega)
      have m3 := mul_bd (A := 1000000) (B := 400) (x := num) (y := n) (by omega) (by omega) (by omega) (by omega)
      have hw1 := i64_in (n := n * p.most) (by omega)
      have hw2 := i64_in (n := h.hi * den) (by omega)
      have hw3 := i64_in (n := num * n) (by omega)
      have hw4 := i64_in (n := S + n) (by omega)
      have d1 : ¬ n < 0 := by omega
      have d2 : ¬ n * p.most < h.hi := by omega
      have k0 : (0 : Int) ≤ (k : Int) := by omega
      have k1 : (k : Int) < (ln : Int) := by omega
      have k2 : (k : Int) < (p.pulls.length : Int) := by omega
      clear m1 m2 m3
      have r0c0 := r0.cell 0
      have r0f0 := r0.free 0
      have r0c1 := r0.cell 1
      have r0f1 := r0.free 1
      have r0c2 := r0.cell 2
      have r0f2 := r0.free 2
      have r0c3 := r0.cell 3
      have r0f3 := r0.free 3
      have r0c4 := r0.cell 4
      have r0f4 := r0.free 4
      have r0l := r0.lt
      simp at r0c0 r0c1 r0c2 r0c3 r0c4
      by_cases hz : h.hi = 0
      · obtain rfl := y4 hz
        have hzb : (h.hi == 0) = true := by simp [hz]
        have HG2 : gpart p.pulls L (k + 1) = (num, den) := by rw [HGP.out, if_neg (by omega)]
        have HG3 := Lib.hid HG2
        clear HG2 hz
        go_wp2
        go_roundw
        case rel => exact ⟨k + 1, by omega, by go_num, by first | (rw [HST.out]; done) | (refine congrArg (Value.int .i64) ?_; rw [HST.out]; omega), by rw [HG3.out], by rw [HG3.out], by (exact blk), rl.later (by (exact kpt)) (Nat.le_refl _), by (exact kpt)⟩
        case measure => simp [intOf]; omega
      · have hzb : (h.hi == 0) = false := by simp [hz]
        by_cases hn0 : 0 < n
        · by_cases hgt : num * n < h.hi * den
          · have HG3 := Lib.hid (show gpart p.pulls L (k + 1) = (h.hi, n) by rw [HGP.out, if_pos ⟨hn0, hgt⟩])
            go_wp2
            go_roundw
            case rel => exact ⟨k + 1, by omega, by go_num, by first | (rw [HST.out]; done) | (refine congrArg (Value.int .i64) ?_; rw [HST.out]; omega), by rw [HG3.out], by rw [HG3.out], by (exact blk), rl.later (by (exact kpt)) (Nat.le_refl _), by (exact kpt)⟩
            case measure => simp [intOf]; omega
          · have HG3 := Lib.hid (show gpart p.pulls L (k + 1) = (num, den) by rw [HGP.out, if_neg (fun h => hgt h.2)])
            go_wp2
            go_roundw
            case rel => exact ⟨k + 1, by omega, by go_num, by first | (rw [HST.out]; done) | (refine congrArg (Value.int .i64) ?_; rw [HST.out]; omega), by rw [HG3.out], by rw [HG3.out], by (exact blk), rl.later (by (exact kpt)) (Nat.le_refl _), by (exact kpt)⟩
            case measure => simp [intOf]; omega
        · have HG3 := Lib.hid (show gpart p.pulls L (k + 1) = (num, den) by rw [HGP.out, if_neg (fun h => hn0 h.1)])
          go_wp2
          go_roundw
          case rel => exact ⟨k + 1, by omega, by go_num, by first | (rw [HST.out]; done) | (refine congrArg (Value.int .i64) ?_; rw [HST.out]; omega), by rw [HG3.out], by rw [HG3.out], by (exact blk), rl.later (by (exact kpt)) (Nat.le_refl _), by (exact kpt)⟩
          case measure => simp [intOf]; omega
    · obtain rfl : ln = k := by omega
      have M := HM.out
      rw [show L.take ln = L by rw [← HLN.out, List.take_length]]
      have hsum := M.sum
      obtain ⟨y5, y6, _⟩ := gpart_ok M ln (by omega)
      have hend := fun num den (hg : gpart p.pulls L ln = (num, den)) => manned_end M (num := num) (den := den) (by first | exact (hln2 ▸ hg) | (rw [← hln2]; exact hg))
      obtain ⟨S, hS⟩ : ∃ x, x = total L := ⟨_, rfl⟩
      obtain ⟨G, hG⟩ : ∃ x, x = gpart p.pulls L ln := ⟨_, rfl⟩
      rw [← hS] at hsum hend ⊢
      rw [← hG] at y5 y6 hend ⊢
      obtain ⟨num, den⟩ := G
      obtain ⟨q1, q2⟩ := hend num den rfl
      simp only at y5 y6 ⊢
      have HQ2 := Lib.hid q2
      clear hend hS hG M q2
      have k1 : ¬ (ln : Int) < (ln : Int) := by omega
      have d1 : ¬ q < S := by omega
      have r0c0 := r0.cell 0
      have r0f0 := r0.free 0
      have r0c1 := r0.cell 1
      have r0f1 := r0.free 1
      have r0c2 := r0.cell 2
      have r0f2 := r0.free 2
      have r0c3 := r0.cell 3
      have r0f3 := r0.free 3
      have r0c4 := r0.cell 4
      have r0f4 := r0.free 4
      have r0l := r0.lt
      simp at r0c0 r0c1 r0c2 r0c3 r0c4
      by_cases hnum : 0 < num
      · obtain rfl := q1 hnum
        have hnb : (num == 0) = false := by simp; omega
        go_wp2
        go_loopw [16, 17, 121] (fun s16 s17 i wr => ∃ k : Nat, k ≤ p.pulls.length ∧ i = .int .i64 k ∧ s16 = .int .i64 (total (otherL ot k)) ∧ s17 = .bool (lessTo p.pulls ot num den k) ∧ Blk wr w.heap.size #[.slice a p.axes.length c, .int .i64 p.people, .int .i64 p.most, .slice e p.pulls.length d, .int .i64 p.cross] 25 ∧ Kept w wr) (fun _ _ i _ => p.pulls.length - (intOf i).toNat)
        case atStart => exact ⟨0, Nat.zero_le _, rfl, rfl, rfl, r0, hk⟩
        case round =>
          clear r0c0 r0f0 r0c1 r0f1 r0c2 r0f2 r0c3 r0f3 r0c4 r0f4 r0l
          clear r0 hk rl
          obtain ⟨k, hkl, rfl, rfl, rfl, r0, hk⟩ := hrel
          by_cases hlt : k < p.pulls.length
          · obtain ⟨b2, o2, rfl, hb2, j0, j1⟩ := Span.row (hy.later hk (Nat.le_refl _)) k hlt
            have y2 := HM.out.hi k
            have HOS := Lib.hid (show total (otherL ot (k + 1)) = total (otherL ot k) + ot.getD k 0 by rw [otherL_succ, total_snoc])
            have HLS := Lib.hid (show lessTo p.pulls ot num den (k + 1) = (lessTo p.pulls ot num den k && (decide ((p.pulls.getD k default).hi = 0) || (decide (0 < ot.getD k 0) && decide ((p.pulls.getD k default).hi * den < num * ot.getD k 0)))) from rfl)
            have htb := total_other hob k
            have hn255 := getD_255 hob k
            rw [getD_at hlt] at y2 HLS
            obtain ⟨h, hh⟩ : ∃ x, x = p.pulls[k] := ⟨_, rfl⟩
            obtain ⟨S2, hS2⟩ : ∃ x, x = total (otherL ot k) := ⟨_, rfl⟩
            obtain ⟨LT, hLT⟩ : ∃ x, x = lessTo p.pulls ot num den k := ⟨_, rfl⟩
            rw [← hh] at y2 HLS j0 j1
            rw [← hS2] at HOS htb ⊢
            rw [← hLT] at HLS ⊢
            clear hh hS2 hLT
            have k0 : (0 : Int) ≤ (k : Int) := by omega
            have k1 : (k : Int) < (p.pulls.length : Int) := by omega
            have r0c0 := r0.cell 0
            have r0f0 := r0.free 0
            have r0c1 := r0.cell 1
            have r0f1 := r0.free 1
            have r0c2 := r0.cell 2
            have r0f2 := r0.free 2
            have r0c3 := r0.cell 3
            have r0f3 := r0.free 3
            have r0c4 := r0.cell 4
            have r0f4 := r0.free 4
            have r0l := r0.lt
            simp at r0c0 r0c1 r0c2 r0c3 r0c4
            by_cases hko : k < ot.length
            · obtain ⟨b3, o3, rfl, hb3, l0⟩ := u8_row (ho.later hk (Nat.le_refl _)) k hko
              rw [getD_at hko] at HOS HLS hn255
              obtain ⟨n, hn⟩ : ∃ x, x = ot[k] := ⟨_, rfl⟩
              rw [← hn] at HOS HLS hn255 l0
              clear hn
              have ko : (k : Int) < (ot.length : Int) := by omega
              have m2 := mul_bd (A := 1000000) (B := 400) (x := h.hi) (y := den) (by omega) (by omega) (by omega) (by omega)
              have m3 := mul_bd (A := 1000000) (B := 400) (x := num) (y := n) (by omega) (by omega) (by omega) (by omega)
              have hw2 := i64_in (n := h.hi * den) (by omega)
              have hw3 := i64_in (n := num * n) (by omega)
              have hw4 := i64_in (n := S2 + n) (by omega)
              have hw5 := i64_in (n := n) (by omega)
              clear m2 m3
              cases LT
              · go_wp2
                go_roundw
                case rel => exact ⟨k + 1, by omega, by go_num, by first | rfl | (refine congrArg (Value.int .i64) ?_; first | (rw [HOS.out]; done) | (rw [HOS.out]; omega)), by first | (rw [HLS.out]; simp; done) | (rw [HLS.out]; simp; omega), by (exact blk), by (exact kpt)⟩
                case measure => simp [intOf]; omega
              · by_cases hz : h.hi = 0
                · have hzb : (h.hi == 0) = true := by simp [hz]
                  go_wp2
                  go_roundw
                  case rel => exact ⟨k + 1, by omega, by go_num, by first | rfl | (refine congrArg (Value.int .i64) ?_; first | (rw [HOS.out]; done) | (rw [HOS.out]; omega)), by first | (rw [HLS.out]; simp [hz]; done) | (rw [HLS.out]; simp [hz]; omega), by (exact blk), by (exact kpt)⟩
                  case measure => simp [intOf]; omega
                · have hzb : (h.hi == 0) = false := by simp [hz]
                  by_cases hn0 : 0 < n
                  · by_cases hgt : h.hi * den < num * n
                    · go_wp2
                      go_roundw
                      case rel => exact ⟨k + 1, by omega, by go_num, by first | rfl | (refine congrArg (Value.int .i64) ?_; first | (rw [HOS.out]; done) | (rw [HOS.out]; omega)), by first | (rw [HLS.out]; simp [hz, hn0, hgt]; done) | (rw [HLS.out]; simp [hz, hn0, hgt]; omega), by (exact blk), by (exact kpt)⟩
                      case measure => simp [intOf]; omega
                    · go_wp2
                      go_roundw
                      case rel => exact ⟨k + 1, by omega, by go_num, by first | rfl | (refine congrArg (Value.int .i64) ?_; first | (rw [HOS.out]; done) | (rw [HOS.out]; omega)), by first | (rw [HLS.out]; simp [hz, hn0]; done) | (rw [HLS.out]; simp [hz, hn0]; omega), by (exact blk), by (exact kpt)⟩
                      case measure => simp [intOf]; omega
                  · go_wp2
                    go_roundw
                    case rel => exact ⟨k + 1, by omega, by go_num, by first | rfl | (refine congrArg (Value.int .i64) ?_; first | (rw [HOS.out]; done) | (rw [HOS.out]; omega)), by first | (rw [HLS.out]; simp [hz]; done) | (rw [HLS.out]; simp [hz]; omega), by (exact blk), by (exact kpt)⟩
                    case measure => simp [intOf]; omega
            · have ko : ¬ (k : Int) < (ot.length : Int) := by omega
              have e0 : ot.getD k 0 = 0 := by rw [List.getD_eq_getElem?_getD, List.getElem?_eq_none (by omega)]; rfl
              rw [e0] at HOS HLS
              obtain ⟨n, hn⟩ : ∃ n : Int, n = 0 := ⟨_, rfl⟩
              clear e0 hn255
              have m2 := mul_bd (A := 1000000) (B := 400) (x := h.hi) (y := den) (by omega) (by omega) (by omega) (by omega)
              have hw2 := i64_in (n := h.hi * den) (by omega)
              have hw4 := i64_in (n := S2) (by omega)
              clear m2 hn n
              cases LT
              · go_wp2
                go_roundw
                case rel => exact ⟨k + 1, by omega, by go_num, by first | rfl | (refine congrArg (Value.int .i64) ?_; first | (rw [HOS.out]; done) | (rw [HOS.out]; omega)), by first | (rw [HLS.out]; simp; done) | (rw [HLS.out]; simp; omega), by (exact blk), by (exact kpt)⟩
                case measure => simp [intOf]; omega
              · by_cases hz : h.hi = 0
                · have hzb : (h.hi == 0) = true := by simp [hz]
                  go_wp2
                  go_roundw
                  case rel => exact ⟨k + 1, by omega, by go_num, by first | rfl | (refine congrArg (Value.int .i64) ?_; first | (rw [HOS.out]; done) | (rw [HOS.out]; omega)), by first | (rw [HLS.out]; simp [hz]; done) | (rw [HLS.out]; simp [hz]; omega), by (exact blk), by (exact kpt)⟩
                  case measure => simp [intOf]; omega
                · have hzb : (h.hi == 0) = false := by simp [hz]
                  go_wp2
                  go_roundw
                  case rel => exact ⟨k + 1, by omega, by go_num, by first | rfl | (refine congrArg (Value.int .i64) ?_; first | (rw [HOS.out]; done) | (rw [HOS.out]; omega)), by first | (rw [HLS.out]; simp [hz]; done) | (rw [HLS.out]; simp [hz]; omega), by (exact blk), by (exact kpt)⟩
                  case measure => simp [intOf]; omega
          · obtain rfl : p.pulls.length = k := by omega
            have k1 : ¬ (p.pulls.length : Int) < (p.pulls.length : Int) := by omega
            have r0c0 := r0.cell 0
            have r0f0 := r0.free 0
            have r0c1 := r0.cell 1
            have r0f1 := r0.free 1
            have r0c2 := r0.cell 2
            have r0f2 := r0.free 2
            have r0c3 := r0.cell 3
            have r0f3 := r0.free 3
            have r0c4 := r0.cell 4
            have r0f4 := r0.free 4
            have r0l := r0.lt
            simp at r0c0 r0c1 r0c2 r0c3 r0c4
            obtain ⟨LT, hLT⟩ : ∃ x, lessTo p.pulls ot num den p.pulls.length = x := ⟨_, rfl⟩
            rw [hLT]
            obtain ⟨S2, hS2⟩ : ∃ x, x = total (otherL ot p.pulls.length) := ⟨_, rfl⟩
            have hq2 := fun h => HQ2.out ot (fun x hx => (hob x hx).1) hnum h
            rw [hLT, ← hS2] at hq2
            rw [← hS2]
            clear hLT hS2
            cases LT
            · by_cases hqs : S < S2
              · go_wp2
                go_ret
                exact ⟨rfl, by (exact kpt)⟩
              · go_wp2
                go_ret
                exact ⟨rfl, by (exact kpt)⟩
            · have hqs : S < S2 := hq2 rfl
              go_wp2
              go_ret
              exact ⟨rfl, by (exact kpt)⟩
      · have hnum0 : num ≤ 0 := by omega
        obtain rfl : num = 0 := by omega
        clear hnum q1
        go_wp2
        go_loopw [16, 17, 121] (fun s16 s17 i wr => ∃ k : Nat, k ≤ p.pulls.length ∧ i = .int .i64 k ∧ s16 = .int .i64 (total (otherL ot k)) ∧ s17 = .bool (lessTo p.pulls ot 0 den k) ∧ Blk wr w.heap.size #[.slice a p.axes.length c, .int .i64 p.people, .int .i64 p.most, .slice e p.pulls.length d, .int .i64 p.cross] 25 ∧ Kept w wr) (fun _ _ i _ => p.pulls.length - (intOf i).toNat)
        case atStart => exact ⟨0, Nat.zero_le _, rfl, rfl, rfl, r0, hk⟩
        case round =>
          clear r0c0 r0f0 r0c1 r0f1 r0c2 r0f2 r0c3 r0f3 r0c4 r0f4 r0l
          clear r0 hk rl
          obtain ⟨k, hkl, rfl, rfl, rfl, r0, hk⟩ := hrel
          by_cases hlt : k < p.pulls.length
          · obtain ⟨b2, o2, rfl, hb2, j0, j1⟩ := Span.row (hy.later hk (Nat.le_refl _)) k hlt
            have y2 := HM.out.hi k
            have HOS := Lib.hid (show total (otherL ot (k + 1)) = total (otherL ot k) + ot.getD k 0 by rw [otherL_succ, total_snoc])
            have HLS := Lib.hid (show lessTo p.pulls ot 0 den (k + 1) = (lessTo p.pulls ot 0 den k && (decide ((p.pulls.getD k default).hi = 0) || (decide (0 < ot.getD k 0) && decide ((p.pulls.getD k default).hi * den < 0 * ot.getD k 0)))) from rfl)
            have htb := total_other hob k
            have hn255 := getD_255 hob k
            rw [getD_at hlt] at y2 HLS
            obtain ⟨h, hh⟩ : ∃ x, x = p.pulls[k] := ⟨_, rfl⟩
            obtain ⟨S2, hS2⟩ : ∃ x, x = total (otherL ot k) := ⟨_, rfl⟩
            obtain ⟨LT, hLT⟩ : ∃ x, x = lessTo p.pulls ot 0 den k := ⟨_, rfl⟩
            rw [← hh] at y2 HLS j0 j1
            rw [← hS2] at HOS htb ⊢
            rw [← hLT] at HLS ⊢
            clear hh hS2 hLT
            have k0 : (0 : Int) ≤ (k : Int) := by omega
            have k1 : (k : Int) < (p.pulls.length : Int) := by omega
            have r0c0 := r0.cell 0
            have r0f0 := r0.free 0
            have r0c1 := r0.cell 1
            have r0f1 := r0.free 1
            have r0c2 := r0.cell 2
            have r0f2 := r0.free 2
            have r0c3 := r0.cell 3
            have r0f3 := r0.free 3
            have r0c4 := r0.cell 4
            have r0f4 := r0.free 4
            have r0l := r0.lt
            simp at r0c0 r0c1 r0c2 r0c3 r0c4
            by_cases hko : k < ot.length
            · obtain ⟨b3, o3, rfl, hb3, l0⟩ := u8_row (ho.later hk (Nat.le_refl _)) k hko
              rw [getD_at hko] at HOS HLS hn255
              obtain ⟨n, hn⟩ : ∃ x, x = ot[k] := ⟨_, rfl⟩
              rw [← hn] at HOS HLS hn255 l0
              clear hn
              have ko : (k : Int) < (ot.length : Int) := by omega
              have m2 := mul_bd (A := 1000000) (B := 400) (x := h.hi) (y := den) (by omega) (by omega) (by omega) (by omega)
              have m3 := mul_bd (A := 1000000) (B := 400) (x := 0) (y := n) (by omega) (by omega) (by omega) (by omega)
              have hw2 := i64_in (n := h.hi * den) (by omega)
              have hw3 := i64_in (n := 0 * n) (by omega)
              have hw4 := i64_in (n := S2 + n) (by omega)
              have hw5 := i64_in (n := n) (by omega)
              clear m2 m3
              cases LT
              · go_wp2
                go_roundw
                case rel => exact ⟨k + 1, by omega, by go_num, by first | rfl | (refine congrArg (Value.int .i64) ?_; first | (rw [HOS.out]; done) | (rw [HOS.out]; omega)), by first | (rw [HLS.out]; simp; done) | (rw [HLS.out]; simp; omega), by (exact blk), by (exact kpt)⟩
                case measure => simp [intOf]; omega
              · by_cases hz : h.hi = 0
                · have hzb : (h.hi == 0) = true := by simp [hz]
                  go_wp2
                  go_roundw
                  case rel => exact ⟨k + 1, by omega, by go_num, by first | rfl | (refine congrArg (Value.int .i64) ?_; first | (rw [HOS.out]; done) | (rw [HOS.out]; omega)), by first | (rw [HLS.out]; simp [hz]; done) | (rw [HLS.out]; simp [hz]; omega), by (exact blk), by (exact kpt)⟩
                  case measure => simp [intOf]; omega
                · have hzb : (h.hi == 0) = false := by simp [hz]
                  by_cases hn0 : 0 < n
                  · by_cases hgt : h.hi * den < 0 * n
                    · go_wp2
                      go_roundw
                      case rel => exact ⟨k + 1, by omega, by go_num, by first | rfl | (refine congrArg (Value.int .i64) ?_; first | (rw [HOS.out]; done) | (rw [HOS.out]; omega)), by first | (rw [HLS.out]; simp [hz, hn0, hgt]; done) | (rw [HLS.out]; simp [hz, hn0, hgt]; omega), by (exact blk), by (exact kpt)⟩
                      case measure => simp [intOf]; omega
                    · go_wp2
                      go_roundw
                      case rel => exact ⟨k + 1, by omega, by go_num, by first | rfl | (refine congrArg (Value.int .i64) ?_; first | (rw [HOS.out]; done) | (rw [HOS.out]; omega)), by first | (rw [HLS.out]; simp [hz, hn0]; done) | (rw [HLS.out]; simp [hz, hn0]; omega), by (exact blk), by (exact kpt)⟩
                      case measure => simp [intOf]; omega
                  · go_wp2
                    go_roundw
                    case rel => exact ⟨k + 1, by omega, by go_num, by first | rfl | (refine congrArg (Value.int .i64) ?_; first | (rw [HOS.out]; done) | (rw [HOS.out]; omega)), by first | (rw [HLS.out]; simp [hz]; done) | (rw [HLS.out]; simp [hz]; omega), by (exact blk), by (exact kpt)⟩
                    case measure => simp [intOf]; omega
            · have ko : ¬ (k : Int) < (ot.length : Int) := by omega
              have e0 : ot.getD k 0 = 0 := by rw [List.getD_eq_getElem?_getD, List.getElem?_eq_none (by omega)]; rfl
              rw [e0] at HOS HLS
              obtain ⟨n, hn⟩ : ∃ n : Int, n = 0 := ⟨_, rfl⟩
              clear e0 hn255
              have m2 := mul_bd (A := 1000000) (B := 400) (x := h.hi) (y := den) (by omega) (by omega) (by omega) (by omega)
              have hw2 := i64_in (n := h.hi * den) (by omega)
              have hw4 := i64_in (n := S2) (by omega)
              clear m2 hn n
              cases LT
              · go_wp2
                go_roundw
                case rel => exact ⟨k + 1, by omega, by go_num, by first | rfl | (refine congrArg (Value.int .i64) ?_; first | (rw [HOS.out]; done) | (rw [HOS.out]; omega)), by first | (rw [HLS.out]; simp; done) | (rw [HLS.out]; simp; omega), by (exact blk), by (exact kpt)⟩
                case measure => simp [intOf]; omega
              · by_cases hz : h.hi = 0
                · have hzb : (h.hi == 0) = true := by simp [hz]
                  go_wp2
                  go_roundw
                  case rel => exact ⟨k + 1, by omega, by go_num, by first | rfl | (refine congrArg (Value.int .i64) ?_; first | (rw [HOS.out]; done) | (rw [HOS.out]; omega)), by first | (rw [HLS.out]; simp [hz]; done) | (rw [HLS.out]; simp [hz]; omega), by (exact blk), by (exact kpt)⟩
                  case measure => simp [intOf]; omega
                · have hzb : (h.hi == 0) = false := by simp [hz]
                  go_wp2
                  go_roundw
                  case rel => exact ⟨k + 1, by omega, by go_num, by first | rfl | (refine congrArg (Value.int .i64) ?_; first | (rw [HOS.out]; done) | (rw [HOS.out]; omega)), by first | (rw [HLS.out]; simp [hz]; done) | (rw [HLS.out]; simp [hz]; omega), by (exact blk), by (exact kpt)⟩
                  case measure => simp [intOf]; omega
          · obtain rfl : p.pulls.length = k := by omega
            have k1 : ¬ (p.pulls.length : Int) < (p.pulls.length : Int) := by omega
            have r0c0 := r0.cell 0
            have r0f0 := r0.free 0
            have r0c1 := r0.cell 1
            have r0f1 := r0.free 1
            have r0c2 := r0.cell 2
            have r0f2 := r0.free 2
            have r0c3 := r0.cell 3
            have r0f3 := r0.free 3
            have r0c4 := r0.cell 4
            have r0f4 := r0.free 4
            have r0l := r0.lt
            simp at r0c0 r0c1 r0c2 r0c3 r0c4
            obtain ⟨LT, hLT⟩ : ∃ x, x = lessTo p.pulls ot 0 den p.pulls.length := ⟨_, rfl⟩
            rw [← hLT]
            obtain ⟨S2, hS2⟩ : ∃ x, x = total (otherL ot p.pulls.length) := ⟨_, rfl⟩
            rw [← hS2]
            clear hLT hS2
            by_cases hqs : q < S2
            · go_wp2
              go_ret
              exact ⟨rfl, by (exact kpt)⟩
            · cases LT
              · go_wp2
                go_ret
                exact ⟨rfl, by (exact kpt)⟩
              · go_wp2
                go_ret
                exact ⟨rfl, by (exact kpt)⟩
theorem law_MastManned (a : Option Addr) (c : Nat) (e : Option Addr) (d : Nat) (p : Port) (w : World) (hx : Row Axis.cells 2 w.heap.size w a p.axes) (hc : p.axes.length ≤ c) (hM : c ≤ maxLen) (hy : Row Span.cells 2 w.heap.size w e p.pulls) (hd : p.pulls.length ≤ d) (hN : d ≤ maxLen) (q : Int) (oa : Option Addr) (oc : Nat) (ot : List Int) (ho : Row bcell 1 w.heap.size w oa ot) (hol : ot.length ≤ oc) (hom : oc ≤ maxLen) (hob : ∀ x ∈ ot, 0 ≤ x ∧ x ≤ 255) : Calls Tryz.prog 3 #[.agg #[.slice a p.axes.length c, .int .i64 p.people, .int .i64 p.most, .slice e p.pulls.length d, .int .i64 p.cross], .int .i64 q, .slice oa ot.length oc] w fun z w' => z = .returned (.bool true) ∧ Kept w w' := by
  cases hg : (decide (40 < p.axes.length) || decide (20 < p.pulls.length))
  · have hn : p.axes.length ≤ 40 ∧ p.pulls.length ≤ 20 := by simp at hg; omega
    by_cases he0 : manE p.pulls q p.most = 0
    · exact law_MastManned_ok a c e d p w hx hc hM hy hd hN q oa oc ot ho hol hom hob hg (by omega) he0
    · exact law_MastManned_not a c e d p w hx hc hM hy hd hN q oa oc ot ho hol hom hob hg (by omega) he0
  · exact law_MastManned_great a c e d p w hx hc hM hy hd hN q oa oc ot ho hol hom hob hg
end Go.Proofs.YtacbkbilbmkjnaaGreat

/-
  MastManned, the statement: for every input the call returns true and leaves the input alone.
-/
namespace Go.Proofs.YtacbkbilbmkjnaaGreat.mastManned
open Go.ChangeShapes Go.WideShapes Go.ChangeAt Go.RowKit Bal Bal.Trim Bal.Mast
open Go.ChangeMaps (open_string shut_string)
set_option linter.unusedVariables false

theorem own : ownKnob Tryz.prog.godebug = none := by kernel_rfl
theorem laidOut : laidOutB Tryz.prog = true := by kernel_rfl

set_option maxRecDepth 100000 in
theorem lifted (os : Os) (started : os.Started) (H : Type) (enc : TypeId × Value → H) :
    ReturnsInHanded {} Tryz.checked os 3 .any (Rows.mastMannedSpec.pre6 enc Tryz.prog Tryz.f3 Rows.mastMannedRow.domain false) (Rows.mastMannedSpec.post enc Tryz.prog Tryz.f3 false true false false) := by
  refine returnsInHanded_of_change (C := Tryz.checked) own started (by kernel_rfl) Tryz.func3
    (ChangeSpec.witness6 (enc := enc) (C := Tryz.checked) false ⟨#[], #[.agg #[.slice none 0 0, .int .i64 0, .int .i64 0, .slice none 0 0, .int .i64 0], .int .i64 0, .slice none 0 0], []⟩ 8 (by kernel_rfl) (by kernel_rfl) (by kernel_rfl) (by kernel_rfl)) ?_
  intro W base args ds gs before hval0 hW hcnd _
  have hval : ∀ (j : Nat) t v, Tryz.f3.params[j]? = some t → args[j]? = some v → Value.okWide Tryz.prog W .any base t v := hval0
  have hW' := hW
  obtain ⟨p, q, hA0, hV, rfl, hfz, hnd⟩ := hW
  have hA : DataW.TrodAll enc Tryz.prog W 0 (fun _ => true) true Tryz.f3.params.toList args.toList ds p := hA0
  rw [Tryz.params3] at hA hval
  obtain ⟨v0, vs0, d0, ds0, p0, q0, hargs, rfl, rfl, h0, r0⟩ := trodAll_cons hA
  obtain ⟨v1, vs1, d1, ds1, p1, q1, rfl, rfl, rfl, h1, r1⟩ := trodAll_cons r0
  obtain ⟨v2, vs2, d2, ds2, p2, q2, rfl, rfl, rfl, h2, r2⟩ := trodAll_cons r1
  obtain ⟨rfl, rfl, rfl⟩ := trodAll_nil r2
  obtain rfl : args = #[v0, v1, v2] := by cases args; simp_all
  obtain ⟨rfl, rfl⟩ := trodVars_none hV
  have k0 := h0
  have lt0 : ∀ x ∈ p0, x.block < W.heap.size := by obtain ⟨m, hm⟩ := k0; exact DataW.trod_lt m _ _ _ hm
  obtain ⟨pa, pc, pxs, ppe, pmo, pb, pd, pys, pcr, rfl, px1, px2, px3, px4, py1, py2, py3, py4⟩ := open_port (hval 0 25 v0 rfl rfl) h0
  obtain ⟨a1, rfl, rfl, rfl, w1⟩ := open_int Tryz.underlying3 (hval 1 3 v1 rfl rfl) h1
  have k2 := h2
  have lt2 : ∀ x ∈ p2, x.block < W.heap.size := by obtain ⟨m, hm⟩ := k2; exact DataW.trod_lt m _ _ _ hm
  obtain ⟨a2, len2, cap2, rfl⟩ := okWide_slice Tryz.underlying26 (hval 2 26 v2 rfl rfl)
  obtain ⟨fuel2, hf2⟩ := h2
  obtain ⟨b2, c2, xs2, e2, hl2, hm2, row2, wf2, z2⟩ := open_typed (n := 4) (fun _ h => u8_of_leaves h) Tryz.underlying26 (by kernel_rfl) (by kernel_rfl) (by decide) hf2
  simp [Value.cells] at e2
  obtain ⟨rfl, rfl, rfl⟩ := e2
  clear hA0 hval0
  refine (law_MastManned pa pc pb pd ⟨pxs, ppe, pmo, pys, pcr⟩ W px1 px2 px3 py1 py2 py3 a1 _ _ xs2 row2 hl2 hm2 (fun n hn => wf_u8 (wf2 n hn))).mono fun e W' ⟨he, bel⟩ => ?_
  subst he
  exact ⟨_, rfl, _, _, _, [], _, [], hW', trodAll_mk1 (shut_bool Tryz.underlying4 _), (trodAll_cons_mk (Below.trod laidOut (by kernel_rfl) (of_decide_eq_true (by kernel_rfl)) k0 bel lt0) (trodAll_cons_mk (shut_int Tryz.underlying3 w1) (trodAll_cons_mk (Below.trod laidOut (by kernel_rfl) (of_decide_eq_true (by kernel_rfl)) k2 bel lt2) trodAll_mk0))), rfl, bel.frame _, fun h => by cases h⟩

theorem joined : joinedFacts Tryz.prog 3 Tryz.f3 Rows.mastMannedSpec Rows.mastMannedRow = true := by
  unfold joinedFacts
  rw [mayEnter_is, liftsFinal_is, make_is]
  kernel_rfl
theorem over : Rows.mastMannedRow.holds Tryz.pinned (OpenSpec.ofChange Rows.mastMannedSpec) :=
  OpenClaim.holds_of_wide 3 Tryz.f3 rfl rfl rfl rfl rfl rfl rfl ⟨rfl, rfl, rfl, rfl, rfl⟩ rfl rfl rfl rfl rfl (by kernel_rfl) Tryz.func3 joined
    (of_decide_eq_true (by kernel_rfl)) (by unfold Func.isWrapper; first | (rw [if_pos (by decide +kernel)]; kernel_rfl) | (rw [if_neg (by decide +kernel)]; exact ⟨rfl, rfl⟩))
    (fun os started H enc _ => lifted os started H enc)
end Go.Proofs.YtacbkbilbmkjnaaGreat.mastManned

namespace Go.Proofs.YtacbkbilbmkjnaaGreat
theorem mastManned_holds : Rows.MastMannedSaid := mastManned.over
#print axioms mastManned_holds
end Go.Proofs.YtacbkbilbmkjnaaGreat
