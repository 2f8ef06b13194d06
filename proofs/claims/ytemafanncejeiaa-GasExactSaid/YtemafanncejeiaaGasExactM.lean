/-
  GasExact, the statement: for every input the call returns true and leaves the input alone.
-/
import Derived.Test.YtemafanncejeiaaGasBaseM
import Derived.Maps.OwnSet
import Derived.Maps.RangeWalk
import Derived.Deep.CutBlock
import Derived.Deep.RegionHeld3
import Derived.Deep.DeepCutAuto
import Derived.Test.YtemafanncejeiaaRows
set_option linter.unusedVariables false
set_option linter.unusedSimpArgs false
namespace Bal.Gas
open Bal.Trim
theorem come_selfP (h : Hist) (c : Nat) (a : Int) : come h c a a = 0 := by
  unfold come
  induction h.flows with
  | nil => rfl
  | cons f fs ih =>
    rw [sumBy_cons, ih]
    have : flowN c a a f = 0 := by unfold flowN flowIn; rw [if_neg]; simp <;> omega
    omega
end Bal.Gas

/-
  Clashes, and what can have leaked without one: plain Lean, no program in sight.
-/
namespace Bal.Gas
open Bal.Trim
theorem clash_mem {h : Hist} {x : Nat × Nat × Nat} : x ∈ clashList h ↔ x.1 < h.warm.length ∧ x.2.2 < h.gauges.length ∧ x.2.1 ≤ x.2.2 := by
  obtain ⟨c, f, t⟩ := x
  simp only [clashList, List.mem_flatMap, List.mem_range, List.mem_map]
  constructor
  · rintro ⟨c', hc, t', ht, f', hf, e⟩
    injection e with e1 e2
    injection e2 with e2 e3
    subst e1 e2 e3
    exact ⟨hc, ht, by omega⟩
  · rintro ⟨h1, h2, h3⟩
    have h3 : f ≤ t := h3
    exact ⟨c, h1, t, h2, f, by omega, rfl⟩
theorem conf_no {h : Hist} (hn : conf h = none) {c t f : Nat} (hc : c < h.warm.length) (ht : t < h.gauges.length) (hf : f ≤ t) : clashB h c f t = false := by
  unfold conf at hn
  rw [List.find?_eq_none] at hn
  have := hn (c, f, t) (clash_mem.2 ⟨hc, ht, hf⟩)
  simpa using this
theorem conf_is {h : Hist} {c f t : Nat} (hs : conf h = some (c, f, t)) : c < h.warm.length ∧ t < h.gauges.length ∧ f ≤ t ∧ clashB h c f t = true := by
  unfold conf at hs
  have h1 := List.mem_of_find?_eq_some hs
  have h2 := List.find?_some hs
  obtain ⟨a, b, d⟩ := clash_mem.1 h1
  exact ⟨a, b, d, h2⟩
theorem al_small {h : Hist} (ho : HistOk h) {g c : Nat} (hg : g < h.gauges.length) (hc : c < h.warm.length) : 0 ≤ alLo h g c ∧ 0 ≤ alHi h g c ∧ alHi h g c ≤ 100000000 := by
  obtain ⟨⟨d1, d2, d3⟩, ⟨p1, p2⟩, ⟨q1, q2⟩, ⟨l1, l2⟩, u1, u2⟩ := al_bd ho hg hc
  refine ⟨l1, u1, ?_⟩
  unfold alHi
  refine Int.ediv_le_of_le_mul (by omega) ?_
  omega
theorem free_told {h : Hist} (ho : HistOk h) (hn : conf h = none) {c f t : Nat} (hc : c < h.warm.length) (ht : t < h.gauges.length) (hf : f ≤ t) : toldLo h c t ≤ toldHi h c f := by
  have h1 := conf_no hn hc ht hf
  have h2 := conf_no hn hc (show f < h.gauges.length by omega) (Nat.le_refl f)
  have h3 := conf_no hn hc ht (Nat.le_refl t)
  rw [clash_told ho hf ht] at h1
  rw [clash_told ho (Nat.le_refl _) (by omega)] at h2 h3
  simp at h2 h3
  by_cases e : f = t
  · subst e; omega
  · simp [e, show f < t by omega, show ¬ toldHi h c f < toldLo h c f by omega, show toldLo h c t ≤ toldHi h c t by omega] at h1
    omega
theorem need_le {h : Hist} {c : Nat} {M : Int} (hM : -1152921504606846976 ≤ M) : ∀ k, (∀ i, i < k → toldLo h c i ≤ M) → needTo h c k ≤ M
  | 0, _ => hM
  | k + 1, hk => by
    have h1 := need_le hM k fun i hi => hk i (by omega)
    have h2 := hk k (by omega)
    simp only [needTo]
    omega
theorem can_ge {h : Hist} {c : Nat} {M : Int} (hM : M ≤ 1152921504606846976) : ∀ k, (∀ i, i < k → M ≤ toldHi h c i) → M ≤ canTo h c k
  | 0, _ => hM
  | k + 1, hk => by
    have h1 := can_ge hM k fun i hi => hk i (by omega)
    have h2 := hk k (by omega)
    simp only [canTo]
    omega
/-- what is known of a cell is known of something -/
theorem lost_order {h : Hist} (ho : HistOk h) (hn : conf h = none) {c : Nat} (hc : c < h.warm.length) : 0 ≤ lostLo h c ∧ lostLo h c ≤ lostHi h c ∧ lostHi h c ≤ 2100000000 := by
  have g1 := ho.g1
  have t0 := told_bd ho (i := 0) (by omega) hc
  have t1 := told_bd ho (i := h.gauges.length - 1) (by omega) hc
  have a0 := al_small ho (g := 0) (by omega) hc
  have a1 := al_small ho (g := h.gauges.length - 1) (by omega) hc
  have c1 := come_bd ho c (tt h 0) (tt h (h.gauges.length - 1)) h.flows.length
  rw [← come_all] at c1
  have e0 : come h c (tt h 0) (tt h 0) = 0 := come_selfP h c _
  have n1 := need_le (h := h) (c := c) (M := toldHi h c 0) (by omega) h.gauges.length fun i hi => free_told ho hn hc hi (Nat.zero_le _)
  have n2 := can_ge (h := h) (c := c) (M := toldLo h c (h.gauges.length - 1)) (by omega) h.gauges.length fun i hi => free_told ho hn hc (by omega) (by omega)
  have n3 := free_told ho hn hc (show h.gauges.length - 1 < h.gauges.length by omega) (Nat.zero_le _)
  have b1 : toldHi h c 0 ≤ 100000000 := by unfold toldHi; rw [e0]; omega
  have b2 : -1000000000 ≤ toldLo h c (h.gauges.length - 1) := by unfold toldLo; omega
  unfold lostLo lostHi
  split
  · omega
  · omega
theorem all_order {h : Hist} (ho : HistOk h) (hn : conf h = none) : ∀ k, k ≤ h.warm.length → 0 ≤ allLo h k ∧ allLo h k ≤ allHi h k ∧ allHi h k ≤ 2100000000 * k ∧ ∀ c, c < k → lostLo h c ≤ allLo h k ∧ lostHi h c ≤ allHi h k
  | 0, _ => by simp [allLo, allHi]
  | k + 1, hk => by
    have ih := all_order ho hn k (by omega)
    have b := lost_order ho hn (c := k) (by omega)
    rw [allLo_succ, allHi_succ]
    refine ⟨by omega, by omega, by omega, fun c hc => ?_⟩
    by_cases h1 : c = k
    · subst h1; omega
    · have := ih.2.2.2 c (by omega); omega
theorem confE_none {h : Hist} (hb : histB h = true) (he : confE h ≠ 0) : conf h = none := by
  unfold confE at he
  simp only [hb, if_true] at he
  cases h1 : conf h
  · rfl
  · simp [h1] at he
theorem proved_none {h : Hist} (hb : histB h = true) (he : confE h ≠ 0) : leaksE h 0 1000000000000 = 0 ∧ (leaksL h 0 1000000000000).length = h.warm.length ∧
    ∀ c (hc : c < (leaksL h 0 1000000000000).length), 0 ≤ (leaksL h 0 1000000000000)[c].lo ∧ (leaksL h 0 1000000000000)[c].lo ≤ (leaksL h 0 1000000000000)[c].hi ∧ (h.gauges.length = 1 → (leaksL h 0 1000000000000)[c].hi ≤ 0) := by
  have hn := confE_none hb he
  have ho := histB_ok hb
  have w2 := ho.w2
  obtain ⟨o1, o2, o3, o4⟩ := all_order ho hn h.warm.length (Nat.le_refl _)
  have e : leaksE h 0 1000000000000 = 0 := by
    rw [leaks_free hb (by decide) he]
    have : outB h 0 1000000000000 = false := by simp [outB]; omega
    rw [this]; rfl
  have el : leaksL h 0 1000000000000 = (List.range h.warm.length).map fun c => ⟨leakLo h 0 c, leakHi h 1000000000000 c⟩ := by simp [leaksL, e]
  rw [el]
  refine ⟨e, by simp, fun c hc => ?_⟩
  have hc : c < h.warm.length := by simpa using hc
  have q := lost_order ho hn hc
  have r := o4 c hc
  simp only [List.getElem_map, List.getElem_range, leakLo, leakHi]
  refine ⟨by omega, by omega, fun g1 => ?_⟩
  have : lostHi h c = 0 := by unfold lostHi; rw [if_pos g1]
  omega
theorem proved_some {h : Hist} {c f t : Nat} (hb : histB h = true) (hs : conf h = some (c, f, t)) : c < h.warm.length ∧ t < h.gauges.length ∧ f ≤ t ∧ leaksE h 0 1000000000000 = 6 ∧
    (f = t → amtE h f c = 6) ∧ (f ≠ t → amtE h f c = 0 ∧ amtE h t c = 0 ∧ alHi h f c + come h c (tt h f) (tt h t) < alLo h t c) := by
  obtain ⟨h1, h2, h3, h4⟩ := conf_is hs
  have i1 : inB (f : Int) 0 (h.gauges.length - 1) = true := by rw [inB_iff]; omega
  have i2 : inB (t : Int) 0 (h.gauges.length - 1) = true := by rw [inB_iff]; omega
  have i3 : inB (c : Int) 0 (h.warm.length - 1) = true := by rw [inB_iff]; omega
  refine ⟨h1, h2, h3, (leaks_conf hb (by decide) (cf_some hb hs).2.2.2).1, fun e => ?_, fun e => ?_⟩
  · subst e
    simp [clashB] at h4
    simp [amtE, hb, i1, i3, h4]
  · simp [clashB, e] at h4
    refine ⟨?_, ?_, h4.2⟩
    · simp [amtE, hb, i1, i3]; omega
    · simp [amtE, hb, i2, i3]; omega
end Bal.Gas

/-
  What two or three gauges of one cell allow, amount by amount: plain Lean, no program in sight.
-/
namespace Bal.Gas
open Bal.Trim
/-- what can have leaked, by two gauges -/
def Lost2 (a b c d F n : Int) : Prop := ∃ x y : Int, (a ≤ x ∧ x ≤ b) ∧ (c ≤ y ∧ y ≤ d) ∧ y ≤ x + F ∧ n = x + F - y
/-- what can have leaked, by three gauges -/
def Lost3 (a b c d e f F G n : Int) : Prop := ∃ x y z : Int, (a ≤ x ∧ x ≤ b) ∧ (c ≤ y ∧ y ≤ d) ∧ (e ≤ z ∧ z ≤ f) ∧ y ≤ x + F ∧ z ≤ y + G ∧ n = x + F + G - z
theorem count_span : ∀ (m : Nat) (l : List Int) (lo : Int), l.Nodup → (∀ n, n ∈ l ↔ lo ≤ n ∧ n < lo + m) → l.length = m
  | 0, l, lo, _, h => by
    cases l with
    | nil => rfl
    | cons x l => have := (h x).1 (List.mem_cons_self ..); omega
  | m + 1, l, lo, hn, h => by
    have hm : lo + m ∈ l := (h _).2 (by omega)
    have := count_span m (l.erase (lo + m)) lo (hn.erase _) fun n => by
      rw [hn.mem_erase_iff, h n]
      omega
    rw [List.length_erase_of_mem hm] at this
    have : 0 < l.length := List.length_pos_of_mem hm
    omega
variable {h : Hist}
theorem clash_free (ho : HistOk h) {c : Nat} (hc : c < h.warm.length) (hw : ∀ i, i < h.gauges.length → alLo h i c ≤ alHi h i c) {f t : Nat} (hft : f ≤ t) (ht : t < h.gauges.length) : clashB h c f t = decide (toldHi h c f < toldLo h c t) := by
  have h1 := hw f (by omega)
  have h2 := hw t ht
  rw [clash_told ho hft ht]
  have e1 : ¬ toldHi h c f < toldLo h c f := by unfold toldHi toldLo; omega
  have e2 : toldLo h c t ≤ toldHi h c t := by unfold toldHi toldLo; omega
  by_cases e : f = t
  · subst e; simp [e1]
  · simp [e, e1, e2, show f < t by omega]
/-- one cell: no clash, in told numbers -/
theorem free_one (ho : HistOk h) (h1 : h.warm.length = 1) (hw : ∀ i, i < h.gauges.length → alLo h i 0 ≤ alHi h i 0) : conf h = none ↔ ∀ t f, t < h.gauges.length → f ≤ t → toldLo h 0 t ≤ toldHi h 0 f := by
  constructor
  · intro hn t f ht hf
    have := conf_no hn (show 0 < h.warm.length by omega) ht hf
    rw [clash_free ho (by omega) hw hf ht] at this
    simp at this
    exact this
  · intro hf
    refine conf_none fun c t f hc ht hft => ?_
    obtain rfl : c = 0 := by omega
    rw [clash_free ho (by omega) hw hft ht]
    have := hf t f ht hft
    simp
    omega
/-- one cell: what is told of it, by the sum -/
theorem leaks_one (hb : histB h = true) (h1 : h.warm.length = 1) {x y : Int} (hs : spanIn x y 0 1000000000000 = true) (hn : conf h = none) :
    leaksE h x y = (if y < lostLo h 0 ∨ lostHi h 0 < x then 6 else 0) ∧ (leaksE h x y = 0 → leaksL h x y = [⟨max (lostLo h 0) x, min (lostHi h 0) y⟩]) := by
  have a1 : allLo h 1 = lostLo h 0 := by rw [allLo_succ]; simp [allLo]
  have a2 : allHi h 1 = lostHi h 0 := by rw [allHi_succ]; simp [allHi]
  have he : confE h ≠ 0 := by rw [(cf_none hb hn).2.2.2]; decide
  refine ⟨?_, fun e => ?_⟩
  · rw [leaks_free hb hs he]
    unfold outB
    rw [h1, a1, a2]
    simp only [Bool.or_eq_true, decide_eq_true_eq]
  · unfold leaksL
    rw [if_pos e, h1]
    simp only [List.range_succ, List.range_zero, List.nil_append, List.map_cons, List.map_nil, leakLo, leakHi, h1, a1, a2]
    congr 2 <;> omega
theorem told_zero (h : Hist) (c : Nat) : toldLo h c 0 = alLo h 0 c ∧ toldHi h c 0 = alHi h 0 c := by
  unfold toldLo toldHi
  rw [come_selfP]
  omega
theorem need_two (c : Nat) (hb : histB h = true) (hc : c < h.warm.length) (h2 : h.gauges.length = 2) : needTo h c 2 = max (toldLo h c 0) (toldLo h c 1) ∧ canTo h c 2 = min (toldHi h c 0) (toldHi h c 1) := by
  have t0 := told_bd (histB_ok hb) (i := 0) (by omega) hc
  have t1 := told_bd (histB_ok hb) (i := 1) (by omega) hc
  simp only [needTo, canTo]
  omega
theorem need_three (c : Nat) (hb : histB h = true) (hc : c < h.warm.length) (h2 : h.gauges.length = 3) : needTo h c 3 = max (max (toldLo h c 0) (toldLo h c 1)) (toldLo h c 2) ∧ canTo h c 3 = min (min (toldHi h c 0) (toldHi h c 1)) (toldHi h c 2) := by
  have t0 := told_bd (histB_ok hb) (i := 0) (by omega) hc
  have t1 := told_bd (histB_ok hb) (i := 1) (by omega) hc
  have t2 := told_bd (histB_ok hb) (i := 2) (by omega) hc
  simp only [needTo, canTo]
  omega
/-- what the statement looks for in a set: all of it, and no more, is what is told -/
def Just (S : Int → Prop) (h : Hist) (x y : Int) : Prop :=
  (leaksE h x y = 0 ∨ leaksE h x y = 6) ∧ (leaksE h x y = 6 → ∀ n, S n → ¬ (x ≤ n ∧ n ≤ y)) ∧
    (leaksE h x y = 0 → ∃ lo hi, leaksL h x y = [⟨lo, hi⟩] ∧ lo ≤ hi ∧ (-1000000000000 ≤ lo ∧ hi ≤ 1000000000000) ∧ ∀ n, (S n ∧ x ≤ n ∧ n ≤ y) ↔ lo ≤ n ∧ n ≤ hi)
theorem just_two (hb : histB h = true) (h1 : h.warm.length = 1) (h2 : h.gauges.length = 2) {x y : Int} (hs : spanIn x y 0 1000000000000 = true) (hw : ∀ i, i < h.gauges.length → alLo h i 0 ≤ alHi h i 0) :
    Just (Lost2 (alLo h 0 0) (alHi h 0 0) (alLo h 1 0) (alHi h 1 0) (come h 0 (tt h 0) (tt h 1))) h x y := by
  have ho := histB_ok hb
  have w0 := hw 0 (by omega)
  have w1 := hw 1 (by omega)
  have z := told_zero h 0
  obtain ⟨n1, n2⟩ := need_two 0 hb (by omega) h2
  have fr := free_one ho h1 hw
  have t1 : toldLo h 0 1 = alLo h 1 0 - come h 0 (tt h 0) (tt h 1) ∧ toldHi h 0 1 = alHi h 1 0 - come h 0 (tt h 0) (tt h 1) := ⟨rfl, rfl⟩
  have sp := span3 hs
  obtain ⟨q1, q2, q3⟩ : ∃ a b c : Int, True ∧ True ∧ True := ⟨0, 0, 0, trivial, trivial, trivial⟩
  by_cases hn : conf h = none
  · have hf := fr.1 hn
    have f10 := hf 1 0 (by omega) (by omega)
    obtain ⟨e1, e2⟩ := leaks_one hb h1 hs hn
    have lo_ : lostLo h 0 = max (needTo h 0 2 - canTo h 0 2) 0 := by unfold lostLo; rw [h2]; rfl
    have hi_ : lostHi h 0 = toldHi h 0 0 - toldLo h 0 1 := by unfold lostHi; rw [h2]; rfl
    have bd := lost_bd ho (c := 0) (by omega)
    rw [n1, n2] at lo_
    unfold Just
    by_cases hout : y < lostLo h 0 ∨ lostHi h 0 < x
    · rw [if_pos hout] at e1
      refine ⟨.inr e1, fun _ n => ?_, fun h0 => by omega⟩
      rintro ⟨u, v, hu, hv, huv, rfl⟩
      omega
    · rw [if_neg hout] at e1
      refine ⟨.inl e1, fun h0 => by omega, fun _ => ⟨_, _, e2 e1, by omega, by omega, fun n => ?_⟩⟩
      constructor
      · rintro ⟨⟨u, v, hu, hv, huv, rfl⟩, hx, hy⟩
        omega
      · intro hn2
        refine ⟨?_, by omega, by omega⟩
        refine ⟨max (alLo h 0 0) (n + alLo h 1 0 - come h 0 (tt h 0) (tt h 1)), max (alLo h 0 0) (n + alLo h 1 0 - come h 0 (tt h 0) (tt h 1)) + come h 0 (tt h 0) (tt h 1) - n, by omega, by omega, by omega, by omega⟩
  · have hE : leaksE h x y = 6 := by
      have : confE h = 0 := by
        unfold confE
        simp only [hb, if_true]
        cases h3 : conf h
        · exact absurd h3 hn
        · simp
      exact (leaks_conf hb hs this).1
    unfold Just
    refine ⟨.inr hE, fun _ n => ?_, fun h0 => by omega⟩
    rintro ⟨u, v, hu, hv, huv, rfl⟩ _
    apply hn
    rw [fr, h2]
    intro t f ht hf
    have : (t = 0 ∧ f = 0) ∨ (t = 1 ∧ f = 0) ∨ (t = 1 ∧ f = 1) := by omega
    rcases this with ⟨rfl, rfl⟩ | ⟨rfl, rfl⟩ | ⟨rfl, rfl⟩ <;> omega
theorem just_three (hb : histB h = true) (h1 : h.warm.length = 1) (h2 : h.gauges.length = 3) {x y : Int} (hs : spanIn x y 0 1000000000000 = true) (hw : ∀ i, i < h.gauges.length → alLo h i 0 ≤ alHi h i 0) :
    Just (Lost3 (alLo h 0 0) (alHi h 0 0) (alLo h 1 0) (alHi h 1 0) (alLo h 2 0) (alHi h 2 0) (come h 0 (tt h 0) (tt h 1)) (come h 0 (tt h 1) (tt h 2))) h x y := by
  have ho := histB_ok hb
  have w0 := hw 0 (by omega)
  have w1 := hw 1 (by omega)
  have w2 := hw 2 (by omega)
  have z := told_zero h 0
  obtain ⟨n1, n2⟩ := need_three 0 hb (by omega) h2
  have fr := free_one ho h1 hw
  have t1 : toldLo h 0 1 = alLo h 1 0 - come h 0 (tt h 0) (tt h 1) ∧ toldHi h 0 1 = alHi h 1 0 - come h 0 (tt h 0) (tt h 1) := ⟨rfl, rfl⟩
  have cs := come_split h 0 (show tt h 0 ≤ tt h 1 from tt_mono ho 1 0 (by omega) (by omega)) (show tt h 1 ≤ tt h 2 from tt_mono ho 2 1 (by omega) (by omega))
  have t2 : toldLo h 0 2 = alLo h 2 0 - come h 0 (tt h 0) (tt h 2) ∧ toldHi h 0 2 = alHi h 2 0 - come h 0 (tt h 0) (tt h 2) := ⟨rfl, rfl⟩
  rw [cs] at t2
  clear cs
  have sp := span3 hs
  by_cases hn : conf h = none
  · have hf := fr.1 hn
    have f10 := hf 1 0 (by omega) (by omega)
    have f20 := hf 2 0 (by omega) (by omega)
    have f21 := hf 2 1 (by omega) (by omega)
    obtain ⟨e1, e2⟩ := leaks_one hb h1 hs hn
    have lo_ : lostLo h 0 = max (needTo h 0 3 - canTo h 0 3) 0 := by unfold lostLo; rw [h2]; rfl
    have hi_ : lostHi h 0 = toldHi h 0 0 - toldLo h 0 2 := by unfold lostHi; rw [h2]; rfl
    have bd := lost_bd ho (c := 0) (by omega)
    rw [n1, n2] at lo_
    clear n1 n2 hf fr hn
    generalize come h 0 (tt h 0) (tt h 1) = F at *
    generalize come h 0 (tt h 1) (tt h 2) = G at *
    unfold Just
    by_cases hout : y < lostLo h 0 ∨ lostHi h 0 < x
    · rw [if_pos hout] at e1
      refine ⟨.inr e1, fun _ n => ?_, fun h0 => by omega⟩
      rintro ⟨u, v, w, hu, hv, hw, huv, hvw, rfl⟩
      omega
    · rw [if_neg hout] at e1
      refine ⟨.inl e1, fun h0 => by omega, fun _ => ⟨_, _, e2 e1, by omega, by omega, fun n => ?_⟩⟩
      constructor
      · rintro ⟨⟨u, v, w, hu, hv, hw, huv, hvw, rfl⟩, hx, hy⟩
        omega
      · intro hn2
        refine ⟨?_, by omega, by omega⟩
        obtain ⟨u, hu⟩ : ∃ u, u = max (max (alLo h 0 0) (toldLo h 0 1)) (n + toldLo h 0 2) := ⟨_, rfl⟩
        obtain ⟨v, hv⟩ : ∃ v, v = max (u - n) (toldLo h 0 1) := ⟨_, rfl⟩
        refine ⟨u, v + F, u - n + F + G, by omega, by omega, by omega, by omega, by omega, by omega⟩
  · have hE : leaksE h x y = 6 := by
      have : confE h = 0 := by
        unfold confE
        simp only [hb, if_true]
        cases h3 : conf h
        · exact absurd h3 hn
        · simp
      exact (leaks_conf hb hs this).1
    unfold Just
    refine ⟨.inr hE, fun _ n => ?_, fun h0 => by omega⟩
    rintro ⟨u, v, w, hu, hv, hw, huv, hvw, rfl⟩ _
    apply hn
    rw [fr, h2]
    intro t f ht hf
    have : (t = 0 ∧ f = 0) ∨ (t = 1 ∧ f = 0) ∨ (t = 1 ∧ f = 1) ∨ (t = 2 ∧ f = 0) ∨ (t = 2 ∧ f = 1) ∨ (t = 2 ∧ f = 2) := by omega
    rcases this with ⟨rfl, rfl⟩ | ⟨rfl, rfl⟩ | ⟨rfl, rfl⟩ | ⟨rfl, rfl⟩ | ⟨rfl, rfl⟩ | ⟨rfl, rfl⟩ <;> omega
/-- a gauge that tells an amount that can't be: nothing can have leaked -/
theorem bad_gauge (hb : histB h = true) (h1 : h.warm.length = 1) {i : Nat} (hi : i < h.gauges.length) (hw : alHi h i 0 < alLo h i 0) {x y : Int} (hs : spanIn x y 0 1000000000000 = true) : leaksE h x y = 6 := by
  have : confE h = 0 := by
    unfold confE
    simp only [hb, if_true]
    cases h3 : conf h
    · have := conf_no h3 (show 0 < h.warm.length by omega) hi (Nat.le_refl i)
      simp [clashB] at this
      omega
    · simp
  exact (leaks_conf hb hs this).1
/-- counting what was found -/
theorem Just.count {S : Int → Prop} {x y : Int} (k : Just S h x y) (he : leaksE h x y = 0) {vs : List Int} (hn : vs.Nodup) (hm : ∀ n, n ∈ vs ↔ S n) : ∃ lo hi, leaksL h x y = [⟨lo, hi⟩] ∧ (-1000000000000 ≤ lo ∧ lo ≤ hi ∧ hi ≤ 1000000000000) ∧ ((vs.filter fun n => decide (x ≤ n) && decide (n ≤ y)).length : Int) = hi - lo + 1 := by
  obtain ⟨_, _, k3⟩ := k
  obtain ⟨lo, hi, el, hlh, hbd, hS⟩ := k3 he
  refine ⟨lo, hi, el, by omega, ?_⟩
  have := count_span (hi - lo + 1).toNat (vs.filter fun n => decide (x ≤ n) && decide (n ≤ y)) lo (hn.filter _) fun n => by
    rw [List.mem_filter, hm n]
    simp only [Bool.and_eq_true, decide_eq_true_eq]
    rw [hS n]
    omega
  omega
end Bal.Gas

/-
  The flows between a gauge and the next one.
-/
namespace Go.Proofs.Ytemafanncejeiaa
open Go.RowKit Bal Bal.Trim Bal.Gas
set_option linter.unusedVariables false
set_option linter.unusedSimpArgs false
set_option maxHeartbeats 4000000
set_option maxRecDepth 100000

theorem o_come (h : Hist) (s : Bal.Gas.Spot) (w : World) (hh : HistAt h s w) (ho : HistOk h) (h1 : h.warm.length = 1) (p : Nat) (hp : p + 1 < h.gauges.length) :
    Calls Try.prog 74 #[.agg #[.slice s.aw h.warm.length s.cw, .slice s.ag h.gauges.length s.cg, .slice s.af h.flows.length s.cf], .int .i64 p] w fun e w' => e = .returned (.int .i64 (come h 0 (tt h p) (tt h (p + 1)))) ∧ Kept w w' := by
  have hcw := hh.wc
  have hcm := hh.wm
  have hgc := hh.gc
  have hgm := hh.gm
  have hfc := hh.fc
  have hfm := hh.fm
  unfold maxLen at hcm hgm hfm
  obtain ⟨aw, ag, af, cw, cg, cf⟩ := s
  simp only at hcw hcm hgc hgm hfc hfm
  have hp0 : p < h.gauges.length := by omega
  have hg2 := ho.g2
  have R2 := Lib.hid (show ∀ W, Kept w W → Row Gauge.cells 6 W.heap.size W ag h.gauges from fun W hW => (hh.later hW).gauges)
  have R3 := Lib.hid (show ∀ W, Kept w W → Row Flow.cells 3 W.heap.size W af h.flows from fun W hW => (hh.later hW).flows)
  obtain ⟨A, hA⟩ : ∃ n, n = tt h p := ⟨_, rfl⟩
  obtain ⟨B, hB⟩ : ∃ n, n = tt h (p + 1) := ⟨_, rfl⟩
  obtain ⟨q, hq⟩ : ∃ q, q = p + 1 := ⟨_, rfl⟩
  have HBD := Lib.hid (fun k => come_bd ho 0 A B k)
  have hfl2 := ho.f2
  have HFLO := Lib.hid ho.flow
  have HCM := Lib.hid (come_all h 0 A B)
  have H1 := Lib.hid h1
  rw [← hA, ← hB]
  rw [← hq] at hp hB
  have HA := Lib.hid hA
  have HB := Lib.hid hB
  have wq : IntKind.i64.wrap ((p : Int) + 1) = (q : Int) := by rw [hq]; exact i64_inH (by omega)
  have k0 : (0 : Int) ≤ (p : Int) := by omega
  have k1 : (p : Int) < (h.gauges.length : Int) := by omega
  have k2 : (0 : Int) ≤ (q : Int) := by omega
  have k3 : (q : Int) < (h.gauges.length : Int) := by omega
  clear hA hB hq h1
  go_enter Try.func74, Try.ntmps74
  go_wp2
  go_loopw [5, 11] (fun v i wr => ∃ k : Nat, k ≤ h.flows.length ∧ i = .int .i64 k ∧ v = .int .i64 (sumBy (flowN 0 A B) (h.flows.take k)) ∧ Blk wr w.heap.size #[.slice aw h.warm.length cw, .slice ag h.gauges.length cg, .slice af h.flows.length cf] 85 ∧ Kept w wr) (fun _ i _ => h.flows.length - (intOf i).toNat)
  case atStart => exact ⟨0, Nat.zero_le _, rfl, rfl, by exact blkd, by exact kpt⟩
  case round =>
    obtain ⟨k, hk, rfl, rfl, q0, hkk⟩ := hrel
    obtain ⟨s1, s2⟩ := HBD.out k
    have q0c0 := q0.cell 0
    have q0f0 := q0.free 0
    have q0c1 := q0.cell 1
    have q0f1 := q0.free 1
    have q0c2 := q0.cell 2
    have q0f2 := q0.free 2
    have q0l := q0.lt
    simp at q0c0 q0c1 q0c2
    by_cases hlt : k < h.flows.length
    · obtain ⟨b1, o1, rfl, hb1, c0, c1, c2⟩ := Flow.row (R3.out _ hkk) k hlt
      obtain ⟨x, hx⟩ : ∃ x, x = h.flows[k] := ⟨_, rfl⟩
      have hxb := HFLO.out x (by rw [hx]; exact List.getElem_mem hlt)
      rw [H1.out] at hxb
      obtain ⟨⟨x1, x2⟩, ⟨x3, x4⟩, x5, x6⟩ := hxb
      have HXC := Lib.hid (show x.cell = ((0 : Nat) : Int) by omega)
      rw [← hx] at c0 c1 c2
      have HX := Lib.hid hx
      clear hx
      go_upto_region 5 with fail
      clear c0 c1 c2
      refine at_world (S := fun V => Blk V w.heap.size #[.slice aw h.warm.length cw, .slice ag h.gauges.length cg, .slice (some ⟨b1, o1, none⟩) h.flows.length cf] 85 ∧ Blk V wr.heap.size #[.int .i64 x.time, .int .i64 x.cell, .int .i64 x.n] 128 ∧ Kept w V) ⟨by exact blkd, by exact blkd, by exact kpt⟩ ?_
      clear q0 hkk q0c0 q0f0 q0c1 q0f1 q0c2 q0f2 q0l
      rintro V ⟨q0, qx, hkV⟩
      obtain ⟨bg, og, hag, hbg, g0, _⟩ := Gauge.row (R2.out _ hkV) p hp0
      obtain ⟨bt, ot, hat, hbt, e0, _⟩ := Gauge.row (R2.out _ hkV) q hp
      obtain ⟨rfl, rfl⟩ : bg = bt ∧ og = ot := by rw [hag] at hat; simpa using hat
      rw [gAt_get hp0, show (gAt h p).time = A from HA.out.symm] at g0
      rw [gAt_get hp, show (gAt h q).time = B from HB.out.symm] at e0
      have y0 := fun g_ : Later V => g_.some g0
      have y1 := fun g_ : Later V => g_.some e0
      have q0c0 := fun g : Later V => (q0.later g).cell 0
      have q0f0 := fun g : Later V => (q0.later g).free 0
      have q0c1 := fun g : Later V => (q0.later g).cell 1
      have q0f1 := fun g : Later V => (q0.later g).free 1
      have q0c2 := fun g : Later V => (q0.later g).cell 2
      have q0f2 := fun g : Later V => (q0.later g).free 2
      have q0l := fun g : Later V => (q0.later g).lt
      simp at q0c0 q0c1 q0c2
      have qxc0 := fun g : Later V => (qx.later g).cell 0
      have qxf0 := fun g : Later V => (qx.later g).free 0
      have qxc1 := fun g : Later V => (qx.later g).cell 1
      have qxf1 := fun g : Later V => (qx.later g).free 1
      have qxc2 := fun g : Later V => (qx.later g).cell 2
      have qxf2 := fun g : Later V => (qx.later g).free 2
      have qxl := fun g : Later V => (qx.later g).lt
      simp at qxc0 qxc1 qxc2
      rw [hag] at q0c1
      clear hag hat g0 e0
      by_cases k2_ : A < x.time
      · have e3 : decide (A < x.time) = true := by simp [k2_]
        by_cases k3_ : x.time ≤ B
        · have e4 : decide (x.time ≤ B) = true := by simp [k3_]
          have HFN := Lib.hid (show flowN 0 A B x = x.n by simp [flowN, flowIn, show x.cell = 0 from HXC.out, k2_, k3_])
          clear k2_ k3_
          refine Later.region (by kernel_rfl) (by kernel_rfl) ?_
          repeat (first | go_big_quiet_skip | (go_big_quiet_want; go_big_quiet_op; first | go_big_quiet_on | (apply Exists.intro; refine ⟨fun g_ => ?_, ?_⟩; (focus (first | fail)); go_big_quiet_on)))
          refine wpQuiet_nil ?_
          intro gg
          have n0 := q0.later gg
          have nx := qx.later gg
          have hkg := Kept.drop hkV gg.ok
          have nxc0 := nx.cell 0
          have nxf0 := nx.free 0
          have nxc1 := nx.cell 1
          have nxf1 := nx.free 1
          have nxc2 := nx.cell 2
          have nxf2 := nx.free 2
          have nxl := nx.lt
          simp at nxc0 nxc1 nxc2
          go_wp2
          go_round
          case rel => exact ⟨k + 1, by omega, by go_num, by rw [sumBy_take _ _ _ hlt, ← HX.out, HFN.out], n0, hkg⟩
          case measure => simp [intOf]; omega
        · have e4 : decide (x.time ≤ B) = false := by simp; omega
          have HFN := Lib.hid (show flowN 0 A B x = 0 by simp [flowN, flowIn, k3_])
          clear k2_ k3_
          refine Later.region (by kernel_rfl) (by kernel_rfl) ?_
          repeat (first | go_big_quiet_skip | (go_big_quiet_want; go_big_quiet_op; first | go_big_quiet_on | (apply Exists.intro; refine ⟨fun g_ => ?_, ?_⟩; (focus (first | fail)); go_big_quiet_on)))
          refine wpQuiet_nil ?_
          intro gg
          have n0 := q0.later gg
          have nx := qx.later gg
          have hkg := Kept.drop hkV gg.ok
          have nxc0 := nx.cell 0
          have nxf0 := nx.free 0
          have nxc1 := nx.cell 1
          have nxf1 := nx.free 1
          have nxc2 := nx.cell 2
          have nxf2 := nx.free 2
          have nxl := nx.lt
          simp at nxc0 nxc1 nxc2
          go_wp2
          go_round
          case rel => exact ⟨k + 1, by omega, by go_num, by rw [sumBy_take _ _ _ hlt, ← HX.out, HFN.out, Int.add_zero], n0, hkg⟩
          case measure => simp [intOf]; omega
      · have e3 : decide (A < x.time) = false := by simp; omega
        have HFN := Lib.hid (show flowN 0 A B x = 0 by simp [flowN, flowIn, k2_])
        clear k2_
        refine Later.region (by kernel_rfl) (by kernel_rfl) ?_
        repeat (first | go_big_quiet_skip | (go_big_quiet_want; go_big_quiet_op; first | go_big_quiet_on | (apply Exists.intro; refine ⟨fun g_ => ?_, ?_⟩; (focus (first | fail)); go_big_quiet_on)))
        refine wpQuiet_nil ?_
        intro gg
        have n0 := q0.later gg
        have nx := qx.later gg
        have hkg := Kept.drop hkV gg.ok
        have nxc0 := nx.cell 0
        have nxf0 := nx.free 0
        have nxc1 := nx.cell 1
        have nxf1 := nx.free 1
        have nxc2 := nx.cell 2
        have nxf2 := nx.free 2
        have nxl := nx.lt
        simp at nxc0 nxc1 nxc2
        go_wp2
        go_round
        case rel => exact ⟨k + 1, by omega, by go_num, by rw [sumBy_take _ _ _ hlt, ← HX.out, HFN.out, Int.add_zero], n0, hkg⟩
        case measure => simp [intOf]; omega
    · obtain rfl : k = h.flows.length := by omega
      go_wp2
      go_ret
      exact ⟨ret_int (by rw [HCM.out]), by exact kpt⟩

end Go.Proofs.Ytemafanncejeiaa

/-
  Cells that did leak, flows that are known, gauges that tell no wrong: plain Lean, no program in sight.
-/
namespace Bal.Gas
open Bal.Trim
/-- what a gauge tells of an amount -/
def gV (a : Air) (wl wide n : Int) : Sp := ⟨max 0 (n * (a.tlo + wl) / a.plo - wide), n * (a.tlo + wl) / a.plo + 1 + wide⟩
structure Dr where
  am : List Int
  lo : List Int
  all : Int
  fl : List Flow
def inp (st : List Int) (i : Nat) : Int := if 2 * i + 1 < st.length then st.getD (2 * i) 0 else 0
def outp (st : List Int) (i : Nat) (A : Int) : Int := if 2 * i + 1 < st.length then min (st.getD (2 * i + 1) 0 % 16) A else 0
def inn (k : Nat) (st : List Int) (i : Nat) (A : Int) : Int := if k % 2 = 1 then -(min (inp st i) (A - outp st i A)) else inp st i
def Dr.step (k : Nat) (st : List Int) (d : Dr) (i : Nat) : Dr :=
  ⟨d.am.set i (d.am.getD i 0 + (inn k st i (d.am.getD i 0) - outp st i (d.am.getD i 0))), d.lo.set i (d.lo.getD i 0 + outp st i (d.am.getD i 0)), d.all + outp st i (d.am.getD i 0), d.fl ++ [⟨10 * k + 3, i, inn k st i (d.am.getD i 0)⟩]⟩
def Dr.cells (k : Nat) (st : List Int) (d : Dr) : Nat → Dr
  | 0 => d
  | i + 1 => (d.cells k st i).step k st i
def Dr.zero (start : List Int) : Dr := ⟨start, List.replicate start.length 0, 0, []⟩
def Dr.after (start : List Int) (sts : List (List Int)) : Nat → Dr
  | 0 => Dr.zero start
  | k + 1 => (Dr.after start sts k).cells k (sts.getD k []) start.length
/-- the flows of one cell -/
def ofC (c : Nat) (f : Flow) : Int := if f.cell = c then f.n else 0
structure Dr.Inv (start : List Int) (k : Nat) (d : Dr) : Prop where
  am : d.am.length = start.length
  lo : d.lo.length = start.length
  at_ : ∀ c, c < start.length → (0 ≤ d.am.getD c 0 ∧ d.am.getD c 0 ≤ 65535 + 255 * d.fl.length) ∧ (0 ≤ d.lo.getD c 0 ∧ d.lo.getD c 0 ≤ 15 * d.fl.length) ∧ d.am.getD c 0 = start.getD c 0 + sumBy (ofC c) d.fl - d.lo.getD c 0
  all0 : 0 ≤ d.all
  all1 : d.all ≤ 15 * d.fl.length
  sum : d.all = sumBy (fun x => x) d.lo
  fl : ∀ f ∈ d.fl, (0 ≤ f.time ∧ f.time ≤ 10 * k + 3) ∧ (0 ≤ f.cell ∧ f.cell < start.length) ∧ -255 ≤ f.n ∧ f.n ≤ 255
theorem outp_bd {st : List Int} (hst : ∀ x ∈ st, 0 ≤ x ∧ x ≤ 255) (i : Nat) {A : Int} (hA : 0 ≤ A) : 0 ≤ outp st i A ∧ outp st i A ≤ A ∧ outp st i A ≤ 15 := by
  unfold outp
  split
  · have : 0 ≤ st.getD (2 * i + 1) 0 % 16 ∧ st.getD (2 * i + 1) 0 % 16 < 16 := ⟨Int.emod_nonneg _ (by decide), Int.emod_lt_of_pos _ (by decide)⟩
    omega
  · omega
theorem getD_B {st : List Int} (hst : ∀ x ∈ st, 0 ≤ x ∧ x ≤ 255) (i : Nat) : 0 ≤ st.getD i 0 ∧ st.getD i 0 ≤ 255 := by
  by_cases h : i < st.length
  · rw [List.getD_eq_getElem?_getD, List.getElem?_eq_getElem h]
    exact hst _ (List.getElem_mem h)
  · rw [List.getD_eq_getElem?_getD, List.getElem?_eq_none (by omega)]
    simp
theorem inp_bd {st : List Int} (hst : ∀ x ∈ st, 0 ≤ x ∧ x ≤ 255) (i : Nat) : 0 ≤ inp st i ∧ inp st i ≤ 255 := by
  unfold inp
  split
  · exact getD_B hst _
  · omega
theorem inn_bd (k : Nat) {st : List Int} (hst : ∀ x ∈ st, 0 ≤ x ∧ x ≤ 255) (i : Nat) {A : Int} (hA : 0 ≤ A) : -255 ≤ inn k st i A ∧ inn k st i A ≤ 255 ∧ 0 ≤ A + inn k st i A - outp st i A := by
  have h1 := outp_bd hst i hA
  have h2 := inp_bd hst i
  unfold inn
  split <;> omega
theorem getD_set {l : List Int} {i c : Nat} {x : Int} (hi : i < l.length) : (l.set i x).getD c 0 = if c = i then x else l.getD c 0 := by
  rw [List.getD_eq_getElem?_getD, List.getElem?_set]
  by_cases h : i = c
  · subst h; simp [hi]
  · simp [h, Ne.symm h, List.getD_eq_getElem?_getD]
theorem Dr.step_inv {start : List Int} {k j : Nat} {d : Dr} (h : d.Inv start j) (hj : j ≤ k) {st : List Int} (hst : ∀ x ∈ st, 0 ≤ x ∧ x ≤ 255) {i : Nat} (hi : i < start.length) : (d.step k st i).Inv start k := by
  obtain ⟨h1, h2, h3, h4, h5, h6, h7⟩ := h
  obtain ⟨⟨a0, a1⟩, ⟨b0, b1⟩, ab⟩ := h3 i hi
  have o := outp_bd hst i a0
  have n := inn_bd k hst i a0
  refine ⟨by simp [Dr.step, h1], by simp [Dr.step, h2], fun c hc => ?_, ?_, ?_, ?_, fun f hf => ?_⟩
  · obtain ⟨⟨c0, c1⟩, ⟨e0, e1⟩, ce⟩ := h3 c hc
    simp only [Dr.step]
    rw [getD_set (by omega), getD_set (by omega), sumBy_append, sumBy_cons, sumBy_nil, List.length_append, List.length_singleton]
    by_cases hci : c = i
    · subst hci
      simp only [if_true, ofC]
      omega
    · have : ¬ ((i : Int) = (c : Int)) := by omega
      simp only [hci, if_false, ofC, this]
      omega
  · simp only [Dr.step]; omega
  · simp only [Dr.step, List.length_append, List.length_singleton]; omega
  · simp only [Dr.step]
    rw [sumBy_set _ _ _ _ (by omega), h6]
    have : d.lo.getD i 0 = d.lo[i]'(by omega) := by rw [List.getD_eq_getElem?_getD, List.getElem?_eq_getElem (by omega)]; rfl
    rw [this]
    omega
  · simp only [Dr.step, List.mem_append, List.mem_singleton] at hf
    rcases hf with hf | rfl
    · have := h7 f hf; omega
    · simp only; omega
theorem Dr.cells_inv {start : List Int} {k j : Nat} {d : Dr} (h : d.Inv start j) (hj : j ≤ k) {st : List Int} (hst : ∀ x ∈ st, 0 ≤ x ∧ x ≤ 255) : ∀ i, i ≤ start.length → (d.cells k st i).Inv start k
  | 0, _ => ⟨h.am, h.lo, h.at_, h.all0, h.all1, h.sum, fun f hf => by have := h.fl f hf; omega⟩
  | i + 1, hi => Dr.step_inv (Dr.cells_inv h hj hst i (by omega)) (Nat.le_refl _) hst (by omega)
theorem Dr.cells_fl (k : Nat) (st : List Int) (d : Dr) : ∀ i, ∃ r, (d.cells k st i).fl = d.fl ++ r ∧ r.length = i ∧ ∀ f ∈ r, f.time = 10 * (k : Int) + 3
  | 0 => ⟨[], by simp [Dr.cells], rfl, by simp⟩
  | i + 1 => by
    obtain ⟨r, h1, h2, h3⟩ := Dr.cells_fl k st d i
    refine ⟨r ++ [⟨10 * k + 3, i, inn k st i ((d.cells k st i).am.getD i 0)⟩], by simp [Dr.cells, Dr.step, h1], by simp [h2], fun f hf => ?_⟩
    simp only [List.mem_append, List.mem_singleton] at hf
    rcases hf with hf | rfl
    · exact h3 f hf
    · rfl
theorem Dr.cells_mono {start : List Int} {k j : Nat} {d : Dr} (h : d.Inv start j) (hj : j ≤ k) {st : List Int} (hst : ∀ x ∈ st, 0 ≤ x ∧ x ≤ 255) {c : Nat} : ∀ i, i ≤ start.length → d.lo.getD c 0 ≤ (d.cells k st i).lo.getD c 0
  | 0, _ => Int.le_refl _
  | i + 1, hi => by
    have ih := Dr.cells_mono h hj hst (c := c) i (by omega)
    have hv := Dr.cells_inv h hj hst i (by omega)
    have o := outp_bd hst i (hv.at_ i (by omega)).1.1
    have hl := hv.lo
    simp only [Dr.cells, Dr.step]
    rw [getD_set (by omega)]
    split
    · rename_i e; subst e; omega
    · exact ih
theorem Dr.zero_inv {start : List Int} (hs : ∀ x ∈ start, 0 ≤ x ∧ x ≤ 65535) : (Dr.zero start).Inv start 0 := by
  refine ⟨rfl, by simp [Dr.zero], fun c hc => ?_, by simp [Dr.zero], by simp [Dr.zero], ?_, by simp [Dr.zero]⟩
  · have e : start.getD c 0 = start[c] := by rw [List.getD_eq_getElem?_getD, List.getElem?_eq_getElem hc]; rfl
    have := hs _ (List.getElem_mem hc)
    simp only [Dr.zero, e]
    have r : (List.replicate start.length (0 : Int)).getD c 0 = 0 := by simp [List.getD_eq_getElem?_getD, List.getElem?_replicate]; split <;> rfl
    rw [r]
    simp
    omega
  · simp only [Dr.zero]
    generalize start.length = n
    induction n with
    | zero => rfl
    | succ n ih => rw [List.replicate_succ, sumBy_cons, ← ih]; rfl
theorem Dr.after_inv {start : List Int} {sts : List (List Int)} (hs : ∀ x ∈ start, 0 ≤ x ∧ x ≤ 65535) (ht : ∀ st ∈ sts, ∀ x ∈ st, 0 ≤ x ∧ x ≤ 255) : ∀ k, k ≤ sts.length → (Dr.after start sts k).Inv start (k - 1) ∧ (Dr.after start sts k).fl.length = k * start.length
  | 0, _ => ⟨Dr.zero_inv hs, by simp [Dr.after, Dr.zero]⟩
  | k + 1, hk => by
    obtain ⟨h1, h2⟩ := Dr.after_inv hs ht k (by omega)
    have hst : ∀ x ∈ sts.getD k [], 0 ≤ x ∧ x ≤ 255 := by
      rw [List.getD_eq_getElem?_getD, List.getElem?_eq_getElem (by omega)]
      exact ht _ (List.getElem_mem _)
    refine ⟨Dr.cells_inv h1 (by omega) hst start.length (Nat.le_refl _), ?_⟩
    obtain ⟨r, e, hr, _⟩ := Dr.cells_fl k (sts.getD k []) (Dr.after start sts k) start.length
    simp only [Dr.after]
    rw [e, List.length_append, hr, h2, Nat.succ_mul]
theorem Dr.after_fl {start : List Int} {sts : List (List Int)} {i : Nat} : ∀ k, i ≤ k → ∃ r, (Dr.after start sts k).fl = (Dr.after start sts i).fl ++ r ∧ ∀ f ∈ r, 10 * (i : Int) + 3 ≤ f.time
  | 0, hk => by obtain rfl : i = 0 := by omega
                exact ⟨[], by simp, by simp⟩
  | k + 1, hk => by
    by_cases h : i = k + 1
    · subst h; exact ⟨[], by simp, by simp⟩
    · obtain ⟨r, h1, h2⟩ := Dr.after_fl (start := start) (sts := sts) (i := i) k (by omega)
      obtain ⟨q, e, _, hq⟩ := Dr.cells_fl k (sts.getD k []) (Dr.after start sts k) start.length
      refine ⟨r ++ q, by simp only [Dr.after]; rw [e, h1, List.append_assoc], fun f hf => ?_⟩
      rcases List.mem_append.1 hf with hf | hf
      · exact h2 f hf
      · have := hq f hf; omega
theorem Dr.after_mono {start : List Int} {sts : List (List Int)} (hs : ∀ x ∈ start, 0 ≤ x ∧ x ≤ 65535) (ht : ∀ st ∈ sts, ∀ x ∈ st, 0 ≤ x ∧ x ≤ 255) {c i : Nat} : ∀ k, i ≤ k → k ≤ sts.length → (Dr.after start sts i).lo.getD c 0 ≤ (Dr.after start sts k).lo.getD c 0
  | 0, hk, _ => by obtain rfl : i = 0 := by omega
                   exact Int.le_refl _
  | k + 1, hk, hl => by
    by_cases h : i = k + 1
    · subst h; exact Int.le_refl _
    · have ih := Dr.after_mono hs ht (c := c) (i := i) k (by omega) (by omega)
      have hst : ∀ x ∈ sts.getD k [], 0 ≤ x ∧ x ≤ 255 := by
        rw [List.getD_eq_getElem?_getD, List.getElem?_eq_getElem (by omega)]
        exact ht _ (List.getElem_mem _)
      exact Int.le_trans ih (Dr.cells_mono (Dr.after_inv hs ht k (by omega)).1 (by omega) hst start.length (Nat.le_refl _))
/-- the history that the statement draws -/
structure Drawn (start : List Int) (sts : List (List Int)) (a : Air) (wl wh wide : Int) (h : Hist) : Prop where
  s0 : 1 ≤ start.length
  s1 : start.length ≤ 6
  t1 : sts.length ≤ 7
  hs : ∀ x ∈ start, 0 ≤ x ∧ x ≤ 65535
  ht : ∀ st ∈ sts, ∀ x ∈ st, 0 ≤ x ∧ x ≤ 255
  air : airB a = true
  wm : warmB ⟨wl, wh⟩ = true
  w0 : 0 ≤ wide
  w1 : wide ≤ 255
  warm : h.warm = List.replicate start.length ⟨wl, wh⟩
  glen : h.gauges.length = sts.length + 1
  ga : ∀ i, i < sts.length + 1 → tt h i = 10 * i ∧ (gAt h i).air = a ∧ (gAt h i).vols = (Dr.after start sts i).am.map (gV a wl wide)
  fl : h.flows = (Dr.after start sts sts.length).fl
variable {start : List Int} {sts : List (List Int)} {a : Air} {wl wh wide : Int} {h : Hist}
theorem come_part (l r : List Flow) (c : Nat) (b : Int) (hl : ∀ f ∈ l, 0 < f.time ∧ f.time ≤ b) (hr : ∀ f ∈ r, b < f.time) : sumBy (flowN c 0 b) (l ++ r) = sumBy (ofC c) l := by
  rw [sumBy_append]
  have h1 : sumBy (flowN c 0 b) l = sumBy (ofC c) l := by
    induction l with
    | nil => rfl
    | cons f l ih =>
      rw [sumBy_cons, sumBy_cons, ih fun g hg => hl g (List.mem_cons_of_mem _ hg)]
      have := hl f (List.mem_cons_self ..)
      congr 1
      simp [flowN, flowIn, ofC, this]
  have h2 : sumBy (flowN c 0 b) r = 0 := by
    clear h1 hl
    induction r with
    | nil => rfl
    | cons f r ih =>
      rw [sumBy_cons, ih fun g hg => hr g (List.mem_cons_of_mem _ hg)]
      have := hr f (List.mem_cons_self ..)
      have : flowN c 0 b f = 0 := by simp [flowN, flowIn, show ¬ f.time ≤ b by omega]
      omega
  omega
theorem Dr.after_time : ∀ k, ∀ f ∈ (Dr.after start sts k).fl, 0 < f.time ∧ f.time ≤ 10 * (k : Int)
  | 0, f, hf => by simp [Dr.after, Dr.zero] at hf
  | k + 1, f, hf => by
    obtain ⟨q, e, _, hq⟩ := Dr.cells_fl k (sts.getD k []) (Dr.after start sts k) start.length
    simp only [Dr.after] at hf
    rw [e] at hf
    rcases List.mem_append.1 hf with hf | hf
    · have := Dr.after_time k f hf; omega
    · have := hq f hf; omega
theorem Drawn.come (d : Drawn start sts a wl wh wide h) {i : Nat} (hi : i ≤ sts.length) (c : Nat) : come h c (tt h 0) (tt h i) = sumBy (ofC c) (Dr.after start sts i).fl := by
  rw [(d.ga 0 (by omega)).1, (d.ga i (by omega)).1]
  unfold Bal.Gas.come
  rw [d.fl]
  obtain ⟨r, e, hr⟩ := Dr.after_fl (start := start) (sts := sts) (i := i) sts.length hi
  rw [e]
  refine come_part _ _ c _ (fun f hf => ?_) fun f hf => ?_
  · exact Dr.after_time i f hf
  · have := hr f hf; omega
theorem gV_bd {n : Int} (ha : airB a = true) (hw : warmB ⟨wl, wh⟩ = true) (h0 : 0 ≤ wide) (h1 : wide ≤ 255) (hn : 0 ≤ n) (hn1 : n ≤ 100000) : (0 ≤ n * (a.tlo + wl) ∧ n * (a.tlo + wl) ≤ 380000000) ∧ (0 ≤ n * (a.tlo + wl) / a.plo ∧ n * (a.tlo + wl) / a.plo ≤ 380000) ∧ (gV a wl wide n).lo ≤ n * (a.tlo + wl) / a.plo ∧ volB (gV a wl wide n) = true := by
  obtain ⟨⟨p0, p1, p2⟩, t0, t1, t2⟩ := airB_iff.1 ha
  have w := span3 hw
  simp only at w
  have m0 : 0 ≤ n * (a.tlo + wl) := Int.mul_nonneg hn (by omega)
  have m1 := mul_bd (A := 100000) (B := 3800) (x := n) (y := a.tlo + wl) (by omega) (by omega) (by omega) (by omega)
  have d0 : 0 ≤ n * (a.tlo + wl) / a.plo := Int.ediv_nonneg m0 (by omega)
  have d1 : n * (a.tlo + wl) / a.plo ≤ 380000 := by
    refine Int.ediv_le_of_le_mul (by omega) ?_
    omega
  unfold gV
  generalize n * (a.tlo + wl) / a.plo = v at *
  generalize n * (a.tlo + wl) = v2 at *
  refine ⟨by omega, by omega, ?_, ?_⟩
  · simp only
    omega
  · simp [volB, spanIn, rng, inB]
    omega
theorem Drawn.vAt (d : Drawn start sts a wl wh wide h) {i c : Nat} (hi : i ≤ sts.length) (hc : c < start.length) : vAt (gAt h i) c = gV a wl wide ((Dr.after start sts i).am.getD c 0) := by
  unfold Bal.Gas.vAt
  rw [(d.ga i (by omega)).2.2]
  have := (Dr.after_inv d.hs d.ht i hi).1.am
  simp [List.getD_eq_getElem?_getD, show c < (Dr.after start sts i).am.length by omega]
theorem Drawn.wAt (d : Drawn start sts a wl wh wide h) {c : Nat} (hc : c < start.length) : wAt h c = ⟨wl, wh⟩ := by
  unfold Bal.Gas.wAt
  rw [d.warm]
  simp [List.getD_eq_getElem?_getD, hc]
theorem Drawn.am_bd (d : Drawn start sts a wl wh wide h) {i c : Nat} (hi : i ≤ sts.length) (hc : c < start.length) : 0 ≤ (Dr.after start sts i).am.getD c 0 ∧ (Dr.after start sts i).am.getD c 0 ≤ 76245 := by
  obtain ⟨h1, h2⟩ := Dr.after_inv d.hs d.ht i hi
  have := (h1.at_ c hc).1
  have s1 := d.s1
  have t1 := d.t1
  have : i * start.length ≤ 7 * 6 := Nat.mul_le_mul (by omega) s1
  omega
/-- a gauge tells no wrong -/
theorem Drawn.al (d : Drawn start sts a wl wh wide h) {i c : Nat} (hi : i ≤ sts.length) (hc : c < start.length) : alLo h i c ≤ (Dr.after start sts i).am.getD c 0 ∧ (Dr.after start sts i).am.getD c 0 ≤ alHi h i c := by
  obtain ⟨n0, n1⟩ := d.am_bd hi hc
  obtain ⟨⟨p0, p1, p2⟩, t0, t1, t2⟩ := airB_iff.1 d.air
  have w := span3 d.wm
  simp only at w
  have w0 := d.w0
  obtain ⟨⟨m0, m1⟩, ⟨q0, q1⟩, _, _⟩ := gV_bd d.air d.wm d.w0 d.w1 n0 (show (Dr.after start sts i).am.getD c 0 ≤ 100000 by omega)
  unfold alLo alHi
  rw [d.vAt hi hc, d.wAt hc, (d.ga i (by omega)).2.1]
  generalize (Dr.after start sts i).am.getD c 0 = n at *
  have e1 := Int.mul_ediv_self_le (x := n * (a.tlo + wl)) (k := a.plo) (by omega)
  have e2 := Int.lt_mul_ediv_self_add (x := n * (a.tlo + wl)) (k := a.plo) (by omega)
  generalize hv : n * (a.tlo + wl) / a.plo = v at *
  simp only [gV, hv]
  constructor
  · have : -n ≤ -(max 0 (v - wide) * a.plo) / (a.thi + wh) := by
      rw [Int.le_ediv_iff_mul_le (by omega)]
      have k1 : max 0 (v - wide) * a.plo ≤ v * a.plo := Int.mul_le_mul_of_nonneg_right (by omega) (by omega)
      have k2 : n * (a.tlo + wl) ≤ n * (a.thi + wh) := Int.mul_le_mul_of_nonneg_left (by omega) n0
      rw [Int.mul_comm v] at k1
      rw [Int.neg_mul]
      omega
    omega
  · rw [Int.le_ediv_iff_mul_le (by omega)]
    have k1 : (v + 1) * a.plo ≤ (v + 1 + wide) * a.phi := Int.mul_le_mul (by omega) (by omega) (by omega) (by omega)
    have k2 : (v + 1) * a.plo = a.plo * v + a.plo := by rw [Int.mul_comm, Int.mul_add]; omega
    omega
theorem Drawn.valid (d : Drawn start sts a wl wh wide h) : histB h = true := by
  have s0 := d.s0
  have s1 := d.s1
  have t1 := d.t1
  have wl_ : h.warm.length = start.length := by rw [d.warm]; simp
  have fv := (Dr.after_inv d.hs d.ht sts.length (Nat.le_refl _))
  have hmul : sts.length * start.length ≤ 7 * 6 := Nat.mul_le_mul t1 s1
  refine histB_true ?_ (fun c hc => ?_) (fun i hi => ?_) fun k hk => ?_
  · rw [sizesB_iff, wl_, d.glen, d.fl]
    omega
  · rw [d.wAt (by omega)]; exact d.wm
  · have hi' : i < sts.length + 1 := by rw [d.glen] at hi; exact hi
    rw [okG_parts fun h0 => by rw [(d.ga (i - 1) (by omega)).1]; omega]
    rw [(d.ga i hi').1, (d.ga i hi').2.1, (d.ga i hi').2.2]
    have hl := (Dr.after_inv d.hs d.ht i (by omega)).1.am
    simp only [Bool.and_eq_true, decide_eq_true_eq, List.length_map, Bool.or_eq_true, d.air, and_true, List.all_eq_true, List.mem_map]
    refine ⟨⟨⟨by rw [inB_iff]; omega, ?_⟩, by rw [hl, wl_]⟩, ?_⟩
    · by_cases h0 : i = 0
      · exact .inl h0
      · right; rw [(d.ga (i - 1) (by omega)).1]; omega
    · rintro v ⟨n, hn, rfl⟩
      obtain ⟨c, hc, rfl⟩ := List.mem_iff_getElem.1 hn
      have := d.am_bd (i := i) (c := c) (by omega) (by omega)
      have e : (Dr.after start sts i).am.getD c 0 = (Dr.after start sts i).am[c] := by rw [List.getD_eq_getElem?_getD, List.getElem?_eq_getElem hc]; rfl
      rw [e] at this
      exact (gV_bd d.air d.wm d.w0 d.w1 this.1 (by omega)).2.2.2
  · have hm : h.flows[k] ∈ (Dr.after start sts sts.length).fl := by rw [← d.fl]; exact List.getElem_mem hk
    obtain ⟨h1, h2, h3⟩ := fv.1.fl _ hm
    rw [wl_]
    simp only [flowB, Bool.and_eq_true, inB_iff]
    omega
theorem Drawn.told (d : Drawn start sts a wl wh wide h) {i c : Nat} (hi : i ≤ sts.length) (hc : c < start.length) : toldLo h c i ≤ start.getD c 0 - (Dr.after start sts i).lo.getD c 0 ∧ start.getD c 0 - (Dr.after start sts i).lo.getD c 0 ≤ toldHi h c i := by
  have h1 := d.al hi hc
  have h2 := d.come hi c
  have h3 := ((Dr.after_inv d.hs d.ht i hi).1.at_ c hc).2.2
  unfold toldLo toldHi
  omega
theorem Drawn.free (d : Drawn start sts a wl wh wide h) : conf h = none := by
  have ho := histB_ok d.valid
  have wl_ : h.warm.length = start.length := by rw [d.warm]; simp
  have gl := d.glen
  refine conf_none fun c t f hc ht hf => ?_
  rw [clash_told ho hf ht]
  have h1 := d.told (i := f) (c := c) (by omega) (by omega)
  have h2 := d.told (i := t) (c := c) (by omega) (by omega)
  have m := Dr.after_mono d.hs d.ht (c := c) (i := f) t hf (by omega)
  have n1 : ¬ toldHi h c f < toldLo h c f := by omega
  have n2 : ¬ toldHi h c f < toldLo h c t := by omega
  simp [n1, n2]
theorem Drawn.confE (d : Drawn start sts a wl wh wide h) : confE h = 6 := (cf_none d.valid d.free).2.2.2
/-- what has leaked of a cell -/
def lostAt (start : List Int) (sts : List (List Int)) (c : Nat) : Int := (Dr.after start sts sts.length).lo.getD c 0
theorem Drawn.lost (d : Drawn start sts a wl wh wide h) {c : Nat} (hc : c < start.length) : lostLo h c ≤ lostAt start sts c ∧ lostAt start sts c ≤ lostHi h c := by
  have gl := d.glen
  have z := (Dr.after_inv d.hs d.ht sts.length (Nat.le_refl _)).1.at_ c hc
  unfold lostAt
  by_cases h0 : sts.length = 0
  · have e : (Dr.after start sts sts.length).lo.getD c 0 = 0 := by
      rw [h0]
      simp only [Dr.after, Dr.zero, List.getD_eq_getElem?_getD, List.getElem?_replicate]
      split <;> rfl
    rw [e]
    unfold lostLo lostHi
    rw [gl, h0]
    simp
  · have h1 := d.told (i := 0) (c := c) (by omega) hc
    have h2 := d.told (i := sts.length) (c := c) (by omega) hc
    have e : (Dr.after start sts 0).lo.getD c 0 = 0 := by
      simp only [Dr.after, Dr.zero, List.getD_eq_getElem?_getD, List.getElem?_replicate]
      split <;> rfl
    rw [e] at h1
    have ss := (Dr.after_inv d.hs d.ht 0 (Nat.zero_le _)).1.at_ c hc
    have hst : 0 ≤ start.getD c 0 ∧ start.getD c 0 ≤ 65535 := by
      rw [List.getD_eq_getElem?_getD, List.getElem?_eq_getElem hc]
      exact d.hs _ (List.getElem_mem hc)
    have nn := need_le (h := h) (c := c) (M := start.getD c 0) (by omega) h.gauges.length fun i hi => by
      have := d.told (i := i) (c := c) (by omega) hc
      have := (Dr.after_inv d.hs d.ht i (by omega)).1.at_ c hc
      omega
    have t1 := d.t1
    have s1 := d.s1
    have hmul : sts.length * start.length ≤ 7 * 6 := Nat.mul_le_mul t1 s1
    have fl := (Dr.after_inv d.hs d.ht sts.length (Nat.le_refl _)).2
    have cc := can_ge (h := h) (c := c) (M := start.getD c 0 - (Dr.after start sts sts.length).lo.getD c 0) (by omega) h.gauges.length fun i hi => by
      have := d.told (i := i) (c := c) (by omega) hc
      have := Dr.after_mono d.hs d.ht (c := c) (i := i) sts.length (by omega) (Nat.le_refl _)
      omega
    unfold lostLo lostHi
    rw [if_neg (by omega), if_neg (by omega)]
    have e2 : h.gauges.length - 1 = sts.length := by omega
    rw [e2]
    omega
theorem sum_getD (l : List Int) : ∀ k, k ≤ l.length → sumBy (fun c => l.getD c 0) (List.range k) = sumBy (fun x => x) (l.take k)
  | 0, _ => by simp
  | k + 1, hk => by
    rw [List.range_succ, sumBy_append, sum_getD l k (by omega), sumBy_take _ _ _ (by omega), sumBy_cons, sumBy_nil]
    rw [List.getD_eq_getElem?_getD, List.getElem?_eq_getElem (by omega)]
    simp
theorem Drawn.alls (d : Drawn start sts a wl wh wide h) : ∀ k, k ≤ start.length → allLo h k ≤ sumBy (lostAt start sts) (List.range k) ∧ sumBy (lostAt start sts) (List.range k) ≤ allHi h k ∧
    (∀ c, c < k → allLo h k - lostLo h c ≤ sumBy (lostAt start sts) (List.range k) - lostAt start sts c ∧ sumBy (lostAt start sts) (List.range k) - lostAt start sts c ≤ allHi h k - lostHi h c)
  | 0, _ => by simp [allLo, allHi]
  | k + 1, hk => by
    obtain ⟨h1, h2, h3⟩ := d.alls k (by omega)
    have b := d.lost (c := k) (by omega)
    rw [allLo_succ, allHi_succ, List.range_succ, sumBy_append, sumBy_cons, sumBy_nil]
    refine ⟨by omega, by omega, fun c hc => ?_⟩
    by_cases e : c = k
    · subst e; omega
    · have := h3 c (by omega); omega
theorem Drawn.all (d : Drawn start sts a wl wh wide h) : sumBy (lostAt start sts) (List.range start.length) = (Dr.after start sts sts.length).all := by
  have z := (Dr.after_inv d.hs d.ht sts.length (Nat.le_refl _)).1
  rw [z.sum]
  have := sum_getD (Dr.after start sts sts.length).lo start.length (by rw [z.lo]; exact Nat.le_refl _)
  rw [← z.lo, List.take_length] at this
  rw [← this, z.lo]
  rfl
theorem Drawn.leaks (d : Drawn start sts a wl wh wide h) {x y : Int} (hx : 0 ≤ x) (hy : y ≤ 1000000000000) (hxa : x ≤ (Dr.after start sts sts.length).all) (hya : (Dr.after start sts sts.length).all ≤ y) :
    leaksE h x y = 0 ∧ (leaksL h x y).length = start.length ∧ ∀ c (hc : c < (leaksL h x y).length), (leaksL h x y)[c].lo ≤ lostAt start sts c ∧ lostAt start sts c ≤ (leaksL h x y)[c].hi := by
  have wl_ : h.warm.length = start.length := by rw [d.warm]; simp
  obtain ⟨h1, h2, h3⟩ := d.alls start.length (Nat.le_refl _)
  rw [d.all] at h1 h2 h3
  have hsp : spanIn x y 0 1000000000000 = true := by simp [spanIn, rng, inB]; omega
  have e : leaksE h x y = 0 := by
    rw [leaks_free d.valid hsp (by rw [d.confE]; decide)]
    have : outB h x y = false := by
      simp only [outB, wl_]
      simp
      omega
    rw [this]; rfl
  have el : leaksL h x y = (List.range h.warm.length).map fun c => ⟨leakLo h x c, leakHi h y c⟩ := by simp [leaksL, e]
  rw [el]
  refine ⟨e, by simp [wl_], fun c hc => ?_⟩
  have hc : c < start.length := by simpa [wl_] using hc
  have := h3 c hc
  have b := d.lost hc
  simp only [List.getElem_map, List.getElem_range, leakLo, leakHi, wl_]
  omega
theorem namedTo_mem {l : List Sp} : ∀ (k : Nat) (x : Int), x ∈ namedTo l k → ∃ j : Nat, j < k ∧ x = j ∧ 0 < (l.getD j default).lo
  | 0, x, hx => by simp [namedTo] at hx
  | k + 1, x, hx => by
    simp only [namedTo, List.mem_append] at hx
    rcases hx with hx | hx
    · obtain ⟨j, h1, h2, h3⟩ := namedTo_mem k x hx
      exact ⟨j, by omega, h2, h3⟩
    · split at hx
      · rename_i hp
        simp at hx
        exact ⟨k, by omega, hx, hp⟩
      · simp at hx
theorem namedTo_sorted {l : List Sp} : ∀ k, (namedTo l k).Pairwise (· < ·)
  | 0 => List.Pairwise.nil
  | k + 1 => by
    simp only [namedTo]
    rw [List.pairwise_append]
    refine ⟨namedTo_sorted k, ?_, fun x hx y hy => ?_⟩
    · split <;> simp
    · obtain ⟨j, h1, h2, _⟩ := namedTo_mem k x hx
      split at hy
      · simp at hy; omega
      · simp at hy
theorem Drawn.named (d : Drawn start sts a wl wh wide h) : leaksE h 0 1000000000000 = 0 ∧ (∀ i (hi : i < (namedL h 0 1000000000000).length), ∃ j : Nat, j < start.length ∧ (namedL h 0 1000000000000)[i] = j ∧ lostAt start sts j ≠ 0) ∧
    (namedL h 0 1000000000000).Pairwise (· < ·) := by
  have wl_ : h.warm.length = start.length := by rw [d.warm]; simp
  have z := (Dr.after_inv d.hs d.ht sts.length (Nat.le_refl _))
  have t1 := d.t1
  have s1 := d.s1
  have hmul : sts.length * start.length ≤ 7 * 6 := Nat.mul_le_mul t1 s1
  have za := z.1.all0
  have zb := z.1.all1
  obtain ⟨e, el, hb⟩ := d.leaks (x := 0) (y := 1000000000000) (by decide) (by decide) (by omega) (by omega)
  refine ⟨e, fun i hi => ?_, namedTo_sorted _⟩
  obtain ⟨j, h1, h2, h3⟩ := namedTo_mem _ _ (List.getElem_mem hi)
  have hj : j < (leaksL h 0 1000000000000).length := by omega
  have := hb j hj
  rw [List.getD_eq_getElem?_getD, List.getElem?_eq_getElem hj] at h3
  simp at h3
  exact ⟨j, by omega, h2, by omega⟩
theorem sorted_next {l : List Int} (h : l.Pairwise (· < ·)) {i : Nat} (hi : i < l.length) (h0 : 0 < i) : l[i - 1]'(by omega) < l[i] := List.pairwise_iff_getElem.1 h (i - 1) i (by omega) hi (by omega)
end Bal.Gas

/-
  A history that is drawn step by step, in memory: two rows of numbers that may be written, a history whose three slices grow. No program in sight.
-/
namespace Bal.Gas
open Go Go.RowKit Bal Bal.Trim
set_option linter.unusedVariables false
def ints (l : List Int) : Array Value := (l.map (Value.int .i64)).toArray
theorem ints_get {l : List Int} {k : Nat} (h : k < l.length) : (ints l)[k]? = some (.int .i64 l[k]) := by simp [ints, h]
theorem ints_set (l : List Int) (k : Nat) (v : Int) : (ints l).setIfInBounds k (.int .i64 v) = ints (l.set k v) := by simp [ints, List.map_set]
theorem ints_flat (l : List Int) : (ints l).toList = l.flatMap icell := by
  simp only [ints, List.toList_toArray]
  induction l with
  | nil => rfl
  | cons x l ih => rw [List.map_cons, List.flatMap_cons, icell, List.singleton_append, ih]
theorem ints_row {w : World} {b : Nat} {l : List Int} {t : TypeId} (h : Blk w b (ints l) t) : Row icell 1 w.heap.size w (some ⟨b, 0, none⟩) l :=
  Row.block (fun _ => rfl) h (ints_flat l)
end Bal.Gas
namespace Bal
open Go Go.RowKit
theorem Blk.grownLt {w w' : World} {b base k n : Nat} {arr : Array Value} {t e : TypeId} {v : Value} {xs : List Value} (h : Blk w b arr t) (hb : b < base) (ho : w.ownsRow base e k v n xs) (hg : w.grownBy w' v.ownBlock) : Blk w' b arr t := by
  have hl := h.lt
  unfold Blk at *
  rw [hg.block b hl ?_]
  · exact h
  · intro he
    obtain ⟨_, ⟨rfl, _⟩ | ⟨g, cap, cur, rfl, hbg, hh, _⟩⟩ := ho
    · cases he
    · simp only [Value.ownBlock, Option.some.injEq] at he
      omega
end Bal
namespace Bal.Gas
open Go Go.RowKit Bal Bal.Trim
theorem owns_setLt {w : World} {b base k n i : Nat} {e : TypeId} {v u : Value} {xs : List Value} (hb : b < base) (ho : w.ownsRow base e k v n xs) : (w.setCell ⟨b, i, none⟩ u).ownsRow base e k v n xs := by
  refine owns_setB ho fun he => ?_
  obtain ⟨_, ⟨rfl, _⟩ | ⟨g, cap, cur, rfl, hbg, _, _⟩⟩ := ho
  · cases he
  · simp only [Value.ownBlock, Option.some.injEq] at he
    omega
theorem owns_grownT {w w' : World} {base k n base' k' n' : Nat} {e e' : TypeId} {v v' : Value} {xs xs' : List Value} (ho : w.ownsRow base e k v n xs) (ho' : w.ownsRow base' e' k' v' n' xs') (hne : e ≠ e') (hg : w.grownBy w' v'.ownBlock) : w'.ownsRow base e k v n xs := by
  obtain ⟨h1, h2 | ⟨g, cap, cur, hv, hb, hh, r⟩⟩ := ho
  · exact ⟨h1, .inl h2⟩
  · exact ⟨h1, .inr ⟨g, cap, cur, hv, hb, Blk.grown (show Blk w g cur e from hh) ho' hne hg, r⟩⟩
theorem owns_shape {w : World} {base k n : Nat} {e : TypeId} {v : Value} {xs : List Value} (h : w.ownsRow base e k v n xs) : ∃ ad cp, v = .slice ad n cp := by
  obtain ⟨_, ⟨rfl, rfl⟩ | ⟨g, cap, cur, rfl, _⟩⟩ := h
  · exact ⟨none, 0, rfl⟩
  · exact ⟨_, _, rfl⟩
theorem cells_at {w : World} {n : Nat} (h : n = w.heap.size) (l : List Value) (t : TypeId) : ∀ j u, l[j]? = some u → (w.alloc (.cells l.toArray t)).cell? ((⟨n, 0, none⟩ : Addr).add j) = some u := by
  intro j u hj
  subst h
  have e : (⟨w.heap.size, 0, none⟩ : Addr).add j = ⟨w.heap.size, j, none⟩ := by unfold Addr.add; split <;> simp_all
  rw [e, (Blk.new (w := w) (arr := l.toArray) (t := t)).cell]
  simpa using hj
def gvV (g : Gauge) : Value := .slice (gv g) g.vols.length g.vc
/-- the state of the drawing: the air's box, the superheat's box, the history, the amounts, what was lost; B: where the call's own rows begin -/
structure NSt (TA TS TH TI TG TF : TypeId) (B b7 b8 b13 bA bL : Nat) (x : Air) (wl wh : Int) (w wr : World) (vw vg vf : Value) (am lo : List Int) (W : List Sp) (G : List Gauge) (F : List Flow) : Prop where
  l7 : b7 < B
  l8 : b8 < B
  l13 : b13 < B
  lA : bA < B
  lL : bL < B
  n7 : b7 ≠ b13 ∧ b7 ≠ bA ∧ b7 ≠ bL
  n8 : b8 ≠ b13 ∧ b8 ≠ bA ∧ b8 ≠ bL
  n13 : b13 ≠ bA ∧ b13 ≠ bL
  nA : bA ≠ bL
  b0 : w.heap.size ≤ b13 ∧ w.heap.size ≤ bA ∧ w.heap.size ≤ bL
  hB : B ≤ wr.heap.size
  air : Blk wr b7 #[.int .i64 x.plo, .int .i64 x.phi, .int .i64 x.tlo, .int .i64 x.thi] TA
  wm : Blk wr b8 #[.int .i64 wl, .int .i64 wh] TS
  hist : Blk wr b13 #[vw, vg, vf] TH
  am : Blk wr bA (ints am) TI
  lo : Blk wr bL (ints lo) TI
  ow : wr.ownsRow B TS 2 vw W.length (W.flatMap Sp.cells)
  og : wr.ownsRow B TG 6 vg G.length (G.flatMap Gauge.cells)
  of : wr.ownsRow B TF 3 vf F.length (F.flatMap Flow.cells)
  vols : ∀ g ∈ G, wr.ownsRow B TS 2 (gvV g) g.vols.length (g.vols.flatMap Sp.cells)
  kept : Kept w wr
section
variable {TA TS TH TI TG TF : TypeId} {B b7 b8 b13 bA bL : Nat} {x : Air} {wl wh : Int} {w wr : World} {vw vg vf : Value} {am lo : List Int} {W : List Sp} {G : List Gauge} {F : List Flow}
theorem NSt.keep (h : NSt TA TS TH TI TG TF B b7 b8 b13 bA bL x wl wh w wr vw vg vf am lo W G F) {w' : World} (hb : Kept wr w') : NSt TA TS TH TI TG TF B b7 b8 b13 bA bL x wl wh w w' vw vg vf am lo W G F :=
  ⟨h.l7, h.l8, h.l13, h.lA, h.lL, h.n7, h.n8, h.n13, h.nA, h.b0, Nat.le_trans h.hB hb.size, h.air.keep hb, h.wm.keep hb, h.hist.keep hb, h.am.keep hb, h.lo.keep hb, owns_keep h.ow hb, owns_keep h.og hb, owns_keep h.of hb, fun g hg => owns_keep (h.vols g hg) hb, Kept.drop h.kept hb⟩
theorem NSt.setA (h : NSt TA TS TH TI TG TF B b7 b8 b13 bA bL x wl wh w wr vw vg vf am lo W G F) (i : Nat) (v : Int) : NSt TA TS TH TI TG TF B b7 b8 b13 bA bL x wl wh w (wr.setCell ⟨bA, i, none⟩ (.int .i64 v)) vw vg vf (am.set i v) lo W G F :=
  ⟨h.l7, h.l8, h.l13, h.lA, h.lL, h.n7, h.n8, h.n13, h.nA, h.b0, by simpa using h.hB, h.air.other (Ne.symm h.n7.2.1) _, h.wm.other (Ne.symm h.n8.2.1) _, h.hist.other (Ne.symm h.n13.1) _, (h.am.set _ _).cast (ints_set _ _ _), h.lo.other h.nA _,
    owns_setLt h.lA h.ow, owns_setLt h.lA h.og, owns_setLt h.lA h.of, fun g hg => owns_setLt h.lA (h.vols g hg), h.kept.setCell h.b0.2.1 _⟩
theorem NSt.setL (h : NSt TA TS TH TI TG TF B b7 b8 b13 bA bL x wl wh w wr vw vg vf am lo W G F) (i : Nat) (v : Int) : NSt TA TS TH TI TG TF B b7 b8 b13 bA bL x wl wh w (wr.setCell ⟨bL, i, none⟩ (.int .i64 v)) vw vg vf am (lo.set i v) W G F :=
  ⟨h.l7, h.l8, h.l13, h.lA, h.lL, h.n7, h.n8, h.n13, h.nA, h.b0, by simpa using h.hB, h.air.other (Ne.symm h.n7.2.2) _, h.wm.other (Ne.symm h.n8.2.2) _, h.hist.other (Ne.symm h.n13.2) _, h.am.other (Ne.symm h.nA) _, (h.lo.set _ _).cast (ints_set _ _ _),
    owns_setLt h.lL h.ow, owns_setLt h.lL h.og, owns_setLt h.lL h.of, fun g hg => owns_setLt h.lL (h.vols g hg), h.kept.setCell h.b0.2.2 _⟩
/-- behind an append to the superheats -/
theorem NSt.appW (h : NSt TA TS TH TI TG TF B b7 b8 b13 bA bL x wl wh w wr vw vg vf am lo W [] []) (hG : TG ≠ TS) (hF : TF ≠ TS) {w' : World} {v' : Value} {s : Sp} (ho : w'.ownsRow B TS 2 v' (W.length + 1) (W.flatMap Sp.cells ++ s.cells)) (hg : wr.grownBy w' vw.ownBlock) :
    NSt TA TS TH TI TG TF B b7 b8 b13 bA bL x wl wh w (w'.setCell ⟨b13, 0, none⟩ v') v' vg vf am lo (W ++ [s]) [] [] := by
  have hk : Kept w w' := Kept.grown h.kept h.ow (Nat.le_trans h.b0.1 (Nat.le_of_lt h.l13)) hg
  refine ⟨h.l7, h.l8, h.l13, h.lA, h.lL, h.n7, h.n8, h.n13, h.nA, h.b0, by simpa using Nat.le_trans h.hB hg.size, (h.air.grownLt h.l7 h.ow hg).other (Ne.symm h.n7.1) _, (h.wm.grownLt h.l8 h.ow hg).other (Ne.symm h.n8.1) _, (h.hist.grownLt h.l13 h.ow hg).set 0 v',
    (h.am.grownLt h.lA h.ow hg).other h.n13.1 _, (h.lo.grownLt h.lL h.ow hg).other h.n13.2 _, ?_, owns_setLt h.l13 (owns_grownT h.og h.ow hG hg), owns_setLt h.l13 (owns_grownT h.of h.ow hF hg), fun g hg => (by cases hg), hk.setCell h.b0.1 _⟩
  rw [List.length_append, List.flatMap_append, List.length_singleton, List.flatMap_singleton]
  exact owns_setLt h.l13 ho
/-- behind an append to the gauges -/
theorem NSt.appG (h : NSt TA TS TH TI TG TF B b7 b8 b13 bA bL x wl wh w wr vw vg vf am lo W G F) (hS : TS ≠ TG) (hF : TF ≠ TG) {w' : World} {v' : Value} {s : Gauge} (ho : w'.ownsRow B TG 6 v' (G.length + 1) (G.flatMap Gauge.cells ++ s.cells)) (hg : wr.grownBy w' vg.ownBlock)
    (hs : wr.ownsRow B TS 2 (gvV s) s.vols.length (s.vols.flatMap Sp.cells)) :
    NSt TA TS TH TI TG TF B b7 b8 b13 bA bL x wl wh w (w'.setCell ⟨b13, 1, none⟩ v') vw v' vf am lo W (G ++ [s]) F := by
  have hk : Kept w w' := Kept.grown h.kept h.og (Nat.le_trans h.b0.1 (Nat.le_of_lt h.l13)) hg
  refine ⟨h.l7, h.l8, h.l13, h.lA, h.lL, h.n7, h.n8, h.n13, h.nA, h.b0, by simpa using Nat.le_trans h.hB hg.size, (h.air.grownLt h.l7 h.og hg).other (Ne.symm h.n7.1) _, (h.wm.grownLt h.l8 h.og hg).other (Ne.symm h.n8.1) _, (h.hist.grownLt h.l13 h.og hg).set 1 v',
    (h.am.grownLt h.lA h.og hg).other h.n13.1 _, (h.lo.grownLt h.lL h.og hg).other h.n13.2 _, owns_setLt h.l13 (owns_grownT h.ow h.og hS hg), ?_, owns_setLt h.l13 (owns_grownT h.of h.og hF hg), fun g hgm => ?_, hk.setCell h.b0.1 _⟩
  · rw [List.length_append, List.flatMap_append, List.length_singleton, List.flatMap_singleton]
    exact owns_setLt h.l13 ho
  · rcases List.mem_append.1 hgm with hgm | hgm
    · exact owns_setLt h.l13 (owns_grownT (h.vols g hgm) h.og hS hg)
    · obtain rfl : g = s := by simpa using hgm
      exact owns_setLt h.l13 (owns_grownT hs h.og hS hg)
/-- behind an append to the flows -/
theorem NSt.appF (h : NSt TA TS TH TI TG TF B b7 b8 b13 bA bL x wl wh w wr vw vg vf am lo W G F) (hS : TS ≠ TF) (hG : TG ≠ TF) {w' : World} {v' : Value} {s : Flow} (ho : w'.ownsRow B TF 3 v' (F.length + 1) (F.flatMap Flow.cells ++ s.cells)) (hg : wr.grownBy w' vf.ownBlock) :
    NSt TA TS TH TI TG TF B b7 b8 b13 bA bL x wl wh w (w'.setCell ⟨b13, 2, none⟩ v') vw vg v' am lo W G (F ++ [s]) := by
  have hk : Kept w w' := Kept.grown h.kept h.of (Nat.le_trans h.b0.1 (Nat.le_of_lt h.l13)) hg
  refine ⟨h.l7, h.l8, h.l13, h.lA, h.lL, h.n7, h.n8, h.n13, h.nA, h.b0, by simpa using Nat.le_trans h.hB hg.size, (h.air.grownLt h.l7 h.of hg).other (Ne.symm h.n7.1) _, (h.wm.grownLt h.l8 h.of hg).other (Ne.symm h.n8.1) _, (h.hist.grownLt h.l13 h.of hg).set 2 v',
    (h.am.grownLt h.lA h.of hg).other h.n13.1 _, (h.lo.grownLt h.lL h.of hg).other h.n13.2 _, owns_setLt h.l13 (owns_grownT h.ow h.of hS hg), owns_setLt h.l13 (owns_grownT h.og h.of hG hg), ?_, fun g hgm => owns_setLt h.l13 (owns_grownT (h.vols g hgm) h.of hS hg), hk.setCell h.b0.1 _⟩
  rw [List.length_append, List.flatMap_append, List.length_singleton, List.flatMap_singleton]
  exact owns_setLt h.l13 ho
/-- what has been drawn, as a history -/
theorem NSt.at_ (h : NSt TA TS TH TI TG TF B b7 b8 b13 bA bL x wl wh w wr vw vg vf am lo W G F) : ∃ s : Spot, #[vw, vg, vf] = histV s ⟨W, G, F⟩ ∧ ∀ w', Kept wr w' → HistAt ⟨W, G, F⟩ s w' := by
  obtain ⟨aw, cw, rfl, r1, c1, d1⟩ := owns_row (enc := Sp.cells) (k := 2) (fun _ => rfl) h.ow
  obtain ⟨ag, cg, rfl, r2, c2, d2⟩ := owns_row (enc := Gauge.cells) (k := 6) (fun _ => rfl) h.og
  obtain ⟨af, cf, rfl, r3, c3, d3⟩ := owns_row (enc := Flow.cells) (k := 3) (fun _ => rfl) h.of
  refine ⟨⟨aw, ag, af, cw, cg, cf⟩, rfl, fun w' hk => HistAt.later ⟨r1, r2, r3, fun g hg => ?_, c1, c2, c3, d1, d2, d3, fun g hg => ?_⟩ hk⟩
  · obtain ⟨a4, c4, e4, r4, _, _⟩ := owns_row (enc := Sp.cells) (k := 2) (fun _ => rfl) (h.vols g hg)
    unfold gvV at e4
    injection e4 with e5 e6 e7
    rw [e5]
    exact r4
  · obtain ⟨a4, c4, e4, r4, c5, d5⟩ := owns_row (enc := Sp.cells) (k := 2) (fun _ => rfl) (h.vols g hg)
    unfold gvV at e4
    injection e4 with e5 e6 e7
    rw [e7]
    exact ⟨c5, d5⟩
end
theorem gauge_own {T : TypeId} {B n b c : Nat} {w : World} {t : Int} {x : Air} {L : List Sp} (h : w.ownsRow B T 2 (.slice (some ⟨b, 0, none⟩) n c) n (L.flatMap Sp.cells)) (hn : n = L.length) : w.ownsRow B T 2 (gvV ⟨t, x, some (b, 0, none), c, L⟩) L.length (L.flatMap Sp.cells) := by
  subst hn; exact h
theorem gauge_cells {n b c : Nat} {t : Int} {x : Air} {L : List Sp} (hn : n = L.length) : [.int .i64 t, .int .i64 x.plo, .int .i64 x.phi, .int .i64 x.tlo, .int .i64 x.thi, .slice (some ⟨b, 0, none⟩) n c] = Gauge.cells ⟨t, x, some (b, 0, none), c, L⟩ := by
  subst hn; rfl
/-- the gauges of the first k steps -/
def GOk (start : List Int) (sts : List (List Int)) (x : Air) (wl wide : Int) (G : List Gauge) (k : Nat) : Prop :=
  G.length = k + 1 ∧ ∀ i, i < k + 1 → (G.getD i default).time = 10 * i ∧ (G.getD i default).air = x ∧ (G.getD i default).vols = (Dr.after start sts i).am.map (gV x wl wide)
theorem GOk.zero {start : List Int} {sts : List (List Int)} {x : Air} {wl wide : Int} {b c : Nat} : GOk start sts x wl wide [⟨0, x, some (b, 0, none), c, start.map (gV x wl wide)⟩] 0 := by
  refine ⟨rfl, fun i hi => ?_⟩
  obtain rfl : i = 0 := by omega
  exact ⟨rfl, rfl, rfl⟩
theorem GOk.push {start : List Int} {sts : List (List Int)} {x : Air} {wl wide : Int} {G : List Gauge} {k b c : Nat} (h : GOk start sts x wl wide G k) : GOk start sts x wl wide (G ++ [⟨10 * k + 10, x, some (b, 0, none), c, (Dr.after start sts (k + 1)).am.map (gV x wl wide)⟩]) (k + 1) := by
  obtain ⟨h1, h2⟩ := h
  refine ⟨by simp [h1], fun i hi => ?_⟩
  by_cases e : i < k + 1
  · have := h2 i e
    rw [List.getD_eq_getElem?_getD, List.getElem?_append_left (by omega), ← List.getD_eq_getElem?_getD]
    exact this
  · obtain rfl : i = k + 1 := by omega
    rw [List.getD_eq_getElem?_getD, List.getElem?_append_right (by omega), h1]
    simp
    omega
end Bal.Gas

/-
  The gauge that a statement draws.
-/
namespace Go.Proofs.Ytemafanncejeiaa
open Go.RowKit Bal Bal.Trim Bal.Gas
set_option linter.unusedVariables false
set_option linter.unusedSimpArgs false
set_option maxHeartbeats 4000000
set_option maxRecDepth 100000

attribute [local go_sem] Bal.Trim.ite_max Bal.Trim.ite_min
theorem owns_some {w : World} {base k n cp : Nat} {e : TypeId} {ad : Option Addr} {m : Nat} {xs : List Value} (h : w.ownsRow base e k (.slice ad m cp) n xs) (h0 : 0 < n) : ∃ g, ad = some ⟨g, 0, none⟩ ∧ base ≤ g := by
  obtain ⟨_, ⟨hv, hz⟩ | ⟨g, cap, cur, hv, hb, _⟩⟩ := h
  · omega
  · cases hv
    exact ⟨g, rfl, hb⟩
theorem infoGa : (Try.prog.info? 124).map (fun i => (i.zero, i.size, i.bytes)) = some (some (.agg #[.int .i64 0, .int .i64 0, .int .i64 0, .int .i64 0, .int .i64 0, .slice none 0 0]), 6, 64) := by kernel_rfl
theorem infoFl : (Try.prog.info? 128).map (fun i => (i.zero, i.size, i.bytes)) = some (some (.agg #[.int .i64 0, .int .i64 0, .int .i64 0]), 3, 24) := by kernel_rfl
theorem infoI9 : (Try.prog.info? 3).map (fun i => (i.zero, i.size, i.bytes)) = some (some (.int .i64 0), 1, 8) := by kernel_rfl
theorem run_makeI (s : Nat) (hs : s ≤ 1000) (w : World) : (Instr.makeSlice 93 (.int .i64 s) (.int .i64 s)).run Try.prog w = .ok (.slice (some ⟨w.heap.size, 0, none⟩) s s) (w.alloc (.cells (ints (List.replicate s 0)) 3)) := by
  obtain ⟨i0, hi, hz0, hz1, hz2⟩ := info_parts infoI9
  have := run_make (P := Try.prog) w 93 3 i0 (.int .i64 0) Try.underlying93 hi hz0 .i64 .i64 s s (by omega) (Int.le_refl _) (by rw [hz2]; omega) (by omega)
  rw [this]
  have hm : madeCells (Value.cells (.int .i64 0)) ((s : Int).toNat * i0.size) = ints (List.replicate s 0) := by
    rw [hz1]
    apply Array.ext
    · simp [madeCells, ints]
    · intro i h1 h2
      simp [madeCells, ints, Value.cells, Nat.mod_one]
  rw [hm]
  simp

theorem o_gauge (t : Int) (x : Air) (wl wh wide : Int) (am : List Int) (bA : Nat) (w : World) (hA : Blk w bA (ints am) 3) (h0 : 0 < am.length) (h6 : am.length ≤ 6) (hb : ∀ n ∈ am, 0 ≤ n ∧ n ≤ 76245) (ha : airB x = true) (hw : warmB ⟨wl, wh⟩ = true) (w0_ : 0 ≤ wide) (w1_ : wide ≤ 255) :
    Calls Try.prog 73 #[.int .i64 t, .agg #[.int .i64 x.plo, .int .i64 x.phi, .int .i64 x.tlo, .int .i64 x.thi], .agg #[.int .i64 wl, .int .i64 wh], .slice (some ⟨bA, 0, none⟩) am.length am.length, .int .i64 wide] w fun e w' =>
      ∃ b c, e = .returned (.agg #[.int .i64 t, .int .i64 x.plo, .int .i64 x.phi, .int .i64 x.tlo, .int .i64 x.thi, .slice (some ⟨b, 0, none⟩) am.length c]) ∧ w'.ownsRow w.heap.size 23 2 (.slice (some ⟨b, 0, none⟩) am.length c) am.length ((am.map (gV x wl wide)).flatMap Sp.cells) ∧ Kept w w' := by
  have HROW := Lib.hid (fun W (hW : Kept w W) => (ints_row hA).later hW (Nat.le_refl _))
  have HB := Lib.hid (fun k (hk : k < am.length) => gV_bd ha hw w0_ w1_ (hb _ (List.getElem_mem hk)).1 (show am[k] ≤ 100000 by have := (hb _ (List.getElem_mem hk)).2; omega))
  obtain ⟨⟨p0, p1, p2⟩, t0, t1, t2⟩ := airB_iff.1 ha
  have ws := span3 hw
  simp only at ws
  obtain ⟨ws0, ws1, ws2⟩ := ws
  have HBD := Lib.hid hb
  have hlA := hA.lt
  clear hA hb ha hw
  obtain ⟨N, hN⟩ : ∃ N, N = am.length := ⟨_, rfl⟩
  rw [← hN] at h0 h6 ⊢
  have HN := Lib.hid hN
  clear hN
  go_enter Try.func73, Try.ntmps73
  go_upto_region 2 with fail
  refine at_world (S := fun X => Blk X w.heap.size #[.int .i64 x.plo, .int .i64 x.phi, .int .i64 x.tlo, .int .i64 x.thi] 27 ∧ Blk X (w.heap.size + 1) #[.int .i64 wl, .int .i64 wh] 23 ∧ Blk X (w.heap.size + 1 + 1) #[.int .i64 0, .int .i64 0, .int .i64 0, .int .i64 0, .int .i64 0, .slice none 0 0] 124 ∧ Blk X (w.heap.size + 1 + 1 + 1) #[.int .i64 t, .int .i64 x.plo, .int .i64 x.phi, .int .i64 x.tlo, .int .i64 x.thi, .slice none 0 0] 124 ∧ Kept w X) ⟨by exact blkd, by exact blkd, by exact blkd, by exact blkd, by exact kpt⟩ ?_
  rintro X ⟨q6, q7, q10, q11, hk⟩
  go_upto_region 3 with fail
  go_loopw [20] (fun i wr => ∃ k : Nat, k ≤ N ∧ i = .int .i64 k ∧ Blk wr w.heap.size #[.int .i64 x.plo, .int .i64 x.phi, .int .i64 x.tlo, .int .i64 x.thi] 27 ∧ Blk wr (w.heap.size + 1) #[.int .i64 wl, .int .i64 wh] 23 ∧ Blk wr (w.heap.size + 1 + 1) #[.int .i64 0, .int .i64 0, .int .i64 0, .int .i64 0, .int .i64 0, .slice none 0 0] 124 ∧ Kept w wr ∧ ∃ v, Blk wr (w.heap.size + 1 + 1 + 1) #[.int .i64 t, .int .i64 x.plo, .int .i64 x.phi, .int .i64 x.tlo, .int .i64 x.thi, v] 124 ∧ wr.ownsRow (w.heap.size + 1 + 1 + 1 + 1) 23 2 v k (((am.take k).map (gV x wl wide)).flatMap Sp.cells)) (fun i _ => N - (intOf i).toNat)
  case atStart => exact ⟨0, Nat.zero_le _, rfl, q6, q7, q10, hk, _, q11, owns_nil (α := Sp) (enc := Sp.cells)⟩
  case round =>
    clear q6 q7 q10 q11 hk
    obtain ⟨k, hkn, rfl, q6, q7, q10, hkk, v, q11, hown⟩ := hrel
    have hsz := q11.lt
    by_cases hlt : k < N
    · have hlt' : k < am.length := by rw [← HN.out]; exact hlt
      obtain ⟨b1, o1, hbo, hb1, c0⟩ := int_row (HROW.out _ hkk) k hlt'
      cases hbo
      rw [Nat.zero_add] at c0
      obtain ⟨⟨m0, m1⟩, ⟨d0, d1⟩, _, _⟩ := HB.out k hlt'
      obtain ⟨y0, y1⟩ := HBD.out _ (List.getElem_mem hlt')
      have HT := Lib.hid (show (am.take (k + 1)).map (gV x wl wide) = (am.take k).map (gV x wl wide) ++ [gV x wl wide am[k]] by rw [List.take_succ_eq_append_getElem hlt', List.map_append]; rfl)
      have HLK := Lib.hid (show ((am.take k).map (gV x wl wide)).length = k by simp; omega)
      obtain ⟨n, hn⟩ : ∃ n, n = am[k] := ⟨_, rfl⟩
      rw [← hn] at c0 m0 m1 d0 d1 y0 y1 HT
      clear hn
      have q6c0 := q6.cell 0
      have q6f0 := q6.free 0
      have q6c1 := q6.cell 1
      have q6f1 := q6.free 1
      have q6c2 := q6.cell 2
      have q6f2 := q6.free 2
      have q6c3 := q6.cell 3
      have q6f3 := q6.free 3
      have q6l := q6.lt
      simp at q6c0 q6c1 q6c2 q6c3
      have q7c0 := q7.cell 0
      have q7f0 := q7.free 0
      have q7c1 := q7.cell 1
      have q7f1 := q7.free 1
      have q7l := q7.lt
      simp at q7c0 q7c1
      have q11c0 := q11.cell 0
      have q11f0 := q11.free 0
      have q11c1 := q11.cell 1
      have q11f1 := q11.free 1
      have q11c2 := q11.cell 2
      have q11f2 := q11.free 2
      have q11c3 := q11.cell 3
      have q11f3 := q11.free 3
      have q11c4 := q11.cell 4
      have q11f4 := q11.free 4
      have q11c5 := q11.cell 5
      have q11f5 := q11.free 5
      have q11l := q11.lt
      simp at q11c0 q11c1 q11c2 q11c3 q11c4 q11c5
      have hq : (n * (x.tlo + wl)).tdiv x.plo = n * (x.tlo + wl) / x.plo := Int.tdiv_eq_ediv_of_nonneg m0
      have e1 : (gV x wl wide n).lo = max 0 (n * (x.tlo + wl) / x.plo - wide) := rfl
      have e2 : (gV x wl wide n).hi = n * (x.tlo + wl) / x.plo + 1 + wide := rfl
      have w1 := i64_inH (n := x.tlo + wl) (by omega)
      have w2 := i64_inH (n := n * (x.tlo + wl)) (by omega)
      have w3 := i64_inH (n := n * (x.tlo + wl) / x.plo) (by omega)
      obtain ⟨D, hD⟩ : ∃ D, D = n * (x.tlo + wl) / x.plo - wide := ⟨_, rfl⟩
      have w4 : IntKind.i64.wrap (n * (x.tlo + wl) / x.plo - wide) = D := by rw [hD]; exact i64_inH (by omega)
      have HD := Lib.hid hD
      clear hD
      have w5 := i64_inH (n := n * (x.tlo + wl) / x.plo + 1) (by omega)
      have w6 := i64_inH (n := n * (x.tlo + wl) / x.plo + 1 + wide) (by omega)
      go_wp2_with (at_builtin; (obtain ⟨i0, hi, hz0, hz1, hz2⟩ := info_parts infoSp; refine wpList_append_own _ rfl _ _ 81 rfl (w.heap.size + 1 + 1 + 1 + 1) 23 i0 (.agg #[.int .i64 0, .int .i64 0]) 2 16 Try.underlying81 hi hz0 hz1 hz2 rfl (by decide) _ _ _ rfl ((owns_keep hown (by exact kpt))) ⟨_, 0, none⟩ 1 1 [.int .i64 (max 0 D), .int .i64 (n * (x.tlo + wl) / x.plo + 1 + wide)] rfl rfl (cells_at (by simp) _ _) (fun x hx => by simp at hx; rcases hx with rfl | rfl <;> rfl) (by unfold maxLen; omega) (by omega) (by simp; omega) ?_; intro v9 w9 hown9 hgrow9 hnil9; clear hi hz0 hz1 hz2 hnil9; obtain ⟨ad9, cp9, rfl⟩ := owns_shape hown9; have m11 := Blk.grownLt (Blk.alloc q11 _) (by omega) (owns_keep hown (by exact kpt)) hgrow9; have m11c0 := m11.cell 0; have m11f0 := m11.free 0; have m11c1 := m11.cell 1; have m11f1 := m11.free 1; have m11c2 := m11.cell 2; have m11f2 := m11.free 2; have m11c3 := m11.cell 3; have m11f3 := m11.free 3; have m11c4 := m11.cell 4; have m11f4 := m11.free 4; have m11c5 := m11.cell 5; have m11f5 := m11.free 5; have m11l := m11.lt; simp at m11c0 m11c1 m11c2 m11c3 m11c4 m11c5; have m6 := Blk.grownLt (Blk.alloc q6 _) (by omega) (owns_keep hown (by exact kpt)) hgrow9; have m7 := Blk.grownLt (Blk.alloc q7 _) (by omega) (owns_keep hown (by exact kpt)) hgrow9; have m10 := Blk.grownLt (Blk.alloc q10 _) (by omega) (owns_keep hown (by exact kpt)) hgrow9; have hk9 : Kept w w9 := Kept.grown (Kept.alloc hkk _) (owns_keep hown (by exact kpt)) (by omega) hgrow9))
      go_round
      case rel =>
        refine ⟨k + 1, by omega, by go_num, by exact blkd, by exact blkd, by exact blkd, by exact kpt, _, by exact blkd, ?_⟩
        rw [HT.out, List.flatMap_append]
        have hown10 := owns_setLt (i := 5) (u := .slice ad9 (k + 1) cp9) (show w.heap.size + 1 + 1 + 1 < w.heap.size + 1 + 1 + 1 + 1 by omega) hown9
        rw [HD.out] at hown10
        exact hown10
      case measure => simp [intOf]; omega
    · obtain rfl : k = N := by omega
      have hT : (am.take k).map (gV x wl wide) = am.map (gV x wl wide) := by rw [HN.out, List.take_length]
      rw [hT] at hown
      have hl : (am.map (gV x wl wide)).length = k := by rw [List.length_map]; exact HN.out.symm
      rw [← hl] at hown
      obtain ⟨ad, cp, rfl, hrow, hcp, hcm⟩ := owns_row (enc := Sp.cells) (k := 2) (fun _ => rfl) hown
      obtain ⟨g, e2, e3⟩ := owns_some hown (by rw [hl]; omega)
      subst e2
      rw [hl] at hown q11
      have q10c0 := q10.cell 0
      have q10f0 := q10.free 0
      have q10c1 := q10.cell 1
      have q10f1 := q10.free 1
      have q10c2 := q10.cell 2
      have q10f2 := q10.free 2
      have q10c3 := q10.cell 3
      have q10f3 := q10.free 3
      have q10c4 := q10.cell 4
      have q10f4 := q10.free 4
      have q10c5 := q10.cell 5
      have q10f5 := q10.free 5
      have q10l := q10.lt
      simp at q10c0 q10c1 q10c2 q10c3 q10c4 q10c5
      have q11c0 := q11.cell 0
      have q11f0 := q11.free 0
      have q11c1 := q11.cell 1
      have q11f1 := q11.free 1
      have q11c2 := q11.cell 2
      have q11f2 := q11.free 2
      have q11c3 := q11.cell 3
      have q11f3 := q11.free 3
      have q11c4 := q11.cell 4
      have q11f4 := q11.free 4
      have q11c5 := q11.cell 5
      have q11f5 := q11.free 5
      have q11l := q11.lt
      simp at q11c0 q11c1 q11c2 q11c3 q11c4 q11c5
      go_wp2
      exact bodyPost_ret (v := .agg #[.int .i64 t, .int .i64 x.plo, .int .i64 x.phi, .int .i64 x.tlo, .int .i64 x.thi, .slice (some ⟨g, 0, none⟩) k cp]) (by simp [results, Try.results73, go_sem, q10c0, q10f0, q10c1, q10f1, q10c2, q10f2, q10c3, q10f3, q10c4, q10f4, q10c5, q10f5, q10l]) rfl ⟨g, cp, rfl, owns_base (base := w.heap.size + 1 + 1 + 1 + 1) (owns_setLt (by omega) (owns_setLt (by omega) (owns_setLt (by omega) (owns_setLt (by omega) (owns_setLt (by omega) (owns_setLt (by omega) hown)))))) (by omega), by exact kpt⟩

theorem o_gaugeN (t : Int) (x : Air) (wl wh wide : Int) (am : List Int) (N : Nat) (hN : N = am.length) (bA : Nat) (w : World) (hA : Blk w bA (ints am) 3) (h0 : 0 < N) (h6 : N ≤ 6) (hb : ∀ n ∈ am, 0 ≤ n ∧ n ≤ 76245) (ha : airB x = true) (hw : warmB ⟨wl, wh⟩ = true) (w0_ : 0 ≤ wide) (w1_ : wide ≤ 255) :
    Calls Try.prog 73 #[.int .i64 t, .agg #[.int .i64 x.plo, .int .i64 x.phi, .int .i64 x.tlo, .int .i64 x.thi], .agg #[.int .i64 wl, .int .i64 wh], .slice (some ⟨bA, 0, none⟩) N N, .int .i64 wide] w fun e w' =>
      ∃ b c, e = .returned (.agg #[.int .i64 t, .int .i64 x.plo, .int .i64 x.phi, .int .i64 x.tlo, .int .i64 x.thi, .slice (some ⟨b, 0, none⟩) N c]) ∧ w'.ownsRow w.heap.size 23 2 (.slice (some ⟨b, 0, none⟩) N c) N ((am.map (gV x wl wide)).flatMap Sp.cells) ∧ Kept w w' := by
  subst hN
  exact o_gauge t x wl wh wide am bA w hA h0 h6 hb ha hw w0_ w1_

end Go.Proofs.Ytemafanncejeiaa

/-
  A map of bools that a call has made itself, by what its look-ups answer. No program in sight.
-/
namespace Bal
open Go Go.RowKit Go.Maps
set_option linter.unusedVariables false
/-- block b is a map of bools of at most n entries, whose look-ups answer f -/
def InSet (P : Program) (k e : TypeId) (w : World) (b n : Nat) (f : Lit → Bool) : Prop :=
  ∃ D : DataW Unit, w.ownsMap P k (plainElem P e) b n D ∧ IsMap D ∧ ∀ kl, D.atKey kl (.lit (.bool false)) = .lit (.bool (f kl))
theorem InSet.made {P : Program} {k e : TypeId} {w : World} {b : Nat} (hb : b = w.heap.size) : InSet P k e (w.alloc (.map #[] 0)) b 0 (fun _ => false) := by
  subst hb
  exact ⟨.map [], World.ownsMap_made w P k _, isMap_empty, fun kl => rfl⟩
theorem InSet.lt {P : Program} {k e : TypeId} {w : World} {b n : Nat} {f : Lit → Bool} (h : InSet P k e w b n f) : b < w.heap.size := by
  obtain ⟨D, h, _⟩ := h
  exact h.lt
theorem InSet.keep {P : Program} {k e : TypeId} {w w' : World} {b n : Nat} {f : Lit → Bool} (h : InSet P k e w b n f) (hb : Kept w w') : InSet P k e w' b n f := by
  have hl := h.lt
  obtain ⟨D, ⟨es, clock, hh, r⟩, h2⟩ := h
  exact ⟨D, ⟨es, clock, by rw [hb.block b hl]; exact hh, r⟩, h2⟩
theorem InSet.put {P : Program} {k e : TypeId} {w' : World} {b n : Nat} {f g : Lit → Bool} {D : DataW Unit} {kl : Lit} {v : Bool} (hD : IsMap D) (hf : ∀ kl, D.atKey kl (.lit (.bool false)) = .lit (.bool (f kl))) (hk : WideAt.IsKeyLit kl) (hg1 : g kl = v) (hg2 : ∀ x, x ≠ kl → g x = f x)
    (h : w'.ownsMap P k (plainElem P e) b n (D.put kl (.lit (.bool v)))) : InSet P k e w' b n g := by
  refine ⟨_, h, hD.put _ _, fun x => ?_⟩
  by_cases hx : x = kl
  · subst hx
    rw [atKey_put_same hD hk, hg1]
  · rw [atKey_put_other hx, hf, hg2 x hx]
theorem Kept.turned {w0 w w' : World} {b : Nat} (h : Kept w0 w) (hb : w0.heap.size ≤ b) (hg : w.grownBy w' (some b)) : Kept w0 w' := by
  refine Below.trans h ⟨hg.os, hg.tape, hg.output, hg.size, fun i hi => hg.block i (Nat.lt_of_lt_of_le hi h.size) fun he => ?_⟩
  simp only [Option.some.injEq] at he
  omega
theorem Blk.turned {w w' : World} {b m : Nat} {arr : Array Value} {t : TypeId} (h : Blk w m arr t) (hne : m ≠ b) (hg : w.grownBy w' (some b)) : Blk w' m arr t := by
  have hl := h.lt
  unfold Blk at *
  rw [hg.block m hl (fun he => hne (by simpa using he))]
  exact h
/-- 'm[k]' -/
theorem wpList_look_set {P : Program} (w : World) {ops : Array Oper} {rest : List Oper} {o : Oper} {a : Act} {Q : Exit → Act → World → Prop}
    (hg : o.guard = none) (m x : Operand) (t : TypeId) (hop : o.op = Op.lookup t m x false)
    (k e : TypeId) (K : Keyed P k) (ht : P.underlying t = some (.map k e)) (he : P.underlying e = some .bool) (hz : (zeroValue e).run P w = .ok (.bool false) w) (b n : Nat) (f : Lit → Bool)
    (hm : a.eval m = .map (some b)) (hset : InSet P k e w b n f) (key : Value) (kl : Lit) (hx : a.eval x = key) (hkey : keyOf P k key = some kl)
    (hK : wpList P ops Q rest (a.put o.dst (.bool (f kl))) w) :
    wpList P ops Q (o :: rest) a w := by
  refine wpList_plain hg fun K' hK' => ?_
  obtain ⟨D, hown, hD, hf⟩ := hset
  obtain ⟨v, ps, hrun, hv⟩ := hown.lookup K ht hz (plainElem_bool he false) hkey
  rw [hf kl] at hv
  have hvv : v = .bool (f kl) := by
    unfold plainElem at hv
    rw [he] at hv
    cases v <;> simp at hv
    obtain ⟨rfl, _⟩ := hv
    rfl
  unfold Oper.wp
  simp [execOp, hop, hm, hx, hrun, Result.andThen]
  exact hK' _ _ (hvv ▸ hK)
/-- 'm[k] = v' -/
theorem wpList_put_set {P : Program} (w : World) {ops : Array Oper} {rest : List Oper} {o : Oper} {a : Act} {Q : Exit → Act → World → Prop}
    (hg : o.guard = none) (m x v : Operand) (t : TypeId) (hop : o.op = Op.mapUpdate t m x v)
    (k e : TypeId) (K : Keyed P k) (ht : P.underlying t = some (.map k e)) (he : P.underlying e = some .bool) (b n : Nat) (f g : Lit → Bool)
    (hm : a.eval m = .map (some b)) (hset : InSet P k e w b n f) (hn : n < maxLen) (key : Value) (y : Bool) (kl : Lit) (hx : a.eval x = key) (hv : a.eval v = .bool y) (hkey : keyOf P k key = some kl)
    (hkl : WideAt.IsKeyLit kl) (hg1 : g kl = y) (hg2 : ∀ z, z ≠ kl → g z = f z)
    (hK : ∀ w', InSet P k e w' b (n + 1) g → w.grownBy w' (some b) → wpList P ops Q rest (a.put o.dst undef) w') :
    wpList P ops Q (o :: rest) a w := by
  obtain ⟨D, hown, hD, hf⟩ := hset
  refine wpList_mapUpdate_own w hg m x v t hop k e K ht _ b n D hm hown hn key (.bool y) kl hx hv hkey _ [] (plainElem_bool he y) ?_
  intro w' hown' hgrow
  exact hK w' (InSet.put hD hf hkl hg1 hg2 hown') hgrow
end Bal

/-
  A map of bools keyed by ints that a call has made itself, by the set of its keys; a loop over it. No program in sight.
-/
namespace Bal
open Go Go.RowKit Go.Maps
set_option linter.unusedVariables false
/-- block b is a map of at most n entries, whose keys are S -/
def InKeys (P : Program) (k e : TypeId) (w : World) (b n : Nat) (S : Int → Prop) : Prop :=
  ∃ D : DataW Unit, w.ownsMap P k (plainElem P e) b n D ∧ IsMap D ∧ ∀ x : Int, has D (.int .i64 x) = true ↔ S x
theorem InKeys.made {P : Program} {k e : TypeId} {w : World} {b : Nat} (hb : b = w.heap.size) : InKeys P k e (w.alloc (.map #[] 0)) b 0 (fun _ => False) := by
  subst hb
  exact ⟨.map [], World.ownsMap_made w P k _, isMap_empty, fun x => by simp [has]⟩
theorem InKeys.lt {P : Program} {k e : TypeId} {w : World} {b n : Nat} {S : Int → Prop} (h : InKeys P k e w b n S) : b < w.heap.size := by
  obtain ⟨D, h, _⟩ := h
  exact h.lt
theorem InKeys.keep {P : Program} {k e : TypeId} {w w' : World} {b n : Nat} {S : Int → Prop} (h : InKeys P k e w b n S) (hb : Kept w w') : InKeys P k e w' b n S := by
  have hl := h.lt
  obtain ⟨D, ⟨es, clock, hh, r⟩, h2⟩ := h
  exact ⟨D, ⟨es, clock, by rw [hb.block b hl]; exact hh, r⟩, h2⟩
theorem InKeys.other {P : Program} {k e : TypeId} {w : World} {b n m i : Nat} {S : Int → Prop} (h : InKeys P k e w b n S) (hm : m ≠ b) (u : Value) : InKeys P k e (w.setCell ⟨m, i, none⟩ u) b n S := by
  obtain ⟨D, h1, h2⟩ := h
  exact ⟨D, h1.setCell (a := ⟨m, i, none⟩) (fun e => hm e.symm) u, h2⟩
theorem InKeys.same {P : Program} {k e : TypeId} {w : World} {b n : Nat} {S T : Int → Prop} (h : InKeys P k e w b n S) (hs : ∀ x, S x ↔ T x) : InKeys P k e w b n T := by
  obtain ⟨D, h1, h2, h3⟩ := h
  exact ⟨D, h1, h2, fun x => (h3 x).trans (hs x)⟩
/-- 'm[x] = true' -/
theorem wpList_put_key {P : Program} (w : World) {ops : Array Oper} {rest : List Oper} {o : Oper} {a : Act} {Q : Exit → Act → World → Prop}
    (hg : o.guard = none) (m x v : Operand) (t : TypeId) (hop : o.op = Op.mapUpdate t m x v)
    (k e : TypeId) (K : Keyed P k) (ht : P.underlying t = some (.map k e)) (hk : P.underlying k = some (.int .i64)) (he : P.underlying e = some .bool) (b n : Nat) (S : Int → Prop)
    (hm : a.eval m = .map (some b)) (hset : InKeys P k e w b n S) (hn : n < maxLen) (y : Int) (hy : (Lit.int .i64 y).wf = true) (hx : a.eval x = .int .i64 y) (hv : a.eval v = .bool true)
    (hK : ∀ w', InKeys P k e w' b (n + 1) (fun z => S z ∨ z = y) → w.grownBy w' (some b) → wpList P ops Q rest (a.put o.dst undef) w') :
    wpList P ops Q (o :: rest) a w := by
  obtain ⟨D, hown, hD, hf⟩ := hset
  refine wpList_mapUpdate_own w hg m x v t hop k e K ht _ b n D hm hown hn (.int .i64 y) (.bool true) (.int .i64 y) hx hv (keyOf_int_mk hk hy) _ [] (plainElem_bool he true) ?_
  intro w' hown' hgrow
  refine hK w' ⟨_, hown', hD.put _ _, fun z => ?_⟩ hgrow
  by_cases hz : z = y
  · subst hz
    rw [has_put_same hD (k := .int .i64 z) trivial]
    simp
  · rw [has_put_other (by intro h; injection h with _ h; exact hz h)]
    rw [hf z]
    simp [hz]
/-- a loop over the keys: vs have come -/
def OnKeys (P : Program) (k e : TypeId) (w : World) (b r n : Nat) (S : Int → Prop) (cnt : Nat) (vs : List Int) : Prop :=
  ∃ (D : DataW Unit) (left : Lit → Bool), w.ranges P k (plainElem P e) b r n D left cnt ∧ (∀ x : Int, has D (.int .i64 x) = true ↔ S x) ∧ vs.Nodup ∧ ∀ x : Int, x ∈ vs ↔ S x ∧ left (.int .i64 x) = false
theorem OnKeys.keep {P : Program} {k e : TypeId} {w w' : World} {b r n cnt : Nat} {S : Int → Prop} {vs : List Int} (h : OnKeys P k e w b r n S cnt vs) (hb : Kept w w') : OnKeys P k e w' b r n S cnt vs := by
  obtain ⟨D, left, h1, h2⟩ := h
  have l1 := h1.lt
  have l2 := h1.owns.lt
  obtain ⟨es, clock, since, seen, c0, e1, e2, e3, e4, e5, e6⟩ := h1
  exact ⟨D, left, ⟨es, clock, since, seen, c0, by rw [hb.block b l2]; exact e1, e2, e3, e4, by rw [hb.block r l1]; exact e5, e6⟩, h2⟩
theorem OnKeys.left_eq {P : Program} {k e : TypeId} {w : World} {b r n cnt : Nat} {S : Int → Prop} {vs : List Int} (h : OnKeys P k e w b r n S cnt vs) : w.rangeLeft b r = cnt := by
  obtain ⟨D, left, h1, h2⟩ := h
  exact h1.left_eq
/-- 'range m' -/
theorem wpList_range_keys {P : Program} (w : World) {ops : Array Oper} {rest : List Oper} {o : Oper} {a : Act} {Q : Exit → Act → World → Prop}
    (hg : o.guard = none) (m : Operand) (t : TypeId) (hop : o.op = Op.range t m) (k e : TypeId) (K : Keyed P k) (ht : P.underlying t = some (.map k e)) (b n : Nat) (S : Int → Prop)
    (hm : a.eval m = .map (some b)) (hset : InKeys P k e w b n S)
    (hK : ∀ w' cnt, cnt ≤ n → OnKeys P k e w' b w.heap.size n S cnt [] → w.grownBy w' none → w'.heap.size = w.heap.size + 1 → wpList P ops Q rest (a.put o.dst (.pointer (some ⟨w.heap.size, 0, none⟩))) w') :
    wpList P ops Q (o :: rest) a w := by
  obtain ⟨D, hown, hD, hf⟩ := hset
  refine wpList_range_own w hg m t hop k e K ht (plainElem P e) b n D hm hown fun w' h1 h2 h3 => hK w' _ hown.size_le ⟨D, _, h1, hf, List.nodup_nil, fun x => ?_⟩ h2 h3
  constructor
  · intro h; cases h
  · rintro ⟨h4, h5⟩
    rw [(hf x).2 h4] at h5
    cases h5
/-- the step -/
theorem wpList_next_keys {P : Program} (w : World) {ops : Array Oper} {rest : List Oper} {o : Oper} {a : Act} {Q : Exit → Act → World → Prop}
    (hg : o.guard = none) (it : Operand) (hop : o.op = Op.next it false) (k e : TypeId) (K : Keyed P k) (hk : P.underlying k = some (.int .i64)) (he : P.underlying e = some .bool)
    (b r n : Nat) (S : Int → Prop) (cnt : Nat) (vs : List Int) (hit : a.eval it = .pointer (some ⟨r, 0, none⟩)) (h : OnKeys P k e w b r n S cnt vs)
    (hDone : (∀ x, x ∈ vs ↔ S x) → wpList P ops Q rest (a.put o.dst (.tuple #[.bool false])) w)
    (hMore : ∀ (x : Int) (c : Value) (w' : World) (cnt' : Nat), (Lit.int .i64 x).wf = true → S x → OnKeys P k e w' b r n S cnt' (vs ++ [x]) → cnt' < cnt → w.grownBy w' (some r) → w'.heap.size = w.heap.size →
      (Instr.entry (.pointer (some ⟨r, 0, none⟩))).run P w' = .ok (.tuple #[.int .i64 x, c]) w' → wpList P ops Q rest (a.put o.dst (.tuple #[.bool true, .int .i64 x, c])) w') :
    wpList P ops Q (o :: rest) a w := by
  obtain ⟨D, left, h1, h2, h3, h4⟩ := h
  refine wpList_next_ranges w hg it hop k K (plainElem P e) (Value.int .i64) Value.bool (fun key kl hkey => by obtain ⟨x, rfl, _⟩ := Maps.keyOf_int_inv hk hkey; exact ⟨x, rfl⟩)
    (fun v y hv => by unfold plainElem at hv; rw [he] at hv; cases v <;> simp at hv; exact ⟨_, rfl⟩) b r n D left cnt hit h1 (fun _ hl => hDone fun x => ?_) ?_
  · rw [h4 x]; simp [hl]
  · intro x c kl y w' cnt' hkey hlk hv hat hrg hlt hgr hsz hen
    obtain ⟨x', ex, rfl, hwx⟩ := Maps.keyOf_int_inv hk hkey
    cases ex
    have hS : S x := (h2 x).1 (has_true_of_atKey hat)
    refine hMore x (.bool c) w' cnt' hwx hS ⟨D, _, hrg, h2, ?_, fun z => ?_⟩ hlt hgr hsz hen
    · rw [List.nodup_append]
      refine ⟨h3, by simp, fun u hu v hv => ?_⟩
      have hv : v = x := by simpa using hv
      subst hv
      rintro rfl
      have := ((h4 u).1 hu).2
      rw [hlk] at this
      cases this
    · rw [List.mem_append, h4 z, List.mem_singleton]
      by_cases hz : z = x
      · subst hz
        simp [hS, Lit.sameKey]
      · simp [hz, Lit.sameKey]
end Bal

/-
  GasExact: each amount in a span can be: the walk.
-/
namespace Go.Proofs.Ytemafanncejeiaa
open Go.RowKit Bal Bal.Trim Bal.Gas
set_option linter.unusedVariables false
set_option linter.unusedSimpArgs false
set_option maxHeartbeats 4000000
set_option maxRecDepth 100000

/-- the region of a number, in a code -/
def regOf : Code → Nat → Option Code
  | .region id ops d, n => if id = n then some (.region id ops d) else none
  | .seq a b, n => (regOf a n).or (regOf b n)
  | .cond _ a b, n => (regOf a n).or (regOf b n)
  | .block _ b, n => regOf b n
  | .loop b, n => regOf b n
  | .scope b, n => regOf b n
  | .rangeFunc _ _ a b, n => (regOf a n).or (regOf b n)
  | _, _ => none
/-- the block of a number, in a code -/
def blkOf : Code → Nat → Option Code
  | .seq a b, n => (blkOf a n).or (blkOf b n)
  | .cond _ a b, n => (blkOf a n).or (blkOf b n)
  | .block id b, n => if id = n then some (.block id b) else blkOf b n
  | .loop b, n => blkOf b n
  | .scope b, n => blkOf b n
  | .rangeFunc _ _ a b, n => (blkOf a n).or (blkOf b n)
  | _, _ => none
/-- the 'if' on a slot, in a code -/
def cndOf : Code → Nat → Option Code
  | .seq a b, n => (cndOf a n).or (cndOf b n)
  | .cond (.tmp t) a b, n => if t = n then some (.cond (.tmp t) a b) else (cndOf a n).or (cndOf b n)
  | .cond _ a b, n => (cndOf a n).or (cndOf b n)
  | .block _ b, n => cndOf b n
  | .loop b, n => cndOf b n
  | .scope b, n => cndOf b n
  | .rangeFunc _ _ a b, n => (cndOf a n).or (cndOf b n)
  | _, _ => none

/-- what the gauges allow of the one cell -/
def mayL (h : Hist) : Nat → List Sp
  | 0 => []
  | k + 1 => mayL h k ++ [⟨alLo h k 0, alHi h k 0⟩]
theorem mayL_len (h : Hist) : ∀ k, (mayL h k).length = k
  | 0 => rfl
  | k + 1 => by rw [mayL, List.length_append, mayL_len h k]; rfl

theorem seg_may {s0 s1 s4 s6 s9 s10 s11 s12 s13 s14 s15 s16 s17 s18 s19 s20 s21 s22 s23 s24 s25 s26 s27 s28 s29 s30 s31 s32 s33 s34 s35 s36 s37 s38 s39 s40 s41 s42 s43 s44 s45 s46 s47 s48 s49 s50 s51 s52 s53 s54 s55 s56 s57 s58 s59 s60 s61 s62 s63 s66 s67 s68 s69 s70 s71 s72 s73 s74 s75 s76 s77 s78 s79 s80 s81 s82 s83 s84 s85 s86 s87 s88 s89 s90 s91 s92 s93 s94 s95 s96 s97 s98 s99 s100 s101 s102 s103 s104 s105 s106 s107 s108 s109 s110 s111 s112 s113 s114 s115 s116 s117 s118 s119 s120 s121 s122 s123 s124 s125 s126 s127 s128 s129 s130 s131 s132 s133 s134 s135 s136 s137 s138 s139 s140 s141 s142 s143 s144 s145 s146 s147 s148 s149 s150 s151 s152 s153 s154 s155 s156 s157 s158 s159 s160 s161 s162 s163 s164 s165 s166 s167 s168 s169 s170 s171 s172 s173 s174 s175 s176 s177 s178 s179 s180 s181 s182 s183 s184 s185 s186 s187 s188 s189 s190 s191 s192 s193 s194 s195 s196 s197 s198 s199 s200 s201 s202 s203 s204 s205 s206 s207 s208 s209 s210 s211 s212 s213 s214 s215 s216 s217 s218 s219 s220 s221 s222 s223 s224 s225 s226 s227 s228 s229 s230 s231 s232 s233 s234 s235 : Value} {h : Hist} {s : Bal.Gas.Spot} {w : World} {tx ty E : Int} {w9 : World} (C : Code) (hC : (Try.f15.body.bind fun c => blkOf c 0) = some C) (Q : Exit → Act → World → Prop) (hg3 : h.gauges.length ≤ 3) (hal : ∀ i, i < h.gauges.length → 0 ≤ alLo h i 0 ∧ 0 ≤ alHi h i 0 ∧ alLo h i 0 ≤ 120000000000 ∧ alHi h i 0 ≤ 120000000000) (hbad : ∀ i, i < h.gauges.length → alHi h i 0 < alLo h i 0 → E = 6) (hA : ∀ i, i < h.gauges.length → ∀ W, Kept w W → Calls Try.prog 56 #[.agg #[.slice s.aw h.warm.length s.cw, .slice s.ag h.gauges.length s.cg, .slice s.af h.flows.length s.cf], .int .i64 i, .int .i64 0] W fun e w' => e = .returned (.tuple #[.agg #[.int .i64 (Bal.Gas.ifOk (amtE h i 0) (alLo h i 0)), .int .i64 (Bal.Gas.ifOk (amtE h i 0) (alHi h i 0))], .int .i64 (amtE h i 0)]) ∧ Kept W w') (hE : ∀ i, i < h.gauges.length → amtE h i 0 = if alHi h i 0 < alLo h i 0 then 6 else 0) (q2 : Blk w9 w.heap.size #[.slice s.aw h.warm.length s.cw, .slice s.ag h.gauges.length s.cg, .slice s.af h.flows.length s.cf] 85) (q3 : Blk w9 (w.heap.size + 1) #[.int .i64 tx, .int .i64 ty] 23) (hk : Kept w w9) (hR : ∀ (u8 u9 u10 u11 u65 u66 u67 u68 u69 u70 u71 u72 u73 u74 u75 u76 u77 u78 u79 u80 u81 u82 u83 u84 u85 u86 u87 u88 u89 u90 u91 u92 u93 u94 u95 u96 u97 u98 u99 u100 u101 : Value) (wc : World), Kept w wc → Q .ret ⟨#[s0, s1, .pointer (some ⟨w.heap.size, 0, none⟩), .pointer (some ⟨w.heap.size + 1, 0, none⟩), .bool true, .bool true, s6, .int .i64 E, u8, u9, u10, u11, s12, s13, s14, s15, s16, s17, s18, s19, s20, s21, s22, s23, s24, s25, s26, s27, s28, s29, s30, s31, s32, s33, s34, s35, s36, s37, s38, s39, s40, s41, s42, s43, s44, s45, s46, s47, s48, s49, s50, s51, s52, s53, s54, s55, s56, s57, s58, s59, s60, s61, s62, s63, .int .i64 h.gauges.length, u65, u66, u67, u68, u69, u70, u71, u72, u73, u74, u75, u76, u77, u78, u79, u80, u81, u82, u83, u84, u85, u86, u87, u88, u89, u90, u91, u92, u93, u94, u95, u96, u97, u98, u99, u100, u101, s102, s103, s104, s105, s106, s107, s108, s109, s110, s111, s112, s113, s114, s115, s116, s117, s118, s119, s120, s121, s122, s123, s124, s125, s126, s127, s128, s129, s130, s131, s132, s133, s134, s135, s136, s137, s138, s139, s140, s141, s142, s143, s144, s145, s146, s147, s148, s149, s150, s151, s152, s153, s154, s155, s156, s157, s158, s159, s160, s161, s162, s163, s164, s165, s166, s167, s168, s169, s170, s171, s172, s173, s174, s175, s176, s177, s178, s179, s180, s181, s182, s183, s184, s185, s186, s187, s188, s189, s190, s191, s192, s193, s194, s195, s196, s197, s198, s199, s200, s201, s202, s203, s204, s205, s206, s207, s208, s209, s210, s211, s212, s213, s214, s215, s216, s217, s218, s219, s220, s221, s222, s223, s224, s225, s226, s227, s228, s229, s230, s231, s232, s233, s234, s235], []⟩ wc)
    (hK : ∀ (adM : Option Addr) (cpM : Nat) (u4 u9 u10 u11 u65 u66 u67 u68 u69 u70 u71 u72 u73 u74 u75 u76 u77 u78 u79 u80 u81 u82 u83 u84 u85 u86 u87 u88 u89 u90 u91 u92 u93 u94 u95 u96 u97 u98 u99 u100 u101 : Value) (wc : World), ((∀ i, i < h.gauges.length → alLo h i 0 ≤ alHi h i 0 ∧ alHi h i 0 ≤ alLo h i 0 + 20) ∧ wc.ownsRow w9.heap.size 23 2 (.slice adM h.gauges.length cpM) h.gauges.length ((mayL h h.gauges.length).flatMap Sp.cells) ∧ Blk wc w.heap.size #[.slice s.aw h.warm.length s.cw, .slice s.ag h.gauges.length s.cg, .slice s.af h.flows.length s.cf] 85 ∧ Blk wc (w.heap.size + 1) #[.int .i64 tx, .int .i64 ty] 23 ∧ Kept w9 wc) → Q .normal ⟨#[s0, s1, .pointer (some ⟨w.heap.size, 0, none⟩), .pointer (some ⟨w.heap.size + 1, 0, none⟩), u4, .bool true, s6, .int .i64 E, .slice adM h.gauges.length cpM, u9, u10, u11, s12, s13, s14, s15, s16, s17, s18, s19, s20, s21, s22, s23, s24, s25, s26, s27, s28, s29, s30, s31, s32, s33, s34, s35, s36, s37, s38, s39, s40, s41, s42, s43, s44, s45, s46, s47, s48, s49, s50, s51, s52, s53, s54, s55, s56, s57, s58, s59, s60, s61, s62, s63, .int .i64 h.gauges.length, u65, u66, u67, u68, u69, u70, u71, u72, u73, u74, u75, u76, u77, u78, u79, u80, u81, u82, u83, u84, u85, u86, u87, u88, u89, u90, u91, u92, u93, u94, u95, u96, u97, u98, u99, u100, u101, s102, s103, s104, s105, s106, s107, s108, s109, s110, s111, s112, s113, s114, s115, s116, s117, s118, s119, s120, s121, s122, s123, s124, s125, s126, s127, s128, s129, s130, s131, s132, s133, s134, s135, s136, s137, s138, s139, s140, s141, s142, s143, s144, s145, s146, s147, s148, s149, s150, s151, s152, s153, s154, s155, s156, s157, s158, s159, s160, s161, s162, s163, s164, s165, s166, s167, s168, s169, s170, s171, s172, s173, s174, s175, s176, s177, s178, s179, s180, s181, s182, s183, s184, s185, s186, s187, s188, s189, s190, s191, s192, s193, s194, s195, s196, s197, s198, s199, s200, s201, s202, s203, s204, s205, s206, s207, s208, s209, s210, s211, s212, s213, s214, s215, s216, s217, s218, s219, s220, s221, s222, s223, s224, s225, s226, s227, s228, s229, s230, s231, s232, s233, s234, s235], []⟩ wc) : C.wp Try.prog Q ⟨#[s0, s1, .pointer (some ⟨w.heap.size, 0, none⟩), .pointer (some ⟨w.heap.size + 1, 0, none⟩), s4, .bool true, s6, .int .i64 E, .slice none 0 0, s9, s10, s11, s12, s13, s14, s15, s16, s17, s18, s19, s20, s21, s22, s23, s24, s25, s26, s27, s28, s29, s30, s31, s32, s33, s34, s35, s36, s37, s38, s39, s40, s41, s42, s43, s44, s45, s46, s47, s48, s49, s50, s51, s52, s53, s54, s55, s56, s57, s58, s59, s60, s61, s62, s63, .int .i64 h.gauges.length, .int .i64 0, s66, s67, s68, s69, s70, s71, s72, s73, s74, s75, s76, s77, s78, s79, s80, s81, s82, s83, s84, s85, s86, s87, s88, s89, s90, s91, s92, s93, s94, s95, s96, s97, s98, s99, s100, s101, s102, s103, s104, s105, s106, s107, s108, s109, s110, s111, s112, s113, s114, s115, s116, s117, s118, s119, s120, s121, s122, s123, s124, s125, s126, s127, s128, s129, s130, s131, s132, s133, s134, s135, s136, s137, s138, s139, s140, s141, s142, s143, s144, s145, s146, s147, s148, s149, s150, s151, s152, s153, s154, s155, s156, s157, s158, s159, s160, s161, s162, s163, s164, s165, s166, s167, s168, s169, s170, s171, s172, s173, s174, s175, s176, s177, s178, s179, s180, s181, s182, s183, s184, s185, s186, s187, s188, s189, s190, s191, s192, s193, s194, s195, s196, s197, s198, s199, s200, s201, s202, s203, s204, s205, s206, s207, s208, s209, s210, s211, s212, s213, s214, s215, s216, s217, s218, s219, s220, s221, s222, s223, s224, s225, s226, s227, s228, s229, s230, s231, s232, s233, s234, s235], []⟩ w9 := by
  have e0 : (Try.f15.body.bind fun c => blkOf c 0) = some (.block 0 _) := rfl
  rw [e0] at hC
  cases hC
  clear e0
  try dsimp only at hK ⊢
  have HAL := Lib.hid hal
  have HBAD := Lib.hid hbad
  have HE := Lib.hid hE
  have KA := Lib.hid hA
  have hz := q3.lt
  clear hal hbad hE hA
  go_wp2
  go_loopw [8, 65] (fun v i wr => ∃ k : Nat, k ≤ h.gauges.length ∧ i = .int .i64 k ∧ (∀ i, i < k → alLo h i 0 ≤ alHi h i 0 ∧ alHi h i 0 ≤ alLo h i 0 + 20) ∧ wr.ownsRow w9.heap.size 23 2 v k ((mayL h k).flatMap Sp.cells) ∧ Blk wr w.heap.size #[.slice s.aw h.warm.length s.cw, .slice s.ag h.gauges.length s.cg, .slice s.af h.flows.length s.cf] 85 ∧ Blk wr (w.heap.size + 1) #[.int .i64 tx, .int .i64 ty] 23 ∧ w9.heap.size ≤ wr.heap.size ∧ Kept w9 wr) (fun _ i _ => h.gauges.length - (intOf i).toNat)
  case atStart => exact ⟨0, Nat.zero_le _, rfl, fun i hi => by omega, owns_nil (α := Sp) (enc := Sp.cells), q2, q3, Nat.le_refl _, Below.refl _ _⟩
  case round =>
    clear q2 q3
    obtain ⟨k, hkn, rfl, hgood, hown, q2, q3, hsz, hk9w⟩ := hrel
    have HGOOD := Lib.hid hgood
    clear hgood
    by_cases hlt : k < h.gauges.length
    · obtain ⟨l0, l1, l2, l3⟩ := HAL.out k hlt
      have hek := HE.out k hlt
      obtain ⟨AL, hAL⟩ : ∃ n, n = alLo h k 0 := ⟨_, rfl⟩
      obtain ⟨AH, hAH⟩ : ∃ n, n = alHi h k 0 := ⟨_, rfl⟩
      have q2c0 := q2.cell 0
      have q2f0 := q2.free 0
      have q2c1 := q2.cell 1
      have q2f1 := q2.free 1
      have q2c2 := q2.cell 2
      have q2f2 := q2.free 2
      have q2l := q2.lt
      simp at q2c0 q2c1 q2c2
      have q3c0 := q3.cell 0
      have q3f0 := q3.free 0
      have q3c1 := q3.cell 1
      have q3f1 := q3.free 1
      have q3l := q3.lt
      simp at q3c0 q3c1
      by_cases hb : alHi h k 0 < alLo h k 0
      · have hE6 := HBAD.out k hlt hb
        rw [if_pos hb] at hek
        have KA := Lib.hid (fun W hW => by have := KA.out k hlt W hW; rw [hek] at this; exact this)
        subst hE6
        clear hb hek hAL hAH
        go_wp2_with (go_at_call 56; (with_reducible refine (KA.out _ (by exact kpt)).mono ?_); rintro e w1 ⟨rfl, hb1⟩; have hz1 : wr.heap.size ≤ w1.heap.size := hb1.size; refine Blk.thru (b := w.heap.size) (arr := ?_) (t := ?_) ?_ hb1 ?_; rotate_left 2; (focus (exact blk)); intro n2; have n2c0 := n2.cell 0; have n2f0 := n2.free 0; have n2c1 := n2.cell 1; have n2f1 := n2.free 1; have n2c2 := n2.cell 2; have n2f2 := n2.free 2; have n2l := n2.lt; simp at n2c0 n2c1 n2c2; refine Blk.thru (b := (w.heap.size + 1)) (arr := ?_) (t := ?_) ?_ hb1 ?_; rotate_left 2; (focus (exact blk)); intro n3; have n3c0 := n3.cell 0; have n3f0 := n3.free 0; have n3c1 := n3.cell 1; have n3f1 := n3.free 1; have n3l := n3.lt; simp at n3c0 n3c1)
        exact hR _ _ _ _ _ _ _ _ _ _ _ _ _ _ _ _ _ _ _ _ _ _ _ _ _ _ _ _ _ _ _ _ _ _ _ _ _ _ _ _ _ _ (by exact kpt)
      · rw [if_neg hb] at hek
        have KA := Lib.hid (show ∀ W, Kept w W → Calls Try.prog 56 #[.agg #[.slice s.aw h.warm.length s.cw, .slice s.ag h.gauges.length s.cg, .slice s.af h.flows.length s.cf], .int .i64 k, .int .i64 0] W fun e w' => e = .returned (.tuple #[.agg #[.int .i64 AL, .int .i64 AH], .int .i64 0]) ∧ Kept W w' from fun W hW => by have := KA.out k hlt W hW; rw [hek, ← hAL, ← hAH] at this; exact this)
        rw [← hAL, ← hAH] at hb
        rw [← hAL] at l0 l2
        rw [← hAH] at l1 l3
        have d1 : decide (AH < AL) = false := by simp; omega
        have w1 := i64_inH (n := AH - AL) (by omega)
        have HML := Lib.hid (show mayL h (k + 1) = mayL h k ++ [⟨AL, AH⟩] by rw [hAL, hAH]; rfl)
        by_cases h20 : 20 < AH - AL
        · have d2 : decide (20 < AH - AL) = true := by simp [h20]
          clear hb hek h20 hAL hAH
          go_wp2_with (go_at_call 56; (with_reducible refine (KA.out _ (by exact kpt)).mono ?_); rintro e w1 ⟨rfl, hb1⟩; have hz1 : wr.heap.size ≤ w1.heap.size := hb1.size; refine Blk.thru (b := w.heap.size) (arr := ?_) (t := ?_) ?_ hb1 ?_; rotate_left 2; (focus (exact blk)); intro n2; have n2c0 := n2.cell 0; have n2f0 := n2.free 0; have n2c1 := n2.cell 1; have n2f1 := n2.free 1; have n2c2 := n2.cell 2; have n2f2 := n2.free 2; have n2l := n2.lt; simp at n2c0 n2c1 n2c2; refine Blk.thru (b := (w.heap.size + 1)) (arr := ?_) (t := ?_) ?_ hb1 ?_; rotate_left 2; (focus (exact blk)); intro n3; have n3c0 := n3.cell 0; have n3f0 := n3.free 0; have n3c1 := n3.cell 1; have n3f1 := n3.free 1; have n3l := n3.lt; simp at n3c0 n3c1)
          exact hR _ _ _ _ _ _ _ _ _ _ _ _ _ _ _ _ _ _ _ _ _ _ _ _ _ _ _ _ _ _ _ _ _ _ _ _ _ _ _ _ _ _ (by exact kpt)
        · have d2 : decide (20 < AH - AL) = false := by simp; omega
          have HG := Lib.hid (show ∀ i, i < k + 1 → alLo h i 0 ≤ alHi h i 0 ∧ alHi h i 0 ≤ alLo h i 0 + 20 from fun i hi => by
            by_cases e : i < k
            · exact HGOOD.out i e
            · obtain rfl : i = k := by omega
              omega)
          clear hb hek h20 hAL hAH
          go_wp2_with (first | (go_at_call 56; (with_reducible refine (KA.out _ (by exact kpt)).mono ?_); rintro e w1 ⟨rfl, hb1⟩; have hz1 : wr.heap.size ≤ w1.heap.size := hb1.size; refine Blk.thru (b := w.heap.size) (arr := ?_) (t := ?_) ?_ hb1 ?_; rotate_left 2; (focus (exact blk)); intro n2; have n2c0 := n2.cell 0; have n2f0 := n2.free 0; have n2c1 := n2.cell 1; have n2f1 := n2.free 1; have n2c2 := n2.cell 2; have n2f2 := n2.free 2; have n2l := n2.lt; simp at n2c0 n2c1 n2c2; refine Blk.thru (b := (w.heap.size + 1)) (arr := ?_) (t := ?_) ?_ hb1 ?_; rotate_left 2; (focus (exact blk)); intro n3; have n3c0 := n3.cell 0; have n3f0 := n3.free 0; have n3c1 := n3.cell 1; have n3f1 := n3.free 1; have n3l := n3.lt; simp at n3c0 n3c1) | (at_builtin; (obtain ⟨i0, hi, hz0, hz1, hz2⟩ := info_parts infoSp; refine wpList_append_own _ rfl _ _ 81 rfl (w9.heap.size) 23 i0 (.agg #[.int .i64 0, .int .i64 0]) 2 16 Try.underlying81 hi hz0 hz1 hz2 rfl (by decide) _ _ _ rfl ((owns_keep hown (by exact kpt))) ⟨_, 0, none⟩ 1 1 [.int .i64 AL, .int .i64 AH] rfl rfl (cells_at (by simp) _ _) (fun x hx => by simp at hx; rcases hx with rfl | rfl <;> rfl) (by unfold maxLen; omega) (by omega) (by simp; omega) ?_; intro v9 w9_ hown9 hgrow9 hnil9; clear hi hz0 hz1 hz2 hnil9; obtain ⟨ad9, cp9, rfl⟩ := owns_shape hown9; have m2 := Blk.grownLt (b := w.heap.size) (arr := #[.slice s.aw h.warm.length s.cw, .slice s.ag h.gauges.length s.cg, .slice s.af h.flows.length s.cf]) (t := 85) (by exact blkd) (by omega) (owns_keep hown (by exact kpt)) hgrow9; have m3 := Blk.grownLt (b := w.heap.size + 1) (arr := #[.int .i64 tx, .int .i64 ty]) (t := 23) (by exact blkd) (by omega) (owns_keep hown (by exact kpt)) hgrow9; have hk9 : Kept w9 w9_ := Kept.grown (by exact kpt) (owns_keep hown (by exact kpt)) (Nat.le_refl _) hgrow9)))
          go_round
          case rel => exact ⟨k + 1, by omega, by go_num, HG.out, by rw [HML.out, List.flatMap_append]; exact hown9, m2, m3, by have := hgrow9.size; simp at this; omega, hk9⟩
          case measure => simp [intOf]; omega
    · obtain rfl : k = h.gauges.length := by omega
      obtain ⟨ad, cp, rfl⟩ := owns_shape hown
      go_wp2
      exact ⟨HGOOD.out, hown, q2, q3, hk9w⟩

theorem wf_in64 (n : Int) (h : -9223372036854775808 ≤ n ∧ n ≤ 9223372036854775807) : (Lit.int .i64 n).wf = true := by
  have e1 : IntKind.min .i64 = -9223372036854775808 := by decide
  have e2 : IntKind.max .i64 = 9223372036854775807 := by decide
  simp only [Lit.wf, Bool.and_eq_true, decide_eq_true_eq, e1, e2]
  exact h
theorem keyedIn : Go.Maps.Keyed Try.prog 3 := Go.Maps.int_keyed Try.underlying3
/-- what has been found when the first gauge's amounts below x are done (two gauges) -/
def Q2 (a c d F x : Int) (n : Int) : Prop := ∃ u v : Int, (a ≤ u ∧ u < x) ∧ (c ≤ v ∧ v ≤ d) ∧ v ≤ u + F ∧ n = u + F - v
def R2_ (a c d F x y : Int) (n : Int) : Prop := Q2 a c d F x n ∨ ∃ v : Int, (c ≤ v ∧ v < y) ∧ v ≤ x + F ∧ n = x + F - v
def Q3 (a c d e f F G x : Int) (n : Int) : Prop := ∃ u v w : Int, (a ≤ u ∧ u < x) ∧ (c ≤ v ∧ v ≤ d) ∧ (e ≤ w ∧ w ≤ f) ∧ v ≤ u + F ∧ w ≤ v + G ∧ n = u + F + G - w
def R3_ (a c d e f F G x y : Int) (n : Int) : Prop := Q3 a c d e f F G x n ∨ ∃ v w : Int, (c ≤ v ∧ v < y) ∧ (e ≤ w ∧ w ≤ f) ∧ v ≤ x + F ∧ w ≤ v + G ∧ n = x + F + G - w
def T3_ (a c d e f F G x y z : Int) (n : Int) : Prop := R3_ a c d e f F G x y n ∨ ∃ w : Int, (e ≤ w ∧ w < z) ∧ w ≤ y + G ∧ n = x + F + G - w
theorem Q2_zero (a c d F n : Int) : (False ↔ Q2 a c d F a n) := ⟨False.elim, fun ⟨u, v, h, _⟩ => by omega⟩
theorem R2_zero (a c d F x n : Int) : (Q2 a c d F x n ↔ R2_ a c d F x c n) := ⟨.inl, fun h => h.elim id fun ⟨v, h, _⟩ => by omega⟩
theorem R2_skip (a c d F x y n : Int) (h : x + F < y) : (R2_ a c d F x y n ↔ R2_ a c d F x (y + 1) n) := by
  constructor
  · rintro (h1 | ⟨v, h1, h2, h3⟩)
    · exact .inl h1
    · exact .inr ⟨v, by omega, h2, h3⟩
  · rintro (h1 | ⟨v, h1, h2, h3⟩)
    · exact .inl h1
    · exact .inr ⟨v, by omega, h2, h3⟩
theorem R2_put (a c d F x y n : Int) (h : ¬ x + F < y) (hc : c ≤ y) : (R2_ a c d F x y n ∨ n = x + F - y) ↔ R2_ a c d F x (y + 1) n := by
  constructor
  · rintro ((h1 | ⟨v, h1, h2, h3⟩) | h1)
    · exact .inl h1
    · exact .inr ⟨v, by omega, h2, h3⟩
    · exact .inr ⟨y, by omega, by omega, h1⟩
  · rintro (h1 | ⟨v, h1, h2, h3⟩)
    · exact .inl (.inl h1)
    · by_cases e : v = y
      · subst e; exact .inr h3
      · exact .inl (.inr ⟨v, by omega, h2, h3⟩)
theorem R2_end (a c d F x y n : Int) (h : d < y) (h2 : y ≤ d + 1) (ha : a ≤ x) : (R2_ a c d F x y n ↔ Q2 a c d F (x + 1) n) := by
  constructor
  · rintro (⟨u, v, h1, h2, h3, h4⟩ | ⟨v, h1, h2, h3⟩)
    · exact ⟨u, v, by omega, h2, h3, h4⟩
    · exact ⟨x, v, by omega, by omega, h2, h3⟩
  · rintro ⟨u, v, h1, h2, h3, h4⟩
    by_cases e : u = x
    · subst e; exact .inr ⟨v, by omega, h3, h4⟩
    · exact .inl ⟨u, v, by omega, h2, h3, h4⟩
theorem Q2_end (a b c d F x n : Int) (h : b < x) (h2 : x ≤ b + 1) : (Q2 a c d F x n ↔ Lost2 a b c d F n) := by
  constructor
  · rintro ⟨u, v, h1, h2, h3, h4⟩; exact ⟨u, v, by omega, h2, h3, h4⟩
  · rintro ⟨u, v, h1, h2, h3, h4⟩; exact ⟨u, v, by omega, h2, h3, h4⟩
theorem Q3_zero (a c d e f F G n : Int) : (False ↔ Q3 a c d e f F G a n) := ⟨False.elim, fun ⟨u, v, w, h, _⟩ => by omega⟩
theorem R3_zero (a c d e f F G x n : Int) : (Q3 a c d e f F G x n ↔ R3_ a c d e f F G x c n) := ⟨.inl, fun h => h.elim id fun ⟨v, w, h, _⟩ => by omega⟩
theorem R3_skip (a c d e f F G x y n : Int) (h : x + F < y) : (R3_ a c d e f F G x y n ↔ R3_ a c d e f F G x (y + 1) n) := by
  constructor
  · rintro (h1 | ⟨v, w, h1, h2, h3, h4, h5⟩)
    · exact .inl h1
    · exact .inr ⟨v, w, by omega, h2, h3, h4, h5⟩
  · rintro (h1 | ⟨v, w, h1, h2, h3, h4, h5⟩)
    · exact .inl h1
    · exact .inr ⟨v, w, by omega, h2, h3, h4, h5⟩
theorem T3_zero (a c d e f F G x y n : Int) : (R3_ a c d e f F G x y n ↔ T3_ a c d e f F G x y e n) := ⟨.inl, fun h => h.elim id fun ⟨v, h, _⟩ => by omega⟩
theorem T3_skip (a c d e f F G x y z n : Int) (h : ¬ z ≤ y + G) : (T3_ a c d e f F G x y z n ↔ T3_ a c d e f F G x y (z + 1) n) := by
  constructor
  · rintro (h1 | ⟨v, h1, h2, h3⟩)
    · exact .inl h1
    · exact .inr ⟨v, by omega, h2, h3⟩
  · rintro (h1 | ⟨v, h1, h2, h3⟩)
    · exact .inl h1
    · exact .inr ⟨v, by omega, h2, h3⟩
theorem T3_put (a c d e f F G x y z n : Int) (h : z ≤ y + G) (he : e ≤ z) : (T3_ a c d e f F G x y z n ∨ n = x + F + G - z) ↔ T3_ a c d e f F G x y (z + 1) n := by
  constructor
  · rintro ((h1 | ⟨v, h1, h2, h3⟩) | h1)
    · exact .inl h1
    · exact .inr ⟨v, by omega, h2, h3⟩
    · exact .inr ⟨z, by omega, by omega, h1⟩
  · rintro (h1 | ⟨v, h1, h2, h3⟩)
    · exact .inl (.inl h1)
    · by_cases e : v = z
      · subst e; exact .inr h3
      · exact .inl (.inr ⟨v, by omega, h2, h3⟩)
theorem T3_end (a c d e f F G x y z n : Int) (h : f < z) (h2 : z ≤ f + 1) (hc : c ≤ y) (hy : ¬ x + F < y) : (T3_ a c d e f F G x y z n ↔ R3_ a c d e f F G x (y + 1) n) := by
  constructor
  · rintro ((h1 | ⟨v, w, h1, h2, h3, h4, h5⟩) | ⟨w, h1, h2, h3⟩)
    · exact .inl h1
    · exact .inr ⟨v, w, by omega, h2, h3, h4, h5⟩
    · exact .inr ⟨y, w, by omega, by omega, by omega, h2, h3⟩
  · rintro (h1 | ⟨v, w, h1, h2, h3, h4, h5⟩)
    · exact .inl (.inl h1)
    · by_cases e : v = y
      · subst e; exact .inr ⟨w, by omega, h4, h5⟩
      · exact .inl (.inr ⟨v, w, by omega, h2, h3, h4, h5⟩)
theorem R3_end (a c d e f F G x y n : Int) (h : d < y) (h2 : y ≤ d + 1) (ha : a ≤ x) : (R3_ a c d e f F G x y n ↔ Q3 a c d e f F G (x + 1) n) := by
  constructor
  · rintro (⟨u, v, w, h1, h2, h3, h4, h5, h6⟩ | ⟨v, w, h1, h2, h3, h4, h5⟩)
    · exact ⟨u, v, w, by omega, h2, h3, h4, h5, h6⟩
    · exact ⟨x, v, w, by omega, by omega, h2, h3, h4, h5⟩
  · rintro ⟨u, v, w, h1, h2, h3, h4, h5, h6⟩
    by_cases e : u = x
    · subst e; exact .inr ⟨v, w, by omega, h3, h4, h5, h6⟩
    · exact .inl ⟨u, v, w, by omega, h2, h3, h4, h5, h6⟩
theorem Q3_end (a b c d e f F G x n : Int) (h : b < x) (h2 : x ≤ b + 1) : (Q3 a c d e f F G x n ↔ Lost3 a b c d e f F G n) := by
  constructor
  · rintro ⟨u, v, w, h1, h2, h3, h4⟩; exact ⟨u, v, w, by omega, h2, h3, h4⟩
  · rintro ⟨u, v, w, h1, h2, h3, h4⟩; exact ⟨u, v, w, by omega, h2, h3, h4⟩

theorem seg_lost2 {s0 s1 s2 s4 s6 s7 s9 s10 s11 s14 s16 s17 s18 s19 s20 s21 s22 s23 s24 s25 s26 s27 s28 s29 s30 s31 s32 s33 s34 s35 s36 s37 s38 s39 s40 s41 s42 s43 s44 s45 s46 s47 s48 s49 s50 s51 s52 s53 s54 s55 s56 s57 s58 s59 s60 s61 s62 s63 s64 s65 s66 s67 s68 s69 s70 s71 s72 s73 s74 s75 s76 s77 s78 s79 s80 s81 s82 s83 s84 s85 s86 s87 s88 s89 s90 s91 s92 s93 s94 s95 s96 s97 s98 s99 s100 s101 s102 s103 s104 s105 s106 s107 s108 s109 s110 s111 s112 s113 s114 s115 s116 s117 s118 s119 s120 s121 s122 s123 s124 s125 s126 s127 s128 s129 s130 s131 s132 s133 s134 s135 s136 s137 s138 s139 s140 s141 s142 s143 s144 s145 s146 s147 s148 s149 s150 s151 s152 s153 s154 s155 s156 s157 s158 s159 s160 s161 s162 s163 s164 s165 s166 s167 s168 s169 s170 s171 s172 s173 s174 s175 s176 s177 s178 s179 s180 s181 s182 s183 s184 s185 s186 s187 s188 s189 s190 s191 s192 s193 s194 s195 s196 s197 s198 s199 s200 s201 s202 s203 s204 s205 s206 s207 s208 s209 s210 s211 s212 s213 s214 s215 s216 s217 s218 s219 s220 s221 s222 s223 s224 s225 s226 s227 s228 s229 s230 s231 s232 s233 s234 s235 : Value} {w Z : World} {gM bm cpM : Nat} {curM : Array Value} {a b c d F : Int} {tx ty : Int} {w9 : World} (C : Code) (hC : (Try.f15.body.bind fun c => blkOf c 2) = some C) (Q : Exit → Act → World → Prop) (hcp : 2 ≤ cpM) (hcm : cpM ≤ maxLen) (m0 : curM[0]? = some (.int .i64 a)) (m1 : curM[1]? = some (.int .i64 b)) (m2 : curM[2]? = some (.int .i64 c)) (m3 : curM[3]? = some (.int .i64 d)) (l0 : 0 ≤ a ∧ a ≤ b ∧ b ≤ a + 20 ∧ b ≤ 120000000000) (l1 : 0 ≤ c ∧ c ≤ d ∧ d ≤ c + 20 ∧ d ≤ 120000000000) (lF : -1000000000 ≤ F ∧ F ≤ 1000000000) (hne1 : gM ≠ bm) (hne2 : w.heap.size + 1 ≠ bm) (hbm : Z.heap.size ≤ bm) (hin : InKeys Try.prog 3 4 w9 bm 0 (fun _ => False)) (qM : Blk w9 gM curM 23) (q3 : Blk w9 (w.heap.size + 1) #[.int .i64 tx, .int .i64 ty] 23) (hk : Kept Z w9)
    (hK : ∀  (u15 u16 u17 u114 u115 u116 u117 u118 u119 u120 u121 u122 u123 u124 u125 u126 u127 u128 u129 u130 u131 u132 u133 u134 u135 u136 u137 u138 u139 u140 u141 u142 u143 u144 u145 u146 u147 u148 u149 u150 u151 u152 u153 u154 u155 u156 u157 u158 u159 u160 u161 u162 u163 u164 u165 u166 u167 u168 u169 u170 u171 u172 : Value) (wc : World), ((∃ n : Nat, n ≤ 9261 ∧ InKeys Try.prog 3 4 wc bm n (Lost2 a b c d F)) ∧ Blk wc (w.heap.size + 1) #[.int .i64 tx, .int .i64 ty] 23 ∧ Kept Z wc) → Q .normal ⟨#[s0, s1, s2, .pointer (some ⟨w.heap.size + 1, 0, none⟩), s4, .bool true, s6, s7, .slice (some ⟨gM, 0, none⟩) 2 cpM, s9, s10, s11, .map (some bm), .int .i64 F, s14, u15, u16, u17, s18, s19, s20, s21, s22, s23, s24, s25, s26, s27, s28, s29, s30, s31, s32, s33, s34, s35, s36, s37, s38, s39, s40, s41, s42, s43, s44, s45, s46, s47, s48, s49, s50, s51, s52, s53, s54, s55, s56, s57, s58, s59, s60, s61, s62, s63, s64, s65, s66, s67, s68, s69, s70, s71, s72, s73, s74, s75, s76, s77, s78, s79, s80, s81, s82, s83, s84, s85, s86, s87, s88, s89, s90, s91, s92, s93, s94, s95, s96, s97, s98, s99, s100, s101, s102, s103, s104, s105, s106, s107, s108, s109, s110, s111, s112, s113, u114, u115, u116, u117, u118, u119, u120, u121, u122, u123, u124, u125, u126, u127, u128, u129, u130, u131, u132, u133, u134, u135, u136, u137, u138, u139, u140, u141, u142, u143, u144, u145, u146, u147, u148, u149, u150, u151, u152, u153, u154, u155, u156, u157, u158, u159, u160, u161, u162, u163, u164, u165, u166, u167, u168, u169, u170, u171, u172, s173, s174, s175, s176, s177, s178, s179, s180, s181, s182, s183, s184, s185, s186, s187, s188, s189, s190, s191, s192, s193, s194, s195, s196, s197, s198, s199, s200, s201, s202, s203, s204, s205, s206, s207, s208, s209, s210, s211, s212, s213, s214, s215, s216, s217, s218, s219, s220, s221, s222, s223, s224, s225, s226, s227, s228, s229, s230, s231, s232, s233, s234, s235], []⟩ wc) : C.wp Try.prog Q ⟨#[s0, s1, s2, .pointer (some ⟨w.heap.size + 1, 0, none⟩), s4, .bool true, s6, s7, .slice (some ⟨gM, 0, none⟩) 2 cpM, s9, s10, s11, .map (some bm), .int .i64 F, s14, .int .i64 a, s16, s17, s18, s19, s20, s21, s22, s23, s24, s25, s26, s27, s28, s29, s30, s31, s32, s33, s34, s35, s36, s37, s38, s39, s40, s41, s42, s43, s44, s45, s46, s47, s48, s49, s50, s51, s52, s53, s54, s55, s56, s57, s58, s59, s60, s61, s62, s63, s64, s65, s66, s67, s68, s69, s70, s71, s72, s73, s74, s75, s76, s77, s78, s79, s80, s81, s82, s83, s84, s85, s86, s87, s88, s89, s90, s91, s92, s93, s94, s95, s96, s97, s98, s99, s100, s101, s102, s103, s104, s105, s106, s107, s108, s109, s110, s111, s112, s113, s114, s115, s116, s117, s118, s119, s120, s121, s122, s123, s124, s125, s126, s127, s128, s129, s130, s131, s132, s133, s134, s135, s136, s137, s138, s139, s140, s141, s142, s143, s144, s145, s146, s147, s148, s149, s150, s151, s152, s153, s154, s155, s156, s157, s158, s159, s160, s161, s162, s163, s164, s165, s166, s167, s168, s169, s170, s171, s172, s173, s174, s175, s176, s177, s178, s179, s180, s181, s182, s183, s184, s185, s186, s187, s188, s189, s190, s191, s192, s193, s194, s195, s196, s197, s198, s199, s200, s201, s202, s203, s204, s205, s206, s207, s208, s209, s210, s211, s212, s213, s214, s215, s216, s217, s218, s219, s220, s221, s222, s223, s224, s225, s226, s227, s228, s229, s230, s231, s232, s233, s234, s235], []⟩ w9 := by
  have e0 : (Try.f15.body.bind fun c => blkOf c 2) = some (.block 2 _) := rfl
  rw [e0] at hC
  cases hC
  clear e0
  try dsimp only at hK ⊢
  have hWF := @wf_in64
  have M0 := Lib.hid m0
  have M1 := Lib.hid m1
  have M2 := Lib.hid m2
  have M3 := Lib.hid m3
  clear m0 m1 m2 m3
  go_wp2
  go_loopw [15] (fun xv wr => ∃ x : Int, a ≤ x ∧ x ≤ b + 1 ∧ xv = .int .i64 x ∧ (∃ n : Nat, (n : Int) ≤ (x - a) * 441 ∧ InKeys Try.prog 3 4 wr bm n (Q2 a c d F x)) ∧ Blk wr gM curM 23 ∧ Blk wr (w.heap.size + 1) #[.int .i64 tx, .int .i64 ty] 23 ∧ Kept Z wr) (fun xv _ => (b + 1 - intOf xv).toNat)
  case atStart => exact ⟨a, by omega, by omega, rfl, ⟨0, by omega, hin.same fun n => Q2_zero ..⟩, qM, q3, hk⟩
  case round =>
    clear hin qM q3 hk
    obtain ⟨x, hx1, hx2, rfl, ⟨n, hn, hin⟩, qM, q3, hk⟩ := hrel
    have e0 := qM.cell 0
    rw [M0.out] at e0
    have e1 := qM.cell 1
    rw [M1.out] at e1
    have e2 := qM.cell 2
    rw [M2.out] at e2
    have e3 := qM.cell 3
    rw [M3.out] at e3
    by_cases hx : x ≤ b
    · have dx : decide (x ≤ b) = true := by simp [hx]
      have wx := i64_inH (n := x + F) (by omega)
      have wx1 := i64_inH (n := x + 1) (by omega)
      go_upto_block 4 with fail
      go_wp2
      clear e0 e1 e2 e3
      go_loopw [16] (fun yv wr => ∃ y : Int, c ≤ y ∧ y ≤ d + 1 ∧ yv = .int .i64 y ∧ (∃ n : Nat, (n : Int) ≤ (x - a) * 441 + (y - c) * 21 ∧ InKeys Try.prog 3 4 wr bm n (R2_ a c d F x y)) ∧ Blk wr gM curM 23 ∧ Blk wr (w.heap.size + 1) #[.int .i64 tx, .int .i64 ty] 23 ∧ Kept Z wr) (fun yv _ => (d + 1 - intOf yv).toNat)
      case atStart => exact ⟨c, by omega, by omega, rfl, ⟨n, by omega, hin.same fun n => R2_zero ..⟩, qM, q3, hk⟩
      case round =>
        clear hin qM q3 hk hn
        obtain ⟨y, hy1, hy2, rfl, ⟨n, hn, hin⟩, qM, q3, hk⟩ := hrel
        have e0 := qM.cell 0
        rw [M0.out] at e0
        have e1 := qM.cell 1
        rw [M1.out] at e1
        have e2 := qM.cell 2
        rw [M2.out] at e2
        have e3 := qM.cell 3
        rw [M3.out] at e3
        by_cases hy : y ≤ d
        · have dy : decide (y ≤ d) = true := by simp [hy]
          have wy1 := i64_inH (n := y + 1) (by omega)
          by_cases hyx : x + F < y
          · have dyx : decide (x + F < y) = true := by simp [hyx]
            go_wp2
            go_round
            case rel => exact ⟨y + 1, by omega, by omega, by go_num, ⟨n, by omega, hin.same fun n => R2_skip _ _ _ _ _ _ _ (by omega)⟩, qM, q3, hk⟩
            case measure => simp [intOf]; omega
          · have dyx : decide (x + F < y) = false := by simp; omega
            have wk := i64_inH (n := x + F - y) (by omega)
            have hwf := hWF (x + F - y) (by omega)
            go_wp2_with (at_mapUpdate; refine wpList_put_key _ rfl _ _ _ 130 rfl 3 4 keyedIn Try.underlying130 Try.underlying3 Try.underlying4 bm _ (R2_ a c d F x y) rfl hin (by unfold maxLen; omega) (x + F - y) hwf rfl rfl ?_; intro w2 hin2 hg2; have qM2 := Blk.turned qM hne1 hg2; have q32 := Blk.turned q3 hne2 hg2; have hk2 : Kept Z w2 := Kept.turned hk hbm hg2; have g0 := qM2.cell 0; rw [M0.out] at g0; have g1 := qM2.cell 1; rw [M1.out] at g1; have g2 := qM2.cell 2; rw [M2.out] at g2; have g3 := qM2.cell 3; rw [M3.out] at g3; go_frame)
            go_round
            case rel => exact ⟨y + 1, by omega, by omega, by go_num, ⟨n + 1, by omega, hin2.same fun n => R2_put _ _ _ _ _ _ _ (by omega) hy1⟩, qM2, q32, hk2⟩
            case measure => simp [intOf]; omega
        · have dy : decide (y ≤ d) = false := by simp; omega
          go_wp2
          go_round
          case rel => exact ⟨x + 1, by omega, by omega, by go_num, ⟨n, by omega, hin.same fun n => R2_end _ _ _ _ _ _ _ (by omega) (by omega) (by omega)⟩, qM, q3, hk⟩
          case measure => simp [intOf]; omega
    · have dx : decide (x ≤ b) = false := by simp; omega
      go_wp2
      have hfin := hin.same fun n => Q2_end _ _ _ _ _ _ _ (show b < x by omega) (show x ≤ b + 1 by omega)
      first | exact ⟨n, by omega, hfin⟩ | exact ⟨⟨n, by omega, hfin⟩, q3, hk⟩ | exact ⟨n, ⟨by omega, hfin⟩, q3, hk⟩ | exact ⟨n, by omega, hfin, q3, hk⟩ | exact ⟨⟨n, hfin, by omega⟩, q3, hk⟩

theorem seg_lost3 {s0 s1 s2 s4 s6 s7 s9 s10 s11 s16 s17 s18 s19 s20 s21 s22 s23 s24 s25 s26 s27 s28 s29 s30 s31 s32 s33 s34 s35 s36 s37 s38 s39 s40 s41 s42 s43 s44 s45 s46 s47 s48 s49 s50 s51 s52 s53 s54 s55 s56 s57 s58 s59 s60 s61 s62 s63 s64 s65 s66 s67 s68 s69 s70 s71 s72 s73 s74 s75 s76 s77 s78 s79 s80 s81 s82 s83 s84 s85 s86 s87 s88 s89 s90 s91 s92 s93 s94 s95 s96 s97 s98 s99 s100 s101 s102 s103 s104 s105 s106 s107 s108 s109 s110 s111 s112 s113 s114 s115 s116 s117 s118 s119 s120 s121 s122 s123 s124 s125 s126 s127 s128 s129 s130 s131 s132 s133 s134 s135 s136 s137 s138 s139 s140 s141 s142 s143 s144 s145 s146 s147 s148 s149 s150 s151 s152 s153 s154 s155 s156 s157 s158 s159 s160 s161 s162 s163 s164 s165 s166 s167 s168 s169 s170 s171 s172 s173 s174 s175 s176 s177 s178 s179 s180 s181 s182 s183 s184 s185 s186 s187 s188 s189 s190 s191 s192 s193 s194 s195 s196 s197 s198 s199 s200 s201 s202 s203 s204 s205 s206 s207 s208 s209 s210 s211 s212 s213 s214 s215 s216 s217 s218 s219 s220 s221 s222 s223 s224 s225 s226 s227 s228 s229 s230 s231 s232 s233 s234 s235 : Value} {w Z : World} {gM bm cpM : Nat} {curM : Array Value} {a b c d e f F G : Int} {tx ty : Int} {w9 : World} (C : Code) (hC : (Try.f15.body.bind fun c => blkOf c 2) = some C) (Q : Exit → Act → World → Prop) (hcp : 3 ≤ cpM) (hcm : cpM ≤ maxLen) (m0 : curM[0]? = some (.int .i64 a)) (m1 : curM[1]? = some (.int .i64 b)) (m2 : curM[2]? = some (.int .i64 c)) (m3 : curM[3]? = some (.int .i64 d)) (m4 : curM[4]? = some (.int .i64 e)) (m5 : curM[5]? = some (.int .i64 f)) (l0 : 0 ≤ a ∧ a ≤ b ∧ b ≤ a + 20 ∧ b ≤ 120000000000) (l1 : 0 ≤ c ∧ c ≤ d ∧ d ≤ c + 20 ∧ d ≤ 120000000000) (l2 : 0 ≤ e ∧ e ≤ f ∧ f ≤ e + 20 ∧ f ≤ 120000000000) (lF : -1000000000 ≤ F ∧ F ≤ 1000000000) (lG : -1000000000 ≤ G ∧ G ≤ 1000000000) (hne1 : gM ≠ bm) (hne2 : w.heap.size + 1 ≠ bm) (hbm : Z.heap.size ≤ bm) (hin : InKeys Try.prog 3 4 w9 bm 0 (fun _ => False)) (qM : Blk w9 gM curM 23) (q3 : Blk w9 (w.heap.size + 1) #[.int .i64 tx, .int .i64 ty] 23) (hk : Kept Z w9)
    (hK : ∀  (u15 u16 u17 u114 u115 u116 u117 u118 u119 u120 u121 u122 u123 u124 u125 u126 u127 u128 u129 u130 u131 u132 u133 u134 u135 u136 u137 u138 u139 u140 u141 u142 u143 u144 u145 u146 u147 u148 u149 u150 u151 u152 u153 u154 u155 u156 u157 u158 u159 u160 u161 u162 u163 u164 u165 u166 u167 u168 u169 u170 u171 u172 : Value) (wc : World), ((∃ n : Nat, n ≤ 9261 ∧ InKeys Try.prog 3 4 wc bm n (Lost3 a b c d e f F G)) ∧ Blk wc (w.heap.size + 1) #[.int .i64 tx, .int .i64 ty] 23 ∧ Kept Z wc) → Q .normal ⟨#[s0, s1, s2, .pointer (some ⟨w.heap.size + 1, 0, none⟩), s4, .bool true, s6, s7, .slice (some ⟨gM, 0, none⟩) 3 cpM, s9, s10, s11, .map (some bm), .int .i64 F, .int .i64 G, u15, u16, u17, s18, s19, s20, s21, s22, s23, s24, s25, s26, s27, s28, s29, s30, s31, s32, s33, s34, s35, s36, s37, s38, s39, s40, s41, s42, s43, s44, s45, s46, s47, s48, s49, s50, s51, s52, s53, s54, s55, s56, s57, s58, s59, s60, s61, s62, s63, s64, s65, s66, s67, s68, s69, s70, s71, s72, s73, s74, s75, s76, s77, s78, s79, s80, s81, s82, s83, s84, s85, s86, s87, s88, s89, s90, s91, s92, s93, s94, s95, s96, s97, s98, s99, s100, s101, s102, s103, s104, s105, s106, s107, s108, s109, s110, s111, s112, s113, u114, u115, u116, u117, u118, u119, u120, u121, u122, u123, u124, u125, u126, u127, u128, u129, u130, u131, u132, u133, u134, u135, u136, u137, u138, u139, u140, u141, u142, u143, u144, u145, u146, u147, u148, u149, u150, u151, u152, u153, u154, u155, u156, u157, u158, u159, u160, u161, u162, u163, u164, u165, u166, u167, u168, u169, u170, u171, u172, s173, s174, s175, s176, s177, s178, s179, s180, s181, s182, s183, s184, s185, s186, s187, s188, s189, s190, s191, s192, s193, s194, s195, s196, s197, s198, s199, s200, s201, s202, s203, s204, s205, s206, s207, s208, s209, s210, s211, s212, s213, s214, s215, s216, s217, s218, s219, s220, s221, s222, s223, s224, s225, s226, s227, s228, s229, s230, s231, s232, s233, s234, s235], []⟩ wc) : C.wp Try.prog Q ⟨#[s0, s1, s2, .pointer (some ⟨w.heap.size + 1, 0, none⟩), s4, .bool true, s6, s7, .slice (some ⟨gM, 0, none⟩) 3 cpM, s9, s10, s11, .map (some bm), .int .i64 F, .int .i64 G, .int .i64 a, s16, s17, s18, s19, s20, s21, s22, s23, s24, s25, s26, s27, s28, s29, s30, s31, s32, s33, s34, s35, s36, s37, s38, s39, s40, s41, s42, s43, s44, s45, s46, s47, s48, s49, s50, s51, s52, s53, s54, s55, s56, s57, s58, s59, s60, s61, s62, s63, s64, s65, s66, s67, s68, s69, s70, s71, s72, s73, s74, s75, s76, s77, s78, s79, s80, s81, s82, s83, s84, s85, s86, s87, s88, s89, s90, s91, s92, s93, s94, s95, s96, s97, s98, s99, s100, s101, s102, s103, s104, s105, s106, s107, s108, s109, s110, s111, s112, s113, s114, s115, s116, s117, s118, s119, s120, s121, s122, s123, s124, s125, s126, s127, s128, s129, s130, s131, s132, s133, s134, s135, s136, s137, s138, s139, s140, s141, s142, s143, s144, s145, s146, s147, s148, s149, s150, s151, s152, s153, s154, s155, s156, s157, s158, s159, s160, s161, s162, s163, s164, s165, s166, s167, s168, s169, s170, s171, s172, s173, s174, s175, s176, s177, s178, s179, s180, s181, s182, s183, s184, s185, s186, s187, s188, s189, s190, s191, s192, s193, s194, s195, s196, s197, s198, s199, s200, s201, s202, s203, s204, s205, s206, s207, s208, s209, s210, s211, s212, s213, s214, s215, s216, s217, s218, s219, s220, s221, s222, s223, s224, s225, s226, s227, s228, s229, s230, s231, s232, s233, s234, s235], []⟩ w9 := by
  have e0 : (Try.f15.body.bind fun c => blkOf c 2) = some (.block 2 _) := rfl
  rw [e0] at hC
  cases hC
  clear e0
  try dsimp only at hK ⊢
  have hWF := @wf_in64
  have M0 := Lib.hid m0
  have M1 := Lib.hid m1
  have M2 := Lib.hid m2
  have M3 := Lib.hid m3
  have M4 := Lib.hid m4
  have M5 := Lib.hid m5
  clear m0 m1 m2 m3 m4 m5
  go_wp2
  go_loopw [15] (fun xv wr => ∃ x : Int, a ≤ x ∧ x ≤ b + 1 ∧ xv = .int .i64 x ∧ (∃ n : Nat, (n : Int) ≤ (x - a) * 441 ∧ InKeys Try.prog 3 4 wr bm n (Q3 a c d e f F G x)) ∧ Blk wr gM curM 23 ∧ Blk wr (w.heap.size + 1) #[.int .i64 tx, .int .i64 ty] 23 ∧ Kept Z wr) (fun xv _ => (b + 1 - intOf xv).toNat)
  case atStart => exact ⟨a, by omega, by omega, rfl, ⟨0, by omega, hin.same fun n => Q3_zero ..⟩, qM, q3, hk⟩
  case round =>
    clear hin qM q3 hk
    obtain ⟨x, hx1, hx2, rfl, ⟨n, hn, hin⟩, qM, q3, hk⟩ := hrel
    have e0 := qM.cell 0
    rw [M0.out] at e0
    have e1 := qM.cell 1
    rw [M1.out] at e1
    have e2 := qM.cell 2
    rw [M2.out] at e2
    have e3 := qM.cell 3
    rw [M3.out] at e3
    have e4 := qM.cell 4
    rw [M4.out] at e4
    have e5 := qM.cell 5
    rw [M5.out] at e5
    by_cases hx : x ≤ b
    · have dx : decide (x ≤ b) = true := by simp [hx]
      have wx := i64_inH (n := x + F) (by omega)
      have wx1 := i64_inH (n := x + 1) (by omega)
      go_upto_block 4 with fail
      go_wp2
      clear e0 e1 e2 e3 e4 e5
      go_loopw [16] (fun yv wr => ∃ y : Int, c ≤ y ∧ y ≤ d + 1 ∧ yv = .int .i64 y ∧ (∃ n : Nat, (n : Int) ≤ (x - a) * 441 + (y - c) * 21 ∧ InKeys Try.prog 3 4 wr bm n (R3_ a c d e f F G x y)) ∧ Blk wr gM curM 23 ∧ Blk wr (w.heap.size + 1) #[.int .i64 tx, .int .i64 ty] 23 ∧ Kept Z wr) (fun yv _ => (d + 1 - intOf yv).toNat)
      case atStart => exact ⟨c, by omega, by omega, rfl, ⟨n, by omega, hin.same fun n => R3_zero ..⟩, qM, q3, hk⟩
      case round =>
        clear hin qM q3 hk hn
        obtain ⟨y, hy1, hy2, rfl, ⟨n, hn, hin⟩, qM, q3, hk⟩ := hrel
        have e0 := qM.cell 0
        rw [M0.out] at e0
        have e1 := qM.cell 1
        rw [M1.out] at e1
        have e2 := qM.cell 2
        rw [M2.out] at e2
        have e3 := qM.cell 3
        rw [M3.out] at e3
        have e4 := qM.cell 4
        rw [M4.out] at e4
        have e5 := qM.cell 5
        rw [M5.out] at e5
        by_cases hy : y ≤ d
        · have dy : decide (y ≤ d) = true := by simp [hy]
          have wy1 := i64_inH (n := y + 1) (by omega)
          by_cases hyx : x + F < y
          · have dyx : decide (x + F < y) = true := by simp [hyx]
            go_wp2
            go_round
            case rel => exact ⟨y + 1, by omega, by omega, by go_num, ⟨n, by omega, hin.same fun n => R3_skip _ _ _ _ _ _ _ _ _ _ (by omega)⟩, qM, q3, hk⟩
            case measure => simp [intOf]; omega
          · have dyx : decide (x + F < y) = false := by simp; omega
            have wk := i64_inH (n := x + F + G) (by omega)
            have wyG := i64_inH (n := y + G) (by omega)
            go_upto_block 6 with fail
            go_wp2
            clear e0 e1 e2 e3 e4 e5
            go_loopw [17] (fun zv wr => ∃ z : Int, e ≤ z ∧ z ≤ f + 1 ∧ zv = .int .i64 z ∧ (∃ n : Nat, (n : Int) ≤ (x - a) * 441 + (y - c) * 21 + (z - e) ∧ InKeys Try.prog 3 4 wr bm n (T3_ a c d e f F G x y z)) ∧ Blk wr gM curM 23 ∧ Blk wr (w.heap.size + 1) #[.int .i64 tx, .int .i64 ty] 23 ∧ Kept Z wr) (fun zv _ => (f + 1 - intOf zv).toNat)
            case atStart => exact ⟨e, by omega, by omega, rfl, ⟨n, by omega, hin.same fun n => T3_zero ..⟩, qM, q3, hk⟩
            case round =>
              clear hin qM q3 hk hn
              obtain ⟨z, hz1, hz2, rfl, ⟨n, hn, hin⟩, qM, q3, hk⟩ := hrel
              have e0 := qM.cell 0
              rw [M0.out] at e0
              have e1 := qM.cell 1
              rw [M1.out] at e1
              have e2 := qM.cell 2
              rw [M2.out] at e2
              have e3 := qM.cell 3
              rw [M3.out] at e3
              have e4 := qM.cell 4
              rw [M4.out] at e4
              have e5 := qM.cell 5
              rw [M5.out] at e5
              by_cases hz : z ≤ f
              · have dz : decide (z ≤ f) = true := by simp [hz]
                have wz1 := i64_inH (n := z + 1) (by omega)
                by_cases hzy : z ≤ y + G
                · have dzy : decide (z ≤ y + G) = true := by simp [hzy]
                  have wkk := i64_inH (n := x + F + G - z) (by omega)
                  have hwf := hWF (x + F + G - z) (by omega)
                  go_wp2_with (at_mapUpdate; refine wpList_put_key _ rfl _ _ _ 130 rfl 3 4 keyedIn Try.underlying130 Try.underlying3 Try.underlying4 bm _ (T3_ a c d e f F G x y z) rfl hin (by unfold maxLen; omega) (x + F + G - z) hwf rfl rfl ?_; intro w2 hin2 hg2; have qM2 := Blk.turned qM hne1 hg2; have q32 := Blk.turned q3 hne2 hg2; have hk2 : Kept Z w2 := Kept.turned hk hbm hg2; have g0 := qM2.cell 0; rw [M0.out] at g0; have g1 := qM2.cell 1; rw [M1.out] at g1; have g2 := qM2.cell 2; rw [M2.out] at g2; have g3 := qM2.cell 3; rw [M3.out] at g3; have g4 := qM2.cell 4; rw [M4.out] at g4; have g5 := qM2.cell 5; rw [M5.out] at g5; go_frame)
                  go_round
                  case rel => exact ⟨z + 1, by omega, by omega, by go_num, ⟨n + 1, by omega, hin2.same fun n => T3_put _ _ _ _ _ _ _ _ _ _ _ (by omega) hz1⟩, qM2, q32, hk2⟩
                  case measure => simp [intOf]; omega
                · have dzy : decide (z ≤ y + G) = false := by simp; omega
                  go_wp2
                  go_round
                  case rel => exact ⟨z + 1, by omega, by omega, by go_num, ⟨n, by omega, hin.same fun n => T3_skip _ _ _ _ _ _ _ _ _ _ _ (by omega)⟩, qM, q3, hk⟩
                  case measure => simp [intOf]; omega
              · have dz : decide (z ≤ f) = false := by simp; omega
                go_wp2
                go_round
                case rel => exact ⟨y + 1, by omega, by omega, by go_num, ⟨n, by omega, hin.same fun n => T3_end _ _ _ _ _ _ _ _ _ _ _ (by omega) (by omega) hy1 (by omega)⟩, qM, q3, hk⟩
                case measure => simp [intOf]; omega
        · have dy : decide (y ≤ d) = false := by simp; omega
          go_wp2
          go_round
          case rel => exact ⟨x + 1, by omega, by omega, by go_num, ⟨n, by omega, hin.same fun n => R3_end _ _ _ _ _ _ _ _ _ _ (by omega) (by omega) (by omega)⟩, qM, q3, hk⟩
          case measure => simp [intOf]; omega
    · have dx : decide (x ≤ b) = false := by simp; omega
      go_wp2
      have hfin := hin.same fun n => Q3_end _ _ _ _ _ _ _ _ _ _ (show b < x by omega) (show x ≤ b + 1 by omega)
      first | exact ⟨n, by omega, hfin⟩ | exact ⟨⟨n, by omega, hfin⟩, q3, hk⟩ | exact ⟨n, ⟨by omega, hfin⟩, q3, hk⟩ | exact ⟨n, by omega, hfin, q3, hk⟩ | exact ⟨⟨n, hfin, by omega⟩, q3, hk⟩

theorem seg_count {s0 s1 s2 s4 s8 s9 s10 s11 s12 s13 s14 s15 s16 s17 s19 s20 s21 s22 s23 s24 s25 s26 s27 s28 s29 s30 s31 s32 s33 s34 s35 s36 s37 s38 s39 s40 s41 s42 s43 s44 s45 s46 s47 s48 s49 s50 s51 s52 s53 s54 s55 s56 s57 s58 s59 s60 s61 s62 s63 s64 s65 s66 s67 s68 s69 s70 s71 s72 s73 s74 s75 s76 s77 s78 s79 s80 s81 s82 s83 s84 s85 s86 s87 s88 s89 s90 s91 s92 s93 s94 s95 s96 s97 s98 s99 s100 s101 s102 s103 s104 s105 s106 s107 s108 s109 s110 s111 s112 s113 s114 s115 s116 s117 s118 s119 s120 s121 s122 s123 s124 s125 s126 s127 s128 s129 s130 s131 s132 s133 s134 s135 s136 s137 s138 s139 s140 s141 s142 s143 s144 s145 s146 s147 s148 s149 s150 s151 s152 s153 s154 s155 s156 s157 s158 s159 s160 s161 s162 s163 s164 s165 s166 s167 s168 s169 s170 s171 s172 s173 s175 s176 s177 s178 s179 s180 s181 s182 s183 s184 s185 s186 s187 s188 s189 s190 s191 s192 s193 s194 s195 s196 s197 s198 s199 s200 s201 s202 s203 s204 s205 s206 s207 s208 s209 s210 s211 s212 s213 s214 s215 s216 s217 s218 s219 s220 s221 s222 s223 s224 s225 s226 s227 s228 s229 s230 s231 s232 s233 s234 s235 : Value} {w : World} {bm rr nn ln cpL cnt0 gL : Nat} {curL : Array Value} {adL : Option Addr} {tx ty E lo hi : Int} {S : Int → Prop} {w9 : World} (C : Code) (hC : (Try.f15.body.bind fun c => blkOf c 8) = some C) (Q : Exit → Act → World → Prop) (hcn : cnt0 ≤ 9261) (hbm : w.heap.size + 1 < bm) (hrr : w.heap.size + 1 < rr) (hon : OnKeys Try.prog 3 4 w9 bm rr nn S cnt0 []) (hE : (E = 0 ∧ ln = 1 ∧ adL = some ⟨gL, 0, none⟩ ∧ curL[0]? = some (.int .i64 lo) ∧ curL[1]? = some (.int .i64 hi) ∧ ∀ n, S n → tx ≤ n → n ≤ ty → lo ≤ n ∧ n ≤ hi) ∨ ∀ n, S n → ¬ (tx ≤ n ∧ n ≤ ty)) (hL : E = 0 → Blk w9 gL curL 23) (hgL : gL ≠ rr) (q3 : Blk w9 (w.heap.size + 1) #[.int .i64 tx, .int .i64 ty] 23) (hk : Kept w w9)
    (hK : ∀ (vs : List Int) (u4 u19 u175 u176 u177 u178 u179 u180 u181 u182 u183 u184 u185 u186 u187 u188 u189 u190 u191 u192 u193 u194 u195 u196 u197 u198 u199 u200 u201 u202 u203 u204 u205 u206 u207 u208 u209 u210 u211 u212 u213 : Value) (wc : World), (vs.Nodup ∧ (∀ x, x ∈ vs ↔ S x) ∧ (E = 0 → Blk wc gL curL 23) ∧ Blk wc (w.heap.size + 1) #[.int .i64 tx, .int .i64 ty] 23 ∧ Kept w wc) → Q .normal ⟨#[s0, s1, s2, .pointer (some ⟨w.heap.size + 1, 0, none⟩), u4, .bool true, .slice adL ln cpL, .int .i64 E, s8, s9, s10, s11, s12, s13, s14, s15, s16, s17, .int .i64 ((vs.filter fun n => decide (tx ≤ n) && decide (n ≤ ty)).length : Int), u19, s20, s21, s22, s23, s24, s25, s26, s27, s28, s29, s30, s31, s32, s33, s34, s35, s36, s37, s38, s39, s40, s41, s42, s43, s44, s45, s46, s47, s48, s49, s50, s51, s52, s53, s54, s55, s56, s57, s58, s59, s60, s61, s62, s63, s64, s65, s66, s67, s68, s69, s70, s71, s72, s73, s74, s75, s76, s77, s78, s79, s80, s81, s82, s83, s84, s85, s86, s87, s88, s89, s90, s91, s92, s93, s94, s95, s96, s97, s98, s99, s100, s101, s102, s103, s104, s105, s106, s107, s108, s109, s110, s111, s112, s113, s114, s115, s116, s117, s118, s119, s120, s121, s122, s123, s124, s125, s126, s127, s128, s129, s130, s131, s132, s133, s134, s135, s136, s137, s138, s139, s140, s141, s142, s143, s144, s145, s146, s147, s148, s149, s150, s151, s152, s153, s154, s155, s156, s157, s158, s159, s160, s161, s162, s163, s164, s165, s166, s167, s168, s169, s170, s171, s172, s173, .pointer (some ⟨rr, 0, none⟩), u175, u176, u177, u178, u179, u180, u181, u182, u183, u184, u185, u186, u187, u188, u189, u190, u191, u192, u193, u194, u195, u196, u197, u198, u199, u200, u201, u202, u203, u204, u205, u206, u207, u208, u209, u210, u211, u212, u213, s214, s215, s216, s217, s218, s219, s220, s221, s222, s223, s224, s225, s226, s227, s228, s229, s230, s231, s232, s233, s234, s235], []⟩ wc) : C.wp Try.prog Q ⟨#[s0, s1, s2, .pointer (some ⟨w.heap.size + 1, 0, none⟩), s4, .bool true, .slice adL ln cpL, .int .i64 E, s8, s9, s10, s11, s12, s13, s14, s15, s16, s17, .int .i64 0, s19, s20, s21, s22, s23, s24, s25, s26, s27, s28, s29, s30, s31, s32, s33, s34, s35, s36, s37, s38, s39, s40, s41, s42, s43, s44, s45, s46, s47, s48, s49, s50, s51, s52, s53, s54, s55, s56, s57, s58, s59, s60, s61, s62, s63, s64, s65, s66, s67, s68, s69, s70, s71, s72, s73, s74, s75, s76, s77, s78, s79, s80, s81, s82, s83, s84, s85, s86, s87, s88, s89, s90, s91, s92, s93, s94, s95, s96, s97, s98, s99, s100, s101, s102, s103, s104, s105, s106, s107, s108, s109, s110, s111, s112, s113, s114, s115, s116, s117, s118, s119, s120, s121, s122, s123, s124, s125, s126, s127, s128, s129, s130, s131, s132, s133, s134, s135, s136, s137, s138, s139, s140, s141, s142, s143, s144, s145, s146, s147, s148, s149, s150, s151, s152, s153, s154, s155, s156, s157, s158, s159, s160, s161, s162, s163, s164, s165, s166, s167, s168, s169, s170, s171, s172, s173, .pointer (some ⟨rr, 0, none⟩), s175, s176, s177, s178, s179, s180, s181, s182, s183, s184, s185, s186, s187, s188, s189, s190, s191, s192, s193, s194, s195, s196, s197, s198, s199, s200, s201, s202, s203, s204, s205, s206, s207, s208, s209, s210, s211, s212, s213, s214, s215, s216, s217, s218, s219, s220, s221, s222, s223, s224, s225, s226, s227, s228, s229, s230, s231, s232, s233, s234, s235], []⟩ w9 := by
  have e0 : (Try.f15.body.bind fun c => blkOf c 8) = some (.block 8 _) := rfl
  rw [e0] at hC
  cases hC
  clear e0
  try dsimp only at hK ⊢
  have HE := Lib.hid hE
  clear hE
  go_wp2
  go_loopw [18] (fun fv wr => ∃ vs cnt, vs.length + cnt ≤ cnt0 ∧ OnKeys Try.prog 3 4 wr bm rr nn S cnt vs ∧ fv = .int .i64 ((vs.filter fun n => decide (tx ≤ n) && decide (n ≤ ty)).length : Int) ∧ (E = 0 → Blk wr gL curL 23) ∧ Blk wr (w.heap.size + 1) #[.int .i64 tx, .int .i64 ty] 23 ∧ Kept w wr) (fun _ wr => wr.rangeLeft bm rr)
  case atStart => exact ⟨[], cnt0, by simp, hon, rfl, hL, q3, hk⟩
  case round =>
    clear hon hL q3 hk
    obtain ⟨vs, cnt, hc, hon, rfl, hL, q3, hk⟩ := hrel
    have hfl := List.length_filter_le (fun n => decide (tx ≤ n) && decide (n ≤ ty)) vs
    obtain ⟨N, hN⟩ : ∃ N : Nat, N = (vs.filter fun n => decide (tx ≤ n) && decide (n ≤ ty)).length := ⟨_, rfl⟩
    rw [← hN] at hfl ⊢
    have HN := Lib.hid hN
    have HL := Lib.hid hL
    clear hN hL
    have hnd : vs.Nodup := by obtain ⟨_, _, _, _, h, _⟩ := hon; exact h
    go_wp2_with (first | (at_next; refine wpList_next_keys _ rfl _ rfl 3 4 keyedIn Try.underlying3 Try.underlying4 bm rr nn S cnt vs rfl hon ?_ ?_) | go_in)
    · intro hall
      go_wp2
      rw [HN.out]
      exact hK _ _ _ _ _ _ _ _ _ _ _ _ _ _ _ _ _ _ _ _ _ _ _ _ _ _ _ _ _ _ _ _ _ _ _ _ _ _ _ _ _ _ _ ⟨hnd, hall, HL.out, q3, hk⟩
    · intro x c w1 cnt1 hwx hS hon1 hlt hg1 hs1 hen
      have q31 := Blk.turned q3 (show w.heap.size + 1 ≠ rr by omega) hg1
      have hk1 : Kept w w1 := Kept.turned hk (by omega) hg1
      have HL1 := Lib.hid (show E = 0 → Blk w1 gL curL 23 from fun h => Blk.turned (HL.out h) hgL hg1)
      have wN := i64_inH (n := (N : Int) + 1) (by omega)
      have q31c0 := q31.cell 0
      have q31f0 := q31.free 0
      have q31c1 := q31.cell 1
      have q31f1 := q31.free 1
      have q31l := q31.lt
      simp at q31c0 q31c1
      by_cases h1 : tx ≤ x
      · have d1 : decide (tx ≤ x) = true := by simp [h1]
        by_cases h2 : x ≤ ty
        · have d2 : decide (x ≤ ty) = true := by simp [h2]
          rcases HE.out with ⟨hE0, hln, had, c0, c1, hb⟩ | hno
          · obtain ⟨b1, b2⟩ := hb x hS h1 h2
            have qL1 := HL1.out hE0
            have e0 := qL1.cell 0
            have e1 := qL1.cell 1
            rw [c0] at e0
            rw [c1] at e1
            have d3 : decide (x < lo) = false := by simp; omega
            have d4 : decide (hi < x) = false := by simp; omega
            have HFL := Lib.hid (show ((vs ++ [x]).filter fun n => decide (tx ≤ n) && decide (n ≤ ty)).length = N + 1 by rw [List.filter_append, List.length_append, ← HN.out]; simp [h1, h2])
            subst hE0 hln had
            clear hb c0 c1 b1 b2 h1 h2
            go_wp2
            go_roundw
            case rel => exact ⟨vs ++ [x], cnt1, by simp; omega, hon1, by rw [HFL.out]; go_num, by first | exact HL1.out | exact HL1.out rfl | exact fun _ => HL1.out rfl, q31, hk1⟩
            case measure => rw [hon1.left_eq, hon.left_eq]; exact hlt
          · exact absurd ⟨h1, h2⟩ (hno x hS)
        · have d2 : decide (x ≤ ty) = false := by simp; omega
          have HFL := Lib.hid (show ((vs ++ [x]).filter fun n => decide (tx ≤ n) && decide (n ≤ ty)).length = N by rw [List.filter_append, List.length_append, ← HN.out]; simp [h2])
          go_wp2
          go_roundw
          case rel => exact ⟨vs ++ [x], cnt1, by simp; omega, hon1, by rw [HFL.out], by first | exact HL1.out | exact HL1.out rfl | exact fun _ => HL1.out rfl, q31, hk1⟩
          case measure => rw [hon1.left_eq, hon.left_eq]; exact hlt
      · have d1 : decide (tx ≤ x) = false := by simp; omega
        have HFL := Lib.hid (show ((vs ++ [x]).filter fun n => decide (tx ≤ n) && decide (n ≤ ty)).length = N by rw [List.filter_append, List.length_append, ← HN.out]; simp [h1])
        go_wp2
        go_roundw
        case rel => exact ⟨vs ++ [x], cnt1, by simp; omega, hon1, by rw [HFL.out], by first | exact HL1.out | exact HL1.out rfl | exact fun _ => HL1.out rfl, q31, hk1⟩
        case measure => rw [hon1.left_eq, hon.left_eq]; exact hlt

theorem law_GasExact_great (h : Hist) (s : Bal.Gas.Spot) (tx ty : Int) (w : World) (hh : HistAt h s w) (hg : greatH h = true) : Calls Try.prog 15 #[.agg #[.slice s.aw h.warm.length s.cw, .slice s.ag h.gauges.length s.cg, .slice s.af h.flows.length s.cf], .agg #[.int .i64 tx, .int .i64 ty]] w fun e w' => e = .returned (.bool true) ∧ Kept w w' := by
  have hcw := hh.wc
  have hcm := hh.wm
  have hgc := hh.gc
  have hgm := hh.gm
  have hfc := hh.fc
  have hfm := hh.fm
  unfold maxLen at hcm hgm hfm
  have KG := Lib.hid (show ∀ W, Kept w W → Calls Try.prog 55 #[.agg #[.slice s.aw h.warm.length s.cw, .slice s.ag h.gauges.length s.cg, .slice s.af h.flows.length s.cf]] W fun e w' => e = .returned (.bool true) ∧ Kept W w' from fun W hW => by rw [← hg]; exact r_GreatH h s W (hh.later hW))
  clear hg
  go_enter Try.func15, Try.ntmps15
  go_wp2_with (first | (go_at_call 68; (with_reducible refine (o_alive _).mono ?_); rintro e w0 ⟨rfl, hb0⟩; refine Blk.thru (b := w.heap.size) (arr := ?_) (t := ?_) ?_ hb0 ?_; rotate_left 2; (focus (exact blk)); intro ua; have uac0 := ua.cell 0; have uaf0 := ua.free 0; have uac1 := ua.cell 1; have uaf1 := ua.free 1; have uac2 := ua.cell 2; have uaf2 := ua.free 2; have ual := ua.lt; simp at uac0 uac1 uac2; refine Blk.thru (b := (w.heap.size + 1)) (arr := ?_) (t := ?_) ?_ hb0 ?_; rotate_left 2; (focus (exact blk)); intro ub; have ubc0 := ub.cell 0; have ubf0 := ub.free 0; have ubc1 := ub.cell 1; have ubf1 := ub.free 1; have ubl := ub.lt; simp at ubc0 ubc1) | (go_at_call 55; (with_reducible refine (KG.out _ (by exact kpt)).mono ?_); rintro e w1 ⟨rfl, hb1⟩; refine Blk.thru (b := w.heap.size) (arr := ?_) (t := ?_) ?_ hb1 ?_; rotate_left 2; (focus (exact blk)); intro va; have vac0 := va.cell 0; have vaf0 := va.free 0; have vac1 := va.cell 1; have vaf1 := va.free 1; have vac2 := va.cell 2; have vaf2 := va.free 2; have val := va.lt; simp at vac0 vac1 vac2; refine Blk.thru (b := (w.heap.size + 1)) (arr := ?_) (t := ?_) ?_ hb1 ?_; rotate_left 2; (focus (exact blk)); intro vb; have vbc0 := vb.cell 0; have vbf0 := vb.free 0; have vbc1 := vb.cell 1; have vbf1 := vb.free 1; have vbl := vb.lt; simp at vbc0 vbc1))
  go_ret
  exact ⟨rfl, by exact kpt⟩

theorem law_GasExact_warm (h : Hist) (s : Bal.Gas.Spot) (tx ty : Int) (w : World) (hh : HistAt h s w) (hg : greatH h = false) (h1 : ¬ h.warm.length = 1) : Calls Try.prog 15 #[.agg #[.slice s.aw h.warm.length s.cw, .slice s.ag h.gauges.length s.cg, .slice s.af h.flows.length s.cf], .agg #[.int .i64 tx, .int .i64 ty]] w fun e w' => e = .returned (.bool true) ∧ Kept w w' := by
  have hcw := hh.wc
  have hcm := hh.wm
  have hgc := hh.gc
  have hgm := hh.gm
  have hfc := hh.fc
  have hfm := hh.fm
  unfold maxLen at hcm hgm hfm
  have KG := Lib.hid (show ∀ W, Kept w W → Calls Try.prog 55 #[.agg #[.slice s.aw h.warm.length s.cw, .slice s.ag h.gauges.length s.cg, .slice s.af h.flows.length s.cf]] W fun e w' => e = .returned (.bool false) ∧ Kept W w' from fun W hW => by rw [← hg]; exact r_GreatH h s W (hh.later hW))
  have n1 : ((h.warm.length : Int) != 1) = true := by simp; omega
  clear h1
  clear hg
  go_enter Try.func15, Try.ntmps15
  go_wp2_with (first | (go_at_call 68; (with_reducible refine (o_alive _).mono ?_); rintro e w0 ⟨rfl, hb0⟩; refine Blk.thru (b := w.heap.size) (arr := ?_) (t := ?_) ?_ hb0 ?_; rotate_left 2; (focus (exact blk)); intro ua; have uac0 := ua.cell 0; have uaf0 := ua.free 0; have uac1 := ua.cell 1; have uaf1 := ua.free 1; have uac2 := ua.cell 2; have uaf2 := ua.free 2; have ual := ua.lt; simp at uac0 uac1 uac2; refine Blk.thru (b := (w.heap.size + 1)) (arr := ?_) (t := ?_) ?_ hb0 ?_; rotate_left 2; (focus (exact blk)); intro ub; have ubc0 := ub.cell 0; have ubf0 := ub.free 0; have ubc1 := ub.cell 1; have ubf1 := ub.free 1; have ubl := ub.lt; simp at ubc0 ubc1) | (go_at_call 55; (with_reducible refine (KG.out _ (by exact kpt)).mono ?_); rintro e w1 ⟨rfl, hb1⟩; refine Blk.thru (b := w.heap.size) (arr := ?_) (t := ?_) ?_ hb1 ?_; rotate_left 2; (focus (exact blk)); intro va; have vac0 := va.cell 0; have vaf0 := va.free 0; have vac1 := va.cell 1; have vaf1 := va.free 1; have vac2 := va.cell 2; have vaf2 := va.free 2; have val := va.lt; simp at vac0 vac1 vac2; refine Blk.thru (b := (w.heap.size + 1)) (arr := ?_) (t := ?_) ?_ hb1 ?_; rotate_left 2; (focus (exact blk)); intro vb; have vbc0 := vb.cell 0; have vbf0 := vb.free 0; have vbc1 := vb.cell 1; have vbf1 := vb.free 1; have vbl := vb.lt; simp at vbc0 vbc1))
  go_ret
  exact ⟨rfl, by exact kpt⟩

theorem law_GasExact_few (h : Hist) (s : Bal.Gas.Spot) (tx ty : Int) (w : World) (hh : HistAt h s w) (hg : greatH h = false) (h1 : h.warm.length = 1) (h2 : h.gauges.length < 2) : Calls Try.prog 15 #[.agg #[.slice s.aw h.warm.length s.cw, .slice s.ag h.gauges.length s.cg, .slice s.af h.flows.length s.cf], .agg #[.int .i64 tx, .int .i64 ty]] w fun e w' => e = .returned (.bool true) ∧ Kept w w' := by
  have hcw := hh.wc
  have hcm := hh.wm
  have hgc := hh.gc
  have hgm := hh.gm
  have hfc := hh.fc
  have hfm := hh.fm
  unfold maxLen at hcm hgm hfm
  have KG := Lib.hid (show ∀ W, Kept w W → Calls Try.prog 55 #[.agg #[.slice s.aw h.warm.length s.cw, .slice s.ag h.gauges.length s.cg, .slice s.af h.flows.length s.cf]] W fun e w' => e = .returned (.bool false) ∧ Kept W w' from fun W hW => by rw [← hg]; exact r_GreatH h s W (hh.later hW))
  have n1 : ((h.warm.length : Int) != 1) = false := by simp; omega
  have n2 : decide ((h.gauges.length : Int) < 2) = true := by simp; omega
  clear h1 h2
  clear hg
  go_enter Try.func15, Try.ntmps15
  go_wp2_with (first | (go_at_call 68; (with_reducible refine (o_alive _).mono ?_); rintro e w0 ⟨rfl, hb0⟩; refine Blk.thru (b := w.heap.size) (arr := ?_) (t := ?_) ?_ hb0 ?_; rotate_left 2; (focus (exact blk)); intro ua; have uac0 := ua.cell 0; have uaf0 := ua.free 0; have uac1 := ua.cell 1; have uaf1 := ua.free 1; have uac2 := ua.cell 2; have uaf2 := ua.free 2; have ual := ua.lt; simp at uac0 uac1 uac2; refine Blk.thru (b := (w.heap.size + 1)) (arr := ?_) (t := ?_) ?_ hb0 ?_; rotate_left 2; (focus (exact blk)); intro ub; have ubc0 := ub.cell 0; have ubf0 := ub.free 0; have ubc1 := ub.cell 1; have ubf1 := ub.free 1; have ubl := ub.lt; simp at ubc0 ubc1) | (go_at_call 55; (with_reducible refine (KG.out _ (by exact kpt)).mono ?_); rintro e w1 ⟨rfl, hb1⟩; refine Blk.thru (b := w.heap.size) (arr := ?_) (t := ?_) ?_ hb1 ?_; rotate_left 2; (focus (exact blk)); intro va; have vac0 := va.cell 0; have vaf0 := va.free 0; have vac1 := va.cell 1; have vaf1 := va.free 1; have vac2 := va.cell 2; have vaf2 := va.free 2; have val := va.lt; simp at vac0 vac1 vac2; refine Blk.thru (b := (w.heap.size + 1)) (arr := ?_) (t := ?_) ?_ hb1 ?_; rotate_left 2; (focus (exact blk)); intro vb; have vbc0 := vb.cell 0; have vbf0 := vb.free 0; have vbc1 := vb.cell 1; have vbf1 := vb.free 1; have vbl := vb.lt; simp at vbc0 vbc1))
  go_ret
  exact ⟨rfl, by exact kpt⟩

theorem law_GasExact_many (h : Hist) (s : Bal.Gas.Spot) (tx ty : Int) (w : World) (hh : HistAt h s w) (hg : greatH h = false) (h1 : h.warm.length = 1) (h2 : ¬ h.gauges.length < 2) (h3 : 3 < h.gauges.length) : Calls Try.prog 15 #[.agg #[.slice s.aw h.warm.length s.cw, .slice s.ag h.gauges.length s.cg, .slice s.af h.flows.length s.cf], .agg #[.int .i64 tx, .int .i64 ty]] w fun e w' => e = .returned (.bool true) ∧ Kept w w' := by
  have hcw := hh.wc
  have hcm := hh.wm
  have hgc := hh.gc
  have hgm := hh.gm
  have hfc := hh.fc
  have hfm := hh.fm
  unfold maxLen at hcm hgm hfm
  have KG := Lib.hid (show ∀ W, Kept w W → Calls Try.prog 55 #[.agg #[.slice s.aw h.warm.length s.cw, .slice s.ag h.gauges.length s.cg, .slice s.af h.flows.length s.cf]] W fun e w' => e = .returned (.bool false) ∧ Kept W w' from fun W hW => by rw [← hg]; exact r_GreatH h s W (hh.later hW))
  have n1 : ((h.warm.length : Int) != 1) = false := by simp; omega
  have n2 : decide ((h.gauges.length : Int) < 2) = false := by simp; omega
  have n3 : decide ((3 : Int) < (h.gauges.length : Int)) = true := by simp; omega
  clear h1 h2 h3
  clear hg
  go_enter Try.func15, Try.ntmps15
  go_wp2_with (first | (go_at_call 68; (with_reducible refine (o_alive _).mono ?_); rintro e w0 ⟨rfl, hb0⟩; refine Blk.thru (b := w.heap.size) (arr := ?_) (t := ?_) ?_ hb0 ?_; rotate_left 2; (focus (exact blk)); intro ua; have uac0 := ua.cell 0; have uaf0 := ua.free 0; have uac1 := ua.cell 1; have uaf1 := ua.free 1; have uac2 := ua.cell 2; have uaf2 := ua.free 2; have ual := ua.lt; simp at uac0 uac1 uac2; refine Blk.thru (b := (w.heap.size + 1)) (arr := ?_) (t := ?_) ?_ hb0 ?_; rotate_left 2; (focus (exact blk)); intro ub; have ubc0 := ub.cell 0; have ubf0 := ub.free 0; have ubc1 := ub.cell 1; have ubf1 := ub.free 1; have ubl := ub.lt; simp at ubc0 ubc1) | (go_at_call 55; (with_reducible refine (KG.out _ (by exact kpt)).mono ?_); rintro e w1 ⟨rfl, hb1⟩; refine Blk.thru (b := w.heap.size) (arr := ?_) (t := ?_) ?_ hb1 ?_; rotate_left 2; (focus (exact blk)); intro va; have vac0 := va.cell 0; have vaf0 := va.free 0; have vac1 := va.cell 1; have vaf1 := va.free 1; have vac2 := va.cell 2; have vaf2 := va.free 2; have val := va.lt; simp at vac0 vac1 vac2; refine Blk.thru (b := (w.heap.size + 1)) (arr := ?_) (t := ?_) ?_ hb1 ?_; rotate_left 2; (focus (exact blk)); intro vb; have vbc0 := vb.cell 0; have vbf0 := vb.free 0; have vbc1 := vb.cell 1; have vbf1 := vb.free 1; have vbl := vb.lt; simp at vbc0 vbc1))
  go_ret
  exact ⟨rfl, by exact kpt⟩

theorem law_GasExact_err (h : Hist) (s : Bal.Gas.Spot) (tx ty : Int) (w : World) (hh : HistAt h s w) (hg : greatH h = false) (h1 : h.warm.length = 1) (h2 : ¬ h.gauges.length < 2) (h3 : ¬ 3 < h.gauges.length) (he0 : leaksE h tx ty ≠ 0) (he6 : leaksE h tx ty ≠ 6) : Calls Try.prog 15 #[.agg #[.slice s.aw h.warm.length s.cw, .slice s.ag h.gauges.length s.cg, .slice s.af h.flows.length s.cf], .agg #[.int .i64 tx, .int .i64 ty]] w fun e w' => e = .returned (.bool true) ∧ Kept w w' := by
  have hcw := hh.wc
  have hcm := hh.wm
  have hgc := hh.gc
  have hgm := hh.gm
  have hfc := hh.fc
  have hfm := hh.fm
  unfold maxLen at hcm hgm hfm
  have KG := Lib.hid (show ∀ W, Kept w W → Calls Try.prog 55 #[.agg #[.slice s.aw h.warm.length s.cw, .slice s.ag h.gauges.length s.cg, .slice s.af h.flows.length s.cf]] W fun e w' => e = .returned (.bool false) ∧ Kept W w' from fun W hW => by rw [← hg]; exact r_GreatH h s W (hh.later hW))
  have n1 : ((h.warm.length : Int) != 1) = false := by simp; omega
  have n2 : decide ((h.gauges.length : Int) < 2) = false := by simp; omega
  have n3 : decide ((3 : Int) < (h.gauges.length : Int)) = false := by simp; omega
  have hll := leaks_out he0
  obtain ⟨E, hE⟩ : ∃ E, leaksE h tx ty = E := ⟨_, rfl⟩
  rw [hE] at he0 he6
  have KL := Lib.hid (show ∀ W, Kept w W → Calls Try.prog 58 #[.agg #[.slice s.aw h.warm.length s.cw, .slice s.ag h.gauges.length s.cg, .slice s.af h.flows.length s.cf], .agg #[.int .i64 tx, .int .i64 ty]] W fun e w' => ∃ v, e = .returned (.tuple #[v, .int .i64 E]) ∧ w'.ownsRow W.heap.size 23 2 (v) ([] : List Sp).length (([] : List Sp).flatMap Sp.cells) ∧ Kept W w' from fun W hW => by have := f_Leaks h s tx ty W (hh.later hW); rw [hE, hll] at this; exact this)
  have e0 : (E != 0) = true := by simp [he0]
  have e6 : (E != 6) = true := by simp [he6]
  clear hg h1 h2 h3 hll hE he0 he6
  go_enter Try.func15, Try.ntmps15
  go_wp2_with (first | (go_at_call 68; (with_reducible refine (o_alive _).mono ?_); rintro e w0 ⟨rfl, hb0⟩; refine Blk.thru (b := w.heap.size) (arr := ?_) (t := ?_) ?_ hb0 ?_; rotate_left 2; (focus (exact blk)); intro ua; have uac0 := ua.cell 0; have uaf0 := ua.free 0; have uac1 := ua.cell 1; have uaf1 := ua.free 1; have uac2 := ua.cell 2; have uaf2 := ua.free 2; have ual := ua.lt; simp at uac0 uac1 uac2; refine Blk.thru (b := (w.heap.size + 1)) (arr := ?_) (t := ?_) ?_ hb0 ?_; rotate_left 2; (focus (exact blk)); intro ub; have ubc0 := ub.cell 0; have ubf0 := ub.free 0; have ubc1 := ub.cell 1; have ubf1 := ub.free 1; have ubl := ub.lt; simp at ubc0 ubc1) | (go_at_call 55; (with_reducible refine (KG.out _ (by exact kpt)).mono ?_); rintro e w1 ⟨rfl, hb1⟩; refine Blk.thru (b := w.heap.size) (arr := ?_) (t := ?_) ?_ hb1 ?_; rotate_left 2; (focus (exact blk)); intro va; have vac0 := va.cell 0; have vaf0 := va.free 0; have vac1 := va.cell 1; have vaf1 := va.free 1; have vac2 := va.cell 2; have vaf2 := va.free 2; have val := va.lt; simp at vac0 vac1 vac2; refine Blk.thru (b := (w.heap.size + 1)) (arr := ?_) (t := ?_) ?_ hb1 ?_; rotate_left 2; (focus (exact blk)); intro vb; have vbc0 := vb.cell 0; have vbf0 := vb.free 0; have vbc1 := vb.cell 1; have vbf1 := vb.free 1; have vbl := vb.lt; simp at vbc0 vbc1) | (go_at_call 58; (with_reducible refine (KL.out _ (by exact kpt)).mono ?_); rintro e wL ⟨vL, rfl, hoL, hbL⟩; obtain ⟨adL, cpL, rfl, hrL, hcL, hmL⟩ := owns_row (enc := Sp.cells) (k := 2) (fun _ => rfl) hoL; refine Blk.thru (b := w.heap.size) (arr := ?_) (t := ?_) ?_ hbL ?_; rotate_left 2; (focus (exact blk)); intro xa; have xac0 := xa.cell 0; have xaf0 := xa.free 0; have xac1 := xa.cell 1; have xaf1 := xa.free 1; have xac2 := xa.cell 2; have xaf2 := xa.free 2; have xal := xa.lt; simp at xac0 xac1 xac2; refine Blk.thru (b := (w.heap.size + 1)) (arr := ?_) (t := ?_) ?_ hbL ?_; rotate_left 2; (focus (exact blk)); intro xb; have xbc0 := xb.cell 0; have xbf0 := xb.free 0; have xbc1 := xb.cell 1; have xbf1 := xb.free 1; have xbl := xb.lt; simp at xbc0 xbc1))
  go_ret
  exact ⟨rfl, by exact kpt⟩

theorem owns_head {w : World} {base n : Nat} {e : TypeId} {v : Value} {x : Sp} {xs : List Sp} (h : w.ownsRow base e 2 v n ((x :: xs).flatMap Sp.cells)) (hn : n = (x :: xs).length) : ∃ g cur cp, v = .slice (some ⟨g, 0, none⟩) n cp ∧ base ≤ g ∧ n ≤ cp ∧ cp ≤ maxLen ∧ Blk w g cur e ∧ cur.toList.take (n * 2) = (x :: xs).flatMap Sp.cells := by
  obtain ⟨_, ⟨rfl, hz⟩ | ⟨g, cap, cur, rfl, hb, hh, h1, h2, h3, h4⟩⟩ := h
  · subst hn; simp at hz
  · exact ⟨g, cur, cap, rfl, hb, h1, h2, hh, h4⟩
theorem take_at {cur : Array Value} {l : List Value} {m i : Nat} {u : Value} (h : cur.toList.take m = l) (hi : l[i]? = some u) : cur[i]? = some u := by
  rw [← h, List.getElem?_take] at hi
  split at hi
  · rw [← Array.getElem?_toList]; exact hi
  · cases hi

theorem law_GasExact_ok0_2 (h : Hist) (s : Bal.Gas.Spot) (tx ty : Int) (w : World) (hh : HistAt h s w) (hg : greatH h = false) (h1 : h.warm.length = 1) (hlen : h.gauges.length = 2) (hb : histB h = true) (hs : spanIn tx ty 0 1000000000000 = true) (hE : leaksE h tx ty = 0) (lo hi : Int) (hl : leaksL h tx ty = [⟨lo, hi⟩]) : Calls Try.prog 15 #[.agg #[.slice s.aw h.warm.length s.cw, .slice s.ag h.gauges.length s.cg, .slice s.af h.flows.length s.cf], .agg #[.int .i64 tx, .int .i64 ty]] w fun e w' => e = .returned (.bool true) ∧ Kept w w' := by
  have h2 : ¬ h.gauges.length < 2 := by omega
  have h3 : ¬ 3 < h.gauges.length := by omega
  have hcw := hh.wc
  have hcm := hh.wm
  have hgc := hh.gc
  have hgm := hh.gm
  have hfc := hh.fc
  have hfm := hh.fm
  unfold maxLen at hcm hgm hfm
  have KG := Lib.hid (show ∀ W, Kept w W → Calls Try.prog 55 #[.agg #[.slice s.aw h.warm.length s.cw, .slice s.ag h.gauges.length s.cg, .slice s.af h.flows.length s.cf]] W fun e w' => e = .returned (.bool false) ∧ Kept W w' from fun W hW => by rw [← hg]; exact r_GreatH h s W (hh.later hW))
  have n1 : ((h.warm.length : Int) != 1) = false := by simp; omega
  have n2 : decide ((h.gauges.length : Int) < 2) = false := by simp; omega
  have n3 : decide ((3 : Int) < (h.gauges.length : Int)) = false := by simp; omega
  have ho := histB_ok hb
  have KL := Lib.hid (show ∀ W, Kept w W → Calls Try.prog 58 #[.agg #[.slice s.aw h.warm.length s.cw, .slice s.ag h.gauges.length s.cg, .slice s.af h.flows.length s.cf], .agg #[.int .i64 tx, .int .i64 ty]] W fun e w' => ∃ v, e = .returned (.tuple #[v, .int .i64 0]) ∧ w'.ownsRow W.heap.size 23 2 (v) [(⟨lo, hi⟩ : Sp)].length ([(⟨lo, hi⟩ : Sp)].flatMap Sp.cells) ∧ Kept W w' from fun W hW => by have := f_Leaks h s tx ty W (hh.later hW); rw [hE, hl] at this; exact this)
  have HH := Lib.hid hh
  have HO := Lib.hid ho
  have HBV := Lib.hid hb
  have HS := Lib.hid hs
  have HE := Lib.hid hE
  have HLL := Lib.hid hl
  have H1 := Lib.hid h1
  have HLEN := Lib.hid hlen
  have hg3 : h.gauges.length ≤ 3 := by omega
  clear hg hb hs hE hl ho hh h1 h2 h3 hlen
  go_enter Try.func15, Try.ntmps15
  go_upto_region 9 with (first | (go_at_call 68; (with_reducible refine (o_alive _).mono ?_); rintro e w0 ⟨rfl, hb0⟩; refine Blk.thru (b := w.heap.size) (arr := ?_) (t := ?_) ?_ hb0 ?_; rotate_left 2; (focus (exact blk)); intro ua; have uac0 := ua.cell 0; have uaf0 := ua.free 0; have uac1 := ua.cell 1; have uaf1 := ua.free 1; have uac2 := ua.cell 2; have uaf2 := ua.free 2; have ual := ua.lt; simp at uac0 uac1 uac2; refine Blk.thru (b := (w.heap.size + 1)) (arr := ?_) (t := ?_) ?_ hb0 ?_; rotate_left 2; (focus (exact blk)); intro ub; have ubc0 := ub.cell 0; have ubf0 := ub.free 0; have ubc1 := ub.cell 1; have ubf1 := ub.free 1; have ubl := ub.lt; simp at ubc0 ubc1) | (go_at_call 55; (with_reducible refine (KG.out _ (by exact kpt)).mono ?_); rintro e w1 ⟨rfl, hb1⟩; refine Blk.thru (b := w.heap.size) (arr := ?_) (t := ?_) ?_ hb1 ?_; rotate_left 2; (focus (exact blk)); intro va; have vac0 := va.cell 0; have vaf0 := va.free 0; have vac1 := va.cell 1; have vaf1 := va.free 1; have vac2 := va.cell 2; have vaf2 := va.free 2; have val := va.lt; simp at vac0 vac1 vac2; refine Blk.thru (b := (w.heap.size + 1)) (arr := ?_) (t := ?_) ?_ hb1 ?_; rotate_left 2; (focus (exact blk)); intro vb; have vbc0 := vb.cell 0; have vbf0 := vb.free 0; have vbc1 := vb.cell 1; have vbf1 := vb.free 1; have vbl := vb.lt; simp at vbc0 vbc1) | (go_at_call 58; (with_reducible refine (KL.out _ (by exact kpt)).mono ?_); rintro e wL ⟨vL, rfl, hoL, hbL⟩; obtain ⟨adL, cpL, rfl, hrL, hcL, hmL⟩ := owns_row (enc := Sp.cells) (k := 2) (fun _ => rfl) hoL; refine Blk.thru (b := w.heap.size) (arr := ?_) (t := ?_) ?_ hbL ?_; rotate_left 2; (focus (exact blk)); intro xa; have xac0 := xa.cell 0; have xaf0 := xa.free 0; have xac1 := xa.cell 1; have xaf1 := xa.free 1; have xac2 := xa.cell 2; have xaf2 := xa.free 2; have xal := xa.lt; simp at xac0 xac1 xac2; refine Blk.thru (b := (w.heap.size + 1)) (arr := ?_) (t := ?_) ?_ hbL ?_; rotate_left 2; (focus (exact blk)); intro xb; have xbc0 := xb.cell 0; have xbf0 := xb.free 0; have xbc1 := xb.cell 1; have xbf1 := xb.free 1; have xbl := xb.lt; simp at xbc0 xbc1))
  obtain ⟨gL, curL, cp', hv, hgB, _, _, qL, htk⟩ := owns_head (x := ⟨lo, hi⟩) (xs := []) hoL rfl
  injection hv with hv1 hv2 hv3
  subst hv1 hv3
  have cL0 : curL[0]? = some (.int .i64 lo) := take_at htk rfl
  have cL1 : curL[1]? = some (.int .i64 hi) := take_at htk rfl
  refine at_world (S := fun X => Blk X gL curL 23 ∧ Blk X w.heap.size #[.slice s.aw h.warm.length s.cw, .slice s.ag h.gauges.length s.cg, .slice s.af h.flows.length s.cf] 85 ∧ Blk X (w.heap.size + 1) #[.int .i64 tx, .int .i64 ty] 23 ∧ Kept w X) ⟨qL, xa, xb, by exact kpt⟩ ?_
  clear hoL hrL hb0 hb1 hbL qL htk KL KG ua ub va vb xa xb
  rintro X ⟨qL, q2, q3, hk⟩
  have hlen := HLEN.out
  have hal := fun i (hi : i < h.gauges.length) => (al_bd HO.out hi (show 0 < h.warm.length by rw [H1.out]; decide)).2.2.2
  have hB := q3.lt
  clear hlen
  have q2c0 := q2.cell 0
  have q2f0 := q2.free 0
  have q2c1 := q2.cell 1
  have q2f1 := q2.free 1
  have q2c2 := q2.cell 2
  have q2f2 := q2.free 2
  have q2l := q2.lt
  simp at q2c0 q2c1 q2c2
  have q3c0 := q3.cell 0
  have q3f0 := q3.free 0
  have q3c1 := q3.cell 1
  have q3f1 := q3.free 1
  have q3l := q3.lt
  simp at q3c0 q3c1
  go_upto_block 0 with fail
  refine seg_may (h := h) (s := s) (w := w) (tx := tx) (ty := ty) (E := 0) _ rfl _ hg3 ?_ ?_ ?_ ?_ q2 q3 hk ?_ ?_
  · intro i hi; have := hal i hi; omega
  · intro i hi hb
    first | rfl | (have := bad_gauge HBV.out H1.out hi hb HS.out; rw [HE.out] at this; exact this)
  · intro i hi W hW
    have := f_Amounts h s W (HH.out.later hW) (i : Int) 0
    simpa using this
  · intro i hi
    have e1 : inB (i : Int) 0 (h.gauges.length - 1) = true := by rw [inB_iff]; omega
    have e2 : inB (0 : Int) 0 (h.warm.length - 1) = true := by rw [inB_iff, H1.out]; omega
    simp [amtE, HBV.out, e1, e2]
  · intros
    rename_i hkR
    go_ret
    exact ⟨rfl, hkR⟩
  clear q2 q3 q2c0 q2f0 q2c1 q2f1 q2c2 q2f2 q2l q3c0 q3f0 q3c1 q3f1 q3l
  rintro adM cpM _ _ _ _ _ _ _ _ _ _ _ _ _ _ _ _ _ _ _ _ _ _ _ _ _ _ _ _ _ _ _ _ _ _ _ _ _ _ _ _ _ wc ⟨hgood, hown, q2, q3, hkX⟩
  dsimp only
  have hlen := HLEN.out
  rw [hlen] at hown ⊢
  obtain ⟨gM, curM, cp_, hv, hgB, hcp, hcm, qM, htk⟩ := owns_head (x := ⟨alLo h 0 0, alHi h 0 0⟩) (xs := [⟨alLo h 1 0, alHi h 1 0⟩]) hown rfl
  injection hv with hv1 hv2 hv3
  subst hv1 hv3
  have m0 : curM[0]? = some (.int .i64 (alLo h 0 0)) := take_at htk rfl
  have m1 : curM[1]? = some (.int .i64 (alHi h 0 0)) := take_at htk rfl
  have m2 : curM[2]? = some (.int .i64 (alLo h 1 0)) := take_at htk rfl
  have m3 : curM[3]? = some (.int .i64 (alHi h 1 0)) := take_at htk rfl
  have bd0 := hal 0 (by omega)
  have bd1 := hal 1 (by omega)
  have gd0 := hgood 0 (by omega)
  have gd1 := hgood 1 (by omega)
  have JU := just_two HBV.out H1.out hlen HS.out (fun i hi => (hgood i hi).1)
  have lF := come_bd HO.out 0 (tt h 0) (tt h 1) h.flows.length
  rw [← come_all] at lF
  have KC0 : ∀ W, Kept w W → Calls Try.prog 74 #[.agg #[.slice s.aw h.warm.length s.cw, .slice s.ag h.gauges.length s.cg, .slice s.af h.flows.length s.cf], .int .i64 0] W fun e w' => e = .returned (.int .i64 (come h 0 (tt h 0) (tt h 1))) ∧ Kept W w' := fun W hW => by have := o_come h s W (HH.out.later hW) HO.out H1.out 0 (by omega); simpa using this
  obtain ⟨F, hF⟩ : ∃ n, n = come h 0 (tt h 0) (tt h 1) := ⟨_, rfl⟩
  rw [← hF] at JU KC0 lF
  have KC0 := Lib.hid KC0
  obtain ⟨a, ha⟩ : ∃ n, n = alLo h 0 0 := ⟨_, rfl⟩
  rw [← ha] at m0 JU bd0 gd0
  obtain ⟨b, hb⟩ : ∃ n, n = alHi h 0 0 := ⟨_, rfl⟩
  rw [← hb] at m1 JU bd0 gd0
  obtain ⟨c, hc⟩ : ∃ n, n = alLo h 1 0 := ⟨_, rfl⟩
  rw [← hc] at m2 JU bd1 gd1
  obtain ⟨d, hd⟩ : ∃ n, n = alHi h 1 0 := ⟨_, rfl⟩
  rw [← hd] at m3 JU bd1 gd1
  have JU := Lib.hid JU
  have M0 := Lib.hid m0
  have M1 := Lib.hid m1
  have M2 := Lib.hid m2
  have M3 := Lib.hid m3
  clear hlen hv2 htk hown hgood hal hF ha hb hc hd m0 m1 m2 m3
  have hmm := @run_makeMap Try.prog
  go_upto_region 23 with fail
  refine at_world (S := fun Y => InKeys Try.prog 3 4 Y wc.heap.size 0 (fun _ => False) ∧ Blk Y gM curM 23 ∧ Blk Y w.heap.size #[.slice s.aw h.warm.length s.cw, .slice s.ag h.gauges.length s.cg, .slice s.af h.flows.length s.cf] 85 ∧ Blk Y (w.heap.size + 1) #[.int .i64 tx, .int .i64 ty] 23 ∧ Kept X Y) ⟨InKeys.made rfl, by exact blkd, by exact blkd, by exact blkd, by exact kpt⟩ ?_
  have hXs := hkX.size
  have hgMl := qM.lt
  clear hmm qM q2 q3 hkX
  rintro Y ⟨hin, qM, q2, q3, hkX⟩
  obtain ⟨bm, hbm⟩ : ∃ n, n = wc.heap.size := ⟨_, rfl⟩
  rw [← hbm] at hin hXs hgMl ⊢
  clear hbm
  have hkw := Kept.drop hk hkX
  have q2c0 := q2.cell 0
  have q2f0 := q2.free 0
  have q2c1 := q2.cell 1
  have q2f1 := q2.free 1
  have q2c2 := q2.cell 2
  have q2f2 := q2.free 2
  have q2l := q2.lt
  simp at q2c0 q2c1 q2c2
  go_upto_region 26 with (go_at_call 74; (with_reducible refine (KC0.out _ (by exact kpt)).mono ?_); rintro e wA ⟨rfl, hbA⟩; refine Blk.thru (b := w.heap.size) (arr := ?_) (t := ?_) ?_ hbA ?_; rotate_left 2; (focus (exact blk)); intro hbAn2; have hbAn2c0 := hbAn2.cell 0; have hbAn2f0 := hbAn2.free 0; have hbAn2c1 := hbAn2.cell 1; have hbAn2f1 := hbAn2.free 1; have hbAn2c2 := hbAn2.cell 2; have hbAn2f2 := hbAn2.free 2; have hbAn2l := hbAn2.lt; simp at hbAn2c0 hbAn2c1 hbAn2c2)
  refine at_world (S := fun V => InKeys Try.prog 3 4 V bm 0 (fun _ => False) ∧ Blk V gM curM 23 ∧ Blk V w.heap.size #[.slice s.aw h.warm.length s.cw, .slice s.ag h.gauges.length s.cg, .slice s.af h.flows.length s.cf] 85 ∧ Blk V (w.heap.size + 1) #[.int .i64 tx, .int .i64 ty] 23 ∧ Kept X V) ⟨hin.keep (by exact kpt), by exact blkd, by exact blkd, by exact blkd, by exact kpt⟩ ?_
  clear hbAn2 hbA KC0 hin qM q2 q3 hkX hkw q2c0 q2f0 q2c1 q2f1 q2c2 q2f2 q2l hbAn2c0 hbAn2f0 hbAn2c1 hbAn2f1 hbAn2c2 hbAn2f2 hbAn2l
  rintro V ⟨hin, qM, q2, q3, hkX⟩
  have e0 := qM.cell 0
  rw [M0.out] at e0
  go_upto_block 2 with fail
  clear e0
  refine seg_lost2 (w := w) (Z := X) (gM := gM) (bm := bm) (cpM := cpM) _ rfl _ hcp hcm M0.out M1.out M2.out M3.out (by omega) (by omega) lF (by omega) (by have := q3.lt; omega) (by omega) hin qM q3 hkX ?_
  clear hin qM q2 q3 hkX
  rintro _ _ _ _ _ _ _ _ _ _ _ _ _ _ _ _ _ _ _ _ _ _ _ _ _ _ _ _ _ _ _ _ _ _ _ _ _ _ _ _ _ _ _ _ _ _ _ _ _ _ _ _ _ _ _ _ _ _ _ _ _ _ wd ⟨⟨n, hn, hin⟩, q3, hkX⟩
  have hkw := Kept.drop hk hkX
  go_upto_block 8 with (at_range; refine wpList_range_keys _ rfl _ _ rfl 3 4 keyedIn Try.underlying130 bm n (Lost2 a b c d F) rfl hin ?_; intro we cnt hcn hon hge hse; have hke : Kept wd we := Below.grown (Below.refl _ _) hge (Nat.le_refl _) (fun k h => by cases h); go_frame)
  have q3e := q3.keep hke
  have hwX := hk.size
  have hXd := hkX.size
  have hbq := hin.lt
  have qLe := (qL.keep hkX).keep hke
  have hgl := qL.lt
  refine seg_count (w := w) (bm := bm) (rr := wd.heap.size) (nn := n) (ln := 1) (cpL := cpL) (cnt0 := cnt) (gL := gL) (curL := curL) (adL := some ⟨gL, 0, none⟩) (tx := tx) (ty := ty) (E := 0) (lo := lo) (hi := hi) (S := Lost2 a b c d F) _ rfl _ (by omega) (by omega) (by omega) hon (.inl ⟨rfl, rfl, rfl, cL0, cL1, ?_⟩) (fun _ => qLe) (by omega) q3e (Kept.drop hkw hke) ?_
  · intro x hS h1 h2
    obtain ⟨_, _, j3⟩ := JU.out
    obtain ⟨lo_, hi_, el, _, _, hJ⟩ := j3 HE.out
    rw [HLL.out] at el
    injection el with el _
    injection el with el1 el2
    subst el1 el2
    exact (hJ x).1 ⟨hS, h1, h2⟩
  clear hon q3e hin q3 hkX qLe
  rintro vs _ _ _ _ _ _ _ _ _ _ _ _ _ _ _ _ _ _ _ _ _ _ _ _ _ _ _ _ _ _ _ _ _ _ _ _ _ _ _ _ _ wf ⟨hnd, hall, hLf, q3, hkf⟩
  obtain ⟨lo_, hi_, el, hbd, hcnt⟩ := JU.out.count HE.out hnd hall
  rw [HLL.out] at el
  injection el with el _
  injection el with el1 el2
  subst el1 el2
  obtain ⟨K, hK⟩ : ∃ K : Int, K = ((vs.filter fun n => decide (tx ≤ n) && decide (n ≤ ty)).length : Int) := ⟨_, rfl⟩
  rw [← hK] at hcnt ⊢
  clear hK hnd hall hgl
  have qLf := hLf rfl
  clear hLf
  have d0 : (K == 0) = false := by simp; omega
  have wA1 := i64_inH (n := hi - lo) (by omega)
  have wA2 := i64_inH (n := hi - lo + 1) (by omega)
  have d1 : (hi - lo + 1 == K) = true := by simp; omega
  have d2 : decide (hi - lo + 1 = K) = true := by simp; omega
  go_upto_region 50 with fail
  refine at_world (S := fun T => Blk T gL curL 23 ∧ Kept w T) ⟨qLf, hkf⟩ ?_
  clear q3 hkf qLf qL
  rintro T ⟨qLf, hkf⟩
  have y0 := fun g_ : Later T => (qLf.later g_).cell 0
  have y1 := fun g_ : Later T => (qLf.later g_).cell 1
  rw [cL0] at y0
  rw [cL1] at y1
  refine Later.region (by kernel_rfl) (by kernel_rfl) ?_
  repeat (first | go_big_quiet_skip | (go_big_quiet_want; go_big_quiet_op; first | go_big_quiet_on | (apply Exists.intro; refine ⟨fun g_ => ?_, ?_⟩; (focus (first | fail)); go_big_quiet_on)))
  refine wpQuiet_nil ?_
  intro gg
  have hkg := Kept.drop hkf gg.ok
  go_wp2
  go_ret
  exact ⟨rfl, hkg⟩

theorem law_GasExact_ok0_3 (h : Hist) (s : Bal.Gas.Spot) (tx ty : Int) (w : World) (hh : HistAt h s w) (hg : greatH h = false) (h1 : h.warm.length = 1) (hlen : h.gauges.length = 3) (hb : histB h = true) (hs : spanIn tx ty 0 1000000000000 = true) (hE : leaksE h tx ty = 0) (lo hi : Int) (hl : leaksL h tx ty = [⟨lo, hi⟩]) : Calls Try.prog 15 #[.agg #[.slice s.aw h.warm.length s.cw, .slice s.ag h.gauges.length s.cg, .slice s.af h.flows.length s.cf], .agg #[.int .i64 tx, .int .i64 ty]] w fun e w' => e = .returned (.bool true) ∧ Kept w w' := by
  have h2 : ¬ h.gauges.length < 2 := by omega
  have h3 : ¬ 3 < h.gauges.length := by omega
  have hcw := hh.wc
  have hcm := hh.wm
  have hgc := hh.gc
  have hgm := hh.gm
  have hfc := hh.fc
  have hfm := hh.fm
  unfold maxLen at hcm hgm hfm
  have KG := Lib.hid (show ∀ W, Kept w W → Calls Try.prog 55 #[.agg #[.slice s.aw h.warm.length s.cw, .slice s.ag h.gauges.length s.cg, .slice s.af h.flows.length s.cf]] W fun e w' => e = .returned (.bool false) ∧ Kept W w' from fun W hW => by rw [← hg]; exact r_GreatH h s W (hh.later hW))
  have n1 : ((h.warm.length : Int) != 1) = false := by simp; omega
  have n2 : decide ((h.gauges.length : Int) < 2) = false := by simp; omega
  have n3 : decide ((3 : Int) < (h.gauges.length : Int)) = false := by simp; omega
  have ho := histB_ok hb
  have KL := Lib.hid (show ∀ W, Kept w W → Calls Try.prog 58 #[.agg #[.slice s.aw h.warm.length s.cw, .slice s.ag h.gauges.length s.cg, .slice s.af h.flows.length s.cf], .agg #[.int .i64 tx, .int .i64 ty]] W fun e w' => ∃ v, e = .returned (.tuple #[v, .int .i64 0]) ∧ w'.ownsRow W.heap.size 23 2 (v) [(⟨lo, hi⟩ : Sp)].length ([(⟨lo, hi⟩ : Sp)].flatMap Sp.cells) ∧ Kept W w' from fun W hW => by have := f_Leaks h s tx ty W (hh.later hW); rw [hE, hl] at this; exact this)
  have HH := Lib.hid hh
  have HO := Lib.hid ho
  have HBV := Lib.hid hb
  have HS := Lib.hid hs
  have HE := Lib.hid hE
  have HLL := Lib.hid hl
  have H1 := Lib.hid h1
  have HLEN := Lib.hid hlen
  have hg3 : h.gauges.length ≤ 3 := by omega
  clear hg hb hs hE hl ho hh h1 h2 h3 hlen
  go_enter Try.func15, Try.ntmps15
  go_upto_region 9 with (first | (go_at_call 68; (with_reducible refine (o_alive _).mono ?_); rintro e w0 ⟨rfl, hb0⟩; refine Blk.thru (b := w.heap.size) (arr := ?_) (t := ?_) ?_ hb0 ?_; rotate_left 2; (focus (exact blk)); intro ua; have uac0 := ua.cell 0; have uaf0 := ua.free 0; have uac1 := ua.cell 1; have uaf1 := ua.free 1; have uac2 := ua.cell 2; have uaf2 := ua.free 2; have ual := ua.lt; simp at uac0 uac1 uac2; refine Blk.thru (b := (w.heap.size + 1)) (arr := ?_) (t := ?_) ?_ hb0 ?_; rotate_left 2; (focus (exact blk)); intro ub; have ubc0 := ub.cell 0; have ubf0 := ub.free 0; have ubc1 := ub.cell 1; have ubf1 := ub.free 1; have ubl := ub.lt; simp at ubc0 ubc1) | (go_at_call 55; (with_reducible refine (KG.out _ (by exact kpt)).mono ?_); rintro e w1 ⟨rfl, hb1⟩; refine Blk.thru (b := w.heap.size) (arr := ?_) (t := ?_) ?_ hb1 ?_; rotate_left 2; (focus (exact blk)); intro va; have vac0 := va.cell 0; have vaf0 := va.free 0; have vac1 := va.cell 1; have vaf1 := va.free 1; have vac2 := va.cell 2; have vaf2 := va.free 2; have val := va.lt; simp at vac0 vac1 vac2; refine Blk.thru (b := (w.heap.size + 1)) (arr := ?_) (t := ?_) ?_ hb1 ?_; rotate_left 2; (focus (exact blk)); intro vb; have vbc0 := vb.cell 0; have vbf0 := vb.free 0; have vbc1 := vb.cell 1; have vbf1 := vb.free 1; have vbl := vb.lt; simp at vbc0 vbc1) | (go_at_call 58; (with_reducible refine (KL.out _ (by exact kpt)).mono ?_); rintro e wL ⟨vL, rfl, hoL, hbL⟩; obtain ⟨adL, cpL, rfl, hrL, hcL, hmL⟩ := owns_row (enc := Sp.cells) (k := 2) (fun _ => rfl) hoL; refine Blk.thru (b := w.heap.size) (arr := ?_) (t := ?_) ?_ hbL ?_; rotate_left 2; (focus (exact blk)); intro xa; have xac0 := xa.cell 0; have xaf0 := xa.free 0; have xac1 := xa.cell 1; have xaf1 := xa.free 1; have xac2 := xa.cell 2; have xaf2 := xa.free 2; have xal := xa.lt; simp at xac0 xac1 xac2; refine Blk.thru (b := (w.heap.size + 1)) (arr := ?_) (t := ?_) ?_ hbL ?_; rotate_left 2; (focus (exact blk)); intro xb; have xbc0 := xb.cell 0; have xbf0 := xb.free 0; have xbc1 := xb.cell 1; have xbf1 := xb.free 1; have xbl := xb.lt; simp at xbc0 xbc1))
  obtain ⟨gL, curL, cp', hv, hgB, _, _, qL, htk⟩ := owns_head (x := ⟨lo, hi⟩) (xs := []) hoL rfl
  injection hv with hv1 hv2 hv3
  subst hv1 hv3
  have cL0 : curL[0]? = some (.int .i64 lo) := take_at htk rfl
  have cL1 : curL[1]? = some (.int .i64 hi) := take_at htk rfl
  refine at_world (S := fun X => Blk X gL curL 23 ∧ Blk X w.heap.size #[.slice s.aw h.warm.length s.cw, .slice s.ag h.gauges.length s.cg, .slice s.af h.flows.length s.cf] 85 ∧ Blk X (w.heap.size + 1) #[.int .i64 tx, .int .i64 ty] 23 ∧ Kept w X) ⟨qL, xa, xb, by exact kpt⟩ ?_
  clear hoL hrL hb0 hb1 hbL qL htk KL KG ua ub va vb xa xb
  rintro X ⟨qL, q2, q3, hk⟩
  have hlen := HLEN.out
  have hal := fun i (hi : i < h.gauges.length) => (al_bd HO.out hi (show 0 < h.warm.length by rw [H1.out]; decide)).2.2.2
  have hB := q3.lt
  clear hlen
  have q2c0 := q2.cell 0
  have q2f0 := q2.free 0
  have q2c1 := q2.cell 1
  have q2f1 := q2.free 1
  have q2c2 := q2.cell 2
  have q2f2 := q2.free 2
  have q2l := q2.lt
  simp at q2c0 q2c1 q2c2
  have q3c0 := q3.cell 0
  have q3f0 := q3.free 0
  have q3c1 := q3.cell 1
  have q3f1 := q3.free 1
  have q3l := q3.lt
  simp at q3c0 q3c1
  go_upto_block 0 with fail
  refine seg_may (h := h) (s := s) (w := w) (tx := tx) (ty := ty) (E := 0) _ rfl _ hg3 ?_ ?_ ?_ ?_ q2 q3 hk ?_ ?_
  · intro i hi; have := hal i hi; omega
  · intro i hi hb
    first | rfl | (have := bad_gauge HBV.out H1.out hi hb HS.out; rw [HE.out] at this; exact this)
  · intro i hi W hW
    have := f_Amounts h s W (HH.out.later hW) (i : Int) 0
    simpa using this
  · intro i hi
    have e1 : inB (i : Int) 0 (h.gauges.length - 1) = true := by rw [inB_iff]; omega
    have e2 : inB (0 : Int) 0 (h.warm.length - 1) = true := by rw [inB_iff, H1.out]; omega
    simp [amtE, HBV.out, e1, e2]
  · intros
    rename_i hkR
    go_ret
    exact ⟨rfl, hkR⟩
  clear q2 q3 q2c0 q2f0 q2c1 q2f1 q2c2 q2f2 q2l q3c0 q3f0 q3c1 q3f1 q3l
  rintro adM cpM _ _ _ _ _ _ _ _ _ _ _ _ _ _ _ _ _ _ _ _ _ _ _ _ _ _ _ _ _ _ _ _ _ _ _ _ _ _ _ _ _ wc ⟨hgood, hown, q2, q3, hkX⟩
  dsimp only
  have hlen := HLEN.out
  rw [hlen] at hown ⊢
  obtain ⟨gM, curM, cp_, hv, hgB, hcp, hcm, qM, htk⟩ := owns_head (x := ⟨alLo h 0 0, alHi h 0 0⟩) (xs := [⟨alLo h 1 0, alHi h 1 0⟩, ⟨alLo h 2 0, alHi h 2 0⟩]) hown rfl
  injection hv with hv1 hv2 hv3
  subst hv1 hv3
  have m0 : curM[0]? = some (.int .i64 (alLo h 0 0)) := take_at htk rfl
  have m1 : curM[1]? = some (.int .i64 (alHi h 0 0)) := take_at htk rfl
  have m2 : curM[2]? = some (.int .i64 (alLo h 1 0)) := take_at htk rfl
  have m3 : curM[3]? = some (.int .i64 (alHi h 1 0)) := take_at htk rfl
  have m4 : curM[4]? = some (.int .i64 (alLo h 2 0)) := take_at htk rfl
  have m5 : curM[5]? = some (.int .i64 (alHi h 2 0)) := take_at htk rfl
  have bd0 := hal 0 (by omega)
  have bd1 := hal 1 (by omega)
  have bd2 := hal 2 (by omega)
  have gd0 := hgood 0 (by omega)
  have gd1 := hgood 1 (by omega)
  have gd2 := hgood 2 (by omega)
  have JU := just_three HBV.out H1.out hlen HS.out (fun i hi => (hgood i hi).1)
  have lF := come_bd HO.out 0 (tt h 0) (tt h 1) h.flows.length
  rw [← come_all] at lF
  have KC0 : ∀ W, Kept w W → Calls Try.prog 74 #[.agg #[.slice s.aw h.warm.length s.cw, .slice s.ag h.gauges.length s.cg, .slice s.af h.flows.length s.cf], .int .i64 0] W fun e w' => e = .returned (.int .i64 (come h 0 (tt h 0) (tt h 1))) ∧ Kept W w' := fun W hW => by have := o_come h s W (HH.out.later hW) HO.out H1.out 0 (by omega); simpa using this
  have lG := come_bd HO.out 0 (tt h 1) (tt h 2) h.flows.length
  rw [← come_all] at lG
  have KC1 : ∀ W, Kept w W → Calls Try.prog 74 #[.agg #[.slice s.aw h.warm.length s.cw, .slice s.ag h.gauges.length s.cg, .slice s.af h.flows.length s.cf], .int .i64 1] W fun e w' => e = .returned (.int .i64 (come h 0 (tt h 1) (tt h 2))) ∧ Kept W w' := fun W hW => by have := o_come h s W (HH.out.later hW) HO.out H1.out 1 (by omega); simpa using this
  obtain ⟨G, hG⟩ : ∃ n, n = come h 0 (tt h 1) (tt h 2) := ⟨_, rfl⟩
  rw [← hG] at JU KC1 lG
  have KC1 := Lib.hid KC1
  obtain ⟨F, hF⟩ : ∃ n, n = come h 0 (tt h 0) (tt h 1) := ⟨_, rfl⟩
  rw [← hF] at JU KC0 lF
  have KC0 := Lib.hid KC0
  obtain ⟨a, ha⟩ : ∃ n, n = alLo h 0 0 := ⟨_, rfl⟩
  rw [← ha] at m0 JU bd0 gd0
  obtain ⟨b, hb⟩ : ∃ n, n = alHi h 0 0 := ⟨_, rfl⟩
  rw [← hb] at m1 JU bd0 gd0
  obtain ⟨c, hc⟩ : ∃ n, n = alLo h 1 0 := ⟨_, rfl⟩
  rw [← hc] at m2 JU bd1 gd1
  obtain ⟨d, hd⟩ : ∃ n, n = alHi h 1 0 := ⟨_, rfl⟩
  rw [← hd] at m3 JU bd1 gd1
  obtain ⟨e, he⟩ : ∃ n, n = alLo h 2 0 := ⟨_, rfl⟩
  rw [← he] at m4 JU bd2 gd2
  obtain ⟨f, hf⟩ : ∃ n, n = alHi h 2 0 := ⟨_, rfl⟩
  rw [← hf] at m5 JU bd2 gd2
  have JU := Lib.hid JU
  have M0 := Lib.hid m0
  have M1 := Lib.hid m1
  have M2 := Lib.hid m2
  have M3 := Lib.hid m3
  have M4 := Lib.hid m4
  have M5 := Lib.hid m5
  clear hlen hv2 htk hown hgood hal hF hG ha hb hc hd he hf m0 m1 m2 m3 m4 m5
  have hmm := @run_makeMap Try.prog
  go_upto_region 23 with fail
  refine at_world (S := fun Y => InKeys Try.prog 3 4 Y wc.heap.size 0 (fun _ => False) ∧ Blk Y gM curM 23 ∧ Blk Y w.heap.size #[.slice s.aw h.warm.length s.cw, .slice s.ag h.gauges.length s.cg, .slice s.af h.flows.length s.cf] 85 ∧ Blk Y (w.heap.size + 1) #[.int .i64 tx, .int .i64 ty] 23 ∧ Kept X Y) ⟨InKeys.made rfl, by exact blkd, by exact blkd, by exact blkd, by exact kpt⟩ ?_
  have hXs := hkX.size
  have hgMl := qM.lt
  clear hmm qM q2 q3 hkX
  rintro Y ⟨hin, qM, q2, q3, hkX⟩
  obtain ⟨bm, hbm⟩ : ∃ n, n = wc.heap.size := ⟨_, rfl⟩
  rw [← hbm] at hin hXs hgMl ⊢
  clear hbm
  have hkw := Kept.drop hk hkX
  have q2c0 := q2.cell 0
  have q2f0 := q2.free 0
  have q2c1 := q2.cell 1
  have q2f1 := q2.free 1
  have q2c2 := q2.cell 2
  have q2f2 := q2.free 2
  have q2l := q2.lt
  simp at q2c0 q2c1 q2c2
  go_upto_region 26 with (first | (go_at_call 74; (with_reducible refine (KC0.out _ (by exact kpt)).mono ?_); rintro e wA ⟨rfl, hbA⟩; refine Blk.thru (b := w.heap.size) (arr := ?_) (t := ?_) ?_ hbA ?_; rotate_left 2; (focus (exact blk)); intro hbAn2; have hbAn2c0 := hbAn2.cell 0; have hbAn2f0 := hbAn2.free 0; have hbAn2c1 := hbAn2.cell 1; have hbAn2f1 := hbAn2.free 1; have hbAn2c2 := hbAn2.cell 2; have hbAn2f2 := hbAn2.free 2; have hbAn2l := hbAn2.lt; simp at hbAn2c0 hbAn2c1 hbAn2c2) | (go_at_call 74; (with_reducible refine (KC1.out _ (by exact kpt)).mono ?_); rintro e wB ⟨rfl, hbB⟩; refine Blk.thru (b := w.heap.size) (arr := ?_) (t := ?_) ?_ hbB ?_; rotate_left 2; (focus (exact blk)); intro hbBn2; have hbBn2c0 := hbBn2.cell 0; have hbBn2f0 := hbBn2.free 0; have hbBn2c1 := hbBn2.cell 1; have hbBn2f1 := hbBn2.free 1; have hbBn2c2 := hbBn2.cell 2; have hbBn2f2 := hbBn2.free 2; have hbBn2l := hbBn2.lt; simp at hbBn2c0 hbBn2c1 hbBn2c2))
  refine at_world (S := fun V => InKeys Try.prog 3 4 V bm 0 (fun _ => False) ∧ Blk V gM curM 23 ∧ Blk V w.heap.size #[.slice s.aw h.warm.length s.cw, .slice s.ag h.gauges.length s.cg, .slice s.af h.flows.length s.cf] 85 ∧ Blk V (w.heap.size + 1) #[.int .i64 tx, .int .i64 ty] 23 ∧ Kept X V) ⟨hin.keep (by exact kpt), by exact blkd, by exact blkd, by exact blkd, by exact kpt⟩ ?_
  clear hbAn2 hbA hbBn2 hbB KC0 KC1 hin qM q2 q3 hkX hkw q2c0 q2f0 q2c1 q2f1 q2c2 q2f2 q2l hbAn2c0 hbAn2f0 hbAn2c1 hbAn2f1 hbAn2c2 hbAn2f2 hbAn2l hbBn2c0 hbBn2f0 hbBn2c1 hbBn2f1 hbBn2c2 hbBn2f2 hbBn2l
  rintro V ⟨hin, qM, q2, q3, hkX⟩
  have e0 := qM.cell 0
  rw [M0.out] at e0
  go_upto_block 2 with fail
  clear e0
  refine seg_lost3 (w := w) (Z := X) (gM := gM) (bm := bm) (cpM := cpM) _ rfl _ hcp hcm M0.out M1.out M2.out M3.out M4.out M5.out (by omega) (by omega) (by omega) lF lG (by omega) (by have := q3.lt; omega) (by omega) hin qM q3 hkX ?_
  clear hin qM q2 q3 hkX
  rintro _ _ _ _ _ _ _ _ _ _ _ _ _ _ _ _ _ _ _ _ _ _ _ _ _ _ _ _ _ _ _ _ _ _ _ _ _ _ _ _ _ _ _ _ _ _ _ _ _ _ _ _ _ _ _ _ _ _ _ _ _ _ wd ⟨⟨n, hn, hin⟩, q3, hkX⟩
  have hkw := Kept.drop hk hkX
  go_upto_block 8 with (at_range; refine wpList_range_keys _ rfl _ _ rfl 3 4 keyedIn Try.underlying130 bm n (Lost3 a b c d e f F G) rfl hin ?_; intro we cnt hcn hon hge hse; have hke : Kept wd we := Below.grown (Below.refl _ _) hge (Nat.le_refl _) (fun k h => by cases h); go_frame)
  have q3e := q3.keep hke
  have hwX := hk.size
  have hXd := hkX.size
  have hbq := hin.lt
  have qLe := (qL.keep hkX).keep hke
  have hgl := qL.lt
  refine seg_count (w := w) (bm := bm) (rr := wd.heap.size) (nn := n) (ln := 1) (cpL := cpL) (cnt0 := cnt) (gL := gL) (curL := curL) (adL := some ⟨gL, 0, none⟩) (tx := tx) (ty := ty) (E := 0) (lo := lo) (hi := hi) (S := Lost3 a b c d e f F G) _ rfl _ (by omega) (by omega) (by omega) hon (.inl ⟨rfl, rfl, rfl, cL0, cL1, ?_⟩) (fun _ => qLe) (by omega) q3e (Kept.drop hkw hke) ?_
  · intro x hS h1 h2
    obtain ⟨_, _, j3⟩ := JU.out
    obtain ⟨lo_, hi_, el, _, _, hJ⟩ := j3 HE.out
    rw [HLL.out] at el
    injection el with el _
    injection el with el1 el2
    subst el1 el2
    exact (hJ x).1 ⟨hS, h1, h2⟩
  clear hon q3e hin q3 hkX qLe
  rintro vs _ _ _ _ _ _ _ _ _ _ _ _ _ _ _ _ _ _ _ _ _ _ _ _ _ _ _ _ _ _ _ _ _ _ _ _ _ _ _ _ _ wf ⟨hnd, hall, hLf, q3, hkf⟩
  obtain ⟨lo_, hi_, el, hbd, hcnt⟩ := JU.out.count HE.out hnd hall
  rw [HLL.out] at el
  injection el with el _
  injection el with el1 el2
  subst el1 el2
  obtain ⟨K, hK⟩ : ∃ K : Int, K = ((vs.filter fun n => decide (tx ≤ n) && decide (n ≤ ty)).length : Int) := ⟨_, rfl⟩
  rw [← hK] at hcnt ⊢
  clear hK hnd hall hgl
  have qLf := hLf rfl
  clear hLf
  have d0 : (K == 0) = false := by simp; omega
  have wA1 := i64_inH (n := hi - lo) (by omega)
  have wA2 := i64_inH (n := hi - lo + 1) (by omega)
  have d1 : (hi - lo + 1 == K) = true := by simp; omega
  have d2 : decide (hi - lo + 1 = K) = true := by simp; omega
  go_upto_region 50 with fail
  refine at_world (S := fun T => Blk T gL curL 23 ∧ Kept w T) ⟨qLf, hkf⟩ ?_
  clear q3 hkf qLf qL
  rintro T ⟨qLf, hkf⟩
  have y0 := fun g_ : Later T => (qLf.later g_).cell 0
  have y1 := fun g_ : Later T => (qLf.later g_).cell 1
  rw [cL0] at y0
  rw [cL1] at y1
  refine Later.region (by kernel_rfl) (by kernel_rfl) ?_
  repeat (first | go_big_quiet_skip | (go_big_quiet_want; go_big_quiet_op; first | go_big_quiet_on | (apply Exists.intro; refine ⟨fun g_ => ?_, ?_⟩; (focus (first | fail)); go_big_quiet_on)))
  refine wpQuiet_nil ?_
  intro gg
  have hkg := Kept.drop hkf gg.ok
  go_wp2
  go_ret
  exact ⟨rfl, hkg⟩

theorem law_GasExact_ok6_2 (h : Hist) (s : Bal.Gas.Spot) (tx ty : Int) (w : World) (hh : HistAt h s w) (hg : greatH h = false) (h1 : h.warm.length = 1) (hlen : h.gauges.length = 2) (hb : histB h = true) (hs : spanIn tx ty 0 1000000000000 = true) (hE : leaksE h tx ty = 6) (hl : leaksL h tx ty = []) : Calls Try.prog 15 #[.agg #[.slice s.aw h.warm.length s.cw, .slice s.ag h.gauges.length s.cg, .slice s.af h.flows.length s.cf], .agg #[.int .i64 tx, .int .i64 ty]] w fun e w' => e = .returned (.bool true) ∧ Kept w w' := by
  have h2 : ¬ h.gauges.length < 2 := by omega
  have h3 : ¬ 3 < h.gauges.length := by omega
  have hcw := hh.wc
  have hcm := hh.wm
  have hgc := hh.gc
  have hgm := hh.gm
  have hfc := hh.fc
  have hfm := hh.fm
  unfold maxLen at hcm hgm hfm
  have KG := Lib.hid (show ∀ W, Kept w W → Calls Try.prog 55 #[.agg #[.slice s.aw h.warm.length s.cw, .slice s.ag h.gauges.length s.cg, .slice s.af h.flows.length s.cf]] W fun e w' => e = .returned (.bool false) ∧ Kept W w' from fun W hW => by rw [← hg]; exact r_GreatH h s W (hh.later hW))
  have n1 : ((h.warm.length : Int) != 1) = false := by simp; omega
  have n2 : decide ((h.gauges.length : Int) < 2) = false := by simp; omega
  have n3 : decide ((3 : Int) < (h.gauges.length : Int)) = false := by simp; omega
  have ho := histB_ok hb
  have KL := Lib.hid (show ∀ W, Kept w W → Calls Try.prog 58 #[.agg #[.slice s.aw h.warm.length s.cw, .slice s.ag h.gauges.length s.cg, .slice s.af h.flows.length s.cf], .agg #[.int .i64 tx, .int .i64 ty]] W fun e w' => ∃ v, e = .returned (.tuple #[v, .int .i64 6]) ∧ w'.ownsRow W.heap.size 23 2 (v) ([] : List Sp).length (([] : List Sp).flatMap Sp.cells) ∧ Kept W w' from fun W hW => by have := f_Leaks h s tx ty W (hh.later hW); rw [hE, hl] at this; exact this)
  have HH := Lib.hid hh
  have HO := Lib.hid ho
  have HBV := Lib.hid hb
  have HS := Lib.hid hs
  have HE := Lib.hid hE
  have HLL := Lib.hid hl
  have H1 := Lib.hid h1
  have HLEN := Lib.hid hlen
  have hg3 : h.gauges.length ≤ 3 := by omega
  clear hg hb hs hE hl ho hh h1 h2 h3 hlen
  go_enter Try.func15, Try.ntmps15
  go_upto_region 9 with (first | (go_at_call 68; (with_reducible refine (o_alive _).mono ?_); rintro e w0 ⟨rfl, hb0⟩; refine Blk.thru (b := w.heap.size) (arr := ?_) (t := ?_) ?_ hb0 ?_; rotate_left 2; (focus (exact blk)); intro ua; have uac0 := ua.cell 0; have uaf0 := ua.free 0; have uac1 := ua.cell 1; have uaf1 := ua.free 1; have uac2 := ua.cell 2; have uaf2 := ua.free 2; have ual := ua.lt; simp at uac0 uac1 uac2; refine Blk.thru (b := (w.heap.size + 1)) (arr := ?_) (t := ?_) ?_ hb0 ?_; rotate_left 2; (focus (exact blk)); intro ub; have ubc0 := ub.cell 0; have ubf0 := ub.free 0; have ubc1 := ub.cell 1; have ubf1 := ub.free 1; have ubl := ub.lt; simp at ubc0 ubc1) | (go_at_call 55; (with_reducible refine (KG.out _ (by exact kpt)).mono ?_); rintro e w1 ⟨rfl, hb1⟩; refine Blk.thru (b := w.heap.size) (arr := ?_) (t := ?_) ?_ hb1 ?_; rotate_left 2; (focus (exact blk)); intro va; have vac0 := va.cell 0; have vaf0 := va.free 0; have vac1 := va.cell 1; have vaf1 := va.free 1; have vac2 := va.cell 2; have vaf2 := va.free 2; have val := va.lt; simp at vac0 vac1 vac2; refine Blk.thru (b := (w.heap.size + 1)) (arr := ?_) (t := ?_) ?_ hb1 ?_; rotate_left 2; (focus (exact blk)); intro vb; have vbc0 := vb.cell 0; have vbf0 := vb.free 0; have vbc1 := vb.cell 1; have vbf1 := vb.free 1; have vbl := vb.lt; simp at vbc0 vbc1) | (go_at_call 58; (with_reducible refine (KL.out _ (by exact kpt)).mono ?_); rintro e wL ⟨vL, rfl, hoL, hbL⟩; obtain ⟨adL, cpL, rfl, hrL, hcL, hmL⟩ := owns_row (enc := Sp.cells) (k := 2) (fun _ => rfl) hoL; refine Blk.thru (b := w.heap.size) (arr := ?_) (t := ?_) ?_ hbL ?_; rotate_left 2; (focus (exact blk)); intro xa; have xac0 := xa.cell 0; have xaf0 := xa.free 0; have xac1 := xa.cell 1; have xaf1 := xa.free 1; have xac2 := xa.cell 2; have xaf2 := xa.free 2; have xal := xa.lt; simp at xac0 xac1 xac2; refine Blk.thru (b := (w.heap.size + 1)) (arr := ?_) (t := ?_) ?_ hbL ?_; rotate_left 2; (focus (exact blk)); intro xb; have xbc0 := xb.cell 0; have xbf0 := xb.free 0; have xbc1 := xb.cell 1; have xbf1 := xb.free 1; have xbl := xb.lt; simp at xbc0 xbc1))
  refine at_world (S := fun X => Blk X w.heap.size #[.slice s.aw h.warm.length s.cw, .slice s.ag h.gauges.length s.cg, .slice s.af h.flows.length s.cf] 85 ∧ Blk X (w.heap.size + 1) #[.int .i64 tx, .int .i64 ty] 23 ∧ Kept w X) ⟨xa, xb, by exact kpt⟩ ?_
  clear hoL hrL hb0 hb1 hbL KL KG ua ub va vb xa xb
  rintro X ⟨q2, q3, hk⟩
  have hlen := HLEN.out
  have hal := fun i (hi : i < h.gauges.length) => (al_bd HO.out hi (show 0 < h.warm.length by rw [H1.out]; decide)).2.2.2
  have hB := q3.lt
  clear hlen
  have q2c0 := q2.cell 0
  have q2f0 := q2.free 0
  have q2c1 := q2.cell 1
  have q2f1 := q2.free 1
  have q2c2 := q2.cell 2
  have q2f2 := q2.free 2
  have q2l := q2.lt
  simp at q2c0 q2c1 q2c2
  have q3c0 := q3.cell 0
  have q3f0 := q3.free 0
  have q3c1 := q3.cell 1
  have q3f1 := q3.free 1
  have q3l := q3.lt
  simp at q3c0 q3c1
  go_upto_block 0 with fail
  refine seg_may (h := h) (s := s) (w := w) (tx := tx) (ty := ty) (E := 6) _ rfl _ hg3 ?_ ?_ ?_ ?_ q2 q3 hk ?_ ?_
  · intro i hi; have := hal i hi; omega
  · intro i hi hb
    first | rfl | (have := bad_gauge HBV.out H1.out hi hb HS.out; rw [HE.out] at this; exact this)
  · intro i hi W hW
    have := f_Amounts h s W (HH.out.later hW) (i : Int) 0
    simpa using this
  · intro i hi
    have e1 : inB (i : Int) 0 (h.gauges.length - 1) = true := by rw [inB_iff]; omega
    have e2 : inB (0 : Int) 0 (h.warm.length - 1) = true := by rw [inB_iff, H1.out]; omega
    simp [amtE, HBV.out, e1, e2]
  · intros
    rename_i hkR
    go_ret
    exact ⟨rfl, hkR⟩
  clear q2 q3 q2c0 q2f0 q2c1 q2f1 q2c2 q2f2 q2l q3c0 q3f0 q3c1 q3f1 q3l
  rintro adM cpM _ _ _ _ _ _ _ _ _ _ _ _ _ _ _ _ _ _ _ _ _ _ _ _ _ _ _ _ _ _ _ _ _ _ _ _ _ _ _ _ _ wc ⟨hgood, hown, q2, q3, hkX⟩
  dsimp only
  have hlen := HLEN.out
  rw [hlen] at hown ⊢
  obtain ⟨gM, curM, cp_, hv, hgB, hcp, hcm, qM, htk⟩ := owns_head (x := ⟨alLo h 0 0, alHi h 0 0⟩) (xs := [⟨alLo h 1 0, alHi h 1 0⟩]) hown rfl
  injection hv with hv1 hv2 hv3
  subst hv1 hv3
  have m0 : curM[0]? = some (.int .i64 (alLo h 0 0)) := take_at htk rfl
  have m1 : curM[1]? = some (.int .i64 (alHi h 0 0)) := take_at htk rfl
  have m2 : curM[2]? = some (.int .i64 (alLo h 1 0)) := take_at htk rfl
  have m3 : curM[3]? = some (.int .i64 (alHi h 1 0)) := take_at htk rfl
  have bd0 := hal 0 (by omega)
  have bd1 := hal 1 (by omega)
  have gd0 := hgood 0 (by omega)
  have gd1 := hgood 1 (by omega)
  have JU := just_two HBV.out H1.out hlen HS.out (fun i hi => (hgood i hi).1)
  have lF := come_bd HO.out 0 (tt h 0) (tt h 1) h.flows.length
  rw [← come_all] at lF
  have KC0 : ∀ W, Kept w W → Calls Try.prog 74 #[.agg #[.slice s.aw h.warm.length s.cw, .slice s.ag h.gauges.length s.cg, .slice s.af h.flows.length s.cf], .int .i64 0] W fun e w' => e = .returned (.int .i64 (come h 0 (tt h 0) (tt h 1))) ∧ Kept W w' := fun W hW => by have := o_come h s W (HH.out.later hW) HO.out H1.out 0 (by omega); simpa using this
  obtain ⟨F, hF⟩ : ∃ n, n = come h 0 (tt h 0) (tt h 1) := ⟨_, rfl⟩
  rw [← hF] at JU KC0 lF
  have KC0 := Lib.hid KC0
  obtain ⟨a, ha⟩ : ∃ n, n = alLo h 0 0 := ⟨_, rfl⟩
  rw [← ha] at m0 JU bd0 gd0
  obtain ⟨b, hb⟩ : ∃ n, n = alHi h 0 0 := ⟨_, rfl⟩
  rw [← hb] at m1 JU bd0 gd0
  obtain ⟨c, hc⟩ : ∃ n, n = alLo h 1 0 := ⟨_, rfl⟩
  rw [← hc] at m2 JU bd1 gd1
  obtain ⟨d, hd⟩ : ∃ n, n = alHi h 1 0 := ⟨_, rfl⟩
  rw [← hd] at m3 JU bd1 gd1
  have JU := Lib.hid JU
  have M0 := Lib.hid m0
  have M1 := Lib.hid m1
  have M2 := Lib.hid m2
  have M3 := Lib.hid m3
  clear hlen hv2 htk hown hgood hal hF ha hb hc hd m0 m1 m2 m3
  have hmm := @run_makeMap Try.prog
  go_upto_region 23 with fail
  refine at_world (S := fun Y => InKeys Try.prog 3 4 Y wc.heap.size 0 (fun _ => False) ∧ Blk Y gM curM 23 ∧ Blk Y w.heap.size #[.slice s.aw h.warm.length s.cw, .slice s.ag h.gauges.length s.cg, .slice s.af h.flows.length s.cf] 85 ∧ Blk Y (w.heap.size + 1) #[.int .i64 tx, .int .i64 ty] 23 ∧ Kept X Y) ⟨InKeys.made rfl, by exact blkd, by exact blkd, by exact blkd, by exact kpt⟩ ?_
  have hXs := hkX.size
  have hgMl := qM.lt
  clear hmm qM q2 q3 hkX
  rintro Y ⟨hin, qM, q2, q3, hkX⟩
  obtain ⟨bm, hbm⟩ : ∃ n, n = wc.heap.size := ⟨_, rfl⟩
  rw [← hbm] at hin hXs hgMl ⊢
  clear hbm
  have hkw := Kept.drop hk hkX
  have q2c0 := q2.cell 0
  have q2f0 := q2.free 0
  have q2c1 := q2.cell 1
  have q2f1 := q2.free 1
  have q2c2 := q2.cell 2
  have q2f2 := q2.free 2
  have q2l := q2.lt
  simp at q2c0 q2c1 q2c2
  go_upto_region 26 with (go_at_call 74; (with_reducible refine (KC0.out _ (by exact kpt)).mono ?_); rintro e wA ⟨rfl, hbA⟩; refine Blk.thru (b := w.heap.size) (arr := ?_) (t := ?_) ?_ hbA ?_; rotate_left 2; (focus (exact blk)); intro hbAn2; have hbAn2c0 := hbAn2.cell 0; have hbAn2f0 := hbAn2.free 0; have hbAn2c1 := hbAn2.cell 1; have hbAn2f1 := hbAn2.free 1; have hbAn2c2 := hbAn2.cell 2; have hbAn2f2 := hbAn2.free 2; have hbAn2l := hbAn2.lt; simp at hbAn2c0 hbAn2c1 hbAn2c2)
  refine at_world (S := fun V => InKeys Try.prog 3 4 V bm 0 (fun _ => False) ∧ Blk V gM curM 23 ∧ Blk V w.heap.size #[.slice s.aw h.warm.length s.cw, .slice s.ag h.gauges.length s.cg, .slice s.af h.flows.length s.cf] 85 ∧ Blk V (w.heap.size + 1) #[.int .i64 tx, .int .i64 ty] 23 ∧ Kept X V) ⟨hin.keep (by exact kpt), by exact blkd, by exact blkd, by exact blkd, by exact kpt⟩ ?_
  clear hbAn2 hbA KC0 hin qM q2 q3 hkX hkw q2c0 q2f0 q2c1 q2f1 q2c2 q2f2 q2l hbAn2c0 hbAn2f0 hbAn2c1 hbAn2f1 hbAn2c2 hbAn2f2 hbAn2l
  rintro V ⟨hin, qM, q2, q3, hkX⟩
  have e0 := qM.cell 0
  rw [M0.out] at e0
  go_upto_block 2 with fail
  clear e0
  refine seg_lost2 (w := w) (Z := X) (gM := gM) (bm := bm) (cpM := cpM) _ rfl _ hcp hcm M0.out M1.out M2.out M3.out (by omega) (by omega) lF (by omega) (by have := q3.lt; omega) (by omega) hin qM q3 hkX ?_
  clear hin qM q2 q3 hkX
  rintro _ _ _ _ _ _ _ _ _ _ _ _ _ _ _ _ _ _ _ _ _ _ _ _ _ _ _ _ _ _ _ _ _ _ _ _ _ _ _ _ _ _ _ _ _ _ _ _ _ _ _ _ _ _ _ _ _ _ _ _ _ _ wd ⟨⟨n, hn, hin⟩, q3, hkX⟩
  have hkw := Kept.drop hk hkX
  go_upto_block 8 with (at_range; refine wpList_range_keys _ rfl _ _ rfl 3 4 keyedIn Try.underlying130 bm n (Lost2 a b c d F) rfl hin ?_; intro we cnt hcn hon hge hse; have hke : Kept wd we := Below.grown (Below.refl _ _) hge (Nat.le_refl _) (fun k h => by cases h); go_frame)
  have q3e := q3.keep hke
  have hwX := hk.size
  have hXd := hkX.size
  have hbq := hin.lt
  refine seg_count (w := w) (bm := bm) (rr := wd.heap.size) (nn := n) (ln := 0) (cpL := cpL) (cnt0 := cnt) (gL := 0) (curL := #[]) (adL := adL) (tx := tx) (ty := ty) (E := 6) (lo := 0) (hi := 0) (S := Lost2 a b c d F) _ rfl _ (by omega) (by omega) (by omega) hon (.inr (JU.out.2.1 HE.out)) (fun h => by cases h) (by omega) q3e (Kept.drop hkw hke) ?_
  clear hon q3e hin q3 hkX
  rintro vs _ _ _ _ _ _ _ _ _ _ _ _ _ _ _ _ _ _ _ _ _ _ _ _ _ _ _ _ _ _ _ _ _ _ _ _ _ _ _ _ _ wf ⟨hnd, hall, hLf, q3, hkf⟩
  have hf0 : (vs.filter fun n => decide (tx ≤ n) && decide (n ≤ ty)) = [] := by
    rw [List.filter_eq_nil_iff]
    intro x hx hc
    simp only [Bool.and_eq_true, decide_eq_true_eq] at hc
    exact JU.out.2.1 HE.out x ((hall x).1 hx) hc
  rw [hf0]
  clear hf0 hnd hall hLf
  go_wp2
  go_ret
  exact ⟨rfl, hkf⟩

theorem law_GasExact_ok6_3 (h : Hist) (s : Bal.Gas.Spot) (tx ty : Int) (w : World) (hh : HistAt h s w) (hg : greatH h = false) (h1 : h.warm.length = 1) (hlen : h.gauges.length = 3) (hb : histB h = true) (hs : spanIn tx ty 0 1000000000000 = true) (hE : leaksE h tx ty = 6) (hl : leaksL h tx ty = []) : Calls Try.prog 15 #[.agg #[.slice s.aw h.warm.length s.cw, .slice s.ag h.gauges.length s.cg, .slice s.af h.flows.length s.cf], .agg #[.int .i64 tx, .int .i64 ty]] w fun e w' => e = .returned (.bool true) ∧ Kept w w' := by
  have h2 : ¬ h.gauges.length < 2 := by omega
  have h3 : ¬ 3 < h.gauges.length := by omega
  have hcw := hh.wc
  have hcm := hh.wm
  have hgc := hh.gc
  have hgm := hh.gm
  have hfc := hh.fc
  have hfm := hh.fm
  unfold maxLen at hcm hgm hfm
  have KG := Lib.hid (show ∀ W, Kept w W → Calls Try.prog 55 #[.agg #[.slice s.aw h.warm.length s.cw, .slice s.ag h.gauges.length s.cg, .slice s.af h.flows.length s.cf]] W fun e w' => e = .returned (.bool false) ∧ Kept W w' from fun W hW => by rw [← hg]; exact r_GreatH h s W (hh.later hW))
  have n1 : ((h.warm.length : Int) != 1) = false := by simp; omega
  have n2 : decide ((h.gauges.length : Int) < 2) = false := by simp; omega
  have n3 : decide ((3 : Int) < (h.gauges.length : Int)) = false := by simp; omega
  have ho := histB_ok hb
  have KL := Lib.hid (show ∀ W, Kept w W → Calls Try.prog 58 #[.agg #[.slice s.aw h.warm.length s.cw, .slice s.ag h.gauges.length s.cg, .slice s.af h.flows.length s.cf], .agg #[.int .i64 tx, .int .i64 ty]] W fun e w' => ∃ v, e = .returned (.tuple #[v, .int .i64 6]) ∧ w'.ownsRow W.heap.size 23 2 (v) ([] : List Sp).length (([] : List Sp).flatMap Sp.cells) ∧ Kept W w' from fun W hW => by have := f_Leaks h s tx ty W (hh.later hW); rw [hE, hl] at this; exact this)
  have HH := Lib.hid hh
  have HO := Lib.hid ho
  have HBV := Lib.hid hb
  have HS := Lib.hid hs
  have HE := Lib.hid hE
  have HLL := Lib.hid hl
  have H1 := Lib.hid h1
  have HLEN := Lib.hid hlen
  have hg3 : h.gauges.length ≤ 3 := by omega
  clear hg hb hs hE hl ho hh h1 h2 h3 hlen
  go_enter Try.func15, Try.ntmps15
  go_upto_region 9 with (first | (go_at_call 68; (with_reducible refine (o_alive _).mono ?_); rintro e w0 ⟨rfl, hb0⟩; refine Blk.thru (b := w.heap.size) (arr := ?_) (t := ?_) ?_ hb0 ?_; rotate_left 2; (focus (exact blk)); intro ua; have uac0 := ua.cell 0; have uaf0 := ua.free 0; have uac1 := ua.cell 1; have uaf1 := ua.free 1; have uac2 := ua.cell 2; have uaf2 := ua.free 2; have ual := ua.lt; simp at uac0 uac1 uac2; refine Blk.thru (b := (w.heap.size + 1)) (arr := ?_) (t := ?_) ?_ hb0 ?_; rotate_left 2; (focus (exact blk)); intro ub; have ubc0 := ub.cell 0; have ubf0 := ub.free 0; have ubc1 := ub.cell 1; have ubf1 := ub.free 1; have ubl := ub.lt; simp at ubc0 ubc1) | (go_at_call 55; (with_reducible refine (KG.out _ (by exact kpt)).mono ?_); rintro e w1 ⟨rfl, hb1⟩; refine Blk.thru (b := w.heap.size) (arr := ?_) (t := ?_) ?_ hb1 ?_; rotate_left 2; (focus (exact blk)); intro va; have vac0 := va.cell 0; have vaf0 := va.free 0; have vac1 := va.cell 1; have vaf1 := va.free 1; have vac2 := va.cell 2; have vaf2 := va.free 2; have val := va.lt; simp at vac0 vac1 vac2; refine Blk.thru (b := (w.heap.size + 1)) (arr := ?_) (t := ?_) ?_ hb1 ?_; rotate_left 2; (focus (exact blk)); intro vb; have vbc0 := vb.cell 0; have vbf0 := vb.free 0; have vbc1 := vb.cell 1; have vbf1 := vb.free 1; have vbl := vb.lt; simp at vbc0 vbc1) | (go_at_call 58; (with_reducible refine (KL.out _ (by exact kpt)).mono ?_); rintro e wL ⟨vL, rfl, hoL, hbL⟩; obtain ⟨adL, cpL, rfl, hrL, hcL, hmL⟩ := owns_row (enc := Sp.cells) (k := 2) (fun _ => rfl) hoL; refine Blk.thru (b := w.heap.size) (arr := ?_) (t := ?_) ?_ hbL ?_; rotate_left 2; (focus (exact blk)); intro xa; have xac0 := xa.cell 0; have xaf0 := xa.free 0; have xac1 := xa.cell 1; have xaf1 := xa.free 1; have xac2 := xa.cell 2; have xaf2 := xa.free 2; have xal := xa.lt; simp at xac0 xac1 xac2; refine Blk.thru (b := (w.heap.size + 1)) (arr := ?_) (t := ?_) ?_ hbL ?_; rotate_left 2; (focus (exact blk)); intro xb; have xbc0 := xb.cell 0; have xbf0 := xb.free 0; have xbc1 := xb.cell 1; have xbf1 := xb.free 1; have xbl := xb.lt; simp at xbc0 xbc1))
  refine at_world (S := fun X => Blk X w.heap.size #[.slice s.aw h.warm.length s.cw, .slice s.ag h.gauges.length s.cg, .slice s.af h.flows.length s.cf] 85 ∧ Blk X (w.heap.size + 1) #[.int .i64 tx, .int .i64 ty] 23 ∧ Kept w X) ⟨xa, xb, by exact kpt⟩ ?_
  clear hoL hrL hb0 hb1 hbL KL KG ua ub va vb xa xb
  rintro X ⟨q2, q3, hk⟩
  have hlen := HLEN.out
  have hal := fun i (hi : i < h.gauges.length) => (al_bd HO.out hi (show 0 < h.warm.length by rw [H1.out]; decide)).2.2.2
  have hB := q3.lt
  clear hlen
  have q2c0 := q2.cell 0
  have q2f0 := q2.free 0
  have q2c1 := q2.cell 1
  have q2f1 := q2.free 1
  have q2c2 := q2.cell 2
  have q2f2 := q2.free 2
  have q2l := q2.lt
  simp at q2c0 q2c1 q2c2
  have q3c0 := q3.cell 0
  have q3f0 := q3.free 0
  have q3c1 := q3.cell 1
  have q3f1 := q3.free 1
  have q3l := q3.lt
  simp at q3c0 q3c1
  go_upto_block 0 with fail
  refine seg_may (h := h) (s := s) (w := w) (tx := tx) (ty := ty) (E := 6) _ rfl _ hg3 ?_ ?_ ?_ ?_ q2 q3 hk ?_ ?_
  · intro i hi; have := hal i hi; omega
  · intro i hi hb
    first | rfl | (have := bad_gauge HBV.out H1.out hi hb HS.out; rw [HE.out] at this; exact this)
  · intro i hi W hW
    have := f_Amounts h s W (HH.out.later hW) (i : Int) 0
    simpa using this
  · intro i hi
    have e1 : inB (i : Int) 0 (h.gauges.length - 1) = true := by rw [inB_iff]; omega
    have e2 : inB (0 : Int) 0 (h.warm.length - 1) = true := by rw [inB_iff, H1.out]; omega
    simp [amtE, HBV.out, e1, e2]
  · intros
    rename_i hkR
    go_ret
    exact ⟨rfl, hkR⟩
  clear q2 q3 q2c0 q2f0 q2c1 q2f1 q2c2 q2f2 q2l q3c0 q3f0 q3c1 q3f1 q3l
  rintro adM cpM _ _ _ _ _ _ _ _ _ _ _ _ _ _ _ _ _ _ _ _ _ _ _ _ _ _ _ _ _ _ _ _ _ _ _ _ _ _ _ _ _ wc ⟨hgood, hown, q2, q3, hkX⟩
  dsimp only
  have hlen := HLEN.out
  rw [hlen] at hown ⊢
  obtain ⟨gM, curM, cp_, hv, hgB, hcp, hcm, qM, htk⟩ := owns_head (x := ⟨alLo h 0 0, alHi h 0 0⟩) (xs := [⟨alLo h 1 0, alHi h 1 0⟩, ⟨alLo h 2 0, alHi h 2 0⟩]) hown rfl
  injection hv with hv1 hv2 hv3
  subst hv1 hv3
  have m0 : curM[0]? = some (.int .i64 (alLo h 0 0)) := take_at htk rfl
  have m1 : curM[1]? = some (.int .i64 (alHi h 0 0)) := take_at htk rfl
  have m2 : curM[2]? = some (.int .i64 (alLo h 1 0)) := take_at htk rfl
  have m3 : curM[3]? = some (.int .i64 (alHi h 1 0)) := take_at htk rfl
  have m4 : curM[4]? = some (.int .i64 (alLo h 2 0)) := take_at htk rfl
  have m5 : curM[5]? = some (.int .i64 (alHi h 2 0)) := take_at htk rfl
  have bd0 := hal 0 (by omega)
  have bd1 := hal 1 (by omega)
  have bd2 := hal 2 (by omega)
  have gd0 := hgood 0 (by omega)
  have gd1 := hgood 1 (by omega)
  have gd2 := hgood 2 (by omega)
  have JU := just_three HBV.out H1.out hlen HS.out (fun i hi => (hgood i hi).1)
  have lF := come_bd HO.out 0 (tt h 0) (tt h 1) h.flows.length
  rw [← come_all] at lF
  have KC0 : ∀ W, Kept w W → Calls Try.prog 74 #[.agg #[.slice s.aw h.warm.length s.cw, .slice s.ag h.gauges.length s.cg, .slice s.af h.flows.length s.cf], .int .i64 0] W fun e w' => e = .returned (.int .i64 (come h 0 (tt h 0) (tt h 1))) ∧ Kept W w' := fun W hW => by have := o_come h s W (HH.out.later hW) HO.out H1.out 0 (by omega); simpa using this
  have lG := come_bd HO.out 0 (tt h 1) (tt h 2) h.flows.length
  rw [← come_all] at lG
  have KC1 : ∀ W, Kept w W → Calls Try.prog 74 #[.agg #[.slice s.aw h.warm.length s.cw, .slice s.ag h.gauges.length s.cg, .slice s.af h.flows.length s.cf], .int .i64 1] W fun e w' => e = .returned (.int .i64 (come h 0 (tt h 1) (tt h 2))) ∧ Kept W w' := fun W hW => by have := o_come h s W (HH.out.later hW) HO.out H1.out 1 (by omega); simpa using this
  obtain ⟨G, hG⟩ : ∃ n, n = come h 0 (tt h 1) (tt h 2) := ⟨_, rfl⟩
  rw [← hG] at JU KC1 lG
  have KC1 := Lib.hid KC1
  obtain ⟨F, hF⟩ : ∃ n, n = come h 0 (tt h 0) (tt h 1) := ⟨_, rfl⟩
  rw [← hF] at JU KC0 lF
  have KC0 := Lib.hid KC0
  obtain ⟨a, ha⟩ : ∃ n, n = alLo h 0 0 := ⟨_, rfl⟩
  rw [← ha] at m0 JU bd0 gd0
  obtain ⟨b, hb⟩ : ∃ n, n = alHi h 0 0 := ⟨_, rfl⟩
  rw [← hb] at m1 JU bd0 gd0
  obtain ⟨c, hc⟩ : ∃ n, n = alLo h 1 0 := ⟨_, rfl⟩
  rw [← hc] at m2 JU bd1 gd1
  obtain ⟨d, hd⟩ : ∃ n, n = alHi h 1 0 := ⟨_, rfl⟩
  rw [← hd] at m3 JU bd1 gd1
  obtain ⟨e, he⟩ : ∃ n, n = alLo h 2 0 := ⟨_, rfl⟩
  rw [← he] at m4 JU bd2 gd2
  obtain ⟨f, hf⟩ : ∃ n, n = alHi h 2 0 := ⟨_, rfl⟩
  rw [← hf] at m5 JU bd2 gd2
  have JU := Lib.hid JU
  have M0 := Lib.hid m0
  have M1 := Lib.hid m1
  have M2 := Lib.hid m2
  have M3 := Lib.hid m3
  have M4 := Lib.hid m4
  have M5 := Lib.hid m5
  clear hlen hv2 htk hown hgood hal hF hG ha hb hc hd he hf m0 m1 m2 m3 m4 m5
  have hmm := @run_makeMap Try.prog
  go_upto_region 23 with fail
  refine at_world (S := fun Y => InKeys Try.prog 3 4 Y wc.heap.size 0 (fun _ => False) ∧ Blk Y gM curM 23 ∧ Blk Y w.heap.size #[.slice s.aw h.warm.length s.cw, .slice s.ag h.gauges.length s.cg, .slice s.af h.flows.length s.cf] 85 ∧ Blk Y (w.heap.size + 1) #[.int .i64 tx, .int .i64 ty] 23 ∧ Kept X Y) ⟨InKeys.made rfl, by exact blkd, by exact blkd, by exact blkd, by exact kpt⟩ ?_
  have hXs := hkX.size
  have hgMl := qM.lt
  clear hmm qM q2 q3 hkX
  rintro Y ⟨hin, qM, q2, q3, hkX⟩
  obtain ⟨bm, hbm⟩ : ∃ n, n = wc.heap.size := ⟨_, rfl⟩
  rw [← hbm] at hin hXs hgMl ⊢
  clear hbm
  have hkw := Kept.drop hk hkX
  have q2c0 := q2.cell 0
  have q2f0 := q2.free 0
  have q2c1 := q2.cell 1
  have q2f1 := q2.free 1
  have q2c2 := q2.cell 2
  have q2f2 := q2.free 2
  have q2l := q2.lt
  simp at q2c0 q2c1 q2c2
  go_upto_region 26 with (first | (go_at_call 74; (with_reducible refine (KC0.out _ (by exact kpt)).mono ?_); rintro e wA ⟨rfl, hbA⟩; refine Blk.thru (b := w.heap.size) (arr := ?_) (t := ?_) ?_ hbA ?_; rotate_left 2; (focus (exact blk)); intro hbAn2; have hbAn2c0 := hbAn2.cell 0; have hbAn2f0 := hbAn2.free 0; have hbAn2c1 := hbAn2.cell 1; have hbAn2f1 := hbAn2.free 1; have hbAn2c2 := hbAn2.cell 2; have hbAn2f2 := hbAn2.free 2; have hbAn2l := hbAn2.lt; simp at hbAn2c0 hbAn2c1 hbAn2c2) | (go_at_call 74; (with_reducible refine (KC1.out _ (by exact kpt)).mono ?_); rintro e wB ⟨rfl, hbB⟩; refine Blk.thru (b := w.heap.size) (arr := ?_) (t := ?_) ?_ hbB ?_; rotate_left 2; (focus (exact blk)); intro hbBn2; have hbBn2c0 := hbBn2.cell 0; have hbBn2f0 := hbBn2.free 0; have hbBn2c1 := hbBn2.cell 1; have hbBn2f1 := hbBn2.free 1; have hbBn2c2 := hbBn2.cell 2; have hbBn2f2 := hbBn2.free 2; have hbBn2l := hbBn2.lt; simp at hbBn2c0 hbBn2c1 hbBn2c2))
  refine at_world (S := fun V => InKeys Try.prog 3 4 V bm 0 (fun _ => False) ∧ Blk V gM curM 23 ∧ Blk V w.heap.size #[.slice s.aw h.warm.length s.cw, .slice s.ag h.gauges.length s.cg, .slice s.af h.flows.length s.cf] 85 ∧ Blk V (w.heap.size + 1) #[.int .i64 tx, .int .i64 ty] 23 ∧ Kept X V) ⟨hin.keep (by exact kpt), by exact blkd, by exact blkd, by exact blkd, by exact kpt⟩ ?_
  clear hbAn2 hbA hbBn2 hbB KC0 KC1 hin qM q2 q3 hkX hkw q2c0 q2f0 q2c1 q2f1 q2c2 q2f2 q2l hbAn2c0 hbAn2f0 hbAn2c1 hbAn2f1 hbAn2c2 hbAn2f2 hbAn2l hbBn2c0 hbBn2f0 hbBn2c1 hbBn2f1 hbBn2c2 hbBn2f2 hbBn2l
  rintro V ⟨hin, qM, q2, q3, hkX⟩
  have e0 := qM.cell 0
  rw [M0.out] at e0
  go_upto_block 2 with fail
  clear e0
  refine seg_lost3 (w := w) (Z := X) (gM := gM) (bm := bm) (cpM := cpM) _ rfl _ hcp hcm M0.out M1.out M2.out M3.out M4.out M5.out (by omega) (by omega) (by omega) lF lG (by omega) (by have := q3.lt; omega) (by omega) hin qM q3 hkX ?_
  clear hin qM q2 q3 hkX
  rintro _ _ _ _ _ _ _ _ _ _ _ _ _ _ _ _ _ _ _ _ _ _ _ _ _ _ _ _ _ _ _ _ _ _ _ _ _ _ _ _ _ _ _ _ _ _ _ _ _ _ _ _ _ _ _ _ _ _ _ _ _ _ wd ⟨⟨n, hn, hin⟩, q3, hkX⟩
  have hkw := Kept.drop hk hkX
  go_upto_block 8 with (at_range; refine wpList_range_keys _ rfl _ _ rfl 3 4 keyedIn Try.underlying130 bm n (Lost3 a b c d e f F G) rfl hin ?_; intro we cnt hcn hon hge hse; have hke : Kept wd we := Below.grown (Below.refl _ _) hge (Nat.le_refl _) (fun k h => by cases h); go_frame)
  have q3e := q3.keep hke
  have hwX := hk.size
  have hXd := hkX.size
  have hbq := hin.lt
  refine seg_count (w := w) (bm := bm) (rr := wd.heap.size) (nn := n) (ln := 0) (cpL := cpL) (cnt0 := cnt) (gL := 0) (curL := #[]) (adL := adL) (tx := tx) (ty := ty) (E := 6) (lo := 0) (hi := 0) (S := Lost3 a b c d e f F G) _ rfl _ (by omega) (by omega) (by omega) hon (.inr (JU.out.2.1 HE.out)) (fun h => by cases h) (by omega) q3e (Kept.drop hkw hke) ?_
  clear hon q3e hin q3 hkX
  rintro vs _ _ _ _ _ _ _ _ _ _ _ _ _ _ _ _ _ _ _ _ _ _ _ _ _ _ _ _ _ _ _ _ _ _ _ _ _ _ _ _ _ wf ⟨hnd, hall, hLf, q3, hkf⟩
  have hf0 : (vs.filter fun n => decide (tx ≤ n) && decide (n ≤ ty)) = [] := by
    rw [List.filter_eq_nil_iff]
    intro x hx hc
    simp only [Bool.and_eq_true, decide_eq_true_eq] at hc
    exact JU.out.2.1 HE.out x ((hall x).1 hx) hc
  rw [hf0]
  clear hf0 hnd hall hLf
  go_wp2
  go_ret
  exact ⟨rfl, hkf⟩

theorem law_GasExact (h : Hist) (s : Bal.Gas.Spot) (tx ty : Int) (w : World) (hh : HistAt h s w)  : Calls Try.prog 15 #[.agg #[.slice s.aw h.warm.length s.cw, .slice s.ag h.gauges.length s.cg, .slice s.af h.flows.length s.cf], .agg #[.int .i64 tx, .int .i64 ty]] w fun e w' => e = .returned (.bool true) ∧ Kept w w' := by
  cases hg : greatH h
  · by_cases h1 : h.warm.length = 1
    · by_cases h2 : h.gauges.length < 2
      · exact law_GasExact_few h s tx ty w hh hg h1 h2
      · by_cases h3 : 3 < h.gauges.length
        · exact law_GasExact_many h s tx ty w hh hg h1 h2 h3
        · have hlen : h.gauges.length = 2 ∨ h.gauges.length = 3 := by omega
          have hbs : leaksE h tx ty = 0 ∨ leaksE h tx ty = 6 → histB h = true ∧ spanIn tx ty 0 1000000000000 = true := by
            intro he
            cases hb : histB h
            · have := (leaks_bad (x := tx) (y := ty) hb).1
              omega
            · cases hs : spanIn tx ty 0 1000000000000
              · have := (leaks_arg hb hs).1
                omega
              · exact ⟨rfl, rfl⟩
          by_cases he0 : leaksE h tx ty = 0
          · obtain ⟨hb, hs⟩ := hbs (.inl he0)
            have hL : leaksL h tx ty = [⟨leakLo h tx 0, leakHi h ty 0⟩] := by unfold leaksL; rw [if_pos he0, h1]; rfl
            rcases hlen with hlen | hlen
            · exact law_GasExact_ok0_2 h s tx ty w hh hg h1 hlen hb hs he0 _ _ hL
            · exact law_GasExact_ok0_3 h s tx ty w hh hg h1 hlen hb hs he0 _ _ hL
          · by_cases he6 : leaksE h tx ty = 6
            · obtain ⟨hb, hs⟩ := hbs (.inr he6)
              have hL : leaksL h tx ty = [] := leaks_out he0
              rcases hlen with hlen | hlen
              · exact law_GasExact_ok6_2 h s tx ty w hh hg h1 hlen hb hs he6 hL
              · exact law_GasExact_ok6_3 h s tx ty w hh hg h1 hlen hb hs he6 hL
            · exact law_GasExact_err h s tx ty w hh hg h1 h2 h3 he0 he6
    · exact law_GasExact_warm h s tx ty w hh hg h1
  · exact law_GasExact_great h s tx ty w hh hg

end Go.Proofs.Ytemafanncejeiaa

/-
  GasExact, the statement: for every input the call returns true and leaves the input alone.
-/
namespace Go.Proofs.Ytemafanncejeiaa.gasExact
open Go.ChangeShapes Go.WideShapes Go.ChangeAt Go.RowKit Bal Bal.Trim Bal.Gas
open Go.ChangeMaps (open_string shut_string)
set_option linter.unusedVariables false

theorem own : ownKnob Try.prog.godebug = none := by kernel_rfl
theorem laidOut : laidOutB Try.prog = true := by kernel_rfl

set_option maxRecDepth 100000 in
theorem lifted (os : Os) (started : os.Started) (H : Type) (enc : TypeId × Value → H) :
    ReturnsInHanded {} Try.checked os 15 .any (Rows.gasExactSpec.pre6 enc Try.prog Try.f15 Rows.gasExactRow.domain false) (Rows.gasExactSpec.post enc Try.prog Try.f15 false true false false) := by
  refine returnsInHanded_of_change (C := Try.checked) own started (by kernel_rfl) Try.func15
    (ChangeSpec.witness6 (enc := enc) (C := Try.checked) false ⟨#[], #[.agg #[.slice none 0 0, .slice none 0 0, .slice none 0 0], .agg #[.int .i64 0, .int .i64 0]], []⟩ 8 (by kernel_rfl) (by kernel_rfl) (by kernel_rfl) (by kernel_rfl)) ?_
  intro W base args ds gs before hval0 hW hcnd _
  have hval : ∀ (j : Nat) t v, Try.f15.params[j]? = some t → args[j]? = some v → Value.okWide Try.prog W .any base t v := hval0
  have hW' := hW
  obtain ⟨p, q, hA0, hV, rfl, hfz, hnd⟩ := hW
  have hA : DataW.TrodAll enc Try.prog W 0 (fun _ => true) true Try.f15.params.toList args.toList ds p := hA0
  rw [Try.params15] at hA hval
  obtain ⟨v0, vs0, d0, ds0, p0, q0, hargs, rfl, rfl, h0, r0⟩ := trodAll_cons hA
  obtain ⟨v1, vs1, d1, ds1, p1, q1, rfl, rfl, rfl, h1, r1⟩ := trodAll_cons r0
  obtain ⟨rfl, rfl, rfl⟩ := trodAll_nil r1
  obtain rfl : args = #[v0, v1] := by cases args; simp_all
  obtain ⟨rfl, rfl⟩ := trodVars_none hV
  have k0 := h0
  have lt0 : ∀ x ∈ p0, x.block < W.heap.size := by obtain ⟨m, hm⟩ := k0; exact DataW.trod_lt m _ _ _ hm
  obtain ⟨hs0, sp0, rfl, ha0⟩ := open_history (hval 0 85 v0 rfl rfl) h0
  have k1 := h1
  have lt1 : ∀ x ∈ p1, x.block < W.heap.size := by obtain ⟨m, hm⟩ := k1; exact DataW.trod_lt m _ _ _ hm
  obtain ⟨a1, rfl, wf1⟩ := open_agg (n := 5) (fun _ h => Sp.of_leaves h) Try.underlying23 (by kernel_rfl) (hval 1 23 v1 rfl rfl) h1
  clear hA0 hval0
  refine (law_GasExact hs0 sp0 a1.lo a1.hi W ha0).mono fun e W' ⟨he, bel⟩ => ?_
  subst he
  exact ⟨_, rfl, _, _, _, [], _, [], hW', trodAll_mk1 (shut_bool Try.underlying4 _), (trodAll_cons_mk (Below.trod laidOut (by kernel_rfl) (of_decide_eq_true (by kernel_rfl)) k0 bel lt0) (trodAll_cons_mk (Below.trod laidOut (by kernel_rfl) (of_decide_eq_true (by kernel_rfl)) k1 bel lt1) trodAll_mk0)), rfl, bel.frame _, fun h => by cases h⟩

theorem joined : joinedFacts Try.prog 15 Try.f15 Rows.gasExactSpec Rows.gasExactRow = true := by
  unfold joinedFacts
  rw [mayEnter_is, liftsFinal_is, make_is]
  kernel_rfl
theorem over : Rows.gasExactRow.holds Try.pinned (OpenSpec.ofChange Rows.gasExactSpec) :=
  OpenClaim.holds_of_wide 15 Try.f15 rfl rfl rfl rfl rfl rfl rfl ⟨rfl, rfl, rfl, rfl, rfl⟩ rfl rfl rfl rfl rfl (by kernel_rfl) Try.func15 joined
    (of_decide_eq_true (by kernel_rfl)) (by unfold Func.isWrapper; first | (rw [if_pos (by decide +kernel)]; kernel_rfl) | (rw [if_neg (by decide +kernel)]; exact ⟨rfl, rfl⟩))
    (fun os started H enc _ => lifted os started H enc)
end Go.Proofs.Ytemafanncejeiaa.gasExact

namespace Go.Proofs.Ytemafanncejeiaa
theorem gasExact_holds : Rows.GasExactSaid := gasExact.over
#print axioms gasExact_holds
end Go.Proofs.Ytemafanncejeiaa
