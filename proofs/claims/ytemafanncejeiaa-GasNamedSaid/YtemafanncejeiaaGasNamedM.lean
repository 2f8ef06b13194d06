/-
  GasNamed, the statement: for every input the call returns true and leaves the input alone.
-/
import Derived.Test.YtemafanncejeiaaGasBaseM
import Derived.Deep.RegionHeld3
import Derived.Deep.DeepCutAuto
import Derived.Deep.CutBlock
import Derived.Test.YtemafanncejeiaaRows
set_option linter.unusedVariables false
set_option linter.unusedSimpArgs false
namespace Bal.Gas
open Bal.Trim
theorem come_selfP (h : Hist) (c : Nat) (a : Int) : come h c a a = 0 := by
  unfold come
  induction h.flows with
  | nil => rfl
  | cons f fs ih =>
    rw [sumBy_cons, ih]
    have : flowN c a a f = 0 := by unfold flowN flowIn; rw [if_neg]; simp <;> omega
    omega
end Bal.Gas

/-
  Clashes, and what can have leaked without one: plain Lean, no program in sight.
-/
namespace Bal.Gas
open Bal.Trim
theorem clash_mem {h : Hist} {x : Nat × Nat × Nat} : x ∈ clashList h ↔ x.1 < h.warm.length ∧ x.2.2 < h.gauges.length ∧ x.2.1 ≤ x.2.2 := by
  obtain ⟨c, f, t⟩ := x
  simp only [clashList, List.mem_flatMap, List.mem_range, List.mem_map]
  constructor
  · rintro ⟨c', hc, t', ht, f', hf, e⟩
    injection e with e1 e2
    injection e2 with e2 e3
    subst e1 e2 e3
    exact ⟨hc, ht, by omega⟩
  · rintro ⟨h1, h2, h3⟩
    have h3 : f ≤ t := h3
    exact ⟨c, h1, t, h2, f, by omega, rfl⟩
theorem conf_no {h : Hist} (hn : conf h = none) {c t f : Nat} (hc : c < h.warm.length) (ht : t < h.gauges.length) (hf : f ≤ t) : clashB h c f t = false := by
  unfold conf at hn
  rw [List.find?_eq_none] at hn
  have := hn (c, f, t) (clash_mem.2 ⟨hc, ht, hf⟩)
  simpa using this
theorem conf_is {h : Hist} {c f t : Nat} (hs : conf h = some (c, f, t)) : c < h.warm.length ∧ t < h.gauges.length ∧ f ≤ t ∧ clashB h c f t = true := by
  unfold conf at hs
  have h1 := List.mem_of_find?_eq_some hs
  have h2 := List.find?_some hs
  obtain ⟨a, b, d⟩ := clash_mem.1 h1
  exact ⟨a, b, d, h2⟩
theorem al_small {h : Hist} (ho : HistOk h) {g c : Nat} (hg : g < h.gauges.length) (hc : c < h.warm.length) : 0 ≤ alLo h g c ∧ 0 ≤ alHi h g c ∧ alHi h g c ≤ 100000000 := by
  obtain ⟨⟨d1, d2, d3⟩, ⟨p1, p2⟩, ⟨q1, q2⟩, ⟨l1, l2⟩, u1, u2⟩ := al_bd ho hg hc
  refine ⟨l1, u1, ?_⟩
  unfold alHi
  refine Int.ediv_le_of_le_mul (by omega) ?_
  omega
theorem free_told {h : Hist} (ho : HistOk h) (hn : conf h = none) {c f t : Nat} (hc : c < h.warm.length) (ht : t < h.gauges.length) (hf : f ≤ t) : toldLo h c t ≤ toldHi h c f := by
  have h1 := conf_no hn hc ht hf
  have h2 := conf_no hn hc (show f < h.gauges.length by omega) (Nat.le_refl f)
  have h3 := conf_no hn hc ht (Nat.le_refl t)
  rw [clash_told ho hf ht] at h1
  rw [clash_told ho (Nat.le_refl _) (by omega)] at h2 h3
  simp at h2 h3
  by_cases e : f = t
  · subst e; omega
  · simp [e, show f < t by omega, show ¬ toldHi h c f < toldLo h c f by omega, show toldLo h c t ≤ toldHi h c t by omega] at h1
    omega
theorem need_le {h : Hist} {c : Nat} {M : Int} (hM : -1152921504606846976 ≤ M) : ∀ k, (∀ i, i < k → toldLo h c i ≤ M) → needTo h c k ≤ M
  | 0, _ => hM
  | k + 1, hk => by
    have h1 := need_le hM k fun i hi => hk i (by omega)
    have h2 := hk k (by omega)
    simp only [needTo]
    omega
theorem can_ge {h : Hist} {c : Nat} {M : Int} (hM : M ≤ 1152921504606846976) : ∀ k, (∀ i, i < k → M ≤ toldHi h c i) → M ≤ canTo h c k
  | 0, _ => hM
  | k + 1, hk => by
    have h1 := can_ge hM k fun i hi => hk i (by omega)
    have h2 := hk k (by omega)
    simp only [canTo]
    omega
/-- what is known of a cell is known of something -/
theorem lost_order {h : Hist} (ho : HistOk h) (hn : conf h = none) {c : Nat} (hc : c < h.warm.length) : 0 ≤ lostLo h c ∧ lostLo h c ≤ lostHi h c ∧ lostHi h c ≤ 2100000000 := by
  have g1 := ho.g1
  have t0 := told_bd ho (i := 0) (by omega) hc
  have t1 := told_bd ho (i := h.gauges.length - 1) (by omega) hc
  have a0 := al_small ho (g := 0) (by omega) hc
  have a1 := al_small ho (g := h.gauges.length - 1) (by omega) hc
  have c1 := come_bd ho c (tt h 0) (tt h (h.gauges.length - 1)) h.flows.length
  rw [← come_all] at c1
  have e0 : come h c (tt h 0) (tt h 0) = 0 := come_selfP h c _
  have n1 := need_le (h := h) (c := c) (M := toldHi h c 0) (by omega) h.gauges.length fun i hi => free_told ho hn hc hi (Nat.zero_le _)
  have n2 := can_ge (h := h) (c := c) (M := toldLo h c (h.gauges.length - 1)) (by omega) h.gauges.length fun i hi => free_told ho hn hc (by omega) (by omega)
  have n3 := free_told ho hn hc (show h.gauges.length - 1 < h.gauges.length by omega) (Nat.zero_le _)
  have b1 : toldHi h c 0 ≤ 100000000 := by unfold toldHi; rw [e0]; omega
  have b2 : -1000000000 ≤ toldLo h c (h.gauges.length - 1) := by unfold toldLo; omega
  unfold lostLo lostHi
  split
  · omega
  · omega
theorem all_order {h : Hist} (ho : HistOk h) (hn : conf h = none) : ∀ k, k ≤ h.warm.length → 0 ≤ allLo h k ∧ allLo h k ≤ allHi h k ∧ allHi h k ≤ 2100000000 * k ∧ ∀ c, c < k → lostLo h c ≤ allLo h k ∧ lostHi h c ≤ allHi h k
  | 0, _ => by simp [allLo, allHi]
  | k + 1, hk => by
    have ih := all_order ho hn k (by omega)
    have b := lost_order ho hn (c := k) (by omega)
    rw [allLo_succ, allHi_succ]
    refine ⟨by omega, by omega, by omega, fun c hc => ?_⟩
    by_cases h1 : c = k
    · subst h1; omega
    · have := ih.2.2.2 c (by omega); omega
theorem confE_none {h : Hist} (hb : histB h = true) (he : confE h ≠ 0) : conf h = none := by
  unfold confE at he
  simp only [hb, if_true] at he
  cases h1 : conf h
  · rfl
  · simp [h1] at he
theorem proved_none {h : Hist} (hb : histB h = true) (he : confE h ≠ 0) : leaksE h 0 1000000000000 = 0 ∧ (leaksL h 0 1000000000000).length = h.warm.length ∧
    ∀ c (hc : c < (leaksL h 0 1000000000000).length), 0 ≤ (leaksL h 0 1000000000000)[c].lo ∧ (leaksL h 0 1000000000000)[c].lo ≤ (leaksL h 0 1000000000000)[c].hi ∧ (h.gauges.length = 1 → (leaksL h 0 1000000000000)[c].hi ≤ 0) := by
  have hn := confE_none hb he
  have ho := histB_ok hb
  have w2 := ho.w2
  obtain ⟨o1, o2, o3, o4⟩ := all_order ho hn h.warm.length (Nat.le_refl _)
  have e : leaksE h 0 1000000000000 = 0 := by
    rw [leaks_free hb (by decide) he]
    have : outB h 0 1000000000000 = false := by simp [outB]; omega
    rw [this]; rfl
  have el : leaksL h 0 1000000000000 = (List.range h.warm.length).map fun c => ⟨leakLo h 0 c, leakHi h 1000000000000 c⟩ := by simp [leaksL, e]
  rw [el]
  refine ⟨e, by simp, fun c hc => ?_⟩
  have hc : c < h.warm.length := by simpa using hc
  have q := lost_order ho hn hc
  have r := o4 c hc
  simp only [List.getElem_map, List.getElem_range, leakLo, leakHi]
  refine ⟨by omega, by omega, fun g1 => ?_⟩
  have : lostHi h c = 0 := by unfold lostHi; rw [if_pos g1]
  omega
theorem proved_some {h : Hist} {c f t : Nat} (hb : histB h = true) (hs : conf h = some (c, f, t)) : c < h.warm.length ∧ t < h.gauges.length ∧ f ≤ t ∧ leaksE h 0 1000000000000 = 6 ∧
    (f = t → amtE h f c = 6) ∧ (f ≠ t → amtE h f c = 0 ∧ amtE h t c = 0 ∧ alHi h f c + come h c (tt h f) (tt h t) < alLo h t c) := by
  obtain ⟨h1, h2, h3, h4⟩ := conf_is hs
  have i1 : inB (f : Int) 0 (h.gauges.length - 1) = true := by rw [inB_iff]; omega
  have i2 : inB (t : Int) 0 (h.gauges.length - 1) = true := by rw [inB_iff]; omega
  have i3 : inB (c : Int) 0 (h.warm.length - 1) = true := by rw [inB_iff]; omega
  refine ⟨h1, h2, h3, (leaks_conf hb (by decide) (cf_some hb hs).2.2.2).1, fun e => ?_, fun e => ?_⟩
  · subst e
    simp [clashB] at h4
    simp [amtE, hb, i1, i3, h4]
  · simp [clashB, e] at h4
    refine ⟨?_, ?_, h4.2⟩
    · simp [amtE, hb, i1, i3]; omega
    · simp [amtE, hb, i2, i3]; omega
end Bal.Gas

/-
  Cells that did leak, flows that are known, gauges that tell no wrong: plain Lean, no program in sight.
-/
namespace Bal.Gas
open Bal.Trim
/-- what a gauge tells of an amount -/
def gV (a : Air) (wl wide n : Int) : Sp := ⟨max 0 (n * (a.tlo + wl) / a.plo - wide), n * (a.tlo + wl) / a.plo + 1 + wide⟩
structure Dr where
  am : List Int
  lo : List Int
  all : Int
  fl : List Flow
def inp (st : List Int) (i : Nat) : Int := if 2 * i + 1 < st.length then st.getD (2 * i) 0 else 0
def outp (st : List Int) (i : Nat) (A : Int) : Int := if 2 * i + 1 < st.length then min (st.getD (2 * i + 1) 0 % 16) A else 0
def inn (k : Nat) (st : List Int) (i : Nat) (A : Int) : Int := if k % 2 = 1 then -(min (inp st i) (A - outp st i A)) else inp st i
def Dr.step (k : Nat) (st : List Int) (d : Dr) (i : Nat) : Dr :=
  ⟨d.am.set i (d.am.getD i 0 + (inn k st i (d.am.getD i 0) - outp st i (d.am.getD i 0))), d.lo.set i (d.lo.getD i 0 + outp st i (d.am.getD i 0)), d.all + outp st i (d.am.getD i 0), d.fl ++ [⟨10 * k + 3, i, inn k st i (d.am.getD i 0)⟩]⟩
def Dr.cells (k : Nat) (st : List Int) (d : Dr) : Nat → Dr
  | 0 => d
  | i + 1 => (d.cells k st i).step k st i
def Dr.zero (start : List Int) : Dr := ⟨start, List.replicate start.length 0, 0, []⟩
def Dr.after (start : List Int) (sts : List (List Int)) : Nat → Dr
  | 0 => Dr.zero start
  | k + 1 => (Dr.after start sts k).cells k (sts.getD k []) start.length
/-- the flows of one cell -/
def ofC (c : Nat) (f : Flow) : Int := if f.cell = c then f.n else 0
structure Dr.Inv (start : List Int) (k : Nat) (d : Dr) : Prop where
  am : d.am.length = start.length
  lo : d.lo.length = start.length
  at_ : ∀ c, c < start.length → (0 ≤ d.am.getD c 0 ∧ d.am.getD c 0 ≤ 65535 + 255 * d.fl.length) ∧ (0 ≤ d.lo.getD c 0 ∧ d.lo.getD c 0 ≤ 15 * d.fl.length) ∧ d.am.getD c 0 = start.getD c 0 + sumBy (ofC c) d.fl - d.lo.getD c 0
  all0 : 0 ≤ d.all
  all1 : d.all ≤ 15 * d.fl.length
  sum : d.all = sumBy (fun x => x) d.lo
  fl : ∀ f ∈ d.fl, (0 ≤ f.time ∧ f.time ≤ 10 * k + 3) ∧ (0 ≤ f.cell ∧ f.cell < start.length) ∧ -255 ≤ f.n ∧ f.n ≤ 255
theorem outp_bd {st : List Int} (hst : ∀ x ∈ st, 0 ≤ x ∧ x ≤ 255) (i : Nat) {A : Int} (hA : 0 ≤ A) : 0 ≤ outp st i A ∧ outp st i A ≤ A ∧ outp st i A ≤ 15 := by
  unfold outp
  split
  · have : 0 ≤ st.getD (2 * i + 1) 0 % 16 ∧ st.getD (2 * i + 1) 0 % 16 < 16 := ⟨Int.emod_nonneg _ (by decide), Int.emod_lt_of_pos _ (by decide)⟩
    omega
  · omega
theorem getD_B {st : List Int} (hst : ∀ x ∈ st, 0 ≤ x ∧ x ≤ 255) (i : Nat) : 0 ≤ st.getD i 0 ∧ st.getD i 0 ≤ 255 := by
  by_cases h : i < st.length
  · rw [List.getD_eq_getElem?_getD, List.getElem?_eq_getElem h]
    exact hst _ (List.getElem_mem h)
  · rw [List.getD_eq_getElem?_getD, List.getElem?_eq_none (by omega)]
    simp
theorem inp_bd {st : List Int} (hst : ∀ x ∈ st, 0 ≤ x ∧ x ≤ 255) (i : Nat) : 0 ≤ inp st i ∧ inp st i ≤ 255 := by
  unfold inp
  split
  · exact getD_B hst _
  · omega
theorem inn_bd (k : Nat) {st : List Int} (hst : ∀ x ∈ st, 0 ≤ x ∧ x ≤ 255) (i : Nat) {A : Int} (hA : 0 ≤ A) : -255 ≤ inn k st i A ∧ inn k st i A ≤ 255 ∧ 0 ≤ A + inn k st i A - outp st i A := by
  have h1 := outp_bd hst i hA
  have h2 := inp_bd hst i
  unfold inn
  split <;> omega
theorem getD_set {l : List Int} {i c : Nat} {x : Int} (hi : i < l.length) : (l.set i x).getD c 0 = if c = i then x else l.getD c 0 := by
  rw [List.getD_eq_getElem?_getD, List.getElem?_set]
  by_cases h : i = c
  · subst h; simp [hi]
  · simp [h, Ne.symm h, List.getD_eq_getElem?_getD]
theorem Dr.step_inv {start : List Int} {k j : Nat} {d : Dr} (h : d.Inv start j) (hj : j ≤ k) {st : List Int} (hst : ∀ x ∈ st, 0 ≤ x ∧ x ≤ 255) {i : Nat} (hi : i < start.length) : (d.step k st i).Inv start k := by
  obtain ⟨h1, h2, h3, h4, h5, h6, h7⟩ := h
  obtain ⟨⟨a0, a1⟩, ⟨b0, b1⟩, ab⟩ := h3 i hi
  have o := outp_bd hst i a0
  have n := inn_bd k hst i a0
  refine ⟨by simp [Dr.step, h1], by simp [Dr.step, h2], fun c hc => ?_, ?_, ?_, ?_, fun f hf => ?_⟩
  · obtain ⟨⟨c0, c1⟩, ⟨e0, e1⟩, ce⟩ := h3 c hc
    simp only [Dr.step]
    rw [getD_set (by omega), getD_set (by omega), sumBy_append, sumBy_cons, sumBy_nil, List.length_append, List.length_singleton]
    by_cases hci : c = i
    · subst hci
      simp only [if_true, ofC]
      omega
    · have : ¬ ((i : Int) = (c : Int)) := by omega
      simp only [hci, if_false, ofC, this]
      omega
  · simp only [Dr.step]; omega
  · simp only [Dr.step, List.length_append, List.length_singleton]; omega
  · simp only [Dr.step]
    rw [sumBy_set _ _ _ _ (by omega), h6]
    have : d.lo.getD i 0 = d.lo[i]'(by omega) := by rw [List.getD_eq_getElem?_getD, List.getElem?_eq_getElem (by omega)]; rfl
    rw [this]
    omega
  · simp only [Dr.step, List.mem_append, List.mem_singleton] at hf
    rcases hf with hf | rfl
    · have := h7 f hf; omega
    · simp only; omega
theorem Dr.cells_inv {start : List Int} {k j : Nat} {d : Dr} (h : d.Inv start j) (hj : j ≤ k) {st : List Int} (hst : ∀ x ∈ st, 0 ≤ x ∧ x ≤ 255) : ∀ i, i ≤ start.length → (d.cells k st i).Inv start k
  | 0, _ => ⟨h.am, h.lo, h.at_, h.all0, h.all1, h.sum, fun f hf => by have := h.fl f hf; omega⟩
  | i + 1, hi => Dr.step_inv (Dr.cells_inv h hj hst i (by omega)) (Nat.le_refl _) hst (by omega)
theorem Dr.cells_fl (k : Nat) (st : List Int) (d : Dr) : ∀ i, ∃ r, (d.cells k st i).fl = d.fl ++ r ∧ r.length = i ∧ ∀ f ∈ r, f.time = 10 * (k : Int) + 3
  | 0 => ⟨[], by simp [Dr.cells], rfl, by simp⟩
  | i + 1 => by
    obtain ⟨r, h1, h2, h3⟩ := Dr.cells_fl k st d i
    refine ⟨r ++ [⟨10 * k + 3, i, inn k st i ((d.cells k st i).am.getD i 0)⟩], by simp [Dr.cells, Dr.step, h1], by simp [h2], fun f hf => ?_⟩
    simp only [List.mem_append, List.mem_singleton] at hf
    rcases hf with hf | rfl
    · exact h3 f hf
    · rfl
theorem Dr.cells_mono {start : List Int} {k j : Nat} {d : Dr} (h : d.Inv start j) (hj : j ≤ k) {st : List Int} (hst : ∀ x ∈ st, 0 ≤ x ∧ x ≤ 255) {c : Nat} : ∀ i, i ≤ start.length → d.lo.getD c 0 ≤ (d.cells k st i).lo.getD c 0
  | 0, _ => Int.le_refl _
  | i + 1, hi => by
    have ih := Dr.cells_mono h hj hst (c := c) i (by omega)
    have hv := Dr.cells_inv h hj hst i (by omega)
    have o := outp_bd hst i (hv.at_ i (by omega)).1.1
    have hl := hv.lo
    simp only [Dr.cells, Dr.step]
    rw [getD_set (by omega)]
    split
    · rename_i e; subst e; omega
    · exact ih
theorem Dr.zero_inv {start : List Int} (hs : ∀ x ∈ start, 0 ≤ x ∧ x ≤ 65535) : (Dr.zero start).Inv start 0 := by
  refine ⟨rfl, by simp [Dr.zero], fun c hc => ?_, by simp [Dr.zero], by simp [Dr.zero], ?_, by simp [Dr.zero]⟩
  · have e : start.getD c 0 = start[c] := by rw [List.getD_eq_getElem?_getD, List.getElem?_eq_getElem hc]; rfl
    have := hs _ (List.getElem_mem hc)
    simp only [Dr.zero, e]
    have r : (List.replicate start.length (0 : Int)).getD c 0 = 0 := by simp [List.getD_eq_getElem?_getD, List.getElem?_replicate]; split <;> rfl
    rw [r]
    simp
    omega
  · simp only [Dr.zero]
    generalize start.length = n
    induction n with
    | zero => rfl
    | succ n ih => rw [List.replicate_succ, sumBy_cons, ← ih]; rfl
theorem Dr.after_inv {start : List Int} {sts : List (List Int)} (hs : ∀ x ∈ start, 0 ≤ x ∧ x ≤ 65535) (ht : ∀ st ∈ sts, ∀ x ∈ st, 0 ≤ x ∧ x ≤ 255) : ∀ k, k ≤ sts.length → (Dr.after start sts k).Inv start (k - 1) ∧ (Dr.after start sts k).fl.length = k * start.length
  | 0, _ => ⟨Dr.zero_inv hs, by simp [Dr.after, Dr.zero]⟩
  | k + 1, hk => by
    obtain ⟨h1, h2⟩ := Dr.after_inv hs ht k (by omega)
    have hst : ∀ x ∈ sts.getD k [], 0 ≤ x ∧ x ≤ 255 := by
      rw [List.getD_eq_getElem?_getD, List.getElem?_eq_getElem (by omega)]
      exact ht _ (List.getElem_mem _)
    refine ⟨Dr.cells_inv h1 (by omega) hst start.length (Nat.le_refl _), ?_⟩
    obtain ⟨r, e, hr, _⟩ := Dr.cells_fl k (sts.getD k []) (Dr.after start sts k) start.length
    simp only [Dr.after]
    rw [e, List.length_append, hr, h2, Nat.succ_mul]
theorem Dr.after_fl {start : List Int} {sts : List (List Int)} {i : Nat} : ∀ k, i ≤ k → ∃ r, (Dr.after start sts k).fl = (Dr.after start sts i).fl ++ r ∧ ∀ f ∈ r, 10 * (i : Int) + 3 ≤ f.time
  | 0, hk => by obtain rfl : i = 0 := by omega
                exact ⟨[], by simp, by simp⟩
  | k + 1, hk => by
    by_cases h : i = k + 1
    · subst h; exact ⟨[], by simp, by simp⟩
    · obtain ⟨r, h1, h2⟩ := Dr.after_fl (start := start) (sts := sts) (i := i) k (by omega)
      obtain ⟨q, e, _, hq⟩ := Dr.cells_fl k (sts.getD k []) (Dr.after start sts k) start.length
      refine ⟨r ++ q, by simp only [Dr.after]; rw [e, h1, List.append_assoc], fun f hf => ?_⟩
      rcases List.mem_append.1 hf with hf | hf
      · exact h2 f hf
      · have := hq f hf; omega
theorem Dr.after_mono {start : List Int} {sts : List (List Int)} (hs : ∀ x ∈ start, 0 ≤ x ∧ x ≤ 65535) (ht : ∀ st ∈ sts, ∀ x ∈ st, 0 ≤ x ∧ x ≤ 255) {c i : Nat} : ∀ k, i ≤ k → k ≤ sts.length → (Dr.after start sts i).lo.getD c 0 ≤ (Dr.after start sts k).lo.getD c 0
  | 0, hk, _ => by obtain rfl : i = 0 := by omega
                   exact Int.le_refl _
  | k + 1, hk, hl => by
    by_cases h : i = k + 1
    · subst h; exact Int.le_refl _
    · have ih := Dr.after_mono hs ht (c := c) (i := i) k (by omega) (by omega)
      have hst : ∀ x ∈ sts.getD k [], 0 ≤ x ∧ x ≤ 255 := by
        rw [List.getD_eq_getElem?_getD, List.getElem?_eq_getElem (by omega)]
        exact ht _ (List.getElem_mem _)
      exact Int.le_trans ih (Dr.cells_mono (Dr.after_inv hs ht k (by omega)).1 (by omega) hst start.length (Nat.le_refl _))
/-- the history that the statement draws -/
structure Drawn (start : List Int) (sts : List (List Int)) (a : Air) (wl wh wide : Int) (h : Hist) : Prop where
  s0 : 1 ≤ start.length
  s1 : start.length ≤ 6
  t1 : sts.length ≤ 7
  hs : ∀ x ∈ start, 0 ≤ x ∧ x ≤ 65535
  ht : ∀ st ∈ sts, ∀ x ∈ st, 0 ≤ x ∧ x ≤ 255
  air : airB a = true
  wm : warmB ⟨wl, wh⟩ = true
  w0 : 0 ≤ wide
  w1 : wide ≤ 255
  warm : h.warm = List.replicate start.length ⟨wl, wh⟩
  glen : h.gauges.length = sts.length + 1
  ga : ∀ i, i < sts.length + 1 → tt h i = 10 * i ∧ (gAt h i).air = a ∧ (gAt h i).vols = (Dr.after start sts i).am.map (gV a wl wide)
  fl : h.flows = (Dr.after start sts sts.length).fl
variable {start : List Int} {sts : List (List Int)} {a : Air} {wl wh wide : Int} {h : Hist}
theorem come_part (l r : List Flow) (c : Nat) (b : Int) (hl : ∀ f ∈ l, 0 < f.time ∧ f.time ≤ b) (hr : ∀ f ∈ r, b < f.time) : sumBy (flowN c 0 b) (l ++ r) = sumBy (ofC c) l := by
  rw [sumBy_append]
  have h1 : sumBy (flowN c 0 b) l = sumBy (ofC c) l := by
    induction l with
    | nil => rfl
    | cons f l ih =>
      rw [sumBy_cons, sumBy_cons, ih fun g hg => hl g (List.mem_cons_of_mem _ hg)]
      have := hl f (List.mem_cons_self ..)
      congr 1
      simp [flowN, flowIn, ofC, this]
  have h2 : sumBy (flowN c 0 b) r = 0 := by
    clear h1 hl
    induction r with
    | nil => rfl
    | cons f r ih =>
      rw [sumBy_cons, ih fun g hg => hr g (List.mem_cons_of_mem _ hg)]
      have := hr f (List.mem_cons_self ..)
      have : flowN c 0 b f = 0 := by simp [flowN, flowIn, show ¬ f.time ≤ b by omega]
      omega
  omega
theorem Dr.after_time : ∀ k, ∀ f ∈ (Dr.after start sts k).fl, 0 < f.time ∧ f.time ≤ 10 * (k : Int)
  | 0, f, hf => by simp [Dr.after, Dr.zero] at hf
  | k + 1, f, hf => by
    obtain ⟨q, e, _, hq⟩ := Dr.cells_fl k (sts.getD k []) (Dr.after start sts k) start.length
    simp only [Dr.after] at hf
    rw [e] at hf
    rcases List.mem_append.1 hf with hf | hf
    · have := Dr.after_time k f hf; omega
    · have := hq f hf; omega
theorem Drawn.come (d : Drawn start sts a wl wh wide h) {i : Nat} (hi : i ≤ sts.length) (c : Nat) : come h c (tt h 0) (tt h i) = sumBy (ofC c) (Dr.after start sts i).fl := by
  rw [(d.ga 0 (by omega)).1, (d.ga i (by omega)).1]
  unfold Bal.Gas.come
  rw [d.fl]
  obtain ⟨r, e, hr⟩ := Dr.after_fl (start := start) (sts := sts) (i := i) sts.length hi
  rw [e]
  refine come_part _ _ c _ (fun f hf => ?_) fun f hf => ?_
  · exact Dr.after_time i f hf
  · have := hr f hf; omega
theorem gV_bd {n : Int} (ha : airB a = true) (hw : warmB ⟨wl, wh⟩ = true) (h0 : 0 ≤ wide) (h1 : wide ≤ 255) (hn : 0 ≤ n) (hn1 : n ≤ 100000) : (0 ≤ n * (a.tlo + wl) ∧ n * (a.tlo + wl) ≤ 380000000) ∧ (0 ≤ n * (a.tlo + wl) / a.plo ∧ n * (a.tlo + wl) / a.plo ≤ 380000) ∧ (gV a wl wide n).lo ≤ n * (a.tlo + wl) / a.plo ∧ volB (gV a wl wide n) = true := by
  obtain ⟨⟨p0, p1, p2⟩, t0, t1, t2⟩ := airB_iff.1 ha
  have w := span3 hw
  simp only at w
  have m0 : 0 ≤ n * (a.tlo + wl) := Int.mul_nonneg hn (by omega)
  have m1 := mul_bd (A := 100000) (B := 3800) (x := n) (y := a.tlo + wl) (by omega) (by omega) (by omega) (by omega)
  have d0 : 0 ≤ n * (a.tlo + wl) / a.plo := Int.ediv_nonneg m0 (by omega)
  have d1 : n * (a.tlo + wl) / a.plo ≤ 380000 := by
    refine Int.ediv_le_of_le_mul (by omega) ?_
    omega
  unfold gV
  generalize n * (a.tlo + wl) / a.plo = v at *
  generalize n * (a.tlo + wl) = v2 at *
  refine ⟨by omega, by omega, ?_, ?_⟩
  · simp only
    omega
  · simp [volB, spanIn, rng, inB]
    omega
theorem Drawn.vAt (d : Drawn start sts a wl wh wide h) {i c : Nat} (hi : i ≤ sts.length) (hc : c < start.length) : vAt (gAt h i) c = gV a wl wide ((Dr.after start sts i).am.getD c 0) := by
  unfold Bal.Gas.vAt
  rw [(d.ga i (by omega)).2.2]
  have := (Dr.after_inv d.hs d.ht i hi).1.am
  simp [List.getD_eq_getElem?_getD, show c < (Dr.after start sts i).am.length by omega]
theorem Drawn.wAt (d : Drawn start sts a wl wh wide h) {c : Nat} (hc : c < start.length) : wAt h c = ⟨wl, wh⟩ := by
  unfold Bal.Gas.wAt
  rw [d.warm]
  simp [List.getD_eq_getElem?_getD, hc]
theorem Drawn.am_bd (d : Drawn start sts a wl wh wide h) {i c : Nat} (hi : i ≤ sts.length) (hc : c < start.length) : 0 ≤ (Dr.after start sts i).am.getD c 0 ∧ (Dr.after start sts i).am.getD c 0 ≤ 76245 := by
  obtain ⟨h1, h2⟩ := Dr.after_inv d.hs d.ht i hi
  have := (h1.at_ c hc).1
  have s1 := d.s1
  have t1 := d.t1
  have : i * start.length ≤ 7 * 6 := Nat.mul_le_mul (by omega) s1
  omega
/-- a gauge tells no wrong -/
theorem Drawn.al (d : Drawn start sts a wl wh wide h) {i c : Nat} (hi : i ≤ sts.length) (hc : c < start.length) : alLo h i c ≤ (Dr.after start sts i).am.getD c 0 ∧ (Dr.after start sts i).am.getD c 0 ≤ alHi h i c := by
  obtain ⟨n0, n1⟩ := d.am_bd hi hc
  obtain ⟨⟨p0, p1, p2⟩, t0, t1, t2⟩ := airB_iff.1 d.air
  have w := span3 d.wm
  simp only at w
  have w0 := d.w0
  obtain ⟨⟨m0, m1⟩, ⟨q0, q1⟩, _, _⟩ := gV_bd d.air d.wm d.w0 d.w1 n0 (show (Dr.after start sts i).am.getD c 0 ≤ 100000 by omega)
  unfold alLo alHi
  rw [d.vAt hi hc, d.wAt hc, (d.ga i (by omega)).2.1]
  generalize (Dr.after start sts i).am.getD c 0 = n at *
  have e1 := Int.mul_ediv_self_le (x := n * (a.tlo + wl)) (k := a.plo) (by omega)
  have e2 := Int.lt_mul_ediv_self_add (x := n * (a.tlo + wl)) (k := a.plo) (by omega)
  generalize hv : n * (a.tlo + wl) / a.plo = v at *
  simp only [gV, hv]
  constructor
  · have : -n ≤ -(max 0 (v - wide) * a.plo) / (a.thi + wh) := by
      rw [Int.le_ediv_iff_mul_le (by omega)]
      have k1 : max 0 (v - wide) * a.plo ≤ v * a.plo := Int.mul_le_mul_of_nonneg_right (by omega) (by omega)
      have k2 : n * (a.tlo + wl) ≤ n * (a.thi + wh) := Int.mul_le_mul_of_nonneg_left (by omega) n0
      rw [Int.mul_comm v] at k1
      rw [Int.neg_mul]
      omega
    omega
  · rw [Int.le_ediv_iff_mul_le (by omega)]
    have k1 : (v + 1) * a.plo ≤ (v + 1 + wide) * a.phi := Int.mul_le_mul (by omega) (by omega) (by omega) (by omega)
    have k2 : (v + 1) * a.plo = a.plo * v + a.plo := by rw [Int.mul_comm, Int.mul_add]; omega
    omega
theorem Drawn.valid (d : Drawn start sts a wl wh wide h) : histB h = true := by
  have s0 := d.s0
  have s1 := d.s1
  have t1 := d.t1
  have wl_ : h.warm.length = start.length := by rw [d.warm]; simp
  have fv := (Dr.after_inv d.hs d.ht sts.length (Nat.le_refl _))
  have hmul : sts.length * start.length ≤ 7 * 6 := Nat.mul_le_mul t1 s1
  refine histB_true ?_ (fun c hc => ?_) (fun i hi => ?_) fun k hk => ?_
  · rw [sizesB_iff, wl_, d.glen, d.fl]
    omega
  · rw [d.wAt (by omega)]; exact d.wm
  · have hi' : i < sts.length + 1 := by rw [d.glen] at hi; exact hi
    rw [okG_parts fun h0 => by rw [(d.ga (i - 1) (by omega)).1]; omega]
    rw [(d.ga i hi').1, (d.ga i hi').2.1, (d.ga i hi').2.2]
    have hl := (Dr.after_inv d.hs d.ht i (by omega)).1.am
    simp only [Bool.and_eq_true, decide_eq_true_eq, List.length_map, Bool.or_eq_true, d.air, and_true, List.all_eq_true, List.mem_map]
    refine ⟨⟨⟨by rw [inB_iff]; omega, ?_⟩, by rw [hl, wl_]⟩, ?_⟩
    · by_cases h0 : i = 0
      · exact .inl h0
      · right; rw [(d.ga (i - 1) (by omega)).1]; omega
    · rintro v ⟨n, hn, rfl⟩
      obtain ⟨c, hc, rfl⟩ := List.mem_iff_getElem.1 hn
      have := d.am_bd (i := i) (c := c) (by omega) (by omega)
      have e : (Dr.after start sts i).am.getD c 0 = (Dr.after start sts i).am[c] := by rw [List.getD_eq_getElem?_getD, List.getElem?_eq_getElem hc]; rfl
      rw [e] at this
      exact (gV_bd d.air d.wm d.w0 d.w1 this.1 (by omega)).2.2.2
  · have hm : h.flows[k] ∈ (Dr.after start sts sts.length).fl := by rw [← d.fl]; exact List.getElem_mem hk
    obtain ⟨h1, h2, h3⟩ := fv.1.fl _ hm
    rw [wl_]
    simp only [flowB, Bool.and_eq_true, inB_iff]
    omega
theorem Drawn.told (d : Drawn start sts a wl wh wide h) {i c : Nat} (hi : i ≤ sts.length) (hc : c < start.length) : toldLo h c i ≤ start.getD c 0 - (Dr.after start sts i).lo.getD c 0 ∧ start.getD c 0 - (Dr.after start sts i).lo.getD c 0 ≤ toldHi h c i := by
  have h1 := d.al hi hc
  have h2 := d.come hi c
  have h3 := ((Dr.after_inv d.hs d.ht i hi).1.at_ c hc).2.2
  unfold toldLo toldHi
  omega
theorem Drawn.free (d : Drawn start sts a wl wh wide h) : conf h = none := by
  have ho := histB_ok d.valid
  have wl_ : h.warm.length = start.length := by rw [d.warm]; simp
  have gl := d.glen
  refine conf_none fun c t f hc ht hf => ?_
  rw [clash_told ho hf ht]
  have h1 := d.told (i := f) (c := c) (by omega) (by omega)
  have h2 := d.told (i := t) (c := c) (by omega) (by omega)
  have m := Dr.after_mono d.hs d.ht (c := c) (i := f) t hf (by omega)
  have n1 : ¬ toldHi h c f < toldLo h c f := by omega
  have n2 : ¬ toldHi h c f < toldLo h c t := by omega
  simp [n1, n2]
theorem Drawn.confE (d : Drawn start sts a wl wh wide h) : confE h = 6 := (cf_none d.valid d.free).2.2.2
/-- what has leaked of a cell -/
def lostAt (start : List Int) (sts : List (List Int)) (c : Nat) : Int := (Dr.after start sts sts.length).lo.getD c 0
theorem Drawn.lost (d : Drawn start sts a wl wh wide h) {c : Nat} (hc : c < start.length) : lostLo h c ≤ lostAt start sts c ∧ lostAt start sts c ≤ lostHi h c := by
  have gl := d.glen
  have z := (Dr.after_inv d.hs d.ht sts.length (Nat.le_refl _)).1.at_ c hc
  unfold lostAt
  by_cases h0 : sts.length = 0
  · have e : (Dr.after start sts sts.length).lo.getD c 0 = 0 := by
      rw [h0]
      simp only [Dr.after, Dr.zero, List.getD_eq_getElem?_getD, List.getElem?_replicate]
      split <;> rfl
    rw [e]
    unfold lostLo lostHi
    rw [gl, h0]
    simp
  · have h1 := d.told (i := 0) (c := c) (by omega) hc
    have h2 := d.told (i := sts.length) (c := c) (by omega) hc
    have e : (Dr.after start sts 0).lo.getD c 0 = 0 := by
      simp only [Dr.after, Dr.zero, List.getD_eq_getElem?_getD, List.getElem?_replicate]
      split <;> rfl
    rw [e] at h1
    have ss := (Dr.after_inv d.hs d.ht 0 (Nat.zero_le _)).1.at_ c hc
    have hst : 0 ≤ start.getD c 0 ∧ start.getD c 0 ≤ 65535 := by
      rw [List.getD_eq_getElem?_getD, List.getElem?_eq_getElem hc]
      exact d.hs _ (List.getElem_mem hc)
    have nn := need_le (h := h) (c := c) (M := start.getD c 0) (by omega) h.gauges.length fun i hi => by
      have := d.told (i := i) (c := c) (by omega) hc
      have := (Dr.after_inv d.hs d.ht i (by omega)).1.at_ c hc
      omega
    have t1 := d.t1
    have s1 := d.s1
    have hmul : sts.length * start.length ≤ 7 * 6 := Nat.mul_le_mul t1 s1
    have fl := (Dr.after_inv d.hs d.ht sts.length (Nat.le_refl _)).2
    have cc := can_ge (h := h) (c := c) (M := start.getD c 0 - (Dr.after start sts sts.length).lo.getD c 0) (by omega) h.gauges.length fun i hi => by
      have := d.told (i := i) (c := c) (by omega) hc
      have := Dr.after_mono d.hs d.ht (c := c) (i := i) sts.length (by omega) (Nat.le_refl _)
      omega
    unfold lostLo lostHi
    rw [if_neg (by omega), if_neg (by omega)]
    have e2 : h.gauges.length - 1 = sts.length := by omega
    rw [e2]
    omega
theorem sum_getD (l : List Int) : ∀ k, k ≤ l.length → sumBy (fun c => l.getD c 0) (List.range k) = sumBy (fun x => x) (l.take k)
  | 0, _ => by simp
  | k + 1, hk => by
    rw [List.range_succ, sumBy_append, sum_getD l k (by omega), sumBy_take _ _ _ (by omega), sumBy_cons, sumBy_nil]
    rw [List.getD_eq_getElem?_getD, List.getElem?_eq_getElem (by omega)]
    simp
theorem Drawn.alls (d : Drawn start sts a wl wh wide h) : ∀ k, k ≤ start.length → allLo h k ≤ sumBy (lostAt start sts) (List.range k) ∧ sumBy (lostAt start sts) (List.range k) ≤ allHi h k ∧
    (∀ c, c < k → allLo h k - lostLo h c ≤ sumBy (lostAt start sts) (List.range k) - lostAt start sts c ∧ sumBy (lostAt start sts) (List.range k) - lostAt start sts c ≤ allHi h k - lostHi h c)
  | 0, _ => by simp [allLo, allHi]
  | k + 1, hk => by
    obtain ⟨h1, h2, h3⟩ := d.alls k (by omega)
    have b := d.lost (c := k) (by omega)
    rw [allLo_succ, allHi_succ, List.range_succ, sumBy_append, sumBy_cons, sumBy_nil]
    refine ⟨by omega, by omega, fun c hc => ?_⟩
    by_cases e : c = k
    · subst e; omega
    · have := h3 c (by omega); omega
theorem Drawn.all (d : Drawn start sts a wl wh wide h) : sumBy (lostAt start sts) (List.range start.length) = (Dr.after start sts sts.length).all := by
  have z := (Dr.after_inv d.hs d.ht sts.length (Nat.le_refl _)).1
  rw [z.sum]
  have := sum_getD (Dr.after start sts sts.length).lo start.length (by rw [z.lo]; exact Nat.le_refl _)
  rw [← z.lo, List.take_length] at this
  rw [← this, z.lo]
  rfl
theorem Drawn.leaks (d : Drawn start sts a wl wh wide h) {x y : Int} (hx : 0 ≤ x) (hy : y ≤ 1000000000000) (hxa : x ≤ (Dr.after start sts sts.length).all) (hya : (Dr.after start sts sts.length).all ≤ y) :
    leaksE h x y = 0 ∧ (leaksL h x y).length = start.length ∧ ∀ c (hc : c < (leaksL h x y).length), (leaksL h x y)[c].lo ≤ lostAt start sts c ∧ lostAt start sts c ≤ (leaksL h x y)[c].hi := by
  have wl_ : h.warm.length = start.length := by rw [d.warm]; simp
  obtain ⟨h1, h2, h3⟩ := d.alls start.length (Nat.le_refl _)
  rw [d.all] at h1 h2 h3
  have hsp : spanIn x y 0 1000000000000 = true := by simp [spanIn, rng, inB]; omega
  have e : leaksE h x y = 0 := by
    rw [leaks_free d.valid hsp (by rw [d.confE]; decide)]
    have : outB h x y = false := by
      simp only [outB, wl_]
      simp
      omega
    rw [this]; rfl
  have el : leaksL h x y = (List.range h.warm.length).map fun c => ⟨leakLo h x c, leakHi h y c⟩ := by simp [leaksL, e]
  rw [el]
  refine ⟨e, by simp [wl_], fun c hc => ?_⟩
  have hc : c < start.length := by simpa [wl_] using hc
  have := h3 c hc
  have b := d.lost hc
  simp only [List.getElem_map, List.getElem_range, leakLo, leakHi, wl_]
  omega
theorem namedTo_mem {l : List Sp} : ∀ (k : Nat) (x : Int), x ∈ namedTo l k → ∃ j : Nat, j < k ∧ x = j ∧ 0 < (l.getD j default).lo
  | 0, x, hx => by simp [namedTo] at hx
  | k + 1, x, hx => by
    simp only [namedTo, List.mem_append] at hx
    rcases hx with hx | hx
    · obtain ⟨j, h1, h2, h3⟩ := namedTo_mem k x hx
      exact ⟨j, by omega, h2, h3⟩
    · split at hx
      · rename_i hp
        simp at hx
        exact ⟨k, by omega, hx, hp⟩
      · simp at hx
theorem namedTo_sorted {l : List Sp} : ∀ k, (namedTo l k).Pairwise (· < ·)
  | 0 => List.Pairwise.nil
  | k + 1 => by
    simp only [namedTo]
    rw [List.pairwise_append]
    refine ⟨namedTo_sorted k, ?_, fun x hx y hy => ?_⟩
    · split <;> simp
    · obtain ⟨j, h1, h2, _⟩ := namedTo_mem k x hx
      split at hy
      · simp at hy; omega
      · simp at hy
theorem Drawn.named (d : Drawn start sts a wl wh wide h) : leaksE h 0 1000000000000 = 0 ∧ (∀ i (hi : i < (namedL h 0 1000000000000).length), ∃ j : Nat, j < start.length ∧ (namedL h 0 1000000000000)[i] = j ∧ lostAt start sts j ≠ 0) ∧
    (namedL h 0 1000000000000).Pairwise (· < ·) := by
  have wl_ : h.warm.length = start.length := by rw [d.warm]; simp
  have z := (Dr.after_inv d.hs d.ht sts.length (Nat.le_refl _))
  have t1 := d.t1
  have s1 := d.s1
  have hmul : sts.length * start.length ≤ 7 * 6 := Nat.mul_le_mul t1 s1
  have za := z.1.all0
  have zb := z.1.all1
  obtain ⟨e, el, hb⟩ := d.leaks (x := 0) (y := 1000000000000) (by decide) (by decide) (by omega) (by omega)
  refine ⟨e, fun i hi => ?_, namedTo_sorted _⟩
  obtain ⟨j, h1, h2, h3⟩ := namedTo_mem _ _ (List.getElem_mem hi)
  have hj : j < (leaksL h 0 1000000000000).length := by omega
  have := hb j hj
  rw [List.getD_eq_getElem?_getD, List.getElem?_eq_getElem hj] at h3
  simp at h3
  exact ⟨j, by omega, h2, by omega⟩
theorem sorted_next {l : List Int} (h : l.Pairwise (· < ·)) {i : Nat} (hi : i < l.length) (h0 : 0 < i) : l[i - 1]'(by omega) < l[i] := List.pairwise_iff_getElem.1 h (i - 1) i (by omega) hi (by omega)
end Bal.Gas

/-
  A history that is drawn step by step, in memory: two rows of numbers that may be written, a history whose three slices grow. No program in sight.
-/
namespace Bal.Gas
open Go Go.RowKit Bal Bal.Trim
set_option linter.unusedVariables false
def ints (l : List Int) : Array Value := (l.map (Value.int .i64)).toArray
theorem ints_get {l : List Int} {k : Nat} (h : k < l.length) : (ints l)[k]? = some (.int .i64 l[k]) := by simp [ints, h]
theorem ints_set (l : List Int) (k : Nat) (v : Int) : (ints l).setIfInBounds k (.int .i64 v) = ints (l.set k v) := by simp [ints, List.map_set]
theorem ints_flat (l : List Int) : (ints l).toList = l.flatMap icell := by
  simp only [ints, List.toList_toArray]
  induction l with
  | nil => rfl
  | cons x l ih => rw [List.map_cons, List.flatMap_cons, icell, List.singleton_append, ih]
theorem ints_row {w : World} {b : Nat} {l : List Int} {t : TypeId} (h : Blk w b (ints l) t) : Row icell 1 w.heap.size w (some ⟨b, 0, none⟩) l :=
  Row.block (fun _ => rfl) h (ints_flat l)
end Bal.Gas
namespace Bal
open Go Go.RowKit
theorem Blk.grownLt {w w' : World} {b base k n : Nat} {arr : Array Value} {t e : TypeId} {v : Value} {xs : List Value} (h : Blk w b arr t) (hb : b < base) (ho : w.ownsRow base e k v n xs) (hg : w.grownBy w' v.ownBlock) : Blk w' b arr t := by
  have hl := h.lt
  unfold Blk at *
  rw [hg.block b hl ?_]
  · exact h
  · intro he
    obtain ⟨_, ⟨rfl, _⟩ | ⟨g, cap, cur, rfl, hbg, hh, _⟩⟩ := ho
    · cases he
    · simp only [Value.ownBlock, Option.some.injEq] at he
      omega
end Bal
namespace Bal.Gas
open Go Go.RowKit Bal Bal.Trim
theorem owns_setLt {w : World} {b base k n i : Nat} {e : TypeId} {v u : Value} {xs : List Value} (hb : b < base) (ho : w.ownsRow base e k v n xs) : (w.setCell ⟨b, i, none⟩ u).ownsRow base e k v n xs := by
  refine owns_setB ho fun he => ?_
  obtain ⟨_, ⟨rfl, _⟩ | ⟨g, cap, cur, rfl, hbg, _, _⟩⟩ := ho
  · cases he
  · simp only [Value.ownBlock, Option.some.injEq] at he
    omega
theorem owns_grownT {w w' : World} {base k n base' k' n' : Nat} {e e' : TypeId} {v v' : Value} {xs xs' : List Value} (ho : w.ownsRow base e k v n xs) (ho' : w.ownsRow base' e' k' v' n' xs') (hne : e ≠ e') (hg : w.grownBy w' v'.ownBlock) : w'.ownsRow base e k v n xs := by
  obtain ⟨h1, h2 | ⟨g, cap, cur, hv, hb, hh, r⟩⟩ := ho
  · exact ⟨h1, .inl h2⟩
  · exact ⟨h1, .inr ⟨g, cap, cur, hv, hb, Blk.grown (show Blk w g cur e from hh) ho' hne hg, r⟩⟩
theorem owns_shape {w : World} {base k n : Nat} {e : TypeId} {v : Value} {xs : List Value} (h : w.ownsRow base e k v n xs) : ∃ ad cp, v = .slice ad n cp := by
  obtain ⟨_, ⟨rfl, rfl⟩ | ⟨g, cap, cur, rfl, _⟩⟩ := h
  · exact ⟨none, 0, rfl⟩
  · exact ⟨_, _, rfl⟩
theorem cells_at {w : World} {n : Nat} (h : n = w.heap.size) (l : List Value) (t : TypeId) : ∀ j u, l[j]? = some u → (w.alloc (.cells l.toArray t)).cell? ((⟨n, 0, none⟩ : Addr).add j) = some u := by
  intro j u hj
  subst h
  have e : (⟨w.heap.size, 0, none⟩ : Addr).add j = ⟨w.heap.size, j, none⟩ := by unfold Addr.add; split <;> simp_all
  rw [e, (Blk.new (w := w) (arr := l.toArray) (t := t)).cell]
  simpa using hj
def gvV (g : Gauge) : Value := .slice (gv g) g.vols.length g.vc
/-- the state of the drawing: the air's box, the superheat's box, the history, the amounts, what was lost; B: where the call's own rows begin -/
structure NSt (TA TS TH TI TG TF : TypeId) (B b7 b8 b13 bA bL : Nat) (x : Air) (wl wh : Int) (w wr : World) (vw vg vf : Value) (am lo : List Int) (W : List Sp) (G : List Gauge) (F : List Flow) : Prop where
  l7 : b7 < B
  l8 : b8 < B
  l13 : b13 < B
  lA : bA < B
  lL : bL < B
  n7 : b7 ≠ b13 ∧ b7 ≠ bA ∧ b7 ≠ bL
  n8 : b8 ≠ b13 ∧ b8 ≠ bA ∧ b8 ≠ bL
  n13 : b13 ≠ bA ∧ b13 ≠ bL
  nA : bA ≠ bL
  b0 : w.heap.size ≤ b13 ∧ w.heap.size ≤ bA ∧ w.heap.size ≤ bL
  hB : B ≤ wr.heap.size
  air : Blk wr b7 #[.int .i64 x.plo, .int .i64 x.phi, .int .i64 x.tlo, .int .i64 x.thi] TA
  wm : Blk wr b8 #[.int .i64 wl, .int .i64 wh] TS
  hist : Blk wr b13 #[vw, vg, vf] TH
  am : Blk wr bA (ints am) TI
  lo : Blk wr bL (ints lo) TI
  ow : wr.ownsRow B TS 2 vw W.length (W.flatMap Sp.cells)
  og : wr.ownsRow B TG 6 vg G.length (G.flatMap Gauge.cells)
  of : wr.ownsRow B TF 3 vf F.length (F.flatMap Flow.cells)
  vols : ∀ g ∈ G, wr.ownsRow B TS 2 (gvV g) g.vols.length (g.vols.flatMap Sp.cells)
  kept : Kept w wr
section
variable {TA TS TH TI TG TF : TypeId} {B b7 b8 b13 bA bL : Nat} {x : Air} {wl wh : Int} {w wr : World} {vw vg vf : Value} {am lo : List Int} {W : List Sp} {G : List Gauge} {F : List Flow}
theorem NSt.keep (h : NSt TA TS TH TI TG TF B b7 b8 b13 bA bL x wl wh w wr vw vg vf am lo W G F) {w' : World} (hb : Kept wr w') : NSt TA TS TH TI TG TF B b7 b8 b13 bA bL x wl wh w w' vw vg vf am lo W G F :=
  ⟨h.l7, h.l8, h.l13, h.lA, h.lL, h.n7, h.n8, h.n13, h.nA, h.b0, Nat.le_trans h.hB hb.size, h.air.keep hb, h.wm.keep hb, h.hist.keep hb, h.am.keep hb, h.lo.keep hb, owns_keep h.ow hb, owns_keep h.og hb, owns_keep h.of hb, fun g hg => owns_keep (h.vols g hg) hb, Kept.drop h.kept hb⟩
theorem NSt.setA (h : NSt TA TS TH TI TG TF B b7 b8 b13 bA bL x wl wh w wr vw vg vf am lo W G F) (i : Nat) (v : Int) : NSt TA TS TH TI TG TF B b7 b8 b13 bA bL x wl wh w (wr.setCell ⟨bA, i, none⟩ (.int .i64 v)) vw vg vf (am.set i v) lo W G F :=
  ⟨h.l7, h.l8, h.l13, h.lA, h.lL, h.n7, h.n8, h.n13, h.nA, h.b0, by simpa using h.hB, h.air.other (Ne.symm h.n7.2.1) _, h.wm.other (Ne.symm h.n8.2.1) _, h.hist.other (Ne.symm h.n13.1) _, (h.am.set _ _).cast (ints_set _ _ _), h.lo.other h.nA _,
    owns_setLt h.lA h.ow, owns_setLt h.lA h.og, owns_setLt h.lA h.of, fun g hg => owns_setLt h.lA (h.vols g hg), h.kept.setCell h.b0.2.1 _⟩
theorem NSt.setL (h : NSt TA TS TH TI TG TF B b7 b8 b13 bA bL x wl wh w wr vw vg vf am lo W G F) (i : Nat) (v : Int) : NSt TA TS TH TI TG TF B b7 b8 b13 bA bL x wl wh w (wr.setCell ⟨bL, i, none⟩ (.int .i64 v)) vw vg vf am (lo.set i v) W G F :=
  ⟨h.l7, h.l8, h.l13, h.lA, h.lL, h.n7, h.n8, h.n13, h.nA, h.b0, by simpa using h.hB, h.air.other (Ne.symm h.n7.2.2) _, h.wm.other (Ne.symm h.n8.2.2) _, h.hist.other (Ne.symm h.n13.2) _, h.am.other (Ne.symm h.nA) _, (h.lo.set _ _).cast (ints_set _ _ _),
    owns_setLt h.lL h.ow, owns_setLt h.lL h.og, owns_setLt h.lL h.of, fun g hg => owns_setLt h.lL (h.vols g hg), h.kept.setCell h.b0.2.2 _⟩
/-- behind an append to the superheats -/
theorem NSt.appW (h : NSt TA TS TH TI TG TF B b7 b8 b13 bA bL x wl wh w wr vw vg vf am lo W [] []) (hG : TG ≠ TS) (hF : TF ≠ TS) {w' : World} {v' : Value} {s : Sp} (ho : w'.ownsRow B TS 2 v' (W.length + 1) (W.flatMap Sp.cells ++ s.cells)) (hg : wr.grownBy w' vw.ownBlock) :
    NSt TA TS TH TI TG TF B b7 b8 b13 bA bL x wl wh w (w'.setCell ⟨b13, 0, none⟩ v') v' vg vf am lo (W ++ [s]) [] [] := by
  have hk : Kept w w' := Kept.grown h.kept h.ow (Nat.le_trans h.b0.1 (Nat.le_of_lt h.l13)) hg
  refine ⟨h.l7, h.l8, h.l13, h.lA, h.lL, h.n7, h.n8, h.n13, h.nA, h.b0, by simpa using Nat.le_trans h.hB hg.size, (h.air.grownLt h.l7 h.ow hg).other (Ne.symm h.n7.1) _, (h.wm.grownLt h.l8 h.ow hg).other (Ne.symm h.n8.1) _, (h.hist.grownLt h.l13 h.ow hg).set 0 v',
    (h.am.grownLt h.lA h.ow hg).other h.n13.1 _, (h.lo.grownLt h.lL h.ow hg).other h.n13.2 _, ?_, owns_setLt h.l13 (owns_grownT h.og h.ow hG hg), owns_setLt h.l13 (owns_grownT h.of h.ow hF hg), fun g hg => (by cases hg), hk.setCell h.b0.1 _⟩
  rw [List.length_append, List.flatMap_append, List.length_singleton, List.flatMap_singleton]
  exact owns_setLt h.l13 ho
/-- behind an append to the gauges -/
theorem NSt.appG (h : NSt TA TS TH TI TG TF B b7 b8 b13 bA bL x wl wh w wr vw vg vf am lo W G F) (hS : TS ≠ TG) (hF : TF ≠ TG) {w' : World} {v' : Value} {s : Gauge} (ho : w'.ownsRow B TG 6 v' (G.length + 1) (G.flatMap Gauge.cells ++ s.cells)) (hg : wr.grownBy w' vg.ownBlock)
    (hs : wr.ownsRow B TS 2 (gvV s) s.vols.length (s.vols.flatMap Sp.cells)) :
    NSt TA TS TH TI TG TF B b7 b8 b13 bA bL x wl wh w (w'.setCell ⟨b13, 1, none⟩ v') vw v' vf am lo W (G ++ [s]) F := by
  have hk : Kept w w' := Kept.grown h.kept h.og (Nat.le_trans h.b0.1 (Nat.le_of_lt h.l13)) hg
  refine ⟨h.l7, h.l8, h.l13, h.lA, h.lL, h.n7, h.n8, h.n13, h.nA, h.b0, by simpa using Nat.le_trans h.hB hg.size, (h.air.grownLt h.l7 h.og hg).other (Ne.symm h.n7.1) _, (h.wm.grownLt h.l8 h.og hg).other (Ne.symm h.n8.1) _, (h.hist.grownLt h.l13 h.og hg).set 1 v',
    (h.am.grownLt h.lA h.og hg).other h.n13.1 _, (h.lo.grownLt h.lL h.og hg).other h.n13.2 _, owns_setLt h.l13 (owns_grownT h.ow h.og hS hg), ?_, owns_setLt h.l13 (owns_grownT h.of h.og hF hg), fun g hgm => ?_, hk.setCell h.b0.1 _⟩
  · rw [List.length_append, List.flatMap_append, List.length_singleton, List.flatMap_singleton]
    exact owns_setLt h.l13 ho
  · rcases List.mem_append.1 hgm with hgm | hgm
    · exact owns_setLt h.l13 (owns_grownT (h.vols g hgm) h.og hS hg)
    · obtain rfl : g = s := by simpa using hgm
      exact owns_setLt h.l13 (owns_grownT hs h.og hS hg)
/-- behind an append to the flows -/
theorem NSt.appF (h : NSt TA TS TH TI TG TF B b7 b8 b13 bA bL x wl wh w wr vw vg vf am lo W G F) (hS : TS ≠ TF) (hG : TG ≠ TF) {w' : World} {v' : Value} {s : Flow} (ho : w'.ownsRow B TF 3 v' (F.length + 1) (F.flatMap Flow.cells ++ s.cells)) (hg : wr.grownBy w' vf.ownBlock) :
    NSt TA TS TH TI TG TF B b7 b8 b13 bA bL x wl wh w (w'.setCell ⟨b13, 2, none⟩ v') vw vg v' am lo W G (F ++ [s]) := by
  have hk : Kept w w' := Kept.grown h.kept h.of (Nat.le_trans h.b0.1 (Nat.le_of_lt h.l13)) hg
  refine ⟨h.l7, h.l8, h.l13, h.lA, h.lL, h.n7, h.n8, h.n13, h.nA, h.b0, by simpa using Nat.le_trans h.hB hg.size, (h.air.grownLt h.l7 h.of hg).other (Ne.symm h.n7.1) _, (h.wm.grownLt h.l8 h.of hg).other (Ne.symm h.n8.1) _, (h.hist.grownLt h.l13 h.of hg).set 2 v',
    (h.am.grownLt h.lA h.of hg).other h.n13.1 _, (h.lo.grownLt h.lL h.of hg).other h.n13.2 _, owns_setLt h.l13 (owns_grownT h.ow h.of hS hg), owns_setLt h.l13 (owns_grownT h.og h.of hG hg), ?_, fun g hgm => owns_setLt h.l13 (owns_grownT (h.vols g hgm) h.of hS hg), hk.setCell h.b0.1 _⟩
  rw [List.length_append, List.flatMap_append, List.length_singleton, List.flatMap_singleton]
  exact owns_setLt h.l13 ho
/-- what has been drawn, as a history -/
theorem NSt.at_ (h : NSt TA TS TH TI TG TF B b7 b8 b13 bA bL x wl wh w wr vw vg vf am lo W G F) : ∃ s : Spot, #[vw, vg, vf] = histV s ⟨W, G, F⟩ ∧ ∀ w', Kept wr w' → HistAt ⟨W, G, F⟩ s w' := by
  obtain ⟨aw, cw, rfl, r1, c1, d1⟩ := owns_row (enc := Sp.cells) (k := 2) (fun _ => rfl) h.ow
  obtain ⟨ag, cg, rfl, r2, c2, d2⟩ := owns_row (enc := Gauge.cells) (k := 6) (fun _ => rfl) h.og
  obtain ⟨af, cf, rfl, r3, c3, d3⟩ := owns_row (enc := Flow.cells) (k := 3) (fun _ => rfl) h.of
  refine ⟨⟨aw, ag, af, cw, cg, cf⟩, rfl, fun w' hk => HistAt.later ⟨r1, r2, r3, fun g hg => ?_, c1, c2, c3, d1, d2, d3, fun g hg => ?_⟩ hk⟩
  · obtain ⟨a4, c4, e4, r4, _, _⟩ := owns_row (enc := Sp.cells) (k := 2) (fun _ => rfl) (h.vols g hg)
    unfold gvV at e4
    injection e4 with e5 e6 e7
    rw [e5]
    exact r4
  · obtain ⟨a4, c4, e4, r4, c5, d5⟩ := owns_row (enc := Sp.cells) (k := 2) (fun _ => rfl) (h.vols g hg)
    unfold gvV at e4
    injection e4 with e5 e6 e7
    rw [e7]
    exact ⟨c5, d5⟩
end
theorem gauge_own {T : TypeId} {B n b c : Nat} {w : World} {t : Int} {x : Air} {L : List Sp} (h : w.ownsRow B T 2 (.slice (some ⟨b, 0, none⟩) n c) n (L.flatMap Sp.cells)) (hn : n = L.length) : w.ownsRow B T 2 (gvV ⟨t, x, some (b, 0, none), c, L⟩) L.length (L.flatMap Sp.cells) := by
  subst hn; exact h
theorem gauge_cells {n b c : Nat} {t : Int} {x : Air} {L : List Sp} (hn : n = L.length) : [.int .i64 t, .int .i64 x.plo, .int .i64 x.phi, .int .i64 x.tlo, .int .i64 x.thi, .slice (some ⟨b, 0, none⟩) n c] = Gauge.cells ⟨t, x, some (b, 0, none), c, L⟩ := by
  subst hn; rfl
/-- the gauges of the first k steps -/
def GOk (start : List Int) (sts : List (List Int)) (x : Air) (wl wide : Int) (G : List Gauge) (k : Nat) : Prop :=
  G.length = k + 1 ∧ ∀ i, i < k + 1 → (G.getD i default).time = 10 * i ∧ (G.getD i default).air = x ∧ (G.getD i default).vols = (Dr.after start sts i).am.map (gV x wl wide)
theorem GOk.zero {start : List Int} {sts : List (List Int)} {x : Air} {wl wide : Int} {b c : Nat} : GOk start sts x wl wide [⟨0, x, some (b, 0, none), c, start.map (gV x wl wide)⟩] 0 := by
  refine ⟨rfl, fun i hi => ?_⟩
  obtain rfl : i = 0 := by omega
  exact ⟨rfl, rfl, rfl⟩
theorem GOk.push {start : List Int} {sts : List (List Int)} {x : Air} {wl wide : Int} {G : List Gauge} {k b c : Nat} (h : GOk start sts x wl wide G k) : GOk start sts x wl wide (G ++ [⟨10 * k + 10, x, some (b, 0, none), c, (Dr.after start sts (k + 1)).am.map (gV x wl wide)⟩]) (k + 1) := by
  obtain ⟨h1, h2⟩ := h
  refine ⟨by simp [h1], fun i hi => ?_⟩
  by_cases e : i < k + 1
  · have := h2 i e
    rw [List.getD_eq_getElem?_getD, List.getElem?_append_left (by omega), ← List.getD_eq_getElem?_getD]
    exact this
  · obtain rfl : i = k + 1 := by omega
    rw [List.getD_eq_getElem?_getD, List.getElem?_append_right (by omega), h1]
    simp
    omega
end Bal.Gas

/-
  The gauge that a statement draws.
-/
namespace Go.Proofs.Ytemafanncejeiaa
open Go.RowKit Bal Bal.Trim Bal.Gas
set_option linter.unusedVariables false
set_option linter.unusedSimpArgs false
set_option maxHeartbeats 4000000
set_option maxRecDepth 100000

attribute [local go_sem] Bal.Trim.ite_max Bal.Trim.ite_min
theorem owns_some {w : World} {base k n cp : Nat} {e : TypeId} {ad : Option Addr} {m : Nat} {xs : List Value} (h : w.ownsRow base e k (.slice ad m cp) n xs) (h0 : 0 < n) : ∃ g, ad = some ⟨g, 0, none⟩ ∧ base ≤ g := by
  obtain ⟨_, ⟨hv, hz⟩ | ⟨g, cap, cur, hv, hb, _⟩⟩ := h
  · omega
  · cases hv
    exact ⟨g, rfl, hb⟩
theorem infoGa : (Try.prog.info? 124).map (fun i => (i.zero, i.size, i.bytes)) = some (some (.agg #[.int .i64 0, .int .i64 0, .int .i64 0, .int .i64 0, .int .i64 0, .slice none 0 0]), 6, 64) := by kernel_rfl
theorem infoFl : (Try.prog.info? 128).map (fun i => (i.zero, i.size, i.bytes)) = some (some (.agg #[.int .i64 0, .int .i64 0, .int .i64 0]), 3, 24) := by kernel_rfl
theorem infoI9 : (Try.prog.info? 3).map (fun i => (i.zero, i.size, i.bytes)) = some (some (.int .i64 0), 1, 8) := by kernel_rfl
theorem run_makeI (s : Nat) (hs : s ≤ 1000) (w : World) : (Instr.makeSlice 93 (.int .i64 s) (.int .i64 s)).run Try.prog w = .ok (.slice (some ⟨w.heap.size, 0, none⟩) s s) (w.alloc (.cells (ints (List.replicate s 0)) 3)) := by
  obtain ⟨i0, hi, hz0, hz1, hz2⟩ := info_parts infoI9
  have := run_make (P := Try.prog) w 93 3 i0 (.int .i64 0) Try.underlying93 hi hz0 .i64 .i64 s s (by omega) (Int.le_refl _) (by rw [hz2]; omega) (by omega)
  rw [this]
  have hm : madeCells (Value.cells (.int .i64 0)) ((s : Int).toNat * i0.size) = ints (List.replicate s 0) := by
    rw [hz1]
    apply Array.ext
    · simp [madeCells, ints]
    · intro i h1 h2
      simp [madeCells, ints, Value.cells, Nat.mod_one]
  rw [hm]
  simp

theorem o_gauge (t : Int) (x : Air) (wl wh wide : Int) (am : List Int) (bA : Nat) (w : World) (hA : Blk w bA (ints am) 3) (h0 : 0 < am.length) (h6 : am.length ≤ 6) (hb : ∀ n ∈ am, 0 ≤ n ∧ n ≤ 76245) (ha : airB x = true) (hw : warmB ⟨wl, wh⟩ = true) (w0_ : 0 ≤ wide) (w1_ : wide ≤ 255) :
    Calls Try.prog 73 #[.int .i64 t, .agg #[.int .i64 x.plo, .int .i64 x.phi, .int .i64 x.tlo, .int .i64 x.thi], .agg #[.int .i64 wl, .int .i64 wh], .slice (some ⟨bA, 0, none⟩) am.length am.length, .int .i64 wide] w fun e w' =>
      ∃ b c, e = .returned (.agg #[.int .i64 t, .int .i64 x.plo, .int .i64 x.phi, .int .i64 x.tlo, .int .i64 x.thi, .slice (some ⟨b, 0, none⟩) am.length c]) ∧ w'.ownsRow w.heap.size 23 2 (.slice (some ⟨b, 0, none⟩) am.length c) am.length ((am.map (gV x wl wide)).flatMap Sp.cells) ∧ Kept w w' := by
  have HROW := Lib.hid (fun W (hW : Kept w W) => (ints_row hA).later hW (Nat.le_refl _))
  have HB := Lib.hid (fun k (hk : k < am.length) => gV_bd ha hw w0_ w1_ (hb _ (List.getElem_mem hk)).1 (show am[k] ≤ 100000 by have := (hb _ (List.getElem_mem hk)).2; omega))
  obtain ⟨⟨p0, p1, p2⟩, t0, t1, t2⟩ := airB_iff.1 ha
  have ws := span3 hw
  simp only at ws
  obtain ⟨ws0, ws1, ws2⟩ := ws
  have HBD := Lib.hid hb
  have hlA := hA.lt
  clear hA hb ha hw
  obtain ⟨N, hN⟩ : ∃ N, N = am.length := ⟨_, rfl⟩
  rw [← hN] at h0 h6 ⊢
  have HN := Lib.hid hN
  clear hN
  go_enter Try.func73, Try.ntmps73
  go_upto_region 2 with fail
  refine at_world (S := fun X => Blk X w.heap.size #[.int .i64 x.plo, .int .i64 x.phi, .int .i64 x.tlo, .int .i64 x.thi] 27 ∧ Blk X (w.heap.size + 1) #[.int .i64 wl, .int .i64 wh] 23 ∧ Blk X (w.heap.size + 1 + 1) #[.int .i64 0, .int .i64 0, .int .i64 0, .int .i64 0, .int .i64 0, .slice none 0 0] 124 ∧ Blk X (w.heap.size + 1 + 1 + 1) #[.int .i64 t, .int .i64 x.plo, .int .i64 x.phi, .int .i64 x.tlo, .int .i64 x.thi, .slice none 0 0] 124 ∧ Kept w X) ⟨by exact blkd, by exact blkd, by exact blkd, by exact blkd, by exact kpt⟩ ?_
  rintro X ⟨q6, q7, q10, q11, hk⟩
  go_upto_region 3 with fail
  go_loopw [20] (fun i wr => ∃ k : Nat, k ≤ N ∧ i = .int .i64 k ∧ Blk wr w.heap.size #[.int .i64 x.plo, .int .i64 x.phi, .int .i64 x.tlo, .int .i64 x.thi] 27 ∧ Blk wr (w.heap.size + 1) #[.int .i64 wl, .int .i64 wh] 23 ∧ Blk wr (w.heap.size + 1 + 1) #[.int .i64 0, .int .i64 0, .int .i64 0, .int .i64 0, .int .i64 0, .slice none 0 0] 124 ∧ Kept w wr ∧ ∃ v, Blk wr (w.heap.size + 1 + 1 + 1) #[.int .i64 t, .int .i64 x.plo, .int .i64 x.phi, .int .i64 x.tlo, .int .i64 x.thi, v] 124 ∧ wr.ownsRow (w.heap.size + 1 + 1 + 1 + 1) 23 2 v k (((am.take k).map (gV x wl wide)).flatMap Sp.cells)) (fun i _ => N - (intOf i).toNat)
  case atStart => exact ⟨0, Nat.zero_le _, rfl, q6, q7, q10, hk, _, q11, owns_nil (α := Sp) (enc := Sp.cells)⟩
  case round =>
    clear q6 q7 q10 q11 hk
    obtain ⟨k, hkn, rfl, q6, q7, q10, hkk, v, q11, hown⟩ := hrel
    have hsz := q11.lt
    by_cases hlt : k < N
    · have hlt' : k < am.length := by rw [← HN.out]; exact hlt
      obtain ⟨b1, o1, hbo, hb1, c0⟩ := int_row (HROW.out _ hkk) k hlt'
      cases hbo
      rw [Nat.zero_add] at c0
      obtain ⟨⟨m0, m1⟩, ⟨d0, d1⟩, _, _⟩ := HB.out k hlt'
      obtain ⟨y0, y1⟩ := HBD.out _ (List.getElem_mem hlt')
      have HT := Lib.hid (show (am.take (k + 1)).map (gV x wl wide) = (am.take k).map (gV x wl wide) ++ [gV x wl wide am[k]] by rw [List.take_succ_eq_append_getElem hlt', List.map_append]; rfl)
      have HLK := Lib.hid (show ((am.take k).map (gV x wl wide)).length = k by simp; omega)
      obtain ⟨n, hn⟩ : ∃ n, n = am[k] := ⟨_, rfl⟩
      rw [← hn] at c0 m0 m1 d0 d1 y0 y1 HT
      clear hn
      have q6c0 := q6.cell 0
      have q6f0 := q6.free 0
      have q6c1 := q6.cell 1
      have q6f1 := q6.free 1
      have q6c2 := q6.cell 2
      have q6f2 := q6.free 2
      have q6c3 := q6.cell 3
      have q6f3 := q6.free 3
      have q6l := q6.lt
      simp at q6c0 q6c1 q6c2 q6c3
      have q7c0 := q7.cell 0
      have q7f0 := q7.free 0
      have q7c1 := q7.cell 1
      have q7f1 := q7.free 1
      have q7l := q7.lt
      simp at q7c0 q7c1
      have q11c0 := q11.cell 0
      have q11f0 := q11.free 0
      have q11c1 := q11.cell 1
      have q11f1 := q11.free 1
      have q11c2 := q11.cell 2
      have q11f2 := q11.free 2
      have q11c3 := q11.cell 3
      have q11f3 := q11.free 3
      have q11c4 := q11.cell 4
      have q11f4 := q11.free 4
      have q11c5 := q11.cell 5
      have q11f5 := q11.free 5
      have q11l := q11.lt
      simp at q11c0 q11c1 q11c2 q11c3 q11c4 q11c5
      have hq : (n * (x.tlo + wl)).tdiv x.plo = n * (x.tlo + wl) / x.plo := Int.tdiv_eq_ediv_of_nonneg m0
      have e1 : (gV x wl wide n).lo = max 0 (n * (x.tlo + wl) / x.plo - wide) := rfl
      have e2 : (gV x wl wide n).hi = n * (x.tlo + wl) / x.plo + 1 + wide := rfl
      have w1 := i64_inH (n := x.tlo + wl) (by omega)
      have w2 := i64_inH (n := n * (x.tlo + wl)) (by omega)
      have w3 := i64_inH (n := n * (x.tlo + wl) / x.plo) (by omega)
      obtain ⟨D, hD⟩ : ∃ D, D = n * (x.tlo + wl) / x.plo - wide := ⟨_, rfl⟩
      have w4 : IntKind.i64.wrap (n * (x.tlo + wl) / x.plo - wide) = D := by rw [hD]; exact i64_inH (by omega)
      have HD := Lib.hid hD
      clear hD
      have w5 := i64_inH (n := n * (x.tlo + wl) / x.plo + 1) (by omega)
      have w6 := i64_inH (n := n * (x.tlo + wl) / x.plo + 1 + wide) (by omega)
      go_wp2_with (at_builtin; (obtain ⟨i0, hi, hz0, hz1, hz2⟩ := info_parts infoSp; refine wpList_append_own _ rfl _ _ 81 rfl (w.heap.size + 1 + 1 + 1 + 1) 23 i0 (.agg #[.int .i64 0, .int .i64 0]) 2 16 Try.underlying81 hi hz0 hz1 hz2 rfl (by decide) _ _ _ rfl ((owns_keep hown (by exact kpt))) ⟨_, 0, none⟩ 1 1 [.int .i64 (max 0 D), .int .i64 (n * (x.tlo + wl) / x.plo + 1 + wide)] rfl rfl (cells_at (by simp) _ _) (fun x hx => by simp at hx; rcases hx with rfl | rfl <;> rfl) (by unfold maxLen; omega) (by omega) (by simp; omega) ?_; intro v9 w9 hown9 hgrow9 hnil9; clear hi hz0 hz1 hz2 hnil9; obtain ⟨ad9, cp9, rfl⟩ := owns_shape hown9; have m11 := Blk.grownLt (Blk.alloc q11 _) (by omega) (owns_keep hown (by exact kpt)) hgrow9; have m11c0 := m11.cell 0; have m11f0 := m11.free 0; have m11c1 := m11.cell 1; have m11f1 := m11.free 1; have m11c2 := m11.cell 2; have m11f2 := m11.free 2; have m11c3 := m11.cell 3; have m11f3 := m11.free 3; have m11c4 := m11.cell 4; have m11f4 := m11.free 4; have m11c5 := m11.cell 5; have m11f5 := m11.free 5; have m11l := m11.lt; simp at m11c0 m11c1 m11c2 m11c3 m11c4 m11c5; have m6 := Blk.grownLt (Blk.alloc q6 _) (by omega) (owns_keep hown (by exact kpt)) hgrow9; have m7 := Blk.grownLt (Blk.alloc q7 _) (by omega) (owns_keep hown (by exact kpt)) hgrow9; have m10 := Blk.grownLt (Blk.alloc q10 _) (by omega) (owns_keep hown (by exact kpt)) hgrow9; have hk9 : Kept w w9 := Kept.grown (Kept.alloc hkk _) (owns_keep hown (by exact kpt)) (by omega) hgrow9))
      go_round
      case rel =>
        refine ⟨k + 1, by omega, by go_num, by exact blkd, by exact blkd, by exact blkd, by exact kpt, _, by exact blkd, ?_⟩
        rw [HT.out, List.flatMap_append]
        have hown10 := owns_setLt (i := 5) (u := .slice ad9 (k + 1) cp9) (show w.heap.size + 1 + 1 + 1 < w.heap.size + 1 + 1 + 1 + 1 by omega) hown9
        rw [HD.out] at hown10
        exact hown10
      case measure => simp [intOf]; omega
    · obtain rfl : k = N := by omega
      have hT : (am.take k).map (gV x wl wide) = am.map (gV x wl wide) := by rw [HN.out, List.take_length]
      rw [hT] at hown
      have hl : (am.map (gV x wl wide)).length = k := by rw [List.length_map]; exact HN.out.symm
      rw [← hl] at hown
      obtain ⟨ad, cp, rfl, hrow, hcp, hcm⟩ := owns_row (enc := Sp.cells) (k := 2) (fun _ => rfl) hown
      obtain ⟨g, e2, e3⟩ := owns_some hown (by rw [hl]; omega)
      subst e2
      rw [hl] at hown q11
      have q10c0 := q10.cell 0
      have q10f0 := q10.free 0
      have q10c1 := q10.cell 1
      have q10f1 := q10.free 1
      have q10c2 := q10.cell 2
      have q10f2 := q10.free 2
      have q10c3 := q10.cell 3
      have q10f3 := q10.free 3
      have q10c4 := q10.cell 4
      have q10f4 := q10.free 4
      have q10c5 := q10.cell 5
      have q10f5 := q10.free 5
      have q10l := q10.lt
      simp at q10c0 q10c1 q10c2 q10c3 q10c4 q10c5
      have q11c0 := q11.cell 0
      have q11f0 := q11.free 0
      have q11c1 := q11.cell 1
      have q11f1 := q11.free 1
      have q11c2 := q11.cell 2
      have q11f2 := q11.free 2
      have q11c3 := q11.cell 3
      have q11f3 := q11.free 3
      have q11c4 := q11.cell 4
      have q11f4 := q11.free 4
      have q11c5 := q11.cell 5
      have q11f5 := q11.free 5
      have q11l := q11.lt
      simp at q11c0 q11c1 q11c2 q11c3 q11c4 q11c5
      go_wp2
      exact bodyPost_ret (v := .agg #[.int .i64 t, .int .i64 x.plo, .int .i64 x.phi, .int .i64 x.tlo, .int .i64 x.thi, .slice (some ⟨g, 0, none⟩) k cp]) (by simp [results, Try.results73, go_sem, q10c0, q10f0, q10c1, q10f1, q10c2, q10f2, q10c3, q10f3, q10c4, q10f4, q10c5, q10f5, q10l]) rfl ⟨g, cp, rfl, owns_base (base := w.heap.size + 1 + 1 + 1 + 1) (owns_setLt (by omega) (owns_setLt (by omega) (owns_setLt (by omega) (owns_setLt (by omega) (owns_setLt (by omega) (owns_setLt (by omega) hown)))))) (by omega), by exact kpt⟩

theorem o_gaugeN (t : Int) (x : Air) (wl wh wide : Int) (am : List Int) (N : Nat) (hN : N = am.length) (bA : Nat) (w : World) (hA : Blk w bA (ints am) 3) (h0 : 0 < N) (h6 : N ≤ 6) (hb : ∀ n ∈ am, 0 ≤ n ∧ n ≤ 76245) (ha : airB x = true) (hw : warmB ⟨wl, wh⟩ = true) (w0_ : 0 ≤ wide) (w1_ : wide ≤ 255) :
    Calls Try.prog 73 #[.int .i64 t, .agg #[.int .i64 x.plo, .int .i64 x.phi, .int .i64 x.tlo, .int .i64 x.thi], .agg #[.int .i64 wl, .int .i64 wh], .slice (some ⟨bA, 0, none⟩) N N, .int .i64 wide] w fun e w' =>
      ∃ b c, e = .returned (.agg #[.int .i64 t, .int .i64 x.plo, .int .i64 x.phi, .int .i64 x.tlo, .int .i64 x.thi, .slice (some ⟨b, 0, none⟩) N c]) ∧ w'.ownsRow w.heap.size 23 2 (.slice (some ⟨b, 0, none⟩) N c) N ((am.map (gV x wl wide)).flatMap Sp.cells) ∧ Kept w w' := by
  subst hN
  exact o_gauge t x wl wh wide am bA w hA h0 h6 hb ha hw w0_ w1_

end Go.Proofs.Ytemafanncejeiaa

/-
  GasNamed: of cells that did leak: the walk.
-/
namespace Go.Proofs.Ytemafanncejeiaa
open Go.RowKit Bal Bal.Trim Bal.Gas
set_option linter.unusedVariables false
set_option linter.unusedSimpArgs false
set_option maxHeartbeats 0
set_option maxRecDepth 100000

attribute [local go_sem] Bal.Trim.ite_max Bal.Trim.ite_min

def kcell (k : IntKind) (n : Int) : List Value := [.int k n]
theorem kcell_row {kd : IntKind} {B : Nat} {w : World} {a : Option Addr} {xs : List Int} (h : Row (kcell kd) 1 B w a xs) (i : Nat) (hi : i < xs.length) :
    ∃ b off, a = some ⟨b, off, none⟩ ∧ b < B ∧ w.cell? ⟨b, off + i, none⟩ = some (.int kd xs[i]) := by
  obtain ⟨b, off, ha, hb, hc⟩ := h i xs[i] (by simp [hi])
  exact ⟨b, off, ha, hb, by simpa using hc 0 _ rfl⟩
/-- a slice of bytes -/
structure Bts where
  va : Option (Nat × Nat × Option Nat)
  vc : Nat
  l : List Int
  deriving Inhabited
def Bts.ad (b : Bts) : Option Addr := b.va.map fun p => ⟨p.1, p.2.1, p.2.2⟩
def Bts.cells (b : Bts) : List Value := [.slice b.ad b.l.length b.vc]
def BtsOk (w : World) (b : Bts) : Prop := Row (kcell .u8) 1 w.heap.size w b.ad b.l ∧ b.l.length ≤ b.vc ∧ b.vc ≤ maxLen ∧ ∀ x ∈ b.l, 0 ≤ x ∧ x ≤ 255
theorem Bts.row {B : Nat} {w : World} {a : Option Addr} {xs : List Bts} (h : Row Bts.cells 1 B w a xs) (i : Nat) (hi : i < xs.length) :
    ∃ b off, a = some ⟨b, off, none⟩ ∧ b < B ∧ w.cell? ⟨b, off + i, none⟩ = some (.slice xs[i].ad xs[i].l.length xs[i].vc) := by
  obtain ⟨b, off, ha, hb, hc⟩ := h i xs[i] (by simp [hi])
  exact ⟨b, off, ha, hb, by simpa using hc 0 _ rfl⟩
theorem take_put {l : List Int} {k N : Nat} (hk : k < l.length) (hN : N = l.length) : (l.take k ++ List.replicate (N - k) 0).set k l[k] = l.take (k + 1) ++ List.replicate (N - (k + 1)) 0 := by
  subst hN
  apply List.ext_getElem
  · simp; omega
  · intro i h1 h2
    rw [List.getElem_set]
    split
    · rename_i e; subst e
      rw [List.getElem_append_left (by simp; omega)]
      simp
    · rename_i hne
      by_cases hi : i < k
      · rw [List.getElem_append_left (by simp; omega), List.getElem_append_left (by simp; omega)]
        simp
      · rw [List.getElem_append_right (by simp; omega), List.getElem_append_right (by simp; omega)]
        simp
abbrev Nq (B b7 b8 b13 bA bL : Nat) (x : Air) (wl wh : Int) := NSt 27 23 85 3 124 128 B b7 b8 b13 bA bL x wl wh

theorem law_GasNamed_zero (start : List Int) (sa : Option Addr) (sc : Nat) (steps : List Bts) (ta : Option Addr) (tc : Nat) (x : Air) (wl wh wide : Int) (w : World) (hs : Row (kcell .u16) 1 w.heap.size w sa start) (hsb : ∀ x ∈ start, 0 ≤ x ∧ x ≤ 65535) (hsc : start.length ≤ sc) (hsm : sc ≤ maxLen) (ht : Row Bts.cells 1 w.heap.size w ta steps) (htb : ∀ b ∈ steps, BtsOk w b) (htc : steps.length ≤ tc) (htm : tc ≤ maxLen) (w0_ : 0 ≤ wide) (w1_ : wide ≤ 255) (h1 : start.length < 1) : Calls Try.prog 14 #[.slice sa start.length sc, .slice ta steps.length tc, .agg #[.int .i64 x.plo, .int .i64 x.phi, .int .i64 x.tlo, .int .i64 x.thi], .agg #[.int .i64 wl, .int .i64 wh], .int .u8 wide] w fun e w' => e = .returned (.bool true) ∧ Kept w w' := by
  unfold maxLen at hsm htm
  have d1 : decide ((start.length : Int) < 1) = true := by simp; omega
  have HCA := Lib.hid (show checkAir x = checkAir x from rfl)
  have HCC := Lib.hid (show checkCell (⟨1, 0, 0, wl, wh, 0, 0⟩ : Cell) = checkCell (⟨1, 0, 0, wl, wh, 0, 0⟩ : Cell) from rfl)
  clear hs hsb ht htb h1
  go_enter Try.func14, Try.ntmps14
  go_wp2_with (first | (go_at_call 68; (with_reducible refine (o_alive _).mono ?_); rintro e w0 ⟨rfl, hb0⟩; refine Blk.thru (b := w.heap.size) (arr := ?_) (t := ?_) ?_ hb0 ?_; rotate_left 2; (focus (exact blk)); intro ua; have uac0 := ua.cell 0; have uaf0 := ua.free 0; have uac1 := ua.cell 1; have uaf1 := ua.free 1; have uac2 := ua.cell 2; have uaf2 := ua.free 2; have uac3 := ua.cell 3; have uaf3 := ua.free 3; have ual := ua.lt; simp at uac0 uac1 uac2 uac3; refine Blk.thru (b := (w.heap.size + 1)) (arr := ?_) (t := ?_) ?_ hb0 ?_; rotate_left 2; (focus (exact blk)); intro ub; have ubc0 := ub.cell 0; have ubf0 := ub.free 0; have ubc1 := ub.cell 1; have ubf1 := ub.free 1; have ubl := ub.lt; simp at ubc0 ubc1) | (go_at_call 26; (with_reducible refine (f_CheckAir x _).mono ?_); rw [HCA.out]; rintro e w1 ⟨rfl, hb1⟩; refine Blk.thru (b := w.heap.size) (arr := ?_) (t := ?_) ?_ hb1 ?_; rotate_left 2; (focus (exact blk)); intro va; have vac0 := va.cell 0; have vaf0 := va.free 0; have vac1 := va.cell 1; have vaf1 := va.free 1; have vac2 := va.cell 2; have vaf2 := va.free 2; have vac3 := va.cell 3; have vaf3 := va.free 3; have val := va.lt; simp at vac0 vac1 vac2 vac3; refine Blk.thru (b := (w.heap.size + 1)) (arr := ?_) (t := ?_) ?_ hb1 ?_; rotate_left 2; (focus (exact blk)); intro vb; have vbc0 := vb.cell 0; have vbf0 := vb.free 0; have vbc1 := vb.cell 1; have vbf1 := vb.free 1; have vbl := vb.lt; simp at vbc0 vbc1) | (go_at_call 28; (with_reducible refine (f_CheckCell (⟨1, 0, 0, wl, wh, 0, 0⟩ : Cell) _).mono ?_); rw [HCC.out]; rintro e w2 ⟨rfl, hb2⟩; refine Blk.thru (b := w.heap.size) (arr := ?_) (t := ?_) ?_ hb2 ?_; rotate_left 2; (focus (exact blk)); intro ya; have yac0 := ya.cell 0; have yaf0 := ya.free 0; have yac1 := ya.cell 1; have yaf1 := ya.free 1; have yac2 := ya.cell 2; have yaf2 := ya.free 2; have yac3 := ya.cell 3; have yaf3 := ya.free 3; have yal := ya.lt; simp at yac0 yac1 yac2 yac3; refine Blk.thru (b := (w.heap.size + 1)) (arr := ?_) (t := ?_) ?_ hb2 ?_; rotate_left 2; (focus (exact blk)); intro yb; have ybc0 := yb.cell 0; have ybf0 := yb.free 0; have ybc1 := yb.cell 1; have ybf1 := yb.free 1; have ybl := yb.lt; simp at ybc0 ybc1))
  go_ret
  exact ⟨rfl, by exact kpt⟩

theorem law_GasNamed_many (start : List Int) (sa : Option Addr) (sc : Nat) (steps : List Bts) (ta : Option Addr) (tc : Nat) (x : Air) (wl wh wide : Int) (w : World) (hs : Row (kcell .u16) 1 w.heap.size w sa start) (hsb : ∀ x ∈ start, 0 ≤ x ∧ x ≤ 65535) (hsc : start.length ≤ sc) (hsm : sc ≤ maxLen) (ht : Row Bts.cells 1 w.heap.size w ta steps) (htb : ∀ b ∈ steps, BtsOk w b) (htc : steps.length ≤ tc) (htm : tc ≤ maxLen) (w0_ : 0 ≤ wide) (w1_ : wide ≤ 255) (h1 : ¬ start.length < 1) (h2 : 6 < start.length) : Calls Try.prog 14 #[.slice sa start.length sc, .slice ta steps.length tc, .agg #[.int .i64 x.plo, .int .i64 x.phi, .int .i64 x.tlo, .int .i64 x.thi], .agg #[.int .i64 wl, .int .i64 wh], .int .u8 wide] w fun e w' => e = .returned (.bool true) ∧ Kept w w' := by
  unfold maxLen at hsm htm
  have d1 : decide ((start.length : Int) < 1) = false := by simp; omega
  have d2 : decide ((6 : Int) < (start.length : Int)) = true := by simp; omega
  clear hs hsb ht htb h1 h2
  go_enter Try.func14, Try.ntmps14
  go_wp2_with (first | (go_at_call 68; (with_reducible refine (o_alive _).mono ?_); rintro e w0 ⟨rfl, hb0⟩; refine Blk.thru (b := w.heap.size) (arr := ?_) (t := ?_) ?_ hb0 ?_; rotate_left 2; (focus (exact blk)); intro ua; have uac0 := ua.cell 0; have uaf0 := ua.free 0; have uac1 := ua.cell 1; have uaf1 := ua.free 1; have uac2 := ua.cell 2; have uaf2 := ua.free 2; have uac3 := ua.cell 3; have uaf3 := ua.free 3; have ual := ua.lt; simp at uac0 uac1 uac2 uac3; refine Blk.thru (b := (w.heap.size + 1)) (arr := ?_) (t := ?_) ?_ hb0 ?_; rotate_left 2; (focus (exact blk)); intro ub; have ubc0 := ub.cell 0; have ubf0 := ub.free 0; have ubc1 := ub.cell 1; have ubf1 := ub.free 1; have ubl := ub.lt; simp at ubc0 ubc1))
  go_ret
  exact ⟨rfl, by exact kpt⟩

theorem law_GasNamed_long (start : List Int) (sa : Option Addr) (sc : Nat) (steps : List Bts) (ta : Option Addr) (tc : Nat) (x : Air) (wl wh wide : Int) (w : World) (hs : Row (kcell .u16) 1 w.heap.size w sa start) (hsb : ∀ x ∈ start, 0 ≤ x ∧ x ≤ 65535) (hsc : start.length ≤ sc) (hsm : sc ≤ maxLen) (ht : Row Bts.cells 1 w.heap.size w ta steps) (htb : ∀ b ∈ steps, BtsOk w b) (htc : steps.length ≤ tc) (htm : tc ≤ maxLen) (w0_ : 0 ≤ wide) (w1_ : wide ≤ 255) (h1 : ¬ start.length < 1) (h2 : ¬ 6 < start.length) (h3 : 7 < steps.length) : Calls Try.prog 14 #[.slice sa start.length sc, .slice ta steps.length tc, .agg #[.int .i64 x.plo, .int .i64 x.phi, .int .i64 x.tlo, .int .i64 x.thi], .agg #[.int .i64 wl, .int .i64 wh], .int .u8 wide] w fun e w' => e = .returned (.bool true) ∧ Kept w w' := by
  unfold maxLen at hsm htm
  have d1 : decide ((start.length : Int) < 1) = false := by simp; omega
  have d2 : decide ((6 : Int) < (start.length : Int)) = false := by simp; omega
  have d3 : decide ((7 : Int) < (steps.length : Int)) = true := by simp; omega
  clear hs hsb ht htb h1 h2 h3
  go_enter Try.func14, Try.ntmps14
  go_wp2_with (first | (go_at_call 68; (with_reducible refine (o_alive _).mono ?_); rintro e w0 ⟨rfl, hb0⟩; refine Blk.thru (b := w.heap.size) (arr := ?_) (t := ?_) ?_ hb0 ?_; rotate_left 2; (focus (exact blk)); intro ua; have uac0 := ua.cell 0; have uaf0 := ua.free 0; have uac1 := ua.cell 1; have uaf1 := ua.free 1; have uac2 := ua.cell 2; have uaf2 := ua.free 2; have uac3 := ua.cell 3; have uaf3 := ua.free 3; have ual := ua.lt; simp at uac0 uac1 uac2 uac3; refine Blk.thru (b := (w.heap.size + 1)) (arr := ?_) (t := ?_) ?_ hb0 ?_; rotate_left 2; (focus (exact blk)); intro ub; have ubc0 := ub.cell 0; have ubf0 := ub.free 0; have ubc1 := ub.cell 1; have ubf1 := ub.free 1; have ubl := ub.lt; simp at ubc0 ubc1))
  go_ret
  exact ⟨rfl, by exact kpt⟩

theorem law_GasNamed_air (start : List Int) (sa : Option Addr) (sc : Nat) (steps : List Bts) (ta : Option Addr) (tc : Nat) (x : Air) (wl wh wide : Int) (w : World) (hs : Row (kcell .u16) 1 w.heap.size w sa start) (hsb : ∀ x ∈ start, 0 ≤ x ∧ x ≤ 65535) (hsc : start.length ≤ sc) (hsm : sc ≤ maxLen) (ht : Row Bts.cells 1 w.heap.size w ta steps) (htb : ∀ b ∈ steps, BtsOk w b) (htc : steps.length ≤ tc) (htm : tc ≤ maxLen) (w0_ : 0 ≤ wide) (w1_ : wide ≤ 255) (h1 : ¬ start.length < 1) (h2 : ¬ 6 < start.length) (h3 : ¬ 7 < steps.length) (h4 : airB x = false) : Calls Try.prog 14 #[.slice sa start.length sc, .slice ta steps.length tc, .agg #[.int .i64 x.plo, .int .i64 x.phi, .int .i64 x.tlo, .int .i64 x.thi], .agg #[.int .i64 wl, .int .i64 wh], .int .u8 wide] w fun e w' => e = .returned (.bool true) ∧ Kept w w' := by
  unfold maxLen at hsm htm
  have d1 : decide ((start.length : Int) < 1) = false := by simp; omega
  have d2 : decide ((6 : Int) < (start.length : Int)) = false := by simp; omega
  have d3 : decide ((7 : Int) < (steps.length : Int)) = false := by simp; omega
  have HCA := Lib.hid (show checkAir x = 30 by simp [checkAir, h4])
  clear hs hsb ht htb h1 h2 h3 h4
  go_enter Try.func14, Try.ntmps14
  go_wp2_with (first | (go_at_call 68; (with_reducible refine (o_alive _).mono ?_); rintro e w0 ⟨rfl, hb0⟩; refine Blk.thru (b := w.heap.size) (arr := ?_) (t := ?_) ?_ hb0 ?_; rotate_left 2; (focus (exact blk)); intro ua; have uac0 := ua.cell 0; have uaf0 := ua.free 0; have uac1 := ua.cell 1; have uaf1 := ua.free 1; have uac2 := ua.cell 2; have uaf2 := ua.free 2; have uac3 := ua.cell 3; have uaf3 := ua.free 3; have ual := ua.lt; simp at uac0 uac1 uac2 uac3; refine Blk.thru (b := (w.heap.size + 1)) (arr := ?_) (t := ?_) ?_ hb0 ?_; rotate_left 2; (focus (exact blk)); intro ub; have ubc0 := ub.cell 0; have ubf0 := ub.free 0; have ubc1 := ub.cell 1; have ubf1 := ub.free 1; have ubl := ub.lt; simp at ubc0 ubc1) | (go_at_call 26; (with_reducible refine (f_CheckAir x _).mono ?_); rw [HCA.out]; rintro e w1 ⟨rfl, hb1⟩; refine Blk.thru (b := w.heap.size) (arr := ?_) (t := ?_) ?_ hb1 ?_; rotate_left 2; (focus (exact blk)); intro va; have vac0 := va.cell 0; have vaf0 := va.free 0; have vac1 := va.cell 1; have vaf1 := va.free 1; have vac2 := va.cell 2; have vaf2 := va.free 2; have vac3 := va.cell 3; have vaf3 := va.free 3; have val := va.lt; simp at vac0 vac1 vac2 vac3; refine Blk.thru (b := (w.heap.size + 1)) (arr := ?_) (t := ?_) ?_ hb1 ?_; rotate_left 2; (focus (exact blk)); intro vb; have vbc0 := vb.cell 0; have vbf0 := vb.free 0; have vbc1 := vb.cell 1; have vbf1 := vb.free 1; have vbl := vb.lt; simp at vbc0 vbc1))
  go_ret
  exact ⟨rfl, by exact kpt⟩

theorem law_GasNamed_warm (start : List Int) (sa : Option Addr) (sc : Nat) (steps : List Bts) (ta : Option Addr) (tc : Nat) (x : Air) (wl wh wide : Int) (w : World) (hs : Row (kcell .u16) 1 w.heap.size w sa start) (hsb : ∀ x ∈ start, 0 ≤ x ∧ x ≤ 65535) (hsc : start.length ≤ sc) (hsm : sc ≤ maxLen) (ht : Row Bts.cells 1 w.heap.size w ta steps) (htb : ∀ b ∈ steps, BtsOk w b) (htc : steps.length ≤ tc) (htm : tc ≤ maxLen) (w0_ : 0 ≤ wide) (w1_ : wide ≤ 255) (h1 : ¬ start.length < 1) (h2 : ¬ 6 < start.length) (h3 : ¬ 7 < steps.length) (h4 : airB x = true) (h5 : warmB ⟨wl, wh⟩ = false) : Calls Try.prog 14 #[.slice sa start.length sc, .slice ta steps.length tc, .agg #[.int .i64 x.plo, .int .i64 x.phi, .int .i64 x.tlo, .int .i64 x.thi], .agg #[.int .i64 wl, .int .i64 wh], .int .u8 wide] w fun e w' => e = .returned (.bool true) ∧ Kept w w' := by
  unfold maxLen at hsm htm
  have d1 : decide ((start.length : Int) < 1) = false := by simp; omega
  have d2 : decide ((6 : Int) < (start.length : Int)) = false := by simp; omega
  have d3 : decide ((7 : Int) < (steps.length : Int)) = false := by simp; omega
  have HCA := Lib.hid (show checkAir x = 0 by simp [checkAir, h4])
  have HCC := Lib.hid (show checkCell (⟨1, 0, 0, wl, wh, 0, 0⟩ : Cell) = 31 by have : spanIn wl wh (-300) 300 = false := h5; simp [checkCell, cellB, cellFits, rng, inB, this])
  clear hs hsb ht htb h1 h2 h3 h4 h5
  go_enter Try.func14, Try.ntmps14
  go_wp2_with (first | (go_at_call 68; (with_reducible refine (o_alive _).mono ?_); rintro e w0 ⟨rfl, hb0⟩; refine Blk.thru (b := w.heap.size) (arr := ?_) (t := ?_) ?_ hb0 ?_; rotate_left 2; (focus (exact blk)); intro ua; have uac0 := ua.cell 0; have uaf0 := ua.free 0; have uac1 := ua.cell 1; have uaf1 := ua.free 1; have uac2 := ua.cell 2; have uaf2 := ua.free 2; have uac3 := ua.cell 3; have uaf3 := ua.free 3; have ual := ua.lt; simp at uac0 uac1 uac2 uac3; refine Blk.thru (b := (w.heap.size + 1)) (arr := ?_) (t := ?_) ?_ hb0 ?_; rotate_left 2; (focus (exact blk)); intro ub; have ubc0 := ub.cell 0; have ubf0 := ub.free 0; have ubc1 := ub.cell 1; have ubf1 := ub.free 1; have ubl := ub.lt; simp at ubc0 ubc1) | (go_at_call 26; (with_reducible refine (f_CheckAir x _).mono ?_); rw [HCA.out]; rintro e w1 ⟨rfl, hb1⟩; refine Blk.thru (b := w.heap.size) (arr := ?_) (t := ?_) ?_ hb1 ?_; rotate_left 2; (focus (exact blk)); intro va; have vac0 := va.cell 0; have vaf0 := va.free 0; have vac1 := va.cell 1; have vaf1 := va.free 1; have vac2 := va.cell 2; have vaf2 := va.free 2; have vac3 := va.cell 3; have vaf3 := va.free 3; have val := va.lt; simp at vac0 vac1 vac2 vac3; refine Blk.thru (b := (w.heap.size + 1)) (arr := ?_) (t := ?_) ?_ hb1 ?_; rotate_left 2; (focus (exact blk)); intro vb; have vbc0 := vb.cell 0; have vbf0 := vb.free 0; have vbc1 := vb.cell 1; have vbf1 := vb.free 1; have vbl := vb.lt; simp at vbc0 vbc1) | (go_at_call 28; (with_reducible refine (f_CheckCell (⟨1, 0, 0, wl, wh, 0, 0⟩ : Cell) _).mono ?_); rw [HCC.out]; rintro e w2 ⟨rfl, hb2⟩; refine Blk.thru (b := w.heap.size) (arr := ?_) (t := ?_) ?_ hb2 ?_; rotate_left 2; (focus (exact blk)); intro ya; have yac0 := ya.cell 0; have yaf0 := ya.free 0; have yac1 := ya.cell 1; have yaf1 := ya.free 1; have yac2 := ya.cell 2; have yaf2 := ya.free 2; have yac3 := ya.cell 3; have yaf3 := ya.free 3; have yal := ya.lt; simp at yac0 yac1 yac2 yac3; refine Blk.thru (b := (w.heap.size + 1)) (arr := ?_) (t := ?_) ?_ hb2 ?_; rotate_left 2; (focus (exact blk)); intro yb; have ybc0 := yb.cell 0; have ybf0 := yb.free 0; have ybc1 := yb.cell 1; have ybf1 := yb.free 1; have ybl := yb.lt; simp at ybc0 ybc1))
  go_ret
  exact ⟨rfl, by exact kpt⟩

/-- the region of a number, in a code -/
def regOf : Code → Nat → Option Code
  | .region id ops d, n => if id = n then some (.region id ops d) else none
  | .seq a b, n => (regOf a n).or (regOf b n)
  | .cond _ a b, n => (regOf a n).or (regOf b n)
  | .block _ b, n => regOf b n
  | .loop b, n => regOf b n
  | .scope b, n => regOf b n
  | .rangeFunc _ _ a b, n => (regOf a n).or (regOf b n)
  | _, _ => none
/-- the block of a number, in a code -/
def blkOf : Code → Nat → Option Code
  | .seq a b, n => (blkOf a n).or (blkOf b n)
  | .cond _ a b, n => (blkOf a n).or (blkOf b n)
  | .block id b, n => if id = n then some (.block id b) else blkOf b n
  | .loop b, n => blkOf b n
  | .scope b, n => blkOf b n
  | .rangeFunc _ _ a b, n => (blkOf a n).or (blkOf b n)
  | _, _ => none
/-- the 'if' on a slot, in a code -/
def cndOf : Code → Nat → Option Code
  | .seq a b, n => (cndOf a n).or (cndOf b n)
  | .cond (.tmp t) a b, n => if t = n then some (.cond (.tmp t) a b) else (cndOf a n).or (cndOf b n)
  | .cond _ a b, n => (cndOf a n).or (cndOf b n)
  | .block _ b, n => cndOf b n
  | .loop b, n => cndOf b n
  | .scope b, n => cndOf b n
  | .rangeFunc _ _ a b, n => (cndOf a n).or (cndOf b n)
  | _, _ => none

theorem seg_15 {s0 s1 s2 s3 s5 s6 s9 s10 s11 s16 s17 s18 s19 s20 s21 s22 s23 s24 s25 s26 s27 s28 s29 s30 s31 s32 s33 s34 s35 s36 s37 s38 s39 s40 s41 s42 s43 s44 s45 s46 s47 s48 s49 s50 s51 s52 s53 s54 s55 s56 s57 s58 s59 s60 s61 s62 s63 s64 s65 s66 s67 s68 s69 s70 s71 s72 s73 s74 s75 s76 s77 s78 s79 s80 s81 s82 s83 s84 s85 s86 s87 s88 s89 s90 s91 s92 s93 s94 s95 s96 s97 s98 s99 s100 s101 s102 s103 s104 s105 s106 s107 s108 s109 s110 s111 s112 s113 s114 s115 s116 s117 s118 s119 s120 s121 s122 s123 s124 s125 s126 s127 s128 s129 s130 s131 s132 s133 s134 s135 s136 s137 s138 s139 s140 s141 s142 s143 s144 s145 s146 s147 s148 s149 s150 s151 s152 s153 s154 s155 s156 s157 s158 s159 s160 s161 s162 s163 s164 s165 s166 s167 s168 s169 s170 s171 s172 s173 s174 s175 s176 s177 s178 s179 s180 s181 s182 s183 s184 s185 s186 s187 s188 s189 s190 s191 s192 s193 s194 s195 s196 s197 s198 s199 s200 s201 s202 s203 s204 s205 s206 s207 s208 s209 s210 s211 s212 s213 s214 s215 s216 s217 s218 s219 s220 s221 s222 s223 s224 s225 s226 s227 s228 s229 s230 s231 s232 s233 s234 s235 s236 s237 s238 s239 s240 s241 s242 s243 s244 s245 s246 s247 s248 s249 s250 s251 s252 s253 s254 s255 s256 s257 s258 s259 s260 s261 s262 s263 s264 s265 s266 s267 s268 s269 s270 s271 s272 s273 s274 s275 s276 s277 s278 s279 s280 s281 s282 s283 s284 s285 s286 s287 s288 s289 s290 s291 s292 s293 s294 s295 s296 s297 s298 s299 s300 : Value} {start : List Int} {sts : List (List Int)} {x : Air} {wl wh wide : Int} {w : World} {B s13 bA bL k : Nat} {v : Value} {w9 : World} (C : Code) (hC : (Try.f14.body.bind fun c => regOf c 15) = some C) (Q : Exit → Act → World → Prop) (hQ : ∀ c a d v w, Q (.panic c) (Act.put a d v) w → Q (.panic c) a w) (w0_ : 0 ≤ wide) (w1_ : wide ≤ 255) (hn1 : 1 ≤ k) (hn6 : k ≤ 6) (hN : k = start.length) (hsb : ∀ x ∈ start, 0 ≤ x ∧ x ≤ 65535) (h4 : airB x = true) (h5 : warmB ⟨wl, wh⟩ = true) (HNS : Nq B (w.heap.size) (w.heap.size + 1) s13 bA bL x wl wh w w9 v (.slice none 0 0) (.slice none 0 0) start (List.replicate k 0) (List.replicate k ⟨wl, wh⟩) [] [])
    (hK : ∀  (u84 u85 u86 u87 u88 u89 u90 u91 u92 u93 u94 : Value) (wc : World), (∃ vg, ∃ G, GOk start sts x wl wide G 0 ∧ Nq B (w.heap.size) (w.heap.size + 1) s13 bA bL x wl wh w wc v vg (.slice none 0 0) start (List.replicate k 0) (List.replicate k ⟨wl, wh⟩) G []) → Q .normal ⟨#[s0, s1, s2, s3, .int .u8 wide, s5, s6, .pointer (some ⟨w.heap.size, 0, none⟩), .pointer (some ⟨w.heap.size + 1, 0, none⟩), s9, s10, s11, .int .i64 k, .pointer (some ⟨s13, 0, none⟩), .slice (some ⟨bA, 0, none⟩) k k, .slice (some ⟨bL, 0, none⟩) k k, s16, s17, s18, s19, s20, s21, s22, s23, s24, s25, s26, s27, s28, s29, s30, s31, s32, s33, s34, s35, s36, s37, s38, s39, s40, s41, s42, s43, s44, s45, s46, s47, s48, s49, s50, s51, s52, s53, s54, s55, s56, s57, s58, s59, s60, s61, s62, s63, s64, s65, s66, s67, s68, s69, s70, s71, s72, s73, s74, s75, s76, s77, s78, s79, s80, s81, s82, s83, u84, u85, u86, u87, u88, u89, u90, u91, u92, u93, u94, s95, s96, s97, s98, s99, s100, s101, s102, s103, s104, s105, s106, s107, s108, s109, s110, s111, s112, s113, s114, s115, s116, s117, s118, s119, s120, s121, s122, s123, s124, s125, s126, s127, s128, s129, s130, s131, s132, s133, s134, s135, s136, s137, s138, s139, s140, s141, s142, s143, s144, s145, s146, s147, s148, s149, s150, s151, s152, s153, s154, s155, s156, s157, s158, s159, s160, s161, s162, s163, s164, s165, s166, s167, s168, s169, s170, s171, s172, s173, s174, s175, s176, s177, s178, s179, s180, s181, s182, s183, s184, s185, s186, s187, s188, s189, s190, s191, s192, s193, s194, s195, s196, s197, s198, s199, s200, s201, s202, s203, s204, s205, s206, s207, s208, s209, s210, s211, s212, s213, s214, s215, s216, s217, s218, s219, s220, s221, s222, s223, s224, s225, s226, s227, s228, s229, s230, s231, s232, s233, s234, s235, s236, s237, s238, s239, s240, s241, s242, s243, s244, s245, s246, s247, s248, s249, s250, s251, s252, s253, s254, s255, s256, s257, s258, s259, s260, s261, s262, s263, s264, s265, s266, s267, s268, s269, s270, s271, s272, s273, s274, s275, s276, s277, s278, s279, s280, s281, s282, s283, s284, s285, s286, s287, s288, s289, s290, s291, s292, s293, s294, s295, s296, s297, s298, s299, s300], []⟩ wc) : C.wp Try.prog Q ⟨#[s0, s1, s2, s3, .int .u8 wide, s5, s6, .pointer (some ⟨w.heap.size, 0, none⟩), .pointer (some ⟨w.heap.size + 1, 0, none⟩), s9, s10, s11, .int .i64 k, .pointer (some ⟨s13, 0, none⟩), .slice (some ⟨bA, 0, none⟩) k k, .slice (some ⟨bL, 0, none⟩) k k, s16, s17, s18, s19, s20, s21, s22, s23, s24, s25, s26, s27, s28, s29, s30, s31, s32, s33, s34, s35, s36, s37, s38, s39, s40, s41, s42, s43, s44, s45, s46, s47, s48, s49, s50, s51, s52, s53, s54, s55, s56, s57, s58, s59, s60, s61, s62, s63, s64, s65, s66, s67, s68, s69, s70, s71, s72, s73, s74, s75, s76, s77, s78, s79, s80, s81, s82, s83, s84, s85, s86, s87, s88, s89, s90, s91, s92, s93, s94, s95, s96, s97, s98, s99, s100, s101, s102, s103, s104, s105, s106, s107, s108, s109, s110, s111, s112, s113, s114, s115, s116, s117, s118, s119, s120, s121, s122, s123, s124, s125, s126, s127, s128, s129, s130, s131, s132, s133, s134, s135, s136, s137, s138, s139, s140, s141, s142, s143, s144, s145, s146, s147, s148, s149, s150, s151, s152, s153, s154, s155, s156, s157, s158, s159, s160, s161, s162, s163, s164, s165, s166, s167, s168, s169, s170, s171, s172, s173, s174, s175, s176, s177, s178, s179, s180, s181, s182, s183, s184, s185, s186, s187, s188, s189, s190, s191, s192, s193, s194, s195, s196, s197, s198, s199, s200, s201, s202, s203, s204, s205, s206, s207, s208, s209, s210, s211, s212, s213, s214, s215, s216, s217, s218, s219, s220, s221, s222, s223, s224, s225, s226, s227, s228, s229, s230, s231, s232, s233, s234, s235, s236, s237, s238, s239, s240, s241, s242, s243, s244, s245, s246, s247, s248, s249, s250, s251, s252, s253, s254, s255, s256, s257, s258, s259, s260, s261, s262, s263, s264, s265, s266, s267, s268, s269, s270, s271, s272, s273, s274, s275, s276, s277, s278, s279, s280, s281, s282, s283, s284, s285, s286, s287, s288, s289, s290, s291, s292, s293, s294, s295, s296, s297, s298, s299, s300], []⟩ w9 := by
  have e0 : (Try.f14.body.bind fun c => regOf c 15) = some (.region 15 _ _) := rfl
  rw [e0] at hC
  cases hC
  clear e0
  try dsimp only at hK ⊢
  have HN := Lib.hid hN
  have HAM : ∀ n ∈ start, 0 ≤ n ∧ n ≤ 76245 := fun n hn => by have := hsb n hn; omega
  have H4 := Lib.hid h4
  have H5 := Lib.hid h5
  clear hN h4 h5 hsb
  have hBV := HNS.hB
  have hwB' := HNS.b0.1
  have q7 := HNS.air
  have q8 := HNS.wm
  have q13 := HNS.hist
  refine at_world (S := fun Y => Nq B (w.heap.size) (w.heap.size + 1) s13 bA bL x wl wh w Y v (.slice none 0 0) (.slice none 0 0) start (List.replicate k 0) (List.replicate k ⟨wl, wh⟩) [] []) HNS ?_
  clear HNS q7 q8 q13 hBV
  intro Y HNS
  have hBV := HNS.hB
  have q7 := HNS.air
  have q8 := HNS.wm
  have q13 := HNS.hist
  refine held_walk (fun w' => Blk w' w.heap.size #[.int .i64 x.plo, .int .i64 x.phi, .int .i64 x.tlo, .int .i64 x.thi] 27 ∧ Blk w' (w.heap.size + 1) #[.int .i64 wl, .int .i64 wh] 23 ∧ Blk w' s13 #[v, (.slice none 0 0), (.slice none 0 0)] 85) [(true, 0), (true, 1), (true, 2), (true, 3), (true, 4), (true, 5), (true, 6), (false, 7), (false, 8), (false, 9), (true, 10), (false, 11)] 11 (by kernel_rfl) (by kernel_rfl) hQ ⟨q7.drew, q8.drew, q13.drew⟩ ?_
  simp only [List.filterMap_cons, List.filterMap_nil, List.getElem?_cons_zero, List.getElem?_cons_succ, Option.map_some]
  iterate 7 ((first | (refine held_take ?_ ?_ (fun w' hS => ?_) ?_; rotate_left 1; (focus rfl); (focus (first | (go_simp; done) | (go_simp; with_reducible rfl) | (obtain hS := hS; obtain ⟨S1, S2, S3⟩ := hS; have S1c0 := S1.cell 0; have S1f0 := S1.free 0; have S1c1 := S1.cell 1; have S1f1 := S1.free 1; have S1c2 := S1.cell 2; have S1f2 := S1.free 2; have S1c3 := S1.cell 3; have S1f3 := S1.free 3; have S1l := S1.lt; simp at S1c0 S1c1 S1c2 S1c3; have S2c0 := S2.cell 0; have S2f0 := S2.free 0; have S2c1 := S2.cell 1; have S2f1 := S2.free 1; have S2l := S2.lt; simp at S2c0 S2c1; have S3c0 := S3.cell 0; have S3f0 := S3.free 0; have S3c1 := S3.cell 1; have S3f1 := S3.free 1; have S3c2 := S3.cell 2; have S3f2 := S3.free 2; have S3l := S3.lt; simp at S3c0 S3c1 S3c2; first | (go_simp; done) | (go_simp; with_reducible rfl))))) | (refine held_pass ?_ ?_; (focus rfl))); simp only [Act.put, List.setIfInBounds_toArray, List.set_cons_zero, List.set_cons_succ])
  refine held_one ?_
  refine wpList_plain rfl fun K1 hK1 => ?_
  go_wp2_with (go_at_call 73; (with_reducible refine (o_gaugeN 0 x wl wh wide start k HN.out bA _ (HNS.keep (Below.drew (Below.refl _ _))).am (by omega) (by omega) HAM H4.out H5.out w0_ w1_).mono ?_); rintro e w3 ⟨bg, cg, rfl, hog, hb3⟩; have hz3 : Y.heap.size ≤ w3.heap.size := hb3.size)
  refine held_on ⟨q7.keep (Kept.drop (Below.drew (Below.refl _ _)) hb3), q8.keep (Kept.drop (Below.drew (Below.refl _ _)) hb3), q13.keep (Kept.drop (Below.drew (Below.refl _ _)) hb3)⟩ ?_
  refine held_one ?_
  refine wpList_plain rfl fun K1 hK1 => ?_
  go_wp2
  refine held_on ⟨(q7.keep (Kept.drop (Below.drew (Below.refl _ _)) hb3)).alloc _, (q8.keep (Kept.drop (Below.drew (Below.refl _ _)) hb3)).alloc _, (q13.keep (Kept.drop (Below.drew (Below.refl _ _)) hb3)).alloc _⟩ ?_
  refine held_one ?_
  go_wp2_with (at_builtin; (obtain ⟨i0, hi, hz0, hz1, hz2⟩ := info_parts infoGa; refine wpList_append_own _ rfl _ _ 82 rfl (B) 124 i0 (.agg #[.int .i64 0, .int .i64 0, .int .i64 0, .int .i64 0, .int .i64 0, .slice none 0 0]) 6 64 Try.underlying82 hi hz0 hz1 hz2 rfl (by decide) _ _ _ rfl ((owns_keep HNS.og (by exact kpt))) ⟨_, 0, none⟩ 1 1 [.int .i64 0, .int .i64 x.plo, .int .i64 x.phi, .int .i64 x.tlo, .int .i64 x.thi, .slice (some ⟨bg, 0, none⟩) k cg] rfl rfl (cells_at (by simp) _ _) (fun x hx => by simp at hx; rcases hx with rfl | rfl | rfl | rfl | rfl | rfl <;> rfl) (by unfold maxLen; first | (simp; done) | (simp; omega) | omega) (by first | (simp; done) | (simp; omega) | omega) (by simp; omega) ?_; intro v9 w9 hown9 hgrow9 hnil9; clear hi hz0 hz1 hz2 hnil9; obtain ⟨ad9, cp9, rfl⟩ := owns_shape hown9; have m7 := Blk.grownLt (Blk.alloc (q7.keep (Kept.drop (Below.drew (Below.refl _ _)) hb3)) _) HNS.l7 (owns_keep HNS.og (by exact kpt)) hgrow9; have m8 := Blk.grownLt (Blk.alloc (q8.keep (Kept.drop (Below.drew (Below.refl _ _)) hb3)) _) HNS.l8 (owns_keep HNS.og (by exact kpt)) hgrow9; have m13 := Blk.grownLt (Blk.alloc (q13.keep (Kept.drop (Below.drew (Below.refl _ _)) hb3)) _) HNS.l13 (owns_keep HNS.og (by exact kpt)) hgrow9))
  first | refine held_on ⟨m7, m8, m13⟩ ?_ | (refine onward_on ?_; refine ⟨⟨m7, m8, m13⟩, ?_⟩)
  iterate 1 ((first | (refine held_take ?_ ?_ (fun w' hS => ?_) ?_; rotate_left 1; (focus rfl); (focus (first | (go_simp; done) | (go_simp; with_reducible rfl) | (obtain hS := hS; obtain ⟨S1, S2, S3⟩ := hS; have S1c0 := S1.cell 0; have S1f0 := S1.free 0; have S1c1 := S1.cell 1; have S1f1 := S1.free 1; have S1c2 := S1.cell 2; have S1f2 := S1.free 2; have S1c3 := S1.cell 3; have S1f3 := S1.free 3; have S1l := S1.lt; simp at S1c0 S1c1 S1c2 S1c3; have S2c0 := S2.cell 0; have S2f0 := S2.free 0; have S2c1 := S2.cell 1; have S2f1 := S2.free 1; have S2l := S2.lt; simp at S2c0 S2c1; have S3c0 := S3.cell 0; have S3f0 := S3.free 0; have S3c1 := S3.cell 1; have S3f1 := S3.free 1; have S3c2 := S3.cell 2; have S3f2 := S3.free 2; have S3l := S3.lt; simp at S3c0 S3c1 S3c2; first | (go_simp; done) | (go_simp; with_reducible rfl))))) | (refine held_pass ?_ ?_; (focus rfl))); simp only [Act.put, List.setIfInBounds_toArray, List.set_cons_zero, List.set_cons_succ])
  refine held_one ?_
  refine wpList_plain rfl fun K1 hK1 => ?_
  have m13c0 := m13.cell 0; have m13f0 := m13.free 0; have m13c1 := m13.cell 1; have m13f1 := m13.free 1; have m13c2 := m13.cell 2; have m13f2 := m13.free 2; have m13l := m13.lt; simp at m13c0 m13c1 m13c2
  go_wp2
  (first | refine held_end ?_ | (refine onward_on ?_; first | refine held_nil ?_ | refine ⟨.inl trivial, held_nil ?_⟩ | refine ⟨.inl rfl, held_nil ?_⟩))
  go_wp2_with fail
  have HK := HNS.keep (show Kept Y w3 by exact kpt)
  have HAP := NSt.appG (HK.keep ((Below.refl _ _).alloc (Nat.le_refl _) _)) (by decide) (by decide) (s := ⟨0, x, some (bg, 0, none), cg, start.map (gV x wl wide)⟩) (by rw [gauge_cells (L := start.map (gV x wl wide)) (by simp [HN.out])] at hown9; exact hown9) hgrow9 (owns_keep (gauge_own (owns_base hog hBV) (by simp [HN.out])) ((Below.refl _ _).alloc (Nat.le_refl _) _))
  exact ⟨_, _, GOk.zero, HAP⟩

theorem seg_c1 {s0 s1 s2 s3 s4 s5 s6 s9 s10 s11 s16 s17 s18 s24 s25 s26 s27 s28 s29 s30 s31 s32 s33 s34 s35 s36 s37 s38 s39 s40 s41 s42 s43 s44 s45 s46 s47 s48 s49 s50 s51 s52 s53 s54 s55 s56 s57 s58 s59 s60 s61 s62 s63 s64 s65 s66 s67 s68 s69 s70 s71 s72 s73 s74 s75 s76 s77 s78 s79 s80 s81 s82 s83 s84 s85 s86 s87 s88 s89 s90 s91 s92 s93 s94 s95 s96 s97 s98 s99 s100 s101 s102 s103 s104 s105 s106 s107 s108 s109 s110 s111 s113 s114 s115 s116 s117 s118 s119 s120 s121 s122 s123 s124 s125 s126 s127 s128 s129 s130 s131 s132 s133 s134 s135 s136 s137 s138 s139 s140 s141 s142 s143 s144 s145 s146 s147 s148 s149 s150 s151 s152 s153 s154 s155 s156 s157 s158 s159 s160 s161 s162 s163 s164 s165 s166 s167 s168 s169 s170 s171 s172 s173 s174 s175 s176 s177 s178 s179 s180 s181 s182 s183 s184 s185 s186 s187 s188 s189 s190 s191 s192 s193 s194 s195 s196 s197 s198 s199 s200 s201 s202 s203 s204 s205 s206 s207 s208 s209 s210 s211 s212 s213 s214 s215 s216 s217 s218 s219 s220 s221 s222 s223 s224 s225 s226 s227 s228 s229 s230 s231 s232 s233 s234 s235 s236 s237 s238 s239 s240 s241 s242 s243 s244 s245 s246 s247 s248 s249 s250 s251 s252 s253 s254 s255 s256 s257 s258 s259 s260 s261 s262 s263 s264 s265 s266 s267 s268 s269 s270 s271 s272 s273 s274 s275 s276 s277 s278 s279 s280 s281 s282 s283 s284 s285 s286 s287 s288 s289 s290 s291 s292 s293 s294 s295 s296 s297 s298 s299 s300 : Value} {x : Air} {wl wh : Int} {w : World} {B s13 bA bL k j c : Nat} {v vg vf : Value} {bt : Bts} {E : Dr} {Wl : List Sp} {G : List Gauge}  {P O A : Int} {Bq : Bool} {w9 : World} (C : Code) (hC : (Try.f14.body.bind fun c => cndOf c 112) = some C) (Q : Exit → Act → World → Prop) (hBQ : Bq = decide (2 * c + 1 < bt.l.length)) (hP : P = inp bt.l c) (hINP : inp bt.l c = if 2 * c + 1 < bt.l.length then bt.l.getD (2 * c) 0 else 0) (hO : O = outp bt.l c A) (hOUT : ∀ A, outp bt.l c A = if 2 * c + 1 < bt.l.length then min (bt.l.getD (2 * c + 1) 0 % 16) A else 0) (hBTI : ∀ y ∈ bt.l, 0 ≤ y ∧ y ≤ 255) (hBR : ∀ W, Kept w W → BtsOk W bt) (hck : c ≤ 100) (hcl : c < k) (hlenA : c < E.am.length) (hG0 : E.am[c] = A) (HNS : Nq B (w.heap.size) (w.heap.size + 1) s13 bA bL x wl wh w w9 v vg vf E.am E.lo Wl G E.fl)
    (hK : ∀  (u113 u114 u115 u116 u117 u118 u119 u120 u121 u122 u123 u124 u125 u126 u127 u128 u129 u130 u131 : Value) (wc : World), Nq B (w.heap.size) (w.heap.size + 1) s13 bA bL x wl wh w wc v vg vf E.am E.lo Wl G E.fl → Q .normal ⟨#[s0, s1, s2, s3, s4, s5, s6, .pointer (some ⟨w.heap.size, 0, none⟩), .pointer (some ⟨w.heap.size + 1, 0, none⟩), s9, s10, s11, .int .i64 k, .pointer (some ⟨s13, 0, none⟩), .slice (some ⟨bA, 0, none⟩) k k, .slice (some ⟨bL, 0, none⟩) k k, s16, s17, s18, .int .i64 j, .slice bt.ad bt.l.length bt.vc, .int .i64 c, .int .i64 P, .int .i64 O, s24, s25, s26, s27, s28, s29, s30, s31, s32, s33, s34, s35, s36, s37, s38, s39, s40, s41, s42, s43, s44, s45, s46, s47, s48, s49, s50, s51, s52, s53, s54, s55, s56, s57, s58, s59, s60, s61, s62, s63, s64, s65, s66, s67, s68, s69, s70, s71, s72, s73, s74, s75, s76, s77, s78, s79, s80, s81, s82, s83, s84, s85, s86, s87, s88, s89, s90, s91, s92, s93, s94, s95, s96, s97, s98, s99, s100, s101, s102, s103, s104, s105, s106, s107, s108, s109, s110, s111, .bool Bq, u113, u114, u115, u116, u117, u118, u119, u120, u121, u122, u123, u124, u125, u126, u127, u128, u129, u130, u131, s132, s133, s134, s135, s136, s137, s138, s139, s140, s141, s142, s143, s144, s145, s146, s147, s148, s149, s150, s151, s152, s153, s154, s155, s156, s157, s158, s159, s160, s161, s162, s163, s164, s165, s166, s167, s168, s169, s170, s171, s172, s173, s174, s175, s176, s177, s178, s179, s180, s181, s182, s183, s184, s185, s186, s187, s188, s189, s190, s191, s192, s193, s194, s195, s196, s197, s198, s199, s200, s201, s202, s203, s204, s205, s206, s207, s208, s209, s210, s211, s212, s213, s214, s215, s216, s217, s218, s219, s220, s221, s222, s223, s224, s225, s226, s227, s228, s229, s230, s231, s232, s233, s234, s235, s236, s237, s238, s239, s240, s241, s242, s243, s244, s245, s246, s247, s248, s249, s250, s251, s252, s253, s254, s255, s256, s257, s258, s259, s260, s261, s262, s263, s264, s265, s266, s267, s268, s269, s270, s271, s272, s273, s274, s275, s276, s277, s278, s279, s280, s281, s282, s283, s284, s285, s286, s287, s288, s289, s290, s291, s292, s293, s294, s295, s296, s297, s298, s299, s300], []⟩ wc) : C.wp Try.prog Q ⟨#[s0, s1, s2, s3, s4, s5, s6, .pointer (some ⟨w.heap.size, 0, none⟩), .pointer (some ⟨w.heap.size + 1, 0, none⟩), s9, s10, s11, .int .i64 k, .pointer (some ⟨s13, 0, none⟩), .slice (some ⟨bA, 0, none⟩) k k, .slice (some ⟨bL, 0, none⟩) k k, s16, s17, s18, .int .i64 j, .slice bt.ad bt.l.length bt.vc, .int .i64 c, .int .i64 0, .int .i64 0, s24, s25, s26, s27, s28, s29, s30, s31, s32, s33, s34, s35, s36, s37, s38, s39, s40, s41, s42, s43, s44, s45, s46, s47, s48, s49, s50, s51, s52, s53, s54, s55, s56, s57, s58, s59, s60, s61, s62, s63, s64, s65, s66, s67, s68, s69, s70, s71, s72, s73, s74, s75, s76, s77, s78, s79, s80, s81, s82, s83, s84, s85, s86, s87, s88, s89, s90, s91, s92, s93, s94, s95, s96, s97, s98, s99, s100, s101, s102, s103, s104, s105, s106, s107, s108, s109, s110, s111, .bool Bq, s113, s114, s115, s116, s117, s118, s119, s120, s121, s122, s123, s124, s125, s126, s127, s128, s129, s130, s131, s132, s133, s134, s135, s136, s137, s138, s139, s140, s141, s142, s143, s144, s145, s146, s147, s148, s149, s150, s151, s152, s153, s154, s155, s156, s157, s158, s159, s160, s161, s162, s163, s164, s165, s166, s167, s168, s169, s170, s171, s172, s173, s174, s175, s176, s177, s178, s179, s180, s181, s182, s183, s184, s185, s186, s187, s188, s189, s190, s191, s192, s193, s194, s195, s196, s197, s198, s199, s200, s201, s202, s203, s204, s205, s206, s207, s208, s209, s210, s211, s212, s213, s214, s215, s216, s217, s218, s219, s220, s221, s222, s223, s224, s225, s226, s227, s228, s229, s230, s231, s232, s233, s234, s235, s236, s237, s238, s239, s240, s241, s242, s243, s244, s245, s246, s247, s248, s249, s250, s251, s252, s253, s254, s255, s256, s257, s258, s259, s260, s261, s262, s263, s264, s265, s266, s267, s268, s269, s270, s271, s272, s273, s274, s275, s276, s277, s278, s279, s280, s281, s282, s283, s284, s285, s286, s287, s288, s289, s290, s291, s292, s293, s294, s295, s296, s297, s298, s299, s300], []⟩ w9 := by
  have e0 : (Try.f14.body.bind fun c => cndOf c 112) = some (.cond _ _ _) := rfl
  rw [e0] at hC
  cases hC
  clear e0
  try dsimp only at hK ⊢
  have HP := Lib.hid hP
  have HINP := Lib.hid hINP
  have HO := Lib.hid hO
  have HOUT := Lib.hid hOUT
  have HBTI := Lib.hid hBTI
  have HBR := Lib.hid hBR
  have HBQ := Lib.hid hBQ
  have HG0 := Lib.hid hG0
  clear hP hINP hO hOUT hBTI hBR hBQ hG0
  refine at_world (S := fun Y => Nq B (w.heap.size) (w.heap.size + 1) s13 bA bL x wl wh w Y v vg vf E.am E.lo Wl G E.fl) HNS ?_
  clear HNS
  intro Y HNS
  have k0 : (0 : Int) ≤ (c : Int) := by omega
  have k1 : (c : Int) < (k : Int) := by omega
  obtain ⟨p, hp⟩ : ∃ p : Nat, p = 2 * c := ⟨_, rfl⟩
  obtain ⟨q, hq⟩ : ∃ q : Nat, q = 2 * c + 1 := ⟨_, rfl⟩
  cases Bq with
  | true =>
    have hb : 2 * c + 1 < bt.l.length := by have := HBQ.out; simpa using this.symm
    have hpl : p < bt.l.length := by omega
    have hql : q < bt.l.length := by omega
    have w1 : IntKind.i64.wrap (2 * (c : Int)) = (p : Int) := by rw [i64_inH (by omega)]; omega
    have w2 : IntKind.i64.wrap ((p : Int) + 1) = (q : Int) := by rw [i64_inH (by omega)]; omega
    obtain ⟨hbr, hbv, hbm, _⟩ := HBR.out _ HNS.kept
    obtain ⟨bb, ob, hbb, hbl, y0⟩ := kcell_row hbr p (by omega)
    obtain ⟨bb', ob', hbb', _, y1⟩ := kcell_row hbr q (by omega)
    rw [hbb] at hbb'
    obtain ⟨rfl, rfl⟩ : bb = bb' ∧ ob = ob' := by simpa using hbb'
    clear hbb'
    have hu := HBTI.out _ (List.getElem_mem (show p < bt.l.length by omega))
    have hv := HBTI.out _ (List.getElem_mem (show q < bt.l.length by omega))
    have eP : P = bt.l[p] := by rw [HP.out, HINP.out, if_pos hb, List.getD_eq_getElem?_getD, ← hp, List.getElem?_eq_getElem hpl]; rfl
    have eO : O = min (bt.l[q] % 16) A := by rw [HO.out, HOUT.out, if_pos hb, List.getD_eq_getElem?_getD, ← hq, List.getElem?_eq_getElem hql]; rfl
    rw [← eP] at y0 hu
    obtain ⟨u, hu0⟩ : ∃ u, u = bt.l[q] := ⟨_, rfl⟩
    rw [← hu0] at y1 hv eO
    obtain ⟨R, hR⟩ : ∃ R, R = u % 16 := ⟨_, rfl⟩
    rw [← hR] at eO
    have em : u.tmod 16 = R := by rw [hR]; exact Int.tmod_eq_emod_of_nonneg hv.1
    have w3 := i64_inH (n := P) (by omega)
    have w4 := i64_inH (n := u) (by omega)
    have w5 := i64_inH (n := R) (by omega)
    have HEO := Lib.hid eO
    have qA0 := HNS.am.cell c
    rw [ints_get hlenA, HG0.out] at qA0
    have z0 := fun g_ : Later Y => g_.some y0
    have z1 := fun g_ : Later Y => g_.some y1
    have z2 := fun g_ : Later Y => g_.some qA0
    have k2 : (0 : Int) ≤ (p : Int) := by omega
    have k3 : (p : Int) < (bt.l.length : Int) := by omega
    have k4 : (0 : Int) ≤ (q : Int) := by omega
    have k5 : (q : Int) < (bt.l.length : Int) := by omega
    clear hu0 hR eP eO hbr y0 y1 qA0 hp hq hb
    rw [hbb]
    go_upto_region 25 with fail
    refine Later.region (by kernel_rfl) (by kernel_rfl) ?_
    repeat (first | go_big_quiet_skip | (go_big_quiet_want; go_big_quiet_op; first | go_big_quiet_on | (apply Exists.intro; refine ⟨fun g_ => ?_, ?_⟩; (focus (first | fail)); go_big_quiet_on)))
    refine wpQuiet_nil ?_
    intro gg
    try rw [Bal.Trim.ite_min]
    rw [← hbb, ← HEO.out]
    exact hK _ _ _ _ _ _ _ _ _ _ _ _ _ _ _ _ _ _ _ _ (HNS.keep gg.ok)
  | false =>
    have hb : ¬ 2 * c + 1 < bt.l.length := by have := HBQ.out; simpa using this.symm
    have eP : P = 0 := by rw [HP.out, HINP.out, if_neg hb]
    have eO : O = 0 := by rw [HO.out, HOUT.out, if_neg hb]
    clear hb hp hq
    subst eP eO
    go_wp2
    exact HNS

theorem seg_c2 {s0 s1 s2 s3 s4 s5 s6 s9 s10 s11 s16 s17 s18 s24 s25 s26 s27 s28 s29 s30 s31 s32 s33 s34 s35 s36 s37 s38 s39 s40 s41 s42 s43 s44 s45 s46 s47 s48 s49 s50 s51 s52 s53 s54 s55 s56 s57 s58 s59 s60 s61 s62 s63 s64 s65 s66 s67 s68 s69 s70 s71 s72 s73 s74 s75 s76 s77 s78 s79 s80 s81 s82 s83 s84 s85 s86 s87 s88 s89 s90 s91 s92 s93 s94 s95 s96 s97 s98 s99 s100 s101 s102 s103 s104 s105 s106 s107 s108 s109 s110 s111 s112 s113 s114 s115 s116 s117 s118 s119 s120 s121 s122 s123 s124 s125 s126 s127 s128 s129 s130 s131 s132 s133 s135 s136 s137 s138 s139 s140 s141 s142 s143 s144 s145 s146 s147 s148 s149 s150 s151 s152 s153 s154 s155 s156 s157 s158 s159 s160 s161 s162 s163 s164 s165 s166 s167 s168 s169 s170 s171 s172 s173 s174 s175 s176 s177 s178 s179 s180 s181 s182 s183 s184 s185 s186 s187 s188 s189 s190 s191 s192 s193 s194 s195 s196 s197 s198 s199 s200 s201 s202 s203 s204 s205 s206 s207 s208 s209 s210 s211 s212 s213 s214 s215 s216 s217 s218 s219 s220 s221 s222 s223 s224 s225 s226 s227 s228 s229 s230 s231 s232 s233 s234 s235 s236 s237 s238 s239 s240 s241 s242 s243 s244 s245 s246 s247 s248 s249 s250 s251 s252 s253 s254 s255 s256 s257 s258 s259 s260 s261 s262 s263 s264 s265 s266 s267 s268 s269 s270 s271 s272 s273 s274 s275 s276 s277 s278 s279 s280 s281 s282 s283 s284 s285 s286 s287 s288 s289 s290 s291 s292 s293 s294 s295 s296 s297 s298 s299 s300 : Value} {x : Air} {wl wh : Int} {w : World} {B s13 bA bL k j c : Nat} {v vg vf : Value} {bt : Bts} {E : Dr} {Wl : List Sp} {G : List Gauge}  {P O I A : Int} {Bm : Bool} {w9 : World} (C : Code) (hC : (Try.f14.body.bind fun c => cndOf c 134) = some C) (Q : Exit → Act → World → Prop) (hBM : Bm = decide (j % 2 = 1)) (hI : I = inn j bt.l c A) (hINN : ∀ A, inn j bt.l c A = if j % 2 = 1 then -(min (inp bt.l c) (A - outp bt.l c A)) else inp bt.l c) (hP : P = inp bt.l c) (hO : O = outp bt.l c A) (ho1 : 0 ≤ O) (ho2 : O ≤ A) (hp1 : 0 ≤ P) (hp2 : P ≤ 255) (ha1 : A ≤ 90000) (hcl : c < k) (hlenA : c < E.am.length) (hG0 : E.am[c] = A) (HNS : Nq B (w.heap.size) (w.heap.size + 1) s13 bA bL x wl wh w w9 v vg vf E.am E.lo Wl G E.fl)
    (hK : ∀  (u135 u136 u137 u138 u139 u140 u141 u142 u143 : Value) (wc : World), Nq B (w.heap.size) (w.heap.size + 1) s13 bA bL x wl wh w wc v vg vf E.am E.lo Wl G E.fl → Q .normal ⟨#[s0, s1, s2, s3, s4, s5, s6, .pointer (some ⟨w.heap.size, 0, none⟩), .pointer (some ⟨w.heap.size + 1, 0, none⟩), s9, s10, s11, .int .i64 k, .pointer (some ⟨s13, 0, none⟩), .slice (some ⟨bA, 0, none⟩) k k, .slice (some ⟨bL, 0, none⟩) k k, s16, s17, s18, .int .i64 j, .slice bt.ad bt.l.length bt.vc, .int .i64 c, .int .i64 I, .int .i64 O, s24, s25, s26, s27, s28, s29, s30, s31, s32, s33, s34, s35, s36, s37, s38, s39, s40, s41, s42, s43, s44, s45, s46, s47, s48, s49, s50, s51, s52, s53, s54, s55, s56, s57, s58, s59, s60, s61, s62, s63, s64, s65, s66, s67, s68, s69, s70, s71, s72, s73, s74, s75, s76, s77, s78, s79, s80, s81, s82, s83, s84, s85, s86, s87, s88, s89, s90, s91, s92, s93, s94, s95, s96, s97, s98, s99, s100, s101, s102, s103, s104, s105, s106, s107, s108, s109, s110, s111, s112, s113, s114, s115, s116, s117, s118, s119, s120, s121, s122, s123, s124, s125, s126, s127, s128, s129, s130, s131, s132, s133, .bool Bm, u135, u136, u137, u138, u139, u140, u141, u142, u143, s144, s145, s146, s147, s148, s149, s150, s151, s152, s153, s154, s155, s156, s157, s158, s159, s160, s161, s162, s163, s164, s165, s166, s167, s168, s169, s170, s171, s172, s173, s174, s175, s176, s177, s178, s179, s180, s181, s182, s183, s184, s185, s186, s187, s188, s189, s190, s191, s192, s193, s194, s195, s196, s197, s198, s199, s200, s201, s202, s203, s204, s205, s206, s207, s208, s209, s210, s211, s212, s213, s214, s215, s216, s217, s218, s219, s220, s221, s222, s223, s224, s225, s226, s227, s228, s229, s230, s231, s232, s233, s234, s235, s236, s237, s238, s239, s240, s241, s242, s243, s244, s245, s246, s247, s248, s249, s250, s251, s252, s253, s254, s255, s256, s257, s258, s259, s260, s261, s262, s263, s264, s265, s266, s267, s268, s269, s270, s271, s272, s273, s274, s275, s276, s277, s278, s279, s280, s281, s282, s283, s284, s285, s286, s287, s288, s289, s290, s291, s292, s293, s294, s295, s296, s297, s298, s299, s300], []⟩ wc) : C.wp Try.prog Q ⟨#[s0, s1, s2, s3, s4, s5, s6, .pointer (some ⟨w.heap.size, 0, none⟩), .pointer (some ⟨w.heap.size + 1, 0, none⟩), s9, s10, s11, .int .i64 k, .pointer (some ⟨s13, 0, none⟩), .slice (some ⟨bA, 0, none⟩) k k, .slice (some ⟨bL, 0, none⟩) k k, s16, s17, s18, .int .i64 j, .slice bt.ad bt.l.length bt.vc, .int .i64 c, .int .i64 P, .int .i64 O, s24, s25, s26, s27, s28, s29, s30, s31, s32, s33, s34, s35, s36, s37, s38, s39, s40, s41, s42, s43, s44, s45, s46, s47, s48, s49, s50, s51, s52, s53, s54, s55, s56, s57, s58, s59, s60, s61, s62, s63, s64, s65, s66, s67, s68, s69, s70, s71, s72, s73, s74, s75, s76, s77, s78, s79, s80, s81, s82, s83, s84, s85, s86, s87, s88, s89, s90, s91, s92, s93, s94, s95, s96, s97, s98, s99, s100, s101, s102, s103, s104, s105, s106, s107, s108, s109, s110, s111, s112, s113, s114, s115, s116, s117, s118, s119, s120, s121, s122, s123, s124, s125, s126, s127, s128, s129, s130, s131, s132, s133, .bool Bm, s135, s136, s137, s138, s139, s140, s141, s142, s143, s144, s145, s146, s147, s148, s149, s150, s151, s152, s153, s154, s155, s156, s157, s158, s159, s160, s161, s162, s163, s164, s165, s166, s167, s168, s169, s170, s171, s172, s173, s174, s175, s176, s177, s178, s179, s180, s181, s182, s183, s184, s185, s186, s187, s188, s189, s190, s191, s192, s193, s194, s195, s196, s197, s198, s199, s200, s201, s202, s203, s204, s205, s206, s207, s208, s209, s210, s211, s212, s213, s214, s215, s216, s217, s218, s219, s220, s221, s222, s223, s224, s225, s226, s227, s228, s229, s230, s231, s232, s233, s234, s235, s236, s237, s238, s239, s240, s241, s242, s243, s244, s245, s246, s247, s248, s249, s250, s251, s252, s253, s254, s255, s256, s257, s258, s259, s260, s261, s262, s263, s264, s265, s266, s267, s268, s269, s270, s271, s272, s273, s274, s275, s276, s277, s278, s279, s280, s281, s282, s283, s284, s285, s286, s287, s288, s289, s290, s291, s292, s293, s294, s295, s296, s297, s298, s299, s300], []⟩ w9 := by
  have e0 : (Try.f14.body.bind fun c => cndOf c 134) = some (.cond _ _ _) := rfl
  rw [e0] at hC
  cases hC
  clear e0
  try dsimp only at hK ⊢
  have HI := Lib.hid hI
  have HINN := Lib.hid hINN
  have HP := Lib.hid hP
  have HO := Lib.hid hO
  have HBM := Lib.hid hBM
  have HG0 := Lib.hid hG0
  clear hI hINN hP hO hBM hG0
  refine at_world (S := fun Y => Nq B (w.heap.size) (w.heap.size + 1) s13 bA bL x wl wh w Y v vg vf E.am E.lo Wl G E.fl) HNS ?_
  clear HNS
  intro Y HNS
  have k0 : (0 : Int) ≤ (c : Int) := by omega
  have k1 : (c : Int) < (k : Int) := by omega
  have qA0 := HNS.am.cell c
  rw [ints_get hlenA, HG0.out] at qA0
  obtain ⟨Df, hDf⟩ : ∃ d, d = A - O := ⟨_, rfl⟩
  have w3 : IntKind.i64.wrap (A - O) = Df := by rw [hDf]; exact i64_inH (by omega)
  have hDb : 0 ≤ Df ∧ Df ≤ 100000 := by omega
  cases Bm with
  | true =>
    have hj2 : j % 2 = 1 := by have := HBM.out; simpa using this.symm
    have eI : I = -(min P Df) := by rw [HI.out, HINN.out, if_pos hj2, ← HP.out, ← HO.out, ← hDf]
    have w4 := i64_inH (n := -(min P Df)) (by omega)
    clear hj2 hDf
    subst eI
    go_wp2
    exact HNS
  | false =>
    have hj2 : ¬ j % 2 = 1 := by have := HBM.out; simpa using this.symm
    have eI : I = P := by rw [HI.out, HINN.out, if_neg hj2, ← HP.out]
    clear hj2
    subst eI
    go_wp2
    exact HNS

theorem seg_in {s0 s1 s2 s3 s4 s5 s6 s9 s10 s11 s16 s17 s21 s22 s23 s24 s25 s26 s27 s28 s29 s30 s31 s32 s33 s34 s35 s36 s37 s38 s39 s40 s41 s42 s43 s44 s45 s46 s47 s48 s49 s50 s51 s52 s53 s54 s55 s56 s57 s58 s59 s60 s61 s62 s63 s64 s65 s66 s67 s68 s69 s70 s71 s72 s73 s74 s75 s76 s77 s78 s79 s80 s81 s82 s83 s84 s85 s86 s87 s88 s89 s90 s91 s92 s93 s94 s95 s96 s97 s98 s99 s100 s101 s102 s105 s106 s107 s108 s109 s110 s111 s112 s113 s114 s115 s116 s117 s118 s119 s120 s121 s122 s123 s124 s125 s126 s127 s128 s129 s130 s131 s132 s133 s134 s135 s136 s137 s138 s139 s140 s141 s142 s143 s144 s145 s146 s147 s148 s149 s150 s151 s152 s153 s154 s155 s156 s157 s158 s159 s160 s161 s162 s163 s164 s165 s166 s167 s168 s169 s170 s171 s172 s173 s174 s175 s176 s177 s178 s179 s180 s181 s182 s183 s184 s185 s186 s187 s188 s189 s190 s191 s192 s193 s194 s195 s196 s197 s198 s199 s200 s201 s202 s203 s204 s205 s206 s207 s208 s209 s210 s211 s212 s213 s214 s215 s216 s217 s218 s219 s220 s221 s222 s223 s224 s225 s226 s227 s228 s229 s230 s231 s232 s233 s234 s235 s236 s237 s238 s239 s240 s241 s242 s243 s244 s245 s246 s247 s248 s249 s250 s251 s252 s253 s254 s255 s256 s257 s258 s259 s260 s261 s262 s263 s264 s265 s266 s267 s268 s269 s270 s271 s272 s273 s274 s275 s276 s277 s278 s279 s280 s281 s282 s283 s284 s285 s286 s287 s288 s289 s290 s291 s292 s293 s294 s295 s296 s297 s298 s299 s300 : Value} {start : List Int} {x : Air} {wl wh : Int} {w : World} {B s13 bA bL k j : Nat} {v vg vf : Value} {bt : Bts} {D : Dr} {Wl : List Sp} {G : List Gauge} {w9 : World} (C : Code) (hC : (Try.f14.body.bind fun c => blkOf c 4) = some C) (Q : Exit → Act → World → Prop) (hj : j ≤ 7) (hn1 : 1 ≤ k) (hn6 : k ≤ 6) (hN : k = start.length) (hDI : D.Inv start (j - 1)) (hDL : D.fl.length ≤ 42) (hBR : ∀ W, Kept w W → BtsOk W bt) (HNS : Nq B (w.heap.size) (w.heap.size + 1) s13 bA bL x wl wh w w9 v vg vf D.am D.lo Wl G D.fl)
    (hK : ∀  (u21 u22 u23 u104 u105 u106 u107 u108 u109 u110 u111 u112 u113 u114 u115 u116 u117 u118 u119 u120 u121 u122 u123 u124 u125 u126 u127 u128 u129 u130 u131 u132 u133 u134 u135 u136 u137 u138 u139 u140 u141 u142 u143 u144 u145 u146 u147 u148 u149 u150 u151 u152 u153 u154 u155 u156 u157 u158 u159 u160 u161 u162 u163 u164 u165 u166 u167 u168 u169 u170 u171 u172 u173 u174 : Value) (wc : World), (∃ vf, Nq B (w.heap.size) (w.heap.size + 1) s13 bA bL x wl wh w wc v vg vf (D.cells j bt.l k).am (D.cells j bt.l k).lo Wl G (D.cells j bt.l k).fl) → Q .normal ⟨#[s0, s1, s2, s3, s4, s5, s6, .pointer (some ⟨w.heap.size, 0, none⟩), .pointer (some ⟨w.heap.size + 1, 0, none⟩), s9, s10, s11, .int .i64 k, .pointer (some ⟨s13, 0, none⟩), .slice (some ⟨bA, 0, none⟩) k k, .slice (some ⟨bL, 0, none⟩) k k, s16, s17, .int .i64 (D.cells j bt.l k).all, .int .i64 j, .slice bt.ad bt.l.length bt.vc, u21, u22, u23, s24, s25, s26, s27, s28, s29, s30, s31, s32, s33, s34, s35, s36, s37, s38, s39, s40, s41, s42, s43, s44, s45, s46, s47, s48, s49, s50, s51, s52, s53, s54, s55, s56, s57, s58, s59, s60, s61, s62, s63, s64, s65, s66, s67, s68, s69, s70, s71, s72, s73, s74, s75, s76, s77, s78, s79, s80, s81, s82, s83, s84, s85, s86, s87, s88, s89, s90, s91, s92, s93, s94, s95, s96, s97, s98, s99, s100, s101, s102, .int .i64 k, u104, u105, u106, u107, u108, u109, u110, u111, u112, u113, u114, u115, u116, u117, u118, u119, u120, u121, u122, u123, u124, u125, u126, u127, u128, u129, u130, u131, u132, u133, u134, u135, u136, u137, u138, u139, u140, u141, u142, u143, u144, u145, u146, u147, u148, u149, u150, u151, u152, u153, u154, u155, u156, u157, u158, u159, u160, u161, u162, u163, u164, u165, u166, u167, u168, u169, u170, u171, u172, u173, u174, s175, s176, s177, s178, s179, s180, s181, s182, s183, s184, s185, s186, s187, s188, s189, s190, s191, s192, s193, s194, s195, s196, s197, s198, s199, s200, s201, s202, s203, s204, s205, s206, s207, s208, s209, s210, s211, s212, s213, s214, s215, s216, s217, s218, s219, s220, s221, s222, s223, s224, s225, s226, s227, s228, s229, s230, s231, s232, s233, s234, s235, s236, s237, s238, s239, s240, s241, s242, s243, s244, s245, s246, s247, s248, s249, s250, s251, s252, s253, s254, s255, s256, s257, s258, s259, s260, s261, s262, s263, s264, s265, s266, s267, s268, s269, s270, s271, s272, s273, s274, s275, s276, s277, s278, s279, s280, s281, s282, s283, s284, s285, s286, s287, s288, s289, s290, s291, s292, s293, s294, s295, s296, s297, s298, s299, s300], []⟩ wc) : C.wp Try.prog Q ⟨#[s0, s1, s2, s3, s4, s5, s6, .pointer (some ⟨w.heap.size, 0, none⟩), .pointer (some ⟨w.heap.size + 1, 0, none⟩), s9, s10, s11, .int .i64 k, .pointer (some ⟨s13, 0, none⟩), .slice (some ⟨bA, 0, none⟩) k k, .slice (some ⟨bL, 0, none⟩) k k, s16, s17, .int .i64 D.all, .int .i64 j, .slice bt.ad bt.l.length bt.vc, s21, s22, s23, s24, s25, s26, s27, s28, s29, s30, s31, s32, s33, s34, s35, s36, s37, s38, s39, s40, s41, s42, s43, s44, s45, s46, s47, s48, s49, s50, s51, s52, s53, s54, s55, s56, s57, s58, s59, s60, s61, s62, s63, s64, s65, s66, s67, s68, s69, s70, s71, s72, s73, s74, s75, s76, s77, s78, s79, s80, s81, s82, s83, s84, s85, s86, s87, s88, s89, s90, s91, s92, s93, s94, s95, s96, s97, s98, s99, s100, s101, s102, .int .i64 k, .int .i64 0, s105, s106, s107, s108, s109, s110, s111, s112, s113, s114, s115, s116, s117, s118, s119, s120, s121, s122, s123, s124, s125, s126, s127, s128, s129, s130, s131, s132, s133, s134, s135, s136, s137, s138, s139, s140, s141, s142, s143, s144, s145, s146, s147, s148, s149, s150, s151, s152, s153, s154, s155, s156, s157, s158, s159, s160, s161, s162, s163, s164, s165, s166, s167, s168, s169, s170, s171, s172, s173, s174, s175, s176, s177, s178, s179, s180, s181, s182, s183, s184, s185, s186, s187, s188, s189, s190, s191, s192, s193, s194, s195, s196, s197, s198, s199, s200, s201, s202, s203, s204, s205, s206, s207, s208, s209, s210, s211, s212, s213, s214, s215, s216, s217, s218, s219, s220, s221, s222, s223, s224, s225, s226, s227, s228, s229, s230, s231, s232, s233, s234, s235, s236, s237, s238, s239, s240, s241, s242, s243, s244, s245, s246, s247, s248, s249, s250, s251, s252, s253, s254, s255, s256, s257, s258, s259, s260, s261, s262, s263, s264, s265, s266, s267, s268, s269, s270, s271, s272, s273, s274, s275, s276, s277, s278, s279, s280, s281, s282, s283, s284, s285, s286, s287, s288, s289, s290, s291, s292, s293, s294, s295, s296, s297, s298, s299, s300], []⟩ w9 := by
  have e0 : (Try.f14.body.bind fun c => blkOf c 4) = some (.block 4 _) := rfl
  rw [e0] at hC
  cases hC
  clear e0
  try dsimp only at hK ⊢
  have HN := Lib.hid hN
  have HBR := Lib.hid hBR
  have hBTI := (hBR _ (Below.refl _ _)).2.2.2
  have HCI := Lib.hid (fun c (hc : c ≤ start.length) => Dr.cells_inv hDI (show j - 1 ≤ j by omega) hBTI c hc)
  have HCF := Lib.hid (show ∀ c, (D.cells j bt.l c).fl.length ≤ 42 + c from fun c => by
    obtain ⟨r, e, hr, _⟩ := Dr.cells_fl j bt.l D c
    rw [e, List.length_append, hr]; omega)
  have HBTI := Lib.hid hBTI
  clear hN hBR hDI hBTI
  go_wp2
  go_loopw [18, 104] (fun al i wr => ∃ c : Nat, c ≤ k ∧ i = .int .i64 c ∧ al = .int .i64 (D.cells j bt.l c).all ∧ ∃ vf, Nq B (w.heap.size) (w.heap.size + 1) s13 bA bL x wl wh w wr v vg vf (D.cells j bt.l c).am (D.cells j bt.l c).lo Wl G (D.cells j bt.l c).fl) (fun _ i _ => k - (intOf i).toNat)
  case atStart => exact ⟨0, Nat.zero_le _, rfl, rfl, vf, HNS⟩
  case round =>
    clear HNS
    obtain ⟨c, hck, rfl, rfl, vf, HNS⟩ := hrel
    by_cases hcl : c < k
    · have hcs : c < start.length := by rw [← HN.out]; exact hcl
      have hinv := HCI.out c (by omega)
      have hfl := HCF.out c
      obtain ⟨E, hE⟩ : ∃ E, E = D.cells j bt.l c := ⟨_, rfl⟩
      rw [← hE] at hinv hfl HNS
      have HES := Lib.hid (show D.cells j bt.l (c + 1) = E.step j bt.l c by rw [hE]; rfl)
      rw [← hE]
      have HE := Lib.hid hE
      clear hE
      obtain ⟨⟨a0, a1⟩, ⟨e0, e1⟩, _⟩ := hinv.at_ c hcs
      have g0 := hinv.all0
      have g1 := hinv.all1
      have HAL := Lib.hid hinv.am
      have HLL := Lib.hid hinv.lo
      have o1 := outp_bd HBTI.out c a0
      have i1 := inn_bd j HBTI.out c a0
      have p1 := inp_bd HBTI.out c
      have HG0 := Lib.hid (show E.am[c]'(by rw [HAL.out]; exact hcs) = E.am.getD c 0 by rw [List.getD_eq_getElem?_getD, List.getElem?_eq_getElem (by rw [HAL.out]; exact hcs)]; rfl)
      have HG1 := Lib.hid (show E.lo[c]'(by rw [HLL.out]; exact hcs) = E.lo.getD c 0 by rw [List.getD_eq_getElem?_getD, List.getElem?_eq_getElem (by rw [HLL.out]; exact hcs)]; rfl)
      have HOUT := Lib.hid (show ∀ A, outp bt.l c A = if 2 * c + 1 < bt.l.length then min (bt.l.getD (2 * c + 1) 0 % 16) A else 0 from fun A => rfl)
      have HINP := Lib.hid (show inp bt.l c = if 2 * c + 1 < bt.l.length then bt.l.getD (2 * c) 0 else 0 from rfl)
      have HINN := Lib.hid (show ∀ A, inn j bt.l c A = if j % 2 = 1 then -(min (inp bt.l c) (A - outp bt.l c A)) else inp bt.l c from fun A => rfl)
      obtain ⟨A, hA⟩ : ∃ A, A = E.am.getD c 0 := ⟨_, rfl⟩
      obtain ⟨L, hL⟩ : ∃ L, L = E.lo.getD c 0 := ⟨_, rfl⟩
      obtain ⟨O, hO⟩ : ∃ O, O = outp bt.l c A := ⟨_, rfl⟩
      obtain ⟨I, hI⟩ : ∃ I, I = inn j bt.l c A := ⟨_, rfl⟩
      obtain ⟨P, hP⟩ : ∃ P, P = inp bt.l c := ⟨_, rfl⟩
      rw [← hA] at a0 a1 o1 i1 HG0
      rw [← hL] at e0 e1 HG1
      rw [← hO] at o1 i1
      rw [← hI] at i1
      rw [← hP] at p1
      have HEX := Lib.hid (show E.step j bt.l c = ⟨E.am.set c (A + (I - O)), E.lo.set c (L + O), E.all + O, E.fl ++ [⟨10 * j + 3, c, I⟩]⟩ by unfold Dr.step; rw [← hA, ← hL, ← hO, ← hI])
      have HO := Lib.hid hO
      have HI := Lib.hid hI
      have HP := Lib.hid hP
      clear hA hL hO hI hP hinv
      obtain ⟨o1, o2, o3⟩ := o1
      obtain ⟨i1, i2, i3⟩ := i1
      obtain ⟨p1, p2⟩ := p1
      obtain ⟨Z, hZ⟩ : ∃ Z, Z = E.all := ⟨_, rfl⟩
      rw [← hZ] at g0 g1 ⊢
      have HZ := Lib.hid hZ
      clear hZ
      have hlenA : c < E.am.length := by rw [HAL.out]; exact hcs
      have hlenL : c < E.lo.length := by rw [HLL.out]; exact hcs
      have w1 := i64_inH (n := 2 * (c : Int)) (by omega)
      have w2 := i64_inH (n := 2 * (c : Int) + 1) (by omega)
      go_upto_region 24 with fail
      refine at_world (S := fun Y => Nq B (w.heap.size) (w.heap.size + 1) s13 bA bL x wl wh w Y v vg vf E.am E.lo Wl G E.fl) HNS ?_
      clear HNS
      intro Y HNS
      have k0 : (0 : Int) ≤ (c : Int) := by omega
      have k1 : (c : Int) < (k : Int) := by omega
      obtain ⟨Bq, hBq⟩ : ∃ b, b = decide (2 * c + 1 < bt.l.length) := ⟨_, rfl⟩
      have dq : decide (2 * (c : Int) + 1 < (bt.l.length : Int)) = Bq := by rw [hBq]; congr 1; simp; omega
      have dq' : decide (2 * c + 1 < bt.l.length) = Bq := hBq.symm
      have HBQ := Lib.hid hBq
      clear hBq
      go_upto_if 112 with fail
      refine at_world (S := fun Y => Nq B (w.heap.size) (w.heap.size + 1) s13 bA bL x wl wh w Y v vg vf E.am E.lo Wl G E.fl) HNS ?_
      clear HNS
      intro Y HNS
      refine seg_c1 _ rfl _ HBQ.out HP.out HINP.out HO.out HOUT.out HBTI.out HBR.out (show c ≤ 100 by omega) hcl hlenA HG0.out HNS ?_
      clear HNS
      rintro _ _ _ _ _ _ _ _ _ _ _ _ _ _ _ _ _ _ _ wc HNS
      clear dq dq'
      obtain ⟨M, hM⟩ : ∃ M, M = (j : Int) % 2 := ⟨_, rfl⟩
      have em : (j : Int).tmod 2 = M := by rw [hM]; exact Int.tmod_eq_emod_of_nonneg (by omega)
      obtain ⟨Bm, hBm⟩ : ∃ b, b = (M == 1) := ⟨_, rfl⟩
      have em2 : (M == 1) = Bm := hBm.symm
      have HBM := Lib.hid (show Bm = decide (j % 2 = 1) by rw [hBm, hM]; by_cases h : j % 2 = 1 <;> simp [h] <;> omega)
      clear hBm hM
      go_upto_if 134 with fail
      refine at_world (S := fun Y => Nq B (w.heap.size) (w.heap.size + 1) s13 bA bL x wl wh w Y v vg vf E.am E.lo Wl G E.fl) HNS ?_
      clear HNS
      intro Y2 HNS
      refine seg_c2 _ rfl _ HBM.out HI.out HINN.out HP.out HO.out o1 o2 p1 p2 (show A ≤ 90000 by omega) hcl hlenA HG0.out HNS ?_
      clear HNS
      rintro _ _ _ _ _ _ _ _ _ wc HNS
      go_upto_region 28 with fail
      refine at_world (S := fun Y => Nq B (w.heap.size) (w.heap.size + 1) s13 bA bL x wl wh w Y v vg vf E.am E.lo Wl G E.fl) HNS ?_
      clear HNS
      intro Y3 HNS
      skip
      have qA0 := HNS.am.cell c
      rw [ints_get hlenA, HG0.out] at qA0
      have qAf := HNS.am.free c
      have w3 := i64_inH (n := I - O) (by omega)
      have w4 := i64_inH (n := A + (I - O)) (by omega)
      go_upto_region 29 with fail
      refine at_world (S := fun Y => Nq B (w.heap.size) (w.heap.size + 1) s13 bA bL x wl wh w Y v vg vf (E.am.set c (A + (I - O))) E.lo Wl G E.fl) (HNS.setA c (A + (I - O))) ?_
      clear HNS qA0 qAf w3 w4
      intro Y4 HNS
      have qL0 := HNS.lo.cell c
      rw [ints_get hlenL, HG1.out] at qL0
      have qLf := HNS.lo.free c
      have w3 := i64_inH (n := L + O) (by omega)
      have w4 := i64_inH (n := Z + O) (by omega)
      go_upto_region 31 with fail
      refine at_world (S := fun Y => Nq B (w.heap.size) (w.heap.size + 1) s13 bA bL x wl wh w Y v vg vf (E.am.set c (A + (I - O))) (E.lo.set c (L + O)) Wl G E.fl) (HNS.setL c (L + O)) ?_
      clear HNS qL0 qLf w3 w4
      intro Y5 HNS
      have hBB := HNS.hB
      have q13 := HNS.hist
      have hkw := HNS.kept
      have q13c0 := q13.cell 0
      have q13f0 := q13.free 0
      have q13c1 := q13.cell 1
      have q13f1 := q13.free 1
      have q13c2 := q13.cell 2
      have q13f2 := q13.free 2
      have q13l := q13.lt
      simp at q13c0 q13c1 q13c2
      have w3 := i64_inH (n := 10 * (j : Int)) (by omega)
      have w4 := i64_inH (n := 10 * (j : Int) + 3) (by omega)
      go_wp2_with (at_builtin; (obtain ⟨i0, hi, hz0, hz1, hz2⟩ := info_parts infoFl; refine wpList_append_own _ rfl _ _ 83 rfl (B) 128 i0 (.agg #[.int .i64 0, .int .i64 0, .int .i64 0]) 3 24 Try.underlying83 hi hz0 hz1 hz2 rfl (by decide) _ _ _ rfl ((owns_keep HNS.of (by exact kpt))) ⟨_, 0, none⟩ 1 1 [.int .i64 (10 * (j : Int) + 3), .int .i64 (c : Int), .int .i64 I] rfl rfl (cells_at (by simp) _ _) (fun x hx => by simp at hx; rcases hx with rfl | rfl | rfl <;> rfl) (by unfold maxLen; omega) (by omega) (by simp; omega) ?_; intro v9 w9 hown9 hgrow9 hnil9; clear hi hz0 hz1 hz2 hnil9; obtain ⟨ad9, cp9, rfl⟩ := owns_shape hown9; have m13 := Blk.grownLt (Blk.alloc q13 _) HNS.l13 (owns_keep HNS.of (by exact kpt)) hgrow9; have m13c0 := m13.cell 0; have m13f0 := m13.free 0; have m13c1 := m13.cell 1; have m13f1 := m13.free 1; have m13c2 := m13.cell 2; have m13f2 := m13.free 2; have m13l := m13.lt; simp at m13c0 m13c1 m13c2))
      have HAP := NSt.appF (HNS.keep ((Below.refl _ _).alloc (Nat.le_refl _) _)) (by decide) (by decide) (s := ⟨10 * j + 3, c, I⟩) hown9 hgrow9
      go_round
      case rel =>
        refine ⟨c + 1, by omega, by go_num, by rw [HES.out, HEX.out, ← HZ.out], .slice ad9 (E.fl.length + 1) cp9, ?_⟩
        rw [HES.out, HEX.out]
        exact HAP
      case measure => simp [intOf]; omega
    · obtain rfl : k = c := by omega
      go_wp2
      exact ⟨_, HNS⟩

theorem seg_33 {s0 s1 s2 s3 s5 s6 s9 s10 s11 s16 s17 s18 s20 s21 s22 s23 s24 s25 s26 s27 s28 s29 s30 s31 s32 s33 s34 s35 s36 s37 s38 s39 s40 s41 s42 s43 s44 s45 s46 s47 s48 s49 s50 s51 s52 s53 s54 s55 s56 s57 s58 s59 s60 s61 s62 s63 s64 s65 s66 s67 s68 s69 s70 s71 s72 s73 s74 s75 s76 s77 s78 s79 s80 s81 s82 s83 s84 s85 s86 s87 s88 s89 s90 s91 s92 s93 s94 s95 s96 s97 s98 s99 s100 s101 s102 s103 s104 s105 s106 s107 s108 s109 s110 s111 s112 s113 s114 s115 s116 s117 s118 s119 s120 s121 s122 s123 s124 s125 s126 s127 s128 s129 s130 s131 s132 s133 s134 s135 s136 s137 s138 s139 s140 s141 s142 s143 s144 s145 s146 s147 s148 s149 s150 s151 s152 s153 s154 s155 s156 s157 s158 s159 s160 s161 s162 s163 s164 s165 s166 s167 s168 s169 s170 s171 s172 s173 s174 s175 s176 s177 s178 s179 s180 s181 s182 s183 s184 s185 s186 s187 s188 s189 s190 s191 s192 s193 s194 s195 s196 s197 s198 s199 s200 s201 s202 s203 s204 s205 s206 s207 s208 s209 s210 s211 s212 s213 s214 s215 s216 s217 s218 s219 s220 s221 s222 s223 s224 s225 s226 s227 s228 s229 s230 s231 s232 s233 s234 s235 s236 s237 s238 s239 s240 s241 s242 s243 s244 s245 s246 s247 s248 s249 s250 s251 s252 s253 s254 s255 s256 s257 s258 s259 s260 s261 s262 s263 s264 s265 s266 s267 s268 s269 s270 s271 s272 s273 s274 s275 s276 s277 s278 s279 s280 s281 s282 s283 s284 s285 s286 s287 s288 s289 s290 s291 s292 s293 s294 s295 s296 s297 s298 s299 s300 : Value} {x : Air} {wl wh wide : Int} {w : World} {B s13 bA bL k j : Nat} {v vg vf : Value} {AM LO : List Int} {Wl : List Sp} {G : List Gauge} {Fl : List Flow} {w9 : World} (C : Code) (hC : (Try.f14.body.bind fun c => regOf c 33) = some C) (Q : Exit → Act → World → Prop) (hQ : ∀ c a d v w, Q (.panic c) (Act.put a d v) w → Q (.panic c) a w) (w0_ : 0 ≤ wide) (w1_ : wide ≤ 255) (hn1 : 1 ≤ k) (hn6 : k ≤ 6) (hAN : k = AM.length) (hAM : ∀ n ∈ AM, 0 ≤ n ∧ n ≤ 76245) (h4 : airB x = true) (h5 : warmB ⟨wl, wh⟩ = true) (hj : j ≤ 7) (hGl : G.length ≤ 8) (HNS : Nq B (w.heap.size) (w.heap.size + 1) s13 bA bL x wl wh w w9 v vg vf AM LO Wl G Fl)
    (hK : ∀  (u175 u176 u177 u178 u179 u180 u181 u182 u183 u184 u185 u186 u187 u188 : Value) (wc : World), (∃ bg cg ad9 cp9, Nq B (w.heap.size) (w.heap.size + 1) s13 bA bL x wl wh w wc v (.slice ad9 (G.length + 1) cp9) vf AM LO Wl (G ++ [⟨10 * j + 10, x, some (bg, 0, none), cg, AM.map (gV x wl wide)⟩]) Fl) → Q .normal ⟨#[s0, s1, s2, s3, .int .u8 wide, s5, s6, .pointer (some ⟨w.heap.size, 0, none⟩), .pointer (some ⟨w.heap.size + 1, 0, none⟩), s9, s10, s11, .int .i64 k, .pointer (some ⟨s13, 0, none⟩), .slice (some ⟨bA, 0, none⟩) k k, .slice (some ⟨bL, 0, none⟩) k k, s16, s17, s18, .int .i64 j, s20, s21, s22, s23, s24, s25, s26, s27, s28, s29, s30, s31, s32, s33, s34, s35, s36, s37, s38, s39, s40, s41, s42, s43, s44, s45, s46, s47, s48, s49, s50, s51, s52, s53, s54, s55, s56, s57, s58, s59, s60, s61, s62, s63, s64, s65, s66, s67, s68, s69, s70, s71, s72, s73, s74, s75, s76, s77, s78, s79, s80, s81, s82, s83, s84, s85, s86, s87, s88, s89, s90, s91, s92, s93, s94, s95, s96, s97, s98, s99, s100, s101, s102, s103, s104, s105, s106, s107, s108, s109, s110, s111, s112, s113, s114, s115, s116, s117, s118, s119, s120, s121, s122, s123, s124, s125, s126, s127, s128, s129, s130, s131, s132, s133, s134, s135, s136, s137, s138, s139, s140, s141, s142, s143, s144, s145, s146, s147, s148, s149, s150, s151, s152, s153, s154, s155, s156, s157, s158, s159, s160, s161, s162, s163, s164, s165, s166, s167, s168, s169, s170, s171, s172, s173, s174, u175, u176, u177, u178, u179, u180, u181, u182, u183, u184, u185, u186, u187, u188, s189, s190, s191, s192, s193, s194, s195, s196, s197, s198, s199, s200, s201, s202, s203, s204, s205, s206, s207, s208, s209, s210, s211, s212, s213, s214, s215, s216, s217, s218, s219, s220, s221, s222, s223, s224, s225, s226, s227, s228, s229, s230, s231, s232, s233, s234, s235, s236, s237, s238, s239, s240, s241, s242, s243, s244, s245, s246, s247, s248, s249, s250, s251, s252, s253, s254, s255, s256, s257, s258, s259, s260, s261, s262, s263, s264, s265, s266, s267, s268, s269, s270, s271, s272, s273, s274, s275, s276, s277, s278, s279, s280, s281, s282, s283, s284, s285, s286, s287, s288, s289, s290, s291, s292, s293, s294, s295, s296, s297, s298, s299, s300], []⟩ wc) : C.wp Try.prog Q ⟨#[s0, s1, s2, s3, .int .u8 wide, s5, s6, .pointer (some ⟨w.heap.size, 0, none⟩), .pointer (some ⟨w.heap.size + 1, 0, none⟩), s9, s10, s11, .int .i64 k, .pointer (some ⟨s13, 0, none⟩), .slice (some ⟨bA, 0, none⟩) k k, .slice (some ⟨bL, 0, none⟩) k k, s16, s17, s18, .int .i64 j, s20, s21, s22, s23, s24, s25, s26, s27, s28, s29, s30, s31, s32, s33, s34, s35, s36, s37, s38, s39, s40, s41, s42, s43, s44, s45, s46, s47, s48, s49, s50, s51, s52, s53, s54, s55, s56, s57, s58, s59, s60, s61, s62, s63, s64, s65, s66, s67, s68, s69, s70, s71, s72, s73, s74, s75, s76, s77, s78, s79, s80, s81, s82, s83, s84, s85, s86, s87, s88, s89, s90, s91, s92, s93, s94, s95, s96, s97, s98, s99, s100, s101, s102, s103, s104, s105, s106, s107, s108, s109, s110, s111, s112, s113, s114, s115, s116, s117, s118, s119, s120, s121, s122, s123, s124, s125, s126, s127, s128, s129, s130, s131, s132, s133, s134, s135, s136, s137, s138, s139, s140, s141, s142, s143, s144, s145, s146, s147, s148, s149, s150, s151, s152, s153, s154, s155, s156, s157, s158, s159, s160, s161, s162, s163, s164, s165, s166, s167, s168, s169, s170, s171, s172, s173, s174, s175, s176, s177, s178, s179, s180, s181, s182, s183, s184, s185, s186, s187, s188, s189, s190, s191, s192, s193, s194, s195, s196, s197, s198, s199, s200, s201, s202, s203, s204, s205, s206, s207, s208, s209, s210, s211, s212, s213, s214, s215, s216, s217, s218, s219, s220, s221, s222, s223, s224, s225, s226, s227, s228, s229, s230, s231, s232, s233, s234, s235, s236, s237, s238, s239, s240, s241, s242, s243, s244, s245, s246, s247, s248, s249, s250, s251, s252, s253, s254, s255, s256, s257, s258, s259, s260, s261, s262, s263, s264, s265, s266, s267, s268, s269, s270, s271, s272, s273, s274, s275, s276, s277, s278, s279, s280, s281, s282, s283, s284, s285, s286, s287, s288, s289, s290, s291, s292, s293, s294, s295, s296, s297, s298, s299, s300], []⟩ w9 := by
  have e0 : (Try.f14.body.bind fun c => regOf c 33) = some (.region 33 _ _) := rfl
  rw [e0] at hC
  cases hC
  clear e0
  try dsimp only at hK ⊢
  have HAN := Lib.hid hAN
  have HAM := Lib.hid hAM
  have H4 := Lib.hid h4
  have H5 := Lib.hid h5
  clear hAN hAM h4 h5
  have hwB' := HNS.b0.1
  refine at_world (S := fun Y => Nq B (w.heap.size) (w.heap.size + 1) s13 bA bL x wl wh w Y v vg vf AM LO Wl G Fl) HNS ?_
  clear HNS
  intro Y HNS
  have hBV := HNS.hB
  have q7 := HNS.air
  have q8 := HNS.wm
  have q13 := HNS.hist
  have w3 := i64_inH (n := 10 * (j : Int)) (by omega)
  have w4 := i64_inH (n := 10 * (j : Int) + 10) (by omega)
  have w5 := i64_inH (n := wide) (by omega)
  refine held_walk (fun w' => Blk w' w.heap.size #[.int .i64 x.plo, .int .i64 x.phi, .int .i64 x.tlo, .int .i64 x.thi] 27 ∧ Blk w' (w.heap.size + 1) #[.int .i64 wl, .int .i64 wh] 23 ∧ Blk w' s13 #[v, vg, vf] 85) [(true, 0), (true, 1), (true, 2), (true, 3), (true, 4), (true, 5), (true, 6), (true, 7), (true, 8), (true, 9), (false, 10), (false, 11), (false, 12), (true, 13), (false, 14)] 14 (by kernel_rfl) (by kernel_rfl) hQ ⟨q7.drew, q8.drew, q13.drew⟩ ?_
  simp only [List.filterMap_cons, List.filterMap_nil, List.getElem?_cons_zero, List.getElem?_cons_succ, Option.map_some]
  iterate 10 ((first | (refine held_take ?_ ?_ (fun w' hS => ?_) ?_; rotate_left 1; (focus rfl); (focus (first | (go_simp; done) | (go_simp; with_reducible rfl) | (obtain hS := hS; obtain ⟨S1, S2, S3⟩ := hS; have S1c0 := S1.cell 0; have S1f0 := S1.free 0; have S1c1 := S1.cell 1; have S1f1 := S1.free 1; have S1c2 := S1.cell 2; have S1f2 := S1.free 2; have S1c3 := S1.cell 3; have S1f3 := S1.free 3; have S1l := S1.lt; simp at S1c0 S1c1 S1c2 S1c3; have S2c0 := S2.cell 0; have S2f0 := S2.free 0; have S2c1 := S2.cell 1; have S2f1 := S2.free 1; have S2l := S2.lt; simp at S2c0 S2c1; have S3c0 := S3.cell 0; have S3f0 := S3.free 0; have S3c1 := S3.cell 1; have S3f1 := S3.free 1; have S3c2 := S3.cell 2; have S3f2 := S3.free 2; have S3l := S3.lt; simp at S3c0 S3c1 S3c2; first | (go_simp; done) | (go_simp; with_reducible rfl))))) | (refine held_pass ?_ ?_; (focus rfl))); simp only [Act.put, List.setIfInBounds_toArray, List.set_cons_zero, List.set_cons_succ])
  refine held_one ?_
  refine wpList_plain rfl fun K1 hK1 => ?_
  go_wp2_with (go_at_call 73; (with_reducible refine (o_gaugeN (10 * (j : Int) + 10) x wl wh wide AM k HAN.out bA _ (HNS.keep (Below.drew (Below.refl _ _))).am (by omega) (by omega) HAM.out H4.out H5.out w0_ w1_).mono ?_); rintro e w3 ⟨bg, cg, rfl, hog, hb3⟩; have hz3 : Y.heap.size ≤ w3.heap.size := hb3.size)
  refine held_on ⟨q7.keep (Kept.drop (Below.drew (Below.refl _ _)) hb3), q8.keep (Kept.drop (Below.drew (Below.refl _ _)) hb3), q13.keep (Kept.drop (Below.drew (Below.refl _ _)) hb3)⟩ ?_
  refine held_one ?_
  refine wpList_plain rfl fun K1 hK1 => ?_
  go_wp2
  refine held_on ⟨(q7.keep (Kept.drop (Below.drew (Below.refl _ _)) hb3)).alloc _, (q8.keep (Kept.drop (Below.drew (Below.refl _ _)) hb3)).alloc _, (q13.keep (Kept.drop (Below.drew (Below.refl _ _)) hb3)).alloc _⟩ ?_
  refine held_one ?_
  go_wp2_with (at_builtin; (obtain ⟨i0, hi, hz0, hz1, hz2⟩ := info_parts infoGa; refine wpList_append_own _ rfl _ _ 82 rfl (B) 124 i0 (.agg #[.int .i64 0, .int .i64 0, .int .i64 0, .int .i64 0, .int .i64 0, .slice none 0 0]) 6 64 Try.underlying82 hi hz0 hz1 hz2 rfl (by decide) _ _ _ rfl ((owns_keep HNS.og (by exact kpt))) ⟨_, 0, none⟩ 1 1 [.int .i64 (10 * (j : Int) + 10), .int .i64 x.plo, .int .i64 x.phi, .int .i64 x.tlo, .int .i64 x.thi, .slice (some ⟨bg, 0, none⟩) k cg] rfl rfl (cells_at (by simp) _ _) (fun x hx => by simp at hx; rcases hx with rfl | rfl | rfl | rfl | rfl | rfl <;> rfl) (by unfold maxLen; first | (simp; done) | (simp; omega) | omega) (by first | (simp; done) | (simp; omega) | omega) (by simp; omega) ?_; intro v9 w9 hown9 hgrow9 hnil9; clear hi hz0 hz1 hz2 hnil9; obtain ⟨ad9, cp9, rfl⟩ := owns_shape hown9; have m7 := Blk.grownLt (Blk.alloc (q7.keep (Kept.drop (Below.drew (Below.refl _ _)) hb3)) _) HNS.l7 (owns_keep HNS.og (by exact kpt)) hgrow9; have m8 := Blk.grownLt (Blk.alloc (q8.keep (Kept.drop (Below.drew (Below.refl _ _)) hb3)) _) HNS.l8 (owns_keep HNS.og (by exact kpt)) hgrow9; have m13 := Blk.grownLt (Blk.alloc (q13.keep (Kept.drop (Below.drew (Below.refl _ _)) hb3)) _) HNS.l13 (owns_keep HNS.og (by exact kpt)) hgrow9))
  first | refine held_on ⟨m7, m8, m13⟩ ?_ | (refine onward_on ?_; refine ⟨⟨m7, m8, m13⟩, ?_⟩)
  iterate 1 ((first | (refine held_take ?_ ?_ (fun w' hS => ?_) ?_; rotate_left 1; (focus rfl); (focus (first | (go_simp; done) | (go_simp; with_reducible rfl) | (obtain hS := hS; obtain ⟨S1, S2, S3⟩ := hS; have S1c0 := S1.cell 0; have S1f0 := S1.free 0; have S1c1 := S1.cell 1; have S1f1 := S1.free 1; have S1c2 := S1.cell 2; have S1f2 := S1.free 2; have S1c3 := S1.cell 3; have S1f3 := S1.free 3; have S1l := S1.lt; simp at S1c0 S1c1 S1c2 S1c3; have S2c0 := S2.cell 0; have S2f0 := S2.free 0; have S2c1 := S2.cell 1; have S2f1 := S2.free 1; have S2l := S2.lt; simp at S2c0 S2c1; have S3c0 := S3.cell 0; have S3f0 := S3.free 0; have S3c1 := S3.cell 1; have S3f1 := S3.free 1; have S3c2 := S3.cell 2; have S3f2 := S3.free 2; have S3l := S3.lt; simp at S3c0 S3c1 S3c2; first | (go_simp; done) | (go_simp; with_reducible rfl))))) | (refine held_pass ?_ ?_; (focus rfl))); simp only [Act.put, List.setIfInBounds_toArray, List.set_cons_zero, List.set_cons_succ])
  refine held_one ?_
  refine wpList_plain rfl fun K1 hK1 => ?_
  have m13c0 := m13.cell 0; have m13f0 := m13.free 0; have m13c1 := m13.cell 1; have m13f1 := m13.free 1; have m13c2 := m13.cell 2; have m13f2 := m13.free 2; have m13l := m13.lt; simp at m13c0 m13c1 m13c2
  go_wp2
  (first | refine held_end ?_ | (refine onward_on ?_; first | refine held_nil ?_ | refine ⟨.inl trivial, held_nil ?_⟩ | refine ⟨.inl rfl, held_nil ?_⟩))
  go_wp2_with fail
  have HK := HNS.keep (show Kept Y w3 by exact kpt)
  have HAP := NSt.appG (HK.keep ((Below.refl _ _).alloc (Nat.le_refl _) _)) (by decide) (by decide) (s := ⟨10 * j + 10, x, some (bg, 0, none), cg, AM.map (gV x wl wide)⟩) (by rw [gauge_cells (L := AM.map (gV x wl wide)) (by rw [List.length_map]; exact HAN.out)] at hown9; exact hown9) hgrow9 (owns_keep (gauge_own (owns_base hog hBV) (by rw [List.length_map]; exact HAN.out)) ((Below.refl _ _).alloc (Nat.le_refl _) _))
  exact ⟨_, _, _, _, HAP⟩

theorem seg_8 {s0 s1 s2 s3 s4 s5 s6 s7 s8 s9 s10 s11 s14 s15 s16 s17 s18 s19 s20 s21 s22 s23 s24 s25 s26 s27 s28 s29 s30 s31 s32 s33 s34 s35 s36 s37 s38 s39 s40 s41 s42 s43 s44 s45 s46 s47 s48 s49 s50 s51 s52 s53 s54 s55 s56 s57 s58 s59 s60 s61 s62 s63 s64 s65 s66 s67 s68 s69 s70 s71 s72 s73 s74 s75 s76 s77 s78 s79 s80 s81 s82 s83 s84 s85 s86 s87 s88 s89 s90 s91 s92 s93 s94 s95 s96 s97 s98 s99 s100 s101 s102 s103 s104 s105 s106 s107 s108 s109 s110 s111 s112 s113 s114 s115 s116 s117 s118 s119 s120 s121 s122 s123 s124 s125 s126 s127 s128 s129 s130 s131 s132 s133 s134 s135 s136 s137 s138 s139 s140 s141 s142 s143 s144 s145 s146 s147 s148 s149 s150 s151 s152 s153 s154 s155 s156 s157 s158 s159 s160 s161 s162 s163 s164 s165 s166 s167 s168 s169 s170 s171 s172 s173 s174 s175 s176 s177 s178 s179 s180 s181 s182 s183 s184 s185 s186 s187 s188 s189 s190 s191 s192 s193 s194 s195 s196 s197 s198 s199 s200 s201 s202 s203 s204 s205 s206 s207 s208 s209 s210 s211 s212 s213 s214 s215 s216 s217 s218 s219 s220 s221 s222 s223 s224 s225 s226 s227 s228 s229 s230 s231 s232 s233 s234 s235 s236 s237 s238 s239 s240 s241 s242 s243 s244 s245 s246 s247 s248 s249 s250 s251 s252 s253 s254 s255 s256 s257 s258 s259 s260 s261 s262 s263 s264 s265 s266 s267 s268 s269 s270 s271 s272 s273 s274 s275 s276 s277 s278 s279 s280 s281 s282 s283 s284 s285 s286 s287 s288 s289 s290 s291 s292 s293 s294 s295 s296 s297 s298 s299 s300 : Value} {x : Air} {wl wh : Int} {w : World} {s13 N : Nat} {w9 : World} (C : Code) (hC : (Try.f14.body.bind fun c => regOf c 8) = some C) (Q : Exit → Act → World → Prop) (hn6 : N ≤ 6) (hs13 : w.heap.size + 1 < s13) (q7 : Blk w9 w.heap.size #[.int .i64 x.plo, .int .i64 x.phi, .int .i64 x.tlo, .int .i64 x.thi] 27) (q8 : Blk w9 (w.heap.size + 1) #[.int .i64 wl, .int .i64 wh] 23) (q13 : Blk w9 s13 #[.slice none 0 0, .slice none 0 0, .slice none 0 0] 85) (hk : Kept w w9)
    (hK : ∀ (bA bL : Nat) (u61 u62 u63 u64 : Value) (wc : World), (bA ≠ bL ∧ s13 < bA ∧ s13 < bL ∧ Blk wc bA (ints (List.replicate N 0)) 3 ∧ Blk wc bL (ints (List.replicate N 0)) 3 ∧ Blk wc w.heap.size #[.int .i64 x.plo, .int .i64 x.phi, .int .i64 x.tlo, .int .i64 x.thi] 27 ∧ Blk wc (w.heap.size + 1) #[.int .i64 wl, .int .i64 wh] 23 ∧ Blk wc s13 #[.slice none 0 0, .slice none 0 0, .slice none 0 0] 85 ∧ Kept w wc) → Q .normal ⟨#[s0, s1, s2, s3, s4, s5, s6, s7, s8, s9, s10, s11, .int .i64 N, .pointer (some ⟨s13, 0, none⟩), .slice (some ⟨bA, 0, none⟩) N N, .slice (some ⟨bL, 0, none⟩) N N, s16, s17, s18, s19, s20, s21, s22, s23, s24, s25, s26, s27, s28, s29, s30, s31, s32, s33, s34, s35, s36, s37, s38, s39, s40, s41, s42, s43, s44, s45, s46, s47, s48, s49, s50, s51, s52, s53, s54, s55, s56, s57, s58, s59, s60, u61, u62, u63, u64, s65, s66, s67, s68, s69, s70, s71, s72, s73, s74, s75, s76, s77, s78, s79, s80, s81, s82, s83, s84, s85, s86, s87, s88, s89, s90, s91, s92, s93, s94, s95, s96, s97, s98, s99, s100, s101, s102, s103, s104, s105, s106, s107, s108, s109, s110, s111, s112, s113, s114, s115, s116, s117, s118, s119, s120, s121, s122, s123, s124, s125, s126, s127, s128, s129, s130, s131, s132, s133, s134, s135, s136, s137, s138, s139, s140, s141, s142, s143, s144, s145, s146, s147, s148, s149, s150, s151, s152, s153, s154, s155, s156, s157, s158, s159, s160, s161, s162, s163, s164, s165, s166, s167, s168, s169, s170, s171, s172, s173, s174, s175, s176, s177, s178, s179, s180, s181, s182, s183, s184, s185, s186, s187, s188, s189, s190, s191, s192, s193, s194, s195, s196, s197, s198, s199, s200, s201, s202, s203, s204, s205, s206, s207, s208, s209, s210, s211, s212, s213, s214, s215, s216, s217, s218, s219, s220, s221, s222, s223, s224, s225, s226, s227, s228, s229, s230, s231, s232, s233, s234, s235, s236, s237, s238, s239, s240, s241, s242, s243, s244, s245, s246, s247, s248, s249, s250, s251, s252, s253, s254, s255, s256, s257, s258, s259, s260, s261, s262, s263, s264, s265, s266, s267, s268, s269, s270, s271, s272, s273, s274, s275, s276, s277, s278, s279, s280, s281, s282, s283, s284, s285, s286, s287, s288, s289, s290, s291, s292, s293, s294, s295, s296, s297, s298, s299, s300], []⟩ wc) : C.wp Try.prog Q ⟨#[s0, s1, s2, s3, s4, s5, s6, s7, s8, s9, s10, s11, .int .i64 N, .pointer (some ⟨s13, 0, none⟩), s14, s15, s16, s17, s18, s19, s20, s21, s22, s23, s24, s25, s26, s27, s28, s29, s30, s31, s32, s33, s34, s35, s36, s37, s38, s39, s40, s41, s42, s43, s44, s45, s46, s47, s48, s49, s50, s51, s52, s53, s54, s55, s56, s57, s58, s59, s60, s61, s62, s63, s64, s65, s66, s67, s68, s69, s70, s71, s72, s73, s74, s75, s76, s77, s78, s79, s80, s81, s82, s83, s84, s85, s86, s87, s88, s89, s90, s91, s92, s93, s94, s95, s96, s97, s98, s99, s100, s101, s102, s103, s104, s105, s106, s107, s108, s109, s110, s111, s112, s113, s114, s115, s116, s117, s118, s119, s120, s121, s122, s123, s124, s125, s126, s127, s128, s129, s130, s131, s132, s133, s134, s135, s136, s137, s138, s139, s140, s141, s142, s143, s144, s145, s146, s147, s148, s149, s150, s151, s152, s153, s154, s155, s156, s157, s158, s159, s160, s161, s162, s163, s164, s165, s166, s167, s168, s169, s170, s171, s172, s173, s174, s175, s176, s177, s178, s179, s180, s181, s182, s183, s184, s185, s186, s187, s188, s189, s190, s191, s192, s193, s194, s195, s196, s197, s198, s199, s200, s201, s202, s203, s204, s205, s206, s207, s208, s209, s210, s211, s212, s213, s214, s215, s216, s217, s218, s219, s220, s221, s222, s223, s224, s225, s226, s227, s228, s229, s230, s231, s232, s233, s234, s235, s236, s237, s238, s239, s240, s241, s242, s243, s244, s245, s246, s247, s248, s249, s250, s251, s252, s253, s254, s255, s256, s257, s258, s259, s260, s261, s262, s263, s264, s265, s266, s267, s268, s269, s270, s271, s272, s273, s274, s275, s276, s277, s278, s279, s280, s281, s282, s283, s284, s285, s286, s287, s288, s289, s290, s291, s292, s293, s294, s295, s296, s297, s298, s299, s300], []⟩ w9 := by
  have e0 : (Try.f14.body.bind fun c => regOf c 8) = some (.region 8 _ _) := rfl
  rw [e0] at hC
  cases hC
  clear e0
  try dsimp only at hK ⊢
  have HMK := run_makeI N (by omega)
  refine at_world (S := fun X => Blk X w.heap.size #[.int .i64 x.plo, .int .i64 x.phi, .int .i64 x.tlo, .int .i64 x.thi] 27 ∧ Blk X (w.heap.size + 1) #[.int .i64 wl, .int .i64 wh] 23 ∧ Blk X s13 #[.slice none 0 0, .slice none 0 0, .slice none 0 0] 85 ∧ Kept w X) ⟨q7, q8, q13, hk⟩ ?_
  clear q7 q8 q13 hk
  rintro X ⟨q7, q8, q13, hk⟩
  have hl13 := q13.lt
  go_region
  all_goals (first | exact ⟨by simp, by omega, by omega, by exact blkd, by exact blkd, by exact blkd, by exact blkd, by exact blkd, by exact kpt⟩ | exact hK _ _ _ _ _ _ _ ⟨by simp, by omega, by omega, by exact blkd, by exact blkd, by exact blkd, by exact blkd, by exact blkd, by exact kpt⟩)

theorem seg_l4 {s0 s1 s2 s3 s4 s5 s6 s7 s8 s9 s10 s11 s12 s13 s14 s16 s17 s18 s19 s20 s21 s22 s23 s25 s26 s27 s28 s29 s30 s31 s32 s33 s34 s35 s36 s37 s38 s39 s40 s41 s42 s43 s44 s45 s46 s47 s48 s49 s50 s51 s52 s53 s54 s55 s56 s57 s58 s59 s60 s61 s62 s63 s64 s65 s66 s67 s68 s69 s70 s71 s72 s73 s74 s75 s76 s77 s78 s79 s80 s81 s82 s83 s84 s85 s86 s87 s88 s89 s90 s91 s92 s93 s94 s95 s96 s97 s98 s99 s100 s101 s102 s103 s104 s105 s106 s107 s108 s109 s110 s111 s112 s113 s114 s115 s116 s117 s118 s119 s120 s121 s122 s123 s124 s125 s126 s127 s128 s129 s130 s131 s132 s133 s134 s135 s136 s137 s138 s139 s140 s141 s142 s143 s144 s145 s146 s147 s148 s149 s150 s151 s152 s153 s154 s155 s156 s157 s158 s159 s160 s161 s162 s163 s164 s165 s166 s167 s168 s169 s170 s171 s172 s173 s174 s175 s176 s177 s178 s179 s180 s181 s182 s183 s184 s185 s186 s187 s188 s189 s190 s191 s192 s193 s194 s195 s196 s197 s198 s199 s200 s201 s202 s203 s204 s205 s206 s207 s208 s209 s210 s211 s212 s213 s214 s215 s216 s217 s218 s219 s220 s221 s222 s223 s224 s225 s226 s227 s228 s229 s230 s231 s232 s233 s234 s235 s236 s240 s241 s242 s243 s244 s245 s246 s247 s248 s249 s250 s251 s252 s253 s254 s255 s256 s257 s258 s259 s260 s261 s262 s263 s264 s265 s266 s267 s268 s269 s270 s271 s272 s273 s274 s275 s276 s277 s278 s279 s280 s281 s282 s283 s284 s285 s286 s287 s288 s289 s290 s291 s292 s293 s294 s295 s296 s297 s298 s299 s300 : Value} {bL k cpL : Nat} {adL : Option Addr} {L : List Sp} {LO : List Int} {w9 : World} (C : Code) (hC : (Try.f14.body.bind fun c => blkOf c 6) = some C) (Q : Exit → Act → World → Prop) (hn7 : k ≤ 6) (hLk : L.length = k) (hLO : LO.length = k) (hLB : ∀ c (hc : c < L.length) (hc2 : c < LO.length), L[c].lo ≤ LO[c] ∧ LO[c] ≤ L[c].hi) (hrL : Row Sp.cells 2 w9.heap.size w9 adL L) (qL : Blk w9 bL (ints LO) 3)
    (hK : ∀  (u10 u30 u239 u240 u241 u242 u243 u244 u245 u246 u247 u248 u249 u250 u251 u252 u253 u254 u255 u256 u257 u258 u259 u260 u261 u262 u263 u264 : Value) (wc : World), (Blk wc bL (ints LO) 3 ∧ Kept w9 wc) → Q .normal ⟨#[s0, s1, s2, s3, s4, s5, s6, s7, s8, s9, u10, s11, s12, s13, s14, .slice (some ⟨bL, 0, none⟩) k k, s16, s17, s18, s19, s20, s21, s22, s23, .slice adL L.length cpL, s25, s26, s27, s28, s29, u30, s31, s32, s33, s34, s35, s36, s37, s38, s39, s40, s41, s42, s43, s44, s45, s46, s47, s48, s49, s50, s51, s52, s53, s54, s55, s56, s57, s58, s59, s60, s61, s62, s63, s64, s65, s66, s67, s68, s69, s70, s71, s72, s73, s74, s75, s76, s77, s78, s79, s80, s81, s82, s83, s84, s85, s86, s87, s88, s89, s90, s91, s92, s93, s94, s95, s96, s97, s98, s99, s100, s101, s102, s103, s104, s105, s106, s107, s108, s109, s110, s111, s112, s113, s114, s115, s116, s117, s118, s119, s120, s121, s122, s123, s124, s125, s126, s127, s128, s129, s130, s131, s132, s133, s134, s135, s136, s137, s138, s139, s140, s141, s142, s143, s144, s145, s146, s147, s148, s149, s150, s151, s152, s153, s154, s155, s156, s157, s158, s159, s160, s161, s162, s163, s164, s165, s166, s167, s168, s169, s170, s171, s172, s173, s174, s175, s176, s177, s178, s179, s180, s181, s182, s183, s184, s185, s186, s187, s188, s189, s190, s191, s192, s193, s194, s195, s196, s197, s198, s199, s200, s201, s202, s203, s204, s205, s206, s207, s208, s209, s210, s211, s212, s213, s214, s215, s216, s217, s218, s219, s220, s221, s222, s223, s224, s225, s226, s227, s228, s229, s230, s231, s232, s233, s234, s235, s236, .slice adL L.length cpL, .int .i64 L.length, u239, u240, u241, u242, u243, u244, u245, u246, u247, u248, u249, u250, u251, u252, u253, u254, u255, u256, u257, u258, u259, u260, u261, u262, u263, u264, s265, s266, s267, s268, s269, s270, s271, s272, s273, s274, s275, s276, s277, s278, s279, s280, s281, s282, s283, s284, s285, s286, s287, s288, s289, s290, s291, s292, s293, s294, s295, s296, s297, s298, s299, s300], []⟩ wc) : C.wp Try.prog Q ⟨#[s0, s1, s2, s3, s4, s5, s6, s7, s8, s9, s10, s11, s12, s13, s14, .slice (some ⟨bL, 0, none⟩) k k, s16, s17, s18, s19, s20, s21, s22, s23, .slice adL L.length cpL, s25, s26, s27, s28, s29, s30, s31, s32, s33, s34, s35, s36, s37, s38, s39, s40, s41, s42, s43, s44, s45, s46, s47, s48, s49, s50, s51, s52, s53, s54, s55, s56, s57, s58, s59, s60, s61, s62, s63, s64, s65, s66, s67, s68, s69, s70, s71, s72, s73, s74, s75, s76, s77, s78, s79, s80, s81, s82, s83, s84, s85, s86, s87, s88, s89, s90, s91, s92, s93, s94, s95, s96, s97, s98, s99, s100, s101, s102, s103, s104, s105, s106, s107, s108, s109, s110, s111, s112, s113, s114, s115, s116, s117, s118, s119, s120, s121, s122, s123, s124, s125, s126, s127, s128, s129, s130, s131, s132, s133, s134, s135, s136, s137, s138, s139, s140, s141, s142, s143, s144, s145, s146, s147, s148, s149, s150, s151, s152, s153, s154, s155, s156, s157, s158, s159, s160, s161, s162, s163, s164, s165, s166, s167, s168, s169, s170, s171, s172, s173, s174, s175, s176, s177, s178, s179, s180, s181, s182, s183, s184, s185, s186, s187, s188, s189, s190, s191, s192, s193, s194, s195, s196, s197, s198, s199, s200, s201, s202, s203, s204, s205, s206, s207, s208, s209, s210, s211, s212, s213, s214, s215, s216, s217, s218, s219, s220, s221, s222, s223, s224, s225, s226, s227, s228, s229, s230, s231, s232, s233, s234, s235, s236, .slice adL L.length cpL, .int .i64 L.length, .int .i64 0, s240, s241, s242, s243, s244, s245, s246, s247, s248, s249, s250, s251, s252, s253, s254, s255, s256, s257, s258, s259, s260, s261, s262, s263, s264, s265, s266, s267, s268, s269, s270, s271, s272, s273, s274, s275, s276, s277, s278, s279, s280, s281, s282, s283, s284, s285, s286, s287, s288, s289, s290, s291, s292, s293, s294, s295, s296, s297, s298, s299, s300], []⟩ w9 := by
  have e0 : (Try.f14.body.bind fun c => blkOf c 6) = some (.block 6 _) := rfl
  rw [e0] at hC
  cases hC
  clear e0
  try dsimp only at hK ⊢
  have hLkH := Lib.hid hLk
  have LOLH := Lib.hid hLO
  have HLB := Lib.hid hLB
  have hn6 : L.length ≤ 9223372036854775806 := by have := hn7; omega
  clear hLk hLO hLB
  go_wp2
  go_loopw [239] (fun i wq => ∃ c : Nat, c ≤ L.length ∧ i = .int .i64 c ∧ Blk wq bL (ints LO) 3 ∧ Kept w9 wq) (fun i _ => L.length - (intOf i).toNat)
  case atStart => exact ⟨0, Nat.zero_le _, rfl, qL, Below.refl _ _⟩
  case round =>
    clear qL
    obtain ⟨c, hcL, rfl, qL, hkq⟩ := hrel
    by_cases hcl : c < L.length
    · have hc2 : c < LO.length := by rw [LOLH.out, ← hLkH.out]; exact hcl
      obtain ⟨g1, g2⟩ := HLB.out c hcl hc2
      obtain ⟨bz, oz, hbz, _, c0, c1⟩ := Sp.row (hrL.later hkq (Nat.le_refl _)) c hcl
      subst hbz
      have e0 := qL.cell c
      rw [ints_get hc2] at e0
      obtain ⟨z, hz⟩ : ∃ z, z = L[c] := ⟨_, rfl⟩
      obtain ⟨u, hu⟩ : ∃ u, u = LO[c] := ⟨_, rfl⟩
      rw [← hz] at g1 g2 c0 c1
      rw [← hu] at g1 g2 e0
      clear hz hu
      have d1 : decide (u < z.lo) = false := by simp; omega
      have d2 : decide (z.hi < u) = false := by simp; omega
      have k0 : (0 : Int) ≤ (c : Int) := by omega
      have k1 : (c : Int) < (L.length : Int) := by omega
      have k2 : (c : Int) < (k : Int) := by rw [← hLkH.out]; exact k1
      have q0 := fun g_ : Later wr => g_.some e0
      have q1 := fun g_ : Later wr => g_.some c0
      have q2 := fun g_ : Later wr => g_.some c1
      clear e0 c0 c1 g1 g2
      go_upto_region 43 with fail
      refine Later.region (by kernel_rfl) (by kernel_rfl) ?_
      repeat (first | go_big_quiet_skip | (go_big_quiet_want; go_big_quiet_op; first | go_big_quiet_on | (apply Exists.intro; refine ⟨fun g => ?_, ?_⟩; (focus (first | fail)); go_big_quiet_on)))
      refine wpQuiet_nil ?_
      intro gg
      have m0 := qL.later gg
      have hkg := Kept.drop hkq gg.ok
      go_wp2
      go_round
      case rel => exact ⟨c + 1, by omega, by go_num, m0, hkg⟩
      case measure => simp [intOf]; omega
    · obtain rfl : c = L.length := by omega
      go_wp2
      exact ⟨qL, hkq⟩

theorem seg_l5 {s0 s1 s2 s3 s4 s5 s6 s7 s8 s9 s10 s13 s14 s16 s17 s18 s19 s20 s21 s22 s23 s24 s25 s27 s28 s29 s30 s31 s32 s33 s34 s35 s36 s37 s38 s39 s40 s41 s42 s43 s44 s45 s46 s47 s48 s49 s50 s51 s52 s53 s54 s55 s56 s57 s58 s59 s60 s61 s62 s63 s64 s65 s66 s67 s68 s69 s70 s71 s72 s73 s74 s75 s76 s77 s78 s79 s80 s81 s82 s83 s84 s85 s86 s87 s88 s89 s90 s91 s92 s93 s94 s95 s96 s97 s98 s99 s100 s101 s102 s103 s104 s105 s106 s107 s108 s109 s110 s111 s112 s113 s114 s115 s116 s117 s118 s119 s120 s121 s122 s123 s124 s125 s126 s127 s128 s129 s130 s131 s132 s133 s134 s135 s136 s137 s138 s139 s140 s141 s142 s143 s144 s145 s146 s147 s148 s149 s150 s151 s152 s153 s154 s155 s156 s157 s158 s159 s160 s161 s162 s163 s164 s165 s166 s167 s168 s169 s170 s171 s172 s173 s174 s175 s176 s177 s178 s179 s180 s181 s182 s183 s184 s185 s186 s187 s188 s189 s190 s191 s192 s193 s194 s195 s196 s197 s198 s199 s200 s201 s202 s203 s204 s205 s206 s207 s208 s209 s210 s211 s212 s213 s214 s215 s216 s217 s218 s219 s220 s221 s222 s223 s224 s225 s226 s227 s228 s229 s230 s231 s232 s233 s234 s235 s236 s237 s238 s239 s240 s241 s242 s243 s244 s245 s246 s247 s248 s249 s250 s251 s252 s253 s254 s255 s256 s257 s258 s259 s260 s261 s262 s263 s264 s268 s269 s270 s271 s272 s273 s274 s275 s276 s277 s278 s279 s280 s281 s282 s283 s284 s285 s286 s287 s288 s289 s290 s291 s292 s293 s294 s295 s296 s297 s298 s299 s300 : Value} {bL k cpN : Nat} {adN : Option Addr} {Ln LO : List Int} {w9 : World} (C : Code) (hC : (Try.f14.body.bind fun c => blkOf c 8) = some C) (Q : Exit → Act → World → Prop) (hLO : LO.length = k) (hNM : ∀ i (hi : i < Ln.length), ∃ m : Nat, ∃ hm : m < LO.length, Ln[i] = m ∧ LO[m] ≠ 0) (hns : Ln.Pairwise (· < ·)) (hcN : Ln.length ≤ cpN) (hmN : cpN ≤ maxLen) (hrN : Row icell 1 w9.heap.size w9 adN Ln) (qL : Blk w9 bL (ints LO) 3)
    (hK : ∀  (u10 u31 u32 u267 u268 u269 u270 u271 u272 u273 u274 u275 u276 u277 u278 u279 u280 u281 u282 u283 u284 u285 u286 u287 u288 u289 u290 u291 u292 u293 u294 u295 u296 u297 u298 u299 : Value) (wc : World), (Blk wc bL (ints LO) 3 ∧ Kept w9 wc) → Q .normal ⟨#[s0, s1, s2, s3, s4, s5, s6, s7, s8, s9, u10, .bool true, .int .i64 k, s13, s14, .slice (some ⟨bL, 0, none⟩) k k, s16, s17, s18, s19, s20, s21, s22, s23, s24, s25, .slice adN Ln.length cpN, s27, s28, s29, s30, u31, u32, s33, s34, s35, s36, s37, s38, s39, s40, s41, s42, s43, s44, s45, s46, s47, s48, s49, s50, s51, s52, s53, s54, s55, s56, s57, s58, s59, s60, s61, s62, s63, s64, s65, s66, s67, s68, s69, s70, s71, s72, s73, s74, s75, s76, s77, s78, s79, s80, s81, s82, s83, s84, s85, s86, s87, s88, s89, s90, s91, s92, s93, s94, s95, s96, s97, s98, s99, s100, s101, s102, s103, s104, s105, s106, s107, s108, s109, s110, s111, s112, s113, s114, s115, s116, s117, s118, s119, s120, s121, s122, s123, s124, s125, s126, s127, s128, s129, s130, s131, s132, s133, s134, s135, s136, s137, s138, s139, s140, s141, s142, s143, s144, s145, s146, s147, s148, s149, s150, s151, s152, s153, s154, s155, s156, s157, s158, s159, s160, s161, s162, s163, s164, s165, s166, s167, s168, s169, s170, s171, s172, s173, s174, s175, s176, s177, s178, s179, s180, s181, s182, s183, s184, s185, s186, s187, s188, s189, s190, s191, s192, s193, s194, s195, s196, s197, s198, s199, s200, s201, s202, s203, s204, s205, s206, s207, s208, s209, s210, s211, s212, s213, s214, s215, s216, s217, s218, s219, s220, s221, s222, s223, s224, s225, s226, s227, s228, s229, s230, s231, s232, s233, s234, s235, s236, s237, s238, s239, s240, s241, s242, s243, s244, s245, s246, s247, s248, s249, s250, s251, s252, s253, s254, s255, s256, s257, s258, s259, s260, s261, s262, s263, s264, .slice adN Ln.length cpN, .int .i64 Ln.length, u267, u268, u269, u270, u271, u272, u273, u274, u275, u276, u277, u278, u279, u280, u281, u282, u283, u284, u285, u286, u287, u288, u289, u290, u291, u292, u293, u294, u295, u296, u297, u298, u299, s300], []⟩ wc) : C.wp Try.prog Q ⟨#[s0, s1, s2, s3, s4, s5, s6, s7, s8, s9, s10, .bool true, .int .i64 k, s13, s14, .slice (some ⟨bL, 0, none⟩) k k, s16, s17, s18, s19, s20, s21, s22, s23, s24, s25, .slice adN Ln.length cpN, s27, s28, s29, s30, s31, s32, s33, s34, s35, s36, s37, s38, s39, s40, s41, s42, s43, s44, s45, s46, s47, s48, s49, s50, s51, s52, s53, s54, s55, s56, s57, s58, s59, s60, s61, s62, s63, s64, s65, s66, s67, s68, s69, s70, s71, s72, s73, s74, s75, s76, s77, s78, s79, s80, s81, s82, s83, s84, s85, s86, s87, s88, s89, s90, s91, s92, s93, s94, s95, s96, s97, s98, s99, s100, s101, s102, s103, s104, s105, s106, s107, s108, s109, s110, s111, s112, s113, s114, s115, s116, s117, s118, s119, s120, s121, s122, s123, s124, s125, s126, s127, s128, s129, s130, s131, s132, s133, s134, s135, s136, s137, s138, s139, s140, s141, s142, s143, s144, s145, s146, s147, s148, s149, s150, s151, s152, s153, s154, s155, s156, s157, s158, s159, s160, s161, s162, s163, s164, s165, s166, s167, s168, s169, s170, s171, s172, s173, s174, s175, s176, s177, s178, s179, s180, s181, s182, s183, s184, s185, s186, s187, s188, s189, s190, s191, s192, s193, s194, s195, s196, s197, s198, s199, s200, s201, s202, s203, s204, s205, s206, s207, s208, s209, s210, s211, s212, s213, s214, s215, s216, s217, s218, s219, s220, s221, s222, s223, s224, s225, s226, s227, s228, s229, s230, s231, s232, s233, s234, s235, s236, s237, s238, s239, s240, s241, s242, s243, s244, s245, s246, s247, s248, s249, s250, s251, s252, s253, s254, s255, s256, s257, s258, s259, s260, s261, s262, s263, s264, .slice adN Ln.length cpN, .int .i64 Ln.length, .int .i64 0, s268, s269, s270, s271, s272, s273, s274, s275, s276, s277, s278, s279, s280, s281, s282, s283, s284, s285, s286, s287, s288, s289, s290, s291, s292, s293, s294, s295, s296, s297, s298, s299, s300], []⟩ w9 := by
  have e0 : (Try.f14.body.bind fun c => blkOf c 8) = some (.block 8 _) := rfl
  rw [e0] at hC
  cases hC
  clear e0
  try dsimp only at hK ⊢
  have LOLH := Lib.hid hLO
  have HNM := Lib.hid hNM
  have HNS2 := Lib.hid hns
  clear hLO hNM hns
  go_wp2
  go_loopw [267] (fun i wq => ∃ c : Nat, c ≤ Ln.length ∧ i = .int .i64 c ∧ Blk wq bL (ints LO) 3 ∧ Kept w9 wq) (fun i _ => Ln.length - (intOf i).toNat)
  case atStart => exact ⟨0, Nat.zero_le _, rfl, qL, Below.refl _ _⟩
  case round =>
    clear qL
    obtain ⟨c, hcL, rfl, qL, hkq⟩ := hrel
    by_cases hcl : c < Ln.length
    · obtain ⟨m, hm, hme, hm0⟩ := HNM.out c hcl
      obtain ⟨bz, oz, hbz, _, c0⟩ := int_row (hrN.later hkq (Nat.le_refl _)) c hcl
      rw [hme] at c0
      have e0 := qL.cell m
      rw [ints_get hm] at e0
      obtain ⟨u, hu⟩ : ∃ u, u = LO[m] := ⟨_, rfl⟩
      rw [← hu] at hm0 e0
      clear hu
      have hmk : m < k := by rw [← LOLH.out]; exact hm
      have d1 : decide ((m : Int) < 0) = false := by simp
      have d2 : decide ((k : Int) ≤ (m : Int)) = false := by simp; omega
      have d2' : decide (k ≤ m) = false := by simp; omega
      have d3 : (u == 0) = false := by simp [hm0]
      have k0 : (0 : Int) ≤ (m : Int) := by omega
      have k1 : (m : Int) < (k : Int) := by omega
      by_cases hc0 : c = 0
      · subst hc0
        subst hbz
        rw [Nat.add_zero] at c0
        clear hm0 hme
        go_wp2
        go_round
        case rel => exact ⟨1, by omega, by go_num, qL, hkq⟩
        case measure => simp [intOf]; omega
      · have hs := sorted_next HNS2.out hcl (by omega)
        obtain ⟨bz', oz', hbz', _, c1⟩ := int_row (hrN.later hkq (Nat.le_refl _)) (c - 1) (by omega)
        rw [hbz] at hbz'
        obtain ⟨rfl, rfl⟩ : bz = bz' ∧ oz = oz' := by simpa using hbz'
        subst hbz
        rw [hme] at hs
        obtain ⟨t_, ht_⟩ : ∃ u, u = Ln[c - 1]'(by omega) := ⟨_, rfl⟩
        rw [← ht_] at hs c1
        have d4 : decide ((m : Int) ≤ t_) = false := by simp; omega
        have d5 : decide ((0 : Int) < (c : Int)) = true := by simp; omega
        have d5' : decide (0 < c) = true := by simp; omega
        have hm_ := hmN
        unfold maxLen at hm_
        have w1 : IntKind.i64.wrap ((c : Int) - 1) = ((c - 1 : Nat) : Int) := by rw [i64_inH (by omega)]; omega
        have w2 := i64_inH (n := (c : Int) + 1) (by omega)
        have hcb : (c : Int) + 1 ≤ 9223372036854775807 := by omega
        clear ht_ hm0 hme hbz' hm_
        go_wp2
        go_round
        case rel => exact ⟨c + 1, by omega, by go_num, qL, hkq⟩
        case measure => simp [intOf]; omega
    · obtain rfl : c = Ln.length := by omega
      go_wp2
      exact ⟨qL, hkq⟩

theorem law_GasNamed_main (start : List Int) (sa : Option Addr) (sc : Nat) (steps : List Bts) (ta : Option Addr) (tc : Nat) (x : Air) (wl wh wide : Int) (w : World) (hs : Row (kcell .u16) 1 w.heap.size w sa start) (hsb : ∀ x ∈ start, 0 ≤ x ∧ x ≤ 65535) (hsc : start.length ≤ sc) (hsm : sc ≤ maxLen) (ht : Row Bts.cells 1 w.heap.size w ta steps) (htb : ∀ b ∈ steps, BtsOk w b) (htc : steps.length ≤ tc) (htm : tc ≤ maxLen) (w0_ : 0 ≤ wide) (w1_ : wide ≤ 255) (h1 : ¬ start.length < 1) (h2 : ¬ 6 < start.length) (h3 : ¬ 7 < steps.length) (h4 : airB x = true) (h5 : warmB ⟨wl, wh⟩ = true) : Calls Try.prog 14 #[.slice sa start.length sc, .slice ta steps.length tc, .agg #[.int .i64 x.plo, .int .i64 x.phi, .int .i64 x.tlo, .int .i64 x.thi], .agg #[.int .i64 wl, .int .i64 wh], .int .u8 wide] w fun e w' => e = .returned (.bool true) ∧ Kept w w' := by
  unfold maxLen at hsm htm
  have d1 : decide ((start.length : Int) < 1) = false := by simp; omega
  have d2 : decide ((6 : Int) < (start.length : Int)) = false := by simp; omega
  have d3 : decide ((7 : Int) < (steps.length : Int)) = false := by simp; omega
  have HCA := Lib.hid (show checkAir x = 0 by simp [checkAir, h4])
  have HCC := Lib.hid (show checkCell (⟨1, 0, 0, wl, wh, 0, 0⟩ : Cell) = 0 by have : spanIn wl wh (-300) 300 = true := h5; simp [checkCell, cellB, cellFits, rng, inB, this])
  have HSR := Lib.hid (fun W (hW : Kept w W) => hs.later hW (Nat.le_refl _))
  have HTR := Lib.hid (fun W (hW : Kept w W) => ht.later hW (Nat.le_refl _))
  have HTB := Lib.hid (fun W (hW : Kept w W) b (hb : b ∈ steps) => (show BtsOk W b from ⟨(htb b hb).1.later hW (Nat.le_refl _), (htb b hb).2⟩))
  have HSB := Lib.hid hsb
  have H4 := Lib.hid h4
  have H5 := Lib.hid h5
  obtain ⟨N, hN⟩ : ∃ N, N = start.length := ⟨_, rfl⟩
  have hn1 : 1 ≤ N := by omega
  have hn6 : N ≤ 6 := by omega
  have ht7 : steps.length ≤ 7 := by omega
  have HMK := run_makeI N (by omega)
  rw [← hN] at d1 d2 hsc ⊢
  have HN := Lib.hid hN
  clear hN h1 h2 h3 h4 h5 hs hsb ht htb
  go_enter Try.func14, Try.ntmps14
  go_upto_region 8 with (first | (go_at_call 68; (with_reducible refine (o_alive _).mono ?_); rintro e w0 ⟨rfl, hb0⟩; refine Blk.thru (b := w.heap.size) (arr := ?_) (t := ?_) ?_ hb0 ?_; rotate_left 2; (focus (exact blk)); intro ua; have uac0 := ua.cell 0; have uaf0 := ua.free 0; have uac1 := ua.cell 1; have uaf1 := ua.free 1; have uac2 := ua.cell 2; have uaf2 := ua.free 2; have uac3 := ua.cell 3; have uaf3 := ua.free 3; have ual := ua.lt; simp at uac0 uac1 uac2 uac3; refine Blk.thru (b := (w.heap.size + 1)) (arr := ?_) (t := ?_) ?_ hb0 ?_; rotate_left 2; (focus (exact blk)); intro ub; have ubc0 := ub.cell 0; have ubf0 := ub.free 0; have ubc1 := ub.cell 1; have ubf1 := ub.free 1; have ubl := ub.lt; simp at ubc0 ubc1) | (go_at_call 26; (with_reducible refine (f_CheckAir x _).mono ?_); rw [HCA.out]; rintro e w1 ⟨rfl, hb1⟩; refine Blk.thru (b := w.heap.size) (arr := ?_) (t := ?_) ?_ hb1 ?_; rotate_left 2; (focus (exact blk)); intro va; have vac0 := va.cell 0; have vaf0 := va.free 0; have vac1 := va.cell 1; have vaf1 := va.free 1; have vac2 := va.cell 2; have vaf2 := va.free 2; have vac3 := va.cell 3; have vaf3 := va.free 3; have val := va.lt; simp at vac0 vac1 vac2 vac3; refine Blk.thru (b := (w.heap.size + 1)) (arr := ?_) (t := ?_) ?_ hb1 ?_; rotate_left 2; (focus (exact blk)); intro vb; have vbc0 := vb.cell 0; have vbf0 := vb.free 0; have vbc1 := vb.cell 1; have vbf1 := vb.free 1; have vbl := vb.lt; simp at vbc0 vbc1) | (go_at_call 28; (with_reducible refine (f_CheckCell (⟨1, 0, 0, wl, wh, 0, 0⟩ : Cell) _).mono ?_); rw [HCC.out]; rintro e w2 ⟨rfl, hb2⟩; refine Blk.thru (b := w.heap.size) (arr := ?_) (t := ?_) ?_ hb2 ?_; rotate_left 2; (focus (exact blk)); intro ya; have yac0 := ya.cell 0; have yaf0 := ya.free 0; have yac1 := ya.cell 1; have yaf1 := ya.free 1; have yac2 := ya.cell 2; have yaf2 := ya.free 2; have yac3 := ya.cell 3; have yaf3 := ya.free 3; have yal := ya.lt; simp at yac0 yac1 yac2 yac3; refine Blk.thru (b := (w.heap.size + 1)) (arr := ?_) (t := ?_) ?_ hb2 ?_; rotate_left 2; (focus (exact blk)); intro yb; have ybc0 := yb.cell 0; have ybf0 := yb.free 0; have ybc1 := yb.cell 1; have ybf1 := yb.free 1; have ybl := yb.lt; simp at ybc0 ybc1))
  refine at_world (S := fun X => Blk X w2.heap.size #[.slice none 0 0, .slice none 0 0, .slice none 0 0] 85 ∧ Blk X w.heap.size #[.int .i64 x.plo, .int .i64 x.phi, .int .i64 x.tlo, .int .i64 x.thi] 27 ∧ Blk X (w.heap.size + 1) #[.int .i64 wl, .int .i64 wh] 23 ∧ Kept w X) ⟨by exact blkd, by exact blkd, by exact blkd, by exact kpt⟩ ?_
  rintro X ⟨q13, q7, q8, hk⟩
  have hs13 := ybl
  clear uac0 uac1 uac2 uac3 uaf0 uaf1 uaf2 uaf3 ual vac0 vac1 vac2 vac3 vaf0 vaf1 vaf2 vaf3 val yac0 yac1 yac2 yac3 yaf0 yaf1 yaf2 yaf3 yal ubc0 ubc1 ubf0 ubf1 ubl vbc0 vbc1 vbf0 vbf1 vbl ybc0 ybc1 ybf0 ybf1 ybl ua ub va vb ya yb
  generalize w2.heap.size = s13 at q13 hs13 ⊢
  clear hb0 hb1 hb2
  refine seg_8 _ rfl _ hn6 hs13 q7 q8 q13 hk ?_
  clear q7 q8 q13 hk HMK
  rintro bA bL _ _ _ _ wc ⟨hne, hlA, hlL, qA, qL, q7, q8, q13, hk⟩
  go_upto_region 9 with fail
  obtain ⟨B, hB⟩ : ∃ B, B = wc.heap.size := ⟨_, rfl⟩
  have HNS : Nq B (w.heap.size) (w.heap.size + 1) s13 bA bL x wl wh w wc (.slice none 0 0) (.slice none 0 0) (.slice none 0 0) (List.replicate N 0) (List.replicate N 0) [] [] [] := ⟨by rw [hB]; exact q7.lt, by rw [hB]; exact q8.lt, by rw [hB]; exact q13.lt, by rw [hB]; exact qA.lt, by rw [hB]; exact qL.lt, by omega, by omega, by omega, hne, by omega, by omega, q7, q8, q13, qA, qL, owns_nil (α := Sp) (enc := Sp.cells), owns_nil (α := Gauge) (enc := Gauge.cells), owns_nil (α := Flow) (enc := Flow.cells), fun g hg => (by cases hg), hk⟩
  have hwB : w.heap.size ≤ B := by rw [hB]; exact hk.size
  clear q7 q8 q13 qA qL hne hs13 hlA hlL hk hB
  go_wp2
  go_loopw [67] (fun i wr => ∃ k : Nat, k ≤ N ∧ i = .int .i64 k ∧ ∃ v, Nq B (w.heap.size) (w.heap.size + 1) s13 bA bL x wl wh w wr v (.slice none 0 0) (.slice none 0 0) (start.take k ++ List.replicate (N - k) 0) (List.replicate N 0) (List.replicate k ⟨wl, wh⟩) [] []) (fun i _ => N - (intOf i).toNat)
  case atStart => exact ⟨0, Nat.zero_le _, rfl, _, HNS⟩
  case round =>
    clear HNS
    obtain ⟨k, hkn, rfl, v, HNS⟩ := hrel
    by_cases hlt : k < N
    · have hlt' : k < start.length := by rw [← HN.out]; exact hlt
      obtain ⟨b1, o1, hbo, hb1, c0⟩ := kcell_row (HSR.out _ HNS.kept) k hlt'
      obtain ⟨y0, y1⟩ := HSB.out _ (List.getElem_mem hlt')
      have HSE := Lib.hid (show (start.take k ++ List.replicate (N - k) 0).set k start[k] = start.take (k + 1) ++ List.replicate (N - (k + 1)) 0 from take_put hlt' HN.out)
      obtain ⟨n, hn⟩ : ∃ n, n = start[k] := ⟨_, rfl⟩
      rw [← hn] at c0 y0 y1 HSE
      subst hbo
      clear hn
      have q8 := HNS.wm
      have q13 := HNS.hist
      have hkw := HNS.kept
      have hBB := HNS.hB
      have q8c0 := q8.cell 0
      have q8f0 := q8.free 0
      have q8c1 := q8.cell 1
      have q8f1 := q8.free 1
      have q8l := q8.lt
      simp at q8c0 q8c1
      have q13c0 := q13.cell 0
      have q13f0 := q13.free 0
      have q13c1 := q13.cell 1
      have q13f1 := q13.free 1
      have q13c2 := q13.cell 2
      have q13f2 := q13.free 2
      have q13l := q13.lt
      simp at q13c0 q13c1 q13c2
      go_upto_region 13 with (at_builtin; (obtain ⟨i0, hi, hz0, hz1, hz2⟩ := info_parts infoSp; refine wpList_append_own _ rfl _ _ 81 rfl (B) 23 i0 (.agg #[.int .i64 0, .int .i64 0]) 2 16 Try.underlying81 hi hz0 hz1 hz2 rfl (by decide) _ _ _ rfl ((owns_keep HNS.ow (by exact kpt))) ⟨_, 0, none⟩ 1 1 [.int .i64 wl, .int .i64 wh] rfl rfl (cells_at (by simp) _ _) (fun x hx => by simp at hx; rcases hx with rfl | rfl <;> rfl) (by unfold maxLen; simp; omega) (by simp; omega) (by simp; omega) ?_; intro v9 w9 hown9 hgrow9 hnil9; clear hi hz0 hz1 hz2 hnil9; obtain ⟨ad9, cp9, rfl⟩ := owns_shape hown9; have m13 := Blk.grownLt (Blk.alloc q13 _) HNS.l13 (owns_keep HNS.ow (by exact kpt)) hgrow9; have m13c0 := m13.cell 0; have m13f0 := m13.free 0; have m13c1 := m13.cell 1; have m13f1 := m13.free 1; have m13c2 := m13.cell 2; have m13f2 := m13.free 2; have m13l := m13.lt; simp at m13c0 m13c1 m13c2))
      have HAP := NSt.appW (HNS.keep ((Below.refl _ _).alloc (Nat.le_refl _) _)) (by decide) (by decide) (s := ⟨wl, wh⟩) hown9 hgrow9
      rw [List.length_replicate, ← List.replicate_succ'] at HAP
      refine at_world (S := fun V => Nq B (w.heap.size) (w.heap.size + 1) s13 bA bL x wl wh w V (.slice ad9 (k + 1) cp9) (.slice none 0 0) (.slice none 0 0) (start.take k ++ List.replicate (N - k) 0) (List.replicate N 0) (List.replicate (k + 1) ⟨wl, wh⟩) [] []) HAP ?_
      clear HAP hown9 hgrow9 q8c0 q8f0 q8c1 q8f1 q8l q13c0 q13f0 q13c1 q13f1 q13c2 q13f2 q13l c0 q8 q13 hkw hBB HNS
      intro V HNS
      have hlc : (start.take k ++ List.replicate (N - k) 0).length = N := by simp; omega
      have qA0 := HNS.am.cell k
      rw [ints_get (by omega)] at qA0
      have qAf := HNS.am.free k
      have w1 := i64_inH (n := n) (by omega)
      go_wp2
      go_roundw
      case rel =>
        have := HNS.setA k n
        rw [HSE.out] at this
        exact ⟨k + 1, by omega, by go_num, _, this⟩
      case measure => simp [intOf]; omega
    · skip
      obtain rfl : k = N := by omega
      have hts : start.take k ++ List.replicate (k - k) 0 = start := by rw [HN.out, List.take_length, Nat.sub_self, List.replicate_zero, List.append_nil]
      rw [hts] at HNS
      have HIV := Lib.hid (Dr.zero_inv HSB.out)
      have HAM : ∀ n ∈ start, 0 ≤ n ∧ n ≤ 76245 := fun n hn => by have := HSB.out n hn; omega
      have hBV := HNS.hB
      have q7 := HNS.air
      have q8 := HNS.wm
      have q13 := HNS.hist
      have hwB' := HNS.b0.1
      go_upto_region 15 with fail
      refine at_world (S := fun Y => Nq B (w.heap.size) (w.heap.size + 1) s13 bA bL x wl wh w Y v (.slice none 0 0) (.slice none 0 0) start (List.replicate k 0) (List.replicate k ⟨wl, wh⟩) [] []) HNS ?_
      clear HNS q7 q8 q13 hBV
      intro Y HNS
      have hBV := HNS.hB
      have q7 := HNS.air
      have q8 := HNS.wm
      have q13 := HNS.hist
      refine seg_15 (sts := steps.map Bts.l) _ rfl _ (fun c a d v w h => by cases d <;> exact h) w0_ w1_ hn1 hn6 HN.out HSB.out H4.out H5.out HNS ?_
      clear HNS q7 q8 q13 hBV
      rintro _ _ _ _ _ _ _ _ _ _ _ wc ⟨vg, G, hG, HNS⟩
      obtain ⟨sts, hsts⟩ : ∃ sts, sts = steps.map Bts.l := ⟨_, rfl⟩
      rw [← hsts] at hG
      have hsl : sts.length = steps.length := by rw [hsts, List.length_map]
      have HSTB : ∀ st ∈ sts, ∀ y ∈ st, 0 ≤ y ∧ y ≤ 255 := by
        intro st hst y hy
        rw [hsts] at hst
        obtain ⟨b, hb, rfl⟩ := List.mem_map.1 hst
        exact (HTB.out _ (Below.refl _ _) b hb).2.2.2 y hy
      have HIN := Lib.hid (fun j (hj : j ≤ sts.length) => Dr.after_inv HSB.out HSTB j hj)
      have HST := Lib.hid (show ∀ j (hj : j < steps.length), sts.getD j [] = steps[j].l from fun j hj => by rw [hsts]; simp [List.getD_eq_getElem?_getD, hj])
      have HSTB := Lib.hid HSTB
      have HSL := Lib.hid hsl
      clear hsts hsl HIV HAM hwB'
      obtain ⟨Wl, hWl⟩ : ∃ l : List Sp, l = List.replicate k ⟨wl, wh⟩ := ⟨_, rfl⟩
      have hz0 : List.replicate k (0 : Int) = (Dr.after start sts 0).lo := by rw [HN.out]; rfl
      rw [← hWl, hz0, show start = (Dr.after start sts 0).am from rfl] at HNS
      have HWL := Lib.hid hWl
      clear hWl hz0
      go_upto_region 17 with fail
      go_wp2
      go_loopw [18, 97] (fun al i wr => ∃ j : Nat, j ≤ steps.length ∧ i = .int .i64 j ∧ al = .int .i64 (Dr.after start sts j).all ∧ ∃ vg vf, ∃ G, GOk start sts x wl wide G j ∧ Nq B (w.heap.size) (w.heap.size + 1) s13 bA bL x wl wh w wr v vg vf (Dr.after start sts j).am (Dr.after start sts j).lo Wl G (Dr.after start sts j).fl) (fun _ i _ => steps.length - (intOf i).toNat)
      case atStart => exact ⟨0, Nat.zero_le _, rfl, rfl, vg, _, G, hG, HNS⟩
      case round =>
        clear HNS hG
        obtain ⟨j, hj, rfl, rfl, vg, vf, G, hG, HNS⟩ := hrel
        by_cases hlt : j < steps.length
        · skip
          obtain ⟨b1, o1, hbo, hb1, c0⟩ := Bts.row (HTR.out _ HNS.kept) j hlt
          subst hbo
          obtain ⟨bt, hbt⟩ : ∃ b, b = steps[j] := ⟨_, rfl⟩
          have HBT := Lib.hid (show bt ∈ steps by rw [hbt]; exact List.getElem_mem _)
          have HST1 := Lib.hid (show sts.getD j [] = bt.l by rw [HST.out j hlt, hbt])
          rw [← hbt] at c0
          clear hbt
          obtain ⟨hd1, hd2⟩ := HIN.out j (by rw [HSL.out]; omega)
          obtain ⟨D, hD⟩ : ∃ D, D = Dr.after start sts j := ⟨_, rfl⟩
          rw [← hD] at hd1 hd2 HNS
          have HDS := Lib.hid (show Dr.after start sts (j + 1) = D.cells j bt.l start.length by rw [hD, ← HST1.out]; rfl)
          have hlen6 : j * start.length ≤ 7 * 6 := Nat.mul_le_mul (by omega) (by rw [← HN.out]; omega)
          have hBTI : ∀ y ∈ bt.l, 0 ≤ y ∧ y ≤ 255 := (HTB.out _ (Below.refl _ _) bt HBT.out).2.2.2
          have HDI := Lib.hid hd1
          have HDL := Lib.hid (show D.fl.length ≤ 42 by rw [hd2]; omega)
          have HBR := Lib.hid (fun W (hW : Kept w W) => HTB.out W hW bt HBT.out)
          have HBTI := Lib.hid hBTI
          have HD := Lib.hid hD
          rw [← hD]
          clear hd1 hd2 hD hBTI hlen6
          go_upto_region 20 with fail
          clear c0
          go_upto_block 4 with fail
          refine seg_in _ rfl _ (show j ≤ 7 by omega) hn1 hn6 HN.out HDI.out HDL.out HBR.out HNS ?_
          clear HNS
          rintro _ _ _ _ _ _ _ _ _ _ _ _ _ _ _ _ _ _ _ _ _ _ _ _ _ _ _ _ _ _ _ _ _ _ _ _ _ _ _ _ _ _ _ _ _ _ _ _ _ _ _ _ _ _ _ _ _ _ _ _ _ _ _ _ _ _ _ _ _ _ _ _ _ _ wc ⟨vf, HNS⟩
          have e : D.cells j bt.l k = Dr.after start sts (j + 1) := by rw [HDS.out, HN.out]
          rw [e] at HNS ⊢
          clear e
          obtain ⟨hj1, hj2⟩ := HIN.out (j + 1) (by rw [HSL.out]; omega)
          have hlm : (j + 1) * start.length ≤ 7 * 6 := Nat.mul_le_mul (by omega) (by rw [← HN.out]; omega)
          have HAM : ∀ n ∈ (Dr.after start sts (j + 1)).am, 0 ≤ n ∧ n ≤ 76245 := by
            intro n hn
            obtain ⟨i, hi, rfl⟩ := List.mem_iff_getElem.1 hn
            have := (hj1.at_ i (by rw [← hj1.am]; exact hi)).1
            rw [List.getD_eq_getElem?_getD, List.getElem?_eq_getElem hi] at this
            simp only [Option.getD_some] at this
            omega
          have HAN := Lib.hid (show k = (Dr.after start sts (j + 1)).am.length by rw [hj1.am]; exact HN.out)
          have HAM := Lib.hid HAM
          clear hj1 hj2 hlm
          go_upto_region 33 with fail
          refine at_world (S := fun Y => Nq B (w.heap.size) (w.heap.size + 1) s13 bA bL x wl wh w Y v vg vf (Dr.after start sts (j + 1)).am (Dr.after start sts (j + 1)).lo Wl G (Dr.after start sts (j + 1)).fl) HNS ?_
          clear HNS
          intro Y HNS
          have hGl : G.length ≤ 8 := by have := hG.1; omega
          refine seg_33 _ rfl _ (fun c a d v w h => by cases d <;> exact h) w0_ w1_ hn1 hn6 HAN.out HAM.out H4.out H5.out (show j ≤ 7 by omega) hGl HNS ?_
          clear HNS
          rintro _ _ _ _ _ _ _ _ _ _ _ _ _ _ wc ⟨bg, cg, ad9, cp9, HAP⟩
          go_upto_region 34 with fail
          go_wp2
          go_round
          case rel => exact ⟨j + 1, by omega, by go_num, rfl, .slice ad9 (G.length + 1) cp9, vf, _, hG.push, HAP⟩
          case measure => simp [intOf]; omega
        · skip
          obtain rfl : j = steps.length := by omega
          have DR : Drawn start sts x wl wh wide ⟨Wl, G, (Dr.after start sts steps.length).fl⟩ := ⟨by rw [← HN.out]; exact hn1, by rw [← HN.out]; exact hn6, by rw [HSL.out]; omega, HSB.out, HSTB.out, H4.out, H5.out, w0_, w1_, by rw [← HN.out]; exact HWL.out, by rw [HSL.out]; exact hG.1, fun i hi => hG.2 i (by rw [HSL.out] at hi; exact hi), by rw [HSL.out]⟩
          obtain ⟨s, hsv, hat⟩ := HNS.at_
          obtain ⟨aw, ag, af, cw, cg, cf⟩ := s
          obtain ⟨rfl, rfl, rfl⟩ : v = .slice aw Wl.length cw ∧ vg = .slice ag G.length cg ∧ vf = .slice af (Dr.after start sts steps.length).fl.length cf := by simpa [histV] using hsv
          clear hsv hG
          obtain ⟨hinv, _⟩ := HIN.out steps.length (by rw [HSL.out]; omega)
          have z0 := hinv.all0
          have z1 := hinv.all1
          have hfl : (Dr.after start sts steps.length).fl.length ≤ 42 := by
            rw [(HIN.out steps.length (by rw [HSL.out]; omega)).2]
            exact Nat.le_trans (Nat.mul_le_mul (show steps.length ≤ 7 by omega) (show start.length ≤ 6 by rw [← HN.out]; omega)) (by decide)
          have LOL := hinv.lo
          obtain ⟨F, hF⟩ : ∃ F, F = (Dr.after start sts steps.length).fl := ⟨_, rfl⟩
          obtain ⟨Z, hZ⟩ : ∃ Z, Z = (Dr.after start sts steps.length).all := ⟨_, rfl⟩
          obtain ⟨LO, hLO⟩ : ∃ l, l = (Dr.after start sts steps.length).lo := ⟨_, rfl⟩
          obtain ⟨AM, hAM⟩ : ∃ l, l = (Dr.after start sts steps.length).am := ⟨_, rfl⟩
          obtain ⟨Y0, hY0⟩ : ∃ y, y = Z + wide := ⟨_, rfl⟩
          obtain ⟨D2, hD2⟩ : ∃ d, d = Z - wide := ⟨_, rfl⟩
          have hLA : ∀ c, lostAt start sts c = LO.getD c 0 := fun c => by rw [hLO, ← HSL.out]; rfl
          have hZA : (Dr.after start sts sts.length).all = Z := by rw [hZ, HSL.out]
          rw [← hF] at hfl z1 DR hat HNS
          rw [← hZ] at z0 z1 ⊢
          rw [← hLO] at LOL HNS
          rw [← hAM] at HNS
          obtain ⟨hle, hll0, hlb⟩ := DR.leaks (x := max 0 D2) (y := Y0) (by omega) (by omega) (by rw [hZA]; omega) (by rw [hZA]; omega)
          obtain ⟨hne_, hnm, hns⟩ := DR.named
          have hcf := cf_none DR.valid DR.free
          have hval := DR.valid
          generalize hL : leaksL ⟨Wl, G, F⟩ (max 0 D2) Y0 = L at hll0 hlb
          generalize hLn : namedL ⟨Wl, G, F⟩ 0 1000000000000 = Ln at hnm hns
          have KL := Lib.hid (show ∀ W, Kept wr W → Calls Try.prog 58 #[.agg #[.slice aw Wl.length cw, .slice ag G.length cg, .slice af F.length cf], .agg #[.int .i64 (max 0 D2), .int .i64 Y0]] W fun e w' => ∃ v, e = .returned (.tuple #[v, .int .i64 0]) ∧ w'.ownsRow W.heap.size 23 2 v L.length (L.flatMap Sp.cells) ∧ Kept W w' from fun W hW => by have := f_Leaks ⟨Wl, G, F⟩ ⟨aw, ag, af, cw, cg, cf⟩ (max 0 D2) Y0 W (hat W hW); rw [hle, hL] at this; exact this)
          have KN := Lib.hid (show ∀ W, Kept wr W → Calls Try.prog 60 #[.agg #[.slice aw Wl.length cw, .slice ag G.length cg, .slice af F.length cf], .agg #[.int .i64 0, .int .i64 1000000000000]] W fun e w' => ∃ v, e = .returned (.tuple #[v, .int .i64 0]) ∧ w'.ownsRow W.heap.size 3 1 v Ln.length (Ln.flatMap icell) ∧ Kept W w' from fun W hW => by have := f_Named ⟨Wl, G, F⟩ ⟨aw, ag, af, cw, cg, cf⟩ 0 1000000000000 W (hat W hW); rw [hne_, hLn] at this; exact this)
          have KC := Lib.hid (show ∀ W, Kept wr W → Calls Try.prog 62 #[.agg #[.slice aw Wl.length cw, .slice ag G.length cg, .slice af F.length cf]] W fun e w' => e = .returned (.tuple #[.agg #[.int .i64 0, .int .i64 0, .int .i64 0], .int .i64 6]) ∧ Kept W w' from fun W hW => by have := f_Conflict ⟨Wl, G, F⟩ ⟨aw, ag, af, cw, cg, cf⟩ W (hat W hW); rw [hcf.1, hcf.2.1, hcf.2.2.1, hcf.2.2.2] at this; exact this)
          have KH := Lib.hid (show ∀ W, Kept wr W → Calls Try.prog 64 #[.agg #[.slice aw Wl.length cw, .slice ag G.length cg, .slice af F.length cf]] W fun e w' => e = .returned (.int .i64 0) ∧ Kept W w' from fun W hW => by have := f_CheckHistory ⟨Wl, G, F⟩ ⟨aw, ag, af, cw, cg, cf⟩ W (hat W hW); rw [show histE ⟨Wl, G, F⟩ = 0 by unfold histE; rw [hval]; rfl] at this; exact this)
          rw [← HN.out] at LOL
          have hLk : L.length = k := by rw [hll0]; exact HN.out.symm
          have HLB := Lib.hid (show ∀ c (hc : c < L.length) (hc2 : c < LO.length), L[c].lo ≤ LO[c] ∧ LO[c] ≤ L[c].hi from fun c hc hc2 => by
            have := hlb c hc
            rw [hLA, List.getD_eq_getElem?_getD, List.getElem?_eq_getElem hc2] at this
            exact this)
          have HNM := Lib.hid (show ∀ i (hi : i < Ln.length), ∃ m : Nat, ∃ hm : m < LO.length, Ln[i] = m ∧ LO[m] ≠ 0 from fun i hi => by
            obtain ⟨m, h1, h2, h3⟩ := hnm i hi
            have hm : m < LO.length := by rw [LOL, HN.out]; exact h1
            refine ⟨m, hm, h2, ?_⟩
            rw [hLA, List.getD_eq_getElem?_getD, List.getElem?_eq_getElem hm] at h3
            exact h3)
          have HNS2 := Lib.hid hns
          have x1 := i64_inH (n := wide) (by omega)
          have x2 : IntKind.i64.wrap (Z - wide) = D2 := by rw [hD2]; exact i64_inH (by omega)
          have x3 : IntKind.i64.wrap (Z + wide) = Y0 := by rw [hY0]; exact i64_inH (by omega)
          have hkw := HNS.kept
          have hwB' := HNS.b0.1
          have r13 := HNS.hist
          have r13c0 := r13.cell 0
          have r13f0 := r13.free 0
          have r13c1 := r13.cell 1
          have r13f1 := r13.free 1
          have r13c2 := r13.cell 2
          have r13f2 := r13.free 2
          have r13l := r13.lt
          simp at r13c0 r13c1 r13c2
          clear hat hle hll0 hlb hne_ hnm hns hcf hval hL hLn hF hZ hLO hAM hY0 hD2 hLA hZA DR hinv z0 z1 hfl
          have LOLH := Lib.hid LOL
          have hLkH := Lib.hid hLk
          have y0 : ((L.length : Int) != (k : Int)) = false := by simp [hLk]
          have y1 : ((L.length : Int) == (k : Int)) = true := by simp [hLk]
          clear LOL hLk
          skip
          go_upto_region 40 with (first | (go_at_call 58; (with_reducible refine (KL.out _ (by exact kpt)).mono ?_); rintro e wL ⟨vX, rfl, hoX, hbL⟩; obtain ⟨adL, cpL, rfl, hrL, hcL, hmL⟩ := owns_row (enc := Sp.cells) (k := 2) (fun _ => rfl) hoX; clear hoX; have n13 := (HNS.keep (show Kept wr wL by exact kpt)).hist; have n13c0 := n13.cell 0; have n13f0 := n13.free 0; have n13c1 := n13.cell 1; have n13f1 := n13.free 1; have n13c2 := n13.cell 2; have n13f2 := n13.free 2; have n13l := n13.lt; simp at n13c0 n13c1 n13c2) | (go_at_call 60; (with_reducible refine (KN.out _ (by exact kpt)).mono ?_); rintro e wN ⟨vX, rfl, hoX, hbN⟩; obtain ⟨adN, cpN, rfl, hrN, hcN, hmN⟩ := owns_row (enc := icell) (k := 1) (fun _ => rfl) hoX; clear hoX; have n13 := (HNS.keep (show Kept wr wN by exact kpt)).hist; have n13c0 := n13.cell 0; have n13f0 := n13.free 0; have n13c1 := n13.cell 1; have n13f1 := n13.free 1; have n13c2 := n13.cell 2; have n13f2 := n13.free 2; have n13l := n13.lt; simp at n13c0 n13c1 n13c2) | (go_at_call 62; (with_reducible refine (KC.out _ (by exact kpt)).mono ?_); rintro e wC ⟨rfl, hbC⟩; have n13 := (HNS.keep (show Kept wr wC by exact kpt)).hist; have n13c0 := n13.cell 0; have n13f0 := n13.free 0; have n13c1 := n13.cell 1; have n13f1 := n13.free 1; have n13c2 := n13.cell 2; have n13f2 := n13.free 2; have n13l := n13.lt; simp at n13c0 n13c1 n13c2) | (go_at_call 64; (with_reducible refine (KH.out _ (by exact kpt)).mono ?_); rintro e wH ⟨rfl, hbH⟩; have n13 := (HNS.keep (show Kept wr wH by exact kpt)).hist; have n13c0 := n13.cell 0; have n13f0 := n13.free 0; have n13c1 := n13.cell 1; have n13f1 := n13.free 1; have n13c2 := n13.cell 2; have n13f2 := n13.free 2; have n13l := n13.lt; simp at n13c0 n13c1 n13c2))
          refine at_world (S := fun X => Blk X bL (ints LO) 3 ∧ Row Sp.cells 2 X.heap.size X adL L ∧ Row icell 1 X.heap.size X adN Ln ∧ Kept w X) ⟨(HNS.keep (show Kept wr wH by exact kpt)).lo, hrL.later (show Kept wL wH by exact kpt) (Nat.le_refl _), hrN.later (show Kept wN wH by exact kpt) (Nat.le_refl _), Kept.drop HNS.kept (show Kept wr wH by exact kpt)⟩ ?_
          clear KL KN KC KH HNS hkw r13 x1 x2 x3 y0 y1 hrL hrN
          rintro X ⟨qL, hrL, hrN, hkX⟩
          go_upto_block 6 with fail
          refine seg_l4 _ rfl _ hn6 hLkH.out LOLH.out HLB.out hrL qL ?_
          clear qL
          rintro _ _ _ _ _ _ _ _ _ _ _ _ _ _ _ _ _ _ _ _ _ _ _ _ _ _ _ _ wc ⟨qL, hkq⟩
          have hkr := Kept.drop hkX hkq
          have hrN := hrN.later hkq (Nat.le_refl _)
          clear hrL hkX hkq
          go_upto_block 8 with fail
          refine seg_l5 _ rfl _ LOLH.out HNM.out HNS2.out hcN hmN hrN qL ?_
          clear qL
          rintro _ _ _ _ _ _ _ _ _ _ _ _ _ _ _ _ _ _ _ _ _ _ _ _ _ _ _ _ _ _ _ _ _ _ _ _ wd ⟨qL, hkq⟩
          have hkr := Kept.drop hkr hkq
          clear hkq
          go_wp2
          go_ret
          exact ⟨rfl, hkr⟩

theorem law_GasNamed (start : List Int) (sa : Option Addr) (sc : Nat) (steps : List Bts) (ta : Option Addr) (tc : Nat) (x : Air) (wl wh wide : Int) (w : World) (hs : Row (kcell .u16) 1 w.heap.size w sa start) (hsb : ∀ x ∈ start, 0 ≤ x ∧ x ≤ 65535) (hsc : start.length ≤ sc) (hsm : sc ≤ maxLen) (ht : Row Bts.cells 1 w.heap.size w ta steps) (htb : ∀ b ∈ steps, BtsOk w b) (htc : steps.length ≤ tc) (htm : tc ≤ maxLen) (w0_ : 0 ≤ wide) (w1_ : wide ≤ 255) : Calls Try.prog 14 #[.slice sa start.length sc, .slice ta steps.length tc, .agg #[.int .i64 x.plo, .int .i64 x.phi, .int .i64 x.tlo, .int .i64 x.thi], .agg #[.int .i64 wl, .int .i64 wh], .int .u8 wide] w fun e w' => e = .returned (.bool true) ∧ Kept w w' := by
  by_cases h1 : start.length < 1
  · exact law_GasNamed_zero start sa sc steps ta tc x wl wh wide w hs hsb hsc hsm ht htb htc htm w0_ w1_ h1
  by_cases h2 : 6 < start.length
  · exact law_GasNamed_many start sa sc steps ta tc x wl wh wide w hs hsb hsc hsm ht htb htc htm w0_ w1_ h1 h2
  by_cases h3 : 7 < steps.length
  · exact law_GasNamed_long start sa sc steps ta tc x wl wh wide w hs hsb hsc hsm ht htb htc htm w0_ w1_ h1 h2 h3
  cases h4 : airB x
  · exact law_GasNamed_air start sa sc steps ta tc x wl wh wide w hs hsb hsc hsm ht htb htc htm w0_ w1_ h1 h2 h3 h4
  · cases h5 : warmB ⟨wl, wh⟩
    · exact law_GasNamed_warm start sa sc steps ta tc x wl wh wide w hs hsb hsc hsm ht htb htc htm w0_ w1_ h1 h2 h3 h4 h5
    · exact law_GasNamed_main start sa sc steps ta tc x wl wh wide w hs hsb hsc hsm ht htb htc htm w0_ w1_ h1 h2 h3 h4 h5

theorem kcell_of_leaves {kd : IntKind} {cs : List Value} (h : LeavesOk [.int kd] cs) : ∃ x : Int, cs = kcell kd x ∧ (Lit.int kd x).wf = true := by
  obtain ⟨hl, h⟩ := h
  match cs, hl with
  | [v0], _ =>
    obtain ⟨_, e0, n0, rfl, w0⟩ := h 0 (.int kd) rfl
    simp at e0
    subst e0
    exact ⟨n0, rfl, w0⟩
theorem open_bts {H : Type} {enc : TypeId × Value → H} {w : World} {base fuel : Nat} {spare : Nat → Bool} {held : Bool} {cs : List Value} {x : DataW H × List MemPlace} (h : DataW.trod enc Try.prog w base spare held fuel 126 cs = some x) :
    ∃ b : Bts, cs = b.cells ∧ BtsOk w b := by
  obtain ⟨a, c, xs, e, hl, hm, row, wf, _⟩ := open_typed (n := 4) (fun _ h => kcell_of_leaves (kd := .u8) h) Try.underlying126 (by kernel_rfl) (by kernel_rfl) (by decide) h
  have e2 : (⟨a.map fun p => (p.block, p.off, p.spot), c, xs⟩ : Bts).ad = a := by cases a <;> simp [Bts.ad]
  refine ⟨⟨a.map fun p => (p.block, p.off, p.spot), c, xs⟩, by rw [Bts.cells, e2]; exact e, by rw [e2]; exact row, hl, hm, fun y hy => wf_u8o (wf y hy)⟩

end Go.Proofs.Ytemafanncejeiaa

/-
  GasNamed, the statement: for every input the call returns true and leaves the input alone.
-/
namespace Go.Proofs.Ytemafanncejeiaa.gasNamed
open Go.ChangeShapes Go.WideShapes Go.ChangeAt Go.RowKit Bal Bal.Trim Bal.Gas
open Go.ChangeMaps (open_string shut_string)
set_option linter.unusedVariables false

theorem own : ownKnob Try.prog.godebug = none := by kernel_rfl
theorem laidOut : laidOutB Try.prog = true := by kernel_rfl

set_option maxRecDepth 100000 in
theorem lifted (os : Os) (started : os.Started) (H : Type) (enc : TypeId × Value → H) :
    ReturnsInHanded {} Try.checked os 14 .any (Rows.gasNamedSpec.pre6 enc Try.prog Try.f14 Rows.gasNamedRow.domain false) (Rows.gasNamedSpec.post enc Try.prog Try.f14 false true false false) := by
  refine returnsInHanded_of_change (C := Try.checked) own started (by kernel_rfl) Try.func14
    (ChangeSpec.witness6 (enc := enc) (C := Try.checked) false ⟨#[], #[.slice none 0 0, .slice none 0 0, .agg #[.int .i64 0, .int .i64 0, .int .i64 0, .int .i64 0], .agg #[.int .i64 0, .int .i64 0], .int .u8 0], []⟩ 8 (by kernel_rfl) (by kernel_rfl) (by kernel_rfl) (by kernel_rfl)) ?_
  intro W base args ds gs before hval0 hW hcnd _
  have hval : ∀ (j : Nat) t v, Try.f14.params[j]? = some t → args[j]? = some v → Value.okWide Try.prog W .any base t v := hval0
  have hW' := hW
  obtain ⟨p, q, hA0, hV, rfl, hfz, hnd⟩ := hW
  have hA : DataW.TrodAll enc Try.prog W 0 (fun _ => true) true Try.f14.params.toList args.toList ds p := hA0
  rw [Try.params14] at hA hval
  obtain ⟨v0, vs0, d0, ds0, p0, q0, hargs, rfl, rfl, h0, r0⟩ := trodAll_cons hA
  obtain ⟨v1, vs1, d1, ds1, p1, q1, rfl, rfl, rfl, h1, r1⟩ := trodAll_cons r0
  obtain ⟨v2, vs2, d2, ds2, p2, q2, rfl, rfl, rfl, h2, r2⟩ := trodAll_cons r1
  obtain ⟨v3, vs3, d3, ds3, p3, q3, rfl, rfl, rfl, h3, r3⟩ := trodAll_cons r2
  obtain ⟨v4, vs4, d4, ds4, p4, q4, rfl, rfl, rfl, h4, r4⟩ := trodAll_cons r3
  obtain ⟨rfl, rfl, rfl⟩ := trodAll_nil r4
  obtain rfl : args = #[v0, v1, v2, v3, v4] := by cases args; simp_all
  obtain ⟨rfl, rfl⟩ := trodVars_none hV
  have k0 := h0
  have lt0 : ∀ x ∈ p0, x.block < W.heap.size := by obtain ⟨m, hm⟩ := k0; exact DataW.trod_lt m _ _ _ hm
  obtain ⟨a0, len0, cap0, rfl⟩ := okWide_slice Try.underlying121 (hval 0 121 v0 rfl rfl)
  obtain ⟨fuel0, hf0⟩ := h0
  obtain ⟨b0, c0, xs0, e0, hl0, hm0, row0, wf0, z0⟩ := open_typed (n := 4) (fun _ h => kcell_of_leaves (kd := .u16) h) Try.underlying121 (by kernel_rfl) (by kernel_rfl) (by decide) hf0
  simp [Value.cells] at e0
  obtain ⟨rfl, rfl, rfl⟩ := e0
  have k1 := h1
  have lt1 : ∀ x ∈ p1, x.block < W.heap.size := by obtain ⟨m, hm⟩ := k1; exact DataW.trod_lt m _ _ _ hm
  obtain ⟨a1, len1, cap1, rfl⟩ := okWide_slice Try.underlying122 (hval 1 122 v1 rfl rfl)
  obtain ⟨fuel1, hf1⟩ := h1
  obtain ⟨b1, c1, ys1, e1, hl1, hm1, row1, ok1, z1⟩ := open_rows (ok := fun cs => ∃ b : Bts, cs = b.cells ∧ BtsOk W b) (k := 1) (fun q cs x h => open_bts h) (fun cs ⟨b, hb, _⟩ => by rw [hb]; rfl) Try.underlying122 (by kernel_rfl) (by decide) hf1
  simp [Value.cells] at e1
  obtain ⟨rfl, hlen1, rfl⟩ := e1
  obtain ⟨xs1, rfl, bw1⟩ := decodeH (wf := BtsOk W) (fun cs h => h) ys1 ok1
  rw [List.length_map] at hl1 hlen1
  subst hlen1
  have k2 := h2
  have lt2 : ∀ x ∈ p2, x.block < W.heap.size := by obtain ⟨m, hm⟩ := k2; exact DataW.trod_lt m _ _ _ hm
  obtain ⟨a2, rfl, wf2⟩ := open_agg (n := 5) (fun _ h => Air.of_leaves h) Try.underlying27 (by kernel_rfl) (hval 2 27 v2 rfl rfl) h2
  have k3 := h3
  have lt3 : ∀ x ∈ p3, x.block < W.heap.size := by obtain ⟨m, hm⟩ := k3; exact DataW.trod_lt m _ _ _ hm
  obtain ⟨a3, rfl, wf3⟩ := open_agg (n := 5) (fun _ h => Sp.of_leaves h) Try.underlying23 (by kernel_rfl) (hval 3 23 v3 rfl rfl) h3
  obtain ⟨a4, rfl, rfl, rfl, w4⟩ := open_int Try.underlying5 (hval 4 5 v4 rfl rfl) h4
  clear hA0 hval0
  refine (law_GasNamed xs0 a0 cap0 xs1 a1 cap1 a2 a3.lo a3.hi a4 W row0 (fun x hx => wf_u16 (wf0 x hx)) hl0 hm0 row1.of_map bw1 hl1 hm1 (wf_u8o w4).1 (wf_u8o w4).2).mono fun e W' ⟨he, bel⟩ => ?_
  subst he
  exact ⟨_, rfl, _, _, _, [], _, [], hW', trodAll_mk1 (shut_bool Try.underlying4 _), (trodAll_cons_mk (Below.trod laidOut (by kernel_rfl) (of_decide_eq_true (by kernel_rfl)) k0 bel lt0) (trodAll_cons_mk (Below.trod laidOut (by kernel_rfl) (of_decide_eq_true (by kernel_rfl)) k1 bel lt1) (trodAll_cons_mk (Below.trod laidOut (by kernel_rfl) (of_decide_eq_true (by kernel_rfl)) k2 bel lt2) (trodAll_cons_mk (Below.trod laidOut (by kernel_rfl) (of_decide_eq_true (by kernel_rfl)) k3 bel lt3) (trodAll_cons_mk (shut_int Try.underlying5 w4) trodAll_mk0))))), rfl, bel.frame _, fun h => by cases h⟩

theorem joined : joinedFacts Try.prog 14 Try.f14 Rows.gasNamedSpec Rows.gasNamedRow = true := by
  unfold joinedFacts
  rw [mayEnter_is, liftsFinal_is, make_is]
  kernel_rfl
theorem over : Rows.gasNamedRow.holds Try.pinned (OpenSpec.ofChange Rows.gasNamedSpec) :=
  OpenClaim.holds_of_wide 14 Try.f14 rfl rfl rfl rfl rfl rfl rfl ⟨rfl, rfl, rfl, rfl, rfl⟩ rfl rfl rfl rfl rfl (by kernel_rfl) Try.func14 joined
    (of_decide_eq_true (by kernel_rfl)) (by unfold Func.isWrapper; first | (rw [if_pos (by decide +kernel)]; kernel_rfl) | (rw [if_neg (by decide +kernel)]; exact ⟨rfl, rfl⟩))
    (fun os started H enc _ => lifted os started H enc)
end Go.Proofs.Ytemafanncejeiaa.gasNamed

namespace Go.Proofs.Ytemafanncejeiaa
theorem gasNamed_holds : Rows.GasNamedSaid := gasNamed.over
#print axioms gasNamed_holds
end Go.Proofs.Ytemafanncejeiaa
