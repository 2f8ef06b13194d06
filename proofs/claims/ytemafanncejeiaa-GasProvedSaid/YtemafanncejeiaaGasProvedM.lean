/-
  GasProved, the statement: for every input the call returns true and leaves the input alone.
-/
import Derived.Test.YtemafanncejeiaaGasBaseM
import Derived.Test.YtemafanncejeiaaRows
set_option linter.unusedVariables false
set_option linter.unusedSimpArgs false
namespace Bal.Gas
open Bal.Trim
theorem come_selfP (h : Hist) (c : Nat) (a : Int) : come h c a a = 0 := by
  unfold come
  induction h.flows with
  | nil => rfl
  | cons f fs ih =>
    rw [sumBy_cons, ih]
    have : flowN c a a f = 0 := by unfold flowN flowIn; rw [if_neg]; simp <;> omega
    omega
end Bal.Gas

/-
  Clashes, and what can have leaked without one: plain Lean, no program in sight.
-/
namespace Bal.Gas
open Bal.Trim
theorem clash_mem {h : Hist} {x : Nat × Nat × Nat} : x ∈ clashList h ↔ x.1 < h.warm.length ∧ x.2.2 < h.gauges.length ∧ x.2.1 ≤ x.2.2 := by
  obtain ⟨c, f, t⟩ := x
  simp only [clashList, List.mem_flatMap, List.mem_range, List.mem_map]
  constructor
  · rintro ⟨c', hc, t', ht, f', hf, e⟩
    injection e with e1 e2
    injection e2 with e2 e3
    subst e1 e2 e3
    exact ⟨hc, ht, by omega⟩
  · rintro ⟨h1, h2, h3⟩
    have h3 : f ≤ t := h3
    exact ⟨c, h1, t, h2, f, by omega, rfl⟩
theorem conf_no {h : Hist} (hn : conf h = none) {c t f : Nat} (hc : c < h.warm.length) (ht : t < h.gauges.length) (hf : f ≤ t) : clashB h c f t = false := by
  unfold conf at hn
  rw [List.find?_eq_none] at hn
  have := hn (c, f, t) (clash_mem.2 ⟨hc, ht, hf⟩)
  simpa using this
theorem conf_is {h : Hist} {c f t : Nat} (hs : conf h = some (c, f, t)) : c < h.warm.length ∧ t < h.gauges.length ∧ f ≤ t ∧ clashB h c f t = true := by
  unfold conf at hs
  have h1 := List.mem_of_find?_eq_some hs
  have h2 := List.find?_some hs
  obtain ⟨a, b, d⟩ := clash_mem.1 h1
  exact ⟨a, b, d, h2⟩
theorem al_small {h : Hist} (ho : HistOk h) {g c : Nat} (hg : g < h.gauges.length) (hc : c < h.warm.length) : 0 ≤ alLo h g c ∧ 0 ≤ alHi h g c ∧ alHi h g c ≤ 100000000 := by
  obtain ⟨⟨d1, d2, d3⟩, ⟨p1, p2⟩, ⟨q1, q2⟩, ⟨l1, l2⟩, u1, u2⟩ := al_bd ho hg hc
  refine ⟨l1, u1, ?_⟩
  unfold alHi
  refine Int.ediv_le_of_le_mul (by omega) ?_
  omega
theorem free_told {h : Hist} (ho : HistOk h) (hn : conf h = none) {c f t : Nat} (hc : c < h.warm.length) (ht : t < h.gauges.length) (hf : f ≤ t) : toldLo h c t ≤ toldHi h c f := by
  have h1 := conf_no hn hc ht hf
  have h2 := conf_no hn hc (show f < h.gauges.length by omega) (Nat.le_refl f)
  have h3 := conf_no hn hc ht (Nat.le_refl t)
  rw [clash_told ho hf ht] at h1
  rw [clash_told ho (Nat.le_refl _) (by omega)] at h2 h3
  simp at h2 h3
  by_cases e : f = t
  · subst e; omega
  · simp [e, show f < t by omega, show ¬ toldHi h c f < toldLo h c f by omega, show toldLo h c t ≤ toldHi h c t by omega] at h1
    omega
theorem need_le {h : Hist} {c : Nat} {M : Int} (hM : -1152921504606846976 ≤ M) : ∀ k, (∀ i, i < k → toldLo h c i ≤ M) → needTo h c k ≤ M
  | 0, _ => hM
  | k + 1, hk => by
    have h1 := need_le hM k fun i hi => hk i (by omega)
    have h2 := hk k (by omega)
    simp only [needTo]
    omega
theorem can_ge {h : Hist} {c : Nat} {M : Int} (hM : M ≤ 1152921504606846976) : ∀ k, (∀ i, i < k → M ≤ toldHi h c i) → M ≤ canTo h c k
  | 0, _ => hM
  | k + 1, hk => by
    have h1 := can_ge hM k fun i hi => hk i (by omega)
    have h2 := hk k (by omega)
    simp only [canTo]
    omega
/-- what is known of a cell is known of something -/
theorem lost_order {h : Hist} (ho : HistOk h) (hn : conf h = none) {c : Nat} (hc : c < h.warm.length) : 0 ≤ lostLo h c ∧ lostLo h c ≤ lostHi h c ∧ lostHi h c ≤ 2100000000 := by
  have g1 := ho.g1
  have t0 := told_bd ho (i := 0) (by omega) hc
  have t1 := told_bd ho (i := h.gauges.length - 1) (by omega) hc
  have a0 := al_small ho (g := 0) (by omega) hc
  have a1 := al_small ho (g := h.gauges.length - 1) (by omega) hc
  have c1 := come_bd ho c (tt h 0) (tt h (h.gauges.length - 1)) h.flows.length
  rw [← come_all] at c1
  have e0 : come h c (tt h 0) (tt h 0) = 0 := come_selfP h c _
  have n1 := need_le (h := h) (c := c) (M := toldHi h c 0) (by omega) h.gauges.length fun i hi => free_told ho hn hc hi (Nat.zero_le _)
  have n2 := can_ge (h := h) (c := c) (M := toldLo h c (h.gauges.length - 1)) (by omega) h.gauges.length fun i hi => free_told ho hn hc (by omega) (by omega)
  have n3 := free_told ho hn hc (show h.gauges.length - 1 < h.gauges.length by omega) (Nat.zero_le _)
  have b1 : toldHi h c 0 ≤ 100000000 := by unfold toldHi; rw [e0]; omega
  have b2 : -1000000000 ≤ toldLo h c (h.gauges.length - 1) := by unfold toldLo; omega
  unfold lostLo lostHi
  split
  · omega
  · omega
theorem all_order {h : Hist} (ho : HistOk h) (hn : conf h = none) : ∀ k, k ≤ h.warm.length → 0 ≤ allLo h k ∧ allLo h k ≤ allHi h k ∧ allHi h k ≤ 2100000000 * k ∧ ∀ c, c < k → lostLo h c ≤ allLo h k ∧ lostHi h c ≤ allHi h k
  | 0, _ => by simp [allLo, allHi]
  | k + 1, hk => by
    have ih := all_order ho hn k (by omega)
    have b := lost_order ho hn (c := k) (by omega)
    rw [allLo_succ, allHi_succ]
    refine ⟨by omega, by omega, by omega, fun c hc => ?_⟩
    by_cases h1 : c = k
    · subst h1; omega
    · have := ih.2.2.2 c (by omega); omega
theorem confE_none {h : Hist} (hb : histB h = true) (he : confE h ≠ 0) : conf h = none := by
  unfold confE at he
  simp only [hb, if_true] at he
  cases h1 : conf h
  · rfl
  · simp [h1] at he
theorem proved_none {h : Hist} (hb : histB h = true) (he : confE h ≠ 0) : leaksE h 0 1000000000000 = 0 ∧ (leaksL h 0 1000000000000).length = h.warm.length ∧
    ∀ c (hc : c < (leaksL h 0 1000000000000).length), 0 ≤ (leaksL h 0 1000000000000)[c].lo ∧ (leaksL h 0 1000000000000)[c].lo ≤ (leaksL h 0 1000000000000)[c].hi ∧ (h.gauges.length = 1 → (leaksL h 0 1000000000000)[c].hi ≤ 0) := by
  have hn := confE_none hb he
  have ho := histB_ok hb
  have w2 := ho.w2
  obtain ⟨o1, o2, o3, o4⟩ := all_order ho hn h.warm.length (Nat.le_refl _)
  have e : leaksE h 0 1000000000000 = 0 := by
    rw [leaks_free hb (by decide) he]
    have : outB h 0 1000000000000 = false := by simp [outB]; omega
    rw [this]; rfl
  have el : leaksL h 0 1000000000000 = (List.range h.warm.length).map fun c => ⟨leakLo h 0 c, leakHi h 1000000000000 c⟩ := by simp [leaksL, e]
  rw [el]
  refine ⟨e, by simp, fun c hc => ?_⟩
  have hc : c < h.warm.length := by simpa using hc
  have q := lost_order ho hn hc
  have r := o4 c hc
  simp only [List.getElem_map, List.getElem_range, leakLo, leakHi]
  refine ⟨by omega, by omega, fun g1 => ?_⟩
  have : lostHi h c = 0 := by unfold lostHi; rw [if_pos g1]
  omega
theorem proved_some {h : Hist} {c f t : Nat} (hb : histB h = true) (hs : conf h = some (c, f, t)) : c < h.warm.length ∧ t < h.gauges.length ∧ f ≤ t ∧ leaksE h 0 1000000000000 = 6 ∧
    (f = t → amtE h f c = 6) ∧ (f ≠ t → amtE h f c = 0 ∧ amtE h t c = 0 ∧ alHi h f c + come h c (tt h f) (tt h t) < alLo h t c) := by
  obtain ⟨h1, h2, h3, h4⟩ := conf_is hs
  have i1 : inB (f : Int) 0 (h.gauges.length - 1) = true := by rw [inB_iff]; omega
  have i2 : inB (t : Int) 0 (h.gauges.length - 1) = true := by rw [inB_iff]; omega
  have i3 : inB (c : Int) 0 (h.warm.length - 1) = true := by rw [inB_iff]; omega
  refine ⟨h1, h2, h3, (leaks_conf hb (by decide) (cf_some hb hs).2.2.2).1, fun e => ?_, fun e => ?_⟩
  · subst e
    simp [clashB] at h4
    simp [amtE, hb, i1, i3, h4]
  · simp [clashB, e] at h4
    refine ⟨?_, ?_, h4.2⟩
    · simp [amtE, hb, i1, i3]; omega
    · simp [amtE, hb, i2, i3]; omega
end Bal.Gas

/-
  GasProved: a clash is one, and without one something can have leaked: the walk.
-/
namespace Go.Proofs.Ytemafanncejeiaa
open Go.RowKit Bal Bal.Trim Bal.Gas
set_option linter.unusedVariables false
set_option linter.unusedSimpArgs false
set_option maxHeartbeats 8000000
set_option maxRecDepth 100000

theorem law_GasProved_great (h : Hist) (s : Bal.Gas.Spot) (w : World) (hh : HistAt h s w) (hg : greatH h = true) : Calls Try.prog 16 #[.agg #[.slice s.aw h.warm.length s.cw, .slice s.ag h.gauges.length s.cg, .slice s.af h.flows.length s.cf]] w fun e w' => e = .returned (.bool true) ∧ Kept w w' := by
  have hcw := hh.wc
  have hcm := hh.wm
  have hgc := hh.gc
  have hgm := hh.gm
  have hfc := hh.fc
  have hfm := hh.fm
  unfold maxLen at hcm hgm hfm
  have KG := Lib.hid (show ∀ W, Kept w W → Calls Try.prog 55 #[.agg #[.slice s.aw h.warm.length s.cw, .slice s.ag h.gauges.length s.cg, .slice s.af h.flows.length s.cf]] W fun e w' => e = .returned (.bool true) ∧ Kept W w' from fun W hW => by rw [← hg]; exact r_GreatH h s W (hh.later hW))
  clear hg
  go_enter Try.func16, Try.ntmps16
  go_wp2_with (first | (go_at_call 68; (with_reducible refine (o_alive _).mono ?_); rintro e w0 ⟨rfl, hb0⟩; refine Blk.thru (b := w.heap.size) (arr := ?_) (t := ?_) ?_ hb0 ?_; rotate_left 2; (focus (exact blk)); intro qa0; have qa0c0 := qa0.cell 0; have qa0f0 := qa0.free 0; have qa0c1 := qa0.cell 1; have qa0f1 := qa0.free 1; have qa0c2 := qa0.cell 2; have qa0f2 := qa0.free 2; have qa0l := qa0.lt; simp at qa0c0 qa0c1 qa0c2) | (go_at_call 55; (with_reducible refine (KG.out _ (by exact kpt)).mono ?_); rintro e w1 ⟨rfl, hb1⟩; refine Blk.thru (b := w.heap.size) (arr := ?_) (t := ?_) ?_ hb1 ?_; rotate_left 2; (focus (exact blk)); intro qa1; have qa1c0 := qa1.cell 0; have qa1f0 := qa1.free 0; have qa1c1 := qa1.cell 1; have qa1f1 := qa1.free 1; have qa1c2 := qa1.cell 2; have qa1f2 := qa1.free 2; have qa1l := qa1.lt; simp at qa1c0 qa1c1 qa1c2))
  go_ret
  exact ⟨rfl, by exact kpt⟩

theorem law_GasProved_bad (h : Hist) (s : Bal.Gas.Spot) (w : World) (hh : HistAt h s w) (hg : greatH h = false) (hb : histB h = false) : Calls Try.prog 16 #[.agg #[.slice s.aw h.warm.length s.cw, .slice s.ag h.gauges.length s.cg, .slice s.af h.flows.length s.cf]] w fun e w' => e = .returned (.bool true) ∧ Kept w w' := by
  have hcw := hh.wc
  have hcm := hh.wm
  have hgc := hh.gc
  have hgm := hh.gm
  have hfc := hh.fc
  have hfm := hh.fm
  unfold maxLen at hcm hgm hfm
  have KG := Lib.hid (show ∀ W, Kept w W → Calls Try.prog 55 #[.agg #[.slice s.aw h.warm.length s.cw, .slice s.ag h.gauges.length s.cg, .slice s.af h.flows.length s.cf]] W fun e w' => e = .returned (.bool false) ∧ Kept W w' from fun W hW => by rw [← hg]; exact r_GreatH h s W (hh.later hW))
  have KH := Lib.hid (show ∀ W, Kept w W → Calls Try.prog 64 #[.agg #[.slice s.aw h.warm.length s.cw, .slice s.ag h.gauges.length s.cg, .slice s.af h.flows.length s.cf]] W fun e w' => e = .returned (.int .i64 34) ∧ Kept W w' from fun W hW => by rw [← (show histE h = 34 by unfold histE; rw [hb]; rfl)]; exact f_CheckHistory h s W (hh.later hW))
  clear hg hb
  go_enter Try.func16, Try.ntmps16
  go_wp2_with (first | (go_at_call 68; (with_reducible refine (o_alive _).mono ?_); rintro e w0 ⟨rfl, hb0⟩; refine Blk.thru (b := w.heap.size) (arr := ?_) (t := ?_) ?_ hb0 ?_; rotate_left 2; (focus (exact blk)); intro qa0; have qa0c0 := qa0.cell 0; have qa0f0 := qa0.free 0; have qa0c1 := qa0.cell 1; have qa0f1 := qa0.free 1; have qa0c2 := qa0.cell 2; have qa0f2 := qa0.free 2; have qa0l := qa0.lt; simp at qa0c0 qa0c1 qa0c2) | (go_at_call 55; (with_reducible refine (KG.out _ (by exact kpt)).mono ?_); rintro e w1 ⟨rfl, hb1⟩; refine Blk.thru (b := w.heap.size) (arr := ?_) (t := ?_) ?_ hb1 ?_; rotate_left 2; (focus (exact blk)); intro qa1; have qa1c0 := qa1.cell 0; have qa1f0 := qa1.free 0; have qa1c1 := qa1.cell 1; have qa1f1 := qa1.free 1; have qa1c2 := qa1.cell 2; have qa1f2 := qa1.free 2; have qa1l := qa1.lt; simp at qa1c0 qa1c1 qa1c2) | (go_at_call 64; (with_reducible refine (KH.out _ (by exact kpt)).mono ?_); rintro e w2 ⟨rfl, hb2⟩; refine Blk.thru (b := w.heap.size) (arr := ?_) (t := ?_) ?_ hb2 ?_; rotate_left 2; (focus (exact blk)); intro qa2; have qa2c0 := qa2.cell 0; have qa2f0 := qa2.free 0; have qa2c1 := qa2.cell 1; have qa2f1 := qa2.free 1; have qa2c2 := qa2.cell 2; have qa2f2 := qa2.free 2; have qa2l := qa2.lt; simp at qa2c0 qa2c1 qa2c2))
  go_ret
  exact ⟨rfl, by exact kpt⟩

theorem law_GasProved_none (h : Hist) (s : Bal.Gas.Spot) (w : World) (hh : HistAt h s w) (hg : greatH h = false) (hb : histB h = true) (he : confE h ≠ 0) : Calls Try.prog 16 #[.agg #[.slice s.aw h.warm.length s.cw, .slice s.ag h.gauges.length s.cg, .slice s.af h.flows.length s.cf]] w fun e w' => e = .returned (.bool true) ∧ Kept w w' := by
  have hcw := hh.wc
  have hcm := hh.wm
  have hgc := hh.gc
  have hgm := hh.gm
  have hfc := hh.fc
  have hfm := hh.fm
  unfold maxLen at hcm hgm hfm
  have hcf := cf_none hb (confE_none hb he)
  obtain ⟨hle, hl1, hl2⟩ := proved_none hb he
  obtain ⟨L, hll⟩ : ∃ L, leaksL h 0 1000000000000 = L := ⟨_, rfl⟩
  rw [hll] at hl1
  have HL2 := Lib.hid (show ∀ c (hc : c < L.length), 0 ≤ L[c].lo ∧ L[c].lo ≤ L[c].hi ∧ (h.gauges.length = 1 → L[c].hi ≤ 0) from by subst hll; exact hl2)
  have hw2 := (histB_ok hb).w2
  have KG := Lib.hid (show ∀ W, Kept w W → Calls Try.prog 55 #[.agg #[.slice s.aw h.warm.length s.cw, .slice s.ag h.gauges.length s.cg, .slice s.af h.flows.length s.cf]] W fun e w' => e = .returned (.bool false) ∧ Kept W w' from fun W hW => by rw [← hg]; exact r_GreatH h s W (hh.later hW))
  have KH := Lib.hid (show ∀ W, Kept w W → Calls Try.prog 64 #[.agg #[.slice s.aw h.warm.length s.cw, .slice s.ag h.gauges.length s.cg, .slice s.af h.flows.length s.cf]] W fun e w' => e = .returned (.int .i64 0) ∧ Kept W w' from fun W hW => by rw [← (show histE h = 0 by unfold histE; rw [hb]; rfl)]; exact f_CheckHistory h s W (hh.later hW))
  have KC := Lib.hid (show ∀ W, Kept w W → Calls Try.prog 62 #[.agg #[.slice s.aw h.warm.length s.cw, .slice s.ag h.gauges.length s.cg, .slice s.af h.flows.length s.cf]] W fun e w' => e = .returned (.tuple #[.agg #[.int .i64 0, .int .i64 0, .int .i64 0], .int .i64 6]) ∧ Kept W w' from fun W hW => by have := f_Conflict h s W (hh.later hW); rw [hcf.1, hcf.2.1, hcf.2.2.1, hcf.2.2.2] at this; exact this)
  have KL := Lib.hid (show ∀ W, Kept w W → Calls Try.prog 58 #[.agg #[.slice s.aw h.warm.length s.cw, .slice s.ag h.gauges.length s.cg, .slice s.af h.flows.length s.cf], .agg #[.int .i64 0, .int .i64 1000000000000]] W fun e w' => ∃ v, e = .returned (.tuple #[v, .int .i64 0]) ∧ w'.ownsRow W.heap.size 23 2 (v) L.length (L.flatMap Sp.cells) ∧ Kept W w' from fun W hW => by have := f_Leaks h s 0 1000000000000 W (hh.later hW); rw [hle, hll] at this; exact this)
  have y0 : ((L.length : Int) == (h.warm.length : Int)) = true := by simp [hl1]
  have hL12 : L.length ≤ 12 := by omega
  have HL1 := Lib.hid hl1
  clear hg hb he hcf hle hll hl1 hl2
  go_enter Try.func16, Try.ntmps16
  go_upto_region 9 with (first | (go_at_call 68; (with_reducible refine (o_alive _).mono ?_); rintro e w0 ⟨rfl, hb0⟩; refine Blk.thru (b := w.heap.size) (arr := ?_) (t := ?_) ?_ hb0 ?_; rotate_left 2; (focus (exact blk)); intro qa0; have qa0c0 := qa0.cell 0; have qa0f0 := qa0.free 0; have qa0c1 := qa0.cell 1; have qa0f1 := qa0.free 1; have qa0c2 := qa0.cell 2; have qa0f2 := qa0.free 2; have qa0l := qa0.lt; simp at qa0c0 qa0c1 qa0c2) | (go_at_call 55; (with_reducible refine (KG.out _ (by exact kpt)).mono ?_); rintro e w1 ⟨rfl, hb1⟩; refine Blk.thru (b := w.heap.size) (arr := ?_) (t := ?_) ?_ hb1 ?_; rotate_left 2; (focus (exact blk)); intro qa1; have qa1c0 := qa1.cell 0; have qa1f0 := qa1.free 0; have qa1c1 := qa1.cell 1; have qa1f1 := qa1.free 1; have qa1c2 := qa1.cell 2; have qa1f2 := qa1.free 2; have qa1l := qa1.lt; simp at qa1c0 qa1c1 qa1c2) | (go_at_call 64; (with_reducible refine (KH.out _ (by exact kpt)).mono ?_); rintro e w2 ⟨rfl, hb2⟩; refine Blk.thru (b := w.heap.size) (arr := ?_) (t := ?_) ?_ hb2 ?_; rotate_left 2; (focus (exact blk)); intro qa2; have qa2c0 := qa2.cell 0; have qa2f0 := qa2.free 0; have qa2c1 := qa2.cell 1; have qa2f1 := qa2.free 1; have qa2c2 := qa2.cell 2; have qa2f2 := qa2.free 2; have qa2l := qa2.lt; simp at qa2c0 qa2c1 qa2c2) | (go_at_call 62; (with_reducible refine (KC.out _ (by exact kpt)).mono ?_); rintro e wC ⟨rfl, hbC⟩; refine Blk.thru (b := w.heap.size) (arr := ?_) (t := ?_) ?_ hbC ?_; rotate_left 2; (focus (exact blk)); intro qa3; have qa3c0 := qa3.cell 0; have qa3f0 := qa3.free 0; have qa3c1 := qa3.cell 1; have qa3f1 := qa3.free 1; have qa3c2 := qa3.cell 2; have qa3f2 := qa3.free 2; have qa3l := qa3.lt; simp at qa3c0 qa3c1 qa3c2) | (go_at_call 58; (with_reducible refine (KL.out _ (by exact kpt)).mono ?_); rintro e wL ⟨vL, rfl, hoL, hbL⟩; obtain ⟨adL, cpL, rfl, hrL, hcL, hmL⟩ := owns_row (enc := Sp.cells) (k := 2) (fun _ => rfl) hoL; clear hoL; refine Blk.thru (b := w.heap.size) (arr := ?_) (t := ?_) ?_ hbL ?_; rotate_left 2; (focus (exact blk)); intro qa4; have qa4c0 := qa4.cell 0; have qa4f0 := qa4.free 0; have qa4c1 := qa4.cell 1; have qa4f1 := qa4.free 1; have qa4c2 := qa4.cell 2; have qa4f2 := qa4.free 2; have qa4l := qa4.lt; simp at qa4c0 qa4c1 qa4c2; refine Blk.thru (b := wC.heap.size) (arr := ?_) (t := ?_) ?_ hbL ?_; rotate_left 2; (focus (exact blk)); intro qc4; have qc4c0 := qc4.cell 0; have qc4f0 := qc4.free 0; have qc4c1 := qc4.cell 1; have qc4f1 := qc4.free 1; have qc4c2 := qc4.cell 2; have qc4f2 := qc4.free 2; have qc4l := qc4.lt; simp at qc4c0 qc4c1 qc4c2))
  refine at_world (S := fun X => Blk X w.heap.size #[.slice s.aw h.warm.length s.cw, .slice s.ag h.gauges.length s.cg, .slice s.af h.flows.length s.cf] 85 ∧ Blk X wC.heap.size #[.int .i64 0, .int .i64 0, .int .i64 0] 99 ∧ Row Sp.cells 2 X.heap.size X adL L ∧ Kept w X) ⟨by exact blkd, by exact blkd, hrL.later (by exact kpt) (Nat.le_refl _), by exact kpt⟩ ?_
  rintro X ⟨q0, q4, hr, hk⟩
  generalize wC.heap.size = s4 at q4 ⊢
  go_wp2
  go_loopw [43] (fun i wr => ∃ k : Nat, k ≤ L.length ∧ i = .int .i64 k ∧ Blk wr w.heap.size #[.slice s.aw h.warm.length s.cw, .slice s.ag h.gauges.length s.cg, .slice s.af h.flows.length s.cf] 85 ∧ Blk wr s4 #[.int .i64 0, .int .i64 0, .int .i64 0] 99 ∧ Kept X wr) (fun i _ => L.length - (intOf i).toNat)
  case atStart => exact ⟨0, by omega, rfl, q0, q4, Below.refl _ _⟩
  case round =>
    clear q0 q4
    obtain ⟨k, hkn, rfl, q0, q4, hkX⟩ := hrel
    have q0c0 := q0.cell 0
    have q0f0 := q0.free 0
    have q0c1 := q0.cell 1
    have q0f1 := q0.free 1
    have q0c2 := q0.cell 2
    have q0f2 := q0.free 2
    have q0l := q0.lt
    simp at q0c0 q0c1 q0c2
    by_cases hlt : k < L.length
    · obtain ⟨b1, o1, rfl, _, c0, c1⟩ := Sp.row (hr.later hkX (Nat.le_refl _)) k hlt
      obtain ⟨z1, z2, z3⟩ := HL2.out k hlt
      obtain ⟨x, hx0⟩ : ∃ x, x = L[k] := ⟨_, rfl⟩
      rw [← hx0] at c0 c1 z1 z2 z3
      clear hx0
      have k0 : (0 : Int) ≤ (k : Int) := by omega
      have k1 : (k : Int) < (L.length : Int) := by omega
      have d1 : decide (x.lo < 0) = false := by simp; omega
      have d2 : decide (x.hi < x.lo) = false := by simp; omega
      by_cases g1 : h.gauges.length = 1
      · have d3 : ((h.gauges.length : Int) == 1) = true := by simp [g1]
        have d4 : decide (0 < x.hi) = false := by have := z3 g1; simp; omega
        clear g1 z1 z2 z3
        go_wp2
        go_round
        case rel => exact ⟨k + 1, by omega, by go_num, by exact blkd, by exact blkd, by exact kpt⟩
        case measure => simp [intOf]; omega
      · have d3 : ((h.gauges.length : Int) == 1) = false := by simp; omega
        clear g1 z1 z2 z3
        go_wp2
        go_round
        case rel => exact ⟨k + 1, by omega, by go_num, by exact blkd, by exact blkd, by exact kpt⟩
        case measure => simp [intOf]; omega
    · obtain rfl : k = L.length := by omega
      have q4c0 := q4.cell 0
      have q4f0 := q4.free 0
      have q4c1 := q4.cell 1
      have q4f1 := q4.free 1
      have q4c2 := q4.cell 2
      have q4f2 := q4.free 2
      have q4l := q4.lt
      simp at q4c0 q4c1 q4c2
      go_wp2
      go_ret
      exact ⟨rfl, hk.trans ((show Kept X _ by exact kpt).mono hk.size)⟩

theorem law_GasProved_one (h : Hist) (s : Bal.Gas.Spot) (w : World) (hh : HistAt h s w) (hg : greatH h = false) (hb : histB h = true) (c f t : Nat) (hs : conf h = some (c, f, t)) (hft2 : f = t) : Calls Try.prog 16 #[.agg #[.slice s.aw h.warm.length s.cw, .slice s.ag h.gauges.length s.cg, .slice s.af h.flows.length s.cf]] w fun e w' => e = .returned (.bool true) ∧ Kept w w' := by
  have hcw := hh.wc
  have hcm := hh.wm
  have hgc := hh.gc
  have hgm := hh.gm
  have hfc := hh.fc
  have hfm := hh.fm
  unfold maxLen at hcm hgm hfm
  have hcf := cf_some hb hs
  obtain ⟨hc, ht, hft, hle, hp1, hp2⟩ := proved_some hb hs
  have ho := histB_ok hb
  have hll := leaks_out (h := h) (x := 0) (y := 1000000000000) (by rw [hle]; decide)
  have hw2 := ho.w2
  have hg2 := ho.g2
  have d1 : decide (((f : Nat) : Int) < 0) = false := by simp
  have d2 : decide (((t : Nat) : Int) < (f : Int)) = false := by simp; omega
  have d3 : decide ((h.gauges.length : Int) ≤ (t : Int)) = false := by simp; omega
  have d4 : decide (((c : Nat) : Int) < 0) = false := by simp
  have d5 : decide ((h.warm.length : Int) ≤ (c : Int)) = false := by simp; omega
  have d2' : decide (t < f) = false := by simp; omega
  have d3' : decide (h.gauges.length ≤ t) = false := by simp; omega
  have d5' : decide (h.warm.length ≤ c) = false := by simp; omega
  subst hft2
  have hE := hp1 rfl
  have KG := Lib.hid (show ∀ W, Kept w W → Calls Try.prog 55 #[.agg #[.slice s.aw h.warm.length s.cw, .slice s.ag h.gauges.length s.cg, .slice s.af h.flows.length s.cf]] W fun e w' => e = .returned (.bool false) ∧ Kept W w' from fun W hW => by rw [← hg]; exact r_GreatH h s W (hh.later hW))
  have KH := Lib.hid (show ∀ W, Kept w W → Calls Try.prog 64 #[.agg #[.slice s.aw h.warm.length s.cw, .slice s.ag h.gauges.length s.cg, .slice s.af h.flows.length s.cf]] W fun e w' => e = .returned (.int .i64 0) ∧ Kept W w' from fun W hW => by rw [← (show histE h = 0 by unfold histE; rw [hb]; rfl)]; exact f_CheckHistory h s W (hh.later hW))
  have KC := Lib.hid (show ∀ W, Kept w W → Calls Try.prog 62 #[.agg #[.slice s.aw h.warm.length s.cw, .slice s.ag h.gauges.length s.cg, .slice s.af h.flows.length s.cf]] W fun e w' => e = .returned (.tuple #[.agg #[.int .i64 c, .int .i64 f, .int .i64 f], .int .i64 0]) ∧ Kept W w' from fun W hW => by have := f_Conflict h s W (hh.later hW); rw [hcf.1, hcf.2.1, hcf.2.2.1, hcf.2.2.2] at this; exact this)
  have KL := Lib.hid (show ∀ W, Kept w W → Calls Try.prog 58 #[.agg #[.slice s.aw h.warm.length s.cw, .slice s.ag h.gauges.length s.cg, .slice s.af h.flows.length s.cf], .agg #[.int .i64 0, .int .i64 1000000000000]] W fun e w' => ∃ v, e = .returned (.tuple #[v, .int .i64 6]) ∧ w'.ownsRow W.heap.size 23 2 (v) ([] : List Sp).length (([] : List Sp).flatMap Sp.cells) ∧ Kept W w' from fun W hW => by have := f_Leaks h s 0 1000000000000 W (hh.later hW); rw [hle, hll] at this; exact this)
  have KA := Lib.hid (show ∀ W, Kept w W → Calls Try.prog 56 #[.agg #[.slice s.aw h.warm.length s.cw, .slice s.ag h.gauges.length s.cg, .slice s.af h.flows.length s.cf], .int .i64 f, .int .i64 c] W fun e w' => e = .returned (.tuple #[.agg #[.int .i64 0, .int .i64 0], .int .i64 6]) ∧ Kept W w' from fun W hW => by have := f_Amounts h s W (hh.later hW) (f : Int) (c : Int); simp only [hE, Bal.Gas.ifOk, Int.toNat_natCast, if_true, reduceIte] at this; exact this)
  have e1 : ((f : Int) == (f : Int)) = true := by simp
  clear hg hb hs hcf hle hll hp1 hp2 hE ho hft
  go_enter Try.func16, Try.ntmps16
  go_upto_region 20 with (first | (go_at_call 68; (with_reducible refine (o_alive _).mono ?_); rintro e w0 ⟨rfl, hb0⟩; refine Blk.thru (b := w.heap.size) (arr := ?_) (t := ?_) ?_ hb0 ?_; rotate_left 2; (focus (exact blk)); intro qa0; have qa0c0 := qa0.cell 0; have qa0f0 := qa0.free 0; have qa0c1 := qa0.cell 1; have qa0f1 := qa0.free 1; have qa0c2 := qa0.cell 2; have qa0f2 := qa0.free 2; have qa0l := qa0.lt; simp at qa0c0 qa0c1 qa0c2) | (go_at_call 55; (with_reducible refine (KG.out _ (by exact kpt)).mono ?_); rintro e w1 ⟨rfl, hb1⟩; refine Blk.thru (b := w.heap.size) (arr := ?_) (t := ?_) ?_ hb1 ?_; rotate_left 2; (focus (exact blk)); intro qa1; have qa1c0 := qa1.cell 0; have qa1f0 := qa1.free 0; have qa1c1 := qa1.cell 1; have qa1f1 := qa1.free 1; have qa1c2 := qa1.cell 2; have qa1f2 := qa1.free 2; have qa1l := qa1.lt; simp at qa1c0 qa1c1 qa1c2) | (go_at_call 64; (with_reducible refine (KH.out _ (by exact kpt)).mono ?_); rintro e w2 ⟨rfl, hb2⟩; refine Blk.thru (b := w.heap.size) (arr := ?_) (t := ?_) ?_ hb2 ?_; rotate_left 2; (focus (exact blk)); intro qa2; have qa2c0 := qa2.cell 0; have qa2f0 := qa2.free 0; have qa2c1 := qa2.cell 1; have qa2f1 := qa2.free 1; have qa2c2 := qa2.cell 2; have qa2f2 := qa2.free 2; have qa2l := qa2.lt; simp at qa2c0 qa2c1 qa2c2) | (go_at_call 62; (with_reducible refine (KC.out _ (by exact kpt)).mono ?_); rintro e wC ⟨rfl, hbC⟩; refine Blk.thru (b := w.heap.size) (arr := ?_) (t := ?_) ?_ hbC ?_; rotate_left 2; (focus (exact blk)); intro qa3; have qa3c0 := qa3.cell 0; have qa3f0 := qa3.free 0; have qa3c1 := qa3.cell 1; have qa3f1 := qa3.free 1; have qa3c2 := qa3.cell 2; have qa3f2 := qa3.free 2; have qa3l := qa3.lt; simp at qa3c0 qa3c1 qa3c2) | (go_at_call 58; (with_reducible refine (KL.out _ (by exact kpt)).mono ?_); rintro e wL ⟨vL, rfl, hoL, hbL⟩; obtain ⟨adL, cpL, rfl, hrL, hcL, hmL⟩ := owns_row (enc := Sp.cells) (k := 2) (fun _ => rfl) hoL; clear hoL; refine Blk.thru (b := w.heap.size) (arr := ?_) (t := ?_) ?_ hbL ?_; rotate_left 2; (focus (exact blk)); intro qa4; have qa4c0 := qa4.cell 0; have qa4f0 := qa4.free 0; have qa4c1 := qa4.cell 1; have qa4f1 := qa4.free 1; have qa4c2 := qa4.cell 2; have qa4f2 := qa4.free 2; have qa4l := qa4.lt; simp at qa4c0 qa4c1 qa4c2; refine Blk.thru (b := wC.heap.size) (arr := ?_) (t := ?_) ?_ hbL ?_; rotate_left 2; (focus (exact blk)); intro qc4; have qc4c0 := qc4.cell 0; have qc4f0 := qc4.free 0; have qc4c1 := qc4.cell 1; have qc4f1 := qc4.free 1; have qc4c2 := qc4.cell 2; have qc4f2 := qc4.free 2; have qc4l := qc4.lt; simp at qc4c0 qc4c1 qc4c2) | (go_at_call 56; (with_reducible refine (KA.out _ (by exact kpt)).mono ?_); rintro e wA ⟨rfl, hbA⟩; refine Blk.thru (b := w.heap.size) (arr := ?_) (t := ?_) ?_ hbA ?_; rotate_left 2; (focus (exact blk)); intro qa5; have qa5c0 := qa5.cell 0; have qa5f0 := qa5.free 0; have qa5c1 := qa5.cell 1; have qa5f1 := qa5.free 1; have qa5c2 := qa5.cell 2; have qa5f2 := qa5.free 2; have qa5l := qa5.lt; simp at qa5c0 qa5c1 qa5c2; refine Blk.thru (b := wC.heap.size) (arr := ?_) (t := ?_) ?_ hbA ?_; rotate_left 2; (focus (exact blk)); intro qc5; have qc5c0 := qc5.cell 0; have qc5f0 := qc5.free 0; have qc5c1 := qc5.cell 1; have qc5f1 := qc5.free 1; have qc5c2 := qc5.cell 2; have qc5f2 := qc5.free 2; have qc5l := qc5.lt; simp at qc5c0 qc5c1 qc5c2) | (go_at_call 56; (with_reducible refine (KA.out _ (by exact kpt)).mono ?_); rintro e wB ⟨rfl, hbB⟩; refine Blk.thru (b := w.heap.size) (arr := ?_) (t := ?_) ?_ hbB ?_; rotate_left 2; (focus (exact blk)); intro qa6; have qa6c0 := qa6.cell 0; have qa6f0 := qa6.free 0; have qa6c1 := qa6.cell 1; have qa6f1 := qa6.free 1; have qa6c2 := qa6.cell 2; have qa6f2 := qa6.free 2; have qa6l := qa6.lt; simp at qa6c0 qa6c1 qa6c2; refine Blk.thru (b := wC.heap.size) (arr := ?_) (t := ?_) ?_ hbB ?_; rotate_left 2; (focus (exact blk)); intro qc6; have qc6c0 := qc6.cell 0; have qc6f0 := qc6.free 0; have qc6c1 := qc6.cell 1; have qc6f1 := qc6.free 1; have qc6c2 := qc6.cell 2; have qc6f2 := qc6.free 2; have qc6l := qc6.lt; simp at qc6c0 qc6c1 qc6c2; refine Blk.thru (b := wA.heap.size) (arr := ?_) (t := ?_) ?_ hbB ?_; rotate_left 2; (focus (exact blk)); intro qd6; have qd6c0 := qd6.cell 0; have qd6f0 := qd6.free 0; have qd6c1 := qd6.cell 1; have qd6f1 := qd6.free 1; have qd6l := qd6.lt; simp at qd6c0 qd6c1))
  go_wp2
  go_ret
  exact ⟨rfl, by exact kpt⟩

theorem law_GasProved_two (h : Hist) (s : Bal.Gas.Spot) (w : World) (hh : HistAt h s w) (hg : greatH h = false) (hb : histB h = true) (c f t : Nat) (hs : conf h = some (c, f, t)) (hne : f ≠ t) : Calls Try.prog 16 #[.agg #[.slice s.aw h.warm.length s.cw, .slice s.ag h.gauges.length s.cg, .slice s.af h.flows.length s.cf]] w fun e w' => e = .returned (.bool true) ∧ Kept w w' := by
  have hcw := hh.wc
  have hcm := hh.wm
  have hgc := hh.gc
  have hgm := hh.gm
  have hfc := hh.fc
  have hfm := hh.fm
  unfold maxLen at hcm hgm hfm
  obtain ⟨aw, ag, af, cw, cg, cf⟩ := s
  simp only at hcw hcm hgc hgm hfc hfm
  have hcf := cf_some hb hs
  obtain ⟨hc, ht, hft, hle, hp1, hp2⟩ := proved_some hb hs
  have ho := histB_ok hb
  have hll := leaks_out (h := h) (x := 0) (y := 1000000000000) (by rw [hle]; decide)
  have hw2 := ho.w2
  have hg2 := ho.g2
  have d1 : decide (((f : Nat) : Int) < 0) = false := by simp
  have d2 : decide (((t : Nat) : Int) < (f : Int)) = false := by simp; omega
  have d3 : decide ((h.gauges.length : Int) ≤ (t : Int)) = false := by simp; omega
  have d4 : decide (((c : Nat) : Int) < 0) = false := by simp
  have d5 : decide ((h.warm.length : Int) ≤ (c : Int)) = false := by simp; omega
  have d2' : decide (t < f) = false := by simp; omega
  have d3' : decide (h.gauges.length ≤ t) = false := by simp; omega
  have d5' : decide (h.warm.length ≤ c) = false := by simp; omega
  obtain ⟨hA, hB2, hlt3⟩ := hp2 hne
  obtain ⟨a1, a2, a3⟩ := al_small ho (g := f) (c := c) (by omega) hc
  have a4 := al_bd ho (g := t) (c := c) ht hc
  obtain ⟨AL, hAL⟩ : ∃ n, alLo h f c = n := ⟨_, rfl⟩
  obtain ⟨AH, hAH⟩ : ∃ n, alHi h f c = n := ⟨_, rfl⟩
  obtain ⟨BL, hBL⟩ : ∃ n, alLo h t c = n := ⟨_, rfl⟩
  obtain ⟨BH, hBH⟩ : ∃ n, alHi h t c = n := ⟨_, rfl⟩
  have KG := Lib.hid (show ∀ W, Kept w W → Calls Try.prog 55 #[.agg #[.slice aw h.warm.length cw, .slice ag h.gauges.length cg, .slice af h.flows.length cf]] W fun e w' => e = .returned (.bool false) ∧ Kept W w' from fun W hW => by rw [← hg]; exact r_GreatH h ⟨aw, ag, af, cw, cg, cf⟩ W (hh.later hW))
  have KH := Lib.hid (show ∀ W, Kept w W → Calls Try.prog 64 #[.agg #[.slice aw h.warm.length cw, .slice ag h.gauges.length cg, .slice af h.flows.length cf]] W fun e w' => e = .returned (.int .i64 0) ∧ Kept W w' from fun W hW => by rw [← (show histE h = 0 by unfold histE; rw [hb]; rfl)]; exact f_CheckHistory h ⟨aw, ag, af, cw, cg, cf⟩ W (hh.later hW))
  have KC := Lib.hid (show ∀ W, Kept w W → Calls Try.prog 62 #[.agg #[.slice aw h.warm.length cw, .slice ag h.gauges.length cg, .slice af h.flows.length cf]] W fun e w' => e = .returned (.tuple #[.agg #[.int .i64 c, .int .i64 f, .int .i64 t], .int .i64 0]) ∧ Kept W w' from fun W hW => by have := f_Conflict h ⟨aw, ag, af, cw, cg, cf⟩ W (hh.later hW); rw [hcf.1, hcf.2.1, hcf.2.2.1, hcf.2.2.2] at this; exact this)
  have KL := Lib.hid (show ∀ W, Kept w W → Calls Try.prog 58 #[.agg #[.slice aw h.warm.length cw, .slice ag h.gauges.length cg, .slice af h.flows.length cf], .agg #[.int .i64 0, .int .i64 1000000000000]] W fun e w' => ∃ v, e = .returned (.tuple #[v, .int .i64 6]) ∧ w'.ownsRow W.heap.size 23 2 (v) ([] : List Sp).length (([] : List Sp).flatMap Sp.cells) ∧ Kept W w' from fun W hW => by have := f_Leaks h ⟨aw, ag, af, cw, cg, cf⟩ 0 1000000000000 W (hh.later hW); rw [hle, hll] at this; exact this)
  have KA := Lib.hid (show ∀ W, Kept w W → Calls Try.prog 56 #[.agg #[.slice aw h.warm.length cw, .slice ag h.gauges.length cg, .slice af h.flows.length cf], .int .i64 f, .int .i64 c] W fun e w' => e = .returned (.tuple #[.agg #[.int .i64 AL, .int .i64 AH], .int .i64 0]) ∧ Kept W w' from fun W hW => by have := f_Amounts h ⟨aw, ag, af, cw, cg, cf⟩ W (hh.later hW) (f : Int) (c : Int); simp only [hA, hAL, hAH, Bal.Gas.ifOk, Int.toNat_natCast, if_true, reduceIte] at this; exact this)
  have KB := Lib.hid (show ∀ W, Kept w W → Calls Try.prog 56 #[.agg #[.slice aw h.warm.length cw, .slice ag h.gauges.length cg, .slice af h.flows.length cf], .int .i64 t, .int .i64 c] W fun e w' => e = .returned (.tuple #[.agg #[.int .i64 BL, .int .i64 BH], .int .i64 0]) ∧ Kept W w' from fun W hW => by have := f_Amounts h ⟨aw, ag, af, cw, cg, cf⟩ W (hh.later hW) (t : Int) (c : Int); simp only [hB2, hBL, hBH, Bal.Gas.ifOk, Int.toNat_natCast, if_true, reduceIte] at this; exact this)
  rw [hAH] at a2 a3 hlt3
  rw [hBL] at hlt3
  have e1 : ((f : Int) == (t : Int)) = false := by simp; omega
  have hp : f < h.gauges.length := by omega
  have R2 := Lib.hid (show ∀ W, Kept w W → Row Gauge.cells 6 W.heap.size W ag h.gauges from fun W hW => (hh.later hW).gauges)
  have R3 := Lib.hid (show ∀ W, Kept w W → Row Flow.cells 3 W.heap.size W af h.flows from fun W hW => (hh.later hW).flows)
  obtain ⟨A, hA_⟩ : ∃ n, n = tt h f := ⟨_, rfl⟩
  obtain ⟨B, hB_⟩ : ∃ n, n = tt h t := ⟨_, rfl⟩
  have HBD := Lib.hid (fun k => come_bd ho c A B k)
  have hfl2 := ho.f2
  have HFLO := Lib.hid ho.flow
  rw [← hA_, ← hB_, come_all] at hlt3
  have HLT3 := Lib.hid hlt3
  have HA := Lib.hid hA_
  have HB := Lib.hid hB_
  clear hg hb hs hcf hle hll hp1 hp2 hA hB2 ho hft hne hA_ hB_ a1 a4 hlt3 hAL hAH hBL hBH
  go_enter Try.func16, Try.ntmps16
  go_upto_region 22 with (first | (go_at_call 68; (with_reducible refine (o_alive _).mono ?_); rintro e w0 ⟨rfl, hb0⟩; refine Blk.thru (b := w.heap.size) (arr := ?_) (t := ?_) ?_ hb0 ?_; rotate_left 2; (focus (exact blk)); intro qa0; have qa0c0 := qa0.cell 0; have qa0f0 := qa0.free 0; have qa0c1 := qa0.cell 1; have qa0f1 := qa0.free 1; have qa0c2 := qa0.cell 2; have qa0f2 := qa0.free 2; have qa0l := qa0.lt; simp at qa0c0 qa0c1 qa0c2) | (go_at_call 55; (with_reducible refine (KG.out _ (by exact kpt)).mono ?_); rintro e w1 ⟨rfl, hb1⟩; refine Blk.thru (b := w.heap.size) (arr := ?_) (t := ?_) ?_ hb1 ?_; rotate_left 2; (focus (exact blk)); intro qa1; have qa1c0 := qa1.cell 0; have qa1f0 := qa1.free 0; have qa1c1 := qa1.cell 1; have qa1f1 := qa1.free 1; have qa1c2 := qa1.cell 2; have qa1f2 := qa1.free 2; have qa1l := qa1.lt; simp at qa1c0 qa1c1 qa1c2) | (go_at_call 64; (with_reducible refine (KH.out _ (by exact kpt)).mono ?_); rintro e w2 ⟨rfl, hb2⟩; refine Blk.thru (b := w.heap.size) (arr := ?_) (t := ?_) ?_ hb2 ?_; rotate_left 2; (focus (exact blk)); intro qa2; have qa2c0 := qa2.cell 0; have qa2f0 := qa2.free 0; have qa2c1 := qa2.cell 1; have qa2f1 := qa2.free 1; have qa2c2 := qa2.cell 2; have qa2f2 := qa2.free 2; have qa2l := qa2.lt; simp at qa2c0 qa2c1 qa2c2) | (go_at_call 62; (with_reducible refine (KC.out _ (by exact kpt)).mono ?_); rintro e wC ⟨rfl, hbC⟩; refine Blk.thru (b := w.heap.size) (arr := ?_) (t := ?_) ?_ hbC ?_; rotate_left 2; (focus (exact blk)); intro qa3; have qa3c0 := qa3.cell 0; have qa3f0 := qa3.free 0; have qa3c1 := qa3.cell 1; have qa3f1 := qa3.free 1; have qa3c2 := qa3.cell 2; have qa3f2 := qa3.free 2; have qa3l := qa3.lt; simp at qa3c0 qa3c1 qa3c2) | (go_at_call 58; (with_reducible refine (KL.out _ (by exact kpt)).mono ?_); rintro e wL ⟨vL, rfl, hoL, hbL⟩; obtain ⟨adL, cpL, rfl, hrL, hcL, hmL⟩ := owns_row (enc := Sp.cells) (k := 2) (fun _ => rfl) hoL; clear hoL; refine Blk.thru (b := w.heap.size) (arr := ?_) (t := ?_) ?_ hbL ?_; rotate_left 2; (focus (exact blk)); intro qa4; have qa4c0 := qa4.cell 0; have qa4f0 := qa4.free 0; have qa4c1 := qa4.cell 1; have qa4f1 := qa4.free 1; have qa4c2 := qa4.cell 2; have qa4f2 := qa4.free 2; have qa4l := qa4.lt; simp at qa4c0 qa4c1 qa4c2; refine Blk.thru (b := wC.heap.size) (arr := ?_) (t := ?_) ?_ hbL ?_; rotate_left 2; (focus (exact blk)); intro qc4; have qc4c0 := qc4.cell 0; have qc4f0 := qc4.free 0; have qc4c1 := qc4.cell 1; have qc4f1 := qc4.free 1; have qc4c2 := qc4.cell 2; have qc4f2 := qc4.free 2; have qc4l := qc4.lt; simp at qc4c0 qc4c1 qc4c2) | (go_at_call 56; (with_reducible refine (KA.out _ (by exact kpt)).mono ?_); rintro e wA ⟨rfl, hbA⟩; refine Blk.thru (b := w.heap.size) (arr := ?_) (t := ?_) ?_ hbA ?_; rotate_left 2; (focus (exact blk)); intro qa5; have qa5c0 := qa5.cell 0; have qa5f0 := qa5.free 0; have qa5c1 := qa5.cell 1; have qa5f1 := qa5.free 1; have qa5c2 := qa5.cell 2; have qa5f2 := qa5.free 2; have qa5l := qa5.lt; simp at qa5c0 qa5c1 qa5c2; refine Blk.thru (b := wC.heap.size) (arr := ?_) (t := ?_) ?_ hbA ?_; rotate_left 2; (focus (exact blk)); intro qc5; have qc5c0 := qc5.cell 0; have qc5f0 := qc5.free 0; have qc5c1 := qc5.cell 1; have qc5f1 := qc5.free 1; have qc5c2 := qc5.cell 2; have qc5f2 := qc5.free 2; have qc5l := qc5.lt; simp at qc5c0 qc5c1 qc5c2) | (go_at_call 56; (with_reducible refine (KB.out _ (by exact kpt)).mono ?_); rintro e wB ⟨rfl, hbB⟩; refine Blk.thru (b := w.heap.size) (arr := ?_) (t := ?_) ?_ hbB ?_; rotate_left 2; (focus (exact blk)); intro qa6; have qa6c0 := qa6.cell 0; have qa6f0 := qa6.free 0; have qa6c1 := qa6.cell 1; have qa6f1 := qa6.free 1; have qa6c2 := qa6.cell 2; have qa6f2 := qa6.free 2; have qa6l := qa6.lt; simp at qa6c0 qa6c1 qa6c2; refine Blk.thru (b := wC.heap.size) (arr := ?_) (t := ?_) ?_ hbB ?_; rotate_left 2; (focus (exact blk)); intro qc6; have qc6c0 := qc6.cell 0; have qc6f0 := qc6.free 0; have qc6c1 := qc6.cell 1; have qc6f1 := qc6.free 1; have qc6c2 := qc6.cell 2; have qc6f2 := qc6.free 2; have qc6l := qc6.lt; simp at qc6c0 qc6c1 qc6c2; refine Blk.thru (b := wA.heap.size) (arr := ?_) (t := ?_) ?_ hbB ?_; rotate_left 2; (focus (exact blk)); intro qd6; have qd6c0 := qd6.cell 0; have qd6f0 := qd6.free 0; have qd6c1 := qd6.cell 1; have qd6f1 := qd6.free 1; have qd6l := qd6.lt; simp at qd6c0 qd6c1))
  refine at_world (S := fun X => Blk X w.heap.size #[.slice aw h.warm.length cw, .slice ag h.gauges.length cg, .slice af h.flows.length cf] 85 ∧ Blk X wC.heap.size #[.int .i64 c, .int .i64 f, .int .i64 t] 99 ∧ Blk X wA.heap.size #[.int .i64 AL, .int .i64 AH] 23 ∧ Blk X wB.heap.size #[.int .i64 BL, .int .i64 BH] 23 ∧ Kept w X) ⟨by exact blkd, by exact blkd, by exact blkd, by exact blkd, by exact kpt⟩ ?_
  rintro X ⟨q0, q4, q5, q6, hk⟩
  generalize wC.heap.size = s4 at q4 ⊢
  generalize wA.heap.size = s5 at q5 ⊢
  generalize wB.heap.size = s6 at q6 ⊢
  have q0c0 := q0.cell 0
  have q0f0 := q0.free 0
  have q0c1 := q0.cell 1
  have q0f1 := q0.free 1
  have q0c2 := q0.cell 2
  have q0f2 := q0.free 2
  have q0l := q0.lt
  simp at q0c0 q0c1 q0c2
  go_wp2
  clear q0c0 q0f0 q0c1 q0f1 q0c2 q0f2 q0l
  go_loopw [14, 157] (fun v i wr => ∃ k : Nat, k ≤ h.flows.length ∧ i = .int .i64 k ∧ v = .int .i64 (sumBy (flowN c A B) (h.flows.take k)) ∧ Blk wr w.heap.size #[.slice aw h.warm.length cw, .slice ag h.gauges.length cg, .slice af h.flows.length cf] 85 ∧ Blk wr s4 #[.int .i64 c, .int .i64 f, .int .i64 t] 99 ∧ Blk wr s5 #[.int .i64 AL, .int .i64 AH] 23 ∧ Blk wr s6 #[.int .i64 BL, .int .i64 BH] 23 ∧ Kept w wr) (fun _ i _ => h.flows.length - (intOf i).toNat)
  case atStart => exact ⟨0, Nat.zero_le _, rfl, rfl, q0, q4, q5, q6, hk⟩
  case round =>
    clear q0 q4 q5 q6 hk
    obtain ⟨k, hk, rfl, rfl, q0, q4, q5, q6, hkk⟩ := hrel
    obtain ⟨s1, s2⟩ := HBD.out k
    have q0c0 := q0.cell 0
    have q0f0 := q0.free 0
    have q0c1 := q0.cell 1
    have q0f1 := q0.free 1
    have q0c2 := q0.cell 2
    have q0f2 := q0.free 2
    have q0l := q0.lt
    simp at q0c0 q0c1 q0c2
    by_cases hlt : k < h.flows.length
    · obtain ⟨b1, o1, rfl, hb1, c0, c1, c2⟩ := Flow.row (R3.out _ hkk) k hlt
      obtain ⟨x, hx⟩ : ∃ x, x = h.flows[k] := ⟨_, rfl⟩
      have hxb := HFLO.out x (by rw [hx]; exact List.getElem_mem hlt)
      obtain ⟨⟨x1, x2⟩, ⟨x3, x4⟩, x5, x6⟩ := hxb
      rw [← hx] at c0 c1 c2
      have HX := Lib.hid hx
      clear hx
      go_upto_region 26 with fail
      clear c0 c1 c2
      refine at_world (S := fun V => Blk V w.heap.size #[.slice aw h.warm.length cw, .slice ag h.gauges.length cg, .slice (some ⟨b1, o1, none⟩) h.flows.length cf] 85 ∧ Blk V s4 #[.int .i64 c, .int .i64 f, .int .i64 t] 99 ∧ Blk V s5 #[.int .i64 AL, .int .i64 AH] 23 ∧ Blk V s6 #[.int .i64 BL, .int .i64 BH] 23 ∧ Blk V wr.heap.size #[.int .i64 x.time, .int .i64 x.cell, .int .i64 x.n] 128 ∧ Kept w V) ⟨by exact blkd, by exact blkd, by exact blkd, by exact blkd, by exact blkd, by exact kpt⟩ ?_
      clear q0 q4 q5 q6 hkk q0c0 q0f0 q0c1 q0f1 q0c2 q0f2 q0l
      rintro V ⟨q0, q4, q5, q6, qx, hkV⟩
      obtain ⟨bg, og, hag, hbg, g0, _⟩ := Gauge.row (R2.out _ hkV) f hp
      obtain ⟨bt, ot, hat, hbt, e0, _⟩ := Gauge.row (R2.out _ hkV) t ht
      obtain ⟨rfl, rfl⟩ : bg = bt ∧ og = ot := by rw [hag] at hat; simpa using hat
      rw [gAt_get hp, show (gAt h f).time = A from HA.out.symm] at g0
      rw [gAt_get ht, show (gAt h t).time = B from HB.out.symm] at e0
      have y0 := fun g_ : Later V => g_.some g0
      have y1 := fun g_ : Later V => g_.some e0
      have q0c0 := fun g : Later V => (q0.later g).cell 0
      have q0f0 := fun g : Later V => (q0.later g).free 0
      have q0c1 := fun g : Later V => (q0.later g).cell 1
      have q0f1 := fun g : Later V => (q0.later g).free 1
      have q0c2 := fun g : Later V => (q0.later g).cell 2
      have q0f2 := fun g : Later V => (q0.later g).free 2
      have q0l := fun g : Later V => (q0.later g).lt
      simp at q0c0 q0c1 q0c2
      have q4c0 := fun g : Later V => (q4.later g).cell 0
      have q4f0 := fun g : Later V => (q4.later g).free 0
      have q4c1 := fun g : Later V => (q4.later g).cell 1
      have q4f1 := fun g : Later V => (q4.later g).free 1
      have q4c2 := fun g : Later V => (q4.later g).cell 2
      have q4f2 := fun g : Later V => (q4.later g).free 2
      have q4l := fun g : Later V => (q4.later g).lt
      simp at q4c0 q4c1 q4c2
      have qxc0 := fun g : Later V => (qx.later g).cell 0
      have qxf0 := fun g : Later V => (qx.later g).free 0
      have qxc1 := fun g : Later V => (qx.later g).cell 1
      have qxf1 := fun g : Later V => (qx.later g).free 1
      have qxc2 := fun g : Later V => (qx.later g).cell 2
      have qxf2 := fun g : Later V => (qx.later g).free 2
      have qxl := fun g : Later V => (qx.later g).lt
      simp at qxc0 qxc1 qxc2
      rw [hag] at q0c1
      clear hag hat g0 e0
      by_cases k1 : x.cell = (c : Int)
      · have e1 : (x.cell == (c : Int)) = true := by simp [k1]
        have e2 : decide (x.cell = (c : Int)) = true := by simp [k1]
        by_cases k2 : A < x.time
        · have e3 : decide (A < x.time) = true := by simp [k2]
          by_cases k3 : x.time ≤ B
          · have e4 : decide (x.time ≤ B) = true := by simp [k3]
            have HFN := Lib.hid (show flowN c A B x = x.n by simp [flowN, flowIn, k1, k2, k3])
            clear k1 k2 k3
            refine Later.region (by kernel_rfl) (by kernel_rfl) ?_
            repeat (first | go_big_quiet_skip | (go_big_quiet_want; go_big_quiet_op; first | go_big_quiet_on | (apply Exists.intro; refine ⟨fun g_ => ?_, ?_⟩; (focus (first | fail)); go_big_quiet_on)))
            refine wpQuiet_nil ?_
            intro gg
            have n0 := q0.later gg
            have n4 := q4.later gg
            have n5 := q5.later gg
            have n6 := q6.later gg
            have nx := qx.later gg
            have hkg := Kept.drop hkV gg.ok
            have nxc0 := nx.cell 0
            have nxf0 := nx.free 0
            have nxc1 := nx.cell 1
            have nxf1 := nx.free 1
            have nxc2 := nx.cell 2
            have nxf2 := nx.free 2
            have nxl := nx.lt
            simp at nxc0 nxc1 nxc2
            go_wp2
            go_round
            case rel => exact ⟨k + 1, by omega, by go_num, by rw [sumBy_take _ _ _ hlt, ← HX.out, HFN.out], n0, n4, n5, n6, hkg⟩
            case measure => simp [intOf]; omega
          · have e4 : decide (x.time ≤ B) = false := by simp; omega
            have HFN := Lib.hid (show flowN c A B x = 0 by simp [flowN, flowIn, k1, k2, k3])
            clear k1 k2 k3
            refine Later.region (by kernel_rfl) (by kernel_rfl) ?_
            repeat (first | go_big_quiet_skip | (go_big_quiet_want; go_big_quiet_op; first | go_big_quiet_on | (apply Exists.intro; refine ⟨fun g_ => ?_, ?_⟩; (focus (first | fail)); go_big_quiet_on)))
            refine wpQuiet_nil ?_
            intro gg
            have n0 := q0.later gg
            have n4 := q4.later gg
            have n5 := q5.later gg
            have n6 := q6.later gg
            have nx := qx.later gg
            have hkg := Kept.drop hkV gg.ok
            have nxc0 := nx.cell 0
            have nxf0 := nx.free 0
            have nxc1 := nx.cell 1
            have nxf1 := nx.free 1
            have nxc2 := nx.cell 2
            have nxf2 := nx.free 2
            have nxl := nx.lt
            simp at nxc0 nxc1 nxc2
            go_wp2
            go_round
            case rel => exact ⟨k + 1, by omega, by go_num, by rw [sumBy_take _ _ _ hlt, ← HX.out, HFN.out, Int.add_zero], n0, n4, n5, n6, hkg⟩
            case measure => simp [intOf]; omega
        · have e3 : decide (A < x.time) = false := by simp; omega
          have HFN := Lib.hid (show flowN c A B x = 0 by simp [flowN, flowIn, k1, k2])
          clear k1 k2
          refine Later.region (by kernel_rfl) (by kernel_rfl) ?_
          repeat (first | go_big_quiet_skip | (go_big_quiet_want; go_big_quiet_op; first | go_big_quiet_on | (apply Exists.intro; refine ⟨fun g_ => ?_, ?_⟩; (focus (first | fail)); go_big_quiet_on)))
          refine wpQuiet_nil ?_
          intro gg
          have n0 := q0.later gg
          have n4 := q4.later gg
          have n5 := q5.later gg
          have n6 := q6.later gg
          have nx := qx.later gg
          have hkg := Kept.drop hkV gg.ok
          have nxc0 := nx.cell 0
          have nxf0 := nx.free 0
          have nxc1 := nx.cell 1
          have nxf1 := nx.free 1
          have nxc2 := nx.cell 2
          have nxf2 := nx.free 2
          have nxl := nx.lt
          simp at nxc0 nxc1 nxc2
          go_wp2
          go_round
          case rel => exact ⟨k + 1, by omega, by go_num, by rw [sumBy_take _ _ _ hlt, ← HX.out, HFN.out, Int.add_zero], n0, n4, n5, n6, hkg⟩
          case measure => simp [intOf]; omega
      · have e1 : (x.cell == (c : Int)) = false := by simp [k1]
        have e2 : decide (x.cell = (c : Int)) = false := by simp [k1]
        have HFN := Lib.hid (show flowN c A B x = 0 by simp [flowN, flowIn, k1])
        clear k1
        refine Later.region (by kernel_rfl) (by kernel_rfl) ?_
        repeat (first | go_big_quiet_skip | (go_big_quiet_want; go_big_quiet_op; first | go_big_quiet_on | (apply Exists.intro; refine ⟨fun g_ => ?_, ?_⟩; (focus (first | fail)); go_big_quiet_on)))
        refine wpQuiet_nil ?_
        intro gg
        have n0 := q0.later gg
        have n4 := q4.later gg
        have n5 := q5.later gg
        have n6 := q6.later gg
        have nx := qx.later gg
        have hkg := Kept.drop hkV gg.ok
        have nxc0 := nx.cell 0
        have nxf0 := nx.free 0
        have nxc1 := nx.cell 1
        have nxf1 := nx.free 1
        have nxc2 := nx.cell 2
        have nxf2 := nx.free 2
        have nxl := nx.lt
        simp at nxc0 nxc1 nxc2
        go_wp2
        go_round
        case rel => exact ⟨k + 1, by omega, by go_num, by rw [sumBy_take _ _ _ hlt, ← HX.out, HFN.out, Int.add_zero], n0, n4, n5, n6, hkg⟩
        case measure => simp [intOf]; omega
    · obtain rfl : k = h.flows.length := by omega
      have q5c0 := q5.cell 0
      have q5f0 := q5.free 0
      have q5c1 := q5.cell 1
      have q5f1 := q5.free 1
      have q5l := q5.lt
      simp at q5c0 q5c1
      have q6c0 := q6.cell 0
      have q6f0 := q6.free 0
      have q6c1 := q6.cell 1
      have q6f1 := q6.free 1
      have q6l := q6.lt
      simp at q6c0 q6c1
      obtain ⟨S, hS⟩ : ∃ n, n = sumBy (flowN c A B) (h.flows.take h.flows.length) := ⟨_, rfl⟩
      have h3 := HLT3.out
      rw [← hS] at h3 s1 s2 ⊢
      clear hS
      have w1 := i64_inH (n := AH + S) (by omega)
      have e4 : decide (AH + S < BL) = true := by simp [h3]
      go_wp2
      go_ret
      exact ⟨rfl, by exact kpt⟩

theorem law_GasProved (h : Hist) (s : Bal.Gas.Spot) (w : World) (hh : HistAt h s w) : Calls Try.prog 16 #[.agg #[.slice s.aw h.warm.length s.cw, .slice s.ag h.gauges.length s.cg, .slice s.af h.flows.length s.cf]] w fun e w' => e = .returned (.bool true) ∧ Kept w w' := by
  cases hg : greatH h
  · cases hb : histB h
    · exact law_GasProved_bad h s w hh hg hb
    · by_cases he : confE h = 0
      · cases hc : conf h with
        | none => exact law_GasProved_none h s w hh hg hb (by rw [(cf_none hb hc).2.2.2]; decide)
        | some x =>
          obtain ⟨c, f, t⟩ := x
          by_cases e : f = t
          · exact law_GasProved_one h s w hh hg hb c f t hc e
          · exact law_GasProved_two h s w hh hg hb c f t hc e
      · exact law_GasProved_none h s w hh hg hb he
  · exact law_GasProved_great h s w hh hg

end Go.Proofs.Ytemafanncejeiaa

/-
  GasProved, the statement: for every input the call returns true and leaves the input alone.
-/
namespace Go.Proofs.Ytemafanncejeiaa.gasProved
open Go.ChangeShapes Go.WideShapes Go.ChangeAt Go.RowKit Bal Bal.Trim Bal.Gas
open Go.ChangeMaps (open_string shut_string)
set_option linter.unusedVariables false

theorem own : ownKnob Try.prog.godebug = none := by kernel_rfl
theorem laidOut : laidOutB Try.prog = true := by kernel_rfl

set_option maxRecDepth 100000 in
theorem lifted (os : Os) (started : os.Started) (H : Type) (enc : TypeId × Value → H) :
    ReturnsInHanded {} Try.checked os 16 .any (Rows.gasProvedSpec.pre6 enc Try.prog Try.f16 Rows.gasProvedRow.domain false) (Rows.gasProvedSpec.post enc Try.prog Try.f16 false true false false) := by
  refine returnsInHanded_of_change (C := Try.checked) own started (by kernel_rfl) Try.func16
    (ChangeSpec.witness6 (enc := enc) (C := Try.checked) false ⟨#[], #[.agg #[.slice none 0 0, .slice none 0 0, .slice none 0 0]], []⟩ 8 (by kernel_rfl) (by kernel_rfl) (by kernel_rfl) (by kernel_rfl)) ?_
  intro W base args ds gs before hval0 hW hcnd _
  have hval : ∀ (j : Nat) t v, Try.f16.params[j]? = some t → args[j]? = some v → Value.okWide Try.prog W .any base t v := hval0
  have hW' := hW
  obtain ⟨p, q, hA0, hV, rfl, hfz, hnd⟩ := hW
  have hA : DataW.TrodAll enc Try.prog W 0 (fun _ => true) true Try.f16.params.toList args.toList ds p := hA0
  rw [Try.params16] at hA hval
  obtain ⟨v0, vs0, d0, ds0, p0, q0, hargs, rfl, rfl, h0, r0⟩ := trodAll_cons hA
  obtain ⟨rfl, rfl, rfl⟩ := trodAll_nil r0
  obtain rfl : args = #[v0] := by cases args; simp_all
  obtain ⟨rfl, rfl⟩ := trodVars_none hV
  have k0 := h0
  have lt0 : ∀ x ∈ p0, x.block < W.heap.size := by obtain ⟨m, hm⟩ := k0; exact DataW.trod_lt m _ _ _ hm
  obtain ⟨hs0, sp0, rfl, ha0⟩ := open_history (hval 0 85 v0 rfl rfl) h0
  clear hA0 hval0
  refine (law_GasProved hs0 sp0 W ha0).mono fun e W' ⟨he, bel⟩ => ?_
  subst he
  exact ⟨_, rfl, _, _, _, [], _, [], hW', trodAll_mk1 (shut_bool Try.underlying4 _), (trodAll_cons_mk (Below.trod laidOut (by kernel_rfl) (of_decide_eq_true (by kernel_rfl)) k0 bel lt0) trodAll_mk0), rfl, bel.frame _, fun h => by cases h⟩

theorem joined : joinedFacts Try.prog 16 Try.f16 Rows.gasProvedSpec Rows.gasProvedRow = true := by
  unfold joinedFacts
  rw [mayEnter_is, liftsFinal_is, make_is]
  kernel_rfl
theorem over : Rows.gasProvedRow.holds Try.pinned (OpenSpec.ofChange Rows.gasProvedSpec) :=
  OpenClaim.holds_of_wide 16 Try.f16 rfl rfl rfl rfl rfl rfl rfl ⟨rfl, rfl, rfl, rfl, rfl⟩ rfl rfl rfl rfl rfl (by kernel_rfl) Try.func16 joined
    (of_decide_eq_true (by kernel_rfl)) (by unfold Func.isWrapper; first | (rw [if_pos (by decide +kernel)]; kernel_rfl) | (rw [if_neg (by decide +kernel)]; exact ⟨rfl, rfl⟩))
    (fun os started H enc _ => lifted os started H enc)
end Go.Proofs.Ytemafanncejeiaa.gasProved

namespace Go.Proofs.Ytemafanncejeiaa
theorem gasProved_holds : Rows.GasProvedSaid := gasProved.over
#print axioms gasProved_holds
end Go.Proofs.Ytemafanncejeiaa
