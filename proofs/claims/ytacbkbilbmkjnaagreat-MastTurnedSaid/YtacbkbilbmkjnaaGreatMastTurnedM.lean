/-
  MastTurned, the statement: for every input the call returns true and leaves the input alone.
-/
import Derived.Test.YtacbkbilbmkjnaaGreatMastBaseZM
import Derived.Deep.DeepCutAuto
import Derived.Test.YtacbkbilbmkjnaaGreatRows
set_option linter.unusedVariables false
set_option linter.unusedSimpArgs false
namespace Bal.Mast
open Bal.Trim
set_option linter.unusedVariables false
theorem getD_at {α : Type} {l : List α} {i : Nat} {d : α} (h : i < l.length) : l.getD i d = l[i] := by
  rw [List.getD_eq_getElem?_getD, List.getElem?_eq_getElem h]; rfl
/-! ### Winds -/
/-! ### Turned sheds -/
theorem turn_cases {l : List Axis} {p : Int} {v : Wind} {m : Int} : (turnE l p v m = 0 ∧ turnOk l p v m = 0 ∧ ∃ s, s < l.length ∧ turnN l p v m = (s : Int) ∧ turnI l p v m = (turnTo v m l p.toNat s : Int) ∧ turnAt v m l p.toNat s = true ∧ ∀ j, j < s → turnAt v m l p.toNat j = false) ∨
    (turnE l p v m = 6 ∧ turnOk l p v m = 0 ∧ turnN l p v m = 0 ∧ turnI l p v m = 0 ∧ ∀ j, j < l.length → turnAt v m l p.toNat j = false) ∨
    ((turnE l p v m ≠ 0 ∧ turnE l p v m ≠ 6) ∧ turnN l p v m = 0 ∧ turnI l p v m = 0) := by
  by_cases h : turnOk l p v m = 0
  · unfold turnE turnN turnI
    rw [if_pos h, if_pos h, if_pos h]
    cases hs : turnS v m l p.toNat with
    | some s =>
      left
      unfold turnS firstOf at hs
      rw [List.find?_range_eq_some] at hs
      obtain ⟨h1, h2, h3⟩ := hs
      exact ⟨rfl, h, s, by simpa using h2, rfl, rfl, h1, fun j hj => by simpa using h3 j hj⟩
    | none =>
      right; left
      unfold turnS firstOf at hs
      rw [List.find?_range_eq_none] at hs
      exact ⟨rfl, h, rfl, rfl, fun j hj => by simpa using hs j hj⟩
  · right; right
    unfold turnE turnN turnI
    rw [if_neg h, if_neg h, if_neg h]
    refine ⟨⟨h, ?_⟩, rfl, rfl⟩
    unfold turnOk
    split
    · split
      · split <;> omega
      · omega
    · omega
theorem turnOk_parts {l : List Axis} {p : Int} {v : Wind} {m : Int} (h : turnOk l p v m = 0) : turnable l = true ∧ windB v = true ∧ (0 ≤ p ∧ p ≤ l.length - 1) ∧ 0 ≤ m ∧ m ≤ 2000 := by
  unfold turnOk at h
  cases h1 : turnable l
  · rw [h1] at h; simp at h
  · cases h2 : windB v
    · rw [h1, h2] at h; simp at h
    · cases h3 : inB p 0 (l.length - 1) && inB m 0 2000
      · rw [h1, h2, h3] at h; simp at h
      · simp only [Bool.and_eq_true, inB_iff] at h3
        exact ⟨rfl, rfl, h3.1, h3.2⟩
theorem calmAt_is {l : List Axis} {p : Int} {v : Wind} {m : Int} (h : turnOk l p v m = 0) {i : Nat} (hi : i < l.length) : calmE v l[i] m = 0 ∧ calmB v l[i] m = calmAt v m l i := by
  obtain ⟨h1, h2, h3, h4⟩ := turnOk_parts h
  have ha := (turnable_parts h1).2.2 _ (List.getElem_mem hi)
  have he : calmE v l[i] m = 0 := by unfold calmE; rw [h2, ha, inB_iff.2 h4]; rfl
  refine ⟨he, ?_⟩
  unfold calmB calmAt
  rw [if_pos he, getD_at hi]
/-! ### Manned lines -/
end Bal.Mast

/-
  MastTurned: the nearest calm axis: the walk.
-/
namespace Go.Proofs.YtacbkbilbmkjnaaGreat
open Go.RowKit Bal Bal.Trim Bal.Mast
set_option linter.unusedVariables false
set_option linter.unusedSimpArgs false
set_option maxHeartbeats 4000000
set_option maxRecDepth 100000

theorem law_MastTurned_great (a : Option Addr) (c : Nat) (xs : List Axis) (pe mo : Int) (b : Option Addr) (d : Nat) (ys : List Span) (cr : Int) (p : Int) (v : Wind) (m : Int) (w : World) (hx : Row Axis.cells 2 w.heap.size w a xs) (hc : xs.length ≤ c) (hM : c ≤ maxLen) (hy : Row Span.cells 2 w.heap.size w b ys) (hd : ys.length ≤ d) (hN : d ≤ maxLen) (hg : (decide (40 < xs.length) || decide (20 < ys.length)) = true) : Calls Tryz.prog 9 #[.agg #[.slice a xs.length c, .int .i64 pe, .int .i64 mo, .slice b ys.length d, .int .i64 cr], .int .i64 p, .agg #[.int .i64 v.xlo, .int .i64 v.xhi, .int .i64 v.ylo, .int .i64 v.yhi], .int .i64 m] w fun z w' => z = .returned (.bool true) ∧ Kept w w' := by
  have HG := Lib.hid hg
  clear hg
  go_enter Tryz.func9, Tryz.ntmps9
  go_wp2_with (first | (go_at_call 11; (with_reducible refine (o_alive _).mono ?_); rintro z wA ⟨rfl, hbA⟩; refine Blk.thru (b := w.heap.size) (arr := ?_) (t := ?_) ?_ hbA ?_; rotate_left 2; (focus (exact blk)); intro r0; have r0c0 := r0.cell 0; have r0f0 := r0.free 0; have r0c1 := r0.cell 1; have r0f1 := r0.free 1; have r0c2 := r0.cell 2; have r0f2 := r0.free 2; have r0c3 := r0.cell 3; have r0f3 := r0.free 3; have r0c4 := r0.cell 4; have r0f4 := r0.free 4; have r0l := r0.lt; simp at r0c0 r0c1 r0c2 r0c3 r0c4; refine Blk.thru (b := w.heap.size + 1) (arr := ?_) (t := ?_) ?_ hbA ?_; rotate_left 2; (focus (exact blk)); intro r1; have r1c0 := r1.cell 0; have r1f0 := r1.free 0; have r1c1 := r1.cell 1; have r1f1 := r1.free 1; have r1c2 := r1.cell 2; have r1f2 := r1.free 2; have r1c3 := r1.cell 3; have r1f3 := r1.free 3; have r1l := r1.lt; simp at r1c0 r1c1 r1c2 r1c3) | (go_at_call 12; (with_reducible refine (r_Great a c xs pe mo b d ys cr _ hM hN hc hd).mono ?_); rw [HG.out]; rintro z wG ⟨rfl, hbG⟩; refine Blk.thru (b := w.heap.size) (arr := ?_) (t := ?_) ?_ hbG ?_; rotate_left 2; (focus (exact blk)); intro r0; have r0c0 := r0.cell 0; have r0f0 := r0.free 0; have r0c1 := r0.cell 1; have r0f1 := r0.free 1; have r0c2 := r0.cell 2; have r0f2 := r0.free 2; have r0c3 := r0.cell 3; have r0f3 := r0.free 3; have r0c4 := r0.cell 4; have r0f4 := r0.free 4; have r0l := r0.lt; simp at r0c0 r0c1 r0c2 r0c3 r0c4; refine Blk.thru (b := w.heap.size + 1) (arr := ?_) (t := ?_) ?_ hbG ?_; rotate_left 2; (focus (exact blk)); intro r1; have r1c0 := r1.cell 0; have r1f0 := r1.free 0; have r1c1 := r1.cell 1; have r1f1 := r1.free 1; have r1c2 := r1.cell 2; have r1f2 := r1.free 2; have r1c3 := r1.cell 3; have r1f3 := r1.free 3; have r1l := r1.lt; simp at r1c0 r1c1 r1c2 r1c3))
  go_ret
  exact ⟨rfl, by (exact kpt)⟩
theorem law_MastTurned_bad (a : Option Addr) (c : Nat) (xs : List Axis) (pe mo : Int) (b : Option Addr) (d : Nat) (ys : List Span) (cr : Int) (p : Int) (v : Wind) (m : Int) (w : World) (hx : Row Axis.cells 2 w.heap.size w a xs) (hc : xs.length ≤ c) (hM : c ≤ maxLen) (hy : Row Span.cells 2 w.heap.size w b ys) (hd : ys.length ≤ d) (hN : d ≤ maxLen) (hg : (decide (40 < xs.length) || decide (20 < ys.length)) = false) (h1 : xs.length ≤ 1000000) (E : Int) (hE : turnE xs p v m = E) (he0 : E ≠ 0) (he6 : E ≠ 6) (hn : turnN xs p v m = 0) (hi : turnI xs p v m = 0) : Calls Tryz.prog 9 #[.agg #[.slice a xs.length c, .int .i64 pe, .int .i64 mo, .slice b ys.length d, .int .i64 cr], .int .i64 p, .agg #[.int .i64 v.xlo, .int .i64 v.xhi, .int .i64 v.ylo, .int .i64 v.yhi], .int .i64 m] w fun z w' => z = .returned (.bool true) ∧ Kept w w' := by
  have HG := Lib.hid hg
  have HT1 := Lib.hid hi
  have HT2 := Lib.hid hn
  have HT3 := Lib.hid hE
  clear hg hn hi hE
  have e0 : (E != 0) = true := by simp [he0]
  have e6 : (E != 6) = true := by simp [he6]
  go_enter Tryz.func9, Tryz.ntmps9
  go_wp2_with (first | (go_at_call 11; (with_reducible refine (o_alive _).mono ?_); rintro z wA ⟨rfl, hbA⟩; refine Blk.thru (b := w.heap.size) (arr := ?_) (t := ?_) ?_ hbA ?_; rotate_left 2; (focus (exact blk)); intro r0; have r0c0 := r0.cell 0; have r0f0 := r0.free 0; have r0c1 := r0.cell 1; have r0f1 := r0.free 1; have r0c2 := r0.cell 2; have r0f2 := r0.free 2; have r0c3 := r0.cell 3; have r0f3 := r0.free 3; have r0c4 := r0.cell 4; have r0f4 := r0.free 4; have r0l := r0.lt; simp at r0c0 r0c1 r0c2 r0c3 r0c4; refine Blk.thru (b := w.heap.size + 1) (arr := ?_) (t := ?_) ?_ hbA ?_; rotate_left 2; (focus (exact blk)); intro r1; have r1c0 := r1.cell 0; have r1f0 := r1.free 0; have r1c1 := r1.cell 1; have r1f1 := r1.free 1; have r1c2 := r1.cell 2; have r1f2 := r1.free 2; have r1c3 := r1.cell 3; have r1f3 := r1.free 3; have r1l := r1.lt; simp at r1c0 r1c1 r1c2 r1c3) | (go_at_call 12; (with_reducible refine (r_Great a c xs pe mo b d ys cr _ hM hN hc hd).mono ?_); rw [HG.out]; rintro z wG ⟨rfl, hbG⟩; refine Blk.thru (b := w.heap.size) (arr := ?_) (t := ?_) ?_ hbG ?_; rotate_left 2; (focus (exact blk)); intro r0; have r0c0 := r0.cell 0; have r0f0 := r0.free 0; have r0c1 := r0.cell 1; have r0f1 := r0.free 1; have r0c2 := r0.cell 2; have r0f2 := r0.free 2; have r0c3 := r0.cell 3; have r0f3 := r0.free 3; have r0c4 := r0.cell 4; have r0f4 := r0.free 4; have r0l := r0.lt; simp at r0c0 r0c1 r0c2 r0c3 r0c4; refine Blk.thru (b := w.heap.size + 1) (arr := ?_) (t := ?_) ?_ hbG ?_; rotate_left 2; (focus (exact blk)); intro r1; have r1c0 := r1.cell 0; have r1f0 := r1.free 0; have r1c1 := r1.cell 1; have r1f1 := r1.free 1; have r1c2 := r1.cell 2; have r1f2 := r1.free 2; have r1c3 := r1.cell 3; have r1f3 := r1.free 3; have r1l := r1.lt; simp at r1c0 r1c1 r1c2 r1c3) | (go_at_call 33; (with_reducible refine (f_Turn a c xs p v m _ (hx.later (by (exact kpt)) (Nat.le_refl _)) hc hM h1).mono ?_); rw [HT1.out, HT2.out, HT3.out]; rintro z wT ⟨rfl, hbT⟩; refine Blk.thru (b := w.heap.size) (arr := ?_) (t := ?_) ?_ hbT ?_; rotate_left 2; (focus (exact blk)); intro r0; have r0c0 := r0.cell 0; have r0f0 := r0.free 0; have r0c1 := r0.cell 1; have r0f1 := r0.free 1; have r0c2 := r0.cell 2; have r0f2 := r0.free 2; have r0c3 := r0.cell 3; have r0f3 := r0.free 3; have r0c4 := r0.cell 4; have r0f4 := r0.free 4; have r0l := r0.lt; simp at r0c0 r0c1 r0c2 r0c3 r0c4; refine Blk.thru (b := w.heap.size + 1) (arr := ?_) (t := ?_) ?_ hbT ?_; rotate_left 2; (focus (exact blk)); intro r1; have r1c0 := r1.cell 0; have r1f0 := r1.free 0; have r1c1 := r1.cell 1; have r1f1 := r1.free 1; have r1c2 := r1.cell 2; have r1f2 := r1.free 2; have r1c3 := r1.cell 3; have r1f3 := r1.free 3; have r1l := r1.lt; simp at r1c0 r1c1 r1c2 r1c3))
  go_ret
  exact ⟨rfl, by (exact kpt)⟩

theorem law_MastTurned_none (a : Option Addr) (c : Nat) (xs : List Axis) (pe mo : Int) (b : Option Addr) (d : Nat) (ys : List Span) (cr : Int) (p : Int) (v : Wind) (m : Int) (w : World) (hx : Row Axis.cells 2 w.heap.size w a xs) (hc : xs.length ≤ c) (hM : c ≤ maxLen) (hy : Row Span.cells 2 w.heap.size w b ys) (hd : ys.length ≤ d) (hN : d ≤ maxLen) (hg : (decide (40 < xs.length) || decide (20 < ys.length)) = false) (h1 : xs.length ≤ 1000000) (pn : Nat) (hp : p = pn) (hok : turnOk xs pn v m = 0) (T nn : Nat) (hTl : T < xs.length) (hnl : nn < xs.length) (hno : ∀ j, j < xs.length → turnAt v m xs pn j = false) (hE : turnE xs pn v m = 6) (hNN : turnN xs pn v m = (nn : Int)) (hII : turnI xs pn v m = (T : Int)) : Calls Tryz.prog 9 #[.agg #[.slice a xs.length c, .int .i64 pe, .int .i64 mo, .slice b ys.length d, .int .i64 cr], .int .i64 p, .agg #[.int .i64 v.xlo, .int .i64 v.xhi, .int .i64 v.ylo, .int .i64 v.yhi], .int .i64 m] w fun z w' => z = .returned (.bool true) ∧ Kept w w' := by
  subst hp
  obtain ⟨k1, _, k3, _⟩ := turnOk_parts hok
  obtain ⟨hl1, hl2, _⟩ := turnable_parts k1
  have hpn : pn < xs.length := by omega
  have HG := Lib.hid hg
  have HT1 := Lib.hid hII
  have HT2 := Lib.hid hNN
  have HT3 := Lib.hid hE
  clear hg hNN hII hE k1 k3
  have s0 := hpn
  have GR1 : ((pn : Int) + (nn : Int)) % (xs.length : Int) = ((onBy xs.length pn nn : Nat) : Int) := by unfold onBy; simp
  have GR2 : ((pn : Int) + (xs.length : Int) - (nn : Int)) % (xs.length : Int) = ((backBy xs.length pn nn : Nat) : Int) := by unfold backBy; rw [show (pn : Int) + (xs.length : Int) - (nn : Int) = ((pn + xs.length - nn : Nat) : Int) by omega]; simp
  have GR4 : ((pn : Int) - (nn : Int) + (xs.length : Int)) % (xs.length : Int) = ((backBy xs.length pn nn : Nat) : Int) := by rw [← GR2]; congr 1; omega
  have GT1 : ((pn : Int) + (nn : Int)).tmod (xs.length : Int) = ((onBy xs.length pn nn : Nat) : Int) := by rw [Int.tmod_eq_emod_of_nonneg (by omega)]; exact GR1
  have GT2 : ((pn : Int) + (xs.length : Int) - (nn : Int)).tmod (xs.length : Int) = ((backBy xs.length pn nn : Nat) : Int) := by rw [Int.tmod_eq_emod_of_nonneg (by omega)]; exact GR2
  have GT4 : ((pn : Int) - (nn : Int) + (xs.length : Int)).tmod (xs.length : Int) = ((backBy xs.length pn nn : Nat) : Int) := by rw [Int.tmod_eq_emod_of_nonneg (by omega)]; exact GR4
  have nxL0 : onBy xs.length pn nn < xs.length := Nat.mod_lt _ (by omega)
  have bfL0 : backBy xs.length pn nn < xs.length := Nat.mod_lt _ (by omega)
  have GAT := Lib.hid (show turnAt v m xs pn nn = (calmAt v m xs (onBy xs.length pn nn) || calmAt v m xs (backBy xs.length pn nn)) from rfl)
  have GTO := Lib.hid (show turnTo v m xs pn nn = if calmAt v m xs (onBy xs.length pn nn) then onBy xs.length pn nn else backBy xs.length pn nn from rfl)
  obtain ⟨nx, hon⟩ : ∃ nx, nx = onBy xs.length pn nn := ⟨_, rfl⟩
  obtain ⟨bf, hbk⟩ : ∃ bf, bf = backBy xs.length pn nn := ⟨_, rfl⟩
  rw [← hon] at GR1 GT1 nxL0 GAT GTO
  rw [← hbk] at GR2 GR4 GT2 GT4 bfL0 GAT GTO
  clear hon hbk
  have nxL := nxL0
  have bfL := bfL0
  have gz0 : ¬ (xs.length : Int) = 0 := by omega
  have hz1 : ¬ xs = [] := by intro e; rw [e] at hl1; simp at hl1
  have j1 : (0 : Int) ≤ (T : Int) := by omega
  have j2 : (T : Int) < (xs.length : Int) := by omega
  have j3 : (nn : Int) < (xs.length : Int) := by omega
  have j4 : (pn : Int) < (xs.length : Int) := by omega
  have j5 : ¬ (xs.length : Int) ≤ (T : Int) := by omega
  have j6 : ¬ (xs.length : Int) ≤ (nn : Int) := by omega
  have j7 : ¬ (xs.length : Int) ≤ (pn : Int) := by omega
  have dA1 : decide ((pn : Int) < 0) = false := decide_eq_false (by omega)
  have dA2 : decide (xs.length ≤ pn) = false := decide_eq_false (by omega)
  have dT1 : decide ((T : Int) < 0) = false := decide_eq_false (by omega)
  have dT2 : decide (xs.length ≤ T) = false := decide_eq_false (by omega)
  have dN1 : decide ((nn : Int) < 0) = false := decide_eq_false (by omega)
  have dN2 : decide (xs.length ≤ nn) = false := decide_eq_false (by omega)
  have j8 : ((xs.length : Int) == 0) = false := by simp; omega
  have j9 : (0 : Int) ≤ (nn : Int) := by omega
  have j10 : (0 : Int) ≤ (pn : Int) := by omega
  have W1 := i64_in (n := (pn : Int) + (nn : Int)) (by omega)
  have W2 := i64_in (n := (pn : Int) - (nn : Int)) (by omega)
  have W3 := i64_in (n := (pn : Int) - (nn : Int) + (xs.length : Int)) (by omega)
  have W5 := i64_in (n := (nx : Int)) (by omega)
  have W6 := i64_in (n := (bf : Int)) (by omega)
  go_enter Tryz.func9, Tryz.ntmps9
  go_upto_region 12 with (first | (go_at_call 11; (with_reducible refine (o_alive _).mono ?_); rintro z wA ⟨rfl, hbA⟩; refine Blk.thru (b := w.heap.size) (arr := ?_) (t := ?_) ?_ hbA ?_; rotate_left 2; (focus (exact blk)); intro r0; have r0c0 := r0.cell 0; have r0f0 := r0.free 0; have r0c1 := r0.cell 1; have r0f1 := r0.free 1; have r0c2 := r0.cell 2; have r0f2 := r0.free 2; have r0c3 := r0.cell 3; have r0f3 := r0.free 3; have r0c4 := r0.cell 4; have r0f4 := r0.free 4; have r0l := r0.lt; simp at r0c0 r0c1 r0c2 r0c3 r0c4; refine Blk.thru (b := w.heap.size + 1) (arr := ?_) (t := ?_) ?_ hbA ?_; rotate_left 2; (focus (exact blk)); intro r1; have r1c0 := r1.cell 0; have r1f0 := r1.free 0; have r1c1 := r1.cell 1; have r1f1 := r1.free 1; have r1c2 := r1.cell 2; have r1f2 := r1.free 2; have r1c3 := r1.cell 3; have r1f3 := r1.free 3; have r1l := r1.lt; simp at r1c0 r1c1 r1c2 r1c3) | (go_at_call 12; (with_reducible refine (r_Great a c xs pe mo b d ys cr _ hM hN hc hd).mono ?_); rw [HG.out]; rintro z wG ⟨rfl, hbG⟩; refine Blk.thru (b := w.heap.size) (arr := ?_) (t := ?_) ?_ hbG ?_; rotate_left 2; (focus (exact blk)); intro r0; have r0c0 := r0.cell 0; have r0f0 := r0.free 0; have r0c1 := r0.cell 1; have r0f1 := r0.free 1; have r0c2 := r0.cell 2; have r0f2 := r0.free 2; have r0c3 := r0.cell 3; have r0f3 := r0.free 3; have r0c4 := r0.cell 4; have r0f4 := r0.free 4; have r0l := r0.lt; simp at r0c0 r0c1 r0c2 r0c3 r0c4; refine Blk.thru (b := w.heap.size + 1) (arr := ?_) (t := ?_) ?_ hbG ?_; rotate_left 2; (focus (exact blk)); intro r1; have r1c0 := r1.cell 0; have r1f0 := r1.free 0; have r1c1 := r1.cell 1; have r1f1 := r1.free 1; have r1c2 := r1.cell 2; have r1f2 := r1.free 2; have r1c3 := r1.cell 3; have r1f3 := r1.free 3; have r1l := r1.lt; simp at r1c0 r1c1 r1c2 r1c3) | (go_at_call 33; (with_reducible refine (f_Turn a c xs (pn : Int) v m _ (hx.later (by (exact kpt)) (Nat.le_refl _)) hc hM h1).mono ?_); rw [HT1.out, HT2.out, HT3.out]; rintro z wT ⟨rfl, hbT⟩; refine Blk.thru (b := w.heap.size) (arr := ?_) (t := ?_) ?_ hbT ?_; rotate_left 2; (focus (exact blk)); intro r0; have r0c0 := r0.cell 0; have r0f0 := r0.free 0; have r0c1 := r0.cell 1; have r0f1 := r0.free 1; have r0c2 := r0.cell 2; have r0f2 := r0.free 2; have r0c3 := r0.cell 3; have r0f3 := r0.free 3; have r0c4 := r0.cell 4; have r0f4 := r0.free 4; have r0l := r0.lt; simp at r0c0 r0c1 r0c2 r0c3 r0c4; refine Blk.thru (b := w.heap.size + 1) (arr := ?_) (t := ?_) ?_ hbT ?_; rotate_left 2; (focus (exact blk)); intro r1; have r1c0 := r1.cell 0; have r1f0 := r1.free 0; have r1c1 := r1.cell 1; have r1f1 := r1.free 1; have r1c2 := r1.cell 2; have r1f2 := r1.free 2; have r1c3 := r1.cell 3; have r1f3 := r1.free 3; have r1l := r1.lt; simp at r1c0 r1c1 r1c2 r1c3))
  refine at_world (S := fun V => Blk V w.heap.size #[.slice a xs.length c, .int .i64 pe, .int .i64 mo, .slice b ys.length d, .int .i64 cr] 25 ∧ Blk V (w.heap.size + 1) #[.int .i64 v.xlo, .int .i64 v.xhi, .int .i64 v.ylo, .int .i64 v.yhi] 39 ∧ Kept w V) ⟨by (exact blk), by (exact blk), by (exact kpt)⟩ ?_
  rintro V ⟨r0, r1, hkV⟩
  refine Later.region (by kernel_rfl) (by kernel_rfl) ?_
  repeat (first | go_big_quiet_skip | (go_big_quiet_want; go_big_quiet_op; first | go_big_quiet_on | (apply Exists.intro; refine ⟨fun g_ => ?_, ?_⟩; (focus (first | fail)); go_big_quiet_on)))
  refine wpQuiet_nil ?_
  intro gg
  have hkg := Kept.drop hkV gg.ok
  have m0 := r0.later gg
  have m1 := r1.later gg
  clear GR1 GR2 GR4 GT1 GT2 GT4 W1 W2 W3 W5 W6 hkV r0 r1
  go_wp2
  go_loopw [110] (fun i wr => ∃ s : Nat, s ≤ xs.length ∧ i = .int .i64 s ∧ Blk wr w.heap.size #[.slice a xs.length c, .int .i64 pe, .int .i64 mo, .slice b ys.length d, .int .i64 cr] 25 ∧ Blk wr (w.heap.size + 1) #[.int .i64 v.xlo, .int .i64 v.xhi, .int .i64 v.ylo, .int .i64 v.yhi] 39 ∧ Kept w wr) (fun i _ => xs.length - (intOf i).toNat)
  case atStart => exact ⟨0, Nat.zero_le _, rfl, m0, m1, hkg⟩
  case round =>
    clear m0 m1 hkg
    obtain ⟨s, hs, rfl, r0, r1, hk⟩ := hrel
    by_cases hlt : s < xs.length
    · have hlt' : (s : Int) < (xs.length : Int) := by omega
      have HR1 : ((pn : Int) + (s : Int)) % (xs.length : Int) = ((onBy xs.length pn s : Nat) : Int) := by unfold onBy; simp
      have HR2 : ((pn : Int) + (xs.length : Int) - (s : Int)) % (xs.length : Int) = ((backBy xs.length pn s : Nat) : Int) := by unfold backBy; rw [show (pn : Int) + (xs.length : Int) - (s : Int) = ((pn + xs.length - s : Nat) : Int) by omega]; simp
      have HR4 : ((pn : Int) - (s : Int) + (xs.length : Int)) % (xs.length : Int) = ((backBy xs.length pn s : Nat) : Int) := by rw [← HR2]; congr 1; omega
      have HT1' : ((pn : Int) + (s : Int)).tmod (xs.length : Int) = ((onBy xs.length pn s : Nat) : Int) := by rw [Int.tmod_eq_emod_of_nonneg (by omega)]; exact HR1
      have HT2' : ((pn : Int) + (xs.length : Int) - (s : Int)).tmod (xs.length : Int) = ((backBy xs.length pn s : Nat) : Int) := by rw [Int.tmod_eq_emod_of_nonneg (by omega)]; exact HR2
      have HT4' : ((pn : Int) - (s : Int) + (xs.length : Int)).tmod (xs.length : Int) = ((backBy xs.length pn s : Nat) : Int) := by rw [Int.tmod_eq_emod_of_nonneg (by omega)]; exact HR4
      have onL0 : onBy xs.length pn s < xs.length := Nat.mod_lt _ (by omega)
      have bkL0 : backBy xs.length pn s < xs.length := Nat.mod_lt _ (by omega)
      have HAT := Lib.hid (show turnAt v m xs pn s = (calmAt v m xs (onBy xs.length pn s) || calmAt v m xs (backBy xs.length pn s)) from rfl)
      have HTO := Lib.hid (show turnTo v m xs pn s = if calmAt v m xs (onBy xs.length pn s) then onBy xs.length pn s else backBy xs.length pn s from rfl)
      obtain ⟨on, hon⟩ : ∃ on, on = onBy xs.length pn s := ⟨_, rfl⟩
      obtain ⟨bk, hbk⟩ : ∃ bk, bk = backBy xs.length pn s := ⟨_, rfl⟩
      rw [← hon] at HR1 HT1' onL0 HAT HTO
      rw [← hbk] at HR2 HR4 HT2' HT4' bkL0 HAT HTO
      clear hon hbk
      have onL := onL0
      have bkL := bkL0
      have hz0 : ¬ (xs.length : Int) = 0 := by omega
      have hz1 : ¬ xs = [] := by intro e; rw [e] at hl1; simp at hl1
      have fOn : calmAt v m xs on = false ∧ calmAt v m xs bk = false := by have := hno s hlt; rw [HAT.out] at this; simpa using this
      obtain ⟨fOn, fBk⟩ := fOn
      go_upto_region 18 with fail
      have W1 := i64_in (n := (pn : Int) + (s : Int)) (by omega)
      have W2 := i64_in (n := (pn : Int) - (s : Int)) (by omega)
      have W3 := i64_in (n := (pn : Int) - (s : Int) + (xs.length : Int)) (by omega)
      have W5 := i64_in (n := (on : Int)) (by omega)
      have W6 := i64_in (n := (bk : Int)) (by omega)
      go_cut [125, 126, 127] (fun s6 s7 s8 wx => ∃ g, s6 = .slice (some ⟨g, 0, none⟩) 2 2 ∧ s7 = .int .i64 2 ∧ s8 = .int .i64 0 ∧ Blk wx g #[.int .i64 on, .int .i64 bk] 3 ∧ Blk wx w.heap.size #[.slice a xs.length c, .int .i64 pe, .int .i64 mo, .slice b ys.length d, .int .i64 cr] 25 ∧ Blk wx (w.heap.size + 1) #[.int .i64 v.xlo, .int .i64 v.xhi, .int .i64 v.ylo, .int .i64 v.yhi] 39 ∧ Kept w wx)
      case first =>
        go_region_held3 (fun w' => Kept wr w') (exact kpt) (fail)
        all_goals (go_wp2_with fail; go_meet)
        all_goals
          refine ⟨_, rfl, rfl, rfl, ?_, ?_, ?_, ?_⟩
          · first | exact Blk.drew (Blk.new' rfl) | exact Blk.new' rfl | exact Blk.drew (Blk.new' (by simp))
          · (exact blk)
          · (exact blk)
          · (exact kpt)
      case rest =>
       clear r0 r1 hk
       obtain ⟨g, rfl, rfl, rfl, q0, r0, r1, hkq⟩ := hcut
       clear W1 W2 W3 W5 W6 HR1 HR2 HR4 HT1' HT2' HT4'
       go_wp2
       go_loopw [127] (fun i wq => (i = .int .i64 0 ∨ i = .int .i64 1 ∨ i = .int .i64 2) ∧ Blk wq g #[.int .i64 on, .int .i64 bk] 3 ∧ Blk wq w.heap.size #[.slice a xs.length c, .int .i64 pe, .int .i64 mo, .slice b ys.length d, .int .i64 cr] 25 ∧ Blk wq (w.heap.size + 1) #[.int .i64 v.xlo, .int .i64 v.xhi, .int .i64 v.ylo, .int .i64 v.yhi] 39 ∧ Kept w wq) (fun i _ => 2 - (intOf i).toNat)
       case atStart => exact ⟨.inl rfl, q0, r0, r1, hkq⟩
       case round =>
         rename World => wq
         clear r0 r1 q0 hkq
         obtain ⟨hc3, q0, r0, r1, hkq⟩ := hrel
         have q0c0 := q0.cell 0
         have q0f0 := q0.free 0
         have q0c1 := q0.cell 1
         have q0f1 := q0.free 1
         have q0l := q0.lt
         simp at q0c0 q0c1
         rcases hc3 with rfl | rfl | rfl
         · have hix : on < xs.length := onL
           obtain ⟨bb, off, rfl, hbl, h0, h1'⟩ := Axis.row (hx.later hkq (Nat.le_refl _)) on hix
           obtain ⟨HCE, HCB⟩ := calmAt_is hok hix
           have HCC := fun w => f_Calm v xs[on] m w
           rw [HCE, HCB] at HCC
           clear HCE HCB
           obtain ⟨x, hx0⟩ : ∃ x, x = xs[on] := ⟨_, rfl⟩
           rw [← hx0] at HCC h0 h1'
           clear hx0
           obtain ⟨V, hV⟩ : ∃ V, V = calmAt v m xs on := ⟨_, rfl⟩
           rw [← hV] at HCC
           rw [← hV] at fOn
           clear hV
           have x0 := fun g : Later wq => g.some h0
           have x1 := fun g : Later wq => g.some h1'
           clear h0 h1'
           have r0c0 := fun g : Later wq => (r0.later g).cell 0
           have r0f0 := fun g : Later wq => (r0.later g).free 0
           have r0c1 := fun g : Later wq => (r0.later g).cell 1
           have r0f1 := fun g : Later wq => (r0.later g).free 1
           have r0c2 := fun g : Later wq => (r0.later g).cell 2
           have r0f2 := fun g : Later wq => (r0.later g).free 2
           have r0c3 := fun g : Later wq => (r0.later g).cell 3
           have r0f3 := fun g : Later wq => (r0.later g).free 3
           have r0c4 := fun g : Later wq => (r0.later g).cell 4
           have r0f4 := fun g : Later wq => (r0.later g).free 4
           have r0l := fun g : Later wq => (r0.later g).lt
           simp at r0c0 r0c1 r0c2 r0c3 r0c4
           have r1c0 := fun g : Later wq => (r1.later g).cell 0
           have r1f0 := fun g : Later wq => (r1.later g).free 0
           have r1c1 := fun g : Later wq => (r1.later g).cell 1
           have r1f1 := fun g : Later wq => (r1.later g).free 1
           have r1c2 := fun g : Later wq => (r1.later g).cell 2
           have r1f2 := fun g : Later wq => (r1.later g).free 2
           have r1c3 := fun g : Later wq => (r1.later g).cell 3
           have r1f3 := fun g : Later wq => (r1.later g).free 3
           have r1l := fun g : Later wq => (r1.later g).lt
           simp at r1c0 r1c1 r1c2 r1c3
           have i0 : (0 : Int) ≤ (on : Int) := by omega
           have i1 : (on : Int) < (xs.length : Int) := by omega
           go_upto_region 21 with fail
           refine Later.region (by kernel_rfl) (by kernel_rfl) ?_
           repeat (first | go_big_quiet_skip | (go_big_quiet_want; go_big_quiet_op; first | go_big_quiet_on | (apply Exists.intro; refine ⟨fun g_ => ?_, ?_⟩; (focus (first | (go_at_call 22; with_reducible exact Later.call (HCC _)))); go_big_quiet_on)))
           refine wpQuiet_nil ?_
           intro g2
           have hkg := Kept.drop hkq g2.ok
           obtain rfl := fOn
           go_wp2
           go_roundw
           case rel => exact ⟨.inr (.inl rfl), q0.later g2, r0.later g2, r1.later g2, by (exact kpt)⟩
           case measure => decide
         · have hix : bk < xs.length := bkL
           obtain ⟨bb, off, rfl, hbl, h0, h1'⟩ := Axis.row (hx.later hkq (Nat.le_refl _)) bk hix
           obtain ⟨HCE, HCB⟩ := calmAt_is hok hix
           have HCC := fun w => f_Calm v xs[bk] m w
           rw [HCE, HCB] at HCC
           clear HCE HCB
           obtain ⟨x, hx0⟩ : ∃ x, x = xs[bk] := ⟨_, rfl⟩
           rw [← hx0] at HCC h0 h1'
           clear hx0
           obtain ⟨V, hV⟩ : ∃ V, V = calmAt v m xs bk := ⟨_, rfl⟩
           rw [← hV] at HCC
           rw [← hV] at fBk
           clear hV
           have x0 := fun g : Later wq => g.some h0
           have x1 := fun g : Later wq => g.some h1'
           clear h0 h1'
           have r0c0 := fun g : Later wq => (r0.later g).cell 0
           have r0f0 := fun g : Later wq => (r0.later g).free 0
           have r0c1 := fun g : Later wq => (r0.later g).cell 1
           have r0f1 := fun g : Later wq => (r0.later g).free 1
           have r0c2 := fun g : Later wq => (r0.later g).cell 2
           have r0f2 := fun g : Later wq => (r0.later g).free 2
           have r0c3 := fun g : Later wq => (r0.later g).cell 3
           have r0f3 := fun g : Later wq => (r0.later g).free 3
           have r0c4 := fun g : Later wq => (r0.later g).cell 4
           have r0f4 := fun g : Later wq => (r0.later g).free 4
           have r0l := fun g : Later wq => (r0.later g).lt
           simp at r0c0 r0c1 r0c2 r0c3 r0c4
           have r1c0 := fun g : Later wq => (r1.later g).cell 0
           have r1f0 := fun g : Later wq => (r1.later g).free 0
           have r1c1 := fun g : Later wq => (r1.later g).cell 1
           have r1f1 := fun g : Later wq => (r1.later g).free 1
           have r1c2 := fun g : Later wq => (r1.later g).cell 2
           have r1f2 := fun g : Later wq => (r1.later g).free 2
           have r1c3 := fun g : Later wq => (r1.later g).cell 3
           have r1f3 := fun g : Later wq => (r1.later g).free 3
           have r1l := fun g : Later wq => (r1.later g).lt
           simp at r1c0 r1c1 r1c2 r1c3
           have i0 : (0 : Int) ≤ (bk : Int) := by omega
           have i1 : (bk : Int) < (xs.length : Int) := by omega
           go_upto_region 21 with fail
           refine Later.region (by kernel_rfl) (by kernel_rfl) ?_
           repeat (first | go_big_quiet_skip | (go_big_quiet_want; go_big_quiet_op; first | go_big_quiet_on | (apply Exists.intro; refine ⟨fun g_ => ?_, ?_⟩; (focus (first | (go_at_call 22; with_reducible exact Later.call (HCC _)))); go_big_quiet_on)))
           refine wpQuiet_nil ?_
           intro g2
           have hkg := Kept.drop hkq g2.ok
           obtain rfl := fBk
           go_wp2
           go_roundw
           case rel => exact ⟨.inr (.inr rfl), q0.later g2, r0.later g2, r1.later g2, by (exact kpt)⟩
           case measure => decide
         · go_wp2
           go_roundw
           case rel => exact ⟨s + 1, by omega, by go_num, r0, r1, hkq⟩
           case measure => simp [intOf]; omega
    · have hlt' : ¬ (s : Int) < (xs.length : Int) := by omega
      go_wp2
      go_ret
      exact ⟨rfl, by (exact kpt)⟩

theorem law_MastTurned_next (a : Option Addr) (c : Nat) (xs : List Axis) (pe mo : Int) (b : Option Addr) (d : Nat) (ys : List Span) (cr : Int) (p : Int) (v : Wind) (m : Int) (w : World) (hx : Row Axis.cells 2 w.heap.size w a xs) (hc : xs.length ≤ c) (hM : c ≤ maxLen) (hy : Row Span.cells 2 w.heap.size w b ys) (hd : ys.length ≤ d) (hN : d ≤ maxLen) (hg : (decide (40 < xs.length) || decide (20 < ys.length)) = false) (h1 : xs.length ≤ 1000000) (pn : Nat) (hp : p = pn) (hok : turnOk xs pn v m = 0) (T nn : Nat) (hnl : nn < xs.length) (hTv : T = onBy xs.length pn nn) (hcT : calmAt v m xs T = true) (hno : ∀ j, j < nn → turnAt v m xs pn j = false) (hE : turnE xs pn v m = 0) (hNN : turnN xs pn v m = (nn : Int)) (hII : turnI xs pn v m = (T : Int)) : Calls Tryz.prog 9 #[.agg #[.slice a xs.length c, .int .i64 pe, .int .i64 mo, .slice b ys.length d, .int .i64 cr], .int .i64 p, .agg #[.int .i64 v.xlo, .int .i64 v.xhi, .int .i64 v.ylo, .int .i64 v.yhi], .int .i64 m] w fun z w' => z = .returned (.bool true) ∧ Kept w w' := by
  subst hp
  obtain ⟨k1, _, k3, _⟩ := turnOk_parts hok
  obtain ⟨hl1, hl2, _⟩ := turnable_parts k1
  have hpn : pn < xs.length := by omega
  have HG := Lib.hid hg
  have HT1 := Lib.hid hII
  have HT2 := Lib.hid hNN
  have HT3 := Lib.hid hE
  clear hg hNN hII hE k1 k3
  have hTl : T < xs.length := by rw [hTv]; exact Nat.mod_lt _ (by omega)
  have s0 := hpn
  have GR1 : ((pn : Int) + (nn : Int)) % (xs.length : Int) = ((onBy xs.length pn nn : Nat) : Int) := by unfold onBy; simp
  have GR2 : ((pn : Int) + (xs.length : Int) - (nn : Int)) % (xs.length : Int) = ((backBy xs.length pn nn : Nat) : Int) := by unfold backBy; rw [show (pn : Int) + (xs.length : Int) - (nn : Int) = ((pn + xs.length - nn : Nat) : Int) by omega]; simp
  have GR4 : ((pn : Int) - (nn : Int) + (xs.length : Int)) % (xs.length : Int) = ((backBy xs.length pn nn : Nat) : Int) := by rw [← GR2]; congr 1; omega
  have GT1 : ((pn : Int) + (nn : Int)).tmod (xs.length : Int) = ((onBy xs.length pn nn : Nat) : Int) := by rw [Int.tmod_eq_emod_of_nonneg (by omega)]; exact GR1
  have GT2 : ((pn : Int) + (xs.length : Int) - (nn : Int)).tmod (xs.length : Int) = ((backBy xs.length pn nn : Nat) : Int) := by rw [Int.tmod_eq_emod_of_nonneg (by omega)]; exact GR2
  have GT4 : ((pn : Int) - (nn : Int) + (xs.length : Int)).tmod (xs.length : Int) = ((backBy xs.length pn nn : Nat) : Int) := by rw [Int.tmod_eq_emod_of_nonneg (by omega)]; exact GR4
  have nxL0 : onBy xs.length pn nn < xs.length := Nat.mod_lt _ (by omega)
  have bfL0 : backBy xs.length pn nn < xs.length := Nat.mod_lt _ (by omega)
  have GAT := Lib.hid (show turnAt v m xs pn nn = (calmAt v m xs (onBy xs.length pn nn) || calmAt v m xs (backBy xs.length pn nn)) from rfl)
  have GTO := Lib.hid (show turnTo v m xs pn nn = if calmAt v m xs (onBy xs.length pn nn) then onBy xs.length pn nn else backBy xs.length pn nn from rfl)
  obtain ⟨nx, hon⟩ : ∃ nx, nx = onBy xs.length pn nn := ⟨_, rfl⟩
  obtain ⟨bf, hbk⟩ : ∃ bf, bf = backBy xs.length pn nn := ⟨_, rfl⟩
  rw [← hon] at GR1 GT1 nxL0 GAT GTO
  rw [← hbk] at GR2 GR4 GT2 GT4 bfL0 GAT GTO
  rw [← hon] at hTv
  have HON := Lib.hid hon
  clear hon hbk
  have nxL := nxL0
  have bfL := bfL0
  have gz0 : ¬ (xs.length : Int) = 0 := by omega
  have hz1 : ¬ xs = [] := by intro e; rw [e] at hl1; simp at hl1
  subst hTv
  have j1 : (0 : Int) ≤ (T : Int) := by omega
  have j2 : (T : Int) < (xs.length : Int) := by omega
  have j3 : (nn : Int) < (xs.length : Int) := by omega
  have j4 : (pn : Int) < (xs.length : Int) := by omega
  have j5 : ¬ (xs.length : Int) ≤ (T : Int) := by omega
  have j6 : ¬ (xs.length : Int) ≤ (nn : Int) := by omega
  have j7 : ¬ (xs.length : Int) ≤ (pn : Int) := by omega
  have dA1 : decide ((pn : Int) < 0) = false := decide_eq_false (by omega)
  have dA2 : decide (xs.length ≤ pn) = false := decide_eq_false (by omega)
  have dT1 : decide ((T : Int) < 0) = false := decide_eq_false (by omega)
  have dT2 : decide (xs.length ≤ T) = false := decide_eq_false (by omega)
  have dN1 : decide ((nn : Int) < 0) = false := decide_eq_false (by omega)
  have dN2 : decide (xs.length ≤ nn) = false := decide_eq_false (by omega)
  have j8 : ((xs.length : Int) == 0) = false := by simp; omega
  have j9 : (0 : Int) ≤ (nn : Int) := by omega
  have j10 : (0 : Int) ≤ (pn : Int) := by omega
  have W1 := i64_in (n := (pn : Int) + (nn : Int)) (by omega)
  have W2 := i64_in (n := (pn : Int) - (nn : Int)) (by omega)
  have W3 := i64_in (n := (pn : Int) - (nn : Int) + (xs.length : Int)) (by omega)
  have W5 := i64_in (n := (T : Int)) (by omega)
  have W6 := i64_in (n := (bf : Int)) (by omega)
  go_enter Tryz.func9, Tryz.ntmps9
  go_upto_region 12 with (first | (go_at_call 11; (with_reducible refine (o_alive _).mono ?_); rintro z wA ⟨rfl, hbA⟩; refine Blk.thru (b := w.heap.size) (arr := ?_) (t := ?_) ?_ hbA ?_; rotate_left 2; (focus (exact blk)); intro r0; have r0c0 := r0.cell 0; have r0f0 := r0.free 0; have r0c1 := r0.cell 1; have r0f1 := r0.free 1; have r0c2 := r0.cell 2; have r0f2 := r0.free 2; have r0c3 := r0.cell 3; have r0f3 := r0.free 3; have r0c4 := r0.cell 4; have r0f4 := r0.free 4; have r0l := r0.lt; simp at r0c0 r0c1 r0c2 r0c3 r0c4; refine Blk.thru (b := w.heap.size + 1) (arr := ?_) (t := ?_) ?_ hbA ?_; rotate_left 2; (focus (exact blk)); intro r1; have r1c0 := r1.cell 0; have r1f0 := r1.free 0; have r1c1 := r1.cell 1; have r1f1 := r1.free 1; have r1c2 := r1.cell 2; have r1f2 := r1.free 2; have r1c3 := r1.cell 3; have r1f3 := r1.free 3; have r1l := r1.lt; simp at r1c0 r1c1 r1c2 r1c3) | (go_at_call 12; (with_reducible refine (r_Great a c xs pe mo b d ys cr _ hM hN hc hd).mono ?_); rw [HG.out]; rintro z wG ⟨rfl, hbG⟩; refine Blk.thru (b := w.heap.size) (arr := ?_) (t := ?_) ?_ hbG ?_; rotate_left 2; (focus (exact blk)); intro r0; have r0c0 := r0.cell 0; have r0f0 := r0.free 0; have r0c1 := r0.cell 1; have r0f1 := r0.free 1; have r0c2 := r0.cell 2; have r0f2 := r0.free 2; have r0c3 := r0.cell 3; have r0f3 := r0.free 3; have r0c4 := r0.cell 4; have r0f4 := r0.free 4; have r0l := r0.lt; simp at r0c0 r0c1 r0c2 r0c3 r0c4; refine Blk.thru (b := w.heap.size + 1) (arr := ?_) (t := ?_) ?_ hbG ?_; rotate_left 2; (focus (exact blk)); intro r1; have r1c0 := r1.cell 0; have r1f0 := r1.free 0; have r1c1 := r1.cell 1; have r1f1 := r1.free 1; have r1c2 := r1.cell 2; have r1f2 := r1.free 2; have r1c3 := r1.cell 3; have r1f3 := r1.free 3; have r1l := r1.lt; simp at r1c0 r1c1 r1c2 r1c3) | (go_at_call 33; (with_reducible refine (f_Turn a c xs (pn : Int) v m _ (hx.later (by (exact kpt)) (Nat.le_refl _)) hc hM h1).mono ?_); rw [HT1.out, HT2.out, HT3.out]; rintro z wT ⟨rfl, hbT⟩; refine Blk.thru (b := w.heap.size) (arr := ?_) (t := ?_) ?_ hbT ?_; rotate_left 2; (focus (exact blk)); intro r0; have r0c0 := r0.cell 0; have r0f0 := r0.free 0; have r0c1 := r0.cell 1; have r0f1 := r0.free 1; have r0c2 := r0.cell 2; have r0f2 := r0.free 2; have r0c3 := r0.cell 3; have r0f3 := r0.free 3; have r0c4 := r0.cell 4; have r0f4 := r0.free 4; have r0l := r0.lt; simp at r0c0 r0c1 r0c2 r0c3 r0c4; refine Blk.thru (b := w.heap.size + 1) (arr := ?_) (t := ?_) ?_ hbT ?_; rotate_left 2; (focus (exact blk)); intro r1; have r1c0 := r1.cell 0; have r1f0 := r1.free 0; have r1c1 := r1.cell 1; have r1f1 := r1.free 1; have r1c2 := r1.cell 2; have r1f2 := r1.free 2; have r1c3 := r1.cell 3; have r1f3 := r1.free 3; have r1l := r1.lt; simp at r1c0 r1c1 r1c2 r1c3))
  refine at_world (S := fun V => Blk V w.heap.size #[.slice a xs.length c, .int .i64 pe, .int .i64 mo, .slice b ys.length d, .int .i64 cr] 25 ∧ Blk V (w.heap.size + 1) #[.int .i64 v.xlo, .int .i64 v.xhi, .int .i64 v.ylo, .int .i64 v.yhi] 39 ∧ Kept w V) ⟨by (exact blk), by (exact blk), by (exact kpt)⟩ ?_
  rintro V ⟨r0, r1, hkV⟩
  refine Later.region (by kernel_rfl) (by kernel_rfl) ?_
  repeat (first | go_big_quiet_skip | (go_big_quiet_want; go_big_quiet_op; first | go_big_quiet_on | (apply Exists.intro; refine ⟨fun g_ => ?_, ?_⟩; (focus (first | fail)); go_big_quiet_on)))
  refine wpQuiet_nil ?_
  intro gg
  have hkg := Kept.drop hkV gg.ok
  have m0 := r0.later gg
  have m1 := r1.later gg
  clear GR1 GR2 GR4 GT1 GT2 GT4 W1 W2 W3 W5 W6 hkV r0 r1
  go_wp2
  go_loopw [110] (fun i wr => ∃ s : Nat, s ≤ xs.length ∧ i = .int .i64 s ∧ Blk wr w.heap.size #[.slice a xs.length c, .int .i64 pe, .int .i64 mo, .slice b ys.length d, .int .i64 cr] 25 ∧ Blk wr (w.heap.size + 1) #[.int .i64 v.xlo, .int .i64 v.xhi, .int .i64 v.ylo, .int .i64 v.yhi] 39 ∧ Kept w wr) (fun i _ => xs.length - (intOf i).toNat)
  case atStart => exact ⟨0, Nat.zero_le _, rfl, m0, m1, hkg⟩
  case round =>
    clear m0 m1 hkg
    obtain ⟨s, hs, rfl, r0, r1, hk⟩ := hrel
    by_cases hlt : s < xs.length
    · have hlt' : (s : Int) < (xs.length : Int) := by omega
      have HR1 : ((pn : Int) + (s : Int)) % (xs.length : Int) = ((onBy xs.length pn s : Nat) : Int) := by unfold onBy; simp
      have HR2 : ((pn : Int) + (xs.length : Int) - (s : Int)) % (xs.length : Int) = ((backBy xs.length pn s : Nat) : Int) := by unfold backBy; rw [show (pn : Int) + (xs.length : Int) - (s : Int) = ((pn + xs.length - s : Nat) : Int) by omega]; simp
      have HR4 : ((pn : Int) - (s : Int) + (xs.length : Int)) % (xs.length : Int) = ((backBy xs.length pn s : Nat) : Int) := by rw [← HR2]; congr 1; omega
      have HT1' : ((pn : Int) + (s : Int)).tmod (xs.length : Int) = ((onBy xs.length pn s : Nat) : Int) := by rw [Int.tmod_eq_emod_of_nonneg (by omega)]; exact HR1
      have HT2' : ((pn : Int) + (xs.length : Int) - (s : Int)).tmod (xs.length : Int) = ((backBy xs.length pn s : Nat) : Int) := by rw [Int.tmod_eq_emod_of_nonneg (by omega)]; exact HR2
      have HT4' : ((pn : Int) - (s : Int) + (xs.length : Int)).tmod (xs.length : Int) = ((backBy xs.length pn s : Nat) : Int) := by rw [Int.tmod_eq_emod_of_nonneg (by omega)]; exact HR4
      have onL0 : onBy xs.length pn s < xs.length := Nat.mod_lt _ (by omega)
      have bkL0 : backBy xs.length pn s < xs.length := Nat.mod_lt _ (by omega)
      have HAT := Lib.hid (show turnAt v m xs pn s = (calmAt v m xs (onBy xs.length pn s) || calmAt v m xs (backBy xs.length pn s)) from rfl)
      have HTO := Lib.hid (show turnTo v m xs pn s = if calmAt v m xs (onBy xs.length pn s) then onBy xs.length pn s else backBy xs.length pn s from rfl)
      obtain ⟨on, hon⟩ : ∃ on, on = onBy xs.length pn s := ⟨_, rfl⟩
      obtain ⟨bk, hbk⟩ : ∃ bk, bk = backBy xs.length pn s := ⟨_, rfl⟩
      rw [← hon] at HR1 HT1' onL0 HAT HTO
      rw [← hbk] at HR2 HR4 HT2' HT4' bkL0 HAT HTO
      clear hon hbk
      have onL := onL0
      have bkL := bkL0
      have hz0 : ¬ (xs.length : Int) = 0 := by omega
      have hz1 : ¬ xs = [] := by intro e; rw [e] at hl1; simp at hl1
      have fNo : s < nn → calmAt v m xs on = false ∧ calmAt v m xs bk = false := fun h => by have := hno s h; rw [HAT.out] at this; simpa using this
      have fOnG : calmAt v m xs on = true → nn ≤ s := fun h => Nat.le_of_not_lt fun h' => by rw [(fNo h').1] at h; cases h
      have fOnT : calmAt v m xs on = true → nn ≤ s ∧ (s = nn → True) := fun h => ⟨fOnG h, fun _ => trivial⟩
      have fOnF : calmAt v m xs on = false → on ≠ T := fun h e => by rw [e, hcT] at h; cases h
      have fBkT : calmAt v m xs bk = true → nn ≤ s := fun h => Nat.le_of_not_lt fun h' => by rw [(fNo h').2] at h; cases h
      have fBkF : calmAt v m xs bk = false → bk ≠ T := fun h e => by rw [e, hcT] at h; cases h
      clear fNo fOnG
      go_upto_region 18 with fail
      have W1 := i64_in (n := (pn : Int) + (s : Int)) (by omega)
      have W2 := i64_in (n := (pn : Int) - (s : Int)) (by omega)
      have W3 := i64_in (n := (pn : Int) - (s : Int) + (xs.length : Int)) (by omega)
      have W5 := i64_in (n := (on : Int)) (by omega)
      have W6 := i64_in (n := (bk : Int)) (by omega)
      go_cut [125, 126, 127] (fun s6 s7 s8 wx => ∃ g, s6 = .slice (some ⟨g, 0, none⟩) 2 2 ∧ s7 = .int .i64 2 ∧ s8 = .int .i64 0 ∧ Blk wx g #[.int .i64 on, .int .i64 bk] 3 ∧ Blk wx w.heap.size #[.slice a xs.length c, .int .i64 pe, .int .i64 mo, .slice b ys.length d, .int .i64 cr] 25 ∧ Blk wx (w.heap.size + 1) #[.int .i64 v.xlo, .int .i64 v.xhi, .int .i64 v.ylo, .int .i64 v.yhi] 39 ∧ Kept w wx)
      case first =>
        go_region_held3 (fun w' => Kept wr w') (exact kpt) (fail)
        all_goals (go_wp2_with fail; go_meet)
        all_goals
          refine ⟨_, rfl, rfl, rfl, ?_, ?_, ?_, ?_⟩
          · first | exact Blk.drew (Blk.new' rfl) | exact Blk.new' rfl | exact Blk.drew (Blk.new' (by simp))
          · (exact blk)
          · (exact blk)
          · (exact kpt)
      case rest =>
       clear r0 r1 hk
       obtain ⟨g, rfl, rfl, rfl, q0, r0, r1, hkq⟩ := hcut
       clear W1 W2 W3 W5 W6 HR1 HR2 HR4 HT1' HT2' HT4'
       go_wp2
       go_loopw [127] (fun i wq => (i = .int .i64 0 ∨ i = .int .i64 1 ∨ i = .int .i64 2) ∧ Blk wq g #[.int .i64 on, .int .i64 bk] 3 ∧ Blk wq w.heap.size #[.slice a xs.length c, .int .i64 pe, .int .i64 mo, .slice b ys.length d, .int .i64 cr] 25 ∧ Blk wq (w.heap.size + 1) #[.int .i64 v.xlo, .int .i64 v.xhi, .int .i64 v.ylo, .int .i64 v.yhi] 39 ∧ Kept w wq) (fun i _ => 2 - (intOf i).toNat)
       case atStart => exact ⟨.inl rfl, q0, r0, r1, hkq⟩
       case round =>
         rename World => wq
         clear r0 r1 q0 hkq
         obtain ⟨hc3, q0, r0, r1, hkq⟩ := hrel
         have q0c0 := q0.cell 0
         have q0f0 := q0.free 0
         have q0c1 := q0.cell 1
         have q0f1 := q0.free 1
         have q0l := q0.lt
         simp at q0c0 q0c1
         rcases hc3 with rfl | rfl | rfl
         · have hix : on < xs.length := onL
           obtain ⟨bb, off, rfl, hbl, h0, h1'⟩ := Axis.row (hx.later hkq (Nat.le_refl _)) on hix
           obtain ⟨HCE, HCB⟩ := calmAt_is hok hix
           have HCC := fun w => f_Calm v xs[on] m w
           rw [HCE, HCB] at HCC
           clear HCE HCB
           obtain ⟨x, hx0⟩ : ∃ x, x = xs[on] := ⟨_, rfl⟩
           rw [← hx0] at HCC h0 h1'
           clear hx0
           obtain ⟨V, hV⟩ : ∃ V, V = calmAt v m xs on := ⟨_, rfl⟩
           rw [← hV] at HCC
           rw [← hV] at fOnT fOnF
           clear hV
           have x0 := fun g : Later wq => g.some h0
           have x1 := fun g : Later wq => g.some h1'
           clear h0 h1'
           have r0c0 := fun g : Later wq => (r0.later g).cell 0
           have r0f0 := fun g : Later wq => (r0.later g).free 0
           have r0c1 := fun g : Later wq => (r0.later g).cell 1
           have r0f1 := fun g : Later wq => (r0.later g).free 1
           have r0c2 := fun g : Later wq => (r0.later g).cell 2
           have r0f2 := fun g : Later wq => (r0.later g).free 2
           have r0c3 := fun g : Later wq => (r0.later g).cell 3
           have r0f3 := fun g : Later wq => (r0.later g).free 3
           have r0c4 := fun g : Later wq => (r0.later g).cell 4
           have r0f4 := fun g : Later wq => (r0.later g).free 4
           have r0l := fun g : Later wq => (r0.later g).lt
           simp at r0c0 r0c1 r0c2 r0c3 r0c4
           have r1c0 := fun g : Later wq => (r1.later g).cell 0
           have r1f0 := fun g : Later wq => (r1.later g).free 0
           have r1c1 := fun g : Later wq => (r1.later g).cell 1
           have r1f1 := fun g : Later wq => (r1.later g).free 1
           have r1c2 := fun g : Later wq => (r1.later g).cell 2
           have r1f2 := fun g : Later wq => (r1.later g).free 2
           have r1c3 := fun g : Later wq => (r1.later g).cell 3
           have r1f3 := fun g : Later wq => (r1.later g).free 3
           have r1l := fun g : Later wq => (r1.later g).lt
           simp at r1c0 r1c1 r1c2 r1c3
           have i0 : (0 : Int) ≤ (on : Int) := by omega
           have i1 : (on : Int) < (xs.length : Int) := by omega
           go_upto_region 21 with fail
           refine Later.region (by kernel_rfl) (by kernel_rfl) ?_
           repeat (first | go_big_quiet_skip | (go_big_quiet_want; go_big_quiet_op; first | go_big_quiet_on | (apply Exists.intro; refine ⟨fun g_ => ?_, ?_⟩; (focus (first | (go_at_call 22; with_reducible exact Later.call (HCC _)))); go_big_quiet_on)))
           refine wpQuiet_nil ?_
           intro g2
           have hkg := Kept.drop hkq g2.ok
           cases V with
           | true =>
             have hns := fOnT rfl
             have hns1 : ¬ (s : Int) < (nn : Int) := by omega
             clear fOnT fOnF
             by_cases hsn : s = nn
             · clear hns
               subst hsn
               by_cases hkT : on = T
               · subst hkT
                 go_wp2
                 go_roundw
                 case rel => exact ⟨.inr (.inl rfl), q0.later g2, r0.later g2, r1.later g2, by (exact kpt)⟩
                 case measure => decide
               · have hkT1 : ¬ (on : Int) = (T : Int) := by omega
                 have hkT2 : ((on : Int) == (T : Int)) = false := by simp; omega
                 clear hkT
                 go_wp2
                 go_roundw
                 case rel => exact ⟨.inr (.inl rfl), q0.later g2, r0.later g2, r1.later g2, by (exact kpt)⟩
                 case measure => decide
             · have hs1 : ¬ (s : Int) = (nn : Int) := by omega
               have hs2 : ((s : Int) == (nn : Int)) = false := by simp; omega
               clear hsn hns
               by_cases hkT : on = T
               · subst hkT
                 go_wp2
                 go_roundw
                 case rel => exact ⟨.inr (.inl rfl), q0.later g2, r0.later g2, r1.later g2, by (exact kpt)⟩
                 case measure => decide
               · have hkT1 : ¬ (on : Int) = (T : Int) := by omega
                 have hkT2 : ((on : Int) == (T : Int)) = false := by simp; omega
                 clear hkT
                 go_wp2
                 go_roundw
                 case rel => exact ⟨.inr (.inl rfl), q0.later g2, r0.later g2, r1.later g2, by (exact kpt)⟩
                 case measure => decide
           | false =>
             have hkT : on ≠ T := fOnF rfl
             have hkT1 : ¬ (on : Int) = (T : Int) := by omega
             have hkT2 : ((on : Int) == (T : Int)) = false := by simp; omega
             clear fOnT fOnF hkT
             by_cases hs0 : (s : Int) < (nn : Int)
             · go_wp2
               go_roundw
               case rel => exact ⟨.inr (.inl rfl), q0.later g2, r0.later g2, r1.later g2, by (exact kpt)⟩
               case measure => decide
             · by_cases hsn : s = nn
               · subst hsn
                 go_wp2
                 go_roundw
                 case rel => exact ⟨.inr (.inl rfl), q0.later g2, r0.later g2, r1.later g2, by (exact kpt)⟩
                 case measure => decide
               · have hs1 : ¬ (s : Int) = (nn : Int) := by omega
                 have hs2 : ((s : Int) == (nn : Int)) = false := by simp; omega
                 clear hsn
                 go_wp2
                 go_roundw
                 case rel => exact ⟨.inr (.inl rfl), q0.later g2, r0.later g2, r1.later g2, by (exact kpt)⟩
                 case measure => decide
         · have hix : bk < xs.length := bkL
           obtain ⟨bb, off, rfl, hbl, h0, h1'⟩ := Axis.row (hx.later hkq (Nat.le_refl _)) bk hix
           obtain ⟨HCE, HCB⟩ := calmAt_is hok hix
           have HCC := fun w => f_Calm v xs[bk] m w
           rw [HCE, HCB] at HCC
           clear HCE HCB
           obtain ⟨x, hx0⟩ : ∃ x, x = xs[bk] := ⟨_, rfl⟩
           rw [← hx0] at HCC h0 h1'
           clear hx0
           obtain ⟨V, hV⟩ : ∃ V, V = calmAt v m xs bk := ⟨_, rfl⟩
           rw [← hV] at HCC
           rw [← hV] at fBkT fBkF
           clear hV
           have x0 := fun g : Later wq => g.some h0
           have x1 := fun g : Later wq => g.some h1'
           clear h0 h1'
           have r0c0 := fun g : Later wq => (r0.later g).cell 0
           have r0f0 := fun g : Later wq => (r0.later g).free 0
           have r0c1 := fun g : Later wq => (r0.later g).cell 1
           have r0f1 := fun g : Later wq => (r0.later g).free 1
           have r0c2 := fun g : Later wq => (r0.later g).cell 2
           have r0f2 := fun g : Later wq => (r0.later g).free 2
           have r0c3 := fun g : Later wq => (r0.later g).cell 3
           have r0f3 := fun g : Later wq => (r0.later g).free 3
           have r0c4 := fun g : Later wq => (r0.later g).cell 4
           have r0f4 := fun g : Later wq => (r0.later g).free 4
           have r0l := fun g : Later wq => (r0.later g).lt
           simp at r0c0 r0c1 r0c2 r0c3 r0c4
           have r1c0 := fun g : Later wq => (r1.later g).cell 0
           have r1f0 := fun g : Later wq => (r1.later g).free 0
           have r1c1 := fun g : Later wq => (r1.later g).cell 1
           have r1f1 := fun g : Later wq => (r1.later g).free 1
           have r1c2 := fun g : Later wq => (r1.later g).cell 2
           have r1f2 := fun g : Later wq => (r1.later g).free 2
           have r1c3 := fun g : Later wq => (r1.later g).cell 3
           have r1f3 := fun g : Later wq => (r1.later g).free 3
           have r1l := fun g : Later wq => (r1.later g).lt
           simp at r1c0 r1c1 r1c2 r1c3
           have i0 : (0 : Int) ≤ (bk : Int) := by omega
           have i1 : (bk : Int) < (xs.length : Int) := by omega
           go_upto_region 21 with fail
           refine Later.region (by kernel_rfl) (by kernel_rfl) ?_
           repeat (first | go_big_quiet_skip | (go_big_quiet_want; go_big_quiet_op; first | go_big_quiet_on | (apply Exists.intro; refine ⟨fun g_ => ?_, ?_⟩; (focus (first | (go_at_call 22; with_reducible exact Later.call (HCC _)))); go_big_quiet_on)))
           refine wpQuiet_nil ?_
           intro g2
           have hkg := Kept.drop hkq g2.ok
           cases V with
           | true =>
             have hns := fBkT rfl
             have hns1 : ¬ (s : Int) < (nn : Int) := by omega
             clear fBkT fBkF
             by_cases hsn : s = nn
             · clear hns
               subst hsn
               by_cases hkT : bk = T
               · subst hkT
                 go_wp2
                 go_roundw
                 case rel => exact ⟨.inr (.inr rfl), q0.later g2, r0.later g2, r1.later g2, by (exact kpt)⟩
                 case measure => decide
               · have hkT1 : ¬ (bk : Int) = (T : Int) := by omega
                 have hkT2 : ((bk : Int) == (T : Int)) = false := by simp; omega
                 clear hkT
                 go_wp2
                 go_roundw
                 case rel => exact ⟨.inr (.inr rfl), q0.later g2, r0.later g2, r1.later g2, by (exact kpt)⟩
                 case measure => decide
             · have hs1 : ¬ (s : Int) = (nn : Int) := by omega
               have hs2 : ((s : Int) == (nn : Int)) = false := by simp; omega
               clear hsn hns
               by_cases hkT : bk = T
               · subst hkT
                 go_wp2
                 go_roundw
                 case rel => exact ⟨.inr (.inr rfl), q0.later g2, r0.later g2, r1.later g2, by (exact kpt)⟩
                 case measure => decide
               · have hkT1 : ¬ (bk : Int) = (T : Int) := by omega
                 have hkT2 : ((bk : Int) == (T : Int)) = false := by simp; omega
                 clear hkT
                 go_wp2
                 go_roundw
                 case rel => exact ⟨.inr (.inr rfl), q0.later g2, r0.later g2, r1.later g2, by (exact kpt)⟩
                 case measure => decide
           | false =>
             have hkT : bk ≠ T := fBkF rfl
             have hkT1 : ¬ (bk : Int) = (T : Int) := by omega
             have hkT2 : ((bk : Int) == (T : Int)) = false := by simp; omega
             clear fBkT fBkF hkT
             by_cases hs0 : (s : Int) < (nn : Int)
             · go_wp2
               go_roundw
               case rel => exact ⟨.inr (.inr rfl), q0.later g2, r0.later g2, r1.later g2, by (exact kpt)⟩
               case measure => decide
             · by_cases hsn : s = nn
               · subst hsn
                 go_wp2
                 go_roundw
                 case rel => exact ⟨.inr (.inr rfl), q0.later g2, r0.later g2, r1.later g2, by (exact kpt)⟩
                 case measure => decide
               · have hs1 : ¬ (s : Int) = (nn : Int) := by omega
                 have hs2 : ((s : Int) == (nn : Int)) = false := by simp; omega
                 clear hsn
                 go_wp2
                 go_roundw
                 case rel => exact ⟨.inr (.inr rfl), q0.later g2, r0.later g2, r1.later g2, by (exact kpt)⟩
                 case measure => decide
         · go_wp2
           go_roundw
           case rel => exact ⟨s + 1, by omega, by go_num, r0, r1, hkq⟩
           case measure => simp [intOf]; omega
    · have hlt' : ¬ (s : Int) < (xs.length : Int) := by omega
      go_wp2
      go_ret
      exact ⟨rfl, by (exact kpt)⟩

theorem law_MastTurned_prev (a : Option Addr) (c : Nat) (xs : List Axis) (pe mo : Int) (b : Option Addr) (d : Nat) (ys : List Span) (cr : Int) (p : Int) (v : Wind) (m : Int) (w : World) (hx : Row Axis.cells 2 w.heap.size w a xs) (hc : xs.length ≤ c) (hM : c ≤ maxLen) (hy : Row Span.cells 2 w.heap.size w b ys) (hd : ys.length ≤ d) (hN : d ≤ maxLen) (hg : (decide (40 < xs.length) || decide (20 < ys.length)) = false) (h1 : xs.length ≤ 1000000) (pn : Nat) (hp : p = pn) (hok : turnOk xs pn v m = 0) (T nn : Nat) (hnl : nn < xs.length) (hTv : T = backBy xs.length pn nn) (hTn : T ≠ onBy xs.length pn nn) (hcN : calmAt v m xs (onBy xs.length pn nn) = false) (hcT : calmAt v m xs T = true) (hno : ∀ j, j < nn → turnAt v m xs pn j = false) (hE : turnE xs pn v m = 0) (hNN : turnN xs pn v m = (nn : Int)) (hII : turnI xs pn v m = (T : Int)) : Calls Tryz.prog 9 #[.agg #[.slice a xs.length c, .int .i64 pe, .int .i64 mo, .slice b ys.length d, .int .i64 cr], .int .i64 p, .agg #[.int .i64 v.xlo, .int .i64 v.xhi, .int .i64 v.ylo, .int .i64 v.yhi], .int .i64 m] w fun z w' => z = .returned (.bool true) ∧ Kept w w' := by
  subst hp
  obtain ⟨k1, _, k3, _⟩ := turnOk_parts hok
  obtain ⟨hl1, hl2, _⟩ := turnable_parts k1
  have hpn : pn < xs.length := by omega
  have HG := Lib.hid hg
  have HT1 := Lib.hid hII
  have HT2 := Lib.hid hNN
  have HT3 := Lib.hid hE
  clear hg hNN hII hE k1 k3
  have hTl : T < xs.length := by rw [hTv]; exact Nat.mod_lt _ (by omega)
  have s0 := hpn
  have GR1 : ((pn : Int) + (nn : Int)) % (xs.length : Int) = ((onBy xs.length pn nn : Nat) : Int) := by unfold onBy; simp
  have GR2 : ((pn : Int) + (xs.length : Int) - (nn : Int)) % (xs.length : Int) = ((backBy xs.length pn nn : Nat) : Int) := by unfold backBy; rw [show (pn : Int) + (xs.length : Int) - (nn : Int) = ((pn + xs.length - nn : Nat) : Int) by omega]; simp
  have GR4 : ((pn : Int) - (nn : Int) + (xs.length : Int)) % (xs.length : Int) = ((backBy xs.length pn nn : Nat) : Int) := by rw [← GR2]; congr 1; omega
  have GT1 : ((pn : Int) + (nn : Int)).tmod (xs.length : Int) = ((onBy xs.length pn nn : Nat) : Int) := by rw [Int.tmod_eq_emod_of_nonneg (by omega)]; exact GR1
  have GT2 : ((pn : Int) + (xs.length : Int) - (nn : Int)).tmod (xs.length : Int) = ((backBy xs.length pn nn : Nat) : Int) := by rw [Int.tmod_eq_emod_of_nonneg (by omega)]; exact GR2
  have GT4 : ((pn : Int) - (nn : Int) + (xs.length : Int)).tmod (xs.length : Int) = ((backBy xs.length pn nn : Nat) : Int) := by rw [Int.tmod_eq_emod_of_nonneg (by omega)]; exact GR4
  have nxL0 : onBy xs.length pn nn < xs.length := Nat.mod_lt _ (by omega)
  have bfL0 : backBy xs.length pn nn < xs.length := Nat.mod_lt _ (by omega)
  have GAT := Lib.hid (show turnAt v m xs pn nn = (calmAt v m xs (onBy xs.length pn nn) || calmAt v m xs (backBy xs.length pn nn)) from rfl)
  have GTO := Lib.hid (show turnTo v m xs pn nn = if calmAt v m xs (onBy xs.length pn nn) then onBy xs.length pn nn else backBy xs.length pn nn from rfl)
  obtain ⟨nx, hon⟩ : ∃ nx, nx = onBy xs.length pn nn := ⟨_, rfl⟩
  obtain ⟨bf, hbk⟩ : ∃ bf, bf = backBy xs.length pn nn := ⟨_, rfl⟩
  rw [← hon] at GR1 GT1 nxL0 GAT GTO
  rw [← hbk] at GR2 GR4 GT2 GT4 bfL0 GAT GTO
  rw [← hbk] at hTv
  rw [← hon] at hTn hcN
  have HON := Lib.hid hon
  clear hon hbk
  have nxL := nxL0
  have bfL := bfL0
  have gz0 : ¬ (xs.length : Int) = 0 := by omega
  have hz1 : ¬ xs = [] := by intro e; rw [e] at hl1; simp at hl1
  subst hTv
  have hTn1 : ¬ (T : Int) = (nx : Int) := by omega
  have hTn2 : ((T : Int) == (nx : Int)) = false := by simp; omega
  have j1 : (0 : Int) ≤ (T : Int) := by omega
  have j2 : (T : Int) < (xs.length : Int) := by omega
  have j3 : (nn : Int) < (xs.length : Int) := by omega
  have j4 : (pn : Int) < (xs.length : Int) := by omega
  have j5 : ¬ (xs.length : Int) ≤ (T : Int) := by omega
  have j6 : ¬ (xs.length : Int) ≤ (nn : Int) := by omega
  have j7 : ¬ (xs.length : Int) ≤ (pn : Int) := by omega
  have dA1 : decide ((pn : Int) < 0) = false := decide_eq_false (by omega)
  have dA2 : decide (xs.length ≤ pn) = false := decide_eq_false (by omega)
  have dT1 : decide ((T : Int) < 0) = false := decide_eq_false (by omega)
  have dT2 : decide (xs.length ≤ T) = false := decide_eq_false (by omega)
  have dN1 : decide ((nn : Int) < 0) = false := decide_eq_false (by omega)
  have dN2 : decide (xs.length ≤ nn) = false := decide_eq_false (by omega)
  have j8 : ((xs.length : Int) == 0) = false := by simp; omega
  have j9 : (0 : Int) ≤ (nn : Int) := by omega
  have j10 : (0 : Int) ≤ (pn : Int) := by omega
  have W1 := i64_in (n := (pn : Int) + (nn : Int)) (by omega)
  have W2 := i64_in (n := (pn : Int) - (nn : Int)) (by omega)
  have W3 := i64_in (n := (pn : Int) - (nn : Int) + (xs.length : Int)) (by omega)
  have W5 := i64_in (n := (nx : Int)) (by omega)
  have W6 := i64_in (n := (T : Int)) (by omega)
  go_enter Tryz.func9, Tryz.ntmps9
  go_upto_region 12 with (first | (go_at_call 11; (with_reducible refine (o_alive _).mono ?_); rintro z wA ⟨rfl, hbA⟩; refine Blk.thru (b := w.heap.size) (arr := ?_) (t := ?_) ?_ hbA ?_; rotate_left 2; (focus (exact blk)); intro r0; have r0c0 := r0.cell 0; have r0f0 := r0.free 0; have r0c1 := r0.cell 1; have r0f1 := r0.free 1; have r0c2 := r0.cell 2; have r0f2 := r0.free 2; have r0c3 := r0.cell 3; have r0f3 := r0.free 3; have r0c4 := r0.cell 4; have r0f4 := r0.free 4; have r0l := r0.lt; simp at r0c0 r0c1 r0c2 r0c3 r0c4; refine Blk.thru (b := w.heap.size + 1) (arr := ?_) (t := ?_) ?_ hbA ?_; rotate_left 2; (focus (exact blk)); intro r1; have r1c0 := r1.cell 0; have r1f0 := r1.free 0; have r1c1 := r1.cell 1; have r1f1 := r1.free 1; have r1c2 := r1.cell 2; have r1f2 := r1.free 2; have r1c3 := r1.cell 3; have r1f3 := r1.free 3; have r1l := r1.lt; simp at r1c0 r1c1 r1c2 r1c3) | (go_at_call 12; (with_reducible refine (r_Great a c xs pe mo b d ys cr _ hM hN hc hd).mono ?_); rw [HG.out]; rintro z wG ⟨rfl, hbG⟩; refine Blk.thru (b := w.heap.size) (arr := ?_) (t := ?_) ?_ hbG ?_; rotate_left 2; (focus (exact blk)); intro r0; have r0c0 := r0.cell 0; have r0f0 := r0.free 0; have r0c1 := r0.cell 1; have r0f1 := r0.free 1; have r0c2 := r0.cell 2; have r0f2 := r0.free 2; have r0c3 := r0.cell 3; have r0f3 := r0.free 3; have r0c4 := r0.cell 4; have r0f4 := r0.free 4; have r0l := r0.lt; simp at r0c0 r0c1 r0c2 r0c3 r0c4; refine Blk.thru (b := w.heap.size + 1) (arr := ?_) (t := ?_) ?_ hbG ?_; rotate_left 2; (focus (exact blk)); intro r1; have r1c0 := r1.cell 0; have r1f0 := r1.free 0; have r1c1 := r1.cell 1; have r1f1 := r1.free 1; have r1c2 := r1.cell 2; have r1f2 := r1.free 2; have r1c3 := r1.cell 3; have r1f3 := r1.free 3; have r1l := r1.lt; simp at r1c0 r1c1 r1c2 r1c3) | (go_at_call 33; (with_reducible refine (f_Turn a c xs (pn : Int) v m _ (hx.later (by (exact kpt)) (Nat.le_refl _)) hc hM h1).mono ?_); rw [HT1.out, HT2.out, HT3.out]; rintro z wT ⟨rfl, hbT⟩; refine Blk.thru (b := w.heap.size) (arr := ?_) (t := ?_) ?_ hbT ?_; rotate_left 2; (focus (exact blk)); intro r0; have r0c0 := r0.cell 0; have r0f0 := r0.free 0; have r0c1 := r0.cell 1; have r0f1 := r0.free 1; have r0c2 := r0.cell 2; have r0f2 := r0.free 2; have r0c3 := r0.cell 3; have r0f3 := r0.free 3; have r0c4 := r0.cell 4; have r0f4 := r0.free 4; have r0l := r0.lt; simp at r0c0 r0c1 r0c2 r0c3 r0c4; refine Blk.thru (b := w.heap.size + 1) (arr := ?_) (t := ?_) ?_ hbT ?_; rotate_left 2; (focus (exact blk)); intro r1; have r1c0 := r1.cell 0; have r1f0 := r1.free 0; have r1c1 := r1.cell 1; have r1f1 := r1.free 1; have r1c2 := r1.cell 2; have r1f2 := r1.free 2; have r1c3 := r1.cell 3; have r1f3 := r1.free 3; have r1l := r1.lt; simp at r1c0 r1c1 r1c2 r1c3))
  refine at_world (S := fun V => Blk V w.heap.size #[.slice a xs.length c, .int .i64 pe, .int .i64 mo, .slice b ys.length d, .int .i64 cr] 25 ∧ Blk V (w.heap.size + 1) #[.int .i64 v.xlo, .int .i64 v.xhi, .int .i64 v.ylo, .int .i64 v.yhi] 39 ∧ Kept w V) ⟨by (exact blk), by (exact blk), by (exact kpt)⟩ ?_
  rintro V ⟨r0, r1, hkV⟩
  refine Later.region (by kernel_rfl) (by kernel_rfl) ?_
  repeat (first | go_big_quiet_skip | (go_big_quiet_want; go_big_quiet_op; first | go_big_quiet_on | (apply Exists.intro; refine ⟨fun g_ => ?_, ?_⟩; (focus (first | fail)); go_big_quiet_on)))
  refine wpQuiet_nil ?_
  intro gg
  have hkg := Kept.drop hkV gg.ok
  have m0 := r0.later gg
  have m1 := r1.later gg
  clear GR1 GR2 GR4 GT1 GT2 GT4 W1 W2 W3 W5 W6 hkV r0 r1
  go_wp2
  go_loopw [110] (fun i wr => ∃ s : Nat, s ≤ xs.length ∧ i = .int .i64 s ∧ Blk wr w.heap.size #[.slice a xs.length c, .int .i64 pe, .int .i64 mo, .slice b ys.length d, .int .i64 cr] 25 ∧ Blk wr (w.heap.size + 1) #[.int .i64 v.xlo, .int .i64 v.xhi, .int .i64 v.ylo, .int .i64 v.yhi] 39 ∧ Kept w wr) (fun i _ => xs.length - (intOf i).toNat)
  case atStart => exact ⟨0, Nat.zero_le _, rfl, m0, m1, hkg⟩
  case round =>
    clear m0 m1 hkg
    obtain ⟨s, hs, rfl, r0, r1, hk⟩ := hrel
    by_cases hlt : s < xs.length
    · have hlt' : (s : Int) < (xs.length : Int) := by omega
      have HR1 : ((pn : Int) + (s : Int)) % (xs.length : Int) = ((onBy xs.length pn s : Nat) : Int) := by unfold onBy; simp
      have HR2 : ((pn : Int) + (xs.length : Int) - (s : Int)) % (xs.length : Int) = ((backBy xs.length pn s : Nat) : Int) := by unfold backBy; rw [show (pn : Int) + (xs.length : Int) - (s : Int) = ((pn + xs.length - s : Nat) : Int) by omega]; simp
      have HR4 : ((pn : Int) - (s : Int) + (xs.length : Int)) % (xs.length : Int) = ((backBy xs.length pn s : Nat) : Int) := by rw [← HR2]; congr 1; omega
      have HT1' : ((pn : Int) + (s : Int)).tmod (xs.length : Int) = ((onBy xs.length pn s : Nat) : Int) := by rw [Int.tmod_eq_emod_of_nonneg (by omega)]; exact HR1
      have HT2' : ((pn : Int) + (xs.length : Int) - (s : Int)).tmod (xs.length : Int) = ((backBy xs.length pn s : Nat) : Int) := by rw [Int.tmod_eq_emod_of_nonneg (by omega)]; exact HR2
      have HT4' : ((pn : Int) - (s : Int) + (xs.length : Int)).tmod (xs.length : Int) = ((backBy xs.length pn s : Nat) : Int) := by rw [Int.tmod_eq_emod_of_nonneg (by omega)]; exact HR4
      have onL0 : onBy xs.length pn s < xs.length := Nat.mod_lt _ (by omega)
      have bkL0 : backBy xs.length pn s < xs.length := Nat.mod_lt _ (by omega)
      have HAT := Lib.hid (show turnAt v m xs pn s = (calmAt v m xs (onBy xs.length pn s) || calmAt v m xs (backBy xs.length pn s)) from rfl)
      have HTO := Lib.hid (show turnTo v m xs pn s = if calmAt v m xs (onBy xs.length pn s) then onBy xs.length pn s else backBy xs.length pn s from rfl)
      obtain ⟨on, hon⟩ : ∃ on, on = onBy xs.length pn s := ⟨_, rfl⟩
      obtain ⟨bk, hbk⟩ : ∃ bk, bk = backBy xs.length pn s := ⟨_, rfl⟩
      rw [← hon] at HR1 HT1' onL0 HAT HTO
      rw [← hbk] at HR2 HR4 HT2' HT4' bkL0 HAT HTO
      have HON2 := Lib.hid hon
      clear hon hbk
      have onL := onL0
      have bkL := bkL0
      have hz0 : ¬ (xs.length : Int) = 0 := by omega
      have hz1 : ¬ xs = [] := by intro e; rw [e] at hl1; simp at hl1
      have fNo : s < nn → calmAt v m xs on = false ∧ calmAt v m xs bk = false := fun h => by have := hno s h; rw [HAT.out] at this; simpa using this
      have fOnG : calmAt v m xs on = true → nn ≤ s := fun h => Nat.le_of_not_lt fun h' => by rw [(fNo h').1] at h; cases h
      have fOnT : calmAt v m xs on = true → nn ≤ s ∧ (s = nn → False) := fun h => ⟨fOnG h, fun e => by subst e; rw [show on = nx from (HON2.out).trans HON.out.symm, hcN] at h; cases h⟩
      have fOnF : calmAt v m xs on = false → on ≠ T := fun h e => by rw [e, hcT] at h; cases h
      have fBkT : calmAt v m xs bk = true → nn ≤ s := fun h => Nat.le_of_not_lt fun h' => by rw [(fNo h').2] at h; cases h
      have fBkF : calmAt v m xs bk = false → bk ≠ T := fun h e => by rw [e, hcT] at h; cases h
      clear fNo fOnG
      go_upto_region 18 with fail
      have W1 := i64_in (n := (pn : Int) + (s : Int)) (by omega)
      have W2 := i64_in (n := (pn : Int) - (s : Int)) (by omega)
      have W3 := i64_in (n := (pn : Int) - (s : Int) + (xs.length : Int)) (by omega)
      have W5 := i64_in (n := (on : Int)) (by omega)
      have W6 := i64_in (n := (bk : Int)) (by omega)
      go_cut [125, 126, 127] (fun s6 s7 s8 wx => ∃ g, s6 = .slice (some ⟨g, 0, none⟩) 2 2 ∧ s7 = .int .i64 2 ∧ s8 = .int .i64 0 ∧ Blk wx g #[.int .i64 on, .int .i64 bk] 3 ∧ Blk wx w.heap.size #[.slice a xs.length c, .int .i64 pe, .int .i64 mo, .slice b ys.length d, .int .i64 cr] 25 ∧ Blk wx (w.heap.size + 1) #[.int .i64 v.xlo, .int .i64 v.xhi, .int .i64 v.ylo, .int .i64 v.yhi] 39 ∧ Kept w wx)
      case first =>
        go_region_held3 (fun w' => Kept wr w') (exact kpt) (fail)
        all_goals (go_wp2_with fail; go_meet)
        all_goals
          refine ⟨_, rfl, rfl, rfl, ?_, ?_, ?_, ?_⟩
          · first | exact Blk.drew (Blk.new' rfl) | exact Blk.new' rfl | exact Blk.drew (Blk.new' (by simp))
          · (exact blk)
          · (exact blk)
          · (exact kpt)
      case rest =>
       clear r0 r1 hk
       obtain ⟨g, rfl, rfl, rfl, q0, r0, r1, hkq⟩ := hcut
       clear W1 W2 W3 W5 W6 HR1 HR2 HR4 HT1' HT2' HT4'
       go_wp2
       go_loopw [127] (fun i wq => (i = .int .i64 0 ∨ i = .int .i64 1 ∨ i = .int .i64 2) ∧ Blk wq g #[.int .i64 on, .int .i64 bk] 3 ∧ Blk wq w.heap.size #[.slice a xs.length c, .int .i64 pe, .int .i64 mo, .slice b ys.length d, .int .i64 cr] 25 ∧ Blk wq (w.heap.size + 1) #[.int .i64 v.xlo, .int .i64 v.xhi, .int .i64 v.ylo, .int .i64 v.yhi] 39 ∧ Kept w wq) (fun i _ => 2 - (intOf i).toNat)
       case atStart => exact ⟨.inl rfl, q0, r0, r1, hkq⟩
       case round =>
         rename World => wq
         clear r0 r1 q0 hkq
         obtain ⟨hc3, q0, r0, r1, hkq⟩ := hrel
         have q0c0 := q0.cell 0
         have q0f0 := q0.free 0
         have q0c1 := q0.cell 1
         have q0f1 := q0.free 1
         have q0l := q0.lt
         simp at q0c0 q0c1
         rcases hc3 with rfl | rfl | rfl
         · have hix : on < xs.length := onL
           obtain ⟨bb, off, rfl, hbl, h0, h1'⟩ := Axis.row (hx.later hkq (Nat.le_refl _)) on hix
           obtain ⟨HCE, HCB⟩ := calmAt_is hok hix
           have HCC := fun w => f_Calm v xs[on] m w
           rw [HCE, HCB] at HCC
           clear HCE HCB
           obtain ⟨x, hx0⟩ : ∃ x, x = xs[on] := ⟨_, rfl⟩
           rw [← hx0] at HCC h0 h1'
           clear hx0
           obtain ⟨V, hV⟩ : ∃ V, V = calmAt v m xs on := ⟨_, rfl⟩
           rw [← hV] at HCC
           rw [← hV] at fOnT fOnF
           clear hV
           have x0 := fun g : Later wq => g.some h0
           have x1 := fun g : Later wq => g.some h1'
           clear h0 h1'
           have r0c0 := fun g : Later wq => (r0.later g).cell 0
           have r0f0 := fun g : Later wq => (r0.later g).free 0
           have r0c1 := fun g : Later wq => (r0.later g).cell 1
           have r0f1 := fun g : Later wq => (r0.later g).free 1
           have r0c2 := fun g : Later wq => (r0.later g).cell 2
           have r0f2 := fun g : Later wq => (r0.later g).free 2
           have r0c3 := fun g : Later wq => (r0.later g).cell 3
           have r0f3 := fun g : Later wq => (r0.later g).free 3
           have r0c4 := fun g : Later wq => (r0.later g).cell 4
           have r0f4 := fun g : Later wq => (r0.later g).free 4
           have r0l := fun g : Later wq => (r0.later g).lt
           simp at r0c0 r0c1 r0c2 r0c3 r0c4
           have r1c0 := fun g : Later wq => (r1.later g).cell 0
           have r1f0 := fun g : Later wq => (r1.later g).free 0
           have r1c1 := fun g : Later wq => (r1.later g).cell 1
           have r1f1 := fun g : Later wq => (r1.later g).free 1
           have r1c2 := fun g : Later wq => (r1.later g).cell 2
           have r1f2 := fun g : Later wq => (r1.later g).free 2
           have r1c3 := fun g : Later wq => (r1.later g).cell 3
           have r1f3 := fun g : Later wq => (r1.later g).free 3
           have r1l := fun g : Later wq => (r1.later g).lt
           simp at r1c0 r1c1 r1c2 r1c3
           have i0 : (0 : Int) ≤ (on : Int) := by omega
           have i1 : (on : Int) < (xs.length : Int) := by omega
           go_upto_region 21 with fail
           refine Later.region (by kernel_rfl) (by kernel_rfl) ?_
           repeat (first | go_big_quiet_skip | (go_big_quiet_want; go_big_quiet_op; first | go_big_quiet_on | (apply Exists.intro; refine ⟨fun g_ => ?_, ?_⟩; (focus (first | (go_at_call 22; with_reducible exact Later.call (HCC _)))); go_big_quiet_on)))
           refine wpQuiet_nil ?_
           intro g2
           have hkg := Kept.drop hkq g2.ok
           cases V with
           | true =>
             have hns := fOnT rfl
             have hns1 : ¬ (s : Int) < (nn : Int) := by omega
             clear fOnT fOnF
             by_cases hsn : s = nn
             · exact absurd (hns.2 hsn) (by simp)
             · have hs1 : ¬ (s : Int) = (nn : Int) := by omega
               have hs2 : ((s : Int) == (nn : Int)) = false := by simp; omega
               clear hsn hns
               by_cases hkT : on = T
               · subst hkT
                 go_wp2
                 go_roundw
                 case rel => exact ⟨.inr (.inl rfl), q0.later g2, r0.later g2, r1.later g2, by (exact kpt)⟩
                 case measure => decide
               · have hkT1 : ¬ (on : Int) = (T : Int) := by omega
                 have hkT2 : ((on : Int) == (T : Int)) = false := by simp; omega
                 clear hkT
                 go_wp2
                 go_roundw
                 case rel => exact ⟨.inr (.inl rfl), q0.later g2, r0.later g2, r1.later g2, by (exact kpt)⟩
                 case measure => decide
           | false =>
             have hkT : on ≠ T := fOnF rfl
             have hkT1 : ¬ (on : Int) = (T : Int) := by omega
             have hkT2 : ((on : Int) == (T : Int)) = false := by simp; omega
             clear fOnT fOnF hkT
             by_cases hs0 : (s : Int) < (nn : Int)
             · go_wp2
               go_roundw
               case rel => exact ⟨.inr (.inl rfl), q0.later g2, r0.later g2, r1.later g2, by (exact kpt)⟩
               case measure => decide
             · by_cases hsn : s = nn
               · subst hsn
                 go_wp2
                 go_roundw
                 case rel => exact ⟨.inr (.inl rfl), q0.later g2, r0.later g2, r1.later g2, by (exact kpt)⟩
                 case measure => decide
               · have hs1 : ¬ (s : Int) = (nn : Int) := by omega
                 have hs2 : ((s : Int) == (nn : Int)) = false := by simp; omega
                 clear hsn
                 go_wp2
                 go_roundw
                 case rel => exact ⟨.inr (.inl rfl), q0.later g2, r0.later g2, r1.later g2, by (exact kpt)⟩
                 case measure => decide
         · have hix : bk < xs.length := bkL
           obtain ⟨bb, off, rfl, hbl, h0, h1'⟩ := Axis.row (hx.later hkq (Nat.le_refl _)) bk hix
           obtain ⟨HCE, HCB⟩ := calmAt_is hok hix
           have HCC := fun w => f_Calm v xs[bk] m w
           rw [HCE, HCB] at HCC
           clear HCE HCB
           obtain ⟨x, hx0⟩ : ∃ x, x = xs[bk] := ⟨_, rfl⟩
           rw [← hx0] at HCC h0 h1'
           clear hx0
           obtain ⟨V, hV⟩ : ∃ V, V = calmAt v m xs bk := ⟨_, rfl⟩
           rw [← hV] at HCC
           rw [← hV] at fBkT fBkF
           clear hV
           have x0 := fun g : Later wq => g.some h0
           have x1 := fun g : Later wq => g.some h1'
           clear h0 h1'
           have r0c0 := fun g : Later wq => (r0.later g).cell 0
           have r0f0 := fun g : Later wq => (r0.later g).free 0
           have r0c1 := fun g : Later wq => (r0.later g).cell 1
           have r0f1 := fun g : Later wq => (r0.later g).free 1
           have r0c2 := fun g : Later wq => (r0.later g).cell 2
           have r0f2 := fun g : Later wq => (r0.later g).free 2
           have r0c3 := fun g : Later wq => (r0.later g).cell 3
           have r0f3 := fun g : Later wq => (r0.later g).free 3
           have r0c4 := fun g : Later wq => (r0.later g).cell 4
           have r0f4 := fun g : Later wq => (r0.later g).free 4
           have r0l := fun g : Later wq => (r0.later g).lt
           simp at r0c0 r0c1 r0c2 r0c3 r0c4
           have r1c0 := fun g : Later wq => (r1.later g).cell 0
           have r1f0 := fun g : Later wq => (r1.later g).free 0
           have r1c1 := fun g : Later wq => (r1.later g).cell 1
           have r1f1 := fun g : Later wq => (r1.later g).free 1
           have r1c2 := fun g : Later wq => (r1.later g).cell 2
           have r1f2 := fun g : Later wq => (r1.later g).free 2
           have r1c3 := fun g : Later wq => (r1.later g).cell 3
           have r1f3 := fun g : Later wq => (r1.later g).free 3
           have r1l := fun g : Later wq => (r1.later g).lt
           simp at r1c0 r1c1 r1c2 r1c3
           have i0 : (0 : Int) ≤ (bk : Int) := by omega
           have i1 : (bk : Int) < (xs.length : Int) := by omega
           go_upto_region 21 with fail
           refine Later.region (by kernel_rfl) (by kernel_rfl) ?_
           repeat (first | go_big_quiet_skip | (go_big_quiet_want; go_big_quiet_op; first | go_big_quiet_on | (apply Exists.intro; refine ⟨fun g_ => ?_, ?_⟩; (focus (first | (go_at_call 22; with_reducible exact Later.call (HCC _)))); go_big_quiet_on)))
           refine wpQuiet_nil ?_
           intro g2
           have hkg := Kept.drop hkq g2.ok
           cases V with
           | true =>
             have hns := fBkT rfl
             have hns1 : ¬ (s : Int) < (nn : Int) := by omega
             clear fBkT fBkF
             by_cases hsn : s = nn
             · clear hns
               subst hsn
               by_cases hkT : bk = T
               · subst hkT
                 go_wp2
                 go_roundw
                 case rel => exact ⟨.inr (.inr rfl), q0.later g2, r0.later g2, r1.later g2, by (exact kpt)⟩
                 case measure => decide
               · have hkT1 : ¬ (bk : Int) = (T : Int) := by omega
                 have hkT2 : ((bk : Int) == (T : Int)) = false := by simp; omega
                 clear hkT
                 go_wp2
                 go_roundw
                 case rel => exact ⟨.inr (.inr rfl), q0.later g2, r0.later g2, r1.later g2, by (exact kpt)⟩
                 case measure => decide
             · have hs1 : ¬ (s : Int) = (nn : Int) := by omega
               have hs2 : ((s : Int) == (nn : Int)) = false := by simp; omega
               clear hsn hns
               by_cases hkT : bk = T
               · subst hkT
                 go_wp2
                 go_roundw
                 case rel => exact ⟨.inr (.inr rfl), q0.later g2, r0.later g2, r1.later g2, by (exact kpt)⟩
                 case measure => decide
               · have hkT1 : ¬ (bk : Int) = (T : Int) := by omega
                 have hkT2 : ((bk : Int) == (T : Int)) = false := by simp; omega
                 clear hkT
                 go_wp2
                 go_roundw
                 case rel => exact ⟨.inr (.inr rfl), q0.later g2, r0.later g2, r1.later g2, by (exact kpt)⟩
                 case measure => decide
           | false =>
             have hkT : bk ≠ T := fBkF rfl
             have hkT1 : ¬ (bk : Int) = (T : Int) := by omega
             have hkT2 : ((bk : Int) == (T : Int)) = false := by simp; omega
             clear fBkT fBkF hkT
             by_cases hs0 : (s : Int) < (nn : Int)
             · go_wp2
               go_roundw
               case rel => exact ⟨.inr (.inr rfl), q0.later g2, r0.later g2, r1.later g2, by (exact kpt)⟩
               case measure => decide
             · by_cases hsn : s = nn
               · subst hsn
                 go_wp2
                 go_roundw
                 case rel => exact ⟨.inr (.inr rfl), q0.later g2, r0.later g2, r1.later g2, by (exact kpt)⟩
                 case measure => decide
               · have hs1 : ¬ (s : Int) = (nn : Int) := by omega
                 have hs2 : ((s : Int) == (nn : Int)) = false := by simp; omega
                 clear hsn
                 go_wp2
                 go_roundw
                 case rel => exact ⟨.inr (.inr rfl), q0.later g2, r0.later g2, r1.later g2, by (exact kpt)⟩
                 case measure => decide
         · go_wp2
           go_roundw
           case rel => exact ⟨s + 1, by omega, by go_num, r0, r1, hkq⟩
           case measure => simp [intOf]; omega
    · have hlt' : ¬ (s : Int) < (xs.length : Int) := by omega
      go_wp2
      go_ret
      exact ⟨rfl, by (exact kpt)⟩

theorem law_MastTurned (a : Option Addr) (c : Nat) (xs : List Axis) (pe mo : Int) (b : Option Addr) (d : Nat) (ys : List Span) (cr : Int) (p : Int) (v : Wind) (m : Int) (w : World) (hx : Row Axis.cells 2 w.heap.size w a xs) (hc : xs.length ≤ c) (hM : c ≤ maxLen) (hy : Row Span.cells 2 w.heap.size w b ys) (hd : ys.length ≤ d) (hN : d ≤ maxLen) : Calls Tryz.prog 9 #[.agg #[.slice a xs.length c, .int .i64 pe, .int .i64 mo, .slice b ys.length d, .int .i64 cr], .int .i64 p, .agg #[.int .i64 v.xlo, .int .i64 v.xhi, .int .i64 v.ylo, .int .i64 v.yhi], .int .i64 m] w fun z w' => z = .returned (.bool true) ∧ Kept w w' := by
  cases hg : (decide (40 < xs.length) || decide (20 < ys.length))
  · have h1 : xs.length ≤ 1000000 := by simp at hg; omega
    rcases turn_cases (l := xs) (p := p) (v := v) (m := m) with ⟨hE, hok, s, hs, hN', hI, hat, hno⟩ | ⟨hE, hok, hN', hI, hno⟩ | ⟨⟨h0, h6⟩, hN', hI⟩
    · obtain ⟨_, _, hp, _⟩ := turnOk_parts hok
      obtain ⟨pn, hpn⟩ : ∃ pn : Nat, p = pn := ⟨p.toNat, by omega⟩
      subst hpn
      rw [Int.toNat_natCast] at hI hat hno
      unfold turnTo at hI
      cases hcn : calmAt v m xs (onBy xs.length pn s)
      · rw [hcn, if_neg (by simp)] at hI
        have hcb : calmAt v m xs (backBy xs.length pn s) = true := by unfold turnAt at hat; rw [hcn] at hat; simpa using hat
        exact law_MastTurned_prev a c xs pe mo b d ys cr pn v m w hx hc hM hy hd hN hg h1 pn rfl hok _ s hs rfl (fun e => by rw [e, hcn] at hcb; cases hcb) hcn hcb hno hE hN' hI
      · rw [hcn, if_pos rfl] at hI
        exact law_MastTurned_next a c xs pe mo b d ys cr pn v m w hx hc hM hy hd hN hg h1 pn rfl hok _ s hs rfl hcn hno hE hN' hI
    · obtain ⟨_, _, hp, _⟩ := turnOk_parts hok
      obtain ⟨pn, hpn⟩ : ∃ pn : Nat, p = pn := ⟨p.toNat, by omega⟩
      subst hpn
      rw [Int.toNat_natCast] at hno
      exact law_MastTurned_none a c xs pe mo b d ys cr pn v m w hx hc hM hy hd hN hg h1 pn rfl hok 0 0 (by have := hp; omega) (by omega) hno hE (by simpa using hN') (by simpa using hI)
    · exact law_MastTurned_bad a c xs pe mo b d ys cr p v m w hx hc hM hy hd hN hg h1 _ rfl h0 h6 hN' hI
  · exact law_MastTurned_great a c xs pe mo b d ys cr p v m w hx hc hM hy hd hN hg
end Go.Proofs.YtacbkbilbmkjnaaGreat

/-
  MastTurned, the statement: for every input the call returns true and leaves the input alone.
-/
namespace Go.Proofs.YtacbkbilbmkjnaaGreat.mastTurned
open Go.ChangeShapes Go.WideShapes Go.ChangeAt Go.RowKit Bal Bal.Trim Bal.Mast
open Go.ChangeMaps (open_string shut_string)
set_option linter.unusedVariables false

theorem own : ownKnob Tryz.prog.godebug = none := by kernel_rfl
theorem laidOut : laidOutB Tryz.prog = true := by kernel_rfl

set_option maxRecDepth 100000 in
theorem lifted (os : Os) (started : os.Started) (H : Type) (enc : TypeId × Value → H) :
    ReturnsInHanded {} Tryz.checked os 9 .any (Rows.mastTurnedSpec.pre6 enc Tryz.prog Tryz.f9 Rows.mastTurnedRow.domain false) (Rows.mastTurnedSpec.post enc Tryz.prog Tryz.f9 false true false false) := by
  refine returnsInHanded_of_change (C := Tryz.checked) own started (by kernel_rfl) Tryz.func9
    (ChangeSpec.witness6 (enc := enc) (C := Tryz.checked) false ⟨#[], #[.agg #[.slice none 0 0, .int .i64 0, .int .i64 0, .slice none 0 0, .int .i64 0], .int .i64 0, .agg #[.int .i64 0, .int .i64 0, .int .i64 0, .int .i64 0], .int .i64 0], []⟩ 8 (by kernel_rfl) (by kernel_rfl) (by kernel_rfl) (by kernel_rfl)) ?_
  intro W base args ds gs before hval0 hW hcnd _
  have hval : ∀ (j : Nat) t v, Tryz.f9.params[j]? = some t → args[j]? = some v → Value.okWide Tryz.prog W .any base t v := hval0
  have hW' := hW
  obtain ⟨p, q, hA0, hV, rfl, hfz, hnd⟩ := hW
  have hA : DataW.TrodAll enc Tryz.prog W 0 (fun _ => true) true Tryz.f9.params.toList args.toList ds p := hA0
  rw [Tryz.params9] at hA hval
  obtain ⟨v0, vs0, d0, ds0, p0, q0, hargs, rfl, rfl, h0, r0⟩ := trodAll_cons hA
  obtain ⟨v1, vs1, d1, ds1, p1, q1, rfl, rfl, rfl, h1, r1⟩ := trodAll_cons r0
  obtain ⟨v2, vs2, d2, ds2, p2, q2, rfl, rfl, rfl, h2, r2⟩ := trodAll_cons r1
  obtain ⟨v3, vs3, d3, ds3, p3, q3, rfl, rfl, rfl, h3, r3⟩ := trodAll_cons r2
  obtain ⟨rfl, rfl, rfl⟩ := trodAll_nil r3
  obtain rfl : args = #[v0, v1, v2, v3] := by cases args; simp_all
  obtain ⟨rfl, rfl⟩ := trodVars_none hV
  have k0 := h0
  have lt0 : ∀ x ∈ p0, x.block < W.heap.size := by obtain ⟨m, hm⟩ := k0; exact DataW.trod_lt m _ _ _ hm
  obtain ⟨pa, pc, pxs, ppe, pmo, pb, pd, pys, pcr, rfl, px1, px2, px3, px4, py1, py2, py3, py4⟩ := open_port (hval 0 25 v0 rfl rfl) h0
  obtain ⟨a1, rfl, rfl, rfl, w1⟩ := open_int Tryz.underlying3 (hval 1 3 v1 rfl rfl) h1
  have k2 := h2
  have lt2 : ∀ x ∈ p2, x.block < W.heap.size := by obtain ⟨m, hm⟩ := k2; exact DataW.trod_lt m _ _ _ hm
  obtain ⟨a2, rfl, wf2⟩ := open_agg (n := 5) (fun _ h => Wind.of_leaves h) Tryz.underlying39 (by kernel_rfl) (hval 2 39 v2 rfl rfl) h2
  obtain ⟨a3, rfl, rfl, rfl, w3⟩ := open_int Tryz.underlying3 (hval 3 3 v3 rfl rfl) h3
  clear hA0 hval0
  refine (law_MastTurned pa pc pxs ppe pmo pb pd pys pcr a1 a2 a3 W px1 px2 px3 py1 py2 py3).mono fun e W' ⟨he, bel⟩ => ?_
  subst he
  exact ⟨_, rfl, _, _, _, [], _, [], hW', trodAll_mk1 (shut_bool Tryz.underlying4 _), (trodAll_cons_mk (Below.trod laidOut (by kernel_rfl) (of_decide_eq_true (by kernel_rfl)) k0 bel lt0) (trodAll_cons_mk (shut_int Tryz.underlying3 w1) (trodAll_cons_mk (Below.trod laidOut (by kernel_rfl) (of_decide_eq_true (by kernel_rfl)) k2 bel lt2) (trodAll_cons_mk (shut_int Tryz.underlying3 w3) trodAll_mk0)))), rfl, bel.frame _, fun h => by cases h⟩

theorem joined : joinedFacts Tryz.prog 9 Tryz.f9 Rows.mastTurnedSpec Rows.mastTurnedRow = true := by
  unfold joinedFacts
  rw [mayEnter_is, liftsFinal_is, make_is]
  kernel_rfl
theorem over : Rows.mastTurnedRow.holds Tryz.pinned (OpenSpec.ofChange Rows.mastTurnedSpec) :=
  OpenClaim.holds_of_wide 9 Tryz.f9 rfl rfl rfl rfl rfl rfl rfl ⟨rfl, rfl, rfl, rfl, rfl⟩ rfl rfl rfl rfl rfl (by kernel_rfl) Tryz.func9 joined
    (of_decide_eq_true (by kernel_rfl)) (by unfold Func.isWrapper; first | (rw [if_pos (by decide +kernel)]; kernel_rfl) | (rw [if_neg (by decide +kernel)]; exact ⟨rfl, rfl⟩))
    (fun os started H enc _ => lifted os started H enc)
end Go.Proofs.YtacbkbilbmkjnaaGreat.mastTurned

namespace Go.Proofs.YtacbkbilbmkjnaaGreat
theorem mastTurned_holds : Rows.MastTurnedSaid := mastTurned.over
#print axioms mastTurned_holds
end Go.Proofs.YtacbkbilbmkjnaaGreat
