/-
  Plants: whether one is valid, in the reference.
-/
import Derived.Test.YtemafanncejeiaaGasDB
namespace Go.Proofs.Ytemafanncejeiaa
open Go.RowKit Bal Bal.Trim Bal.Gas
set_option linter.unusedVariables false
set_option linter.unusedSimpArgs false
set_option maxHeartbeats 4000000
set_option maxRecDepth 10000

theorem r_Plant_early (p : Plant) (a : Option Addr) (cap : Nat) (w : World) (hx : Row Cell.cells 7 w.heap.size w a p.cells) (hc : p.cells.length ≤ cap) (hM : cap ≤ maxLen) (h : ¬ (p.cells.length ≤ 12 ∧ inB p.bottles 0 10000000 = true ∧ (books p).all parB = true)) :
    Calls Try.prog 115 #[.agg #[.slice a p.cells.length cap, .int .i64 p.bottles, .int .i64 p.inH, .int .i64 p.inA, .int .i64 p.vH, .int .i64 p.vA, .int .i64 p.lH, .int .i64 p.lA, .int .i64 p.pH, .int .i64 p.pA]] w fun e w' => e = .returned (.bool false) ∧ Kept w w' := by
  unfold maxLen at hM
  by_cases h0 : 12 < p.cells.length
  · clear h
    go_enter Try.func115, Try.ntmps115
    go_wp2
    go_ret
    exact ⟨rfl, by (exact kpt)⟩
  · have h0' : p.cells.length ≤ 12 := by omega
    cases t0 : inB p.bottles 0 10000000
    · have T0 := Lib.hid t0
      clear h t0
      go_enter Try.func115, Try.ntmps115
      go_wp2_with (first | (go_at_call 104; (with_reducible refine (r_within p.bottles _ _ _).mono ?_); rw [T0.out]; rintro e w1 ⟨rfl, rfl⟩))
      go_ret
      exact ⟨rfl, by (exact kpt)⟩
    · skip
      cases t1 : booksB p.inH p.inA
      · have T0 := Lib.hid t0
        have T1 := Lib.hid t1
        clear h t0 t1
        go_enter Try.func115, Try.ntmps115
        go_wp2_with (first | (go_at_call 104; (with_reducible refine (r_within p.bottles _ _ _).mono ?_); rw [T0.out]; rintro e w1 ⟨rfl, rfl⟩) | (go_at_call 137; (with_reducible refine (r_counted p.inH p.inA _).mono ?_); rw [T1.out]; rintro e w1 ⟨rfl, hb1⟩; refine Blk.thru (b := w.heap.size) (arr := ?_) (t := ?_) ?_ hb1 ?_; rotate_left 2; (focus (exact blk)); intro p0; have p0c0 := p0.cell 0; have p0f0 := p0.free 0; have p0c1 := p0.cell 1; have p0f1 := p0.free 1; have p0c2 := p0.cell 2; have p0f2 := p0.free 2; have p0c3 := p0.cell 3; have p0f3 := p0.free 3; have p0c4 := p0.cell 4; have p0f4 := p0.free 4; have p0c5 := p0.cell 5; have p0f5 := p0.free 5; have p0c6 := p0.cell 6; have p0f6 := p0.free 6; have p0c7 := p0.cell 7; have p0f7 := p0.free 7; have p0c8 := p0.cell 8; have p0f8 := p0.free 8; have p0c9 := p0.cell 9; have p0f9 := p0.free 9; have p0l := p0.lt; simp at p0c0 p0c1 p0c2 p0c3 p0c4 p0c5 p0c6 p0c7 p0c8 p0c9))
        go_ret
        exact ⟨rfl, by (exact kpt)⟩
      · skip
        cases t2 : booksB p.vH p.vA
        · have T0 := Lib.hid t0
          have T1 := Lib.hid t1
          have T2 := Lib.hid t2
          clear h t0 t1 t2
          go_enter Try.func115, Try.ntmps115
          go_wp2_with (first | (go_at_call 104; (with_reducible refine (r_within p.bottles _ _ _).mono ?_); rw [T0.out]; rintro e w1 ⟨rfl, rfl⟩) | (go_at_call 137; (with_reducible refine (r_counted p.inH p.inA _).mono ?_); rw [T1.out]; rintro e w1 ⟨rfl, hb1⟩; refine Blk.thru (b := w.heap.size) (arr := ?_) (t := ?_) ?_ hb1 ?_; rotate_left 2; (focus (exact blk)); intro p0; have p0c0 := p0.cell 0; have p0f0 := p0.free 0; have p0c1 := p0.cell 1; have p0f1 := p0.free 1; have p0c2 := p0.cell 2; have p0f2 := p0.free 2; have p0c3 := p0.cell 3; have p0f3 := p0.free 3; have p0c4 := p0.cell 4; have p0f4 := p0.free 4; have p0c5 := p0.cell 5; have p0f5 := p0.free 5; have p0c6 := p0.cell 6; have p0f6 := p0.free 6; have p0c7 := p0.cell 7; have p0f7 := p0.free 7; have p0c8 := p0.cell 8; have p0f8 := p0.free 8; have p0c9 := p0.cell 9; have p0f9 := p0.free 9; have p0l := p0.lt; simp at p0c0 p0c1 p0c2 p0c3 p0c4 p0c5 p0c6 p0c7 p0c8 p0c9) | (go_at_call 137; (with_reducible refine (r_counted p.vH p.vA _).mono ?_); rw [T2.out]; rintro e w1 ⟨rfl, hb1⟩; refine Blk.thru (b := w.heap.size) (arr := ?_) (t := ?_) ?_ hb1 ?_; rotate_left 2; (focus (exact blk)); intro p0; have p0c0 := p0.cell 0; have p0f0 := p0.free 0; have p0c1 := p0.cell 1; have p0f1 := p0.free 1; have p0c2 := p0.cell 2; have p0f2 := p0.free 2; have p0c3 := p0.cell 3; have p0f3 := p0.free 3; have p0c4 := p0.cell 4; have p0f4 := p0.free 4; have p0c5 := p0.cell 5; have p0f5 := p0.free 5; have p0c6 := p0.cell 6; have p0f6 := p0.free 6; have p0c7 := p0.cell 7; have p0f7 := p0.free 7; have p0c8 := p0.cell 8; have p0f8 := p0.free 8; have p0c9 := p0.cell 9; have p0f9 := p0.free 9; have p0l := p0.lt; simp at p0c0 p0c1 p0c2 p0c3 p0c4 p0c5 p0c6 p0c7 p0c8 p0c9))
          go_ret
          exact ⟨rfl, by (exact kpt)⟩
        · skip
          cases t3 : booksB p.lH p.lA
          · have T0 := Lib.hid t0
            have T1 := Lib.hid t1
            have T2 := Lib.hid t2
            have T3 := Lib.hid t3
            clear h t0 t1 t2 t3
            go_enter Try.func115, Try.ntmps115
            go_wp2_with (first | (go_at_call 104; (with_reducible refine (r_within p.bottles _ _ _).mono ?_); rw [T0.out]; rintro e w1 ⟨rfl, rfl⟩) | (go_at_call 137; (with_reducible refine (r_counted p.inH p.inA _).mono ?_); rw [T1.out]; rintro e w1 ⟨rfl, hb1⟩; refine Blk.thru (b := w.heap.size) (arr := ?_) (t := ?_) ?_ hb1 ?_; rotate_left 2; (focus (exact blk)); intro p0; have p0c0 := p0.cell 0; have p0f0 := p0.free 0; have p0c1 := p0.cell 1; have p0f1 := p0.free 1; have p0c2 := p0.cell 2; have p0f2 := p0.free 2; have p0c3 := p0.cell 3; have p0f3 := p0.free 3; have p0c4 := p0.cell 4; have p0f4 := p0.free 4; have p0c5 := p0.cell 5; have p0f5 := p0.free 5; have p0c6 := p0.cell 6; have p0f6 := p0.free 6; have p0c7 := p0.cell 7; have p0f7 := p0.free 7; have p0c8 := p0.cell 8; have p0f8 := p0.free 8; have p0c9 := p0.cell 9; have p0f9 := p0.free 9; have p0l := p0.lt; simp at p0c0 p0c1 p0c2 p0c3 p0c4 p0c5 p0c6 p0c7 p0c8 p0c9) | (go_at_call 137; (with_reducible refine (r_counted p.vH p.vA _).mono ?_); rw [T2.out]; rintro e w1 ⟨rfl, hb1⟩; refine Blk.thru (b := w.heap.size) (arr := ?_) (t := ?_) ?_ hb1 ?_; rotate_left 2; (focus (exact blk)); intro p0; have p0c0 := p0.cell 0; have p0f0 := p0.free 0; have p0c1 := p0.cell 1; have p0f1 := p0.free 1; have p0c2 := p0.cell 2; have p0f2 := p0.free 2; have p0c3 := p0.cell 3; have p0f3 := p0.free 3; have p0c4 := p0.cell 4; have p0f4 := p0.free 4; have p0c5 := p0.cell 5; have p0f5 := p0.free 5; have p0c6 := p0.cell 6; have p0f6 := p0.free 6; have p0c7 := p0.cell 7; have p0f7 := p0.free 7; have p0c8 := p0.cell 8; have p0f8 := p0.free 8; have p0c9 := p0.cell 9; have p0f9 := p0.free 9; have p0l := p0.lt; simp at p0c0 p0c1 p0c2 p0c3 p0c4 p0c5 p0c6 p0c7 p0c8 p0c9) | (go_at_call 137; (with_reducible refine (r_counted p.lH p.lA _).mono ?_); rw [T3.out]; rintro e w1 ⟨rfl, hb1⟩; refine Blk.thru (b := w.heap.size) (arr := ?_) (t := ?_) ?_ hb1 ?_; rotate_left 2; (focus (exact blk)); intro p0; have p0c0 := p0.cell 0; have p0f0 := p0.free 0; have p0c1 := p0.cell 1; have p0f1 := p0.free 1; have p0c2 := p0.cell 2; have p0f2 := p0.free 2; have p0c3 := p0.cell 3; have p0f3 := p0.free 3; have p0c4 := p0.cell 4; have p0f4 := p0.free 4; have p0c5 := p0.cell 5; have p0f5 := p0.free 5; have p0c6 := p0.cell 6; have p0f6 := p0.free 6; have p0c7 := p0.cell 7; have p0f7 := p0.free 7; have p0c8 := p0.cell 8; have p0f8 := p0.free 8; have p0c9 := p0.cell 9; have p0f9 := p0.free 9; have p0l := p0.lt; simp at p0c0 p0c1 p0c2 p0c3 p0c4 p0c5 p0c6 p0c7 p0c8 p0c9))
            go_ret
            exact ⟨rfl, by (exact kpt)⟩
          · skip
            cases t4 : booksB p.pH p.pA
            · have T0 := Lib.hid t0
              have T1 := Lib.hid t1
              have T2 := Lib.hid t2
              have T3 := Lib.hid t3
              have T4 := Lib.hid t4
              clear h t0 t1 t2 t3 t4
              go_enter Try.func115, Try.ntmps115
              go_wp2_with (first | (go_at_call 104; (with_reducible refine (r_within p.bottles _ _ _).mono ?_); rw [T0.out]; rintro e w1 ⟨rfl, rfl⟩) | (go_at_call 137; (with_reducible refine (r_counted p.inH p.inA _).mono ?_); rw [T1.out]; rintro e w1 ⟨rfl, hb1⟩; refine Blk.thru (b := w.heap.size) (arr := ?_) (t := ?_) ?_ hb1 ?_; rotate_left 2; (focus (exact blk)); intro p0; have p0c0 := p0.cell 0; have p0f0 := p0.free 0; have p0c1 := p0.cell 1; have p0f1 := p0.free 1; have p0c2 := p0.cell 2; have p0f2 := p0.free 2; have p0c3 := p0.cell 3; have p0f3 := p0.free 3; have p0c4 := p0.cell 4; have p0f4 := p0.free 4; have p0c5 := p0.cell 5; have p0f5 := p0.free 5; have p0c6 := p0.cell 6; have p0f6 := p0.free 6; have p0c7 := p0.cell 7; have p0f7 := p0.free 7; have p0c8 := p0.cell 8; have p0f8 := p0.free 8; have p0c9 := p0.cell 9; have p0f9 := p0.free 9; have p0l := p0.lt; simp at p0c0 p0c1 p0c2 p0c3 p0c4 p0c5 p0c6 p0c7 p0c8 p0c9) | (go_at_call 137; (with_reducible refine (r_counted p.vH p.vA _).mono ?_); rw [T2.out]; rintro e w1 ⟨rfl, hb1⟩; refine Blk.thru (b := w.heap.size) (arr := ?_) (t := ?_) ?_ hb1 ?_; rotate_left 2; (focus (exact blk)); intro p0; have p0c0 := p0.cell 0; have p0f0 := p0.free 0; have p0c1 := p0.cell 1; have p0f1 := p0.free 1; have p0c2 := p0.cell 2; have p0f2 := p0.free 2; have p0c3 := p0.cell 3; have p0f3 := p0.free 3; have p0c4 := p0.cell 4; have p0f4 := p0.free 4; have p0c5 := p0.cell 5; have p0f5 := p0.free 5; have p0c6 := p0.cell 6; have p0f6 := p0.free 6; have p0c7 := p0.cell 7; have p0f7 := p0.free 7; have p0c8 := p0.cell 8; have p0f8 := p0.free 8; have p0c9 := p0.cell 9; have p0f9 := p0.free 9; have p0l := p0.lt; simp at p0c0 p0c1 p0c2 p0c3 p0c4 p0c5 p0c6 p0c7 p0c8 p0c9) | (go_at_call 137; (with_reducible refine (r_counted p.lH p.lA _).mono ?_); rw [T3.out]; rintro e w1 ⟨rfl, hb1⟩; refine Blk.thru (b := w.heap.size) (arr := ?_) (t := ?_) ?_ hb1 ?_; rotate_left 2; (focus (exact blk)); intro p0; have p0c0 := p0.cell 0; have p0f0 := p0.free 0; have p0c1 := p0.cell 1; have p0f1 := p0.free 1; have p0c2 := p0.cell 2; have p0f2 := p0.free 2; have p0c3 := p0.cell 3; have p0f3 := p0.free 3; have p0c4 := p0.cell 4; have p0f4 := p0.free 4; have p0c5 := p0.cell 5; have p0f5 := p0.free 5; have p0c6 := p0.cell 6; have p0f6 := p0.free 6; have p0c7 := p0.cell 7; have p0f7 := p0.free 7; have p0c8 := p0.cell 8; have p0f8 := p0.free 8; have p0c9 := p0.cell 9; have p0f9 := p0.free 9; have p0l := p0.lt; simp at p0c0 p0c1 p0c2 p0c3 p0c4 p0c5 p0c6 p0c7 p0c8 p0c9) | (go_at_call 137; (with_reducible refine (r_counted p.pH p.pA _).mono ?_); rw [T4.out]; rintro e w1 ⟨rfl, hb1⟩; refine Blk.thru (b := w.heap.size) (arr := ?_) (t := ?_) ?_ hb1 ?_; rotate_left 2; (focus (exact blk)); intro p0; have p0c0 := p0.cell 0; have p0f0 := p0.free 0; have p0c1 := p0.cell 1; have p0f1 := p0.free 1; have p0c2 := p0.cell 2; have p0f2 := p0.free 2; have p0c3 := p0.cell 3; have p0f3 := p0.free 3; have p0c4 := p0.cell 4; have p0f4 := p0.free 4; have p0c5 := p0.cell 5; have p0f5 := p0.free 5; have p0c6 := p0.cell 6; have p0f6 := p0.free 6; have p0c7 := p0.cell 7; have p0f7 := p0.free 7; have p0c8 := p0.cell 8; have p0f8 := p0.free 8; have p0c9 := p0.cell 9; have p0f9 := p0.free 9; have p0l := p0.lt; simp at p0c0 p0c1 p0c2 p0c3 p0c4 p0c5 p0c6 p0c7 p0c8 p0c9))
              go_ret
              exact ⟨rfl, by (exact kpt)⟩
            · exact absurd ⟨h0', t0, by rw [books_all, t1, t2, t3, t4]; rfl⟩ h

set_option maxHeartbeats 8000000 in
theorem r_Plant_late (p : Plant) (a : Option Addr) (cap : Nat) (w : World) (hx : Row Cell.cells 7 w.heap.size w a p.cells) (hc : p.cells.length ≤ cap) (hM : cap ≤ maxLen) (h1 : p.cells.length ≤ 12) (h2 : inB p.bottles 0 10000000 = true) (h3 : (books p).all parB = true) :
    Calls Try.prog 115 #[.agg #[.slice a p.cells.length cap, .int .i64 p.bottles, .int .i64 p.inH, .int .i64 p.inA, .int .i64 p.vH, .int .i64 p.vA, .int .i64 p.lH, .int .i64 p.lA, .int .i64 p.pH, .int .i64 p.pA]] w fun e w' => e = .returned (.bool (plantB p)) ∧ Kept w w' := by
  unfold maxLen at hM
  have hbt := inB_iff.1 h2
  rw [books_all] at h3
  simp only [Bool.and_eq_true] at h3
  obtain ⟨⟨⟨t1, t2⟩, t3⟩, t4⟩ := h3
  have b1 := booksB_iff.1 t1
  have b2 := booksB_iff.1 t2
  have b3 := booksB_iff.1 t3
  have b4 := booksB_iff.1 t4
  have T0 := Lib.hid h2
  have T1 := Lib.hid t1
  have T2 := Lib.hid t2
  have T3 := Lib.hid t3
  have T4 := Lib.hid t4
  clear h2 t1 t2 t3 t4
  obtain ⟨SH, hSH⟩ : ∃ y, y = p.bottles + p.vH + p.lH + p.pH := ⟨_, rfl⟩
  obtain ⟨SA, hSA⟩ : ∃ y, y = p.vA + p.lA + p.pA := ⟨_, rfl⟩
  have HSH := Lib.hid hSH
  have HSA := Lib.hid hSA
  have qh : 0 ≤ SH ∧ SH ≤ 4000000000000 := by omega
  have qa : 0 ≤ SA ∧ SA ≤ 4000000000000 := by omega
  clear hSH hSA
  go_enter Try.func115, Try.ntmps115
  go_upto_region 6 with (first | (go_at_call 104; (with_reducible refine (r_within p.bottles _ _ _).mono ?_); rw [T0.out]; rintro e w1 ⟨rfl, rfl⟩) | (go_at_call 137; (with_reducible refine (r_counted p.inH p.inA _).mono ?_); rw [T1.out]; rintro e w1 ⟨rfl, hb1⟩; refine Blk.thru (b := w.heap.size) (arr := ?_) (t := ?_) ?_ hb1 ?_; rotate_left 2; (focus (exact blk)); intro p0; have p0c0 := p0.cell 0; have p0f0 := p0.free 0; have p0c1 := p0.cell 1; have p0f1 := p0.free 1; have p0c2 := p0.cell 2; have p0f2 := p0.free 2; have p0c3 := p0.cell 3; have p0f3 := p0.free 3; have p0c4 := p0.cell 4; have p0f4 := p0.free 4; have p0c5 := p0.cell 5; have p0f5 := p0.free 5; have p0c6 := p0.cell 6; have p0f6 := p0.free 6; have p0c7 := p0.cell 7; have p0f7 := p0.free 7; have p0c8 := p0.cell 8; have p0f8 := p0.free 8; have p0c9 := p0.cell 9; have p0f9 := p0.free 9; have p0l := p0.lt; simp at p0c0 p0c1 p0c2 p0c3 p0c4 p0c5 p0c6 p0c7 p0c8 p0c9) | (go_at_call 137; (with_reducible refine (r_counted p.vH p.vA _).mono ?_); rw [T2.out]; rintro e w1 ⟨rfl, hb1⟩; refine Blk.thru (b := w.heap.size) (arr := ?_) (t := ?_) ?_ hb1 ?_; rotate_left 2; (focus (exact blk)); intro p0; have p0c0 := p0.cell 0; have p0f0 := p0.free 0; have p0c1 := p0.cell 1; have p0f1 := p0.free 1; have p0c2 := p0.cell 2; have p0f2 := p0.free 2; have p0c3 := p0.cell 3; have p0f3 := p0.free 3; have p0c4 := p0.cell 4; have p0f4 := p0.free 4; have p0c5 := p0.cell 5; have p0f5 := p0.free 5; have p0c6 := p0.cell 6; have p0f6 := p0.free 6; have p0c7 := p0.cell 7; have p0f7 := p0.free 7; have p0c8 := p0.cell 8; have p0f8 := p0.free 8; have p0c9 := p0.cell 9; have p0f9 := p0.free 9; have p0l := p0.lt; simp at p0c0 p0c1 p0c2 p0c3 p0c4 p0c5 p0c6 p0c7 p0c8 p0c9) | (go_at_call 137; (with_reducible refine (r_counted p.lH p.lA _).mono ?_); rw [T3.out]; rintro e w1 ⟨rfl, hb1⟩; refine Blk.thru (b := w.heap.size) (arr := ?_) (t := ?_) ?_ hb1 ?_; rotate_left 2; (focus (exact blk)); intro p0; have p0c0 := p0.cell 0; have p0f0 := p0.free 0; have p0c1 := p0.cell 1; have p0f1 := p0.free 1; have p0c2 := p0.cell 2; have p0f2 := p0.free 2; have p0c3 := p0.cell 3; have p0f3 := p0.free 3; have p0c4 := p0.cell 4; have p0f4 := p0.free 4; have p0c5 := p0.cell 5; have p0f5 := p0.free 5; have p0c6 := p0.cell 6; have p0f6 := p0.free 6; have p0c7 := p0.cell 7; have p0f7 := p0.free 7; have p0c8 := p0.cell 8; have p0f8 := p0.free 8; have p0c9 := p0.cell 9; have p0f9 := p0.free 9; have p0l := p0.lt; simp at p0c0 p0c1 p0c2 p0c3 p0c4 p0c5 p0c6 p0c7 p0c8 p0c9) | (go_at_call 137; (with_reducible refine (r_counted p.pH p.pA _).mono ?_); rw [T4.out]; rintro e w1 ⟨rfl, hb1⟩; refine Blk.thru (b := w.heap.size) (arr := ?_) (t := ?_) ?_ hb1 ?_; rotate_left 2; (focus (exact blk)); intro p0; have p0c0 := p0.cell 0; have p0f0 := p0.free 0; have p0c1 := p0.cell 1; have p0f1 := p0.free 1; have p0c2 := p0.cell 2; have p0f2 := p0.free 2; have p0c3 := p0.cell 3; have p0f3 := p0.free 3; have p0c4 := p0.cell 4; have p0f4 := p0.free 4; have p0c5 := p0.cell 5; have p0f5 := p0.free 5; have p0c6 := p0.cell 6; have p0f6 := p0.free 6; have p0c7 := p0.cell 7; have p0f7 := p0.free 7; have p0c8 := p0.cell 8; have p0f8 := p0.free 8; have p0c9 := p0.cell 9; have p0f9 := p0.free 9; have p0l := p0.lt; simp at p0c0 p0c1 p0c2 p0c3 p0c4 p0c5 p0c6 p0c7 p0c8 p0c9))
  rw [← HSH.out, ← HSA.out]
  refine at_world (S := fun W => Blk W w.heap.size #[.slice a p.cells.length cap, .int .i64 p.bottles, .int .i64 p.inH, .int .i64 p.inA, .int .i64 p.vH, .int .i64 p.vA, .int .i64 p.lH, .int .i64 p.lA, .int .i64 p.pH, .int .i64 p.pA] 63 ∧ Kept w W) ⟨by (exact blkc), by (exact kpt)⟩ ?_
  try clear hc1 hf1 hl1
  rintro W ⟨r0, hk⟩
  go_loopw [3, 4, 5] (fun s t i wq => ∃ k : Nat, k ≤ p.cells.length ∧ i = .int .i64 k ∧ s = .int .i64 (SH + sumH (p.cells.take k)) ∧ t = .int .i64 (SA + sumA (p.cells.take k)) ∧ (p.cells.take k).all cellB = true ∧ Blk wq w.heap.size #[.slice a p.cells.length cap, .int .i64 p.bottles, .int .i64 p.inH, .int .i64 p.inA, .int .i64 p.vH, .int .i64 p.vA, .int .i64 p.lH, .int .i64 p.lA, .int .i64 p.pH, .int .i64 p.pA] 63 ∧ Kept w wq) (fun _ _ i _ => p.cells.length - (intOf i).toNat)
  case atStart => exact ⟨0, by omega, rfl, by simp [sumH], by simp [sumA], by simp, r0, hk⟩
  case round =>
    clear r0 hk
    obtain ⟨k, hkn, rfl, rfl, rfl, hal, r0, hk⟩ := hrel
    have hsb := sum_some hal h1
    have HAL := Lib.hid hal
    clear hal
    have r0c0 := r0.cell 0
    have r0f0 := r0.free 0
    have r0c1 := r0.cell 1
    have r0f1 := r0.free 1
    have r0c2 := r0.cell 2
    have r0f2 := r0.free 2
    have r0c3 := r0.cell 3
    have r0f3 := r0.free 3
    have r0c4 := r0.cell 4
    have r0f4 := r0.free 4
    have r0c5 := r0.cell 5
    have r0f5 := r0.free 5
    have r0c6 := r0.cell 6
    have r0f6 := r0.free 6
    have r0c7 := r0.cell 7
    have r0f7 := r0.free 7
    have r0c8 := r0.cell 8
    have r0f8 := r0.free 8
    have r0c9 := r0.cell 9
    have r0f9 := r0.free 9
    have r0l := r0.lt
    simp at r0c0 r0c1 r0c2 r0c3 r0c4 r0c5 r0c6 r0c7 r0c8 r0c9
    by_cases hlt : k < p.cells.length
    · obtain ⟨b, off, rfl, _, c0, c1, c2, c3, c4, c5, c6⟩ := Cell.row (hx.later hk (Nat.le_refl _)) k hlt
      have hs1 := sumBy_take Cell.helium p.cells k hlt
      have hs2 := sumBy_take Cell.air p.cells k hlt
      have HT := Lib.hid (fun hv : cellB p.cells[k] = true => take_all hlt HAL.out hv)
      have HBAD := Lib.hid (fun hv : cellB p.cells[k] = false => show plantB p = false by
        rw [Bool.eq_false_iff]
        intro hp
        rw [(plantB_iff.1 hp).2.2.2.2.2.2.1 _ (List.getElem_mem hlt)] at hv
        cases hv)
      obtain ⟨x, hx0⟩ : ∃ x, x = p.cells[k] := ⟨_, rfl⟩
      rw [← hx0] at c0 c1 c2 c3 c4 c5 c6 hs1 hs2 HT HBAD
      clear hx0
      obtain ⟨sh, hsh⟩ : ∃ y, y = sumH (p.cells.take k) := ⟨_, rfl⟩
      obtain ⟨sa, hsa⟩ : ∃ y, y = sumA (p.cells.take k) := ⟨_, rfl⟩
      rw [← hsh, ← hsa] at hsb ⊢
      have HS1 := Lib.hid (show sumH (p.cells.take (k + 1)) = sh + x.helium by rw [hsh]; exact hs1)
      have HS2 := Lib.hid (show sumA (p.cells.take (k + 1)) = sa + x.air by rw [hsa]; exact hs2)
      clear hs1 hs2 hsh hsa
      have k0 : (0 : Int) ≤ (k : Int) := by omega
      have k1 : (k : Int) < (p.cells.length : Int) := by omega
      cases hv : cellB x
      · have HC := Lib.hid hv
        have HE := Lib.hid (HBAD.out hv)
        clear hv
        go_wp2_with (first | (go_at_call 92; (with_reducible refine (r_Cell x _).mono ?_); rw [HC.out]; rintro e w3 ⟨rfl, hb3⟩; refine Blk.thru (b := w.heap.size) (arr := ?_) (t := ?_) ?_ hb3 ?_; rotate_left 2; (focus (exact blk)); intro p0; have p0c0 := p0.cell 0; have p0f0 := p0.free 0; have p0c1 := p0.cell 1; have p0f1 := p0.free 1; have p0c2 := p0.cell 2; have p0f2 := p0.free 2; have p0c3 := p0.cell 3; have p0f3 := p0.free 3; have p0c4 := p0.cell 4; have p0f4 := p0.free 4; have p0c5 := p0.cell 5; have p0f5 := p0.free 5; have p0c6 := p0.cell 6; have p0f6 := p0.free 6; have p0c7 := p0.cell 7; have p0f7 := p0.free 7; have p0c8 := p0.cell 8; have p0f8 := p0.free 8; have p0c9 := p0.cell 9; have p0f9 := p0.free 9; have p0l := p0.lt; simp at p0c0 p0c1 p0c2 p0c3 p0c4 p0c5 p0c6 p0c7 p0c8 p0c9; obtain ⟨hc3, hf3, hl3⟩ := bcell3 hb3))
        go_ret
        exact ⟨ret_bool HE.out.symm, by (exact kpt)⟩
      · have HC := Lib.hid hv
        have hxb := cellB_iff.1 hv
        have HT2 := Lib.hid (HT.out hv)
        clear hv
        go_wp2_with (first | (go_at_call 92; (with_reducible refine (r_Cell x _).mono ?_); rw [HC.out]; rintro e w3 ⟨rfl, hb3⟩; refine Blk.thru (b := w.heap.size) (arr := ?_) (t := ?_) ?_ hb3 ?_; rotate_left 2; (focus (exact blk)); intro p0; have p0c0 := p0.cell 0; have p0f0 := p0.free 0; have p0c1 := p0.cell 1; have p0f1 := p0.free 1; have p0c2 := p0.cell 2; have p0f2 := p0.free 2; have p0c3 := p0.cell 3; have p0f3 := p0.free 3; have p0c4 := p0.cell 4; have p0f4 := p0.free 4; have p0c5 := p0.cell 5; have p0f5 := p0.free 5; have p0c6 := p0.cell 6; have p0f6 := p0.free 6; have p0c7 := p0.cell 7; have p0f7 := p0.free 7; have p0c8 := p0.cell 8; have p0f8 := p0.free 8; have p0c9 := p0.cell 9; have p0f9 := p0.free 9; have p0l := p0.lt; simp at p0c0 p0c1 p0c2 p0c3 p0c4 p0c5 p0c6 p0c7 p0c8 p0c9; obtain ⟨hc3, hf3, hl3⟩ := bcell3 hb3))
        go_roundw
        case rel => exact ⟨k + 1, by omega, by go_num, by rw [HS1.out]; congr 1; omega, by rw [HS2.out]; congr 1; omega, HT2.out, by (exact blkc), by (exact kpt)⟩
        case measure => simp [intOf]; omega
    · obtain rfl : k = p.cells.length := by omega
      rw [List.take_length] at hsb HAL ⊢
      obtain ⟨sh, hsh⟩ : ∃ y, y = sumH p.cells := ⟨_, rfl⟩
      obtain ⟨sa, hsa⟩ : ∃ y, y = sumA p.cells := ⟨_, rfl⟩
      rw [← hsh, ← hsa] at hsb ⊢
      have HPB := Lib.hid (show plantB p = (decide (SH + sh = p.inH) && decide (SA + sa = p.inA)) by
        have e1 : allH p = SH + sh := by rw [HSH.out, hsh]; unfold allH; omega
        have e2 : allA p = SA + sa := by rw [HSA.out, hsa]; unfold allA; rfl
        unfold plantB
        rw [e1, e2, T0.out, T1.out, T2.out, T3.out, T4.out, HAL.out]
        simp [h1])
      clear hsh hsa
      by_cases d1 : SH + sh = p.inH
      · by_cases d2 : SA + sa = p.inA
        all_goals
          go_wp2
          go_ret
          exact ⟨ret_bool (by rw [HPB.out]; simp [d1, d2]), by (exact kpt)⟩
      · go_wp2
        go_ret
        exact ⟨ret_bool (by rw [HPB.out]; simp [d1]), by (exact kpt)⟩

theorem r_Plant (p : Plant) (a : Option Addr) (cap : Nat) (w : World) (hx : Row Cell.cells 7 w.heap.size w a p.cells) (hc : p.cells.length ≤ cap) (hM : cap ≤ maxLen) :
    Calls Try.prog 115 #[.agg #[.slice a p.cells.length cap, .int .i64 p.bottles, .int .i64 p.inH, .int .i64 p.inA, .int .i64 p.vH, .int .i64 p.vA, .int .i64 p.lH, .int .i64 p.lA, .int .i64 p.pH, .int .i64 p.pA]] w fun e w' => e = .returned (.bool (plantB p)) ∧ Kept w w' := by
  by_cases h : p.cells.length ≤ 12 ∧ inB p.bottles 0 10000000 = true ∧ (books p).all parB = true
  · exact r_Plant_late p a cap w hx hc hM h.1 h.2.1 h.2.2
  · have he : plantB p = false := by
      rw [Bool.eq_false_iff]
      intro hp
      refine h ?_
      rw [books_all]
      simp only [plantB, Bool.and_eq_true, decide_eq_true_eq] at hp
      obtain ⟨⟨⟨⟨⟨⟨⟨⟨a, b⟩, c⟩, d⟩, e⟩, f⟩, g⟩, _⟩, _⟩ := hp
      exact ⟨a, b, by rw [c, d, e, f]; rfl⟩
    rw [he]
    exact r_Plant_early p a cap w hx hc hM h

theorem r_Check (p : Plant) (a : Option Addr) (cap : Nat) (w : World) (hx : Row Cell.cells 7 w.heap.size w a p.cells) (hc : p.cells.length ≤ cap) (hM : cap ≤ maxLen) :
    Calls Try.prog 51 #[.agg #[.slice a p.cells.length cap, .int .i64 p.bottles, .int .i64 p.inH, .int .i64 p.inA, .int .i64 p.vH, .int .i64 p.vA, .int .i64 p.lH, .int .i64 p.lA, .int .i64 p.pH, .int .i64 p.pA]] w fun e w' => e = .returned (.int .i64 (plantE p)) ∧ Kept w w' := by
  cases hp : plantB p
  · have HP := Lib.hid hp
    have HE := Lib.hid (plantE_bad hp)
    clear hp
    go_enter Try.func51, Try.ntmps51
    go_wp2_with (go_at_call 115; (with_reducible refine (r_Plant p a cap _ (hx.later (by (exact kpt)) (Nat.le_refl _)) hc hM).mono ?_); rw [HP.out]; rintro e w1 ⟨rfl, hb1⟩)
    go_ret
    exact ⟨ret_int HE.out.symm, by (exact kpt)⟩
  · have HP := Lib.hid hp
    have HE := Lib.hid (plantE_ok hp)
    clear hp
    go_enter Try.func51, Try.ntmps51
    go_wp2_with (go_at_call 115; (with_reducible refine (r_Plant p a cap _ (hx.later (by (exact kpt)) (Nat.le_refl _)) hc hM).mono ?_); rw [HP.out]; rintro e w1 ⟨rfl, hb1⟩)
    go_ret
    exact ⟨ret_int HE.out.symm, by (exact kpt)⟩

end Go.Proofs.Ytemafanncejeiaa
