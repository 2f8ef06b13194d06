/-
  MastPlans, the statement: for every input the call returns true and leaves the input alone.
-/
import Derived.Test.YtacbkbilbmkjnaaMastBaseM
import Derived.Test.YtacbkbilbmkjnaaRows
import Derived.Test.YtacbkbilbmkjnaaMastPlansMA
set_option linter.unusedVariables false
set_option linter.unusedSimpArgs false
/-
  Plans, in the reference: the early ends.
-/
namespace Go.Proofs.Ytacbkbilbmkjnaa
open Go.RowKit Bal Bal.Trim Bal.Mast
set_option linter.unusedVariables false
set_option linter.unusedSimpArgs false
set_option maxHeartbeats 4000000
set_option maxRecDepth 10000

theorem r_Plan_berth (a : Option Addr) (c : Nat) (e : Option Addr) (d : Nat) (p : Port) (w : World) (hx : Row Axis.cells 2 w.heap.size w a p.axes) (hc : p.axes.length ≤ c) (hM : c ≤ maxLen) (hy : Row Span.cells 2 w.heap.size w e p.pulls) (hd : p.pulls.length ≤ d) (hN : d ≤ maxLen) (h1 : p.axes.length ≤ 1000000) (h2 : p.pulls.length ≤ 1000000) (b : Berth) (hs0 : 0 ≤ b.ship) (wd : Wind) (ship : Int) (E : Int) (hcb : checkBerth p b = E) (hE : E ≠ 0) :
    Calls Try.prog 33 #[.agg #[.slice a p.axes.length c, .int .i64 p.people, .int .i64 p.most, .slice e p.pulls.length d, .int .i64 p.cross], .agg #[.int .u8 b.ship, .int .i64 b.axis, .int .i64 b.held, .bool b.wire, .bool b.opn], .agg #[.int .i64 wd.xlo, .int .i64 wd.xhi, .int .i64 wd.ylo, .int .i64 wd.yhi], .int .u8 ship] w fun z w' => z = .returned (.tuple #[.slice none 0 0, .int .i64 E]) ∧ Kept w w' := by
  have HCB := Lib.hid hcb
  clear hcb
  have e1 : (E != 0) = true := by simp [hE]
  clear hE
  go_enter Try.func33, Try.ntmps33
  go_wp2_with (first | (go_at_call 28; (with_reducible refine (r_CheckBerth a c e d p _ (hx.later (by (exact kpt)) (Nat.le_refl _)) hc hM (hy.later (by (exact kpt)) (Nat.le_refl _)) hd hN h1 h2 b hs0).mono ?_); rw [HCB.out]; rintro z w1 ⟨rfl, hb1⟩; refine Blk.thru (b := w.heap.size) (arr := ?_) (t := ?_) ?_ hb1 ?_; rotate_left 2; (focus (exact blk)); intro r0; have r0c0 := r0.cell 0; have r0f0 := r0.free 0; have r0c1 := r0.cell 1; have r0f1 := r0.free 1; have r0c2 := r0.cell 2; have r0f2 := r0.free 2; have r0c3 := r0.cell 3; have r0f3 := r0.free 3; have r0c4 := r0.cell 4; have r0f4 := r0.free 4; have r0l := r0.lt; simp at r0c0 r0c1 r0c2 r0c3 r0c4; refine Blk.thru (b := (w.heap.size + 1)) (arr := ?_) (t := ?_) ?_ hb1 ?_; rotate_left 2; (focus (exact blk)); intro r1; have r1c0 := r1.cell 0; have r1f0 := r1.free 0; have r1c1 := r1.cell 1; have r1f1 := r1.free 1; have r1c2 := r1.cell 2; have r1f2 := r1.free 2; have r1c3 := r1.cell 3; have r1f3 := r1.free 3; have r1c4 := r1.cell 4; have r1f4 := r1.free 4; have r1l := r1.lt; simp at r1c0 r1c1 r1c2 r1c3 r1c4; refine Blk.thru (b := (w.heap.size + 1 + 1)) (arr := ?_) (t := ?_) ?_ hb1 ?_; rotate_left 2; (focus (exact blk)); intro r3; have r3c0 := r3.cell 0; have r3f0 := r3.free 0; have r3c1 := r3.cell 1; have r3f1 := r3.free 1; have r3c2 := r3.cell 2; have r3f2 := r3.free 2; have r3c3 := r3.cell 3; have r3f3 := r3.free 3; have r3l := r3.lt; simp at r3c0 r3c1 r3c2 r3c3))
  exact bodyPost_ret (v := .tuple #[.slice none 0 0, .int .i64 E]) (by simp [results, Try.results33, go_sem]) rfl ⟨rfl, by (exact kpt)⟩

theorem r_Plan_wind (a : Option Addr) (c : Nat) (e : Option Addr) (d : Nat) (p : Port) (w : World) (hx : Row Axis.cells 2 w.heap.size w a p.axes) (hc : p.axes.length ≤ c) (hM : c ≤ maxLen) (hy : Row Span.cells 2 w.heap.size w e p.pulls) (hd : p.pulls.length ≤ d) (hN : d ≤ maxLen) (h1 : p.axes.length ≤ 1000000) (h2 : p.pulls.length ≤ 1000000) (b : Berth) (hs0 : 0 ≤ b.ship) (wd : Wind) (ship : Int) (hcb : checkBerth p b = 0) (hw : windB wd = false) :
    Calls Try.prog 33 #[.agg #[.slice a p.axes.length c, .int .i64 p.people, .int .i64 p.most, .slice e p.pulls.length d, .int .i64 p.cross], .agg #[.int .u8 b.ship, .int .i64 b.axis, .int .i64 b.held, .bool b.wire, .bool b.opn], .agg #[.int .i64 wd.xlo, .int .i64 wd.xhi, .int .i64 wd.ylo, .int .i64 wd.yhi], .int .u8 ship] w fun z w' => z = .returned (.tuple #[.slice none 0 0, .int .i64 71]) ∧ Kept w w' := by
  have HCB := Lib.hid hcb
  clear hcb
  have HWD := Lib.hid hw
  clear hw
  go_enter Try.func33, Try.ntmps33
  go_wp2_with (first | (go_at_call 28; (with_reducible refine (r_CheckBerth a c e d p _ (hx.later (by (exact kpt)) (Nat.le_refl _)) hc hM (hy.later (by (exact kpt)) (Nat.le_refl _)) hd hN h1 h2 b hs0).mono ?_); rw [HCB.out]; rintro z w1 ⟨rfl, hb1⟩; refine Blk.thru (b := w.heap.size) (arr := ?_) (t := ?_) ?_ hb1 ?_; rotate_left 2; (focus (exact blk)); intro r0; have r0c0 := r0.cell 0; have r0f0 := r0.free 0; have r0c1 := r0.cell 1; have r0f1 := r0.free 1; have r0c2 := r0.cell 2; have r0f2 := r0.free 2; have r0c3 := r0.cell 3; have r0f3 := r0.free 3; have r0c4 := r0.cell 4; have r0f4 := r0.free 4; have r0l := r0.lt; simp at r0c0 r0c1 r0c2 r0c3 r0c4; refine Blk.thru (b := (w.heap.size + 1)) (arr := ?_) (t := ?_) ?_ hb1 ?_; rotate_left 2; (focus (exact blk)); intro r1; have r1c0 := r1.cell 0; have r1f0 := r1.free 0; have r1c1 := r1.cell 1; have r1f1 := r1.free 1; have r1c2 := r1.cell 2; have r1f2 := r1.free 2; have r1c3 := r1.cell 3; have r1f3 := r1.free 3; have r1c4 := r1.cell 4; have r1f4 := r1.free 4; have r1l := r1.lt; simp at r1c0 r1c1 r1c2 r1c3 r1c4; refine Blk.thru (b := (w.heap.size + 1 + 1)) (arr := ?_) (t := ?_) ?_ hb1 ?_; rotate_left 2; (focus (exact blk)); intro r3; have r3c0 := r3.cell 0; have r3f0 := r3.free 0; have r3c1 := r3.cell 1; have r3f1 := r3.free 1; have r3c2 := r3.cell 2; have r3f2 := r3.free 2; have r3c3 := r3.cell 3; have r3f3 := r3.free 3; have r3l := r3.lt; simp at r3c0 r3c1 r3c2 r3c3) | (go_at_call 46; (with_reducible refine (r_Wind wd _).mono ?_); rw [HWD.out]; rintro z w2 ⟨rfl, hb2⟩; refine Blk.thru (b := w.heap.size) (arr := ?_) (t := ?_) ?_ hb2 ?_; rotate_left 2; (focus (exact blk)); intro r0; have r0c0 := r0.cell 0; have r0f0 := r0.free 0; have r0c1 := r0.cell 1; have r0f1 := r0.free 1; have r0c2 := r0.cell 2; have r0f2 := r0.free 2; have r0c3 := r0.cell 3; have r0f3 := r0.free 3; have r0c4 := r0.cell 4; have r0f4 := r0.free 4; have r0l := r0.lt; simp at r0c0 r0c1 r0c2 r0c3 r0c4; refine Blk.thru (b := (w.heap.size + 1)) (arr := ?_) (t := ?_) ?_ hb2 ?_; rotate_left 2; (focus (exact blk)); intro r1; have r1c0 := r1.cell 0; have r1f0 := r1.free 0; have r1c1 := r1.cell 1; have r1f1 := r1.free 1; have r1c2 := r1.cell 2; have r1f2 := r1.free 2; have r1c3 := r1.cell 3; have r1f3 := r1.free 3; have r1c4 := r1.cell 4; have r1f4 := r1.free 4; have r1l := r1.lt; simp at r1c0 r1c1 r1c2 r1c3 r1c4; refine Blk.thru (b := (w.heap.size + 1 + 1)) (arr := ?_) (t := ?_) ?_ hb2 ?_; rotate_left 2; (focus (exact blk)); intro r3; have r3c0 := r3.cell 0; have r3f0 := r3.free 0; have r3c1 := r3.cell 1; have r3f1 := r3.free 1; have r3c2 := r3.cell 2; have r3f2 := r3.free 2; have r3c3 := r3.cell 3; have r3f3 := r3.free 3; have r3l := r3.lt; simp at r3c0 r3c1 r3c2 r3c3))
  exact bodyPost_ret (v := .tuple #[.slice none 0 0, .int .i64 71]) (by simp [results, Try.results33, go_sem]) rfl ⟨rfl, by (exact kpt)⟩

theorem r_Plan_ship (a : Option Addr) (c : Nat) (e : Option Addr) (d : Nat) (p : Port) (w : World) (hx : Row Axis.cells 2 w.heap.size w a p.axes) (hc : p.axes.length ≤ c) (hM : c ≤ maxLen) (hy : Row Span.cells 2 w.heap.size w e p.pulls) (hd : p.pulls.length ≤ d) (hN : d ≤ maxLen) (h1 : p.axes.length ≤ 1000000) (h2 : p.pulls.length ≤ 1000000) (b : Berth) (hs0 : 0 ≤ b.ship) (wd : Wind) (ship : Int) (hcb : checkBerth p b = 0) (hw : windB wd = true) (hsh : 5 < ship) :
    Calls Try.prog 33 #[.agg #[.slice a p.axes.length c, .int .i64 p.people, .int .i64 p.most, .slice e p.pulls.length d, .int .i64 p.cross], .agg #[.int .u8 b.ship, .int .i64 b.axis, .int .i64 b.held, .bool b.wire, .bool b.opn], .agg #[.int .i64 wd.xlo, .int .i64 wd.xhi, .int .i64 wd.ylo, .int .i64 wd.yhi], .int .u8 ship] w fun z w' => z = .returned (.tuple #[.slice none 0 0, .int .i64 2]) ∧ Kept w w' := by
  have HCB := Lib.hid hcb
  clear hcb
  have HWD := Lib.hid hw
  clear hw
  go_enter Try.func33, Try.ntmps33
  go_wp2_with (first | (go_at_call 28; (with_reducible refine (r_CheckBerth a c e d p _ (hx.later (by (exact kpt)) (Nat.le_refl _)) hc hM (hy.later (by (exact kpt)) (Nat.le_refl _)) hd hN h1 h2 b hs0).mono ?_); rw [HCB.out]; rintro z w1 ⟨rfl, hb1⟩; refine Blk.thru (b := w.heap.size) (arr := ?_) (t := ?_) ?_ hb1 ?_; rotate_left 2; (focus (exact blk)); intro r0; have r0c0 := r0.cell 0; have r0f0 := r0.free 0; have r0c1 := r0.cell 1; have r0f1 := r0.free 1; have r0c2 := r0.cell 2; have r0f2 := r0.free 2; have r0c3 := r0.cell 3; have r0f3 := r0.free 3; have r0c4 := r0.cell 4; have r0f4 := r0.free 4; have r0l := r0.lt; simp at r0c0 r0c1 r0c2 r0c3 r0c4; refine Blk.thru (b := (w.heap.size + 1)) (arr := ?_) (t := ?_) ?_ hb1 ?_; rotate_left 2; (focus (exact blk)); intro r1; have r1c0 := r1.cell 0; have r1f0 := r1.free 0; have r1c1 := r1.cell 1; have r1f1 := r1.free 1; have r1c2 := r1.cell 2; have r1f2 := r1.free 2; have r1c3 := r1.cell 3; have r1f3 := r1.free 3; have r1c4 := r1.cell 4; have r1f4 := r1.free 4; have r1l := r1.lt; simp at r1c0 r1c1 r1c2 r1c3 r1c4; refine Blk.thru (b := (w.heap.size + 1 + 1)) (arr := ?_) (t := ?_) ?_ hb1 ?_; rotate_left 2; (focus (exact blk)); intro r3; have r3c0 := r3.cell 0; have r3f0 := r3.free 0; have r3c1 := r3.cell 1; have r3f1 := r3.free 1; have r3c2 := r3.cell 2; have r3f2 := r3.free 2; have r3c3 := r3.cell 3; have r3f3 := r3.free 3; have r3l := r3.lt; simp at r3c0 r3c1 r3c2 r3c3) | (go_at_call 46; (with_reducible refine (r_Wind wd _).mono ?_); rw [HWD.out]; rintro z w2 ⟨rfl, hb2⟩; refine Blk.thru (b := w.heap.size) (arr := ?_) (t := ?_) ?_ hb2 ?_; rotate_left 2; (focus (exact blk)); intro r0; have r0c0 := r0.cell 0; have r0f0 := r0.free 0; have r0c1 := r0.cell 1; have r0f1 := r0.free 1; have r0c2 := r0.cell 2; have r0f2 := r0.free 2; have r0c3 := r0.cell 3; have r0f3 := r0.free 3; have r0c4 := r0.cell 4; have r0f4 := r0.free 4; have r0l := r0.lt; simp at r0c0 r0c1 r0c2 r0c3 r0c4; refine Blk.thru (b := (w.heap.size + 1)) (arr := ?_) (t := ?_) ?_ hb2 ?_; rotate_left 2; (focus (exact blk)); intro r1; have r1c0 := r1.cell 0; have r1f0 := r1.free 0; have r1c1 := r1.cell 1; have r1f1 := r1.free 1; have r1c2 := r1.cell 2; have r1f2 := r1.free 2; have r1c3 := r1.cell 3; have r1f3 := r1.free 3; have r1c4 := r1.cell 4; have r1f4 := r1.free 4; have r1l := r1.lt; simp at r1c0 r1c1 r1c2 r1c3 r1c4; refine Blk.thru (b := (w.heap.size + 1 + 1)) (arr := ?_) (t := ?_) ?_ hb2 ?_; rotate_left 2; (focus (exact blk)); intro r3; have r3c0 := r3.cell 0; have r3f0 := r3.free 0; have r3c1 := r3.cell 1; have r3f1 := r3.free 1; have r3c2 := r3.cell 2; have r3f2 := r3.free 2; have r3c3 := r3.cell 3; have r3f3 := r3.free 3; have r3l := r3.lt; simp at r3c0 r3c1 r3c2 r3c3))
  exact bodyPost_ret (v := .tuple #[.slice none 0 0, .int .i64 2]) (by simp [results, Try.results33, go_sem]) rfl ⟨rfl, by (exact kpt)⟩

theorem r_Plan_here (a : Option Addr) (c : Nat) (e : Option Addr) (d : Nat) (p : Port) (w : World) (hx : Row Axis.cells 2 w.heap.size w a p.axes) (hc : p.axes.length ≤ c) (hM : c ≤ maxLen) (hy : Row Span.cells 2 w.heap.size w e p.pulls) (hd : p.pulls.length ≤ d) (hN : d ≤ maxLen) (h1 : p.axes.length ≤ 1000000) (h2 : p.pulls.length ≤ 1000000) (b : Berth) (hs0 : 0 ≤ b.ship) (wd : Wind) (ship : Int) (hcb : checkBerth p b = 0) (hw : windB wd = true) (hsh : ¬ 5 < ship) (hbs : b.ship = ship) :
    Calls Try.prog 33 #[.agg #[.slice a p.axes.length c, .int .i64 p.people, .int .i64 p.most, .slice e p.pulls.length d, .int .i64 p.cross], .agg #[.int .u8 b.ship, .int .i64 b.axis, .int .i64 b.held, .bool b.wire, .bool b.opn], .agg #[.int .i64 wd.xlo, .int .i64 wd.xhi, .int .i64 wd.ylo, .int .i64 wd.yhi], .int .u8 ship] w fun z w' => z = .returned (.tuple #[.slice none 0 0, .int .i64 0]) ∧ Kept w w' := by
  have HCB := Lib.hid hcb
  clear hcb
  have HWD := Lib.hid hw
  have e1 : (b.ship == ship) = true := by simp [hbs]
  clear hw hbs
  go_enter Try.func33, Try.ntmps33
  go_wp2_with (first | (go_at_call 28; (with_reducible refine (r_CheckBerth a c e d p _ (hx.later (by (exact kpt)) (Nat.le_refl _)) hc hM (hy.later (by (exact kpt)) (Nat.le_refl _)) hd hN h1 h2 b hs0).mono ?_); rw [HCB.out]; rintro z w1 ⟨rfl, hb1⟩; refine Blk.thru (b := w.heap.size) (arr := ?_) (t := ?_) ?_ hb1 ?_; rotate_left 2; (focus (exact blk)); intro r0; have r0c0 := r0.cell 0; have r0f0 := r0.free 0; have r0c1 := r0.cell 1; have r0f1 := r0.free 1; have r0c2 := r0.cell 2; have r0f2 := r0.free 2; have r0c3 := r0.cell 3; have r0f3 := r0.free 3; have r0c4 := r0.cell 4; have r0f4 := r0.free 4; have r0l := r0.lt; simp at r0c0 r0c1 r0c2 r0c3 r0c4; refine Blk.thru (b := (w.heap.size + 1)) (arr := ?_) (t := ?_) ?_ hb1 ?_; rotate_left 2; (focus (exact blk)); intro r1; have r1c0 := r1.cell 0; have r1f0 := r1.free 0; have r1c1 := r1.cell 1; have r1f1 := r1.free 1; have r1c2 := r1.cell 2; have r1f2 := r1.free 2; have r1c3 := r1.cell 3; have r1f3 := r1.free 3; have r1c4 := r1.cell 4; have r1f4 := r1.free 4; have r1l := r1.lt; simp at r1c0 r1c1 r1c2 r1c3 r1c4; refine Blk.thru (b := (w.heap.size + 1 + 1)) (arr := ?_) (t := ?_) ?_ hb1 ?_; rotate_left 2; (focus (exact blk)); intro r3; have r3c0 := r3.cell 0; have r3f0 := r3.free 0; have r3c1 := r3.cell 1; have r3f1 := r3.free 1; have r3c2 := r3.cell 2; have r3f2 := r3.free 2; have r3c3 := r3.cell 3; have r3f3 := r3.free 3; have r3l := r3.lt; simp at r3c0 r3c1 r3c2 r3c3) | (go_at_call 46; (with_reducible refine (r_Wind wd _).mono ?_); rw [HWD.out]; rintro z w2 ⟨rfl, hb2⟩; refine Blk.thru (b := w.heap.size) (arr := ?_) (t := ?_) ?_ hb2 ?_; rotate_left 2; (focus (exact blk)); intro r0; have r0c0 := r0.cell 0; have r0f0 := r0.free 0; have r0c1 := r0.cell 1; have r0f1 := r0.free 1; have r0c2 := r0.cell 2; have r0f2 := r0.free 2; have r0c3 := r0.cell 3; have r0f3 := r0.free 3; have r0c4 := r0.cell 4; have r0f4 := r0.free 4; have r0l := r0.lt; simp at r0c0 r0c1 r0c2 r0c3 r0c4; refine Blk.thru (b := (w.heap.size + 1)) (arr := ?_) (t := ?_) ?_ hb2 ?_; rotate_left 2; (focus (exact blk)); intro r1; have r1c0 := r1.cell 0; have r1f0 := r1.free 0; have r1c1 := r1.cell 1; have r1f1 := r1.free 1; have r1c2 := r1.cell 2; have r1f2 := r1.free 2; have r1c3 := r1.cell 3; have r1f3 := r1.free 3; have r1c4 := r1.cell 4; have r1f4 := r1.free 4; have r1l := r1.lt; simp at r1c0 r1c1 r1c2 r1c3 r1c4; refine Blk.thru (b := (w.heap.size + 1 + 1)) (arr := ?_) (t := ?_) ?_ hb2 ?_; rotate_left 2; (focus (exact blk)); intro r3; have r3c0 := r3.cell 0; have r3f0 := r3.free 0; have r3c1 := r3.cell 1; have r3f1 := r3.free 1; have r3c2 := r3.cell 2; have r3f2 := r3.free 2; have r3c3 := r3.cell 3; have r3f3 := r3.free 3; have r3l := r3.lt; simp at r3c0 r3c1 r3c2 r3c3))
  exact bodyPost_ret (v := .tuple #[.slice none 0 0, .int .i64 0]) (by simp [results, Try.results33, go_sem]) rfl ⟨rfl, by (exact kpt)⟩

end Go.Proofs.Ytacbkbilbmkjnaa

/-
  Plans, both sides.
-/
namespace Go.Proofs.Ytacbkbilbmkjnaa
open Go.RowKit Bal Bal.Trim Bal.Mast
set_option linter.unusedVariables false
set_option linter.unusedSimpArgs false
set_option maxHeartbeats 4000000
set_option maxRecDepth 10000

def planErr (p : Port) (b : Berth) (wd : Wind) (ship : Int) : Int := if checkBerth p b = 0 then (if windB wd = true then (if 5 < ship then 2 else 0) else 71) else checkBerth p b
/-- what Plan answers, by the numbers that acts are tried with -/
def PlanRes (nums : Port → Int → List Int) (p : Port) (b : Berth) (wd : Wind) (ship : Int) (E : Int) (l : List Deed) : Prop :=
  (planErr p b wd ship ≠ 0 ∧ E = planErr p b wd ship ∧ l = []) ∨ ((portB p = true ∧ berthB p b = true ∧ windB wd = true ∧ ship ≤ 5) ∧ planErr p b wd ship = 0 ∧ ∃ r, Least (stepB p wd) 4096 codeD (actsOf (nums p)) b (goalB ship) r ∧ E = outE r ∧ l = outL r)
theorem plan_one {p : Port} {b : Berth} {wd : Wind} {ship : Int} (h0 : 0 ≤ b.ship) {E E' : Int} {l l' : List Deed} (h : PlanRes numsP p b wd ship E l) (h' : PlanRes numsR p b wd ship E' l') : E = E' ∧ l = l' := by
  rcases h with ⟨h1, rfl, rfl⟩ | ⟨⟨hp, hb, hw, hs⟩, h1, r, hr, rfl, rfl⟩
  · rcases h' with ⟨_, rfl, rfl⟩ | ⟨_, h2, _⟩
    · exact ⟨rfl, rfl⟩
    · exact absurd h2 h1
  · rcases h' with ⟨h2, _⟩ | ⟨_, _, r', hr', rfl, rfl⟩
    · exact absurd h1 h2
    · have := Least.unique (coded (nums_ok hp).2) (plan_same hp h0 hb hr) hr'
      subst this
      exact ⟨rfl, rfl⟩
theorem check_parts {p : Port} {b : Berth} (h : checkBerth p b = 0) : portB p = true ∧ berthB p b = true := by
  unfold checkBerth at h
  cases c4 : portB p
  · rw [c4] at h; simp at h
  · cases c5 : berthB p b
    · rw [c4, c5] at h; simp at h
    · exact ⟨rfl, rfl⟩
theorem plan_ok {p : Port} {b : Berth} {wd : Wind} {ship : Int} (h : checkBerth p b = 0) (hw : windB wd = true) (hs : ¬ 5 < ship) : planErr p b wd ship = 0 := by
  unfold planErr; rw [if_pos h, if_pos hw, if_neg hs]

theorem f_Plan (a : Option Addr) (c : Nat) (e : Option Addr) (d : Nat) (p : Port) (w : World) (hx : Row Axis.cells 2 w.heap.size w a p.axes) (hc : p.axes.length ≤ c) (hM : c ≤ maxLen) (hy : Row Span.cells 2 w.heap.size w e p.pulls) (hd : p.pulls.length ≤ d) (hN : d ≤ maxLen) (h1 : p.axes.length ≤ 1000000) (h2 : p.pulls.length ≤ 1000000) (b : Berth) (hs0 : 0 ≤ b.ship) (wd : Wind) (ship : Int) (hsh : 0 ≤ ship ∧ ship ≤ 255) :
    Calls Try.prog 32 #[.agg #[.slice a p.axes.length c, .int .i64 p.people, .int .i64 p.most, .slice e p.pulls.length d, .int .i64 p.cross], .agg #[.int .u8 b.ship, .int .i64 b.axis, .int .i64 b.held, .bool b.wire, .bool b.opn], .agg #[.int .i64 wd.xlo, .int .i64 wd.xhi, .int .i64 wd.ylo, .int .i64 wd.yhi], .int .u8 ship] w fun z w' => ∃ v l E, PlanRes numsP p b wd ship E l ∧ z = .returned (.tuple #[v, .int .i64 E]) ∧ w'.ownsRow w.heap.size 61 2 v l.length (l.flatMap Deed.cells) ∧ Kept w w' := by
  have early : ∀ E : Int, planErr p b wd ship = E → E ≠ 0 → Calls Try.prog 32 #[.agg #[.slice a p.axes.length c, .int .i64 p.people, .int .i64 p.most, .slice e p.pulls.length d, .int .i64 p.cross], .agg #[.int .u8 b.ship, .int .i64 b.axis, .int .i64 b.held, .bool b.wire, .bool b.opn], .agg #[.int .i64 wd.xlo, .int .i64 wd.xhi, .int .i64 wd.ylo, .int .i64 wd.yhi], .int .u8 ship] w (fun z w' => z = .returned (.tuple #[.slice none 0 0, .int .i64 E]) ∧ Kept w w') → Calls Try.prog 32 #[.agg #[.slice a p.axes.length c, .int .i64 p.people, .int .i64 p.most, .slice e p.pulls.length d, .int .i64 p.cross], .agg #[.int .u8 b.ship, .int .i64 b.axis, .int .i64 b.held, .bool b.wire, .bool b.opn], .agg #[.int .i64 wd.xlo, .int .i64 wd.xhi, .int .i64 wd.ylo, .int .i64 wd.yhi], .int .u8 ship] w fun z w' => ∃ v l E, PlanRes numsP p b wd ship E l ∧ z = .returned (.tuple #[v, .int .i64 E]) ∧ w'.ownsRow w.heap.size 61 2 v l.length (l.flatMap Deed.cells) ∧ Kept w w' := by
    intro E hE hne h
    refine h.mono ?_
    rintro z w' ⟨rfl, hk⟩
    exact ⟨_, [], E, .inl ⟨by rw [hE]; exact hne, hE.symm, rfl⟩, rfl, owns_nil (α := Deed) (enc := Deed.cells), hk⟩
  by_cases hcb : checkBerth p b = 0
  · obtain ⟨hp, hb⟩ := check_parts hcb
    cases hw : windB wd
    · exact early 71 (by simp [planErr, hcb, hw]) (by omega) (f_Plan_wind a c e d p w hx hc hM hy hd hN h1 h2 b hs0 wd ship hcb hw)
    · by_cases h5 : 5 < ship
      · exact early 2 (by simp [planErr, hcb, hw, h5]) (by omega) (f_Plan_ship a c e d p w hx hc hM hy hd hN h1 h2 b hs0 wd ship hcb hw h5)
      · have hok := plan_ok hcb hw h5
        have hq : portB p = true ∧ berthB p b = true ∧ windB wd = true ∧ ship ≤ 5 := ⟨hp, hb, hw, by omega⟩
        refine (f_Plan_main a c e d p w hx hc hM hy hd hN h1 h2 hp b hs0 hb wd hw ship ⟨hsh.1, by omega⟩).mono ?_
        rintro z w' ⟨r, v, hl, rfl, ho, hk⟩
        exact ⟨v, outL r, outE r, .inr ⟨hq, hok, r, hl, rfl, rfl⟩, rfl, ho, hk⟩
  · exact early (checkBerth p b) (by simp [planErr, hcb]) hcb (f_Plan_berth a c e d p w hx hc hM hy hd hN h1 h2 b hs0 wd ship _ rfl hcb)

theorem r_Plan (a : Option Addr) (c : Nat) (e : Option Addr) (d : Nat) (p : Port) (w : World) (hx : Row Axis.cells 2 w.heap.size w a p.axes) (hc : p.axes.length ≤ c) (hM : c ≤ maxLen) (hy : Row Span.cells 2 w.heap.size w e p.pulls) (hd : p.pulls.length ≤ d) (hN : d ≤ maxLen) (h1 : p.axes.length ≤ 1000000) (h2 : p.pulls.length ≤ 1000000) (b : Berth) (hs0 : 0 ≤ b.ship) (wd : Wind) (ship : Int) (hsh : 0 ≤ ship ∧ ship ≤ 255) :
    Calls Try.prog 33 #[.agg #[.slice a p.axes.length c, .int .i64 p.people, .int .i64 p.most, .slice e p.pulls.length d, .int .i64 p.cross], .agg #[.int .u8 b.ship, .int .i64 b.axis, .int .i64 b.held, .bool b.wire, .bool b.opn], .agg #[.int .i64 wd.xlo, .int .i64 wd.xhi, .int .i64 wd.ylo, .int .i64 wd.yhi], .int .u8 ship] w fun z w' => ∃ v l E, PlanRes numsR p b wd ship E l ∧ z = .returned (.tuple #[v, .int .i64 E]) ∧ w'.ownsRow w.heap.size 61 2 v l.length (l.flatMap Deed.cells) ∧ Kept w w' := by
  have early : ∀ E : Int, planErr p b wd ship = E → E ≠ 0 → Calls Try.prog 33 #[.agg #[.slice a p.axes.length c, .int .i64 p.people, .int .i64 p.most, .slice e p.pulls.length d, .int .i64 p.cross], .agg #[.int .u8 b.ship, .int .i64 b.axis, .int .i64 b.held, .bool b.wire, .bool b.opn], .agg #[.int .i64 wd.xlo, .int .i64 wd.xhi, .int .i64 wd.ylo, .int .i64 wd.yhi], .int .u8 ship] w (fun z w' => z = .returned (.tuple #[.slice none 0 0, .int .i64 E]) ∧ Kept w w') → Calls Try.prog 33 #[.agg #[.slice a p.axes.length c, .int .i64 p.people, .int .i64 p.most, .slice e p.pulls.length d, .int .i64 p.cross], .agg #[.int .u8 b.ship, .int .i64 b.axis, .int .i64 b.held, .bool b.wire, .bool b.opn], .agg #[.int .i64 wd.xlo, .int .i64 wd.xhi, .int .i64 wd.ylo, .int .i64 wd.yhi], .int .u8 ship] w fun z w' => ∃ v l E, PlanRes numsR p b wd ship E l ∧ z = .returned (.tuple #[v, .int .i64 E]) ∧ w'.ownsRow w.heap.size 61 2 v l.length (l.flatMap Deed.cells) ∧ Kept w w' := by
    intro E hE hne h
    refine h.mono ?_
    rintro z w' ⟨rfl, hk⟩
    exact ⟨_, [], E, .inl ⟨by rw [hE]; exact hne, hE.symm, rfl⟩, rfl, owns_nil (α := Deed) (enc := Deed.cells), hk⟩
  by_cases hcb : checkBerth p b = 0
  · obtain ⟨hp, hb⟩ := check_parts hcb
    cases hw : windB wd
    · exact early 71 (by simp [planErr, hcb, hw]) (by omega) (r_Plan_wind a c e d p w hx hc hM hy hd hN h1 h2 b hs0 wd ship hcb hw)
    · by_cases h5 : 5 < ship
      · exact early 2 (by simp [planErr, hcb, hw, h5]) (by omega) (r_Plan_ship a c e d p w hx hc hM hy hd hN h1 h2 b hs0 wd ship hcb hw h5)
      · have hok := plan_ok hcb hw h5
        have hq : portB p = true ∧ berthB p b = true ∧ windB wd = true ∧ ship ≤ 5 := ⟨hp, hb, hw, by omega⟩
        by_cases he : b.ship = ship
        · refine (r_Plan_here a c e d p w hx hc hM hy hd hN h1 h2 b hs0 wd ship hcb hw h5 he).mono ?_
          rintro z w' ⟨rfl, hk⟩
          exact ⟨_, [], 0, .inr ⟨hq, hok, some [], Least.here (coded (nums_ok hp).2) (by unfold goalB; exact decide_eq_true he), rfl, rfl⟩, rfl, owns_nil (α := Deed) (enc := Deed.cells), hk⟩
        · refine (r_Plan_main a c e d p w hx hc hM hy hd hN h1 h2 hp b hs0 hb wd hw ship ⟨hsh.1, by omega⟩ he).mono ?_
          rintro z w' ⟨r, v, hl, rfl, ho, hk⟩
          exact ⟨v, outL r, outE r, .inr ⟨hq, hok, r, hl, rfl, rfl⟩, rfl, ho, hk⟩
  · exact early (checkBerth p b) (by simp [planErr, hcb]) hcb (r_Plan_berth a c e d p w hx hc hM hy hd hN h1 h2 b hs0 wd ship _ rfl hcb)

end Go.Proofs.Ytacbkbilbmkjnaa

/-
  MastPlans: the law, walked.
-/
namespace Go.Proofs.Ytacbkbilbmkjnaa
open Go.RowKit Bal Bal.Trim Bal.Mast
set_option linter.unusedVariables false
set_option linter.unusedSimpArgs false
set_option maxHeartbeats 4000000
set_option maxRecDepth 10000

theorem wide_len {p : Port} (h : wideB p = false) : p.axes.length ≤ 40 ∧ p.pulls.length ≤ 20 := by
  unfold wideB at h
  simp at h
  omega

theorem law_MastPlans (a : Option Addr) (c : Nat) (e : Option Addr) (d : Nat) (p : Port) (w : World) (hx : Row Axis.cells 2 w.heap.size w a p.axes) (hc : p.axes.length ≤ c) (hM : c ≤ maxLen) (hy : Row Span.cells 2 w.heap.size w e p.pulls) (hd : p.pulls.length ≤ d) (hN : d ≤ maxLen) (b : Berth) (hs0 : 0 ≤ b.ship) (wd : Wind) (ship : Int) (hsh : 0 ≤ ship ∧ ship ≤ 255) :
    Calls Try.prog 7 #[.agg #[.slice a p.axes.length c, .int .i64 p.people, .int .i64 p.most, .slice e p.pulls.length d, .int .i64 p.cross], .agg #[.int .u8 b.ship, .int .i64 b.axis, .int .i64 b.held, .bool b.wire, .bool b.opn], .agg #[.int .i64 wd.xlo, .int .i64 wd.xhi, .int .i64 wd.ylo, .int .i64 wd.yhi], .int .u8 ship] w fun z w' => z = .returned (.bool true) ∧ Kept w w' := by
  cases hg : wideB p
  · have HG := Lib.hid hg
    have hn := wide_len hg
    have h1 : p.axes.length ≤ 1000000 := by omega
    have h2 : p.pulls.length ≤ 1000000 := by omega
    clear hg
    go_enter Try.func7, Try.ntmps7
    go_wp2_with (first | (go_at_call 31; (with_reducible refine (r_Wide a c e d p _ (hx.later (by (exact kpt)) (Nat.le_refl _)) hc hM (hy.later (by (exact kpt)) (Nat.le_refl _)) hd hN).mono ?_); rw [HG.out]; rintro z w1 ⟨rfl, hb1⟩; refine Blk.thru (b := w.heap.size) (arr := ?_) (t := ?_) ?_ hb1 ?_; rotate_left 2; (focus (exact blk)); intro r0; have r0c0 := r0.cell 0; have r0f0 := r0.free 0; have r0c1 := r0.cell 1; have r0f1 := r0.free 1; have r0c2 := r0.cell 2; have r0f2 := r0.free 2; have r0c3 := r0.cell 3; have r0f3 := r0.free 3; have r0c4 := r0.cell 4; have r0f4 := r0.free 4; have r0l := r0.lt; simp at r0c0 r0c1 r0c2 r0c3 r0c4; refine Blk.thru (b := (w.heap.size + 1)) (arr := ?_) (t := ?_) ?_ hb1 ?_; rotate_left 2; (focus (exact blk)); intro r1; have r1c0 := r1.cell 0; have r1f0 := r1.free 0; have r1c1 := r1.cell 1; have r1f1 := r1.free 1; have r1c2 := r1.cell 2; have r1f2 := r1.free 2; have r1c3 := r1.cell 3; have r1f3 := r1.free 3; have r1c4 := r1.cell 4; have r1f4 := r1.free 4; have r1l := r1.lt; simp at r1c0 r1c1 r1c2 r1c3 r1c4; refine Blk.thru (b := (w.heap.size + 1 + 1)) (arr := ?_) (t := ?_) ?_ hb1 ?_; rotate_left 2; (focus (exact blk)); intro r3; have r3c0 := r3.cell 0; have r3f0 := r3.free 0; have r3c1 := r3.cell 1; have r3f1 := r3.free 1; have r3c2 := r3.cell 2; have r3f2 := r3.free 2; have r3c3 := r3.cell 3; have r3f3 := r3.free 3; have r3l := r3.lt; simp at r3c0 r3c1 r3c2 r3c3) | (go_at_call 32; (with_reducible refine (f_Plan a c e d p _ (hx.later (by (exact kpt)) (Nat.le_refl _)) hc hM (hy.later (by (exact kpt)) (Nat.le_refl _)) hd hN h1 h2 b hs0 wd ship hsh).mono ?_); rintro z w2 ⟨v2, l2, E2, hr2, rfl, ho2, hb2⟩; obtain ⟨ad2, cp2, rfl, hw2, hc2, hm2⟩ := owns_row (enc := Deed.cells) (k := 2) deed_len ho2; refine Blk.thru (b := w.heap.size) (arr := ?_) (t := ?_) ?_ hb2 ?_; rotate_left 2; (focus (exact blk)); intro r0; have r0c0 := r0.cell 0; have r0f0 := r0.free 0; have r0c1 := r0.cell 1; have r0f1 := r0.free 1; have r0c2 := r0.cell 2; have r0f2 := r0.free 2; have r0c3 := r0.cell 3; have r0f3 := r0.free 3; have r0c4 := r0.cell 4; have r0f4 := r0.free 4; have r0l := r0.lt; simp at r0c0 r0c1 r0c2 r0c3 r0c4; refine Blk.thru (b := (w.heap.size + 1)) (arr := ?_) (t := ?_) ?_ hb2 ?_; rotate_left 2; (focus (exact blk)); intro r1; have r1c0 := r1.cell 0; have r1f0 := r1.free 0; have r1c1 := r1.cell 1; have r1f1 := r1.free 1; have r1c2 := r1.cell 2; have r1f2 := r1.free 2; have r1c3 := r1.cell 3; have r1f3 := r1.free 3; have r1c4 := r1.cell 4; have r1f4 := r1.free 4; have r1l := r1.lt; simp at r1c0 r1c1 r1c2 r1c3 r1c4; refine Blk.thru (b := (w.heap.size + 1 + 1)) (arr := ?_) (t := ?_) ?_ hb2 ?_; rotate_left 2; (focus (exact blk)); intro r3; have r3c0 := r3.cell 0; have r3f0 := r3.free 0; have r3c1 := r3.cell 1; have r3f1 := r3.free 1; have r3c2 := r3.cell 2; have r3f2 := r3.free 2; have r3c3 := r3.cell 3; have r3f3 := r3.free 3; have r3l := r3.lt; simp at r3c0 r3c1 r3c2 r3c3) | (go_at_call 33; (with_reducible refine (r_Plan a c e d p _ (hx.later (by (exact kpt)) (Nat.le_refl _)) hc hM (hy.later (by (exact kpt)) (Nat.le_refl _)) hd hN h1 h2 b hs0 wd ship hsh).mono ?_); rintro z w3 ⟨v3, l3, E3, hr3, rfl, ho3, hb3⟩; obtain ⟨rfl, rfl⟩ := plan_one hs0 hr2 hr3; obtain ⟨ad3, cp3, rfl, hw3, hc3, hm3⟩ := owns_row (enc := Deed.cells) (k := 2) deed_len ho3) | (go_at_call 34; (with_reducible refine (r_SameActs ad2 ad3 cp2 cp3 l2 _ (hw2.later (by (exact kpt)) (Nat.le_refl _)) (hw3.later (by (exact kpt)) (Nat.le_refl _)) hc2 hc3 hm2 hm3).mono ?_); rintro z w4 ⟨rfl, hb4⟩))
    exact bodyPost_ret (v := .bool true) (by simp [results, Try.results7, go_sem]) rfl ⟨rfl, by (exact kpt)⟩
  · have HG := Lib.hid hg
    clear hg
    go_enter Try.func7, Try.ntmps7
    go_wp2_with (go_at_call 31; (with_reducible refine (r_Wide a c e d p _ (hx.later (by (exact kpt)) (Nat.le_refl _)) hc hM (hy.later (by (exact kpt)) (Nat.le_refl _)) hd hN).mono ?_); rw [HG.out]; rintro z w1 ⟨rfl, hb1⟩; refine Blk.thru (b := w.heap.size) (arr := ?_) (t := ?_) ?_ hb1 ?_; rotate_left 2; (focus (exact blk)); intro r0; have r0c0 := r0.cell 0; have r0f0 := r0.free 0; have r0c1 := r0.cell 1; have r0f1 := r0.free 1; have r0c2 := r0.cell 2; have r0f2 := r0.free 2; have r0c3 := r0.cell 3; have r0f3 := r0.free 3; have r0c4 := r0.cell 4; have r0f4 := r0.free 4; have r0l := r0.lt; simp at r0c0 r0c1 r0c2 r0c3 r0c4; refine Blk.thru (b := (w.heap.size + 1)) (arr := ?_) (t := ?_) ?_ hb1 ?_; rotate_left 2; (focus (exact blk)); intro r1; have r1c0 := r1.cell 0; have r1f0 := r1.free 0; have r1c1 := r1.cell 1; have r1f1 := r1.free 1; have r1c2 := r1.cell 2; have r1f2 := r1.free 2; have r1c3 := r1.cell 3; have r1f3 := r1.free 3; have r1c4 := r1.cell 4; have r1f4 := r1.free 4; have r1l := r1.lt; simp at r1c0 r1c1 r1c2 r1c3 r1c4; refine Blk.thru (b := (w.heap.size + 1 + 1)) (arr := ?_) (t := ?_) ?_ hb1 ?_; rotate_left 2; (focus (exact blk)); intro r3; have r3c0 := r3.cell 0; have r3f0 := r3.free 0; have r3c1 := r3.cell 1; have r3f1 := r3.free 1; have r3c2 := r3.cell 2; have r3f2 := r3.free 2; have r3c3 := r3.cell 3; have r3f3 := r3.free 3; have r3l := r3.lt; simp at r3c0 r3c1 r3c2 r3c3)
    exact bodyPost_ret (v := .bool true) (by simp [results, Try.results7, go_sem]) rfl ⟨rfl, by (exact kpt)⟩

end Go.Proofs.Ytacbkbilbmkjnaa

/-
  MastPlans, the statement: for every input the call returns true and leaves the input alone.
-/
namespace Go.Proofs.Ytacbkbilbmkjnaa.mastPlans
open Go.ChangeShapes Go.WideShapes Go.ChangeAt Go.RowKit Bal Bal.Trim Bal.Mast
open Go.ChangeMaps (open_string shut_string)
set_option linter.unusedVariables false

theorem own : ownKnob Try.prog.godebug = none := by kernel_rfl
theorem laidOut : laidOutB Try.prog = true := by kernel_rfl

set_option maxRecDepth 100000 in
theorem lifted (os : Os) (started : os.Started) (H : Type) (enc : TypeId × Value → H) :
    ReturnsInHanded {} Try.checked os 7 .any (Rows.mastPlansSpec.pre6 enc Try.prog Try.f7 Rows.mastPlansRow.domain false) (Rows.mastPlansSpec.post enc Try.prog Try.f7 false true false false) := by
  refine returnsInHanded_of_change (C := Try.checked) own started (by kernel_rfl) Try.func7
    (ChangeSpec.witness6 (enc := enc) (C := Try.checked) false ⟨#[], #[.agg #[.slice none 0 0, .int .i64 0, .int .i64 0, .slice none 0 0, .int .i64 0], .agg #[.int .u8 0, .int .i64 0, .int .i64 0, .bool false, .bool false], .agg #[.int .i64 0, .int .i64 0, .int .i64 0, .int .i64 0], .int .u8 0], []⟩ 8 (by kernel_rfl) (by kernel_rfl) (by kernel_rfl) (by kernel_rfl)) ?_
  intro W base args ds gs before hval0 hW hcnd _
  have hval : ∀ (j : Nat) t v, Try.f7.params[j]? = some t → args[j]? = some v → Value.okWide Try.prog W .any base t v := hval0
  have hW' := hW
  obtain ⟨p, q, hA0, hV, rfl, hfz, hnd⟩ := hW
  have hA : DataW.TrodAll enc Try.prog W 0 (fun _ => true) true Try.f7.params.toList args.toList ds p := hA0
  rw [Try.params7] at hA hval
  obtain ⟨v0, vs0, d0, ds0, p0, q0, hargs, rfl, rfl, h0, r0⟩ := trodAll_cons hA
  obtain ⟨v1, vs1, d1, ds1, p1, q1, rfl, rfl, rfl, h1, r1⟩ := trodAll_cons r0
  obtain ⟨v2, vs2, d2, ds2, p2, q2, rfl, rfl, rfl, h2, r2⟩ := trodAll_cons r1
  obtain ⟨v3, vs3, d3, ds3, p3, q3, rfl, rfl, rfl, h3, r3⟩ := trodAll_cons r2
  obtain ⟨rfl, rfl, rfl⟩ := trodAll_nil r3
  obtain rfl : args = #[v0, v1, v2, v3] := by cases args; simp_all
  obtain ⟨rfl, rfl⟩ := trodVars_none hV
  have k0 := h0
  have lt0 : ∀ x ∈ p0, x.block < W.heap.size := by obtain ⟨m, hm⟩ := k0; exact DataW.trod_lt m _ _ _ hm
  obtain ⟨pa, pc, pxs, ppe, pmo, pb, pd, pys, pcr, rfl, px1, px2, px3, px4, py1, py2, py3, py4⟩ := open_port (hval 0 45 v0 rfl rfl) h0
  have k1 := h1
  have lt1 : ∀ x ∈ p1, x.block < W.heap.size := by obtain ⟨m, hm⟩ := k1; exact DataW.trod_lt m _ _ _ hm
  obtain ⟨a1, rfl, wf1⟩ := open_agg (n := 5) (fun _ h => Berth.of_leaves h) Try.underlying59 (by kernel_rfl) (hval 1 59 v1 rfl rfl) h1
  have k2 := h2
  have lt2 : ∀ x ∈ p2, x.block < W.heap.size := by obtain ⟨m, hm⟩ := k2; exact DataW.trod_lt m _ _ _ hm
  obtain ⟨a2, rfl, wf2⟩ := open_agg (n := 5) (fun _ h => Wind.of_leaves h) Try.underlying25 (by kernel_rfl) (hval 2 25 v2 rfl rfl) h2
  obtain ⟨a3, rfl, rfl, rfl, w3⟩ := open_int Try.underlying5 (hval 3 5 v3 rfl rfl) h3
  clear hA0 hval0
  refine (law_MastPlans pa pc pb pd ⟨pxs, ppe, pmo, pys, pcr⟩ W px1 px2 px3 py1 py2 py3 a1 wf1.1 a2 a3 (bounds_u8 w3)).mono fun e W' ⟨he, bel⟩ => ?_
  subst he
  exact ⟨_, rfl, _, _, _, [], _, [], hW', trodAll_mk1 (shut_bool Try.underlying4 _), (trodAll_cons_mk (Below.trod laidOut (by kernel_rfl) (of_decide_eq_true (by kernel_rfl)) k0 bel lt0) (trodAll_cons_mk (Below.trod laidOut (by kernel_rfl) (of_decide_eq_true (by kernel_rfl)) k1 bel lt1) (trodAll_cons_mk (Below.trod laidOut (by kernel_rfl) (of_decide_eq_true (by kernel_rfl)) k2 bel lt2) (trodAll_cons_mk (shut_int Try.underlying5 w3) trodAll_mk0)))), rfl, bel.frame _, fun h => by cases h⟩

theorem joined : joinedFacts Try.prog 7 Try.f7 Rows.mastPlansSpec Rows.mastPlansRow = true := by
  unfold joinedFacts
  rw [mayEnter_is, liftsFinal_is, make_is]
  kernel_rfl
theorem over : Rows.mastPlansRow.holds Try.pinned (OpenSpec.ofChange Rows.mastPlansSpec) :=
  OpenClaim.holds_of_wide 7 Try.f7 rfl rfl rfl rfl rfl rfl rfl ⟨rfl, rfl, rfl, rfl, rfl⟩ rfl rfl rfl rfl rfl (by kernel_rfl) Try.func7 joined
    (of_decide_eq_true (by kernel_rfl)) (by unfold Func.isWrapper; first | (rw [if_pos (by decide +kernel)]; kernel_rfl) | (rw [if_neg (by decide +kernel)]; exact ⟨rfl, rfl⟩))
    (fun os started H enc _ => lifted os started H enc)
end Go.Proofs.Ytacbkbilbmkjnaa.mastPlans

namespace Go.Proofs.Ytacbkbilbmkjnaa
theorem mastPlans_holds : Rows.MastPlansSaid := mastPlans.over
#print axioms mastPlans_holds
end Go.Proofs.Ytacbkbilbmkjnaa
