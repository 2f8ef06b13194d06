/-
  The program: Do, its early ends.
-/
import Derived.Test.YtemafanncejeiaaGasDW
import Derived.Laws.EntriesVeiled
namespace Go.Proofs.Ytemafanncejeiaa
open Go.RowKit Bal Bal.Trim Bal.Gas
set_option linter.unusedVariables false
set_option linter.unusedSimpArgs false
set_option maxHeartbeats 8000000
set_option maxRecDepth 100000

theorem f_Do_bad (p : Plant) (d : Deed) (a : Option Addr) (cap : Nat) (w : World) (hx : Row Cell.cells 7 w.heap.size w a p.cells) (hc : p.cells.length ≤ cap) (hM : cap ≤ maxLen) (hz : a = none → cap = 0) (hp : plantB p = false) : Calls Try.prog 48 #[.agg #[.slice a p.cells.length cap, .int .i64 p.bottles, .int .i64 p.inH, .int .i64 p.inA, .int .i64 p.vH, .int .i64 p.vA, .int .i64 p.lH, .int .i64 p.lA, .int .i64 p.pH, .int .i64 p.pA], .agg #[.int .u8 d.kind, .int .i64 d.cell, .int .i64 d.to, .int .i64 d.n]] w fun e w' => e = .returned (.tuple #[.agg #[.slice none 0 0, .int .i64 0, .int .i64 0, .int .i64 0, .int .i64 0, .int .i64 0, .int .i64 0, .int .i64 0, .int .i64 0, .int .i64 0], .int .i64 32]) ∧ Kept w w' := by
  have HP := Lib.hid (show plantE p = 32 by simp [plantE, hp])
  clear hp
  go_enter_defers Try.func48, Try.ntmps48
  go_upto_region 3 with (go_at_call 50; (with_reducible refine (f_Check p a cap _ (hx.later (by (exact kpt)) (Nat.le_refl _)) hc hM).mono ?_); rw [HP.out]; rintro e w1 ⟨rfl, hb1⟩; refine Blk.thru (b := w.heap.size) (arr := ?_) (t := ?_) ?_ hb1 ?_; rotate_left 2; (focus (exact blk)); intro rr; have rrc0 := rr.cell 0; have rrf0 := rr.free 0; have rrc1 := rr.cell 1; have rrf1 := rr.free 1; have rrc2 := rr.cell 2; have rrf2 := rr.free 2; have rrc3 := rr.cell 3; have rrf3 := rr.free 3; have rrc4 := rr.cell 4; have rrf4 := rr.free 4; have rrc5 := rr.cell 5; have rrf5 := rr.free 5; have rrc6 := rr.cell 6; have rrf6 := rr.free 6; have rrc7 := rr.cell 7; have rrf7 := rr.free 7; have rrc8 := rr.cell 8; have rrf8 := rr.free 8; have rrc9 := rr.cell 9; have rrf9 := rr.free 9; have rrl := rr.lt; simp at rrc0 rrc1 rrc2 rrc3 rrc4 rrc5 rrc6 rrc7 rrc8 rrc9; refine Blk.thru (b := (w.heap.size + 1)) (arr := ?_) (t := ?_) ?_ hb1 ?_; rotate_left 2; (focus (exact blk)); intro rq; have rqc0 := rq.cell 0; have rqf0 := rq.free 0; have rqc1 := rq.cell 1; have rqf1 := rq.free 1; have rqc2 := rq.cell 2; have rqf2 := rq.free 2; have rqc3 := rq.cell 3; have rqf3 := rq.free 3; have rql := rq.lt; simp at rqc0 rqc1 rqc2 rqc3)
  refine at_world (S := fun W => Blk W w.heap.size #[.slice a p.cells.length cap, .int .i64 p.bottles, .int .i64 p.inH, .int .i64 p.inA, .int .i64 p.vH, .int .i64 p.vA, .int .i64 p.lH, .int .i64 p.lA, .int .i64 p.pH, .int .i64 p.pA] 63 ∧ Blk W (w.heap.size + 1) #[.int .u8 d.kind, .int .i64 d.cell, .int .i64 d.to, .int .i64 d.n] 65 ∧ Blk W (w.heap.size + 1 + 1) #[.slice none 0 0, .int .i64 0, .int .i64 0, .int .i64 0, .int .i64 0, .int .i64 0, .int .i64 0, .int .i64 0, .int .i64 0, .int .i64 0] 63 ∧ Blk W (w.heap.size + 1 + 1 + 1) #[.int .i64 0] 28 ∧ Kept w W) ⟨by (exact blkc), by (exact blkc), by (exact blkc), by (exact blkc), by (exact kpt)⟩ ?_
  rintro W ⟨b0, b1, b2, b3, hk⟩
  have b0c0 := b0.cell 0
  have b0f0 := b0.free 0
  have b0c1 := b0.cell 1
  have b0f1 := b0.free 1
  have b0c2 := b0.cell 2
  have b0f2 := b0.free 2
  have b0c3 := b0.cell 3
  have b0f3 := b0.free 3
  have b0c4 := b0.cell 4
  have b0f4 := b0.free 4
  have b0c5 := b0.cell 5
  have b0f5 := b0.free 5
  have b0c6 := b0.cell 6
  have b0f6 := b0.free 6
  have b0c7 := b0.cell 7
  have b0f7 := b0.free 7
  have b0c8 := b0.cell 8
  have b0f8 := b0.free 8
  have b0c9 := b0.cell 9
  have b0f9 := b0.free 9
  have b0l := b0.lt
  simp at b0c0 b0c1 b0c2 b0c3 b0c4 b0c5 b0c6 b0c7 b0c8 b0c9
  have b1c0 := b1.cell 0
  have b1f0 := b1.free 0
  have b1c1 := b1.cell 1
  have b1f1 := b1.free 1
  have b1c2 := b1.cell 2
  have b1f2 := b1.free 2
  have b1c3 := b1.cell 3
  have b1f3 := b1.free 3
  have b1l := b1.lt
  simp at b1c0 b1c1 b1c2 b1c3
  have b2c0 := b2.cell 0
  have b2f0 := b2.free 0
  have b2c1 := b2.cell 1
  have b2f1 := b2.free 1
  have b2c2 := b2.cell 2
  have b2f2 := b2.free 2
  have b2c3 := b2.cell 3
  have b2f3 := b2.free 3
  have b2c4 := b2.cell 4
  have b2f4 := b2.free 4
  have b2c5 := b2.cell 5
  have b2f5 := b2.free 5
  have b2c6 := b2.cell 6
  have b2f6 := b2.free 6
  have b2c7 := b2.cell 7
  have b2f7 := b2.free 7
  have b2c8 := b2.cell 8
  have b2f8 := b2.free 8
  have b2c9 := b2.cell 9
  have b2f9 := b2.free 9
  have b2l := b2.lt
  simp at b2c0 b2c1 b2c2 b2c3 b2c4 b2c5 b2c6 b2c7 b2c8 b2c9
  have b3c0 := b3.cell 0
  have b3f0 := b3.free 0
  have b3l := b3.lt
  simp at b3c0
  go_wp2
  exact (show ∃ v, (results _ _).run _ _ = .ok v _ ∧ _ from ⟨.tuple #[.agg #[.slice none 0 0, .int .i64 0, .int .i64 0, .int .i64 0, .int .i64 0, .int .i64 0, .int .i64 0, .int .i64 0, .int .i64 0, .int .i64 0], .int .i64 32], by simp [results, Try.results48, go_sem, b2c0, b2f0, b2c1, b2f1, b2c2, b2f2, b2c3, b2f3, b2c4, b2f4, b2c5, b2f5, b2c6, b2f6, b2c7, b2f7, b2c8, b2f8, b2c9, b2f9, b3c0, b3f0], rfl, by (exact kpt)⟩)
theorem f_Do_kind (p : Plant) (d : Deed) (a : Option Addr) (cap : Nat) (w : World) (hx : Row Cell.cells 7 w.heap.size w a p.cells) (hc : p.cells.length ≤ cap) (hM : cap ≤ maxLen) (hz : a = none → cap = 0) (hp : plantB p = true) (hk0 : -9223372036854775808 ≤ d.kind ∧ d.kind ≤ 9223372036854775807) (hk : inB d.kind 1 7 = false) : Calls Try.prog 48 #[.agg #[.slice a p.cells.length cap, .int .i64 p.bottles, .int .i64 p.inH, .int .i64 p.inA, .int .i64 p.vH, .int .i64 p.vA, .int .i64 p.lH, .int .i64 p.lA, .int .i64 p.pH, .int .i64 p.pA], .agg #[.int .u8 d.kind, .int .i64 d.cell, .int .i64 d.to, .int .i64 d.n]] w fun e w' => e = .returned (.tuple #[.agg #[.slice none 0 0, .int .i64 0, .int .i64 0, .int .i64 0, .int .i64 0, .int .i64 0, .int .i64 0, .int .i64 0, .int .i64 0, .int .i64 0], .int .i64 2]) ∧ Kept w w' := by
  have HP := Lib.hid (show plantE p = 0 by simp [plantE, hp])
  have H1 := Lib.hid (show rng [d.kind] 1 7 = false by simpa [rng] using hk)
  have hw := i64_inx hk0
  clear hp hk
  have hmf : ∀ (fn : Fn) (first cap : Array Value) (w : World), (Instr.makeFunc fn first cap).run Try.prog w = .ok (.func fn first cap) w := fun _ _ _ _ => rfl
  go_enter_defers Try.func48, Try.ntmps48
  go_upto_region 4 with (go_at_call 50; (with_reducible refine (f_Check p a cap _ (hx.later (by (exact kpt)) (Nat.le_refl _)) hc hM).mono ?_); rw [HP.out]; rintro e w1 ⟨rfl, hb1⟩; refine Blk.thru (b := w.heap.size) (arr := ?_) (t := ?_) ?_ hb1 ?_; rotate_left 2; (focus (exact blk)); intro rr; have rrc0 := rr.cell 0; have rrf0 := rr.free 0; have rrc1 := rr.cell 1; have rrf1 := rr.free 1; have rrc2 := rr.cell 2; have rrf2 := rr.free 2; have rrc3 := rr.cell 3; have rrf3 := rr.free 3; have rrc4 := rr.cell 4; have rrf4 := rr.free 4; have rrc5 := rr.cell 5; have rrf5 := rr.free 5; have rrc6 := rr.cell 6; have rrf6 := rr.free 6; have rrc7 := rr.cell 7; have rrf7 := rr.free 7; have rrc8 := rr.cell 8; have rrf8 := rr.free 8; have rrc9 := rr.cell 9; have rrf9 := rr.free 9; have rrl := rr.lt; simp at rrc0 rrc1 rrc2 rrc3 rrc4 rrc5 rrc6 rrc7 rrc8 rrc9; refine Blk.thru (b := (w.heap.size + 1)) (arr := ?_) (t := ?_) ?_ hb1 ?_; rotate_left 2; (focus (exact blk)); intro rq; have rqc0 := rq.cell 0; have rqf0 := rq.free 0; have rqc1 := rq.cell 1; have rqf1 := rq.free 1; have rqc2 := rq.cell 2; have rqf2 := rq.free 2; have rqc3 := rq.cell 3; have rqf3 := rq.free 3; have rql := rq.lt; simp at rqc0 rqc1 rqc2 rqc3)
  refine at_world (S := fun W => Blk W w.heap.size #[.slice a p.cells.length cap, .int .i64 p.bottles, .int .i64 p.inH, .int .i64 p.inA, .int .i64 p.vH, .int .i64 p.vA, .int .i64 p.lH, .int .i64 p.lA, .int .i64 p.pH, .int .i64 p.pA] 63 ∧ Blk W (w.heap.size + 1) #[.int .u8 d.kind, .int .i64 d.cell, .int .i64 d.to, .int .i64 d.n] 65 ∧ Blk W (w.heap.size + 1 + 1) #[.slice none 0 0, .int .i64 0, .int .i64 0, .int .i64 0, .int .i64 0, .int .i64 0, .int .i64 0, .int .i64 0, .int .i64 0, .int .i64 0] 63 ∧ Blk W (w.heap.size + 1 + 1 + 1) #[.int .i64 0] 28 ∧ Kept w W) ⟨by (exact blkc), by (exact blkc), by (exact blkc), by (exact blkc), by (exact kpt)⟩ ?_
  rintro W ⟨b0, b1, b2, b3, hk⟩
  have b0c0 := b0.cell 0
  have b0f0 := b0.free 0
  have b0c1 := b0.cell 1
  have b0f1 := b0.free 1
  have b0c2 := b0.cell 2
  have b0f2 := b0.free 2
  have b0c3 := b0.cell 3
  have b0f3 := b0.free 3
  have b0c4 := b0.cell 4
  have b0f4 := b0.free 4
  have b0c5 := b0.cell 5
  have b0f5 := b0.free 5
  have b0c6 := b0.cell 6
  have b0f6 := b0.free 6
  have b0c7 := b0.cell 7
  have b0f7 := b0.free 7
  have b0c8 := b0.cell 8
  have b0f8 := b0.free 8
  have b0c9 := b0.cell 9
  have b0f9 := b0.free 9
  have b0l := b0.lt
  simp at b0c0 b0c1 b0c2 b0c3 b0c4 b0c5 b0c6 b0c7 b0c8 b0c9
  have b1c0 := b1.cell 0
  have b1f0 := b1.free 0
  have b1c1 := b1.cell 1
  have b1f1 := b1.free 1
  have b1c2 := b1.cell 2
  have b1f2 := b1.free 2
  have b1c3 := b1.cell 3
  have b1f3 := b1.free 3
  have b1l := b1.lt
  simp at b1c0 b1c1 b1c2 b1c3
  have b2c0 := b2.cell 0
  have b2f0 := b2.free 0
  have b2c1 := b2.cell 1
  have b2f1 := b2.free 1
  have b2c2 := b2.cell 2
  have b2f2 := b2.free 2
  have b2c3 := b2.cell 3
  have b2f3 := b2.free 3
  have b2c4 := b2.cell 4
  have b2f4 := b2.free 4
  have b2c5 := b2.cell 5
  have b2f5 := b2.free 5
  have b2c6 := b2.cell 6
  have b2f6 := b2.free 6
  have b2c7 := b2.cell 7
  have b2f7 := b2.free 7
  have b2c8 := b2.cell 8
  have b2f8 := b2.free 8
  have b2c9 := b2.cell 9
  have b2f9 := b2.free 9
  have b2l := b2.lt
  simp at b2c0 b2c1 b2c2 b2c3 b2c4 b2c5 b2c6 b2c7 b2c8 b2c9
  have b3c0 := b3.cell 0
  have b3f0 := b3.free 0
  have b3l := b3.lt
  simp at b3c0
  go_wp2_with (first | (go_at_call 91; (with_reducible refine (f_ranged1 _ _ d.kind _ _ _ (by simp)).mono ?_); rw [H1.out]; rintro e w1 ⟨rfl, rfl⟩) | (go_at_call 113; (with_reducible refine (f_need_no _ _).mono ?_); rintro e w1 ⟨rfl, rfl⟩))
  refine leaves_cons (f := 105) (args := #[.pointer (some ⟨w.heap.size + 1 + 1, 0, none⟩), .pointer (some ⟨w.heap.size + 1 + 1 + 1, 0, none⟩)]) (by simp) (by simp [go_sem]) ?_
  refine (catch_panics _ _ 2 _ (by (exact blkc)) (by (exact blkc))).mono ?_
  rintro e u' w'' ⟨rfl, rfl, k1, k2, kb⟩
  have k1c0 := k1.cell 0
  have k1f0 := k1.free 0
  have k1c1 := k1.cell 1
  have k1f1 := k1.free 1
  have k1c2 := k1.cell 2
  have k1f2 := k1.free 2
  have k1c3 := k1.cell 3
  have k1f3 := k1.free 3
  have k1c4 := k1.cell 4
  have k1f4 := k1.free 4
  have k1c5 := k1.cell 5
  have k1f5 := k1.free 5
  have k1c6 := k1.cell 6
  have k1f6 := k1.free 6
  have k1c7 := k1.cell 7
  have k1f7 := k1.free 7
  have k1c8 := k1.cell 8
  have k1f8 := k1.free 8
  have k1c9 := k1.cell 9
  have k1f9 := k1.free 9
  have k1l := k1.lt
  simp at k1c0 k1c1 k1c2 k1c3 k1c4 k1c5 k1c6 k1c7 k1c8 k1c9
  have k2c0 := k2.cell 0
  have k2f0 := k2.free 0
  have k2l := k2.lt
  simp at k2c0
  exact (show ∃ v, (results _ _).run _ _ = .ok v _ ∧ _ from ⟨.tuple #[.agg #[.slice none 0 0, .int .i64 0, .int .i64 0, .int .i64 0, .int .i64 0, .int .i64 0, .int .i64 0, .int .i64 0, .int .i64 0, .int .i64 0], .int .i64 2], by simp [results, Try.results48, go_sem, k1c0, k1f0, k1c1, k1f1, k1c2, k1f2, k1c3, k1f3, k1c4, k1f4, k1c5, k1f5, k1c6, k1f6, k1c7, k1f7, k1c8, k1f8, k1c9, k1f9, k2c0, k2f0], rfl, by exact Below.trans (by (exact kpt)) (kb _ (by omega) (by omega))⟩)

end Go.Proofs.Ytemafanncejeiaa
