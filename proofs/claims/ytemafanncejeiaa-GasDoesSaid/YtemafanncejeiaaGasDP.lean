/-
  The reference: Do, its early ends.
-/
import Derived.Test.YtemafanncejeiaaGasDO
namespace Go.Proofs.Ytemafanncejeiaa
open Go.RowKit Bal Bal.Trim Bal.Gas
set_option linter.unusedVariables false
set_option linter.unusedSimpArgs false
set_option maxHeartbeats 8000000
set_option maxRecDepth 100000

theorem r_sized (p : Plant) (d : Deed) (a : Option Addr) (cap : Nat) (w : World) (hc : p.cells.length ≤ cap) (hM : cap ≤ maxLen) :
    Calls Try.prog 116 #[.agg #[.slice a p.cells.length cap, .int .i64 p.bottles, .int .i64 p.inH, .int .i64 p.inA, .int .i64 p.vH, .int .i64 p.vA, .int .i64 p.lH, .int .i64 p.lA, .int .i64 p.pH, .int .i64 p.pA], .agg #[.int .u8 d.kind, .int .i64 d.cell, .int .i64 d.to, .int .i64 d.n]] w fun e w' => e = .returned (.int .i64 (sizedE p d)) ∧ Kept w w' := by
  by_cases k7 : d.kind = 7
  · cases hn : inB d.n 1 1000
    · rw [show sizedE p d = 2 by simp [sizedE, k7, hn]]
      exact r_sized2 p d a cap w hc hM k7 hn
    · rw [show sizedE p d = 0 by simp [sizedE, k7, hn]]
      exact r_sized1 p d a cap w hc hM k7 hn
  · by_cases l1 : d.kind < 1
    · rw [show sizedE p d = 2 by simp [sizedE, k7, l1]]
      exact r_sized3 p d a cap w hc hM l1
    · by_cases l6 : 6 < d.kind
      · rw [show sizedE p d = 2 by simp [sizedE, k7, l6]]
        exact r_sized4 p d a cap w hc hM l6 k7
      · cases hn : inB d.n 1 10000000
        · rw [show sizedE p d = 2 by simp [sizedE, k7, hn]]
          exact r_sized5 p d a cap w hc hM (by omega) (by omega) hn
        · by_cases k1 : d.kind = 1
          · rw [show sizedE p d = 0 by simp [sizedE, k1, hn]]
            exact r_sized6 p d a cap w hc hM k1 hn
          · cases hl : inB d.cell 0 (p.cells.length - 1)
            · rw [show sizedE p d = 2 by simp [sizedE, k7, l1, l6, hn, k1, hl]]
              exact r_sized7 p d a cap w hc hM (by omega) (by omega) hn hl
            · by_cases k4 : d.kind = 4
              · cases ht : inB d.to 0 (p.cells.length - 1)
                · rw [show sizedE p d = 2 by simp [sizedE, k7, l1, l6, hn, k1, hl, k4, ht]]
                  exact r_sized9 p d a cap w hc hM k4 hn hl ht
                · by_cases he : d.to = d.cell
                  · rw [show sizedE p d = 2 by rw [he] at ht; simp [sizedE, k7, l1, l6, hn, k1, hl, k4, ht, he]]
                    exact r_sized10 p d a cap w hc hM k4 hn hl ht he
                  · rw [show sizedE p d = 0 by simp [sizedE, k7, l1, l6, hn, k1, hl, k4, ht, he]]
                    exact r_sized11 p d a cap w hc hM k4 hn hl ht he
              · rw [show sizedE p d = 0 by simp [sizedE, k7, l1, l6, hn, k1, hl, k4]]
                exact r_sized8 p d a cap w hc hM (by omega) (by omega) k4 hn hl
theorem r_Do_bad (p : Plant) (d : Deed) (a : Option Addr) (cap : Nat) (w : World) (hx : Row Cell.cells 7 w.heap.size w a p.cells) (hc : p.cells.length ≤ cap) (hM : cap ≤ maxLen) (hz : a = none → cap = 0) (hp : plantB p = false) : Calls Try.prog 49 #[.agg #[.slice a p.cells.length cap, .int .i64 p.bottles, .int .i64 p.inH, .int .i64 p.inA, .int .i64 p.vH, .int .i64 p.vA, .int .i64 p.lH, .int .i64 p.lA, .int .i64 p.pH, .int .i64 p.pA], .agg #[.int .u8 d.kind, .int .i64 d.cell, .int .i64 d.to, .int .i64 d.n]] w fun e w' => e = .returned (.tuple #[.agg #[.slice none 0 0, .int .i64 0, .int .i64 0, .int .i64 0, .int .i64 0, .int .i64 0, .int .i64 0, .int .i64 0, .int .i64 0, .int .i64 0], .int .i64 32]) ∧ Kept w w' := by
  have HP := Lib.hid hp
  clear hp
  go_enter Try.func49, Try.ntmps49
  go_upto_region 2 with (go_at_call 115; (with_reducible refine (r_Plant p a cap _ (hx.later (by (exact kpt)) (Nat.le_refl _)) hc hM).mono ?_); rw [HP.out]; rintro e w1 ⟨rfl, hb1⟩; refine Blk.thru (b := w.heap.size) (arr := ?_) (t := ?_) ?_ hb1 ?_; rotate_left 2; (focus (exact blk)); intro rr; have rrc0 := rr.cell 0; have rrf0 := rr.free 0; have rrc1 := rr.cell 1; have rrf1 := rr.free 1; have rrc2 := rr.cell 2; have rrf2 := rr.free 2; have rrc3 := rr.cell 3; have rrf3 := rr.free 3; have rrc4 := rr.cell 4; have rrf4 := rr.free 4; have rrc5 := rr.cell 5; have rrf5 := rr.free 5; have rrc6 := rr.cell 6; have rrf6 := rr.free 6; have rrc7 := rr.cell 7; have rrf7 := rr.free 7; have rrc8 := rr.cell 8; have rrf8 := rr.free 8; have rrc9 := rr.cell 9; have rrf9 := rr.free 9; have rrl := rr.lt; simp at rrc0 rrc1 rrc2 rrc3 rrc4 rrc5 rrc6 rrc7 rrc8 rrc9; refine Blk.thru (b := (w.heap.size + 1)) (arr := ?_) (t := ?_) ?_ hb1 ?_; rotate_left 2; (focus (exact blk)); intro rq; have rqc0 := rq.cell 0; have rqf0 := rq.free 0; have rqc1 := rq.cell 1; have rqf1 := rq.free 1; have rqc2 := rq.cell 2; have rqf2 := rq.free 2; have rqc3 := rq.cell 3; have rqf3 := rq.free 3; have rql := rq.lt; simp at rqc0 rqc1 rqc2 rqc3)
  refine at_world (S := fun W => Blk W w.heap.size #[.slice a p.cells.length cap, .int .i64 p.bottles, .int .i64 p.inH, .int .i64 p.inA, .int .i64 p.vH, .int .i64 p.vA, .int .i64 p.lH, .int .i64 p.lA, .int .i64 p.pH, .int .i64 p.pA] 63 ∧ Blk W (w.heap.size + 1) #[.int .u8 d.kind, .int .i64 d.cell, .int .i64 d.to, .int .i64 d.n] 65 ∧ Blk W (w.heap.size + 1 + 1) #[.slice none 0 0, .int .i64 0, .int .i64 0, .int .i64 0, .int .i64 0, .int .i64 0, .int .i64 0, .int .i64 0, .int .i64 0, .int .i64 0] 63 ∧ Kept w W) ⟨by (exact blkc), by (exact blkc), by (exact blkc), by (exact kpt)⟩ ?_
  rintro W ⟨b0, b1, b2, hk⟩
  have b0c0 := b0.cell 0
  have b0f0 := b0.free 0
  have b0c1 := b0.cell 1
  have b0f1 := b0.free 1
  have b0c2 := b0.cell 2
  have b0f2 := b0.free 2
  have b0c3 := b0.cell 3
  have b0f3 := b0.free 3
  have b0c4 := b0.cell 4
  have b0f4 := b0.free 4
  have b0c5 := b0.cell 5
  have b0f5 := b0.free 5
  have b0c6 := b0.cell 6
  have b0f6 := b0.free 6
  have b0c7 := b0.cell 7
  have b0f7 := b0.free 7
  have b0c8 := b0.cell 8
  have b0f8 := b0.free 8
  have b0c9 := b0.cell 9
  have b0f9 := b0.free 9
  have b0l := b0.lt
  simp at b0c0 b0c1 b0c2 b0c3 b0c4 b0c5 b0c6 b0c7 b0c8 b0c9
  have b1c0 := b1.cell 0
  have b1f0 := b1.free 0
  have b1c1 := b1.cell 1
  have b1f1 := b1.free 1
  have b1c2 := b1.cell 2
  have b1f2 := b1.free 2
  have b1c3 := b1.cell 3
  have b1f3 := b1.free 3
  have b1l := b1.lt
  simp at b1c0 b1c1 b1c2 b1c3
  have b2c0 := b2.cell 0
  have b2f0 := b2.free 0
  have b2c1 := b2.cell 1
  have b2f1 := b2.free 1
  have b2c2 := b2.cell 2
  have b2f2 := b2.free 2
  have b2c3 := b2.cell 3
  have b2f3 := b2.free 3
  have b2c4 := b2.cell 4
  have b2f4 := b2.free 4
  have b2c5 := b2.cell 5
  have b2f5 := b2.free 5
  have b2c6 := b2.cell 6
  have b2f6 := b2.free 6
  have b2c7 := b2.cell 7
  have b2f7 := b2.free 7
  have b2c8 := b2.cell 8
  have b2f8 := b2.free 8
  have b2c9 := b2.cell 9
  have b2f9 := b2.free 9
  have b2l := b2.lt
  simp at b2c0 b2c1 b2c2 b2c3 b2c4 b2c5 b2c6 b2c7 b2c8 b2c9
  go_wp2
  refine bodyPost_ret (v := .tuple #[.agg #[.slice none 0 0, .int .i64 0, .int .i64 0, .int .i64 0, .int .i64 0, .int .i64 0, .int .i64 0, .int .i64 0, .int .i64 0, .int .i64 0], .int .i64 32]) (by simp [results, Try.results49, go_sem, b2c0, b2f0, b2c1, b2f1, b2c2, b2f2, b2c3, b2f3, b2c4, b2f4, b2c5, b2f5, b2c6, b2f6, b2c7, b2f7, b2c8, b2f8, b2c9, b2f9]) rfl ⟨rfl, by (exact kpt)⟩
theorem r_Do_size (p : Plant) (d : Deed) (a : Option Addr) (cap : Nat) (w : World) (hx : Row Cell.cells 7 w.heap.size w a p.cells) (hc : p.cells.length ≤ cap) (hM : cap ≤ maxLen) (hz : a = none → cap = 0) (hp : plantB p = true) (hs : sizedE p d = 2) : Calls Try.prog 49 #[.agg #[.slice a p.cells.length cap, .int .i64 p.bottles, .int .i64 p.inH, .int .i64 p.inA, .int .i64 p.vH, .int .i64 p.vA, .int .i64 p.lH, .int .i64 p.lA, .int .i64 p.pH, .int .i64 p.pA], .agg #[.int .u8 d.kind, .int .i64 d.cell, .int .i64 d.to, .int .i64 d.n]] w fun e w' => e = .returned (.tuple #[.agg #[.slice none 0 0, .int .i64 0, .int .i64 0, .int .i64 0, .int .i64 0, .int .i64 0, .int .i64 0, .int .i64 0, .int .i64 0, .int .i64 0], .int .i64 2]) ∧ Kept w w' := by
  have HP := Lib.hid hp
  have HS := Lib.hid hs
  clear hp hs
  go_enter Try.func49, Try.ntmps49
  go_upto_region 3 with (go_at_call 115; (with_reducible refine (r_Plant p a cap _ (hx.later (by (exact kpt)) (Nat.le_refl _)) hc hM).mono ?_); rw [HP.out]; rintro e w1 ⟨rfl, hb1⟩; refine Blk.thru (b := w.heap.size) (arr := ?_) (t := ?_) ?_ hb1 ?_; rotate_left 2; (focus (exact blk)); intro rr; have rrc0 := rr.cell 0; have rrf0 := rr.free 0; have rrc1 := rr.cell 1; have rrf1 := rr.free 1; have rrc2 := rr.cell 2; have rrf2 := rr.free 2; have rrc3 := rr.cell 3; have rrf3 := rr.free 3; have rrc4 := rr.cell 4; have rrf4 := rr.free 4; have rrc5 := rr.cell 5; have rrf5 := rr.free 5; have rrc6 := rr.cell 6; have rrf6 := rr.free 6; have rrc7 := rr.cell 7; have rrf7 := rr.free 7; have rrc8 := rr.cell 8; have rrf8 := rr.free 8; have rrc9 := rr.cell 9; have rrf9 := rr.free 9; have rrl := rr.lt; simp at rrc0 rrc1 rrc2 rrc3 rrc4 rrc5 rrc6 rrc7 rrc8 rrc9; refine Blk.thru (b := (w.heap.size + 1)) (arr := ?_) (t := ?_) ?_ hb1 ?_; rotate_left 2; (focus (exact blk)); intro rq; have rqc0 := rq.cell 0; have rqf0 := rq.free 0; have rqc1 := rq.cell 1; have rqf1 := rq.free 1; have rqc2 := rq.cell 2; have rqf2 := rq.free 2; have rqc3 := rq.cell 3; have rqf3 := rq.free 3; have rql := rq.lt; simp at rqc0 rqc1 rqc2 rqc3)
  refine at_world (S := fun W => Blk W w.heap.size #[.slice a p.cells.length cap, .int .i64 p.bottles, .int .i64 p.inH, .int .i64 p.inA, .int .i64 p.vH, .int .i64 p.vA, .int .i64 p.lH, .int .i64 p.lA, .int .i64 p.pH, .int .i64 p.pA] 63 ∧ Blk W (w.heap.size + 1) #[.int .u8 d.kind, .int .i64 d.cell, .int .i64 d.to, .int .i64 d.n] 65 ∧ Blk W (w.heap.size + 1 + 1) #[.slice none 0 0, .int .i64 0, .int .i64 0, .int .i64 0, .int .i64 0, .int .i64 0, .int .i64 0, .int .i64 0, .int .i64 0, .int .i64 0] 63 ∧ Kept w W) ⟨by (exact blkc), by (exact blkc), by (exact blkc), by (exact kpt)⟩ ?_
  rintro W ⟨b0, b1, b2, hk⟩
  have b0c0 := b0.cell 0
  have b0f0 := b0.free 0
  have b0c1 := b0.cell 1
  have b0f1 := b0.free 1
  have b0c2 := b0.cell 2
  have b0f2 := b0.free 2
  have b0c3 := b0.cell 3
  have b0f3 := b0.free 3
  have b0c4 := b0.cell 4
  have b0f4 := b0.free 4
  have b0c5 := b0.cell 5
  have b0f5 := b0.free 5
  have b0c6 := b0.cell 6
  have b0f6 := b0.free 6
  have b0c7 := b0.cell 7
  have b0f7 := b0.free 7
  have b0c8 := b0.cell 8
  have b0f8 := b0.free 8
  have b0c9 := b0.cell 9
  have b0f9 := b0.free 9
  have b0l := b0.lt
  simp at b0c0 b0c1 b0c2 b0c3 b0c4 b0c5 b0c6 b0c7 b0c8 b0c9
  have b1c0 := b1.cell 0
  have b1f0 := b1.free 0
  have b1c1 := b1.cell 1
  have b1f1 := b1.free 1
  have b1c2 := b1.cell 2
  have b1f2 := b1.free 2
  have b1c3 := b1.cell 3
  have b1f3 := b1.free 3
  have b1l := b1.lt
  simp at b1c0 b1c1 b1c2 b1c3
  have b2c0 := b2.cell 0
  have b2f0 := b2.free 0
  have b2c1 := b2.cell 1
  have b2f1 := b2.free 1
  have b2c2 := b2.cell 2
  have b2f2 := b2.free 2
  have b2c3 := b2.cell 3
  have b2f3 := b2.free 3
  have b2c4 := b2.cell 4
  have b2f4 := b2.free 4
  have b2c5 := b2.cell 5
  have b2f5 := b2.free 5
  have b2c6 := b2.cell 6
  have b2f6 := b2.free 6
  have b2c7 := b2.cell 7
  have b2f7 := b2.free 7
  have b2c8 := b2.cell 8
  have b2f8 := b2.free 8
  have b2c9 := b2.cell 9
  have b2f9 := b2.free 9
  have b2l := b2.lt
  simp at b2c0 b2c1 b2c2 b2c3 b2c4 b2c5 b2c6 b2c7 b2c8 b2c9
  go_upto_region 5 with (go_at_call 116; (with_reducible refine (r_sized p d a cap _ hc hM).mono ?_); rw [HS.out]; rintro e w1 ⟨rfl, hb1⟩)
  clear b0c0 b0f0 b0c1 b0f1 b0c2 b0f2 b0c3 b0f3 b0c4 b0f4 b0c5 b0f5 b0c6 b0f6 b0c7 b0f7 b0c8 b0f8 b0c9 b0f9 b0l b1c0 b1f0 b1c1 b1f1 b1c2 b1f2 b1c3 b1f3 b1l b2c0 b2f0 b2c1 b2f1 b2c2 b2f2 b2c3 b2f3 b2c4 b2f4 b2c5 b2f5 b2c6 b2f6 b2c7 b2f7 b2c8 b2f8 b2c9 b2f9 b2l
  refine at_world (S := fun X => Blk X w.heap.size #[.slice a p.cells.length cap, .int .i64 p.bottles, .int .i64 p.inH, .int .i64 p.inA, .int .i64 p.vH, .int .i64 p.vA, .int .i64 p.lH, .int .i64 p.lA, .int .i64 p.pH, .int .i64 p.pA] 63 ∧ Blk X (w.heap.size + 1) #[.int .u8 d.kind, .int .i64 d.cell, .int .i64 d.to, .int .i64 d.n] 65 ∧ Blk X (w.heap.size + 1 + 1) #[.slice none 0 0, .int .i64 0, .int .i64 0, .int .i64 0, .int .i64 0, .int .i64 0, .int .i64 0, .int .i64 0, .int .i64 0, .int .i64 0] 63 ∧ Kept w X) ⟨by (exact blkc), by (exact blkc), by (exact blkc), by (exact kpt)⟩ ?_
  clear b0 b1 b2 hk
  rintro X ⟨b0, b1, b2, hk⟩
  have b0c0 := b0.cell 0
  have b0f0 := b0.free 0
  have b0c1 := b0.cell 1
  have b0f1 := b0.free 1
  have b0c2 := b0.cell 2
  have b0f2 := b0.free 2
  have b0c3 := b0.cell 3
  have b0f3 := b0.free 3
  have b0c4 := b0.cell 4
  have b0f4 := b0.free 4
  have b0c5 := b0.cell 5
  have b0f5 := b0.free 5
  have b0c6 := b0.cell 6
  have b0f6 := b0.free 6
  have b0c7 := b0.cell 7
  have b0f7 := b0.free 7
  have b0c8 := b0.cell 8
  have b0f8 := b0.free 8
  have b0c9 := b0.cell 9
  have b0f9 := b0.free 9
  have b0l := b0.lt
  simp at b0c0 b0c1 b0c2 b0c3 b0c4 b0c5 b0c6 b0c7 b0c8 b0c9
  have b1c0 := b1.cell 0
  have b1f0 := b1.free 0
  have b1c1 := b1.cell 1
  have b1f1 := b1.free 1
  have b1c2 := b1.cell 2
  have b1f2 := b1.free 2
  have b1c3 := b1.cell 3
  have b1f3 := b1.free 3
  have b1l := b1.lt
  simp at b1c0 b1c1 b1c2 b1c3
  have b2c0 := b2.cell 0
  have b2f0 := b2.free 0
  have b2c1 := b2.cell 1
  have b2f1 := b2.free 1
  have b2c2 := b2.cell 2
  have b2f2 := b2.free 2
  have b2c3 := b2.cell 3
  have b2f3 := b2.free 3
  have b2c4 := b2.cell 4
  have b2f4 := b2.free 4
  have b2c5 := b2.cell 5
  have b2f5 := b2.free 5
  have b2c6 := b2.cell 6
  have b2f6 := b2.free 6
  have b2c7 := b2.cell 7
  have b2f7 := b2.free 7
  have b2c8 := b2.cell 8
  have b2f8 := b2.free 8
  have b2c9 := b2.cell 9
  have b2f9 := b2.free 9
  have b2l := b2.lt
  simp at b2c0 b2c1 b2c2 b2c3 b2c4 b2c5 b2c6 b2c7 b2c8 b2c9
  go_wp2
  refine bodyPost_ret (v := .tuple #[.agg #[.slice none 0 0, .int .i64 0, .int .i64 0, .int .i64 0, .int .i64 0, .int .i64 0, .int .i64 0, .int .i64 0, .int .i64 0, .int .i64 0], .int .i64 2]) (by simp [results, Try.results49, go_sem, b2c0, b2f0, b2c1, b2f1, b2c2, b2f2, b2c3, b2f3, b2c4, b2f4, b2c5, b2f5, b2c6, b2f6, b2c7, b2f7, b2c8, b2f8, b2c9, b2f9]) rfl ⟨rfl, by (exact kpt)⟩

end Go.Proofs.Ytemafanncejeiaa
