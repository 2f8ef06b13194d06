/-
  The reference: Do, fill and breathe.
-/
import Derived.Test.YtemafanncejeiaaGasDR
namespace Go.Proofs.Ytemafanncejeiaa
open Go.RowKit Bal Bal.Trim Bal.Gas
set_option linter.unusedVariables false
set_option linter.unusedSimpArgs false
set_option maxHeartbeats 8000000
set_option maxRecDepth 100000

theorem r_Do_2 (p : Plant) (d : Deed) (a : Option Addr) (cap : Nat) (w : World) (hx : Row Cell.cells 7 w.heap.size w a p.cells) (hc : p.cells.length ≤ cap) (hM : cap ≤ maxLen) (hz : a = none → cap = 0) (hp : plantB p = true) (hs : sizedE p d = 0) (hkk : d.kind = 2) (hn : 1 ≤ d.n ∧ d.n ≤ 10000000) (hcl : inB d.cell 0 (p.cells.length - 1) = true) (hl : ¬ p.bottles < d.n) : Calls Try.prog 49 #[.agg #[.slice a p.cells.length cap, .int .i64 p.bottles, .int .i64 p.inH, .int .i64 p.inA, .int .i64 p.vH, .int .i64 p.vA, .int .i64 p.lH, .int .i64 p.lA, .int .i64 p.pH, .int .i64 p.pA], .agg #[.int .u8 d.kind, .int .i64 d.cell, .int .i64 d.to, .int .i64 d.n]] w fun e w' => ∃ v, e = .returned (.tuple #[.agg #[v, .int .i64 (endQ (fillP p d)).bottles, .int .i64 (endQ (fillP p d)).inH, .int .i64 (endQ (fillP p d)).inA, .int .i64 (endQ (fillP p d)).vH, .int .i64 (endQ (fillP p d)).vA, .int .i64 (endQ (fillP p d)).lH, .int .i64 (endQ (fillP p d)).lA, .int .i64 (endQ (fillP p d)).pH, .int .i64 (endQ (fillP p d)).pA], .int .i64 (endE (fillP p d))]) ∧ Mine 25 w.heap.size w' v ((endQ (fillP p d))).cells ∧ Kept w w' := by
  have e1 : (d.kind == 1) = false := by simp; omega
  have g1 : decide (d.kind = 1) = false := by simp; omega
  have e2 : (d.kind == 2) = true := by simp; omega
  have g2 : decide (d.kind = 2) = true := by simp; omega
  have e3 : (d.kind == 3) = false := by simp; omega
  have g3 : decide (d.kind = 3) = false := by simp; omega
  have e4 : (d.kind == 4) = false := by simp; omega
  have g4 : decide (d.kind = 4) = false := by simp; omega
  have e5 : (d.kind == 5) = false := by simp; omega
  have g5 : decide (d.kind = 5) = false := by simp; omega
  have e6 : (d.kind == 6) = false := by simp; omega
  have g6 : decide (d.kind = 6) = false := by simp; omega
  have HMX := fun (W : World) => r_mixedK d.kind false (by simp [mixedB, hkk]) W
  have HMW := fun (W : World) => r_mixedW d.kind false (by simp [mixedB, hkk]) W
  clear hkk
  have hlt : decide (p.bottles < d.n) = false := by simpa using hl
  obtain ⟨Q, hQ⟩ : ∃ Q, Q = fillP p d := ⟨_, rfl⟩
  have HQ := Lib.hid hQ
  rw [← hQ]
  clear hQ
  have HP := Lib.hid hp
  have HS := Lib.hid hs
  have hn12 : p.cells.length ≤ 12 := (plantB_iff.1 hp).1
  have hb := plantB_iff.1 hp
  have hi : d.cell.toNat < p.cells.length := by
    have h1 : 0 ≤ d.cell ∧ d.cell ≤ p.cells.length - 1 := by simpa [inB] using hcl
    omega
  have hd0 : 0 ≤ d.cell ∧ d.cell < p.cells.length := by
    have h1 : 0 ≤ d.cell ∧ d.cell ≤ p.cells.length - 1 := by simpa [inB] using hcl
    omega
  have hcv : cellB p.cells[d.cell.toNat] = true := hb.2.2.2.2.2.2.1 _ (List.getElem_mem hi)
  have hat : at_ p d = p.cells[d.cell.toNat] := cellAt_get hi
  clear hp hs
  go_enter Try.func49, Try.ntmps49
  go_upto_region 3 with (go_at_call 115; (with_reducible refine (r_Plant p a cap _ (hx.later (by (exact kpt)) (Nat.le_refl _)) hc hM).mono ?_); rw [HP.out]; rintro e w1 ⟨rfl, hb1⟩; refine Blk.thru (b := w.heap.size) (arr := ?_) (t := ?_) ?_ hb1 ?_; rotate_left 2; (focus (exact blk)); intro rr; have rrc0 := rr.cell 0; have rrf0 := rr.free 0; have rrc1 := rr.cell 1; have rrf1 := rr.free 1; have rrc2 := rr.cell 2; have rrf2 := rr.free 2; have rrc3 := rr.cell 3; have rrf3 := rr.free 3; have rrc4 := rr.cell 4; have rrf4 := rr.free 4; have rrc5 := rr.cell 5; have rrf5 := rr.free 5; have rrc6 := rr.cell 6; have rrf6 := rr.free 6; have rrc7 := rr.cell 7; have rrf7 := rr.free 7; have rrc8 := rr.cell 8; have rrf8 := rr.free 8; have rrc9 := rr.cell 9; have rrf9 := rr.free 9; have rrl := rr.lt; simp at rrc0 rrc1 rrc2 rrc3 rrc4 rrc5 rrc6 rrc7 rrc8 rrc9; refine Blk.thru (b := (w.heap.size + 1)) (arr := ?_) (t := ?_) ?_ hb1 ?_; rotate_left 2; (focus (exact blk)); intro rq; have rqc0 := rq.cell 0; have rqf0 := rq.free 0; have rqc1 := rq.cell 1; have rqf1 := rq.free 1; have rqc2 := rq.cell 2; have rqf2 := rq.free 2; have rqc3 := rq.cell 3; have rqf3 := rq.free 3; have rql := rq.lt; simp at rqc0 rqc1 rqc2 rqc3)
  refine at_world (S := fun W => Blk W w.heap.size #[.slice a p.cells.length cap, .int .i64 p.bottles, .int .i64 p.inH, .int .i64 p.inA, .int .i64 p.vH, .int .i64 p.vA, .int .i64 p.lH, .int .i64 p.lA, .int .i64 p.pH, .int .i64 p.pA] 63 ∧ Blk W (w.heap.size + 1) #[.int .u8 d.kind, .int .i64 d.cell, .int .i64 d.to, .int .i64 d.n] 65 ∧ Blk W (w.heap.size + 1 + 1) #[.slice none 0 0, .int .i64 0, .int .i64 0, .int .i64 0, .int .i64 0, .int .i64 0, .int .i64 0, .int .i64 0, .int .i64 0, .int .i64 0] 63 ∧ Kept w W) ⟨by (exact blkc), by (exact blkc), by (exact blkc), by (exact kpt)⟩ ?_
  rintro W ⟨b0, b1, b2, hk⟩
  have b0c0 := b0.cell 0
  have b0f0 := b0.free 0
  have b0c1 := b0.cell 1
  have b0f1 := b0.free 1
  have b0c2 := b0.cell 2
  have b0f2 := b0.free 2
  have b0c3 := b0.cell 3
  have b0f3 := b0.free 3
  have b0c4 := b0.cell 4
  have b0f4 := b0.free 4
  have b0c5 := b0.cell 5
  have b0f5 := b0.free 5
  have b0c6 := b0.cell 6
  have b0f6 := b0.free 6
  have b0c7 := b0.cell 7
  have b0f7 := b0.free 7
  have b0c8 := b0.cell 8
  have b0f8 := b0.free 8
  have b0c9 := b0.cell 9
  have b0f9 := b0.free 9
  have b0l := b0.lt
  simp at b0c0 b0c1 b0c2 b0c3 b0c4 b0c5 b0c6 b0c7 b0c8 b0c9
  have b1c0 := b1.cell 0
  have b1f0 := b1.free 0
  have b1c1 := b1.cell 1
  have b1f1 := b1.free 1
  have b1c2 := b1.cell 2
  have b1f2 := b1.free 2
  have b1c3 := b1.cell 3
  have b1f3 := b1.free 3
  have b1l := b1.lt
  simp at b1c0 b1c1 b1c2 b1c3
  have b2c0 := b2.cell 0
  have b2f0 := b2.free 0
  have b2c1 := b2.cell 1
  have b2f1 := b2.free 1
  have b2c2 := b2.cell 2
  have b2f2 := b2.free 2
  have b2c3 := b2.cell 3
  have b2f3 := b2.free 3
  have b2c4 := b2.cell 4
  have b2f4 := b2.free 4
  have b2c5 := b2.cell 5
  have b2f5 := b2.free 5
  have b2c6 := b2.cell 6
  have b2f6 := b2.free 6
  have b2c7 := b2.cell 7
  have b2f7 := b2.free 7
  have b2c8 := b2.cell 8
  have b2f8 := b2.free 8
  have b2c9 := b2.cell 9
  have b2f9 := b2.free 9
  have b2l := b2.lt
  simp at b2c0 b2c1 b2c2 b2c3 b2c4 b2c5 b2c6 b2c7 b2c8 b2c9
  go_upto_region 6 with (go_at_call 116; (with_reducible refine (r_sized p d a cap _ hc hM).mono ?_); rw [HS.out]; rintro e w1 ⟨rfl, hb1⟩)
  clear b0c0 b0f0 b0c1 b0f1 b0c2 b0f2 b0c3 b0f3 b0c4 b0f4 b0c5 b0f5 b0c6 b0f6 b0c7 b0f7 b0c8 b0f8 b0c9 b0f9 b0l b1c0 b1f0 b1c1 b1f1 b1c2 b1f2 b1c3 b1f3 b1l b2c0 b2f0 b2c1 b2f1 b2c2 b2f2 b2c3 b2f3 b2c4 b2f4 b2c5 b2f5 b2c6 b2f6 b2c7 b2f7 b2c8 b2f8 b2c9 b2f9 b2l
  refine at_world (S := fun X => Blk X w.heap.size #[.slice a p.cells.length cap, .int .i64 p.bottles, .int .i64 p.inH, .int .i64 p.inA, .int .i64 p.vH, .int .i64 p.vA, .int .i64 p.lH, .int .i64 p.lA, .int .i64 p.pH, .int .i64 p.pA] 63 ∧ Blk X (w.heap.size + 1) #[.int .u8 d.kind, .int .i64 d.cell, .int .i64 d.to, .int .i64 d.n] 65 ∧ Blk X (w.heap.size + 1 + 1) #[.slice none 0 0, .int .i64 0, .int .i64 0, .int .i64 0, .int .i64 0, .int .i64 0, .int .i64 0, .int .i64 0, .int .i64 0, .int .i64 0] 63 ∧ Kept w X) ⟨by (exact blkc), by (exact blkc), by (exact blkc), by (exact kpt)⟩ ?_
  clear b0 b1 b2 hk
  rintro X ⟨b0, b1, b2, hk⟩
  have b0c0 := b0.cell 0
  have b0f0 := b0.free 0
  have b0c1 := b0.cell 1
  have b0f1 := b0.free 1
  have b0c2 := b0.cell 2
  have b0f2 := b0.free 2
  have b0c3 := b0.cell 3
  have b0f3 := b0.free 3
  have b0c4 := b0.cell 4
  have b0f4 := b0.free 4
  have b0c5 := b0.cell 5
  have b0f5 := b0.free 5
  have b0c6 := b0.cell 6
  have b0f6 := b0.free 6
  have b0c7 := b0.cell 7
  have b0f7 := b0.free 7
  have b0c8 := b0.cell 8
  have b0f8 := b0.free 8
  have b0c9 := b0.cell 9
  have b0f9 := b0.free 9
  have b0l := b0.lt
  simp at b0c0 b0c1 b0c2 b0c3 b0c4 b0c5 b0c6 b0c7 b0c8 b0c9
  have b1c0 := b1.cell 0
  have b1f0 := b1.free 0
  have b1c1 := b1.cell 1
  have b1f1 := b1.free 1
  have b1c2 := b1.cell 2
  have b1f2 := b1.free 2
  have b1c3 := b1.cell 3
  have b1f3 := b1.free 3
  have b1l := b1.lt
  simp at b1c0 b1c1 b1c2 b1c3
  have b2c0 := b2.cell 0
  have b2f0 := b2.free 0
  have b2c1 := b2.cell 1
  have b2f1 := b2.free 1
  have b2c2 := b2.cell 2
  have b2f2 := b2.free 2
  have b2c3 := b2.cell 3
  have b2f3 := b2.free 3
  have b2c4 := b2.cell 4
  have b2f4 := b2.free 4
  have b2c5 := b2.cell 5
  have b2f5 := b2.free 5
  have b2c6 := b2.cell 6
  have b2f6 := b2.free 6
  have b2c7 := b2.cell 7
  have b2f7 := b2.free 7
  have b2c8 := b2.cell 8
  have b2f8 := b2.free 8
  have b2c9 := b2.cell 9
  have b2f9 := b2.free 9
  have b2l := b2.lt
  simp at b2c0 b2c1 b2c2 b2c3 b2c4 b2c5 b2c6 b2c7 b2c8 b2c9
  go_upto_region 7 with (go_at_call 47; (with_reducible refine (r_Twin p a cap _ (hx.later (by (exact kpt)) (Nat.le_refl _)) (by omega) hz).mono ?_); rintro e w1 ⟨ad, cp, rfl, hm1, hb1⟩)
  have b1k := b1.keep hb1
  have b2k := b2.keep hb1
  have hsz := b2k.lt
  have hm2 := hm1.base (C := w.heap.size) hk.size
  have hk2 := hk.trans (hb1.mono hk.size)
  refine at_world (S := fun Y => Blk Y (w.heap.size + 1) #[.int .u8 d.kind, .int .i64 d.cell, .int .i64 d.to, .int .i64 d.n] 65 ∧ Blk Y (w.heap.size + 1 + 1) #[.slice none 0 0, .int .i64 0, .int .i64 0, .int .i64 0, .int .i64 0, .int .i64 0, .int .i64 0, .int .i64 0, .int .i64 0, .int .i64 0] 63 ∧ Blk Y w1.heap.size #[.slice ad p.cells.length cp, .int .i64 (p.bottles), .int .i64 (p.inH), .int .i64 (p.inA), .int .i64 (p.vH), .int .i64 (p.vA), .int .i64 (p.lH), .int .i64 (p.lA), .int .i64 (p.pH), .int .i64 (p.pA)] 63 ∧ Mine 25 w.heap.size Y (.slice ad p.cells.length cp) p.cells ∧ Kept w Y ∧ w.heap.size + 1 + 1 < w1.heap.size) ⟨by (exact blkc), by (exact blkc), by (exact blkc), by exact (by have hnp := mine_past hm2 (Nat.le_refl _); (repeat (with_reducible refine Mine.off ?_ hnp _)); exact hm2.alloc _), by (exact kpt), hsz⟩ ?_
  clear b0c0 b0f0 b0c1 b0f1 b0c2 b0f2 b0c3 b0f3 b0c4 b0f4 b0c5 b0f5 b0c6 b0f6 b0c7 b0f7 b0c8 b0f8 b0c9 b0f9 b0l b1c0 b1f0 b1c1 b1f1 b1c2 b1f2 b1c3 b1f3 b1l b2c0 b2f0 b2c1 b2f1 b2c2 b2f2 b2c3 b2f3 b2c4 b2f4 b2c5 b2f5 b2c6 b2f6 b2c7 b2f7 b2c8 b2f8 b2c9 b2f9 b2l b0 b1 b2 hk b1k b2k hm2 hk2 hm1 hb1 hsz
  rintro Y ⟨b1, b2, r3, hm, hk, hs⟩
  generalize w1.heap.size = s at hs r3 ⊢
  obtain ⟨x, hx⟩ : ∃ x, x = p.cells[d.cell.toNat] := ⟨_, rfl⟩
  have HX := Lib.hid (show p.cells[d.cell.toNat]? = some x by rw [hx]; simp [hi])
  have HXX := Lib.hid hx
  rw [← hx] at hcv hat
  have HAT := Lib.hid hat
  have HCV := Lib.hid hcv
  have hxb := cellB_iff.1 hcv
  obtain ⟨g, cur, rfl, hBg, hcur, c0, c1, c2, c3, c4, c5, c6⟩ := hm.at hi
  rw [← hx] at c0 c1 c2 c3 c4 c5 c6
  clear hx hat hcv
  have HAC := fun (W : World) => r_amount x W HCV.out
  obtain ⟨AM, hAM⟩ : ∃ y, y = amount x := ⟨_, rfl⟩
  have HAM := Lib.hid (show amount x = AM from hAM.symm)
  rw [← hAM] at HAC
  clear hAM
  obtain ⟨_, hb1, hb2, _⟩ := hb
  have w1 := i64_inx (n := p.bottles - d.n) (by omega)
  have w2 := i64_inx (n := x.helium + d.n) (by omega)
  have b1c0 := fun g : Later Y => (b1.later g).cell 0
  have b1f0 := fun g : Later Y => (b1.later g).free 0
  have b1c1 := fun g : Later Y => (b1.later g).cell 1
  have b1f1 := fun g : Later Y => (b1.later g).free 1
  have b1c2 := fun g : Later Y => (b1.later g).cell 2
  have b1f2 := fun g : Later Y => (b1.later g).free 2
  have b1c3 := fun g : Later Y => (b1.later g).cell 3
  have b1f3 := fun g : Later Y => (b1.later g).free 3
  have b1l := fun g : Later Y => (b1.later g).lt
  simp at b1c0 b1c1 b1c2 b1c3
  have r3c0 := fun g : Later Y => (r3.later g).cell 0
  have r3f0 := fun g : Later Y => (r3.later g).free 0
  have r3c1 := fun g : Later Y => (r3.later g).cell 1
  have r3f1 := fun g : Later Y => (r3.later g).free 1
  have r3c2 := fun g : Later Y => (r3.later g).cell 2
  have r3f2 := fun g : Later Y => (r3.later g).free 2
  have r3c3 := fun g : Later Y => (r3.later g).cell 3
  have r3f3 := fun g : Later Y => (r3.later g).free 3
  have r3c4 := fun g : Later Y => (r3.later g).cell 4
  have r3f4 := fun g : Later Y => (r3.later g).free 4
  have r3c5 := fun g : Later Y => (r3.later g).cell 5
  have r3f5 := fun g : Later Y => (r3.later g).free 5
  have r3c6 := fun g : Later Y => (r3.later g).cell 6
  have r3f6 := fun g : Later Y => (r3.later g).free 6
  have r3c7 := fun g : Later Y => (r3.later g).cell 7
  have r3f7 := fun g : Later Y => (r3.later g).free 7
  have r3c8 := fun g : Later Y => (r3.later g).cell 8
  have r3f8 := fun g : Later Y => (r3.later g).free 8
  have r3c9 := fun g : Later Y => (r3.later g).cell 9
  have r3f9 := fun g : Later Y => (r3.later g).free 9
  have r3l := fun g : Later Y => (r3.later g).lt
  simp at r3c0 r3c1 r3c2 r3c3 r3c4 r3c5 r3c6 r3c7 r3c8 r3c9
  clear c0 c1 c2 c3 c4 c5 c6
  refine Later.region (by kernel_rfl) (by kernel_rfl) ?_
  repeat (first | go_big_quiet_skip | (go_big_quiet_want; go_big_quiet_op; first | go_big_quiet_on | (apply Exists.intro; refine ⟨fun g => ?_, ?_⟩; (focus (first | (go_at_call 117; exact Later.call (HMX _)))); go_big_quiet_on)))
  refine wpQuiet_nil ?_
  intro gg
  clear b1c0 b1f0 b1c1 b1f1 b1c2 b1f2 b1c3 b1f3 b1l r3c0 r3f0 r3c1 r3f1 r3c2 r3f2 r3c3 r3f3 r3c4 r3f4 r3c5 r3f5 r3c6 r3f6 r3c7 r3f7 r3c8 r3f8 r3c9 r3f9 r3l
  have z1 := b1.later gg
  have z2 := b2.later gg
  have z3 := r3.later gg
  have hmg := hm.keep gg.ok
  have hkg := Kept.drop hk gg.ok
  have hne := hmg.ne z3 (by decide)
  have z1c0 := z1.cell 0
  have z1f0 := z1.free 0
  have z1c1 := z1.cell 1
  have z1f1 := z1.free 1
  have z1c2 := z1.cell 2
  have z1f2 := z1.free 2
  have z1c3 := z1.cell 3
  have z1f3 := z1.free 3
  have z1l := z1.lt
  simp at z1c0 z1c1 z1c2 z1c3
  have z3c0 := z3.cell 0
  have z3f0 := z3.free 0
  have z3c1 := z3.cell 1
  have z3f1 := z3.free 1
  have z3c2 := z3.cell 2
  have z3f2 := z3.free 2
  have z3c3 := z3.cell 3
  have z3f3 := z3.free 3
  have z3c4 := z3.cell 4
  have z3f4 := z3.free 4
  have z3c5 := z3.cell 5
  have z3f5 := z3.free 5
  have z3c6 := z3.cell 6
  have z3f6 := z3.free 6
  have z3c7 := z3.cell 7
  have z3f7 := z3.free 7
  have z3c8 := z3.cell 8
  have z3f8 := z3.free 8
  have z3c9 := z3.cell 9
  have z3f9 := z3.free 9
  have z3l := z3.lt
  simp at z3c0 z3c1 z3c2 z3c3 z3c4 z3c5 z3c6 z3c7 z3c8 z3c9
  go_upto_region 22 with (go_at_call 117; (with_reducible refine (HMW _).mono ?_); rintro e w9 ⟨rfl, rfl⟩)
  refine at_world (S := fun V => Blk V (w.heap.size + 1) #[.int .u8 d.kind, .int .i64 d.cell, .int .i64 d.to, .int .i64 d.n] 65 ∧ Blk V (w.heap.size + 1 + 1) #[.slice none 0 0, .int .i64 0, .int .i64 0, .int .i64 0, .int .i64 0, .int .i64 0, .int .i64 0, .int .i64 0, .int .i64 0, .int .i64 0] 63 ∧ Blk V s #[.slice (some ⟨g, 0, none⟩) p.cells.length cp, .int .i64 (p.bottles - d.n), .int .i64 (p.inH), .int .i64 (p.inA), .int .i64 (p.vH), .int .i64 (p.vA), .int .i64 (p.lH), .int .i64 (p.lA), .int .i64 (p.pH), .int .i64 (p.pA)] 63 ∧ Mine 25 w.heap.size V (.slice (some ⟨g, 0, none⟩) p.cells.length cp) p.cells ∧ Kept w V) ⟨by (exact blkc), by (exact blkc), (z3.set 1 _).alloc _, (hmg.off hne _).alloc _, by (exact kpt)⟩ ?_
  clear hne b1 b2 r3 hm hk hcur z1 z2 z3 hmg hkg z1c0 z1f0 z1c1 z1f1 z1c2 z1f2 z1c3 z1f3 z1l z3c0 z3f0 z3c1 z3f1 z3c2 z3f2 z3c3 z3f3 z3c4 z3f4 z3c5 z3f5 z3c6 z3f6 z3c7 z3f7 z3c8 z3f8 z3c9 z3f9 z3l
  rintro V ⟨b1, b2, r3, hm, hk⟩
  obtain ⟨_, cuv, hge, _, hcv, c0, c1, c2, c3, c4, c5, c6⟩ := hm.at hi
  cases hge
  rw [← HXX.out] at c0 c1 c2 c3 c4 c5 c6
  have b1c0 := fun g : Later V => (b1.later g).cell 0
  have b1f0 := fun g : Later V => (b1.later g).free 0
  have b1c1 := fun g : Later V => (b1.later g).cell 1
  have b1f1 := fun g : Later V => (b1.later g).free 1
  have b1c2 := fun g : Later V => (b1.later g).cell 2
  have b1f2 := fun g : Later V => (b1.later g).free 2
  have b1c3 := fun g : Later V => (b1.later g).cell 3
  have b1f3 := fun g : Later V => (b1.later g).free 3
  have b1l := fun g : Later V => (b1.later g).lt
  simp at b1c0 b1c1 b1c2 b1c3
  have r3c0 := fun g : Later V => (r3.later g).cell 0
  have r3f0 := fun g : Later V => (r3.later g).free 0
  have r3c1 := fun g : Later V => (r3.later g).cell 1
  have r3f1 := fun g : Later V => (r3.later g).free 1
  have r3c2 := fun g : Later V => (r3.later g).cell 2
  have r3f2 := fun g : Later V => (r3.later g).free 2
  have r3c3 := fun g : Later V => (r3.later g).cell 3
  have r3f3 := fun g : Later V => (r3.later g).free 3
  have r3c4 := fun g : Later V => (r3.later g).cell 4
  have r3f4 := fun g : Later V => (r3.later g).free 4
  have r3c5 := fun g : Later V => (r3.later g).cell 5
  have r3f5 := fun g : Later V => (r3.later g).free 5
  have r3c6 := fun g : Later V => (r3.later g).cell 6
  have r3f6 := fun g : Later V => (r3.later g).free 6
  have r3c7 := fun g : Later V => (r3.later g).cell 7
  have r3f7 := fun g : Later V => (r3.later g).free 7
  have r3c8 := fun g : Later V => (r3.later g).cell 8
  have r3f8 := fun g : Later V => (r3.later g).free 8
  have r3c9 := fun g : Later V => (r3.later g).cell 9
  have r3f9 := fun g : Later V => (r3.later g).free 9
  have r3l := fun g : Later V => (r3.later g).lt
  simp at r3c0 r3c1 r3c2 r3c3 r3c4 r3c5 r3c6 r3c7 r3c8 r3c9
  have y1 := fun q : Later V => q.some c1
  clear c0 c1 c2 c3 c4 c5 c6
  refine Later.tail 12 (by kernel_rfl) (by kernel_rfl) ?_
  simp only [List.take_succ_cons, List.take_zero, List.drop_succ_cons, List.drop_zero]
  repeat (first | go_big_quiet_skip | (go_big_quiet_want; go_big_quiet_op; first | go_big_quiet_on | (apply Exists.intro; refine ⟨fun g_ => ?_, ?_⟩; (focus (first | fail)); go_big_quiet_on)))
  refine wpQuiet_nil ?_
  intro gh
  refine wpList_plain rfl fun K1 hK1 => ?_
  have y1 := y1 gh
  have hcg := hcv.later gh
  have zf := hcg.free (d.cell.toNat * 7 + 1)
  clear b1c0 b1f0 b1c1 b1f1 b1c2 b1f2 b1c3 b1f3 b1l r3c0 r3f0 r3c1 r3f1 r3c2 r3f2 r3c3 r3f3 r3c4 r3f4 r3c5 r3f5 r3c6 r3f6 r3c7 r3f7 r3c8 r3f8 r3c9 r3f9 r3l
  go_upto_region 34 with fail
  refine at_world (S := fun Z => Blk Z (w.heap.size + 1 + 1) #[.slice none 0 0, .int .i64 0, .int .i64 0, .int .i64 0, .int .i64 0, .int .i64 0, .int .i64 0, .int .i64 0, .int .i64 0, .int .i64 0] 63 ∧ Blk Z s #[.slice (some ⟨g, 0, none⟩) p.cells.length cp, .int .i64 (Q.bottles), .int .i64 (Q.inH), .int .i64 (Q.inA), .int .i64 (Q.vH), .int .i64 (Q.vA), .int .i64 (Q.lH), .int .i64 (Q.lA), .int .i64 (Q.pH), .int .i64 (Q.pA)] 63 ∧ Mine 25 w.heap.size Z (.slice (some ⟨g, 0, none⟩) p.cells.length cp) Q.cells ∧ Kept w Z) ⟨(b2.later gh).other (a := ⟨g, d.cell.toNat * 7 + 1, none⟩) (fun he => by simp only at he; subst he; have := (b2.later gh).symm.trans hcg; simp at this) _, ((r3.later gh).other (a := ⟨g, d.cell.toNat * 7 + 1, none⟩) (fun he => by simp only at he; subst he; have := (r3.later gh).symm.trans hcg; simp at this) _).cast (by rw [HQ.out]; simp [fillP]), by have hq := (hm.keep gh.ok).put (i := d.cell.toNat) (j := 1) (c := x) (u := .int .i64 (x.helium + d.n)) { x with helium := x.helium + d.n } HX.out (by decide) rfl; rw [HQ.out]; simpa [fillP, HAT.out] using hq, (Kept.drop hk gh.ok).setCell hBg _⟩ ?_
  clear b1 b2 r3 hm hk y1 zf hcg hcv gh
  rintro Z ⟨b2, r3, hm, hk⟩
  cases hpq : plantB Q
  · have HPQ := Lib.hid hpq
    have r3c0 := r3.cell 0
    have r3f0 := r3.free 0
    have r3c1 := r3.cell 1
    have r3f1 := r3.free 1
    have r3c2 := r3.cell 2
    have r3f2 := r3.free 2
    have r3c3 := r3.cell 3
    have r3f3 := r3.free 3
    have r3c4 := r3.cell 4
    have r3f4 := r3.free 4
    have r3c5 := r3.cell 5
    have r3f5 := r3.free 5
    have r3c6 := r3.cell 6
    have r3f6 := r3.free 6
    have r3c7 := r3.cell 7
    have r3f7 := r3.free 7
    have r3c8 := r3.cell 8
    have r3f8 := r3.free 8
    have r3c9 := r3.cell 9
    have r3f9 := r3.free 9
    have r3l := r3.lt
    simp at r3c0 r3c1 r3c2 r3c3 r3c4 r3c5 r3c6 r3c7 r3c8 r3c9
    go_upto_region 35 with (go_at_call 115; (with_reducible refine (r_PlantK hm).mono ?_); rw [HPQ.out]; rintro e w4 ⟨rfl, hb4⟩)
    clear r3c0 r3f0 r3c1 r3f1 r3c2 r3f2 r3c3 r3f3 r3c4 r3f4 r3c5 r3f5 r3c6 r3f6 r3c7 r3f7 r3c8 r3f8 r3c9 r3f9 r3l
    refine at_world (S := fun U => Blk U (w.heap.size + 1 + 1) #[.slice none 0 0, .int .i64 0, .int .i64 0, .int .i64 0, .int .i64 0, .int .i64 0, .int .i64 0, .int .i64 0, .int .i64 0, .int .i64 0] 63 ∧ Blk U s #[.slice (some ⟨g, 0, none⟩) p.cells.length cp, .int .i64 (Q.bottles), .int .i64 (Q.inH), .int .i64 (Q.inA), .int .i64 (Q.vH), .int .i64 (Q.vA), .int .i64 (Q.lH), .int .i64 (Q.lA), .int .i64 (Q.pH), .int .i64 (Q.pA)] 63 ∧ Mine 25 w.heap.size U (.slice (some ⟨g, 0, none⟩) p.cells.length cp) Q.cells ∧ Kept w U) ⟨b2.keep hb4, r3.keep hb4, hm.keep hb4, Kept.drop hk hb4⟩ ?_
    clear b2 r3 hm hk hb4
    rintro U ⟨b2, r3, hm, hk⟩
    have b2c0 := b2.cell 0
    have b2f0 := b2.free 0
    have b2c1 := b2.cell 1
    have b2f1 := b2.free 1
    have b2c2 := b2.cell 2
    have b2f2 := b2.free 2
    have b2c3 := b2.cell 3
    have b2f3 := b2.free 3
    have b2c4 := b2.cell 4
    have b2f4 := b2.free 4
    have b2c5 := b2.cell 5
    have b2f5 := b2.free 5
    have b2c6 := b2.cell 6
    have b2f6 := b2.free 6
    have b2c7 := b2.cell 7
    have b2f7 := b2.free 7
    have b2c8 := b2.cell 8
    have b2f8 := b2.free 8
    have b2c9 := b2.cell 9
    have b2f9 := b2.free 9
    have b2l := b2.lt
    simp at b2c0 b2c1 b2c2 b2c3 b2c4 b2c5 b2c6 b2c7 b2c8 b2c9
    have r3c0 := r3.cell 0
    have r3f0 := r3.free 0
    have r3c1 := r3.cell 1
    have r3f1 := r3.free 1
    have r3c2 := r3.cell 2
    have r3f2 := r3.free 2
    have r3c3 := r3.cell 3
    have r3f3 := r3.free 3
    have r3c4 := r3.cell 4
    have r3f4 := r3.free 4
    have r3c5 := r3.cell 5
    have r3f5 := r3.free 5
    have r3c6 := r3.cell 6
    have r3f6 := r3.free 6
    have r3c7 := r3.cell 7
    have r3f7 := r3.free 7
    have r3c8 := r3.cell 8
    have r3f8 := r3.free 8
    have r3c9 := r3.cell 9
    have r3f9 := r3.free 9
    have r3l := r3.lt
    simp at r3c0 r3c1 r3c2 r3c3 r3c4 r3c5 r3c6 r3c7 r3c8 r3c9
    go_wp2
    refine bodyPost_ret (v := .tuple #[.agg #[.slice none 0 0, .int .i64 0, .int .i64 0, .int .i64 0, .int .i64 0, .int .i64 0, .int .i64 0, .int .i64 0, .int .i64 0, .int .i64 0], .int .i64 9]) (by simp [results, Try.results49, go_sem, b2c0, b2f0, b2c1, b2f1, b2c2, b2f2, b2c3, b2f3, b2c4, b2f4, b2c5, b2f5, b2c6, b2f6, b2c7, b2f7, b2c8, b2f8, b2c9, b2f9, r3c0, r3f0, r3c1, r3f1, r3c2, r3f2, r3c3, r3f3, r3c4, r3f4, r3c5, r3f5, r3c6, r3f6, r3c7, r3f7, r3c8, r3f8, r3c9, r3f9]) rfl ⟨.slice none 0 0, ?_, ?_, ?_⟩
    · simp [endQ, endE, HPQ.out, noPlant]
    · rw [show endQ Q = noPlant by simp [endQ, HPQ.out]]
      exact Mine.zero
    · (exact kpt)
  · have HPQ := Lib.hid hpq
    have r3c0 := r3.cell 0
    have r3f0 := r3.free 0
    have r3c1 := r3.cell 1
    have r3f1 := r3.free 1
    have r3c2 := r3.cell 2
    have r3f2 := r3.free 2
    have r3c3 := r3.cell 3
    have r3f3 := r3.free 3
    have r3c4 := r3.cell 4
    have r3f4 := r3.free 4
    have r3c5 := r3.cell 5
    have r3f5 := r3.free 5
    have r3c6 := r3.cell 6
    have r3f6 := r3.free 6
    have r3c7 := r3.cell 7
    have r3f7 := r3.free 7
    have r3c8 := r3.cell 8
    have r3f8 := r3.free 8
    have r3c9 := r3.cell 9
    have r3f9 := r3.free 9
    have r3l := r3.lt
    simp at r3c0 r3c1 r3c2 r3c3 r3c4 r3c5 r3c6 r3c7 r3c8 r3c9
    go_upto_region 36 with (go_at_call 115; (with_reducible refine (r_PlantK hm).mono ?_); rw [HPQ.out]; rintro e w4 ⟨rfl, hb4⟩)
    clear r3c0 r3f0 r3c1 r3f1 r3c2 r3f2 r3c3 r3f3 r3c4 r3f4 r3c5 r3f5 r3c6 r3f6 r3c7 r3f7 r3c8 r3f8 r3c9 r3f9 r3l
    refine at_world (S := fun U => Blk U (w.heap.size + 1 + 1) #[.slice none 0 0, .int .i64 0, .int .i64 0, .int .i64 0, .int .i64 0, .int .i64 0, .int .i64 0, .int .i64 0, .int .i64 0, .int .i64 0] 63 ∧ Blk U s #[.slice (some ⟨g, 0, none⟩) p.cells.length cp, .int .i64 (Q.bottles), .int .i64 (Q.inH), .int .i64 (Q.inA), .int .i64 (Q.vH), .int .i64 (Q.vA), .int .i64 (Q.lH), .int .i64 (Q.lA), .int .i64 (Q.pH), .int .i64 (Q.pA)] 63 ∧ Mine 25 w.heap.size U (.slice (some ⟨g, 0, none⟩) p.cells.length cp) Q.cells ∧ Kept w U) ⟨b2.keep hb4, r3.keep hb4, hm.keep hb4, Kept.drop hk hb4⟩ ?_
    clear b2 r3 hm hk hb4
    rintro U ⟨b2, r3, hm, hk⟩
    have b2c0 := b2.cell 0
    have b2f0 := b2.free 0
    have b2c1 := b2.cell 1
    have b2f1 := b2.free 1
    have b2c2 := b2.cell 2
    have b2f2 := b2.free 2
    have b2c3 := b2.cell 3
    have b2f3 := b2.free 3
    have b2c4 := b2.cell 4
    have b2f4 := b2.free 4
    have b2c5 := b2.cell 5
    have b2f5 := b2.free 5
    have b2c6 := b2.cell 6
    have b2f6 := b2.free 6
    have b2c7 := b2.cell 7
    have b2f7 := b2.free 7
    have b2c8 := b2.cell 8
    have b2f8 := b2.free 8
    have b2c9 := b2.cell 9
    have b2f9 := b2.free 9
    have b2l := b2.lt
    simp at b2c0 b2c1 b2c2 b2c3 b2c4 b2c5 b2c6 b2c7 b2c8 b2c9
    have r3c0 := r3.cell 0
    have r3f0 := r3.free 0
    have r3c1 := r3.cell 1
    have r3f1 := r3.free 1
    have r3c2 := r3.cell 2
    have r3f2 := r3.free 2
    have r3c3 := r3.cell 3
    have r3f3 := r3.free 3
    have r3c4 := r3.cell 4
    have r3f4 := r3.free 4
    have r3c5 := r3.cell 5
    have r3f5 := r3.free 5
    have r3c6 := r3.cell 6
    have r3f6 := r3.free 6
    have r3c7 := r3.cell 7
    have r3f7 := r3.free 7
    have r3c8 := r3.cell 8
    have r3f8 := r3.free 8
    have r3c9 := r3.cell 9
    have r3f9 := r3.free 9
    have r3l := r3.lt
    simp at r3c0 r3c1 r3c2 r3c3 r3c4 r3c5 r3c6 r3c7 r3c8 r3c9
    go_wp2
    refine bodyPost_ret (v := .tuple #[.agg #[.slice (some ⟨g, 0, none⟩) p.cells.length cp, .int .i64 (Q.bottles), .int .i64 (Q.inH), .int .i64 (Q.inA), .int .i64 (Q.vH), .int .i64 (Q.vA), .int .i64 (Q.lH), .int .i64 (Q.lA), .int .i64 (Q.pH), .int .i64 (Q.pA)], .int .i64 0]) (by simp [results, Try.results49, go_sem, b2c0, b2f0, b2c1, b2f1, b2c2, b2f2, b2c3, b2f3, b2c4, b2f4, b2c5, b2f5, b2c6, b2f6, b2c7, b2f7, b2c8, b2f8, b2c9, b2f9, r3c0, r3f0, r3c1, r3f1, r3c2, r3f2, r3c3, r3f3, r3c4, r3f4, r3c5, r3f5, r3c6, r3f6, r3c7, r3f7, r3c8, r3f8, r3c9, r3f9]) rfl ⟨.slice (some ⟨g, 0, none⟩) p.cells.length cp, ?_, ?_, ?_⟩
    · simp [endQ, endE, HPQ.out, noPlant]
    · rw [show endQ Q = Q by simp [endQ, HPQ.out]]
      have hne := hm.ne b2 (by decide)
      (repeat (with_reducible refine Mine.off ?_ (by with_reducible assumption) _))
      exact hm
    · (exact kpt)

theorem r_Do_6 (p : Plant) (d : Deed) (a : Option Addr) (cap : Nat) (w : World) (hx : Row Cell.cells 7 w.heap.size w a p.cells) (hc : p.cells.length ≤ cap) (hM : cap ≤ maxLen) (hz : a = none → cap = 0) (hp : plantB p = true) (hs : sizedE p d = 0) (hkk : d.kind = 6) (hn : 1 ≤ d.n ∧ d.n ≤ 10000000) (hcl : inB d.cell 0 (p.cells.length - 1) = true) : Calls Try.prog 49 #[.agg #[.slice a p.cells.length cap, .int .i64 p.bottles, .int .i64 p.inH, .int .i64 p.inA, .int .i64 p.vH, .int .i64 p.vA, .int .i64 p.lH, .int .i64 p.lA, .int .i64 p.pH, .int .i64 p.pA], .agg #[.int .u8 d.kind, .int .i64 d.cell, .int .i64 d.to, .int .i64 d.n]] w fun e w' => ∃ v, e = .returned (.tuple #[.agg #[v, .int .i64 (endQ (breatheP p d)).bottles, .int .i64 (endQ (breatheP p d)).inH, .int .i64 (endQ (breatheP p d)).inA, .int .i64 (endQ (breatheP p d)).vH, .int .i64 (endQ (breatheP p d)).vA, .int .i64 (endQ (breatheP p d)).lH, .int .i64 (endQ (breatheP p d)).lA, .int .i64 (endQ (breatheP p d)).pH, .int .i64 (endQ (breatheP p d)).pA], .int .i64 (endE (breatheP p d))]) ∧ Mine 25 w.heap.size w' v ((endQ (breatheP p d))).cells ∧ Kept w w' := by
  have e1 : (d.kind == 1) = false := by simp; omega
  have g1 : decide (d.kind = 1) = false := by simp; omega
  have e2 : (d.kind == 2) = false := by simp; omega
  have g2 : decide (d.kind = 2) = false := by simp; omega
  have e3 : (d.kind == 3) = false := by simp; omega
  have g3 : decide (d.kind = 3) = false := by simp; omega
  have e4 : (d.kind == 4) = false := by simp; omega
  have g4 : decide (d.kind = 4) = false := by simp; omega
  have e5 : (d.kind == 5) = false := by simp; omega
  have g5 : decide (d.kind = 5) = false := by simp; omega
  have e6 : (d.kind == 6) = true := by simp; omega
  have g6 : decide (d.kind = 6) = true := by simp; omega
  have HMX := fun (W : World) => r_mixedK d.kind false (by simp [mixedB, hkk]) W
  have HMW := fun (W : World) => r_mixedW d.kind false (by simp [mixedB, hkk]) W
  clear hkk
  obtain ⟨Q, hQ⟩ : ∃ Q, Q = breatheP p d := ⟨_, rfl⟩
  have HQ := Lib.hid hQ
  rw [← hQ]
  clear hQ
  have HP := Lib.hid hp
  have HS := Lib.hid hs
  have hn12 : p.cells.length ≤ 12 := (plantB_iff.1 hp).1
  have hb := plantB_iff.1 hp
  have hi : d.cell.toNat < p.cells.length := by
    have h1 : 0 ≤ d.cell ∧ d.cell ≤ p.cells.length - 1 := by simpa [inB] using hcl
    omega
  have hd0 : 0 ≤ d.cell ∧ d.cell < p.cells.length := by
    have h1 : 0 ≤ d.cell ∧ d.cell ≤ p.cells.length - 1 := by simpa [inB] using hcl
    omega
  have hcv : cellB p.cells[d.cell.toNat] = true := hb.2.2.2.2.2.2.1 _ (List.getElem_mem hi)
  have hat : at_ p d = p.cells[d.cell.toNat] := cellAt_get hi
  clear hp hs
  go_enter Try.func49, Try.ntmps49
  go_upto_region 3 with (go_at_call 115; (with_reducible refine (r_Plant p a cap _ (hx.later (by (exact kpt)) (Nat.le_refl _)) hc hM).mono ?_); rw [HP.out]; rintro e w1 ⟨rfl, hb1⟩; refine Blk.thru (b := w.heap.size) (arr := ?_) (t := ?_) ?_ hb1 ?_; rotate_left 2; (focus (exact blk)); intro rr; have rrc0 := rr.cell 0; have rrf0 := rr.free 0; have rrc1 := rr.cell 1; have rrf1 := rr.free 1; have rrc2 := rr.cell 2; have rrf2 := rr.free 2; have rrc3 := rr.cell 3; have rrf3 := rr.free 3; have rrc4 := rr.cell 4; have rrf4 := rr.free 4; have rrc5 := rr.cell 5; have rrf5 := rr.free 5; have rrc6 := rr.cell 6; have rrf6 := rr.free 6; have rrc7 := rr.cell 7; have rrf7 := rr.free 7; have rrc8 := rr.cell 8; have rrf8 := rr.free 8; have rrc9 := rr.cell 9; have rrf9 := rr.free 9; have rrl := rr.lt; simp at rrc0 rrc1 rrc2 rrc3 rrc4 rrc5 rrc6 rrc7 rrc8 rrc9; refine Blk.thru (b := (w.heap.size + 1)) (arr := ?_) (t := ?_) ?_ hb1 ?_; rotate_left 2; (focus (exact blk)); intro rq; have rqc0 := rq.cell 0; have rqf0 := rq.free 0; have rqc1 := rq.cell 1; have rqf1 := rq.free 1; have rqc2 := rq.cell 2; have rqf2 := rq.free 2; have rqc3 := rq.cell 3; have rqf3 := rq.free 3; have rql := rq.lt; simp at rqc0 rqc1 rqc2 rqc3)
  refine at_world (S := fun W => Blk W w.heap.size #[.slice a p.cells.length cap, .int .i64 p.bottles, .int .i64 p.inH, .int .i64 p.inA, .int .i64 p.vH, .int .i64 p.vA, .int .i64 p.lH, .int .i64 p.lA, .int .i64 p.pH, .int .i64 p.pA] 63 ∧ Blk W (w.heap.size + 1) #[.int .u8 d.kind, .int .i64 d.cell, .int .i64 d.to, .int .i64 d.n] 65 ∧ Blk W (w.heap.size + 1 + 1) #[.slice none 0 0, .int .i64 0, .int .i64 0, .int .i64 0, .int .i64 0, .int .i64 0, .int .i64 0, .int .i64 0, .int .i64 0, .int .i64 0] 63 ∧ Kept w W) ⟨by (exact blkc), by (exact blkc), by (exact blkc), by (exact kpt)⟩ ?_
  rintro W ⟨b0, b1, b2, hk⟩
  have b0c0 := b0.cell 0
  have b0f0 := b0.free 0
  have b0c1 := b0.cell 1
  have b0f1 := b0.free 1
  have b0c2 := b0.cell 2
  have b0f2 := b0.free 2
  have b0c3 := b0.cell 3
  have b0f3 := b0.free 3
  have b0c4 := b0.cell 4
  have b0f4 := b0.free 4
  have b0c5 := b0.cell 5
  have b0f5 := b0.free 5
  have b0c6 := b0.cell 6
  have b0f6 := b0.free 6
  have b0c7 := b0.cell 7
  have b0f7 := b0.free 7
  have b0c8 := b0.cell 8
  have b0f8 := b0.free 8
  have b0c9 := b0.cell 9
  have b0f9 := b0.free 9
  have b0l := b0.lt
  simp at b0c0 b0c1 b0c2 b0c3 b0c4 b0c5 b0c6 b0c7 b0c8 b0c9
  have b1c0 := b1.cell 0
  have b1f0 := b1.free 0
  have b1c1 := b1.cell 1
  have b1f1 := b1.free 1
  have b1c2 := b1.cell 2
  have b1f2 := b1.free 2
  have b1c3 := b1.cell 3
  have b1f3 := b1.free 3
  have b1l := b1.lt
  simp at b1c0 b1c1 b1c2 b1c3
  have b2c0 := b2.cell 0
  have b2f0 := b2.free 0
  have b2c1 := b2.cell 1
  have b2f1 := b2.free 1
  have b2c2 := b2.cell 2
  have b2f2 := b2.free 2
  have b2c3 := b2.cell 3
  have b2f3 := b2.free 3
  have b2c4 := b2.cell 4
  have b2f4 := b2.free 4
  have b2c5 := b2.cell 5
  have b2f5 := b2.free 5
  have b2c6 := b2.cell 6
  have b2f6 := b2.free 6
  have b2c7 := b2.cell 7
  have b2f7 := b2.free 7
  have b2c8 := b2.cell 8
  have b2f8 := b2.free 8
  have b2c9 := b2.cell 9
  have b2f9 := b2.free 9
  have b2l := b2.lt
  simp at b2c0 b2c1 b2c2 b2c3 b2c4 b2c5 b2c6 b2c7 b2c8 b2c9
  go_upto_region 6 with (go_at_call 116; (with_reducible refine (r_sized p d a cap _ hc hM).mono ?_); rw [HS.out]; rintro e w1 ⟨rfl, hb1⟩)
  clear b0c0 b0f0 b0c1 b0f1 b0c2 b0f2 b0c3 b0f3 b0c4 b0f4 b0c5 b0f5 b0c6 b0f6 b0c7 b0f7 b0c8 b0f8 b0c9 b0f9 b0l b1c0 b1f0 b1c1 b1f1 b1c2 b1f2 b1c3 b1f3 b1l b2c0 b2f0 b2c1 b2f1 b2c2 b2f2 b2c3 b2f3 b2c4 b2f4 b2c5 b2f5 b2c6 b2f6 b2c7 b2f7 b2c8 b2f8 b2c9 b2f9 b2l
  refine at_world (S := fun X => Blk X w.heap.size #[.slice a p.cells.length cap, .int .i64 p.bottles, .int .i64 p.inH, .int .i64 p.inA, .int .i64 p.vH, .int .i64 p.vA, .int .i64 p.lH, .int .i64 p.lA, .int .i64 p.pH, .int .i64 p.pA] 63 ∧ Blk X (w.heap.size + 1) #[.int .u8 d.kind, .int .i64 d.cell, .int .i64 d.to, .int .i64 d.n] 65 ∧ Blk X (w.heap.size + 1 + 1) #[.slice none 0 0, .int .i64 0, .int .i64 0, .int .i64 0, .int .i64 0, .int .i64 0, .int .i64 0, .int .i64 0, .int .i64 0, .int .i64 0] 63 ∧ Kept w X) ⟨by (exact blkc), by (exact blkc), by (exact blkc), by (exact kpt)⟩ ?_
  clear b0 b1 b2 hk
  rintro X ⟨b0, b1, b2, hk⟩
  have b0c0 := b0.cell 0
  have b0f0 := b0.free 0
  have b0c1 := b0.cell 1
  have b0f1 := b0.free 1
  have b0c2 := b0.cell 2
  have b0f2 := b0.free 2
  have b0c3 := b0.cell 3
  have b0f3 := b0.free 3
  have b0c4 := b0.cell 4
  have b0f4 := b0.free 4
  have b0c5 := b0.cell 5
  have b0f5 := b0.free 5
  have b0c6 := b0.cell 6
  have b0f6 := b0.free 6
  have b0c7 := b0.cell 7
  have b0f7 := b0.free 7
  have b0c8 := b0.cell 8
  have b0f8 := b0.free 8
  have b0c9 := b0.cell 9
  have b0f9 := b0.free 9
  have b0l := b0.lt
  simp at b0c0 b0c1 b0c2 b0c3 b0c4 b0c5 b0c6 b0c7 b0c8 b0c9
  have b1c0 := b1.cell 0
  have b1f0 := b1.free 0
  have b1c1 := b1.cell 1
  have b1f1 := b1.free 1
  have b1c2 := b1.cell 2
  have b1f2 := b1.free 2
  have b1c3 := b1.cell 3
  have b1f3 := b1.free 3
  have b1l := b1.lt
  simp at b1c0 b1c1 b1c2 b1c3
  have b2c0 := b2.cell 0
  have b2f0 := b2.free 0
  have b2c1 := b2.cell 1
  have b2f1 := b2.free 1
  have b2c2 := b2.cell 2
  have b2f2 := b2.free 2
  have b2c3 := b2.cell 3
  have b2f3 := b2.free 3
  have b2c4 := b2.cell 4
  have b2f4 := b2.free 4
  have b2c5 := b2.cell 5
  have b2f5 := b2.free 5
  have b2c6 := b2.cell 6
  have b2f6 := b2.free 6
  have b2c7 := b2.cell 7
  have b2f7 := b2.free 7
  have b2c8 := b2.cell 8
  have b2f8 := b2.free 8
  have b2c9 := b2.cell 9
  have b2f9 := b2.free 9
  have b2l := b2.lt
  simp at b2c0 b2c1 b2c2 b2c3 b2c4 b2c5 b2c6 b2c7 b2c8 b2c9
  go_upto_region 7 with (go_at_call 47; (with_reducible refine (r_Twin p a cap _ (hx.later (by (exact kpt)) (Nat.le_refl _)) (by omega) hz).mono ?_); rintro e w1 ⟨ad, cp, rfl, hm1, hb1⟩)
  have b1k := b1.keep hb1
  have b2k := b2.keep hb1
  have hsz := b2k.lt
  have hm2 := hm1.base (C := w.heap.size) hk.size
  have hk2 := hk.trans (hb1.mono hk.size)
  refine at_world (S := fun Y => Blk Y (w.heap.size + 1) #[.int .u8 d.kind, .int .i64 d.cell, .int .i64 d.to, .int .i64 d.n] 65 ∧ Blk Y (w.heap.size + 1 + 1) #[.slice none 0 0, .int .i64 0, .int .i64 0, .int .i64 0, .int .i64 0, .int .i64 0, .int .i64 0, .int .i64 0, .int .i64 0, .int .i64 0] 63 ∧ Blk Y w1.heap.size #[.slice ad p.cells.length cp, .int .i64 (p.bottles), .int .i64 (p.inH), .int .i64 (p.inA), .int .i64 (p.vH), .int .i64 (p.vA), .int .i64 (p.lH), .int .i64 (p.lA), .int .i64 (p.pH), .int .i64 (p.pA)] 63 ∧ Mine 25 w.heap.size Y (.slice ad p.cells.length cp) p.cells ∧ Kept w Y ∧ w.heap.size + 1 + 1 < w1.heap.size) ⟨by (exact blkc), by (exact blkc), by (exact blkc), by exact (by have hnp := mine_past hm2 (Nat.le_refl _); (repeat (with_reducible refine Mine.off ?_ hnp _)); exact hm2.alloc _), by (exact kpt), hsz⟩ ?_
  clear b0c0 b0f0 b0c1 b0f1 b0c2 b0f2 b0c3 b0f3 b0c4 b0f4 b0c5 b0f5 b0c6 b0f6 b0c7 b0f7 b0c8 b0f8 b0c9 b0f9 b0l b1c0 b1f0 b1c1 b1f1 b1c2 b1f2 b1c3 b1f3 b1l b2c0 b2f0 b2c1 b2f1 b2c2 b2f2 b2c3 b2f3 b2c4 b2f4 b2c5 b2f5 b2c6 b2f6 b2c7 b2f7 b2c8 b2f8 b2c9 b2f9 b2l b0 b1 b2 hk b1k b2k hm2 hk2 hm1 hb1 hsz
  rintro Y ⟨b1, b2, r3, hm, hk, hs⟩
  generalize w1.heap.size = s at hs r3 ⊢
  obtain ⟨x, hx⟩ : ∃ x, x = p.cells[d.cell.toNat] := ⟨_, rfl⟩
  have HX := Lib.hid (show p.cells[d.cell.toNat]? = some x by rw [hx]; simp [hi])
  have HXX := Lib.hid hx
  rw [← hx] at hcv hat
  have HAT := Lib.hid hat
  have HCV := Lib.hid hcv
  have hxb := cellB_iff.1 hcv
  obtain ⟨g, cur, rfl, hBg, hcur, c0, c1, c2, c3, c4, c5, c6⟩ := hm.at hi
  rw [← hx] at c0 c1 c2 c3 c4 c5 c6
  clear hx hat hcv
  have HAC := fun (W : World) => r_amount x W HCV.out
  obtain ⟨AM, hAM⟩ : ∃ y, y = amount x := ⟨_, rfl⟩
  have HAM := Lib.hid (show amount x = AM from hAM.symm)
  rw [← hAM] at HAC
  clear hAM
  obtain ⟨_, _, ⟨_, hb1, hb2⟩, _⟩ := hb
  have w1 := i64_inx (n := p.inA + d.n) (by omega)
  have w2 := i64_inx (n := x.air + d.n) (by omega)
  have b1c0 := fun g : Later Y => (b1.later g).cell 0
  have b1f0 := fun g : Later Y => (b1.later g).free 0
  have b1c1 := fun g : Later Y => (b1.later g).cell 1
  have b1f1 := fun g : Later Y => (b1.later g).free 1
  have b1c2 := fun g : Later Y => (b1.later g).cell 2
  have b1f2 := fun g : Later Y => (b1.later g).free 2
  have b1c3 := fun g : Later Y => (b1.later g).cell 3
  have b1f3 := fun g : Later Y => (b1.later g).free 3
  have b1l := fun g : Later Y => (b1.later g).lt
  simp at b1c0 b1c1 b1c2 b1c3
  have r3c0 := fun g : Later Y => (r3.later g).cell 0
  have r3f0 := fun g : Later Y => (r3.later g).free 0
  have r3c1 := fun g : Later Y => (r3.later g).cell 1
  have r3f1 := fun g : Later Y => (r3.later g).free 1
  have r3c2 := fun g : Later Y => (r3.later g).cell 2
  have r3f2 := fun g : Later Y => (r3.later g).free 2
  have r3c3 := fun g : Later Y => (r3.later g).cell 3
  have r3f3 := fun g : Later Y => (r3.later g).free 3
  have r3c4 := fun g : Later Y => (r3.later g).cell 4
  have r3f4 := fun g : Later Y => (r3.later g).free 4
  have r3c5 := fun g : Later Y => (r3.later g).cell 5
  have r3f5 := fun g : Later Y => (r3.later g).free 5
  have r3c6 := fun g : Later Y => (r3.later g).cell 6
  have r3f6 := fun g : Later Y => (r3.later g).free 6
  have r3c7 := fun g : Later Y => (r3.later g).cell 7
  have r3f7 := fun g : Later Y => (r3.later g).free 7
  have r3c8 := fun g : Later Y => (r3.later g).cell 8
  have r3f8 := fun g : Later Y => (r3.later g).free 8
  have r3c9 := fun g : Later Y => (r3.later g).cell 9
  have r3f9 := fun g : Later Y => (r3.later g).free 9
  have r3l := fun g : Later Y => (r3.later g).lt
  simp at r3c0 r3c1 r3c2 r3c3 r3c4 r3c5 r3c6 r3c7 r3c8 r3c9
  clear c0 c1 c2 c3 c4 c5 c6
  refine Later.region (by kernel_rfl) (by kernel_rfl) ?_
  repeat (first | go_big_quiet_skip | (go_big_quiet_want; go_big_quiet_op; first | go_big_quiet_on | (apply Exists.intro; refine ⟨fun g => ?_, ?_⟩; (focus (first | (go_at_call 117; exact Later.call (HMX _)))); go_big_quiet_on)))
  refine wpQuiet_nil ?_
  intro gg
  clear b1c0 b1f0 b1c1 b1f1 b1c2 b1f2 b1c3 b1f3 b1l r3c0 r3f0 r3c1 r3f1 r3c2 r3f2 r3c3 r3f3 r3c4 r3f4 r3c5 r3f5 r3c6 r3f6 r3c7 r3f7 r3c8 r3f8 r3c9 r3f9 r3l
  have z1 := b1.later gg
  have z2 := b2.later gg
  have z3 := r3.later gg
  have hmg := hm.keep gg.ok
  have hkg := Kept.drop hk gg.ok
  have hne := hmg.ne z3 (by decide)
  have z1c0 := z1.cell 0
  have z1f0 := z1.free 0
  have z1c1 := z1.cell 1
  have z1f1 := z1.free 1
  have z1c2 := z1.cell 2
  have z1f2 := z1.free 2
  have z1c3 := z1.cell 3
  have z1f3 := z1.free 3
  have z1l := z1.lt
  simp at z1c0 z1c1 z1c2 z1c3
  have z3c0 := z3.cell 0
  have z3f0 := z3.free 0
  have z3c1 := z3.cell 1
  have z3f1 := z3.free 1
  have z3c2 := z3.cell 2
  have z3f2 := z3.free 2
  have z3c3 := z3.cell 3
  have z3f3 := z3.free 3
  have z3c4 := z3.cell 4
  have z3f4 := z3.free 4
  have z3c5 := z3.cell 5
  have z3f5 := z3.free 5
  have z3c6 := z3.cell 6
  have z3f6 := z3.free 6
  have z3c7 := z3.cell 7
  have z3f7 := z3.free 7
  have z3c8 := z3.cell 8
  have z3f8 := z3.free 8
  have z3c9 := z3.cell 9
  have z3f9 := z3.free 9
  have z3l := z3.lt
  simp at z3c0 z3c1 z3c2 z3c3 z3c4 z3c5 z3c6 z3c7 z3c8 z3c9
  go_upto_region 32 with (go_at_call 117; (with_reducible refine (HMW _).mono ?_); rintro e w9 ⟨rfl, rfl⟩)
  refine at_world (S := fun V => Blk V (w.heap.size + 1) #[.int .u8 d.kind, .int .i64 d.cell, .int .i64 d.to, .int .i64 d.n] 65 ∧ Blk V (w.heap.size + 1 + 1) #[.slice none 0 0, .int .i64 0, .int .i64 0, .int .i64 0, .int .i64 0, .int .i64 0, .int .i64 0, .int .i64 0, .int .i64 0, .int .i64 0] 63 ∧ Blk V s #[.slice (some ⟨g, 0, none⟩) p.cells.length cp, .int .i64 (p.bottles), .int .i64 (p.inH), .int .i64 (p.inA), .int .i64 (p.vH), .int .i64 (p.vA), .int .i64 (p.lH), .int .i64 (p.lA), .int .i64 (p.pH), .int .i64 (p.pA)] 63 ∧ Mine 25 w.heap.size V (.slice (some ⟨g, 0, none⟩) p.cells.length cp) p.cells ∧ Kept w V) ⟨z1.alloc _, z2.alloc _, z3.alloc _, hmg.alloc _, by (exact kpt)⟩ ?_
  clear hne b1 b2 r3 hm hk hcur z1 z2 z3 hmg hkg z1c0 z1f0 z1c1 z1f1 z1c2 z1f2 z1c3 z1f3 z1l z3c0 z3f0 z3c1 z3f1 z3c2 z3f2 z3c3 z3f3 z3c4 z3f4 z3c5 z3f5 z3c6 z3f6 z3c7 z3f7 z3c8 z3f8 z3c9 z3f9 z3l
  rintro V ⟨b1, b2, r3, hm, hk⟩
  obtain ⟨_, cuv, hge, _, hcv, c0, c1, c2, c3, c4, c5, c6⟩ := hm.at hi
  cases hge
  rw [← HXX.out] at c0 c1 c2 c3 c4 c5 c6
  have b1c0 := fun g : Later V => (b1.later g).cell 0
  have b1f0 := fun g : Later V => (b1.later g).free 0
  have b1c1 := fun g : Later V => (b1.later g).cell 1
  have b1f1 := fun g : Later V => (b1.later g).free 1
  have b1c2 := fun g : Later V => (b1.later g).cell 2
  have b1f2 := fun g : Later V => (b1.later g).free 2
  have b1c3 := fun g : Later V => (b1.later g).cell 3
  have b1f3 := fun g : Later V => (b1.later g).free 3
  have b1l := fun g : Later V => (b1.later g).lt
  simp at b1c0 b1c1 b1c2 b1c3
  have r3c0 := fun g : Later V => (r3.later g).cell 0
  have r3f0 := fun g : Later V => (r3.later g).free 0
  have r3c1 := fun g : Later V => (r3.later g).cell 1
  have r3f1 := fun g : Later V => (r3.later g).free 1
  have r3c2 := fun g : Later V => (r3.later g).cell 2
  have r3f2 := fun g : Later V => (r3.later g).free 2
  have r3c3 := fun g : Later V => (r3.later g).cell 3
  have r3f3 := fun g : Later V => (r3.later g).free 3
  have r3c4 := fun g : Later V => (r3.later g).cell 4
  have r3f4 := fun g : Later V => (r3.later g).free 4
  have r3c5 := fun g : Later V => (r3.later g).cell 5
  have r3f5 := fun g : Later V => (r3.later g).free 5
  have r3c6 := fun g : Later V => (r3.later g).cell 6
  have r3f6 := fun g : Later V => (r3.later g).free 6
  have r3c7 := fun g : Later V => (r3.later g).cell 7
  have r3f7 := fun g : Later V => (r3.later g).free 7
  have r3c8 := fun g : Later V => (r3.later g).cell 8
  have r3f8 := fun g : Later V => (r3.later g).free 8
  have r3c9 := fun g : Later V => (r3.later g).cell 9
  have r3f9 := fun g : Later V => (r3.later g).free 9
  have r3l := fun g : Later V => (r3.later g).lt
  simp at r3c0 r3c1 r3c2 r3c3 r3c4 r3c5 r3c6 r3c7 r3c8 r3c9
  have y1 := fun q : Later V => q.some c2
  clear c0 c1 c2 c3 c4 c5 c6
  refine Later.tail 12 (by kernel_rfl) (by kernel_rfl) ?_
  simp only [List.take_succ_cons, List.take_zero, List.drop_succ_cons, List.drop_zero]
  repeat (first | go_big_quiet_skip | (go_big_quiet_want; go_big_quiet_op; first | go_big_quiet_on | (apply Exists.intro; refine ⟨fun g_ => ?_, ?_⟩; (focus (first | fail)); go_big_quiet_on)))
  refine wpQuiet_nil ?_
  intro gh
  refine wpList_plain rfl fun K1 hK1 => ?_
  have y1 := y1 gh
  have hcg := hcv.later gh
  have zf := hcg.free (d.cell.toNat * 7 + 2)
  clear b1c0 b1f0 b1c1 b1f1 b1c2 b1f2 b1c3 b1f3 b1l r3c0 r3f0 r3c1 r3f1 r3c2 r3f2 r3c3 r3f3 r3c4 r3f4 r3c5 r3f5 r3c6 r3f6 r3c7 r3f7 r3c8 r3f8 r3c9 r3f9 r3l
  go_upto_region 33 with fail
  refine at_world (S := fun T => Blk T (w.heap.size + 1) #[.int .u8 d.kind, .int .i64 d.cell, .int .i64 d.to, .int .i64 d.n] 65 ∧ Blk T (w.heap.size + 1 + 1) #[.slice none 0 0, .int .i64 0, .int .i64 0, .int .i64 0, .int .i64 0, .int .i64 0, .int .i64 0, .int .i64 0, .int .i64 0, .int .i64 0] 63 ∧ Blk T s #[.slice (some ⟨g, 0, none⟩) p.cells.length cp, .int .i64 (p.bottles), .int .i64 (p.inH), .int .i64 (p.inA), .int .i64 (p.vH), .int .i64 (p.vA), .int .i64 (p.lH), .int .i64 (p.lA), .int .i64 (p.pH), .int .i64 (p.pA)] 63 ∧ Mine 25 w.heap.size T (.slice (some ⟨g, 0, none⟩) p.cells.length cp) Q.cells ∧ Kept w T) ⟨(b1.later gh).other (a := ⟨g, d.cell.toNat * 7 + 2, none⟩) (fun he => by simp only at he; subst he; have := (b1.later gh).symm.trans hcg; simp at this) _, (b2.later gh).other (a := ⟨g, d.cell.toNat * 7 + 2, none⟩) (fun he => by simp only at he; subst he; have := (b2.later gh).symm.trans hcg; simp at this) _, (r3.later gh).other (a := ⟨g, d.cell.toNat * 7 + 2, none⟩) (fun he => by simp only at he; subst he; have := (r3.later gh).symm.trans hcg; simp at this) _, by have hq := (hm.keep gh.ok).put (i := d.cell.toNat) (j := 2) (c := x) (u := .int .i64 (x.air + d.n)) { x with air := x.air + d.n } HX.out (by decide) rfl; rw [HQ.out]; simpa [breatheP, HAT.out] using hq, (Kept.drop hk gh.ok).setCell hBg _⟩ ?_
  clear b1 b2 r3 hm hk y1 zf hcg hcv gh
  rintro T ⟨b1, b2, r3, hm, hk⟩
  have hne := hm.ne r3 (by decide)
  have b1c0 := b1.cell 0
  have b1f0 := b1.free 0
  have b1c1 := b1.cell 1
  have b1f1 := b1.free 1
  have b1c2 := b1.cell 2
  have b1f2 := b1.free 2
  have b1c3 := b1.cell 3
  have b1f3 := b1.free 3
  have b1l := b1.lt
  simp at b1c0 b1c1 b1c2 b1c3
  have r3c0 := r3.cell 0
  have r3f0 := r3.free 0
  have r3c1 := r3.cell 1
  have r3f1 := r3.free 1
  have r3c2 := r3.cell 2
  have r3f2 := r3.free 2
  have r3c3 := r3.cell 3
  have r3f3 := r3.free 3
  have r3c4 := r3.cell 4
  have r3f4 := r3.free 4
  have r3c5 := r3.cell 5
  have r3f5 := r3.free 5
  have r3c6 := r3.cell 6
  have r3f6 := r3.free 6
  have r3c7 := r3.cell 7
  have r3f7 := r3.free 7
  have r3c8 := r3.cell 8
  have r3f8 := r3.free 8
  have r3c9 := r3.cell 9
  have r3f9 := r3.free 9
  have r3l := r3.lt
  simp at r3c0 r3c1 r3c2 r3c3 r3c4 r3c5 r3c6 r3c7 r3c8 r3c9
  go_upto_region 34 with fail
  clear b1c0 b1f0 b1c1 b1f1 b1c2 b1f2 b1c3 b1f3 b1l r3c0 r3f0 r3c1 r3f1 r3c2 r3f2 r3c3 r3f3 r3c4 r3f4 r3c5 r3f5 r3c6 r3f6 r3c7 r3f7 r3c8 r3f8 r3c9 r3f9 r3l
  refine at_world (S := fun Z => Blk Z (w.heap.size + 1 + 1) #[.slice none 0 0, .int .i64 0, .int .i64 0, .int .i64 0, .int .i64 0, .int .i64 0, .int .i64 0, .int .i64 0, .int .i64 0, .int .i64 0] 63 ∧ Blk Z s #[.slice (some ⟨g, 0, none⟩) p.cells.length cp, .int .i64 (Q.bottles), .int .i64 (Q.inH), .int .i64 (Q.inA), .int .i64 (Q.vH), .int .i64 (Q.vA), .int .i64 (Q.lH), .int .i64 (Q.lA), .int .i64 (Q.pH), .int .i64 (Q.pA)] 63 ∧ Mine 25 w.heap.size Z (.slice (some ⟨g, 0, none⟩) p.cells.length cp) Q.cells ∧ Kept w Z) ⟨by (exact blkc), (r3.set 3 _).cast (by rw [HQ.out]; simp [breatheP]), hm.off hne _, by (exact kpt)⟩ ?_
  clear b1 b2 r3 hm hk hne
  rintro Z ⟨b2, r3, hm, hk⟩
  cases hpq : plantB Q
  · have HPQ := Lib.hid hpq
    have r3c0 := r3.cell 0
    have r3f0 := r3.free 0
    have r3c1 := r3.cell 1
    have r3f1 := r3.free 1
    have r3c2 := r3.cell 2
    have r3f2 := r3.free 2
    have r3c3 := r3.cell 3
    have r3f3 := r3.free 3
    have r3c4 := r3.cell 4
    have r3f4 := r3.free 4
    have r3c5 := r3.cell 5
    have r3f5 := r3.free 5
    have r3c6 := r3.cell 6
    have r3f6 := r3.free 6
    have r3c7 := r3.cell 7
    have r3f7 := r3.free 7
    have r3c8 := r3.cell 8
    have r3f8 := r3.free 8
    have r3c9 := r3.cell 9
    have r3f9 := r3.free 9
    have r3l := r3.lt
    simp at r3c0 r3c1 r3c2 r3c3 r3c4 r3c5 r3c6 r3c7 r3c8 r3c9
    go_upto_region 35 with (go_at_call 115; (with_reducible refine (r_PlantK hm).mono ?_); rw [HPQ.out]; rintro e w4 ⟨rfl, hb4⟩)
    clear r3c0 r3f0 r3c1 r3f1 r3c2 r3f2 r3c3 r3f3 r3c4 r3f4 r3c5 r3f5 r3c6 r3f6 r3c7 r3f7 r3c8 r3f8 r3c9 r3f9 r3l
    refine at_world (S := fun U => Blk U (w.heap.size + 1 + 1) #[.slice none 0 0, .int .i64 0, .int .i64 0, .int .i64 0, .int .i64 0, .int .i64 0, .int .i64 0, .int .i64 0, .int .i64 0, .int .i64 0] 63 ∧ Blk U s #[.slice (some ⟨g, 0, none⟩) p.cells.length cp, .int .i64 (Q.bottles), .int .i64 (Q.inH), .int .i64 (Q.inA), .int .i64 (Q.vH), .int .i64 (Q.vA), .int .i64 (Q.lH), .int .i64 (Q.lA), .int .i64 (Q.pH), .int .i64 (Q.pA)] 63 ∧ Mine 25 w.heap.size U (.slice (some ⟨g, 0, none⟩) p.cells.length cp) Q.cells ∧ Kept w U) ⟨b2.keep hb4, r3.keep hb4, hm.keep hb4, Kept.drop hk hb4⟩ ?_
    clear b2 r3 hm hk hb4
    rintro U ⟨b2, r3, hm, hk⟩
    have b2c0 := b2.cell 0
    have b2f0 := b2.free 0
    have b2c1 := b2.cell 1
    have b2f1 := b2.free 1
    have b2c2 := b2.cell 2
    have b2f2 := b2.free 2
    have b2c3 := b2.cell 3
    have b2f3 := b2.free 3
    have b2c4 := b2.cell 4
    have b2f4 := b2.free 4
    have b2c5 := b2.cell 5
    have b2f5 := b2.free 5
    have b2c6 := b2.cell 6
    have b2f6 := b2.free 6
    have b2c7 := b2.cell 7
    have b2f7 := b2.free 7
    have b2c8 := b2.cell 8
    have b2f8 := b2.free 8
    have b2c9 := b2.cell 9
    have b2f9 := b2.free 9
    have b2l := b2.lt
    simp at b2c0 b2c1 b2c2 b2c3 b2c4 b2c5 b2c6 b2c7 b2c8 b2c9
    have r3c0 := r3.cell 0
    have r3f0 := r3.free 0
    have r3c1 := r3.cell 1
    have r3f1 := r3.free 1
    have r3c2 := r3.cell 2
    have r3f2 := r3.free 2
    have r3c3 := r3.cell 3
    have r3f3 := r3.free 3
    have r3c4 := r3.cell 4
    have r3f4 := r3.free 4
    have r3c5 := r3.cell 5
    have r3f5 := r3.free 5
    have r3c6 := r3.cell 6
    have r3f6 := r3.free 6
    have r3c7 := r3.cell 7
    have r3f7 := r3.free 7
    have r3c8 := r3.cell 8
    have r3f8 := r3.free 8
    have r3c9 := r3.cell 9
    have r3f9 := r3.free 9
    have r3l := r3.lt
    simp at r3c0 r3c1 r3c2 r3c3 r3c4 r3c5 r3c6 r3c7 r3c8 r3c9
    go_wp2
    refine bodyPost_ret (v := .tuple #[.agg #[.slice none 0 0, .int .i64 0, .int .i64 0, .int .i64 0, .int .i64 0, .int .i64 0, .int .i64 0, .int .i64 0, .int .i64 0, .int .i64 0], .int .i64 9]) (by simp [results, Try.results49, go_sem, b2c0, b2f0, b2c1, b2f1, b2c2, b2f2, b2c3, b2f3, b2c4, b2f4, b2c5, b2f5, b2c6, b2f6, b2c7, b2f7, b2c8, b2f8, b2c9, b2f9, r3c0, r3f0, r3c1, r3f1, r3c2, r3f2, r3c3, r3f3, r3c4, r3f4, r3c5, r3f5, r3c6, r3f6, r3c7, r3f7, r3c8, r3f8, r3c9, r3f9]) rfl ⟨.slice none 0 0, ?_, ?_, ?_⟩
    · simp [endQ, endE, HPQ.out, noPlant]
    · rw [show endQ Q = noPlant by simp [endQ, HPQ.out]]
      exact Mine.zero
    · (exact kpt)
  · have HPQ := Lib.hid hpq
    have r3c0 := r3.cell 0
    have r3f0 := r3.free 0
    have r3c1 := r3.cell 1
    have r3f1 := r3.free 1
    have r3c2 := r3.cell 2
    have r3f2 := r3.free 2
    have r3c3 := r3.cell 3
    have r3f3 := r3.free 3
    have r3c4 := r3.cell 4
    have r3f4 := r3.free 4
    have r3c5 := r3.cell 5
    have r3f5 := r3.free 5
    have r3c6 := r3.cell 6
    have r3f6 := r3.free 6
    have r3c7 := r3.cell 7
    have r3f7 := r3.free 7
    have r3c8 := r3.cell 8
    have r3f8 := r3.free 8
    have r3c9 := r3.cell 9
    have r3f9 := r3.free 9
    have r3l := r3.lt
    simp at r3c0 r3c1 r3c2 r3c3 r3c4 r3c5 r3c6 r3c7 r3c8 r3c9
    go_upto_region 36 with (go_at_call 115; (with_reducible refine (r_PlantK hm).mono ?_); rw [HPQ.out]; rintro e w4 ⟨rfl, hb4⟩)
    clear r3c0 r3f0 r3c1 r3f1 r3c2 r3f2 r3c3 r3f3 r3c4 r3f4 r3c5 r3f5 r3c6 r3f6 r3c7 r3f7 r3c8 r3f8 r3c9 r3f9 r3l
    refine at_world (S := fun U => Blk U (w.heap.size + 1 + 1) #[.slice none 0 0, .int .i64 0, .int .i64 0, .int .i64 0, .int .i64 0, .int .i64 0, .int .i64 0, .int .i64 0, .int .i64 0, .int .i64 0] 63 ∧ Blk U s #[.slice (some ⟨g, 0, none⟩) p.cells.length cp, .int .i64 (Q.bottles), .int .i64 (Q.inH), .int .i64 (Q.inA), .int .i64 (Q.vH), .int .i64 (Q.vA), .int .i64 (Q.lH), .int .i64 (Q.lA), .int .i64 (Q.pH), .int .i64 (Q.pA)] 63 ∧ Mine 25 w.heap.size U (.slice (some ⟨g, 0, none⟩) p.cells.length cp) Q.cells ∧ Kept w U) ⟨b2.keep hb4, r3.keep hb4, hm.keep hb4, Kept.drop hk hb4⟩ ?_
    clear b2 r3 hm hk hb4
    rintro U ⟨b2, r3, hm, hk⟩
    have b2c0 := b2.cell 0
    have b2f0 := b2.free 0
    have b2c1 := b2.cell 1
    have b2f1 := b2.free 1
    have b2c2 := b2.cell 2
    have b2f2 := b2.free 2
    have b2c3 := b2.cell 3
    have b2f3 := b2.free 3
    have b2c4 := b2.cell 4
    have b2f4 := b2.free 4
    have b2c5 := b2.cell 5
    have b2f5 := b2.free 5
    have b2c6 := b2.cell 6
    have b2f6 := b2.free 6
    have b2c7 := b2.cell 7
    have b2f7 := b2.free 7
    have b2c8 := b2.cell 8
    have b2f8 := b2.free 8
    have b2c9 := b2.cell 9
    have b2f9 := b2.free 9
    have b2l := b2.lt
    simp at b2c0 b2c1 b2c2 b2c3 b2c4 b2c5 b2c6 b2c7 b2c8 b2c9
    have r3c0 := r3.cell 0
    have r3f0 := r3.free 0
    have r3c1 := r3.cell 1
    have r3f1 := r3.free 1
    have r3c2 := r3.cell 2
    have r3f2 := r3.free 2
    have r3c3 := r3.cell 3
    have r3f3 := r3.free 3
    have r3c4 := r3.cell 4
    have r3f4 := r3.free 4
    have r3c5 := r3.cell 5
    have r3f5 := r3.free 5
    have r3c6 := r3.cell 6
    have r3f6 := r3.free 6
    have r3c7 := r3.cell 7
    have r3f7 := r3.free 7
    have r3c8 := r3.cell 8
    have r3f8 := r3.free 8
    have r3c9 := r3.cell 9
    have r3f9 := r3.free 9
    have r3l := r3.lt
    simp at r3c0 r3c1 r3c2 r3c3 r3c4 r3c5 r3c6 r3c7 r3c8 r3c9
    go_wp2
    refine bodyPost_ret (v := .tuple #[.agg #[.slice (some ⟨g, 0, none⟩) p.cells.length cp, .int .i64 (Q.bottles), .int .i64 (Q.inH), .int .i64 (Q.inA), .int .i64 (Q.vH), .int .i64 (Q.vA), .int .i64 (Q.lH), .int .i64 (Q.lA), .int .i64 (Q.pH), .int .i64 (Q.pA)], .int .i64 0]) (by simp [results, Try.results49, go_sem, b2c0, b2f0, b2c1, b2f1, b2c2, b2f2, b2c3, b2f3, b2c4, b2f4, b2c5, b2f5, b2c6, b2f6, b2c7, b2f7, b2c8, b2f8, b2c9, b2f9, r3c0, r3f0, r3c1, r3f1, r3c2, r3f2, r3c3, r3f3, r3c4, r3f4, r3c5, r3f5, r3c6, r3f6, r3c7, r3f7, r3c8, r3f8, r3c9, r3f9]) rfl ⟨.slice (some ⟨g, 0, none⟩) p.cells.length cp, ?_, ?_, ?_⟩
    · simp [endQ, endE, HPQ.out, noPlant]
    · rw [show endQ Q = Q by simp [endQ, HPQ.out]]
      have hne := hm.ne b2 (by decide)
      (repeat (with_reducible refine Mine.off ?_ (by with_reducible assumption) _))
      exact hm
    · (exact kpt)

end Go.Proofs.Ytemafanncejeiaa
