/-
  The reference: Do, valve, move, purify.
-/
import Derived.Test.YtemafanncejeiaaGasPlaysZD
import Derived.Test.YtemafanncejeiaaGasPlaysZA
import Derived.Test.YtemafanncejeiaaGasPlaysZB
import Derived.Test.YtemafanncejeiaaGasPlaysZC
/-
  The reference: Do, valve, move, purify.
-/
namespace Go.Proofs.Ytemafanncejeiaa
open Go.RowKit Bal Bal.Trim Bal.Gas
set_option linter.unusedVariables false
set_option linter.unusedSimpArgs false
set_option maxHeartbeats 8000000
set_option maxRecDepth 100000

theorem r_Do_3 (p : Plant) (d : Deed) (a : Option Addr) (cap : Nat) (w : World) (hx : Row Cell.cells 7 w.heap.size w a p.cells) (hc : p.cells.length ≤ cap) (hM : cap ≤ maxLen) (hz : a = none → cap = 0) (hp : plantB p = true) (hs : sizedE p d = 0) (hkk : d.kind = 3) (hn : 1 ≤ d.n ∧ d.n ≤ 10000000) (hcl : inB d.cell 0 (p.cells.length - 1) = true) (hl : ¬ amount (at_ p d) < d.n) : Calls Try.prog 49 #[.agg #[.slice a p.cells.length cap, .int .i64 p.bottles, .int .i64 p.inH, .int .i64 p.inA, .int .i64 p.vH, .int .i64 p.vA, .int .i64 p.lH, .int .i64 p.lA, .int .i64 p.pH, .int .i64 p.pA], .agg #[.int .u8 d.kind, .int .i64 d.cell, .int .i64 d.to, .int .i64 d.n]] w fun e w' => ∃ v, e = .returned (.tuple #[.agg #[v, .int .i64 (endQ (valveP p d)).bottles, .int .i64 (endQ (valveP p d)).inH, .int .i64 (endQ (valveP p d)).inA, .int .i64 (endQ (valveP p d)).vH, .int .i64 (endQ (valveP p d)).vA, .int .i64 (endQ (valveP p d)).lH, .int .i64 (endQ (valveP p d)).lA, .int .i64 (endQ (valveP p d)).pH, .int .i64 (endQ (valveP p d)).pA], .int .i64 (endE (valveP p d))]) ∧ Mine 25 w.heap.size w' v ((endQ (valveP p d))).cells ∧ Kept w w' := by
  have e1 : (d.kind == 1) = false := by simp; omega
  have g1 : decide (d.kind = 1) = false := by simp; omega
  have e2 : (d.kind == 2) = false := by simp; omega
  have g2 : decide (d.kind = 2) = false := by simp; omega
  have e3 : (d.kind == 3) = true := by simp; omega
  have g3 : decide (d.kind = 3) = true := by simp; omega
  have e4 : (d.kind == 4) = false := by simp; omega
  have g4 : decide (d.kind = 4) = false := by simp; omega
  have e5 : (d.kind == 5) = false := by simp; omega
  have g5 : decide (d.kind = 5) = false := by simp; omega
  have e6 : (d.kind == 6) = false := by simp; omega
  have g6 : decide (d.kind = 6) = false := by simp; omega
  have hkm : mixedB d.kind = true := by simp [mixedB, hkk]
  have HMX := fun (W : World) => r_mixedK d.kind true hkm W
  have HMW := fun (W : World) => r_mixedW d.kind true hkm W
  clear hkk hkm
  obtain ⟨Q, hQ⟩ : ∃ Q, Q = valveP p d := ⟨_, rfl⟩
  have HQ := Lib.hid hQ
  rw [← hQ]
  clear hQ
  have HP := Lib.hid hp
  have HS := Lib.hid hs
  have hn12 : p.cells.length ≤ 12 := (plantB_iff.1 hp).1
  have hb := plantB_iff.1 hp
  have hi : d.cell.toNat < p.cells.length := by
    have h1 : 0 ≤ d.cell ∧ d.cell ≤ p.cells.length - 1 := by simpa [inB] using hcl
    omega
  have hd0 : 0 ≤ d.cell ∧ d.cell < p.cells.length := by
    have h1 : 0 ≤ d.cell ∧ d.cell ≤ p.cells.length - 1 := by simpa [inB] using hcl
    omega
  have hcv : cellB p.cells[d.cell.toNat] = true := hb.2.2.2.2.2.2.1 _ (List.getElem_mem hi)
  have hat : at_ p d = p.cells[d.cell.toNat] := cellAt_get hi
  clear hp hs
  go_enter Try.func49, Try.ntmps49
  go_upto_region 3 with (go_at_call 115; (with_reducible refine (r_Plant p a cap _ (hx.later (by (exact kpt)) (Nat.le_refl _)) hc hM).mono ?_); rw [HP.out]; rintro e w1 ⟨rfl, hb1⟩; refine Blk.thru (b := w.heap.size) (arr := ?_) (t := ?_) ?_ hb1 ?_; rotate_left 2; (focus (exact blk)); intro rr; have rrc0 := rr.cell 0; have rrf0 := rr.free 0; have rrc1 := rr.cell 1; have rrf1 := rr.free 1; have rrc2 := rr.cell 2; have rrf2 := rr.free 2; have rrc3 := rr.cell 3; have rrf3 := rr.free 3; have rrc4 := rr.cell 4; have rrf4 := rr.free 4; have rrc5 := rr.cell 5; have rrf5 := rr.free 5; have rrc6 := rr.cell 6; have rrf6 := rr.free 6; have rrc7 := rr.cell 7; have rrf7 := rr.free 7; have rrc8 := rr.cell 8; have rrf8 := rr.free 8; have rrc9 := rr.cell 9; have rrf9 := rr.free 9; have rrl := rr.lt; simp at rrc0 rrc1 rrc2 rrc3 rrc4 rrc5 rrc6 rrc7 rrc8 rrc9; refine Blk.thru (b := (w.heap.size + 1)) (arr := ?_) (t := ?_) ?_ hb1 ?_; rotate_left 2; (focus (exact blk)); intro rq; have rqc0 := rq.cell 0; have rqf0 := rq.free 0; have rqc1 := rq.cell 1; have rqf1 := rq.free 1; have rqc2 := rq.cell 2; have rqf2 := rq.free 2; have rqc3 := rq.cell 3; have rqf3 := rq.free 3; have rql := rq.lt; simp at rqc0 rqc1 rqc2 rqc3)
  refine at_world (S := fun W => Blk W w.heap.size #[.slice a p.cells.length cap, .int .i64 p.bottles, .int .i64 p.inH, .int .i64 p.inA, .int .i64 p.vH, .int .i64 p.vA, .int .i64 p.lH, .int .i64 p.lA, .int .i64 p.pH, .int .i64 p.pA] 63 ∧ Blk W (w.heap.size + 1) #[.int .u8 d.kind, .int .i64 d.cell, .int .i64 d.to, .int .i64 d.n] 65 ∧ Blk W (w.heap.size + 1 + 1) #[.slice none 0 0, .int .i64 0, .int .i64 0, .int .i64 0, .int .i64 0, .int .i64 0, .int .i64 0, .int .i64 0, .int .i64 0, .int .i64 0] 63 ∧ Kept w W) ⟨by (exact blkc), by (exact blkc), by (exact blkc), by (exact kpt)⟩ ?_
  rintro W ⟨b0, b1, b2, hk⟩
  have b0c0 := b0.cell 0
  have b0f0 := b0.free 0
  have b0c1 := b0.cell 1
  have b0f1 := b0.free 1
  have b0c2 := b0.cell 2
  have b0f2 := b0.free 2
  have b0c3 := b0.cell 3
  have b0f3 := b0.free 3
  have b0c4 := b0.cell 4
  have b0f4 := b0.free 4
  have b0c5 := b0.cell 5
  have b0f5 := b0.free 5
  have b0c6 := b0.cell 6
  have b0f6 := b0.free 6
  have b0c7 := b0.cell 7
  have b0f7 := b0.free 7
  have b0c8 := b0.cell 8
  have b0f8 := b0.free 8
  have b0c9 := b0.cell 9
  have b0f9 := b0.free 9
  have b0l := b0.lt
  simp at b0c0 b0c1 b0c2 b0c3 b0c4 b0c5 b0c6 b0c7 b0c8 b0c9
  have b1c0 := b1.cell 0
  have b1f0 := b1.free 0
  have b1c1 := b1.cell 1
  have b1f1 := b1.free 1
  have b1c2 := b1.cell 2
  have b1f2 := b1.free 2
  have b1c3 := b1.cell 3
  have b1f3 := b1.free 3
  have b1l := b1.lt
  simp at b1c0 b1c1 b1c2 b1c3
  have b2c0 := b2.cell 0
  have b2f0 := b2.free 0
  have b2c1 := b2.cell 1
  have b2f1 := b2.free 1
  have b2c2 := b2.cell 2
  have b2f2 := b2.free 2
  have b2c3 := b2.cell 3
  have b2f3 := b2.free 3
  have b2c4 := b2.cell 4
  have b2f4 := b2.free 4
  have b2c5 := b2.cell 5
  have b2f5 := b2.free 5
  have b2c6 := b2.cell 6
  have b2f6 := b2.free 6
  have b2c7 := b2.cell 7
  have b2f7 := b2.free 7
  have b2c8 := b2.cell 8
  have b2f8 := b2.free 8
  have b2c9 := b2.cell 9
  have b2f9 := b2.free 9
  have b2l := b2.lt
  simp at b2c0 b2c1 b2c2 b2c3 b2c4 b2c5 b2c6 b2c7 b2c8 b2c9
  go_upto_region 6 with (go_at_call 116; (with_reducible refine (r_sized p d a cap _ hc hM).mono ?_); rw [HS.out]; rintro e w1 ⟨rfl, hb1⟩)
  clear b0c0 b0f0 b0c1 b0f1 b0c2 b0f2 b0c3 b0f3 b0c4 b0f4 b0c5 b0f5 b0c6 b0f6 b0c7 b0f7 b0c8 b0f8 b0c9 b0f9 b0l b1c0 b1f0 b1c1 b1f1 b1c2 b1f2 b1c3 b1f3 b1l b2c0 b2f0 b2c1 b2f1 b2c2 b2f2 b2c3 b2f3 b2c4 b2f4 b2c5 b2f5 b2c6 b2f6 b2c7 b2f7 b2c8 b2f8 b2c9 b2f9 b2l
  refine at_world (S := fun X => Blk X w.heap.size #[.slice a p.cells.length cap, .int .i64 p.bottles, .int .i64 p.inH, .int .i64 p.inA, .int .i64 p.vH, .int .i64 p.vA, .int .i64 p.lH, .int .i64 p.lA, .int .i64 p.pH, .int .i64 p.pA] 63 ∧ Blk X (w.heap.size + 1) #[.int .u8 d.kind, .int .i64 d.cell, .int .i64 d.to, .int .i64 d.n] 65 ∧ Blk X (w.heap.size + 1 + 1) #[.slice none 0 0, .int .i64 0, .int .i64 0, .int .i64 0, .int .i64 0, .int .i64 0, .int .i64 0, .int .i64 0, .int .i64 0, .int .i64 0] 63 ∧ Kept w X) ⟨by (exact blkc), by (exact blkc), by (exact blkc), by (exact kpt)⟩ ?_
  clear b0 b1 b2 hk
  rintro X ⟨b0, b1, b2, hk⟩
  have b0c0 := b0.cell 0
  have b0f0 := b0.free 0
  have b0c1 := b0.cell 1
  have b0f1 := b0.free 1
  have b0c2 := b0.cell 2
  have b0f2 := b0.free 2
  have b0c3 := b0.cell 3
  have b0f3 := b0.free 3
  have b0c4 := b0.cell 4
  have b0f4 := b0.free 4
  have b0c5 := b0.cell 5
  have b0f5 := b0.free 5
  have b0c6 := b0.cell 6
  have b0f6 := b0.free 6
  have b0c7 := b0.cell 7
  have b0f7 := b0.free 7
  have b0c8 := b0.cell 8
  have b0f8 := b0.free 8
  have b0c9 := b0.cell 9
  have b0f9 := b0.free 9
  have b0l := b0.lt
  simp at b0c0 b0c1 b0c2 b0c3 b0c4 b0c5 b0c6 b0c7 b0c8 b0c9
  have b1c0 := b1.cell 0
  have b1f0 := b1.free 0
  have b1c1 := b1.cell 1
  have b1f1 := b1.free 1
  have b1c2 := b1.cell 2
  have b1f2 := b1.free 2
  have b1c3 := b1.cell 3
  have b1f3 := b1.free 3
  have b1l := b1.lt
  simp at b1c0 b1c1 b1c2 b1c3
  have b2c0 := b2.cell 0
  have b2f0 := b2.free 0
  have b2c1 := b2.cell 1
  have b2f1 := b2.free 1
  have b2c2 := b2.cell 2
  have b2f2 := b2.free 2
  have b2c3 := b2.cell 3
  have b2f3 := b2.free 3
  have b2c4 := b2.cell 4
  have b2f4 := b2.free 4
  have b2c5 := b2.cell 5
  have b2f5 := b2.free 5
  have b2c6 := b2.cell 6
  have b2f6 := b2.free 6
  have b2c7 := b2.cell 7
  have b2f7 := b2.free 7
  have b2c8 := b2.cell 8
  have b2f8 := b2.free 8
  have b2c9 := b2.cell 9
  have b2f9 := b2.free 9
  have b2l := b2.lt
  simp at b2c0 b2c1 b2c2 b2c3 b2c4 b2c5 b2c6 b2c7 b2c8 b2c9
  go_upto_region 7 with (go_at_call 47; (with_reducible refine (r_Twin p a cap _ (hx.later (by (exact kpt)) (Nat.le_refl _)) (by omega) hz).mono ?_); rintro e w1 ⟨ad, cp, rfl, hm1, hb1⟩)
  have b1k := b1.keep hb1
  have b2k := b2.keep hb1
  have hsz := b2k.lt
  have hm2 := hm1.base (C := w.heap.size) hk.size
  have hk2 := hk.trans (hb1.mono hk.size)
  refine at_world (S := fun Y => Blk Y (w.heap.size + 1) #[.int .u8 d.kind, .int .i64 d.cell, .int .i64 d.to, .int .i64 d.n] 65 ∧ Blk Y (w.heap.size + 1 + 1) #[.slice none 0 0, .int .i64 0, .int .i64 0, .int .i64 0, .int .i64 0, .int .i64 0, .int .i64 0, .int .i64 0, .int .i64 0, .int .i64 0] 63 ∧ Blk Y w1.heap.size #[.slice ad p.cells.length cp, .int .i64 (p.bottles), .int .i64 (p.inH), .int .i64 (p.inA), .int .i64 (p.vH), .int .i64 (p.vA), .int .i64 (p.lH), .int .i64 (p.lA), .int .i64 (p.pH), .int .i64 (p.pA)] 63 ∧ Mine 25 w.heap.size Y (.slice ad p.cells.length cp) p.cells ∧ Kept w Y ∧ w.heap.size + 1 + 1 < w1.heap.size) ⟨by (exact blkc), by (exact blkc), by (exact blkc), by exact (by have hnp := mine_past hm2 (Nat.le_refl _); (repeat (with_reducible refine Mine.off ?_ hnp _)); exact hm2.alloc _), by (exact kpt), hsz⟩ ?_
  clear b0c0 b0f0 b0c1 b0f1 b0c2 b0f2 b0c3 b0f3 b0c4 b0f4 b0c5 b0f5 b0c6 b0f6 b0c7 b0f7 b0c8 b0f8 b0c9 b0f9 b0l b1c0 b1f0 b1c1 b1f1 b1c2 b1f2 b1c3 b1f3 b1l b2c0 b2f0 b2c1 b2f1 b2c2 b2f2 b2c3 b2f3 b2c4 b2f4 b2c5 b2f5 b2c6 b2f6 b2c7 b2f7 b2c8 b2f8 b2c9 b2f9 b2l b0 b1 b2 hk b1k b2k hm2 hk2 hm1 hb1 hsz
  rintro Y ⟨b1, b2, r3, hm, hk, hs⟩
  generalize w1.heap.size = s at hs r3 ⊢
  obtain ⟨x, hx⟩ : ∃ x, x = p.cells[d.cell.toNat] := ⟨_, rfl⟩
  have HX := Lib.hid (show p.cells[d.cell.toNat]? = some x by rw [hx]; simp [hi])
  have HXX := Lib.hid hx
  rw [← hx] at hcv hat
  have HAT := Lib.hid hat
  have HCV := Lib.hid hcv
  have hxb := cellB_iff.1 hcv
  obtain ⟨g, cur, rfl, hBg, hcur, c0, c1, c2, c3, c4, c5, c6⟩ := hm.at hi
  rw [← hx] at c0 c1 c2 c3 c4 c5 c6
  clear hx hat hcv
  have HAC := fun (W : World) => r_amount x W HCV.out
  obtain ⟨AM, hAM⟩ : ∃ y, y = amount x := ⟨_, rfl⟩
  have HAM := Lib.hid (show amount x = AM from hAM.symm)
  rw [← hAM] at HAC
  clear hAM
  have hle : d.n ≤ x.helium + x.air := by
    have h1 : amount x = x.helium + x.air := rfl
    rw [HAT.out] at hl
    omega
  have hlt : decide (AM < d.n) = false := by rw [← HAM.out, ← HAT.out]; simpa using hl
  clear hl
  obtain ⟨_, _, _, ⟨⟨hb1, hb2⟩, hb3, hb4⟩, _⟩ := hb
  obtain ⟨s0, s1, s2, s3⟩ := share_bd (okC_of HCV.out) (show 0 ≤ d.n by omega) hle
  obtain ⟨S, hS⟩ : ∃ S, S = shareH x d.n := ⟨_, rfl⟩
  have HSS := Lib.hid (show shareH x d.n = S from hS.symm)
  have HTA := fun (W : World) (h : Mine 25 w.heap.size W (.slice (some ⟨g, 0, none⟩) p.cells.length cp) p.cells) => r_taken h d.cell hd0.1 HX.out HCV.out hn12 d.n hn.1 hle
  rw [← hS] at s0 s1 s2 s3 HTA
  clear hS hle
  have b1c0 := fun g : Later Y => (b1.later g).cell 0
  have b1f0 := fun g : Later Y => (b1.later g).free 0
  have b1c1 := fun g : Later Y => (b1.later g).cell 1
  have b1f1 := fun g : Later Y => (b1.later g).free 1
  have b1c2 := fun g : Later Y => (b1.later g).cell 2
  have b1f2 := fun g : Later Y => (b1.later g).free 2
  have b1c3 := fun g : Later Y => (b1.later g).cell 3
  have b1f3 := fun g : Later Y => (b1.later g).free 3
  have b1l := fun g : Later Y => (b1.later g).lt
  simp at b1c0 b1c1 b1c2 b1c3
  have r3c0 := fun g : Later Y => (r3.later g).cell 0
  have r3f0 := fun g : Later Y => (r3.later g).free 0
  have r3c1 := fun g : Later Y => (r3.later g).cell 1
  have r3f1 := fun g : Later Y => (r3.later g).free 1
  have r3c2 := fun g : Later Y => (r3.later g).cell 2
  have r3f2 := fun g : Later Y => (r3.later g).free 2
  have r3c3 := fun g : Later Y => (r3.later g).cell 3
  have r3f3 := fun g : Later Y => (r3.later g).free 3
  have r3c4 := fun g : Later Y => (r3.later g).cell 4
  have r3f4 := fun g : Later Y => (r3.later g).free 4
  have r3c5 := fun g : Later Y => (r3.later g).cell 5
  have r3f5 := fun g : Later Y => (r3.later g).free 5
  have r3c6 := fun g : Later Y => (r3.later g).cell 6
  have r3f6 := fun g : Later Y => (r3.later g).free 6
  have r3c7 := fun g : Later Y => (r3.later g).cell 7
  have r3f7 := fun g : Later Y => (r3.later g).free 7
  have r3c8 := fun g : Later Y => (r3.later g).cell 8
  have r3f8 := fun g : Later Y => (r3.later g).free 8
  have r3c9 := fun g : Later Y => (r3.later g).cell 9
  have r3f9 := fun g : Later Y => (r3.later g).free 9
  have r3l := fun g : Later Y => (r3.later g).lt
  simp at r3c0 r3c1 r3c2 r3c3 r3c4 r3c5 r3c6 r3c7 r3c8 r3c9
  have y0 := fun q : Later Y => q.some c0
  have y1 := fun q : Later Y => q.some c1
  have y2 := fun q : Later Y => q.some c2
  have y3 := fun q : Later Y => q.some c3
  have y4 := fun q : Later Y => q.some c4
  have y5 := fun q : Later Y => q.some c5
  have y6 := fun q : Later Y => q.some c6
  clear c0 c1 c2 c3 c4 c5 c6
  refine Later.region (by kernel_rfl) (by kernel_rfl) ?_
  repeat (first | go_big_quiet_skip | (go_big_quiet_want; go_big_quiet_op; first | go_big_quiet_on | (apply Exists.intro; refine ⟨fun g => ?_, ?_⟩; (focus (first | (go_at_call 117; exact Later.call (HMX _)) | (go_at_call 85; exact Later.call (HAC _)))); go_big_quiet_on)))
  refine wpQuiet_nil ?_
  intro gg
  clear b1c0 b1f0 b1c1 b1f1 b1c2 b1f2 b1c3 b1f3 b1l r3c0 r3f0 r3c1 r3f1 r3c2 r3f2 r3c3 r3f3 r3c4 r3f4 r3c5 r3f5 r3c6 r3f6 r3c7 r3f7 r3c8 r3f8 r3c9 r3f9 r3l y0 y1 y2 y3 y4 y5 y6
  have z1 := b1.later gg
  have z2 := b2.later gg
  have z3 := r3.later gg
  have hmg := hm.keep gg.ok
  have hkg := Kept.drop hk gg.ok
  have hne := hmg.ne z3 (by decide)
  have z1c0 := z1.cell 0
  have z1f0 := z1.free 0
  have z1c1 := z1.cell 1
  have z1f1 := z1.free 1
  have z1c2 := z1.cell 2
  have z1f2 := z1.free 2
  have z1c3 := z1.cell 3
  have z1f3 := z1.free 3
  have z1l := z1.lt
  simp at z1c0 z1c1 z1c2 z1c3
  have z3c0 := z3.cell 0
  have z3f0 := z3.free 0
  have z3c1 := z3.cell 1
  have z3f1 := z3.free 1
  have z3c2 := z3.cell 2
  have z3f2 := z3.free 2
  have z3c3 := z3.cell 3
  have z3f3 := z3.free 3
  have z3c4 := z3.cell 4
  have z3f4 := z3.free 4
  have z3c5 := z3.cell 5
  have z3f5 := z3.free 5
  have z3c6 := z3.cell 6
  have z3f6 := z3.free 6
  have z3c7 := z3.cell 7
  have z3f7 := z3.free 7
  have z3c8 := z3.cell 8
  have z3f8 := z3.free 8
  have z3c9 := z3.cell 9
  have z3f9 := z3.free 9
  have z3l := z3.lt
  simp at z3c0 z3c1 z3c2 z3c3 z3c4 z3c5 z3c6 z3c7 z3c8 z3c9
  go_upto_region 11 with (go_at_call 117; (with_reducible refine (HMW _).mono ?_); rintro e w9 ⟨rfl, rfl⟩)
  refine at_world (S := fun V => Blk V (w.heap.size + 1) #[.int .u8 d.kind, .int .i64 d.cell, .int .i64 d.to, .int .i64 d.n] 65 ∧ Blk V (w.heap.size + 1 + 1) #[.slice none 0 0, .int .i64 0, .int .i64 0, .int .i64 0, .int .i64 0, .int .i64 0, .int .i64 0, .int .i64 0, .int .i64 0, .int .i64 0] 63 ∧ Blk V s #[.slice (some ⟨g, 0, none⟩) p.cells.length cp, .int .i64 (p.bottles), .int .i64 (p.inH), .int .i64 (p.inA), .int .i64 (p.vH), .int .i64 (p.vA), .int .i64 (p.lH), .int .i64 (p.lA), .int .i64 (p.pH), .int .i64 (p.pA)] 63 ∧ Mine 25 w.heap.size V (.slice (some ⟨g, 0, none⟩) p.cells.length cp) p.cells ∧ Kept w V ∧ Blk V gg.val.heap.size #[.int .i64 0, .int .i64 0] 61 ∧ s < gg.val.heap.size) ⟨z1.alloc _, z2.alloc _, z3.alloc _, hmg.alloc _, by (exact kpt), by (exact blkc), z3.lt⟩ ?_
  clear hne b1 b2 r3 hm hk hcur z1 z2 z3 hmg hkg z1c0 z1f0 z1c1 z1f1 z1c2 z1f2 z1c3 z1f3 z1l z3c0 z3f0 z3c1 z3f1 z3c2 z3f2 z3c3 z3f3 z3c4 z3f4 z3c5 z3f5 z3c6 z3f6 z3c7 z3f7 z3c8 z3f8 z3c9 z3f9 z3l
  rintro V ⟨b1, b2, r3, hm, hk, r8, hsm⟩
  generalize gg.val.heap.size = m at r8 hsm ⊢
  have b1c0 := b1.cell 0
  have b1f0 := b1.free 0
  have b1c1 := b1.cell 1
  have b1f1 := b1.free 1
  have b1c2 := b1.cell 2
  have b1f2 := b1.free 2
  have b1c3 := b1.cell 3
  have b1f3 := b1.free 3
  have b1l := b1.lt
  simp at b1c0 b1c1 b1c2 b1c3
  have r3c0 := r3.cell 0
  have r3f0 := r3.free 0
  have r3c1 := r3.cell 1
  have r3f1 := r3.free 1
  have r3c2 := r3.cell 2
  have r3f2 := r3.free 2
  have r3c3 := r3.cell 3
  have r3f3 := r3.free 3
  have r3c4 := r3.cell 4
  have r3f4 := r3.free 4
  have r3c5 := r3.cell 5
  have r3f5 := r3.free 5
  have r3c6 := r3.cell 6
  have r3f6 := r3.free 6
  have r3c7 := r3.cell 7
  have r3f7 := r3.free 7
  have r3c8 := r3.cell 8
  have r3f8 := r3.free 8
  have r3c9 := r3.cell 9
  have r3f9 := r3.free 9
  have r3l := r3.lt
  simp at r3c0 r3c1 r3c2 r3c3 r3c4 r3c5 r3c6 r3c7 r3c8 r3c9
  have r8c0 := r8.cell 0
  have r8f0 := r8.free 0
  have r8c1 := r8.cell 1
  have r8f1 := r8.free 1
  have r8l := r8.lt
  simp at r8c0 r8c1
  go_upto_region 12 with (go_at_call 118; (with_reducible refine (HTA _ hm).mono ?_); rintro e w2 ⟨rfl, hm2, hw2, hbes2⟩; have z8 := Besides.blk hbes2 (by decide) r8; have z8c0 := z8.cell 0; have z8f0 := z8.free 0; have z8c1 := z8.cell 1; have z8f1 := z8.free 1; have z8l := z8.lt; simp at z8c0 z8c1)
  clear b1c0 b1f0 b1c1 b1f1 b1c2 b1f2 b1c3 b1f3 b1l r3c0 r3f0 r3c1 r3f1 r3c2 r3f2 r3c3 r3f3 r3c4 r3f4 r3c5 r3f5 r3c6 r3f6 r3c7 r3f7 r3c8 r3f8 r3c9 r3f9 r3l r8c0 r8f0 r8c1 r8f1 r8l z8c0 z8f0 z8c1 z8f1 z8l
  have n1 := Besides.blk hbes2 (by decide) b1
  have n2 := Besides.blk hbes2 (by decide) b2
  have n3 := Besides.blk hbes2 (by decide) r3
  have hk2 : Kept w w2 := hk.trans hw2
  have hsm2 := hk.size
  refine at_world (S := fun T => Blk T (w.heap.size + 1) #[.int .u8 d.kind, .int .i64 d.cell, .int .i64 d.to, .int .i64 d.n] 65 ∧ Blk T (w.heap.size + 1 + 1) #[.slice none 0 0, .int .i64 0, .int .i64 0, .int .i64 0, .int .i64 0, .int .i64 0, .int .i64 0, .int .i64 0, .int .i64 0, .int .i64 0] 63 ∧ Blk T s #[.slice (some ⟨g, 0, none⟩) p.cells.length cp, .int .i64 (p.bottles), .int .i64 (p.inH), .int .i64 (p.inA), .int .i64 (p.vH), .int .i64 (p.vA), .int .i64 (p.lH), .int .i64 (p.lA), .int .i64 (p.pH), .int .i64 (p.pA)] 63 ∧ Mine 25 w.heap.size T (.slice (some ⟨g, 0, none⟩) p.cells.length cp) (p.cells.set d.cell.toNat (less x d.n)) ∧ Kept w T ∧ Blk T m #[.int .i64 S, .int .i64 (d.n - S)] 61) ⟨(n1.other (by simp; omega) _).other (by simp; omega) _, (n2.other (by simp; omega) _).other (by simp; omega) _, (n3.other (by simp; omega) _).other (by simp; omega) _, (hm2.other z8 (by decide) _).other (z8.set 0 _) (by decide) _, ((hk2.setCell (by show w.heap.size ≤ m; omega) _).setCell (by show w.heap.size ≤ m; omega) _), ((z8.set 0 _).set 1 _).cast (by simp)⟩ ?_
  clear b1 b2 r3 hm hk r8 z8 n1 n2 n3 hm2 hw2 hbes2 hk2 hsm2
  rintro T ⟨b1, b2, r3, hm, hk, r8⟩
  have b1c0 := b1.cell 0
  have b1f0 := b1.free 0
  have b1c1 := b1.cell 1
  have b1f1 := b1.free 1
  have b1c2 := b1.cell 2
  have b1f2 := b1.free 2
  have b1c3 := b1.cell 3
  have b1f3 := b1.free 3
  have b1l := b1.lt
  simp at b1c0 b1c1 b1c2 b1c3
  have r3c0 := r3.cell 0
  have r3f0 := r3.free 0
  have r3c1 := r3.cell 1
  have r3f1 := r3.free 1
  have r3c2 := r3.cell 2
  have r3f2 := r3.free 2
  have r3c3 := r3.cell 3
  have r3f3 := r3.free 3
  have r3c4 := r3.cell 4
  have r3f4 := r3.free 4
  have r3c5 := r3.cell 5
  have r3f5 := r3.free 5
  have r3c6 := r3.cell 6
  have r3f6 := r3.free 6
  have r3c7 := r3.cell 7
  have r3f7 := r3.free 7
  have r3c8 := r3.cell 8
  have r3f8 := r3.free 8
  have r3c9 := r3.cell 9
  have r3f9 := r3.free 9
  have r3l := r3.lt
  simp at r3c0 r3c1 r3c2 r3c3 r3c4 r3c5 r3c6 r3c7 r3c8 r3c9
  have r8c0 := r8.cell 0
  have r8f0 := r8.free 0
  have r8c1 := r8.cell 1
  have r8f1 := r8.free 1
  have r8l := r8.lt
  simp at r8c0 r8c1
  have hqc : Q.cells = (p.cells.set d.cell.toNat (less x d.n)) := by rw [HQ.out]; simp [valveP, lessP, HAT.out]
  have hbw := hk.size
  go_upto_region 34 with (go_at_call 119; (with_reducible refine (r_plus _ _ _ _ _ (by omega) (by omega) (by omega) (by omega)).mono ?_); rintro e w3 ⟨rfl, hb3⟩; have z3 := r3.keep hb3; have z3c0 := z3.cell 0; have z3f0 := z3.free 0; have z3c1 := z3.cell 1; have z3f1 := z3.free 1; have z3c2 := z3.cell 2; have z3f2 := z3.free 2; have z3c3 := z3.cell 3; have z3f3 := z3.free 3; have z3c4 := z3.cell 4; have z3f4 := z3.free 4; have z3c5 := z3.cell 5; have z3f5 := z3.free 5; have z3c6 := z3.cell 6; have z3f6 := z3.free 6; have z3c7 := z3.cell 7; have z3f7 := z3.free 7; have z3c8 := z3.cell 8; have z3f8 := z3.free 8; have z3c9 := z3.cell 9; have z3f9 := z3.free 9; have z3l := z3.lt; simp at z3c0 z3c1 z3c2 z3c3 z3c4 z3c5 z3c6 z3c7 z3c8 z3c9)
  clear b1c0 b1f0 b1c1 b1f1 b1c2 b1f2 b1c3 b1f3 b1l r3c0 r3f0 r3c1 r3f1 r3c2 r3f2 r3c3 r3f3 r3c4 r3f4 r3c5 r3f5 r3c6 r3f6 r3c7 r3f7 r3c8 r3f8 r3c9 r3f9 r3l r8c0 r8f0 r8c1 r8f1 r8l z3c0 z3f0 z3c1 z3f1 z3c2 z3f2 z3c3 z3f3 z3c4 z3f4 z3c5 z3f5 z3c6 z3f6 z3c7 z3f7 z3c8 z3f8 z3c9 z3f9 z3l
  have n2 := b2.keep hb3
  have hm3 := hm.keep hb3
  have hne := hm3.ne z3 (by decide)
  have hk3 := Kept.drop hk hb3
  refine at_world (S := fun Z => Blk Z (w.heap.size + 1 + 1) #[.slice none 0 0, .int .i64 0, .int .i64 0, .int .i64 0, .int .i64 0, .int .i64 0, .int .i64 0, .int .i64 0, .int .i64 0, .int .i64 0] 63 ∧ Blk Z s #[.slice (some ⟨g, 0, none⟩) p.cells.length cp, .int .i64 (Q.bottles), .int .i64 (Q.inH), .int .i64 (Q.inA), .int .i64 (Q.vH), .int .i64 (Q.vA), .int .i64 (Q.lH), .int .i64 (Q.lA), .int .i64 (Q.pH), .int .i64 (Q.pA)] 63 ∧ Mine 25 w.heap.size Z (.slice (some ⟨g, 0, none⟩) p.cells.length cp) Q.cells ∧ Kept w Z) ⟨by (exact blkc), ((z3.set 4 _).set 5 _).cast (by rw [HQ.out]; simp [valveP, lessP, HAT.out, HSS.out]), by rw [hqc]; exact ((hm3.off hne _).off hne _), by (exact kpt)⟩ ?_
  clear b1 b2 r3 hm hk n2 z3 hm3 hne hk3 hb3 r8
  rintro Z ⟨b2, r3, hm, hk⟩
  cases hpq : plantB Q
  · have HPQ := Lib.hid hpq
    have r3c0 := r3.cell 0
    have r3f0 := r3.free 0
    have r3c1 := r3.cell 1
    have r3f1 := r3.free 1
    have r3c2 := r3.cell 2
    have r3f2 := r3.free 2
    have r3c3 := r3.cell 3
    have r3f3 := r3.free 3
    have r3c4 := r3.cell 4
    have r3f4 := r3.free 4
    have r3c5 := r3.cell 5
    have r3f5 := r3.free 5
    have r3c6 := r3.cell 6
    have r3f6 := r3.free 6
    have r3c7 := r3.cell 7
    have r3f7 := r3.free 7
    have r3c8 := r3.cell 8
    have r3f8 := r3.free 8
    have r3c9 := r3.cell 9
    have r3f9 := r3.free 9
    have r3l := r3.lt
    simp at r3c0 r3c1 r3c2 r3c3 r3c4 r3c5 r3c6 r3c7 r3c8 r3c9
    go_upto_region 35 with (go_at_call 115; (with_reducible refine (r_PlantK hm).mono ?_); rw [HPQ.out]; rintro e w4 ⟨rfl, hb4⟩)
    clear r3c0 r3f0 r3c1 r3f1 r3c2 r3f2 r3c3 r3f3 r3c4 r3f4 r3c5 r3f5 r3c6 r3f6 r3c7 r3f7 r3c8 r3f8 r3c9 r3f9 r3l
    refine at_world (S := fun U => Blk U (w.heap.size + 1 + 1) #[.slice none 0 0, .int .i64 0, .int .i64 0, .int .i64 0, .int .i64 0, .int .i64 0, .int .i64 0, .int .i64 0, .int .i64 0, .int .i64 0] 63 ∧ Blk U s #[.slice (some ⟨g, 0, none⟩) p.cells.length cp, .int .i64 (Q.bottles), .int .i64 (Q.inH), .int .i64 (Q.inA), .int .i64 (Q.vH), .int .i64 (Q.vA), .int .i64 (Q.lH), .int .i64 (Q.lA), .int .i64 (Q.pH), .int .i64 (Q.pA)] 63 ∧ Mine 25 w.heap.size U (.slice (some ⟨g, 0, none⟩) p.cells.length cp) Q.cells ∧ Kept w U) ⟨b2.keep hb4, r3.keep hb4, hm.keep hb4, Kept.drop hk hb4⟩ ?_
    clear b2 r3 hm hk hb4
    rintro U ⟨b2, r3, hm, hk⟩
    have b2c0 := b2.cell 0
    have b2f0 := b2.free 0
    have b2c1 := b2.cell 1
    have b2f1 := b2.free 1
    have b2c2 := b2.cell 2
    have b2f2 := b2.free 2
    have b2c3 := b2.cell 3
    have b2f3 := b2.free 3
    have b2c4 := b2.cell 4
    have b2f4 := b2.free 4
    have b2c5 := b2.cell 5
    have b2f5 := b2.free 5
    have b2c6 := b2.cell 6
    have b2f6 := b2.free 6
    have b2c7 := b2.cell 7
    have b2f7 := b2.free 7
    have b2c8 := b2.cell 8
    have b2f8 := b2.free 8
    have b2c9 := b2.cell 9
    have b2f9 := b2.free 9
    have b2l := b2.lt
    simp at b2c0 b2c1 b2c2 b2c3 b2c4 b2c5 b2c6 b2c7 b2c8 b2c9
    have r3c0 := r3.cell 0
    have r3f0 := r3.free 0
    have r3c1 := r3.cell 1
    have r3f1 := r3.free 1
    have r3c2 := r3.cell 2
    have r3f2 := r3.free 2
    have r3c3 := r3.cell 3
    have r3f3 := r3.free 3
    have r3c4 := r3.cell 4
    have r3f4 := r3.free 4
    have r3c5 := r3.cell 5
    have r3f5 := r3.free 5
    have r3c6 := r3.cell 6
    have r3f6 := r3.free 6
    have r3c7 := r3.cell 7
    have r3f7 := r3.free 7
    have r3c8 := r3.cell 8
    have r3f8 := r3.free 8
    have r3c9 := r3.cell 9
    have r3f9 := r3.free 9
    have r3l := r3.lt
    simp at r3c0 r3c1 r3c2 r3c3 r3c4 r3c5 r3c6 r3c7 r3c8 r3c9
    go_wp2
    refine bodyPost_ret (v := .tuple #[.agg #[.slice none 0 0, .int .i64 0, .int .i64 0, .int .i64 0, .int .i64 0, .int .i64 0, .int .i64 0, .int .i64 0, .int .i64 0, .int .i64 0], .int .i64 9]) (by simp [results, Try.results49, go_sem, b2c0, b2f0, b2c1, b2f1, b2c2, b2f2, b2c3, b2f3, b2c4, b2f4, b2c5, b2f5, b2c6, b2f6, b2c7, b2f7, b2c8, b2f8, b2c9, b2f9, r3c0, r3f0, r3c1, r3f1, r3c2, r3f2, r3c3, r3f3, r3c4, r3f4, r3c5, r3f5, r3c6, r3f6, r3c7, r3f7, r3c8, r3f8, r3c9, r3f9]) rfl ⟨.slice none 0 0, ?_, ?_, ?_⟩
    · simp [endQ, endE, HPQ.out, noPlant]
    · rw [show endQ Q = noPlant by simp [endQ, HPQ.out]]
      exact Mine.zero
    · (exact kpt)
  · have HPQ := Lib.hid hpq
    have r3c0 := r3.cell 0
    have r3f0 := r3.free 0
    have r3c1 := r3.cell 1
    have r3f1 := r3.free 1
    have r3c2 := r3.cell 2
    have r3f2 := r3.free 2
    have r3c3 := r3.cell 3
    have r3f3 := r3.free 3
    have r3c4 := r3.cell 4
    have r3f4 := r3.free 4
    have r3c5 := r3.cell 5
    have r3f5 := r3.free 5
    have r3c6 := r3.cell 6
    have r3f6 := r3.free 6
    have r3c7 := r3.cell 7
    have r3f7 := r3.free 7
    have r3c8 := r3.cell 8
    have r3f8 := r3.free 8
    have r3c9 := r3.cell 9
    have r3f9 := r3.free 9
    have r3l := r3.lt
    simp at r3c0 r3c1 r3c2 r3c3 r3c4 r3c5 r3c6 r3c7 r3c8 r3c9
    go_upto_region 36 with (go_at_call 115; (with_reducible refine (r_PlantK hm).mono ?_); rw [HPQ.out]; rintro e w4 ⟨rfl, hb4⟩)
    clear r3c0 r3f0 r3c1 r3f1 r3c2 r3f2 r3c3 r3f3 r3c4 r3f4 r3c5 r3f5 r3c6 r3f6 r3c7 r3f7 r3c8 r3f8 r3c9 r3f9 r3l
    refine at_world (S := fun U => Blk U (w.heap.size + 1 + 1) #[.slice none 0 0, .int .i64 0, .int .i64 0, .int .i64 0, .int .i64 0, .int .i64 0, .int .i64 0, .int .i64 0, .int .i64 0, .int .i64 0] 63 ∧ Blk U s #[.slice (some ⟨g, 0, none⟩) p.cells.length cp, .int .i64 (Q.bottles), .int .i64 (Q.inH), .int .i64 (Q.inA), .int .i64 (Q.vH), .int .i64 (Q.vA), .int .i64 (Q.lH), .int .i64 (Q.lA), .int .i64 (Q.pH), .int .i64 (Q.pA)] 63 ∧ Mine 25 w.heap.size U (.slice (some ⟨g, 0, none⟩) p.cells.length cp) Q.cells ∧ Kept w U) ⟨b2.keep hb4, r3.keep hb4, hm.keep hb4, Kept.drop hk hb4⟩ ?_
    clear b2 r3 hm hk hb4
    rintro U ⟨b2, r3, hm, hk⟩
    have b2c0 := b2.cell 0
    have b2f0 := b2.free 0
    have b2c1 := b2.cell 1
    have b2f1 := b2.free 1
    have b2c2 := b2.cell 2
    have b2f2 := b2.free 2
    have b2c3 := b2.cell 3
    have b2f3 := b2.free 3
    have b2c4 := b2.cell 4
    have b2f4 := b2.free 4
    have b2c5 := b2.cell 5
    have b2f5 := b2.free 5
    have b2c6 := b2.cell 6
    have b2f6 := b2.free 6
    have b2c7 := b2.cell 7
    have b2f7 := b2.free 7
    have b2c8 := b2.cell 8
    have b2f8 := b2.free 8
    have b2c9 := b2.cell 9
    have b2f9 := b2.free 9
    have b2l := b2.lt
    simp at b2c0 b2c1 b2c2 b2c3 b2c4 b2c5 b2c6 b2c7 b2c8 b2c9
    have r3c0 := r3.cell 0
    have r3f0 := r3.free 0
    have r3c1 := r3.cell 1
    have r3f1 := r3.free 1
    have r3c2 := r3.cell 2
    have r3f2 := r3.free 2
    have r3c3 := r3.cell 3
    have r3f3 := r3.free 3
    have r3c4 := r3.cell 4
    have r3f4 := r3.free 4
    have r3c5 := r3.cell 5
    have r3f5 := r3.free 5
    have r3c6 := r3.cell 6
    have r3f6 := r3.free 6
    have r3c7 := r3.cell 7
    have r3f7 := r3.free 7
    have r3c8 := r3.cell 8
    have r3f8 := r3.free 8
    have r3c9 := r3.cell 9
    have r3f9 := r3.free 9
    have r3l := r3.lt
    simp at r3c0 r3c1 r3c2 r3c3 r3c4 r3c5 r3c6 r3c7 r3c8 r3c9
    go_wp2
    refine bodyPost_ret (v := .tuple #[.agg #[.slice (some ⟨g, 0, none⟩) p.cells.length cp, .int .i64 (Q.bottles), .int .i64 (Q.inH), .int .i64 (Q.inA), .int .i64 (Q.vH), .int .i64 (Q.vA), .int .i64 (Q.lH), .int .i64 (Q.lA), .int .i64 (Q.pH), .int .i64 (Q.pA)], .int .i64 0]) (by simp [results, Try.results49, go_sem, b2c0, b2f0, b2c1, b2f1, b2c2, b2f2, b2c3, b2f3, b2c4, b2f4, b2c5, b2f5, b2c6, b2f6, b2c7, b2f7, b2c8, b2f8, b2c9, b2f9, r3c0, r3f0, r3c1, r3f1, r3c2, r3f2, r3c3, r3f3, r3c4, r3f4, r3c5, r3f5, r3c6, r3f6, r3c7, r3f7, r3c8, r3f8, r3c9, r3f9]) rfl ⟨.slice (some ⟨g, 0, none⟩) p.cells.length cp, ?_, ?_, ?_⟩
    · simp [endQ, endE, HPQ.out, noPlant]
    · rw [show endQ Q = Q by simp [endQ, HPQ.out]]
      have hne := hm.ne b2 (by decide)
      (repeat (with_reducible refine Mine.off ?_ (by with_reducible assumption) _))
      exact hm
    · (exact kpt)

theorem r_Do_5 (p : Plant) (d : Deed) (a : Option Addr) (cap : Nat) (w : World) (hx : Row Cell.cells 7 w.heap.size w a p.cells) (hc : p.cells.length ≤ cap) (hM : cap ≤ maxLen) (hz : a = none → cap = 0) (hp : plantB p = true) (hs : sizedE p d = 0) (hkk : d.kind = 5) (hn : 1 ≤ d.n ∧ d.n ≤ 10000000) (hcl : inB d.cell 0 (p.cells.length - 1) = true) (hl : ¬ amount (at_ p d) < d.n) : Calls Try.prog 49 #[.agg #[.slice a p.cells.length cap, .int .i64 p.bottles, .int .i64 p.inH, .int .i64 p.inA, .int .i64 p.vH, .int .i64 p.vA, .int .i64 p.lH, .int .i64 p.lA, .int .i64 p.pH, .int .i64 p.pA], .agg #[.int .u8 d.kind, .int .i64 d.cell, .int .i64 d.to, .int .i64 d.n]] w fun e w' => ∃ v, e = .returned (.tuple #[.agg #[v, .int .i64 (endQ (purifyP p d)).bottles, .int .i64 (endQ (purifyP p d)).inH, .int .i64 (endQ (purifyP p d)).inA, .int .i64 (endQ (purifyP p d)).vH, .int .i64 (endQ (purifyP p d)).vA, .int .i64 (endQ (purifyP p d)).lH, .int .i64 (endQ (purifyP p d)).lA, .int .i64 (endQ (purifyP p d)).pH, .int .i64 (endQ (purifyP p d)).pA], .int .i64 (endE (purifyP p d))]) ∧ Mine 25 w.heap.size w' v ((endQ (purifyP p d))).cells ∧ Kept w w' := by
  have e1 : (d.kind == 1) = false := by simp; omega
  have g1 : decide (d.kind = 1) = false := by simp; omega
  have e2 : (d.kind == 2) = false := by simp; omega
  have g2 : decide (d.kind = 2) = false := by simp; omega
  have e3 : (d.kind == 3) = false := by simp; omega
  have g3 : decide (d.kind = 3) = false := by simp; omega
  have e4 : (d.kind == 4) = false := by simp; omega
  have g4 : decide (d.kind = 4) = false := by simp; omega
  have e5 : (d.kind == 5) = true := by simp; omega
  have g5 : decide (d.kind = 5) = true := by simp; omega
  have e6 : (d.kind == 6) = false := by simp; omega
  have g6 : decide (d.kind = 6) = false := by simp; omega
  have hkm : mixedB d.kind = true := by simp [mixedB, hkk]
  have HMX := fun (W : World) => r_mixedK d.kind true hkm W
  have HMW := fun (W : World) => r_mixedW d.kind true hkm W
  clear hkk hkm
  obtain ⟨Q, hQ⟩ : ∃ Q, Q = purifyP p d := ⟨_, rfl⟩
  have HQ := Lib.hid hQ
  rw [← hQ]
  clear hQ
  have HP := Lib.hid hp
  have HS := Lib.hid hs
  have hn12 : p.cells.length ≤ 12 := (plantB_iff.1 hp).1
  have hb := plantB_iff.1 hp
  have hi : d.cell.toNat < p.cells.length := by
    have h1 : 0 ≤ d.cell ∧ d.cell ≤ p.cells.length - 1 := by simpa [inB] using hcl
    omega
  have hd0 : 0 ≤ d.cell ∧ d.cell < p.cells.length := by
    have h1 : 0 ≤ d.cell ∧ d.cell ≤ p.cells.length - 1 := by simpa [inB] using hcl
    omega
  have hcv : cellB p.cells[d.cell.toNat] = true := hb.2.2.2.2.2.2.1 _ (List.getElem_mem hi)
  have hat : at_ p d = p.cells[d.cell.toNat] := cellAt_get hi
  clear hp hs
  go_enter Try.func49, Try.ntmps49
  go_upto_region 3 with (go_at_call 115; (with_reducible refine (r_Plant p a cap _ (hx.later (by (exact kpt)) (Nat.le_refl _)) hc hM).mono ?_); rw [HP.out]; rintro e w1 ⟨rfl, hb1⟩; refine Blk.thru (b := w.heap.size) (arr := ?_) (t := ?_) ?_ hb1 ?_; rotate_left 2; (focus (exact blk)); intro rr; have rrc0 := rr.cell 0; have rrf0 := rr.free 0; have rrc1 := rr.cell 1; have rrf1 := rr.free 1; have rrc2 := rr.cell 2; have rrf2 := rr.free 2; have rrc3 := rr.cell 3; have rrf3 := rr.free 3; have rrc4 := rr.cell 4; have rrf4 := rr.free 4; have rrc5 := rr.cell 5; have rrf5 := rr.free 5; have rrc6 := rr.cell 6; have rrf6 := rr.free 6; have rrc7 := rr.cell 7; have rrf7 := rr.free 7; have rrc8 := rr.cell 8; have rrf8 := rr.free 8; have rrc9 := rr.cell 9; have rrf9 := rr.free 9; have rrl := rr.lt; simp at rrc0 rrc1 rrc2 rrc3 rrc4 rrc5 rrc6 rrc7 rrc8 rrc9; refine Blk.thru (b := (w.heap.size + 1)) (arr := ?_) (t := ?_) ?_ hb1 ?_; rotate_left 2; (focus (exact blk)); intro rq; have rqc0 := rq.cell 0; have rqf0 := rq.free 0; have rqc1 := rq.cell 1; have rqf1 := rq.free 1; have rqc2 := rq.cell 2; have rqf2 := rq.free 2; have rqc3 := rq.cell 3; have rqf3 := rq.free 3; have rql := rq.lt; simp at rqc0 rqc1 rqc2 rqc3)
  refine at_world (S := fun W => Blk W w.heap.size #[.slice a p.cells.length cap, .int .i64 p.bottles, .int .i64 p.inH, .int .i64 p.inA, .int .i64 p.vH, .int .i64 p.vA, .int .i64 p.lH, .int .i64 p.lA, .int .i64 p.pH, .int .i64 p.pA] 63 ∧ Blk W (w.heap.size + 1) #[.int .u8 d.kind, .int .i64 d.cell, .int .i64 d.to, .int .i64 d.n] 65 ∧ Blk W (w.heap.size + 1 + 1) #[.slice none 0 0, .int .i64 0, .int .i64 0, .int .i64 0, .int .i64 0, .int .i64 0, .int .i64 0, .int .i64 0, .int .i64 0, .int .i64 0] 63 ∧ Kept w W) ⟨by (exact blkc), by (exact blkc), by (exact blkc), by (exact kpt)⟩ ?_
  rintro W ⟨b0, b1, b2, hk⟩
  have b0c0 := b0.cell 0
  have b0f0 := b0.free 0
  have b0c1 := b0.cell 1
  have b0f1 := b0.free 1
  have b0c2 := b0.cell 2
  have b0f2 := b0.free 2
  have b0c3 := b0.cell 3
  have b0f3 := b0.free 3
  have b0c4 := b0.cell 4
  have b0f4 := b0.free 4
  have b0c5 := b0.cell 5
  have b0f5 := b0.free 5
  have b0c6 := b0.cell 6
  have b0f6 := b0.free 6
  have b0c7 := b0.cell 7
  have b0f7 := b0.free 7
  have b0c8 := b0.cell 8
  have b0f8 := b0.free 8
  have b0c9 := b0.cell 9
  have b0f9 := b0.free 9
  have b0l := b0.lt
  simp at b0c0 b0c1 b0c2 b0c3 b0c4 b0c5 b0c6 b0c7 b0c8 b0c9
  have b1c0 := b1.cell 0
  have b1f0 := b1.free 0
  have b1c1 := b1.cell 1
  have b1f1 := b1.free 1
  have b1c2 := b1.cell 2
  have b1f2 := b1.free 2
  have b1c3 := b1.cell 3
  have b1f3 := b1.free 3
  have b1l := b1.lt
  simp at b1c0 b1c1 b1c2 b1c3
  have b2c0 := b2.cell 0
  have b2f0 := b2.free 0
  have b2c1 := b2.cell 1
  have b2f1 := b2.free 1
  have b2c2 := b2.cell 2
  have b2f2 := b2.free 2
  have b2c3 := b2.cell 3
  have b2f3 := b2.free 3
  have b2c4 := b2.cell 4
  have b2f4 := b2.free 4
  have b2c5 := b2.cell 5
  have b2f5 := b2.free 5
  have b2c6 := b2.cell 6
  have b2f6 := b2.free 6
  have b2c7 := b2.cell 7
  have b2f7 := b2.free 7
  have b2c8 := b2.cell 8
  have b2f8 := b2.free 8
  have b2c9 := b2.cell 9
  have b2f9 := b2.free 9
  have b2l := b2.lt
  simp at b2c0 b2c1 b2c2 b2c3 b2c4 b2c5 b2c6 b2c7 b2c8 b2c9
  go_upto_region 6 with (go_at_call 116; (with_reducible refine (r_sized p d a cap _ hc hM).mono ?_); rw [HS.out]; rintro e w1 ⟨rfl, hb1⟩)
  clear b0c0 b0f0 b0c1 b0f1 b0c2 b0f2 b0c3 b0f3 b0c4 b0f4 b0c5 b0f5 b0c6 b0f6 b0c7 b0f7 b0c8 b0f8 b0c9 b0f9 b0l b1c0 b1f0 b1c1 b1f1 b1c2 b1f2 b1c3 b1f3 b1l b2c0 b2f0 b2c1 b2f1 b2c2 b2f2 b2c3 b2f3 b2c4 b2f4 b2c5 b2f5 b2c6 b2f6 b2c7 b2f7 b2c8 b2f8 b2c9 b2f9 b2l
  refine at_world (S := fun X => Blk X w.heap.size #[.slice a p.cells.length cap, .int .i64 p.bottles, .int .i64 p.inH, .int .i64 p.inA, .int .i64 p.vH, .int .i64 p.vA, .int .i64 p.lH, .int .i64 p.lA, .int .i64 p.pH, .int .i64 p.pA] 63 ∧ Blk X (w.heap.size + 1) #[.int .u8 d.kind, .int .i64 d.cell, .int .i64 d.to, .int .i64 d.n] 65 ∧ Blk X (w.heap.size + 1 + 1) #[.slice none 0 0, .int .i64 0, .int .i64 0, .int .i64 0, .int .i64 0, .int .i64 0, .int .i64 0, .int .i64 0, .int .i64 0, .int .i64 0] 63 ∧ Kept w X) ⟨by (exact blkc), by (exact blkc), by (exact blkc), by (exact kpt)⟩ ?_
  clear b0 b1 b2 hk
  rintro X ⟨b0, b1, b2, hk⟩
  have b0c0 := b0.cell 0
  have b0f0 := b0.free 0
  have b0c1 := b0.cell 1
  have b0f1 := b0.free 1
  have b0c2 := b0.cell 2
  have b0f2 := b0.free 2
  have b0c3 := b0.cell 3
  have b0f3 := b0.free 3
  have b0c4 := b0.cell 4
  have b0f4 := b0.free 4
  have b0c5 := b0.cell 5
  have b0f5 := b0.free 5
  have b0c6 := b0.cell 6
  have b0f6 := b0.free 6
  have b0c7 := b0.cell 7
  have b0f7 := b0.free 7
  have b0c8 := b0.cell 8
  have b0f8 := b0.free 8
  have b0c9 := b0.cell 9
  have b0f9 := b0.free 9
  have b0l := b0.lt
  simp at b0c0 b0c1 b0c2 b0c3 b0c4 b0c5 b0c6 b0c7 b0c8 b0c9
  have b1c0 := b1.cell 0
  have b1f0 := b1.free 0
  have b1c1 := b1.cell 1
  have b1f1 := b1.free 1
  have b1c2 := b1.cell 2
  have b1f2 := b1.free 2
  have b1c3 := b1.cell 3
  have b1f3 := b1.free 3
  have b1l := b1.lt
  simp at b1c0 b1c1 b1c2 b1c3
  have b2c0 := b2.cell 0
  have b2f0 := b2.free 0
  have b2c1 := b2.cell 1
  have b2f1 := b2.free 1
  have b2c2 := b2.cell 2
  have b2f2 := b2.free 2
  have b2c3 := b2.cell 3
  have b2f3 := b2.free 3
  have b2c4 := b2.cell 4
  have b2f4 := b2.free 4
  have b2c5 := b2.cell 5
  have b2f5 := b2.free 5
  have b2c6 := b2.cell 6
  have b2f6 := b2.free 6
  have b2c7 := b2.cell 7
  have b2f7 := b2.free 7
  have b2c8 := b2.cell 8
  have b2f8 := b2.free 8
  have b2c9 := b2.cell 9
  have b2f9 := b2.free 9
  have b2l := b2.lt
  simp at b2c0 b2c1 b2c2 b2c3 b2c4 b2c5 b2c6 b2c7 b2c8 b2c9
  go_upto_region 7 with (go_at_call 47; (with_reducible refine (r_Twin p a cap _ (hx.later (by (exact kpt)) (Nat.le_refl _)) (by omega) hz).mono ?_); rintro e w1 ⟨ad, cp, rfl, hm1, hb1⟩)
  have b1k := b1.keep hb1
  have b2k := b2.keep hb1
  have hsz := b2k.lt
  have hm2 := hm1.base (C := w.heap.size) hk.size
  have hk2 := hk.trans (hb1.mono hk.size)
  refine at_world (S := fun Y => Blk Y (w.heap.size + 1) #[.int .u8 d.kind, .int .i64 d.cell, .int .i64 d.to, .int .i64 d.n] 65 ∧ Blk Y (w.heap.size + 1 + 1) #[.slice none 0 0, .int .i64 0, .int .i64 0, .int .i64 0, .int .i64 0, .int .i64 0, .int .i64 0, .int .i64 0, .int .i64 0, .int .i64 0] 63 ∧ Blk Y w1.heap.size #[.slice ad p.cells.length cp, .int .i64 (p.bottles), .int .i64 (p.inH), .int .i64 (p.inA), .int .i64 (p.vH), .int .i64 (p.vA), .int .i64 (p.lH), .int .i64 (p.lA), .int .i64 (p.pH), .int .i64 (p.pA)] 63 ∧ Mine 25 w.heap.size Y (.slice ad p.cells.length cp) p.cells ∧ Kept w Y ∧ w.heap.size + 1 + 1 < w1.heap.size) ⟨by (exact blkc), by (exact blkc), by (exact blkc), by exact (by have hnp := mine_past hm2 (Nat.le_refl _); (repeat (with_reducible refine Mine.off ?_ hnp _)); exact hm2.alloc _), by (exact kpt), hsz⟩ ?_
  clear b0c0 b0f0 b0c1 b0f1 b0c2 b0f2 b0c3 b0f3 b0c4 b0f4 b0c5 b0f5 b0c6 b0f6 b0c7 b0f7 b0c8 b0f8 b0c9 b0f9 b0l b1c0 b1f0 b1c1 b1f1 b1c2 b1f2 b1c3 b1f3 b1l b2c0 b2f0 b2c1 b2f1 b2c2 b2f2 b2c3 b2f3 b2c4 b2f4 b2c5 b2f5 b2c6 b2f6 b2c7 b2f7 b2c8 b2f8 b2c9 b2f9 b2l b0 b1 b2 hk b1k b2k hm2 hk2 hm1 hb1 hsz
  rintro Y ⟨b1, b2, r3, hm, hk, hs⟩
  generalize w1.heap.size = s at hs r3 ⊢
  obtain ⟨x, hx⟩ : ∃ x, x = p.cells[d.cell.toNat] := ⟨_, rfl⟩
  have HX := Lib.hid (show p.cells[d.cell.toNat]? = some x by rw [hx]; simp [hi])
  have HXX := Lib.hid hx
  rw [← hx] at hcv hat
  have HAT := Lib.hid hat
  have HCV := Lib.hid hcv
  have hxb := cellB_iff.1 hcv
  obtain ⟨g, cur, rfl, hBg, hcur, c0, c1, c2, c3, c4, c5, c6⟩ := hm.at hi
  rw [← hx] at c0 c1 c2 c3 c4 c5 c6
  clear hx hat hcv
  have HAC := fun (W : World) => r_amount x W HCV.out
  obtain ⟨AM, hAM⟩ : ∃ y, y = amount x := ⟨_, rfl⟩
  have HAM := Lib.hid (show amount x = AM from hAM.symm)
  rw [← hAM] at HAC
  clear hAM
  have hle : d.n ≤ x.helium + x.air := by
    have h1 : amount x = x.helium + x.air := rfl
    rw [HAT.out] at hl
    omega
  have hlt : decide (AM < d.n) = false := by rw [← HAM.out, ← HAT.out]; simpa using hl
  clear hl
  obtain ⟨_, ⟨hb0, hb01⟩, _, _, _, ⟨⟨hb1, hb2⟩, hb3, hb4⟩, _⟩ := hb
  obtain ⟨s0, s1, s2, s3⟩ := share_bd (okC_of HCV.out) (show 0 ≤ d.n by omega) hle
  obtain ⟨S, hS⟩ : ∃ S, S = shareH x d.n := ⟨_, rfl⟩
  have HSS := Lib.hid (show shareH x d.n = S from hS.symm)
  have HTA := fun (W : World) (h : Mine 25 w.heap.size W (.slice (some ⟨g, 0, none⟩) p.cells.length cp) p.cells) => r_taken h d.cell hd0.1 HX.out HCV.out hn12 d.n hn.1 hle
  rw [← hS] at s0 s1 s2 s3 HTA
  clear hS hle
  have b1c0 := fun g : Later Y => (b1.later g).cell 0
  have b1f0 := fun g : Later Y => (b1.later g).free 0
  have b1c1 := fun g : Later Y => (b1.later g).cell 1
  have b1f1 := fun g : Later Y => (b1.later g).free 1
  have b1c2 := fun g : Later Y => (b1.later g).cell 2
  have b1f2 := fun g : Later Y => (b1.later g).free 2
  have b1c3 := fun g : Later Y => (b1.later g).cell 3
  have b1f3 := fun g : Later Y => (b1.later g).free 3
  have b1l := fun g : Later Y => (b1.later g).lt
  simp at b1c0 b1c1 b1c2 b1c3
  have r3c0 := fun g : Later Y => (r3.later g).cell 0
  have r3f0 := fun g : Later Y => (r3.later g).free 0
  have r3c1 := fun g : Later Y => (r3.later g).cell 1
  have r3f1 := fun g : Later Y => (r3.later g).free 1
  have r3c2 := fun g : Later Y => (r3.later g).cell 2
  have r3f2 := fun g : Later Y => (r3.later g).free 2
  have r3c3 := fun g : Later Y => (r3.later g).cell 3
  have r3f3 := fun g : Later Y => (r3.later g).free 3
  have r3c4 := fun g : Later Y => (r3.later g).cell 4
  have r3f4 := fun g : Later Y => (r3.later g).free 4
  have r3c5 := fun g : Later Y => (r3.later g).cell 5
  have r3f5 := fun g : Later Y => (r3.later g).free 5
  have r3c6 := fun g : Later Y => (r3.later g).cell 6
  have r3f6 := fun g : Later Y => (r3.later g).free 6
  have r3c7 := fun g : Later Y => (r3.later g).cell 7
  have r3f7 := fun g : Later Y => (r3.later g).free 7
  have r3c8 := fun g : Later Y => (r3.later g).cell 8
  have r3f8 := fun g : Later Y => (r3.later g).free 8
  have r3c9 := fun g : Later Y => (r3.later g).cell 9
  have r3f9 := fun g : Later Y => (r3.later g).free 9
  have r3l := fun g : Later Y => (r3.later g).lt
  simp at r3c0 r3c1 r3c2 r3c3 r3c4 r3c5 r3c6 r3c7 r3c8 r3c9
  have y0 := fun q : Later Y => q.some c0
  have y1 := fun q : Later Y => q.some c1
  have y2 := fun q : Later Y => q.some c2
  have y3 := fun q : Later Y => q.some c3
  have y4 := fun q : Later Y => q.some c4
  have y5 := fun q : Later Y => q.some c5
  have y6 := fun q : Later Y => q.some c6
  clear c0 c1 c2 c3 c4 c5 c6
  refine Later.region (by kernel_rfl) (by kernel_rfl) ?_
  repeat (first | go_big_quiet_skip | (go_big_quiet_want; go_big_quiet_op; first | go_big_quiet_on | (apply Exists.intro; refine ⟨fun g => ?_, ?_⟩; (focus (first | (go_at_call 117; exact Later.call (HMX _)) | (go_at_call 85; exact Later.call (HAC _)))); go_big_quiet_on)))
  refine wpQuiet_nil ?_
  intro gg
  clear b1c0 b1f0 b1c1 b1f1 b1c2 b1f2 b1c3 b1f3 b1l r3c0 r3f0 r3c1 r3f1 r3c2 r3f2 r3c3 r3f3 r3c4 r3f4 r3c5 r3f5 r3c6 r3f6 r3c7 r3f7 r3c8 r3f8 r3c9 r3f9 r3l y0 y1 y2 y3 y4 y5 y6
  have z1 := b1.later gg
  have z2 := b2.later gg
  have z3 := r3.later gg
  have hmg := hm.keep gg.ok
  have hkg := Kept.drop hk gg.ok
  have hne := hmg.ne z3 (by decide)
  have z1c0 := z1.cell 0
  have z1f0 := z1.free 0
  have z1c1 := z1.cell 1
  have z1f1 := z1.free 1
  have z1c2 := z1.cell 2
  have z1f2 := z1.free 2
  have z1c3 := z1.cell 3
  have z1f3 := z1.free 3
  have z1l := z1.lt
  simp at z1c0 z1c1 z1c2 z1c3
  have z3c0 := z3.cell 0
  have z3f0 := z3.free 0
  have z3c1 := z3.cell 1
  have z3f1 := z3.free 1
  have z3c2 := z3.cell 2
  have z3f2 := z3.free 2
  have z3c3 := z3.cell 3
  have z3f3 := z3.free 3
  have z3c4 := z3.cell 4
  have z3f4 := z3.free 4
  have z3c5 := z3.cell 5
  have z3f5 := z3.free 5
  have z3c6 := z3.cell 6
  have z3f6 := z3.free 6
  have z3c7 := z3.cell 7
  have z3f7 := z3.free 7
  have z3c8 := z3.cell 8
  have z3f8 := z3.free 8
  have z3c9 := z3.cell 9
  have z3f9 := z3.free 9
  have z3l := z3.lt
  simp at z3c0 z3c1 z3c2 z3c3 z3c4 z3c5 z3c6 z3c7 z3c8 z3c9
  go_upto_region 11 with (go_at_call 117; (with_reducible refine (HMW _).mono ?_); rintro e w9 ⟨rfl, rfl⟩)
  refine at_world (S := fun V => Blk V (w.heap.size + 1) #[.int .u8 d.kind, .int .i64 d.cell, .int .i64 d.to, .int .i64 d.n] 65 ∧ Blk V (w.heap.size + 1 + 1) #[.slice none 0 0, .int .i64 0, .int .i64 0, .int .i64 0, .int .i64 0, .int .i64 0, .int .i64 0, .int .i64 0, .int .i64 0, .int .i64 0] 63 ∧ Blk V s #[.slice (some ⟨g, 0, none⟩) p.cells.length cp, .int .i64 (p.bottles), .int .i64 (p.inH), .int .i64 (p.inA), .int .i64 (p.vH), .int .i64 (p.vA), .int .i64 (p.lH), .int .i64 (p.lA), .int .i64 (p.pH), .int .i64 (p.pA)] 63 ∧ Mine 25 w.heap.size V (.slice (some ⟨g, 0, none⟩) p.cells.length cp) p.cells ∧ Kept w V ∧ Blk V gg.val.heap.size #[.int .i64 0, .int .i64 0] 61 ∧ s < gg.val.heap.size) ⟨z1.alloc _, z2.alloc _, z3.alloc _, hmg.alloc _, by (exact kpt), by (exact blkc), z3.lt⟩ ?_
  clear hne b1 b2 r3 hm hk hcur z1 z2 z3 hmg hkg z1c0 z1f0 z1c1 z1f1 z1c2 z1f2 z1c3 z1f3 z1l z3c0 z3f0 z3c1 z3f1 z3c2 z3f2 z3c3 z3f3 z3c4 z3f4 z3c5 z3f5 z3c6 z3f6 z3c7 z3f7 z3c8 z3f8 z3c9 z3f9 z3l
  rintro V ⟨b1, b2, r3, hm, hk, r8, hsm⟩
  generalize gg.val.heap.size = m at r8 hsm ⊢
  have b1c0 := b1.cell 0
  have b1f0 := b1.free 0
  have b1c1 := b1.cell 1
  have b1f1 := b1.free 1
  have b1c2 := b1.cell 2
  have b1f2 := b1.free 2
  have b1c3 := b1.cell 3
  have b1f3 := b1.free 3
  have b1l := b1.lt
  simp at b1c0 b1c1 b1c2 b1c3
  have r3c0 := r3.cell 0
  have r3f0 := r3.free 0
  have r3c1 := r3.cell 1
  have r3f1 := r3.free 1
  have r3c2 := r3.cell 2
  have r3f2 := r3.free 2
  have r3c3 := r3.cell 3
  have r3f3 := r3.free 3
  have r3c4 := r3.cell 4
  have r3f4 := r3.free 4
  have r3c5 := r3.cell 5
  have r3f5 := r3.free 5
  have r3c6 := r3.cell 6
  have r3f6 := r3.free 6
  have r3c7 := r3.cell 7
  have r3f7 := r3.free 7
  have r3c8 := r3.cell 8
  have r3f8 := r3.free 8
  have r3c9 := r3.cell 9
  have r3f9 := r3.free 9
  have r3l := r3.lt
  simp at r3c0 r3c1 r3c2 r3c3 r3c4 r3c5 r3c6 r3c7 r3c8 r3c9
  have r8c0 := r8.cell 0
  have r8f0 := r8.free 0
  have r8c1 := r8.cell 1
  have r8f1 := r8.free 1
  have r8l := r8.lt
  simp at r8c0 r8c1
  go_upto_region 12 with (go_at_call 118; (with_reducible refine (HTA _ hm).mono ?_); rintro e w2 ⟨rfl, hm2, hw2, hbes2⟩; have z8 := Besides.blk hbes2 (by decide) r8; have z8c0 := z8.cell 0; have z8f0 := z8.free 0; have z8c1 := z8.cell 1; have z8f1 := z8.free 1; have z8l := z8.lt; simp at z8c0 z8c1)
  clear b1c0 b1f0 b1c1 b1f1 b1c2 b1f2 b1c3 b1f3 b1l r3c0 r3f0 r3c1 r3f1 r3c2 r3f2 r3c3 r3f3 r3c4 r3f4 r3c5 r3f5 r3c6 r3f6 r3c7 r3f7 r3c8 r3f8 r3c9 r3f9 r3l r8c0 r8f0 r8c1 r8f1 r8l z8c0 z8f0 z8c1 z8f1 z8l
  have n1 := Besides.blk hbes2 (by decide) b1
  have n2 := Besides.blk hbes2 (by decide) b2
  have n3 := Besides.blk hbes2 (by decide) r3
  have hk2 : Kept w w2 := hk.trans hw2
  have hsm2 := hk.size
  refine at_world (S := fun T => Blk T (w.heap.size + 1) #[.int .u8 d.kind, .int .i64 d.cell, .int .i64 d.to, .int .i64 d.n] 65 ∧ Blk T (w.heap.size + 1 + 1) #[.slice none 0 0, .int .i64 0, .int .i64 0, .int .i64 0, .int .i64 0, .int .i64 0, .int .i64 0, .int .i64 0, .int .i64 0, .int .i64 0] 63 ∧ Blk T s #[.slice (some ⟨g, 0, none⟩) p.cells.length cp, .int .i64 (p.bottles), .int .i64 (p.inH), .int .i64 (p.inA), .int .i64 (p.vH), .int .i64 (p.vA), .int .i64 (p.lH), .int .i64 (p.lA), .int .i64 (p.pH), .int .i64 (p.pA)] 63 ∧ Mine 25 w.heap.size T (.slice (some ⟨g, 0, none⟩) p.cells.length cp) (p.cells.set d.cell.toNat (less x d.n)) ∧ Kept w T ∧ Blk T m #[.int .i64 S, .int .i64 (d.n - S)] 61) ⟨(n1.other (by simp; omega) _).other (by simp; omega) _, (n2.other (by simp; omega) _).other (by simp; omega) _, (n3.other (by simp; omega) _).other (by simp; omega) _, (hm2.other z8 (by decide) _).other (z8.set 0 _) (by decide) _, ((hk2.setCell (by show w.heap.size ≤ m; omega) _).setCell (by show w.heap.size ≤ m; omega) _), ((z8.set 0 _).set 1 _).cast (by simp)⟩ ?_
  clear b1 b2 r3 hm hk r8 z8 n1 n2 n3 hm2 hw2 hbes2 hk2 hsm2
  rintro T ⟨b1, b2, r3, hm, hk, r8⟩
  have b1c0 := b1.cell 0
  have b1f0 := b1.free 0
  have b1c1 := b1.cell 1
  have b1f1 := b1.free 1
  have b1c2 := b1.cell 2
  have b1f2 := b1.free 2
  have b1c3 := b1.cell 3
  have b1f3 := b1.free 3
  have b1l := b1.lt
  simp at b1c0 b1c1 b1c2 b1c3
  have r3c0 := r3.cell 0
  have r3f0 := r3.free 0
  have r3c1 := r3.cell 1
  have r3f1 := r3.free 1
  have r3c2 := r3.cell 2
  have r3f2 := r3.free 2
  have r3c3 := r3.cell 3
  have r3f3 := r3.free 3
  have r3c4 := r3.cell 4
  have r3f4 := r3.free 4
  have r3c5 := r3.cell 5
  have r3f5 := r3.free 5
  have r3c6 := r3.cell 6
  have r3f6 := r3.free 6
  have r3c7 := r3.cell 7
  have r3f7 := r3.free 7
  have r3c8 := r3.cell 8
  have r3f8 := r3.free 8
  have r3c9 := r3.cell 9
  have r3f9 := r3.free 9
  have r3l := r3.lt
  simp at r3c0 r3c1 r3c2 r3c3 r3c4 r3c5 r3c6 r3c7 r3c8 r3c9
  have r8c0 := r8.cell 0
  have r8f0 := r8.free 0
  have r8c1 := r8.cell 1
  have r8f1 := r8.free 1
  have r8l := r8.lt
  simp at r8c0 r8c1
  have hqc : Q.cells = (p.cells.set d.cell.toNat (less x d.n)) := by rw [HQ.out]; simp [purifyP, lessP, HAT.out]
  have L0 : 0 ≤ S / 50 ∧ S / 50 ≤ S := by omega
  have w1 := i64_inx (n := S - S / 50) (by omega)
  have w2 := i64_inx (n := p.bottles + (S - S / 50)) (by omega)
  have hne := hm.ne r3 (by decide)
  have hbw := hk.size
  go_upto_region 30 with fail
  clear b1c0 b1f0 b1c1 b1f1 b1c2 b1f2 b1c3 b1f3 b1l r3c0 r3f0 r3c1 r3f1 r3c2 r3f2 r3c3 r3f3 r3c4 r3f4 r3c5 r3f5 r3c6 r3f6 r3c7 r3f7 r3c8 r3f8 r3c9 r3f9 r3l r8c0 r8f0 r8c1 r8f1 r8l
  refine at_world (S := fun X => Blk X (w.heap.size + 1) #[.int .u8 d.kind, .int .i64 d.cell, .int .i64 d.to, .int .i64 d.n] 65 ∧ Blk X (w.heap.size + 1 + 1) #[.slice none 0 0, .int .i64 0, .int .i64 0, .int .i64 0, .int .i64 0, .int .i64 0, .int .i64 0, .int .i64 0, .int .i64 0, .int .i64 0] 63 ∧ Blk X s #[.slice (some ⟨g, 0, none⟩) p.cells.length cp, .int .i64 (p.bottles + (S - S / 50)), .int .i64 (p.inH), .int .i64 (p.inA), .int .i64 (p.vH), .int .i64 (p.vA), .int .i64 (p.lH), .int .i64 (p.lA), .int .i64 (p.pH), .int .i64 (p.pA)] 63 ∧ Mine 25 w.heap.size X (.slice (some ⟨g, 0, none⟩) p.cells.length cp) (p.cells.set d.cell.toNat (less x d.n)) ∧ Kept w X ∧ Blk X m #[.int .i64 S, .int .i64 (d.n - S)] 61) ⟨by (exact blkc), by (exact blkc), r3.set 1 _, hm.off hne _, by (exact kpt), r8.other (by simp; omega) _⟩ ?_
  clear b1 b2 r3 hm hk r8 hne hbw
  rintro X ⟨b1, b2, r3, hm, hk, r8⟩
  have b1c0 := b1.cell 0
  have b1f0 := b1.free 0
  have b1c1 := b1.cell 1
  have b1f1 := b1.free 1
  have b1c2 := b1.cell 2
  have b1f2 := b1.free 2
  have b1c3 := b1.cell 3
  have b1f3 := b1.free 3
  have b1l := b1.lt
  simp at b1c0 b1c1 b1c2 b1c3
  have r3c0 := r3.cell 0
  have r3f0 := r3.free 0
  have r3c1 := r3.cell 1
  have r3f1 := r3.free 1
  have r3c2 := r3.cell 2
  have r3f2 := r3.free 2
  have r3c3 := r3.cell 3
  have r3f3 := r3.free 3
  have r3c4 := r3.cell 4
  have r3f4 := r3.free 4
  have r3c5 := r3.cell 5
  have r3f5 := r3.free 5
  have r3c6 := r3.cell 6
  have r3f6 := r3.free 6
  have r3c7 := r3.cell 7
  have r3f7 := r3.free 7
  have r3c8 := r3.cell 8
  have r3f8 := r3.free 8
  have r3c9 := r3.cell 9
  have r3f9 := r3.free 9
  have r3l := r3.lt
  simp at r3c0 r3c1 r3c2 r3c3 r3c4 r3c5 r3c6 r3c7 r3c8 r3c9
  have r8c0 := r8.cell 0
  have r8f0 := r8.free 0
  have r8c1 := r8.cell 1
  have r8f1 := r8.free 1
  have r8l := r8.lt
  simp at r8c0 r8c1
  have hbw := hk.size
  go_upto_region 34 with (go_at_call 119; (with_reducible refine (r_plus _ _ _ _ _ (by omega) (by omega) (by omega) (by omega)).mono ?_); rintro e w3 ⟨rfl, hb3⟩; have z3 := r3.keep hb3; have z3c0 := z3.cell 0; have z3f0 := z3.free 0; have z3c1 := z3.cell 1; have z3f1 := z3.free 1; have z3c2 := z3.cell 2; have z3f2 := z3.free 2; have z3c3 := z3.cell 3; have z3f3 := z3.free 3; have z3c4 := z3.cell 4; have z3f4 := z3.free 4; have z3c5 := z3.cell 5; have z3f5 := z3.free 5; have z3c6 := z3.cell 6; have z3f6 := z3.free 6; have z3c7 := z3.cell 7; have z3f7 := z3.free 7; have z3c8 := z3.cell 8; have z3f8 := z3.free 8; have z3c9 := z3.cell 9; have z3f9 := z3.free 9; have z3l := z3.lt; simp at z3c0 z3c1 z3c2 z3c3 z3c4 z3c5 z3c6 z3c7 z3c8 z3c9)
  clear b1c0 b1f0 b1c1 b1f1 b1c2 b1f2 b1c3 b1f3 b1l r3c0 r3f0 r3c1 r3f1 r3c2 r3f2 r3c3 r3f3 r3c4 r3f4 r3c5 r3f5 r3c6 r3f6 r3c7 r3f7 r3c8 r3f8 r3c9 r3f9 r3l r8c0 r8f0 r8c1 r8f1 r8l z3c0 z3f0 z3c1 z3f1 z3c2 z3f2 z3c3 z3f3 z3c4 z3f4 z3c5 z3f5 z3c6 z3f6 z3c7 z3f7 z3c8 z3f8 z3c9 z3f9 z3l
  have n2 := b2.keep hb3
  have hm3 := hm.keep hb3
  have hne := hm3.ne z3 (by decide)
  have hk3 := Kept.drop hk hb3
  refine at_world (S := fun Z => Blk Z (w.heap.size + 1 + 1) #[.slice none 0 0, .int .i64 0, .int .i64 0, .int .i64 0, .int .i64 0, .int .i64 0, .int .i64 0, .int .i64 0, .int .i64 0, .int .i64 0] 63 ∧ Blk Z s #[.slice (some ⟨g, 0, none⟩) p.cells.length cp, .int .i64 (Q.bottles), .int .i64 (Q.inH), .int .i64 (Q.inA), .int .i64 (Q.vH), .int .i64 (Q.vA), .int .i64 (Q.lH), .int .i64 (Q.lA), .int .i64 (Q.pH), .int .i64 (Q.pA)] 63 ∧ Mine 25 w.heap.size Z (.slice (some ⟨g, 0, none⟩) p.cells.length cp) Q.cells ∧ Kept w Z) ⟨by (exact blkc), ((z3.set 8 _).set 9 _).cast (by rw [HQ.out]; simp [purifyP, lessP, HAT.out, HSS.out]), by rw [hqc]; exact ((hm3.off hne _).off hne _), by (exact kpt)⟩ ?_
  clear b1 b2 r3 hm hk n2 z3 hm3 hne hk3 hb3 r8
  rintro Z ⟨b2, r3, hm, hk⟩
  cases hpq : plantB Q
  · have HPQ := Lib.hid hpq
    have r3c0 := r3.cell 0
    have r3f0 := r3.free 0
    have r3c1 := r3.cell 1
    have r3f1 := r3.free 1
    have r3c2 := r3.cell 2
    have r3f2 := r3.free 2
    have r3c3 := r3.cell 3
    have r3f3 := r3.free 3
    have r3c4 := r3.cell 4
    have r3f4 := r3.free 4
    have r3c5 := r3.cell 5
    have r3f5 := r3.free 5
    have r3c6 := r3.cell 6
    have r3f6 := r3.free 6
    have r3c7 := r3.cell 7
    have r3f7 := r3.free 7
    have r3c8 := r3.cell 8
    have r3f8 := r3.free 8
    have r3c9 := r3.cell 9
    have r3f9 := r3.free 9
    have r3l := r3.lt
    simp at r3c0 r3c1 r3c2 r3c3 r3c4 r3c5 r3c6 r3c7 r3c8 r3c9
    go_upto_region 35 with (go_at_call 115; (with_reducible refine (r_PlantK hm).mono ?_); rw [HPQ.out]; rintro e w4 ⟨rfl, hb4⟩)
    clear r3c0 r3f0 r3c1 r3f1 r3c2 r3f2 r3c3 r3f3 r3c4 r3f4 r3c5 r3f5 r3c6 r3f6 r3c7 r3f7 r3c8 r3f8 r3c9 r3f9 r3l
    refine at_world (S := fun U => Blk U (w.heap.size + 1 + 1) #[.slice none 0 0, .int .i64 0, .int .i64 0, .int .i64 0, .int .i64 0, .int .i64 0, .int .i64 0, .int .i64 0, .int .i64 0, .int .i64 0] 63 ∧ Blk U s #[.slice (some ⟨g, 0, none⟩) p.cells.length cp, .int .i64 (Q.bottles), .int .i64 (Q.inH), .int .i64 (Q.inA), .int .i64 (Q.vH), .int .i64 (Q.vA), .int .i64 (Q.lH), .int .i64 (Q.lA), .int .i64 (Q.pH), .int .i64 (Q.pA)] 63 ∧ Mine 25 w.heap.size U (.slice (some ⟨g, 0, none⟩) p.cells.length cp) Q.cells ∧ Kept w U) ⟨b2.keep hb4, r3.keep hb4, hm.keep hb4, Kept.drop hk hb4⟩ ?_
    clear b2 r3 hm hk hb4
    rintro U ⟨b2, r3, hm, hk⟩
    have b2c0 := b2.cell 0
    have b2f0 := b2.free 0
    have b2c1 := b2.cell 1
    have b2f1 := b2.free 1
    have b2c2 := b2.cell 2
    have b2f2 := b2.free 2
    have b2c3 := b2.cell 3
    have b2f3 := b2.free 3
    have b2c4 := b2.cell 4
    have b2f4 := b2.free 4
    have b2c5 := b2.cell 5
    have b2f5 := b2.free 5
    have b2c6 := b2.cell 6
    have b2f6 := b2.free 6
    have b2c7 := b2.cell 7
    have b2f7 := b2.free 7
    have b2c8 := b2.cell 8
    have b2f8 := b2.free 8
    have b2c9 := b2.cell 9
    have b2f9 := b2.free 9
    have b2l := b2.lt
    simp at b2c0 b2c1 b2c2 b2c3 b2c4 b2c5 b2c6 b2c7 b2c8 b2c9
    have r3c0 := r3.cell 0
    have r3f0 := r3.free 0
    have r3c1 := r3.cell 1
    have r3f1 := r3.free 1
    have r3c2 := r3.cell 2
    have r3f2 := r3.free 2
    have r3c3 := r3.cell 3
    have r3f3 := r3.free 3
    have r3c4 := r3.cell 4
    have r3f4 := r3.free 4
    have r3c5 := r3.cell 5
    have r3f5 := r3.free 5
    have r3c6 := r3.cell 6
    have r3f6 := r3.free 6
    have r3c7 := r3.cell 7
    have r3f7 := r3.free 7
    have r3c8 := r3.cell 8
    have r3f8 := r3.free 8
    have r3c9 := r3.cell 9
    have r3f9 := r3.free 9
    have r3l := r3.lt
    simp at r3c0 r3c1 r3c2 r3c3 r3c4 r3c5 r3c6 r3c7 r3c8 r3c9
    go_wp2
    refine bodyPost_ret (v := .tuple #[.agg #[.slice none 0 0, .int .i64 0, .int .i64 0, .int .i64 0, .int .i64 0, .int .i64 0, .int .i64 0, .int .i64 0, .int .i64 0, .int .i64 0], .int .i64 9]) (by simp [results, Try.results49, go_sem, b2c0, b2f0, b2c1, b2f1, b2c2, b2f2, b2c3, b2f3, b2c4, b2f4, b2c5, b2f5, b2c6, b2f6, b2c7, b2f7, b2c8, b2f8, b2c9, b2f9, r3c0, r3f0, r3c1, r3f1, r3c2, r3f2, r3c3, r3f3, r3c4, r3f4, r3c5, r3f5, r3c6, r3f6, r3c7, r3f7, r3c8, r3f8, r3c9, r3f9]) rfl ⟨.slice none 0 0, ?_, ?_, ?_⟩
    · simp [endQ, endE, HPQ.out, noPlant]
    · rw [show endQ Q = noPlant by simp [endQ, HPQ.out]]
      exact Mine.zero
    · (exact kpt)
  · have HPQ := Lib.hid hpq
    have r3c0 := r3.cell 0
    have r3f0 := r3.free 0
    have r3c1 := r3.cell 1
    have r3f1 := r3.free 1
    have r3c2 := r3.cell 2
    have r3f2 := r3.free 2
    have r3c3 := r3.cell 3
    have r3f3 := r3.free 3
    have r3c4 := r3.cell 4
    have r3f4 := r3.free 4
    have r3c5 := r3.cell 5
    have r3f5 := r3.free 5
    have r3c6 := r3.cell 6
    have r3f6 := r3.free 6
    have r3c7 := r3.cell 7
    have r3f7 := r3.free 7
    have r3c8 := r3.cell 8
    have r3f8 := r3.free 8
    have r3c9 := r3.cell 9
    have r3f9 := r3.free 9
    have r3l := r3.lt
    simp at r3c0 r3c1 r3c2 r3c3 r3c4 r3c5 r3c6 r3c7 r3c8 r3c9
    go_upto_region 36 with (go_at_call 115; (with_reducible refine (r_PlantK hm).mono ?_); rw [HPQ.out]; rintro e w4 ⟨rfl, hb4⟩)
    clear r3c0 r3f0 r3c1 r3f1 r3c2 r3f2 r3c3 r3f3 r3c4 r3f4 r3c5 r3f5 r3c6 r3f6 r3c7 r3f7 r3c8 r3f8 r3c9 r3f9 r3l
    refine at_world (S := fun U => Blk U (w.heap.size + 1 + 1) #[.slice none 0 0, .int .i64 0, .int .i64 0, .int .i64 0, .int .i64 0, .int .i64 0, .int .i64 0, .int .i64 0, .int .i64 0, .int .i64 0] 63 ∧ Blk U s #[.slice (some ⟨g, 0, none⟩) p.cells.length cp, .int .i64 (Q.bottles), .int .i64 (Q.inH), .int .i64 (Q.inA), .int .i64 (Q.vH), .int .i64 (Q.vA), .int .i64 (Q.lH), .int .i64 (Q.lA), .int .i64 (Q.pH), .int .i64 (Q.pA)] 63 ∧ Mine 25 w.heap.size U (.slice (some ⟨g, 0, none⟩) p.cells.length cp) Q.cells ∧ Kept w U) ⟨b2.keep hb4, r3.keep hb4, hm.keep hb4, Kept.drop hk hb4⟩ ?_
    clear b2 r3 hm hk hb4
    rintro U ⟨b2, r3, hm, hk⟩
    have b2c0 := b2.cell 0
    have b2f0 := b2.free 0
    have b2c1 := b2.cell 1
    have b2f1 := b2.free 1
    have b2c2 := b2.cell 2
    have b2f2 := b2.free 2
    have b2c3 := b2.cell 3
    have b2f3 := b2.free 3
    have b2c4 := b2.cell 4
    have b2f4 := b2.free 4
    have b2c5 := b2.cell 5
    have b2f5 := b2.free 5
    have b2c6 := b2.cell 6
    have b2f6 := b2.free 6
    have b2c7 := b2.cell 7
    have b2f7 := b2.free 7
    have b2c8 := b2.cell 8
    have b2f8 := b2.free 8
    have b2c9 := b2.cell 9
    have b2f9 := b2.free 9
    have b2l := b2.lt
    simp at b2c0 b2c1 b2c2 b2c3 b2c4 b2c5 b2c6 b2c7 b2c8 b2c9
    have r3c0 := r3.cell 0
    have r3f0 := r3.free 0
    have r3c1 := r3.cell 1
    have r3f1 := r3.free 1
    have r3c2 := r3.cell 2
    have r3f2 := r3.free 2
    have r3c3 := r3.cell 3
    have r3f3 := r3.free 3
    have r3c4 := r3.cell 4
    have r3f4 := r3.free 4
    have r3c5 := r3.cell 5
    have r3f5 := r3.free 5
    have r3c6 := r3.cell 6
    have r3f6 := r3.free 6
    have r3c7 := r3.cell 7
    have r3f7 := r3.free 7
    have r3c8 := r3.cell 8
    have r3f8 := r3.free 8
    have r3c9 := r3.cell 9
    have r3f9 := r3.free 9
    have r3l := r3.lt
    simp at r3c0 r3c1 r3c2 r3c3 r3c4 r3c5 r3c6 r3c7 r3c8 r3c9
    go_wp2
    refine bodyPost_ret (v := .tuple #[.agg #[.slice (some ⟨g, 0, none⟩) p.cells.length cp, .int .i64 (Q.bottles), .int .i64 (Q.inH), .int .i64 (Q.inA), .int .i64 (Q.vH), .int .i64 (Q.vA), .int .i64 (Q.lH), .int .i64 (Q.lA), .int .i64 (Q.pH), .int .i64 (Q.pA)], .int .i64 0]) (by simp [results, Try.results49, go_sem, b2c0, b2f0, b2c1, b2f1, b2c2, b2f2, b2c3, b2f3, b2c4, b2f4, b2c5, b2f5, b2c6, b2f6, b2c7, b2f7, b2c8, b2f8, b2c9, b2f9, r3c0, r3f0, r3c1, r3f1, r3c2, r3f2, r3c3, r3f3, r3c4, r3f4, r3c5, r3f5, r3c6, r3f6, r3c7, r3f7, r3c8, r3f8, r3c9, r3f9]) rfl ⟨.slice (some ⟨g, 0, none⟩) p.cells.length cp, ?_, ?_, ?_⟩
    · simp [endQ, endE, HPQ.out, noPlant]
    · rw [show endQ Q = Q by simp [endQ, HPQ.out]]
      have hne := hm.ne b2 (by decide)
      (repeat (with_reducible refine Mine.off ?_ (by with_reducible assumption) _))
      exact hm
    · (exact kpt)

theorem r_Do_4 (p : Plant) (d : Deed) (a : Option Addr) (cap : Nat) (w : World) (hx : Row Cell.cells 7 w.heap.size w a p.cells) (hc : p.cells.length ≤ cap) (hM : cap ≤ maxLen) (hz : a = none → cap = 0) (hp : plantB p = true) (hs : sizedE p d = 0) (hkk : d.kind = 4) (hn : 1 ≤ d.n ∧ d.n ≤ 10000000) (hcl : inB d.cell 0 (p.cells.length - 1) = true) (ht : inB d.to 0 (p.cells.length - 1) = true) (hl : ¬ amount (at_ p d) < d.n) : Calls Try.prog 49 #[.agg #[.slice a p.cells.length cap, .int .i64 p.bottles, .int .i64 p.inH, .int .i64 p.inA, .int .i64 p.vH, .int .i64 p.vA, .int .i64 p.lH, .int .i64 p.lA, .int .i64 p.pH, .int .i64 p.pA], .agg #[.int .u8 d.kind, .int .i64 d.cell, .int .i64 d.to, .int .i64 d.n]] w fun e w' => ∃ v, e = .returned (.tuple #[.agg #[v, .int .i64 (endQ (moveP p d)).bottles, .int .i64 (endQ (moveP p d)).inH, .int .i64 (endQ (moveP p d)).inA, .int .i64 (endQ (moveP p d)).vH, .int .i64 (endQ (moveP p d)).vA, .int .i64 (endQ (moveP p d)).lH, .int .i64 (endQ (moveP p d)).lA, .int .i64 (endQ (moveP p d)).pH, .int .i64 (endQ (moveP p d)).pA], .int .i64 (endE (moveP p d))]) ∧ Mine 25 w.heap.size w' v ((endQ (moveP p d))).cells ∧ Kept w w' := by
  have e1 : (d.kind == 1) = false := by simp; omega
  have g1 : decide (d.kind = 1) = false := by simp; omega
  have e2 : (d.kind == 2) = false := by simp; omega
  have g2 : decide (d.kind = 2) = false := by simp; omega
  have e3 : (d.kind == 3) = false := by simp; omega
  have g3 : decide (d.kind = 3) = false := by simp; omega
  have e4 : (d.kind == 4) = true := by simp; omega
  have g4 : decide (d.kind = 4) = true := by simp; omega
  have e5 : (d.kind == 5) = false := by simp; omega
  have g5 : decide (d.kind = 5) = false := by simp; omega
  have e6 : (d.kind == 6) = false := by simp; omega
  have g6 : decide (d.kind = 6) = false := by simp; omega
  have hkm : mixedB d.kind = true := by simp [mixedB, hkk]
  have HMX := fun (W : World) => r_mixedK d.kind true hkm W
  have HMW := fun (W : World) => r_mixedW d.kind true hkm W
  clear hkk hkm
  obtain ⟨Q, hQ⟩ : ∃ Q, Q = moveP p d := ⟨_, rfl⟩
  have HQ := Lib.hid hQ
  rw [← hQ]
  clear hQ
  have HP := Lib.hid hp
  have HS := Lib.hid hs
  have hn12 : p.cells.length ≤ 12 := (plantB_iff.1 hp).1
  have hb := plantB_iff.1 hp
  have hi : d.cell.toNat < p.cells.length := by
    have h1 : 0 ≤ d.cell ∧ d.cell ≤ p.cells.length - 1 := by simpa [inB] using hcl
    omega
  have hd0 : 0 ≤ d.cell ∧ d.cell < p.cells.length := by
    have h1 : 0 ≤ d.cell ∧ d.cell ≤ p.cells.length - 1 := by simpa [inB] using hcl
    omega
  have hcv : cellB p.cells[d.cell.toNat] = true := hb.2.2.2.2.2.2.1 _ (List.getElem_mem hi)
  have hat : at_ p d = p.cells[d.cell.toNat] := cellAt_get hi
  clear hp hs
  go_enter Try.func49, Try.ntmps49
  go_upto_region 3 with (go_at_call 115; (with_reducible refine (r_Plant p a cap _ (hx.later (by (exact kpt)) (Nat.le_refl _)) hc hM).mono ?_); rw [HP.out]; rintro e w1 ⟨rfl, hb1⟩; refine Blk.thru (b := w.heap.size) (arr := ?_) (t := ?_) ?_ hb1 ?_; rotate_left 2; (focus (exact blk)); intro rr; have rrc0 := rr.cell 0; have rrf0 := rr.free 0; have rrc1 := rr.cell 1; have rrf1 := rr.free 1; have rrc2 := rr.cell 2; have rrf2 := rr.free 2; have rrc3 := rr.cell 3; have rrf3 := rr.free 3; have rrc4 := rr.cell 4; have rrf4 := rr.free 4; have rrc5 := rr.cell 5; have rrf5 := rr.free 5; have rrc6 := rr.cell 6; have rrf6 := rr.free 6; have rrc7 := rr.cell 7; have rrf7 := rr.free 7; have rrc8 := rr.cell 8; have rrf8 := rr.free 8; have rrc9 := rr.cell 9; have rrf9 := rr.free 9; have rrl := rr.lt; simp at rrc0 rrc1 rrc2 rrc3 rrc4 rrc5 rrc6 rrc7 rrc8 rrc9; refine Blk.thru (b := (w.heap.size + 1)) (arr := ?_) (t := ?_) ?_ hb1 ?_; rotate_left 2; (focus (exact blk)); intro rq; have rqc0 := rq.cell 0; have rqf0 := rq.free 0; have rqc1 := rq.cell 1; have rqf1 := rq.free 1; have rqc2 := rq.cell 2; have rqf2 := rq.free 2; have rqc3 := rq.cell 3; have rqf3 := rq.free 3; have rql := rq.lt; simp at rqc0 rqc1 rqc2 rqc3)
  refine at_world (S := fun W => Blk W w.heap.size #[.slice a p.cells.length cap, .int .i64 p.bottles, .int .i64 p.inH, .int .i64 p.inA, .int .i64 p.vH, .int .i64 p.vA, .int .i64 p.lH, .int .i64 p.lA, .int .i64 p.pH, .int .i64 p.pA] 63 ∧ Blk W (w.heap.size + 1) #[.int .u8 d.kind, .int .i64 d.cell, .int .i64 d.to, .int .i64 d.n] 65 ∧ Blk W (w.heap.size + 1 + 1) #[.slice none 0 0, .int .i64 0, .int .i64 0, .int .i64 0, .int .i64 0, .int .i64 0, .int .i64 0, .int .i64 0, .int .i64 0, .int .i64 0] 63 ∧ Kept w W) ⟨by (exact blkc), by (exact blkc), by (exact blkc), by (exact kpt)⟩ ?_
  rintro W ⟨b0, b1, b2, hk⟩
  have b0c0 := b0.cell 0
  have b0f0 := b0.free 0
  have b0c1 := b0.cell 1
  have b0f1 := b0.free 1
  have b0c2 := b0.cell 2
  have b0f2 := b0.free 2
  have b0c3 := b0.cell 3
  have b0f3 := b0.free 3
  have b0c4 := b0.cell 4
  have b0f4 := b0.free 4
  have b0c5 := b0.cell 5
  have b0f5 := b0.free 5
  have b0c6 := b0.cell 6
  have b0f6 := b0.free 6
  have b0c7 := b0.cell 7
  have b0f7 := b0.free 7
  have b0c8 := b0.cell 8
  have b0f8 := b0.free 8
  have b0c9 := b0.cell 9
  have b0f9 := b0.free 9
  have b0l := b0.lt
  simp at b0c0 b0c1 b0c2 b0c3 b0c4 b0c5 b0c6 b0c7 b0c8 b0c9
  have b1c0 := b1.cell 0
  have b1f0 := b1.free 0
  have b1c1 := b1.cell 1
  have b1f1 := b1.free 1
  have b1c2 := b1.cell 2
  have b1f2 := b1.free 2
  have b1c3 := b1.cell 3
  have b1f3 := b1.free 3
  have b1l := b1.lt
  simp at b1c0 b1c1 b1c2 b1c3
  have b2c0 := b2.cell 0
  have b2f0 := b2.free 0
  have b2c1 := b2.cell 1
  have b2f1 := b2.free 1
  have b2c2 := b2.cell 2
  have b2f2 := b2.free 2
  have b2c3 := b2.cell 3
  have b2f3 := b2.free 3
  have b2c4 := b2.cell 4
  have b2f4 := b2.free 4
  have b2c5 := b2.cell 5
  have b2f5 := b2.free 5
  have b2c6 := b2.cell 6
  have b2f6 := b2.free 6
  have b2c7 := b2.cell 7
  have b2f7 := b2.free 7
  have b2c8 := b2.cell 8
  have b2f8 := b2.free 8
  have b2c9 := b2.cell 9
  have b2f9 := b2.free 9
  have b2l := b2.lt
  simp at b2c0 b2c1 b2c2 b2c3 b2c4 b2c5 b2c6 b2c7 b2c8 b2c9
  go_upto_region 6 with (go_at_call 116; (with_reducible refine (r_sized p d a cap _ hc hM).mono ?_); rw [HS.out]; rintro e w1 ⟨rfl, hb1⟩)
  clear b0c0 b0f0 b0c1 b0f1 b0c2 b0f2 b0c3 b0f3 b0c4 b0f4 b0c5 b0f5 b0c6 b0f6 b0c7 b0f7 b0c8 b0f8 b0c9 b0f9 b0l b1c0 b1f0 b1c1 b1f1 b1c2 b1f2 b1c3 b1f3 b1l b2c0 b2f0 b2c1 b2f1 b2c2 b2f2 b2c3 b2f3 b2c4 b2f4 b2c5 b2f5 b2c6 b2f6 b2c7 b2f7 b2c8 b2f8 b2c9 b2f9 b2l
  refine at_world (S := fun X => Blk X w.heap.size #[.slice a p.cells.length cap, .int .i64 p.bottles, .int .i64 p.inH, .int .i64 p.inA, .int .i64 p.vH, .int .i64 p.vA, .int .i64 p.lH, .int .i64 p.lA, .int .i64 p.pH, .int .i64 p.pA] 63 ∧ Blk X (w.heap.size + 1) #[.int .u8 d.kind, .int .i64 d.cell, .int .i64 d.to, .int .i64 d.n] 65 ∧ Blk X (w.heap.size + 1 + 1) #[.slice none 0 0, .int .i64 0, .int .i64 0, .int .i64 0, .int .i64 0, .int .i64 0, .int .i64 0, .int .i64 0, .int .i64 0, .int .i64 0] 63 ∧ Kept w X) ⟨by (exact blkc), by (exact blkc), by (exact blkc), by (exact kpt)⟩ ?_
  clear b0 b1 b2 hk
  rintro X ⟨b0, b1, b2, hk⟩
  have b0c0 := b0.cell 0
  have b0f0 := b0.free 0
  have b0c1 := b0.cell 1
  have b0f1 := b0.free 1
  have b0c2 := b0.cell 2
  have b0f2 := b0.free 2
  have b0c3 := b0.cell 3
  have b0f3 := b0.free 3
  have b0c4 := b0.cell 4
  have b0f4 := b0.free 4
  have b0c5 := b0.cell 5
  have b0f5 := b0.free 5
  have b0c6 := b0.cell 6
  have b0f6 := b0.free 6
  have b0c7 := b0.cell 7
  have b0f7 := b0.free 7
  have b0c8 := b0.cell 8
  have b0f8 := b0.free 8
  have b0c9 := b0.cell 9
  have b0f9 := b0.free 9
  have b0l := b0.lt
  simp at b0c0 b0c1 b0c2 b0c3 b0c4 b0c5 b0c6 b0c7 b0c8 b0c9
  have b1c0 := b1.cell 0
  have b1f0 := b1.free 0
  have b1c1 := b1.cell 1
  have b1f1 := b1.free 1
  have b1c2 := b1.cell 2
  have b1f2 := b1.free 2
  have b1c3 := b1.cell 3
  have b1f3 := b1.free 3
  have b1l := b1.lt
  simp at b1c0 b1c1 b1c2 b1c3
  have b2c0 := b2.cell 0
  have b2f0 := b2.free 0
  have b2c1 := b2.cell 1
  have b2f1 := b2.free 1
  have b2c2 := b2.cell 2
  have b2f2 := b2.free 2
  have b2c3 := b2.cell 3
  have b2f3 := b2.free 3
  have b2c4 := b2.cell 4
  have b2f4 := b2.free 4
  have b2c5 := b2.cell 5
  have b2f5 := b2.free 5
  have b2c6 := b2.cell 6
  have b2f6 := b2.free 6
  have b2c7 := b2.cell 7
  have b2f7 := b2.free 7
  have b2c8 := b2.cell 8
  have b2f8 := b2.free 8
  have b2c9 := b2.cell 9
  have b2f9 := b2.free 9
  have b2l := b2.lt
  simp at b2c0 b2c1 b2c2 b2c3 b2c4 b2c5 b2c6 b2c7 b2c8 b2c9
  go_upto_region 7 with (go_at_call 47; (with_reducible refine (r_Twin p a cap _ (hx.later (by (exact kpt)) (Nat.le_refl _)) (by omega) hz).mono ?_); rintro e w1 ⟨ad, cp, rfl, hm1, hb1⟩)
  have b1k := b1.keep hb1
  have b2k := b2.keep hb1
  have hsz := b2k.lt
  have hm2 := hm1.base (C := w.heap.size) hk.size
  have hk2 := hk.trans (hb1.mono hk.size)
  refine at_world (S := fun Y => Blk Y (w.heap.size + 1) #[.int .u8 d.kind, .int .i64 d.cell, .int .i64 d.to, .int .i64 d.n] 65 ∧ Blk Y (w.heap.size + 1 + 1) #[.slice none 0 0, .int .i64 0, .int .i64 0, .int .i64 0, .int .i64 0, .int .i64 0, .int .i64 0, .int .i64 0, .int .i64 0, .int .i64 0] 63 ∧ Blk Y w1.heap.size #[.slice ad p.cells.length cp, .int .i64 (p.bottles), .int .i64 (p.inH), .int .i64 (p.inA), .int .i64 (p.vH), .int .i64 (p.vA), .int .i64 (p.lH), .int .i64 (p.lA), .int .i64 (p.pH), .int .i64 (p.pA)] 63 ∧ Mine 25 w.heap.size Y (.slice ad p.cells.length cp) p.cells ∧ Kept w Y ∧ w.heap.size + 1 + 1 < w1.heap.size) ⟨by (exact blkc), by (exact blkc), by (exact blkc), by exact (by have hnp := mine_past hm2 (Nat.le_refl _); (repeat (with_reducible refine Mine.off ?_ hnp _)); exact hm2.alloc _), by (exact kpt), hsz⟩ ?_
  clear b0c0 b0f0 b0c1 b0f1 b0c2 b0f2 b0c3 b0f3 b0c4 b0f4 b0c5 b0f5 b0c6 b0f6 b0c7 b0f7 b0c8 b0f8 b0c9 b0f9 b0l b1c0 b1f0 b1c1 b1f1 b1c2 b1f2 b1c3 b1f3 b1l b2c0 b2f0 b2c1 b2f1 b2c2 b2f2 b2c3 b2f3 b2c4 b2f4 b2c5 b2f5 b2c6 b2f6 b2c7 b2f7 b2c8 b2f8 b2c9 b2f9 b2l b0 b1 b2 hk b1k b2k hm2 hk2 hm1 hb1 hsz
  rintro Y ⟨b1, b2, r3, hm, hk, hs⟩
  generalize w1.heap.size = s at hs r3 ⊢
  obtain ⟨x, hx⟩ : ∃ x, x = p.cells[d.cell.toNat] := ⟨_, rfl⟩
  have HX := Lib.hid (show p.cells[d.cell.toNat]? = some x by rw [hx]; simp [hi])
  have HXX := Lib.hid hx
  rw [← hx] at hcv hat
  have HAT := Lib.hid hat
  have HCV := Lib.hid hcv
  have hxb := cellB_iff.1 hcv
  obtain ⟨g, cur, rfl, hBg, hcur, c0, c1, c2, c3, c4, c5, c6⟩ := hm.at hi
  rw [← hx] at c0 c1 c2 c3 c4 c5 c6
  clear hx hat hcv
  have HAC := fun (W : World) => r_amount x W HCV.out
  obtain ⟨AM, hAM⟩ : ∃ y, y = amount x := ⟨_, rfl⟩
  have HAM := Lib.hid (show amount x = AM from hAM.symm)
  rw [← hAM] at HAC
  clear hAM
  have hle : d.n ≤ x.helium + x.air := by
    have h1 : amount x = x.helium + x.air := rfl
    rw [HAT.out] at hl
    omega
  have hlt : decide (AM < d.n) = false := by rw [← HAM.out, ← HAT.out]; simpa using hl
  clear hl
  have hvv := hb.2.2.2.2.2.2.1
  have hto : 0 ≤ d.to ∧ d.to ≤ p.cells.length - 1 := by simpa [inB] using ht
  obtain ⟨y, hy, hyb1, hyb2⟩ := to_bd hvv HX.out (by omega) hle hto
  have HY := Lib.hid hy
  clear hy hvv ht hb
  obtain ⟨s0, s1, s2, s3⟩ := share_bd (okC_of HCV.out) (show 0 ≤ d.n by omega) hle
  obtain ⟨S, hS⟩ : ∃ S, S = shareH x d.n := ⟨_, rfl⟩
  have HSS := Lib.hid (show shareH x d.n = S from hS.symm)
  have HTA := fun (W : World) (h : Mine 25 w.heap.size W (.slice (some ⟨g, 0, none⟩) p.cells.length cp) p.cells) => r_taken h d.cell hd0.1 HX.out HCV.out hn12 d.n hn.1 hle
  rw [← hS] at s0 s1 s2 s3 HTA
  clear hS hle
  have b1c0 := fun g : Later Y => (b1.later g).cell 0
  have b1f0 := fun g : Later Y => (b1.later g).free 0
  have b1c1 := fun g : Later Y => (b1.later g).cell 1
  have b1f1 := fun g : Later Y => (b1.later g).free 1
  have b1c2 := fun g : Later Y => (b1.later g).cell 2
  have b1f2 := fun g : Later Y => (b1.later g).free 2
  have b1c3 := fun g : Later Y => (b1.later g).cell 3
  have b1f3 := fun g : Later Y => (b1.later g).free 3
  have b1l := fun g : Later Y => (b1.later g).lt
  simp at b1c0 b1c1 b1c2 b1c3
  have r3c0 := fun g : Later Y => (r3.later g).cell 0
  have r3f0 := fun g : Later Y => (r3.later g).free 0
  have r3c1 := fun g : Later Y => (r3.later g).cell 1
  have r3f1 := fun g : Later Y => (r3.later g).free 1
  have r3c2 := fun g : Later Y => (r3.later g).cell 2
  have r3f2 := fun g : Later Y => (r3.later g).free 2
  have r3c3 := fun g : Later Y => (r3.later g).cell 3
  have r3f3 := fun g : Later Y => (r3.later g).free 3
  have r3c4 := fun g : Later Y => (r3.later g).cell 4
  have r3f4 := fun g : Later Y => (r3.later g).free 4
  have r3c5 := fun g : Later Y => (r3.later g).cell 5
  have r3f5 := fun g : Later Y => (r3.later g).free 5
  have r3c6 := fun g : Later Y => (r3.later g).cell 6
  have r3f6 := fun g : Later Y => (r3.later g).free 6
  have r3c7 := fun g : Later Y => (r3.later g).cell 7
  have r3f7 := fun g : Later Y => (r3.later g).free 7
  have r3c8 := fun g : Later Y => (r3.later g).cell 8
  have r3f8 := fun g : Later Y => (r3.later g).free 8
  have r3c9 := fun g : Later Y => (r3.later g).cell 9
  have r3f9 := fun g : Later Y => (r3.later g).free 9
  have r3l := fun g : Later Y => (r3.later g).lt
  simp at r3c0 r3c1 r3c2 r3c3 r3c4 r3c5 r3c6 r3c7 r3c8 r3c9
  have y0 := fun q : Later Y => q.some c0
  have y1 := fun q : Later Y => q.some c1
  have y2 := fun q : Later Y => q.some c2
  have y3 := fun q : Later Y => q.some c3
  have y4 := fun q : Later Y => q.some c4
  have y5 := fun q : Later Y => q.some c5
  have y6 := fun q : Later Y => q.some c6
  clear c0 c1 c2 c3 c4 c5 c6
  refine Later.region (by kernel_rfl) (by kernel_rfl) ?_
  repeat (first | go_big_quiet_skip | (go_big_quiet_want; go_big_quiet_op; first | go_big_quiet_on | (apply Exists.intro; refine ⟨fun g => ?_, ?_⟩; (focus (first | (go_at_call 117; exact Later.call (HMX _)) | (go_at_call 85; exact Later.call (HAC _)))); go_big_quiet_on)))
  refine wpQuiet_nil ?_
  intro gg
  clear b1c0 b1f0 b1c1 b1f1 b1c2 b1f2 b1c3 b1f3 b1l r3c0 r3f0 r3c1 r3f1 r3c2 r3f2 r3c3 r3f3 r3c4 r3f4 r3c5 r3f5 r3c6 r3f6 r3c7 r3f7 r3c8 r3f8 r3c9 r3f9 r3l y0 y1 y2 y3 y4 y5 y6
  have z1 := b1.later gg
  have z2 := b2.later gg
  have z3 := r3.later gg
  have hmg := hm.keep gg.ok
  have hkg := Kept.drop hk gg.ok
  have hne := hmg.ne z3 (by decide)
  have z1c0 := z1.cell 0
  have z1f0 := z1.free 0
  have z1c1 := z1.cell 1
  have z1f1 := z1.free 1
  have z1c2 := z1.cell 2
  have z1f2 := z1.free 2
  have z1c3 := z1.cell 3
  have z1f3 := z1.free 3
  have z1l := z1.lt
  simp at z1c0 z1c1 z1c2 z1c3
  have z3c0 := z3.cell 0
  have z3f0 := z3.free 0
  have z3c1 := z3.cell 1
  have z3f1 := z3.free 1
  have z3c2 := z3.cell 2
  have z3f2 := z3.free 2
  have z3c3 := z3.cell 3
  have z3f3 := z3.free 3
  have z3c4 := z3.cell 4
  have z3f4 := z3.free 4
  have z3c5 := z3.cell 5
  have z3f5 := z3.free 5
  have z3c6 := z3.cell 6
  have z3f6 := z3.free 6
  have z3c7 := z3.cell 7
  have z3f7 := z3.free 7
  have z3c8 := z3.cell 8
  have z3f8 := z3.free 8
  have z3c9 := z3.cell 9
  have z3f9 := z3.free 9
  have z3l := z3.lt
  simp at z3c0 z3c1 z3c2 z3c3 z3c4 z3c5 z3c6 z3c7 z3c8 z3c9
  go_upto_region 11 with (go_at_call 117; (with_reducible refine (HMW _).mono ?_); rintro e w9 ⟨rfl, rfl⟩)
  refine at_world (S := fun V => Blk V (w.heap.size + 1) #[.int .u8 d.kind, .int .i64 d.cell, .int .i64 d.to, .int .i64 d.n] 65 ∧ Blk V (w.heap.size + 1 + 1) #[.slice none 0 0, .int .i64 0, .int .i64 0, .int .i64 0, .int .i64 0, .int .i64 0, .int .i64 0, .int .i64 0, .int .i64 0, .int .i64 0] 63 ∧ Blk V s #[.slice (some ⟨g, 0, none⟩) p.cells.length cp, .int .i64 (p.bottles), .int .i64 (p.inH), .int .i64 (p.inA), .int .i64 (p.vH), .int .i64 (p.vA), .int .i64 (p.lH), .int .i64 (p.lA), .int .i64 (p.pH), .int .i64 (p.pA)] 63 ∧ Mine 25 w.heap.size V (.slice (some ⟨g, 0, none⟩) p.cells.length cp) p.cells ∧ Kept w V ∧ Blk V gg.val.heap.size #[.int .i64 0, .int .i64 0] 61 ∧ s < gg.val.heap.size) ⟨z1.alloc _, z2.alloc _, z3.alloc _, hmg.alloc _, by (exact kpt), by (exact blkc), z3.lt⟩ ?_
  clear hne b1 b2 r3 hm hk hcur z1 z2 z3 hmg hkg z1c0 z1f0 z1c1 z1f1 z1c2 z1f2 z1c3 z1f3 z1l z3c0 z3f0 z3c1 z3f1 z3c2 z3f2 z3c3 z3f3 z3c4 z3f4 z3c5 z3f5 z3c6 z3f6 z3c7 z3f7 z3c8 z3f8 z3c9 z3f9 z3l
  rintro V ⟨b1, b2, r3, hm, hk, r8, hsm⟩
  generalize gg.val.heap.size = m at r8 hsm ⊢
  have b1c0 := b1.cell 0
  have b1f0 := b1.free 0
  have b1c1 := b1.cell 1
  have b1f1 := b1.free 1
  have b1c2 := b1.cell 2
  have b1f2 := b1.free 2
  have b1c3 := b1.cell 3
  have b1f3 := b1.free 3
  have b1l := b1.lt
  simp at b1c0 b1c1 b1c2 b1c3
  have r3c0 := r3.cell 0
  have r3f0 := r3.free 0
  have r3c1 := r3.cell 1
  have r3f1 := r3.free 1
  have r3c2 := r3.cell 2
  have r3f2 := r3.free 2
  have r3c3 := r3.cell 3
  have r3f3 := r3.free 3
  have r3c4 := r3.cell 4
  have r3f4 := r3.free 4
  have r3c5 := r3.cell 5
  have r3f5 := r3.free 5
  have r3c6 := r3.cell 6
  have r3f6 := r3.free 6
  have r3c7 := r3.cell 7
  have r3f7 := r3.free 7
  have r3c8 := r3.cell 8
  have r3f8 := r3.free 8
  have r3c9 := r3.cell 9
  have r3f9 := r3.free 9
  have r3l := r3.lt
  simp at r3c0 r3c1 r3c2 r3c3 r3c4 r3c5 r3c6 r3c7 r3c8 r3c9
  have r8c0 := r8.cell 0
  have r8f0 := r8.free 0
  have r8c1 := r8.cell 1
  have r8f1 := r8.free 1
  have r8l := r8.lt
  simp at r8c0 r8c1
  go_upto_region 12 with (go_at_call 118; (with_reducible refine (HTA _ hm).mono ?_); rintro e w2 ⟨rfl, hm2, hw2, hbes2⟩; have z8 := Besides.blk hbes2 (by decide) r8; have z8c0 := z8.cell 0; have z8f0 := z8.free 0; have z8c1 := z8.cell 1; have z8f1 := z8.free 1; have z8l := z8.lt; simp at z8c0 z8c1)
  clear b1c0 b1f0 b1c1 b1f1 b1c2 b1f2 b1c3 b1f3 b1l r3c0 r3f0 r3c1 r3f1 r3c2 r3f2 r3c3 r3f3 r3c4 r3f4 r3c5 r3f5 r3c6 r3f6 r3c7 r3f7 r3c8 r3f8 r3c9 r3f9 r3l r8c0 r8f0 r8c1 r8f1 r8l z8c0 z8f0 z8c1 z8f1 z8l
  have n1 := Besides.blk hbes2 (by decide) b1
  have n2 := Besides.blk hbes2 (by decide) b2
  have n3 := Besides.blk hbes2 (by decide) r3
  have hk2 : Kept w w2 := hk.trans hw2
  have hsm2 := hk.size
  refine at_world (S := fun T => Blk T (w.heap.size + 1) #[.int .u8 d.kind, .int .i64 d.cell, .int .i64 d.to, .int .i64 d.n] 65 ∧ Blk T (w.heap.size + 1 + 1) #[.slice none 0 0, .int .i64 0, .int .i64 0, .int .i64 0, .int .i64 0, .int .i64 0, .int .i64 0, .int .i64 0, .int .i64 0, .int .i64 0] 63 ∧ Blk T s #[.slice (some ⟨g, 0, none⟩) p.cells.length cp, .int .i64 (p.bottles), .int .i64 (p.inH), .int .i64 (p.inA), .int .i64 (p.vH), .int .i64 (p.vA), .int .i64 (p.lH), .int .i64 (p.lA), .int .i64 (p.pH), .int .i64 (p.pA)] 63 ∧ Mine 25 w.heap.size T (.slice (some ⟨g, 0, none⟩) p.cells.length cp) (p.cells.set d.cell.toNat (less x d.n)) ∧ Kept w T ∧ Blk T m #[.int .i64 S, .int .i64 (d.n - S)] 61) ⟨(n1.other (by simp; omega) _).other (by simp; omega) _, (n2.other (by simp; omega) _).other (by simp; omega) _, (n3.other (by simp; omega) _).other (by simp; omega) _, (hm2.other z8 (by decide) _).other (z8.set 0 _) (by decide) _, ((hk2.setCell (by show w.heap.size ≤ m; omega) _).setCell (by show w.heap.size ≤ m; omega) _), ((z8.set 0 _).set 1 _).cast (by simp)⟩ ?_
  clear b1 b2 r3 hm hk r8 z8 n1 n2 n3 hm2 hw2 hbes2 hk2 hsm2
  rintro T ⟨b1, b2, r3, hm, hk, r8⟩
  have b1c0 := b1.cell 0
  have b1f0 := b1.free 0
  have b1c1 := b1.cell 1
  have b1f1 := b1.free 1
  have b1c2 := b1.cell 2
  have b1f2 := b1.free 2
  have b1c3 := b1.cell 3
  have b1f3 := b1.free 3
  have b1l := b1.lt
  simp at b1c0 b1c1 b1c2 b1c3
  have r3c0 := r3.cell 0
  have r3f0 := r3.free 0
  have r3c1 := r3.cell 1
  have r3f1 := r3.free 1
  have r3c2 := r3.cell 2
  have r3f2 := r3.free 2
  have r3c3 := r3.cell 3
  have r3f3 := r3.free 3
  have r3c4 := r3.cell 4
  have r3f4 := r3.free 4
  have r3c5 := r3.cell 5
  have r3f5 := r3.free 5
  have r3c6 := r3.cell 6
  have r3f6 := r3.free 6
  have r3c7 := r3.cell 7
  have r3f7 := r3.free 7
  have r3c8 := r3.cell 8
  have r3f8 := r3.free 8
  have r3c9 := r3.cell 9
  have r3f9 := r3.free 9
  have r3l := r3.lt
  simp at r3c0 r3c1 r3c2 r3c3 r3c4 r3c5 r3c6 r3c7 r3c8 r3c9
  have r8c0 := r8.cell 0
  have r8f0 := r8.free 0
  have r8c1 := r8.cell 1
  have r8f1 := r8.free 1
  have r8l := r8.lt
  simp at r8c0 r8c1
  have hj : d.to.toNat < (p.cells.set d.cell.toNat (less x d.n)).length := by simp; omega
  have w1 := i64_inx (n := y.helium + S) (by omega)
  have w2 := i64_inx (n := y.air + (d.n - S)) (by omega)
  go_upto_region 26 with fail
  clear b1c0 b1f0 b1c1 b1f1 b1c2 b1f2 b1c3 b1f3 b1l r3c0 r3f0 r3c1 r3f1 r3c2 r3f2 r3c3 r3f3 r3c4 r3f4 r3c5 r3f5 r3c6 r3f6 r3c7 r3f7 r3c8 r3f8 r3c9 r3f9 r3l r8c0 r8f0 r8c1 r8f1 r8l
  have hyj := (List.getElem?_eq_some_iff.1 HY.out).2
  obtain ⟨_, cuv, hge, _, hcv, c0, c1, c2, c3, c4, c5, c6⟩ := hm.at hj
  cases hge
  rw [hyj] at c0 c1 c2 c3 c4 c5 c6
  clear hyj
  have y1 := fun q : Later T => q.some c1
  clear c0 c1 c2 c3 c4 c5 c6
  have b1c0 := fun g : Later T => (b1.later g).cell 0
  have b1f0 := fun g : Later T => (b1.later g).free 0
  have b1c1 := fun g : Later T => (b1.later g).cell 1
  have b1f1 := fun g : Later T => (b1.later g).free 1
  have b1c2 := fun g : Later T => (b1.later g).cell 2
  have b1f2 := fun g : Later T => (b1.later g).free 2
  have b1c3 := fun g : Later T => (b1.later g).cell 3
  have b1f3 := fun g : Later T => (b1.later g).free 3
  have b1l := fun g : Later T => (b1.later g).lt
  simp at b1c0 b1c1 b1c2 b1c3
  have r3c0 := fun g : Later T => (r3.later g).cell 0
  have r3f0 := fun g : Later T => (r3.later g).free 0
  have r3c1 := fun g : Later T => (r3.later g).cell 1
  have r3f1 := fun g : Later T => (r3.later g).free 1
  have r3c2 := fun g : Later T => (r3.later g).cell 2
  have r3f2 := fun g : Later T => (r3.later g).free 2
  have r3c3 := fun g : Later T => (r3.later g).cell 3
  have r3f3 := fun g : Later T => (r3.later g).free 3
  have r3c4 := fun g : Later T => (r3.later g).cell 4
  have r3f4 := fun g : Later T => (r3.later g).free 4
  have r3c5 := fun g : Later T => (r3.later g).cell 5
  have r3f5 := fun g : Later T => (r3.later g).free 5
  have r3c6 := fun g : Later T => (r3.later g).cell 6
  have r3f6 := fun g : Later T => (r3.later g).free 6
  have r3c7 := fun g : Later T => (r3.later g).cell 7
  have r3f7 := fun g : Later T => (r3.later g).free 7
  have r3c8 := fun g : Later T => (r3.later g).cell 8
  have r3f8 := fun g : Later T => (r3.later g).free 8
  have r3c9 := fun g : Later T => (r3.later g).cell 9
  have r3f9 := fun g : Later T => (r3.later g).free 9
  have r3l := fun g : Later T => (r3.later g).lt
  simp at r3c0 r3c1 r3c2 r3c3 r3c4 r3c5 r3c6 r3c7 r3c8 r3c9
  have r8c0 := fun g : Later T => (r8.later g).cell 0
  have r8f0 := fun g : Later T => (r8.later g).free 0
  have r8c1 := fun g : Later T => (r8.later g).cell 1
  have r8f1 := fun g : Later T => (r8.later g).free 1
  have r8l := fun g : Later T => (r8.later g).lt
  simp at r8c0 r8c1
  refine Later.tail 12 (by kernel_rfl) (by kernel_rfl) ?_
  simp only [List.take_succ_cons, List.take_zero, List.drop_succ_cons, List.drop_zero]
  repeat (first | go_big_quiet_skip | (go_big_quiet_want; go_big_quiet_op; first | go_big_quiet_on | (apply Exists.intro; refine ⟨fun g_ => ?_, ?_⟩; (focus (first | fail)); go_big_quiet_on)))
  refine wpQuiet_nil ?_
  intro gh
  refine wpList_plain rfl fun K1 hK1 => ?_
  have y1 := y1 gh
  have hcg := hcv.later gh
  have zf := hcg.free (d.to.toNat * 7 + 1)
  clear b1c0 b1f0 b1c1 b1f1 b1c2 b1f2 b1c3 b1f3 b1l r3c0 r3f0 r3c1 r3f1 r3c2 r3f2 r3c3 r3f3 r3c4 r3f4 r3c5 r3f5 r3c6 r3f6 r3c7 r3f7 r3c8 r3f8 r3c9 r3f9 r3l r8c0 r8f0 r8c1 r8f1 r8l
  go_upto_region 27 with fail
  refine at_world (S := fun X => Blk X (w.heap.size + 1) #[.int .u8 d.kind, .int .i64 d.cell, .int .i64 d.to, .int .i64 d.n] 65 ∧ Blk X (w.heap.size + 1 + 1) #[.slice none 0 0, .int .i64 0, .int .i64 0, .int .i64 0, .int .i64 0, .int .i64 0, .int .i64 0, .int .i64 0, .int .i64 0, .int .i64 0] 63 ∧ Blk X s #[.slice (some ⟨g, 0, none⟩) p.cells.length cp, .int .i64 (p.bottles), .int .i64 (p.inH), .int .i64 (p.inA), .int .i64 (p.vH), .int .i64 (p.vA), .int .i64 (p.lH), .int .i64 (p.lA), .int .i64 (p.pH), .int .i64 (p.pA)] 63 ∧ Mine 25 w.heap.size X (.slice (some ⟨g, 0, none⟩) p.cells.length cp) ((p.cells.set d.cell.toNat (less x d.n)).set d.to.toNat { y with helium := y.helium + S }) ∧ Kept w X ∧ Blk X m #[.int .i64 S, .int .i64 (d.n - S)] 61) ⟨(b1.later gh).other (a := ⟨g, d.to.toNat * 7 + 1, none⟩) (fun he => by simp only at he; subst he; have := (b1.later gh).symm.trans hcg; simp at this) _, (b2.later gh).other (a := ⟨g, d.to.toNat * 7 + 1, none⟩) (fun he => by simp only at he; subst he; have := (b2.later gh).symm.trans hcg; simp at this) _, (r3.later gh).other (a := ⟨g, d.to.toNat * 7 + 1, none⟩) (fun he => by simp only at he; subst he; have := (r3.later gh).symm.trans hcg; simp at this) _, (hm.keep gh.ok).put (i := d.to.toNat) (j := 1) (c := y) (u := .int .i64 (y.helium + S)) { y with helium := y.helium + S } HY.out (by decide) rfl, (Kept.drop hk gh.ok).setCell hBg _, (r8.later gh).other (a := ⟨g, d.to.toNat * 7 + 1, none⟩) (fun he => by simp only at he; subst he; have := (r8.later gh).symm.trans hcg; simp at this) _⟩ ?_
  clear b1 b2 r3 hm hk r8 y1 zf hcg hcv gh
  rintro X ⟨b1, b2, r3, hm, hk, r8⟩
  obtain ⟨_, cuv, hge, _, hcv, _, _, c2, _⟩ := hm.at (i := d.to.toNat) (by simpa using hj)
  cases hge
  rw [List.getElem_set_self] at c2
  have c2 : X.cell? ⟨g, d.to.toNat * 7 + 2, none⟩ = some (.int .i64 y.air) := c2
  have y2 := fun q : Later X => q.some c2
  clear c2
  have b1c0 := fun g : Later X => (b1.later g).cell 0
  have b1f0 := fun g : Later X => (b1.later g).free 0
  have b1c1 := fun g : Later X => (b1.later g).cell 1
  have b1f1 := fun g : Later X => (b1.later g).free 1
  have b1c2 := fun g : Later X => (b1.later g).cell 2
  have b1f2 := fun g : Later X => (b1.later g).free 2
  have b1c3 := fun g : Later X => (b1.later g).cell 3
  have b1f3 := fun g : Later X => (b1.later g).free 3
  have b1l := fun g : Later X => (b1.later g).lt
  simp at b1c0 b1c1 b1c2 b1c3
  have r3c0 := fun g : Later X => (r3.later g).cell 0
  have r3f0 := fun g : Later X => (r3.later g).free 0
  have r3c1 := fun g : Later X => (r3.later g).cell 1
  have r3f1 := fun g : Later X => (r3.later g).free 1
  have r3c2 := fun g : Later X => (r3.later g).cell 2
  have r3f2 := fun g : Later X => (r3.later g).free 2
  have r3c3 := fun g : Later X => (r3.later g).cell 3
  have r3f3 := fun g : Later X => (r3.later g).free 3
  have r3c4 := fun g : Later X => (r3.later g).cell 4
  have r3f4 := fun g : Later X => (r3.later g).free 4
  have r3c5 := fun g : Later X => (r3.later g).cell 5
  have r3f5 := fun g : Later X => (r3.later g).free 5
  have r3c6 := fun g : Later X => (r3.later g).cell 6
  have r3f6 := fun g : Later X => (r3.later g).free 6
  have r3c7 := fun g : Later X => (r3.later g).cell 7
  have r3f7 := fun g : Later X => (r3.later g).free 7
  have r3c8 := fun g : Later X => (r3.later g).cell 8
  have r3f8 := fun g : Later X => (r3.later g).free 8
  have r3c9 := fun g : Later X => (r3.later g).cell 9
  have r3f9 := fun g : Later X => (r3.later g).free 9
  have r3l := fun g : Later X => (r3.later g).lt
  simp at r3c0 r3c1 r3c2 r3c3 r3c4 r3c5 r3c6 r3c7 r3c8 r3c9
  have r8c0 := fun g : Later X => (r8.later g).cell 0
  have r8f0 := fun g : Later X => (r8.later g).free 0
  have r8c1 := fun g : Later X => (r8.later g).cell 1
  have r8f1 := fun g : Later X => (r8.later g).free 1
  have r8l := fun g : Later X => (r8.later g).lt
  simp at r8c0 r8c1
  refine Later.tail 12 (by kernel_rfl) (by kernel_rfl) ?_
  simp only [List.take_succ_cons, List.take_zero, List.drop_succ_cons, List.drop_zero]
  repeat (first | go_big_quiet_skip | (go_big_quiet_want; go_big_quiet_op; first | go_big_quiet_on | (apply Exists.intro; refine ⟨fun g_ => ?_, ?_⟩; (focus (first | fail)); go_big_quiet_on)))
  refine wpQuiet_nil ?_
  intro gi
  refine wpList_plain rfl fun K1 hK1 => ?_
  have y2 := y2 gi
  have hcg := hcv.later gi
  have zf := hcg.free (d.to.toNat * 7 + 2)
  clear b1c0 b1f0 b1c1 b1f1 b1c2 b1f2 b1c3 b1f3 b1l r3c0 r3f0 r3c1 r3f1 r3c2 r3f2 r3c3 r3f3 r3c4 r3f4 r3c5 r3f5 r3c6 r3f6 r3c7 r3f7 r3c8 r3f8 r3c9 r3f9 r3l r8c0 r8f0 r8c1 r8f1 r8l
  go_upto_region 34 with fail
  have hqc : Q.cells = ((p.cells.set d.cell.toNat (less x d.n)).set d.to.toNat { y with helium := y.helium + S, air := y.air + (d.n - S) }) := by
    have hyc : cellAt (lessP p d) d.to.toNat = y := by
      have := HY.out
      simp [cellAt, lessP, HAT.out, this]
    rw [HQ.out]
    show (lessP p d).cells.set _ (more (cellAt (lessP p d) d.to.toNat) (shareH (at_ p d) d.n) (d.n - shareH (at_ p d) d.n)) = _
    rw [hyc, HAT.out, HSS.out]
    simp [lessP, HAT.out, more]
  refine at_world (S := fun Z => Blk Z (w.heap.size + 1 + 1) #[.slice none 0 0, .int .i64 0, .int .i64 0, .int .i64 0, .int .i64 0, .int .i64 0, .int .i64 0, .int .i64 0, .int .i64 0, .int .i64 0] 63 ∧ Blk Z s #[.slice (some ⟨g, 0, none⟩) p.cells.length cp, .int .i64 (Q.bottles), .int .i64 (Q.inH), .int .i64 (Q.inA), .int .i64 (Q.vH), .int .i64 (Q.vA), .int .i64 (Q.lH), .int .i64 (Q.lA), .int .i64 (Q.pH), .int .i64 (Q.pA)] 63 ∧ Mine 25 w.heap.size Z (.slice (some ⟨g, 0, none⟩) p.cells.length cp) Q.cells ∧ Kept w Z) ⟨(b2.later gi).other (a := ⟨g, d.to.toNat * 7 + 2, none⟩) (fun he => by simp only at he; subst he; have := (b2.later gi).symm.trans hcg; simp at this) _, ((r3.later gi).other (a := ⟨g, d.to.toNat * 7 + 2, none⟩) (fun he => by simp only at he; subst he; have := (r3.later gi).symm.trans hcg; simp at this) _).cast (by rw [HQ.out]; simp [moveP, lessP]), by have q := (hm.keep gi.ok).put (i := d.to.toNat) (j := 2) (c := { y with helium := y.helium + S }) (u := .int .i64 (y.air + (d.n - S))) { y with helium := y.helium + S, air := y.air + (d.n - S) } (List.getElem?_set_self (by simpa using hj)) (by decide) rfl; rw [List.set_set] at q; rw [hqc]; exact q, (Kept.drop hk gi.ok).setCell hBg _⟩ ?_
  clear b1 b2 r3 hm hk y2 zf hcg hcv gi r8
  rintro Z ⟨b2, r3, hm, hk⟩
  cases hpq : plantB Q
  · have HPQ := Lib.hid hpq
    have r3c0 := r3.cell 0
    have r3f0 := r3.free 0
    have r3c1 := r3.cell 1
    have r3f1 := r3.free 1
    have r3c2 := r3.cell 2
    have r3f2 := r3.free 2
    have r3c3 := r3.cell 3
    have r3f3 := r3.free 3
    have r3c4 := r3.cell 4
    have r3f4 := r3.free 4
    have r3c5 := r3.cell 5
    have r3f5 := r3.free 5
    have r3c6 := r3.cell 6
    have r3f6 := r3.free 6
    have r3c7 := r3.cell 7
    have r3f7 := r3.free 7
    have r3c8 := r3.cell 8
    have r3f8 := r3.free 8
    have r3c9 := r3.cell 9
    have r3f9 := r3.free 9
    have r3l := r3.lt
    simp at r3c0 r3c1 r3c2 r3c3 r3c4 r3c5 r3c6 r3c7 r3c8 r3c9
    go_upto_region 35 with (go_at_call 115; (with_reducible refine (r_PlantK hm).mono ?_); rw [HPQ.out]; rintro e w4 ⟨rfl, hb4⟩)
    clear r3c0 r3f0 r3c1 r3f1 r3c2 r3f2 r3c3 r3f3 r3c4 r3f4 r3c5 r3f5 r3c6 r3f6 r3c7 r3f7 r3c8 r3f8 r3c9 r3f9 r3l
    refine at_world (S := fun U => Blk U (w.heap.size + 1 + 1) #[.slice none 0 0, .int .i64 0, .int .i64 0, .int .i64 0, .int .i64 0, .int .i64 0, .int .i64 0, .int .i64 0, .int .i64 0, .int .i64 0] 63 ∧ Blk U s #[.slice (some ⟨g, 0, none⟩) p.cells.length cp, .int .i64 (Q.bottles), .int .i64 (Q.inH), .int .i64 (Q.inA), .int .i64 (Q.vH), .int .i64 (Q.vA), .int .i64 (Q.lH), .int .i64 (Q.lA), .int .i64 (Q.pH), .int .i64 (Q.pA)] 63 ∧ Mine 25 w.heap.size U (.slice (some ⟨g, 0, none⟩) p.cells.length cp) Q.cells ∧ Kept w U) ⟨b2.keep hb4, r3.keep hb4, hm.keep hb4, Kept.drop hk hb4⟩ ?_
    clear b2 r3 hm hk hb4
    rintro U ⟨b2, r3, hm, hk⟩
    have b2c0 := b2.cell 0
    have b2f0 := b2.free 0
    have b2c1 := b2.cell 1
    have b2f1 := b2.free 1
    have b2c2 := b2.cell 2
    have b2f2 := b2.free 2
    have b2c3 := b2.cell 3
    have b2f3 := b2.free 3
    have b2c4 := b2.cell 4
    have b2f4 := b2.free 4
    have b2c5 := b2.cell 5
    have b2f5 := b2.free 5
    have b2c6 := b2.cell 6
    have b2f6 := b2.free 6
    have b2c7 := b2.cell 7
    have b2f7 := b2.free 7
    have b2c8 := b2.cell 8
    have b2f8 := b2.free 8
    have b2c9 := b2.cell 9
    have b2f9 := b2.free 9
    have b2l := b2.lt
    simp at b2c0 b2c1 b2c2 b2c3 b2c4 b2c5 b2c6 b2c7 b2c8 b2c9
    have r3c0 := r3.cell 0
    have r3f0 := r3.free 0
    have r3c1 := r3.cell 1
    have r3f1 := r3.free 1
    have r3c2 := r3.cell 2
    have r3f2 := r3.free 2
    have r3c3 := r3.cell 3
    have r3f3 := r3.free 3
    have r3c4 := r3.cell 4
    have r3f4 := r3.free 4
    have r3c5 := r3.cell 5
    have r3f5 := r3.free 5
    have r3c6 := r3.cell 6
    have r3f6 := r3.free 6
    have r3c7 := r3.cell 7
    have r3f7 := r3.free 7
    have r3c8 := r3.cell 8
    have r3f8 := r3.free 8
    have r3c9 := r3.cell 9
    have r3f9 := r3.free 9
    have r3l := r3.lt
    simp at r3c0 r3c1 r3c2 r3c3 r3c4 r3c5 r3c6 r3c7 r3c8 r3c9
    go_wp2
    refine bodyPost_ret (v := .tuple #[.agg #[.slice none 0 0, .int .i64 0, .int .i64 0, .int .i64 0, .int .i64 0, .int .i64 0, .int .i64 0, .int .i64 0, .int .i64 0, .int .i64 0], .int .i64 9]) (by simp [results, Try.results49, go_sem, b2c0, b2f0, b2c1, b2f1, b2c2, b2f2, b2c3, b2f3, b2c4, b2f4, b2c5, b2f5, b2c6, b2f6, b2c7, b2f7, b2c8, b2f8, b2c9, b2f9, r3c0, r3f0, r3c1, r3f1, r3c2, r3f2, r3c3, r3f3, r3c4, r3f4, r3c5, r3f5, r3c6, r3f6, r3c7, r3f7, r3c8, r3f8, r3c9, r3f9]) rfl ⟨.slice none 0 0, ?_, ?_, ?_⟩
    · simp [endQ, endE, HPQ.out, noPlant]
    · rw [show endQ Q = noPlant by simp [endQ, HPQ.out]]
      exact Mine.zero
    · (exact kpt)
  · have HPQ := Lib.hid hpq
    have r3c0 := r3.cell 0
    have r3f0 := r3.free 0
    have r3c1 := r3.cell 1
    have r3f1 := r3.free 1
    have r3c2 := r3.cell 2
    have r3f2 := r3.free 2
    have r3c3 := r3.cell 3
    have r3f3 := r3.free 3
    have r3c4 := r3.cell 4
    have r3f4 := r3.free 4
    have r3c5 := r3.cell 5
    have r3f5 := r3.free 5
    have r3c6 := r3.cell 6
    have r3f6 := r3.free 6
    have r3c7 := r3.cell 7
    have r3f7 := r3.free 7
    have r3c8 := r3.cell 8
    have r3f8 := r3.free 8
    have r3c9 := r3.cell 9
    have r3f9 := r3.free 9
    have r3l := r3.lt
    simp at r3c0 r3c1 r3c2 r3c3 r3c4 r3c5 r3c6 r3c7 r3c8 r3c9
    go_upto_region 36 with (go_at_call 115; (with_reducible refine (r_PlantK hm).mono ?_); rw [HPQ.out]; rintro e w4 ⟨rfl, hb4⟩)
    clear r3c0 r3f0 r3c1 r3f1 r3c2 r3f2 r3c3 r3f3 r3c4 r3f4 r3c5 r3f5 r3c6 r3f6 r3c7 r3f7 r3c8 r3f8 r3c9 r3f9 r3l
    refine at_world (S := fun U => Blk U (w.heap.size + 1 + 1) #[.slice none 0 0, .int .i64 0, .int .i64 0, .int .i64 0, .int .i64 0, .int .i64 0, .int .i64 0, .int .i64 0, .int .i64 0, .int .i64 0] 63 ∧ Blk U s #[.slice (some ⟨g, 0, none⟩) p.cells.length cp, .int .i64 (Q.bottles), .int .i64 (Q.inH), .int .i64 (Q.inA), .int .i64 (Q.vH), .int .i64 (Q.vA), .int .i64 (Q.lH), .int .i64 (Q.lA), .int .i64 (Q.pH), .int .i64 (Q.pA)] 63 ∧ Mine 25 w.heap.size U (.slice (some ⟨g, 0, none⟩) p.cells.length cp) Q.cells ∧ Kept w U) ⟨b2.keep hb4, r3.keep hb4, hm.keep hb4, Kept.drop hk hb4⟩ ?_
    clear b2 r3 hm hk hb4
    rintro U ⟨b2, r3, hm, hk⟩
    have b2c0 := b2.cell 0
    have b2f0 := b2.free 0
    have b2c1 := b2.cell 1
    have b2f1 := b2.free 1
    have b2c2 := b2.cell 2
    have b2f2 := b2.free 2
    have b2c3 := b2.cell 3
    have b2f3 := b2.free 3
    have b2c4 := b2.cell 4
    have b2f4 := b2.free 4
    have b2c5 := b2.cell 5
    have b2f5 := b2.free 5
    have b2c6 := b2.cell 6
    have b2f6 := b2.free 6
    have b2c7 := b2.cell 7
    have b2f7 := b2.free 7
    have b2c8 := b2.cell 8
    have b2f8 := b2.free 8
    have b2c9 := b2.cell 9
    have b2f9 := b2.free 9
    have b2l := b2.lt
    simp at b2c0 b2c1 b2c2 b2c3 b2c4 b2c5 b2c6 b2c7 b2c8 b2c9
    have r3c0 := r3.cell 0
    have r3f0 := r3.free 0
    have r3c1 := r3.cell 1
    have r3f1 := r3.free 1
    have r3c2 := r3.cell 2
    have r3f2 := r3.free 2
    have r3c3 := r3.cell 3
    have r3f3 := r3.free 3
    have r3c4 := r3.cell 4
    have r3f4 := r3.free 4
    have r3c5 := r3.cell 5
    have r3f5 := r3.free 5
    have r3c6 := r3.cell 6
    have r3f6 := r3.free 6
    have r3c7 := r3.cell 7
    have r3f7 := r3.free 7
    have r3c8 := r3.cell 8
    have r3f8 := r3.free 8
    have r3c9 := r3.cell 9
    have r3f9 := r3.free 9
    have r3l := r3.lt
    simp at r3c0 r3c1 r3c2 r3c3 r3c4 r3c5 r3c6 r3c7 r3c8 r3c9
    go_wp2
    refine bodyPost_ret (v := .tuple #[.agg #[.slice (some ⟨g, 0, none⟩) p.cells.length cp, .int .i64 (Q.bottles), .int .i64 (Q.inH), .int .i64 (Q.inA), .int .i64 (Q.vH), .int .i64 (Q.vA), .int .i64 (Q.lH), .int .i64 (Q.lA), .int .i64 (Q.pH), .int .i64 (Q.pA)], .int .i64 0]) (by simp [results, Try.results49, go_sem, b2c0, b2f0, b2c1, b2f1, b2c2, b2f2, b2c3, b2f3, b2c4, b2f4, b2c5, b2f5, b2c6, b2f6, b2c7, b2f7, b2c8, b2f8, b2c9, b2f9, r3c0, r3f0, r3c1, r3f1, r3c2, r3f2, r3c3, r3f3, r3c4, r3f4, r3c5, r3f5, r3c6, r3f6, r3c7, r3f7, r3c8, r3f8, r3c9, r3f9]) rfl ⟨.slice (some ⟨g, 0, none⟩) p.cells.length cp, ?_, ?_, ?_⟩
    · simp [endQ, endE, HPQ.out, noPlant]
    · rw [show endQ Q = Q by simp [endQ, HPQ.out]]
      have hne := hm.ne b2 (by decide)
      (repeat (with_reducible refine Mine.off ?_ (by with_reducible assumption) _))
      exact hm
    · (exact kpt)

end Go.Proofs.Ytemafanncejeiaa

/-
  The reference: Do, ticks.
-/
namespace Go.Proofs.Ytemafanncejeiaa
open Go.RowKit Bal Bal.Trim Bal.Gas
set_option linter.unusedVariables false
set_option linter.unusedSimpArgs false
set_option maxHeartbeats 8000000
set_option maxRecDepth 100000

theorem r_tickedK {B n cp : Nat} {ad : Option Addr} {q : Plant} {w : World} (h : Mine 25 B w (.slice ad n cp) q.cells) (hp : plantB q = true) (hB : B ≤ w.heap.size) (Q : Plant) (hQ : Q = tickTo q n) :
    Calls Try.prog 120 #[.agg #[.slice ad n cp, .int .i64 q.bottles, .int .i64 q.inH, .int .i64 q.inA, .int .i64 q.vH, .int .i64 q.vA, .int .i64 q.lH, .int .i64 q.lA, .int .i64 q.pH, .int .i64 q.pA]] w fun e w' => e = .returned (.agg #[.slice ad n cp, .int .i64 Q.bottles, .int .i64 Q.inH, .int .i64 Q.inA, .int .i64 Q.vH, .int .i64 Q.vA, .int .i64 Q.lH, .int .i64 Q.lA, .int .i64 Q.pH, .int .i64 Q.pA]) ∧ Mine 25 B w' (.slice ad n cp) Q.cells ∧ Below B w w' ∧ Besides 25 w w' := by
  obtain rfl := h.row.1
  subst hQ
  exact r_ticked h hp hB
theorem r_Do_7 (p : Plant) (d : Deed) (a : Option Addr) (cap : Nat) (w : World) (hx : Row Cell.cells 7 w.heap.size w a p.cells) (hc : p.cells.length ≤ cap) (hM : cap ≤ maxLen) (hz : a = none → cap = 0) (hp : plantB p = true) (hs : sizedE p d = 0) (hkk : d.kind = 7) (hn : 1 ≤ d.n ∧ d.n ≤ 1000) : Calls Try.prog 49 #[.agg #[.slice a p.cells.length cap, .int .i64 p.bottles, .int .i64 p.inH, .int .i64 p.inA, .int .i64 p.vH, .int .i64 p.vA, .int .i64 p.lH, .int .i64 p.lA, .int .i64 p.pH, .int .i64 p.pA], .agg #[.int .u8 d.kind, .int .i64 d.cell, .int .i64 d.to, .int .i64 d.n]] w fun e w' => ∃ v, e = .returned (.tuple #[.agg #[v, .int .i64 (endQ (tickP p d)).bottles, .int .i64 (endQ (tickP p d)).inH, .int .i64 (endQ (tickP p d)).inA, .int .i64 (endQ (tickP p d)).vH, .int .i64 (endQ (tickP p d)).vA, .int .i64 (endQ (tickP p d)).lH, .int .i64 (endQ (tickP p d)).lA, .int .i64 (endQ (tickP p d)).pH, .int .i64 (endQ (tickP p d)).pA], .int .i64 (endE (tickP p d))]) ∧ Mine 25 w.heap.size w' v ((endQ (tickP p d))).cells ∧ Kept w w' := by
  have e1 : (d.kind == 1) = false := by simp; omega
  have g1 : decide (d.kind = 1) = false := by simp; omega
  have e2 : (d.kind == 2) = false := by simp; omega
  have g2 : decide (d.kind = 2) = false := by simp; omega
  have e3 : (d.kind == 3) = false := by simp; omega
  have g3 : decide (d.kind = 3) = false := by simp; omega
  have e4 : (d.kind == 4) = false := by simp; omega
  have g4 : decide (d.kind = 4) = false := by simp; omega
  have e5 : (d.kind == 5) = false := by simp; omega
  have g5 : decide (d.kind = 5) = false := by simp; omega
  have e6 : (d.kind == 6) = false := by simp; omega
  have g6 : decide (d.kind = 6) = false := by simp; omega
  have HMX := fun (W : World) => r_mixedK d.kind false (by simp [mixedB, hkk]) W
  have HMW := fun (W : World) => r_mixedW d.kind false (by simp [mixedB, hkk]) W
  clear hkk
  obtain ⟨Q, hQ⟩ : ∃ Q, Q = tickP p d := ⟨_, rfl⟩
  have HQ := Lib.hid hQ
  rw [← hQ]
  clear hQ
  have HJ := Lib.hid (fun j => ticks_B hp j)
  have HP := Lib.hid hp
  have HS := Lib.hid hs
  have hn12 : p.cells.length ≤ 12 := (plantB_iff.1 hp).1
  have hb := plantB_iff.1 hp
  clear hp hs
  go_enter Try.func49, Try.ntmps49
  go_upto_region 3 with (go_at_call 115; (with_reducible refine (r_Plant p a cap _ (hx.later (by (exact kpt)) (Nat.le_refl _)) hc hM).mono ?_); rw [HP.out]; rintro e w1 ⟨rfl, hb1⟩; refine Blk.thru (b := w.heap.size) (arr := ?_) (t := ?_) ?_ hb1 ?_; rotate_left 2; (focus (exact blk)); intro rr; have rrc0 := rr.cell 0; have rrf0 := rr.free 0; have rrc1 := rr.cell 1; have rrf1 := rr.free 1; have rrc2 := rr.cell 2; have rrf2 := rr.free 2; have rrc3 := rr.cell 3; have rrf3 := rr.free 3; have rrc4 := rr.cell 4; have rrf4 := rr.free 4; have rrc5 := rr.cell 5; have rrf5 := rr.free 5; have rrc6 := rr.cell 6; have rrf6 := rr.free 6; have rrc7 := rr.cell 7; have rrf7 := rr.free 7; have rrc8 := rr.cell 8; have rrf8 := rr.free 8; have rrc9 := rr.cell 9; have rrf9 := rr.free 9; have rrl := rr.lt; simp at rrc0 rrc1 rrc2 rrc3 rrc4 rrc5 rrc6 rrc7 rrc8 rrc9; refine Blk.thru (b := (w.heap.size + 1)) (arr := ?_) (t := ?_) ?_ hb1 ?_; rotate_left 2; (focus (exact blk)); intro rq; have rqc0 := rq.cell 0; have rqf0 := rq.free 0; have rqc1 := rq.cell 1; have rqf1 := rq.free 1; have rqc2 := rq.cell 2; have rqf2 := rq.free 2; have rqc3 := rq.cell 3; have rqf3 := rq.free 3; have rql := rq.lt; simp at rqc0 rqc1 rqc2 rqc3)
  refine at_world (S := fun W => Blk W w.heap.size #[.slice a p.cells.length cap, .int .i64 p.bottles, .int .i64 p.inH, .int .i64 p.inA, .int .i64 p.vH, .int .i64 p.vA, .int .i64 p.lH, .int .i64 p.lA, .int .i64 p.pH, .int .i64 p.pA] 63 ∧ Blk W (w.heap.size + 1) #[.int .u8 d.kind, .int .i64 d.cell, .int .i64 d.to, .int .i64 d.n] 65 ∧ Blk W (w.heap.size + 1 + 1) #[.slice none 0 0, .int .i64 0, .int .i64 0, .int .i64 0, .int .i64 0, .int .i64 0, .int .i64 0, .int .i64 0, .int .i64 0, .int .i64 0] 63 ∧ Kept w W) ⟨by (exact blkc), by (exact blkc), by (exact blkc), by (exact kpt)⟩ ?_
  rintro W ⟨b0, b1, b2, hk⟩
  have b0c0 := b0.cell 0
  have b0f0 := b0.free 0
  have b0c1 := b0.cell 1
  have b0f1 := b0.free 1
  have b0c2 := b0.cell 2
  have b0f2 := b0.free 2
  have b0c3 := b0.cell 3
  have b0f3 := b0.free 3
  have b0c4 := b0.cell 4
  have b0f4 := b0.free 4
  have b0c5 := b0.cell 5
  have b0f5 := b0.free 5
  have b0c6 := b0.cell 6
  have b0f6 := b0.free 6
  have b0c7 := b0.cell 7
  have b0f7 := b0.free 7
  have b0c8 := b0.cell 8
  have b0f8 := b0.free 8
  have b0c9 := b0.cell 9
  have b0f9 := b0.free 9
  have b0l := b0.lt
  simp at b0c0 b0c1 b0c2 b0c3 b0c4 b0c5 b0c6 b0c7 b0c8 b0c9
  have b1c0 := b1.cell 0
  have b1f0 := b1.free 0
  have b1c1 := b1.cell 1
  have b1f1 := b1.free 1
  have b1c2 := b1.cell 2
  have b1f2 := b1.free 2
  have b1c3 := b1.cell 3
  have b1f3 := b1.free 3
  have b1l := b1.lt
  simp at b1c0 b1c1 b1c2 b1c3
  have b2c0 := b2.cell 0
  have b2f0 := b2.free 0
  have b2c1 := b2.cell 1
  have b2f1 := b2.free 1
  have b2c2 := b2.cell 2
  have b2f2 := b2.free 2
  have b2c3 := b2.cell 3
  have b2f3 := b2.free 3
  have b2c4 := b2.cell 4
  have b2f4 := b2.free 4
  have b2c5 := b2.cell 5
  have b2f5 := b2.free 5
  have b2c6 := b2.cell 6
  have b2f6 := b2.free 6
  have b2c7 := b2.cell 7
  have b2f7 := b2.free 7
  have b2c8 := b2.cell 8
  have b2f8 := b2.free 8
  have b2c9 := b2.cell 9
  have b2f9 := b2.free 9
  have b2l := b2.lt
  simp at b2c0 b2c1 b2c2 b2c3 b2c4 b2c5 b2c6 b2c7 b2c8 b2c9
  go_upto_region 6 with (go_at_call 116; (with_reducible refine (r_sized p d a cap _ hc hM).mono ?_); rw [HS.out]; rintro e w1 ⟨rfl, hb1⟩)
  clear b0c0 b0f0 b0c1 b0f1 b0c2 b0f2 b0c3 b0f3 b0c4 b0f4 b0c5 b0f5 b0c6 b0f6 b0c7 b0f7 b0c8 b0f8 b0c9 b0f9 b0l b1c0 b1f0 b1c1 b1f1 b1c2 b1f2 b1c3 b1f3 b1l b2c0 b2f0 b2c1 b2f1 b2c2 b2f2 b2c3 b2f3 b2c4 b2f4 b2c5 b2f5 b2c6 b2f6 b2c7 b2f7 b2c8 b2f8 b2c9 b2f9 b2l
  refine at_world (S := fun X => Blk X w.heap.size #[.slice a p.cells.length cap, .int .i64 p.bottles, .int .i64 p.inH, .int .i64 p.inA, .int .i64 p.vH, .int .i64 p.vA, .int .i64 p.lH, .int .i64 p.lA, .int .i64 p.pH, .int .i64 p.pA] 63 ∧ Blk X (w.heap.size + 1) #[.int .u8 d.kind, .int .i64 d.cell, .int .i64 d.to, .int .i64 d.n] 65 ∧ Blk X (w.heap.size + 1 + 1) #[.slice none 0 0, .int .i64 0, .int .i64 0, .int .i64 0, .int .i64 0, .int .i64 0, .int .i64 0, .int .i64 0, .int .i64 0, .int .i64 0] 63 ∧ Kept w X) ⟨by (exact blkc), by (exact blkc), by (exact blkc), by (exact kpt)⟩ ?_
  clear b0 b1 b2 hk
  rintro X ⟨b0, b1, b2, hk⟩
  have b0c0 := b0.cell 0
  have b0f0 := b0.free 0
  have b0c1 := b0.cell 1
  have b0f1 := b0.free 1
  have b0c2 := b0.cell 2
  have b0f2 := b0.free 2
  have b0c3 := b0.cell 3
  have b0f3 := b0.free 3
  have b0c4 := b0.cell 4
  have b0f4 := b0.free 4
  have b0c5 := b0.cell 5
  have b0f5 := b0.free 5
  have b0c6 := b0.cell 6
  have b0f6 := b0.free 6
  have b0c7 := b0.cell 7
  have b0f7 := b0.free 7
  have b0c8 := b0.cell 8
  have b0f8 := b0.free 8
  have b0c9 := b0.cell 9
  have b0f9 := b0.free 9
  have b0l := b0.lt
  simp at b0c0 b0c1 b0c2 b0c3 b0c4 b0c5 b0c6 b0c7 b0c8 b0c9
  have b1c0 := b1.cell 0
  have b1f0 := b1.free 0
  have b1c1 := b1.cell 1
  have b1f1 := b1.free 1
  have b1c2 := b1.cell 2
  have b1f2 := b1.free 2
  have b1c3 := b1.cell 3
  have b1f3 := b1.free 3
  have b1l := b1.lt
  simp at b1c0 b1c1 b1c2 b1c3
  have b2c0 := b2.cell 0
  have b2f0 := b2.free 0
  have b2c1 := b2.cell 1
  have b2f1 := b2.free 1
  have b2c2 := b2.cell 2
  have b2f2 := b2.free 2
  have b2c3 := b2.cell 3
  have b2f3 := b2.free 3
  have b2c4 := b2.cell 4
  have b2f4 := b2.free 4
  have b2c5 := b2.cell 5
  have b2f5 := b2.free 5
  have b2c6 := b2.cell 6
  have b2f6 := b2.free 6
  have b2c7 := b2.cell 7
  have b2f7 := b2.free 7
  have b2c8 := b2.cell 8
  have b2f8 := b2.free 8
  have b2c9 := b2.cell 9
  have b2f9 := b2.free 9
  have b2l := b2.lt
  simp at b2c0 b2c1 b2c2 b2c3 b2c4 b2c5 b2c6 b2c7 b2c8 b2c9
  go_upto_region 7 with (go_at_call 47; (with_reducible refine (r_Twin p a cap _ (hx.later (by (exact kpt)) (Nat.le_refl _)) (by omega) hz).mono ?_); rintro e w1 ⟨ad, cp, rfl, hm1, hb1⟩)
  have b1k := b1.keep hb1
  have b2k := b2.keep hb1
  have hsz := b2k.lt
  have hm2 := hm1.base (C := w.heap.size) hk.size
  have hk2 := hk.trans (hb1.mono hk.size)
  refine at_world (S := fun Y => Blk Y (w.heap.size + 1) #[.int .u8 d.kind, .int .i64 d.cell, .int .i64 d.to, .int .i64 d.n] 65 ∧ Blk Y (w.heap.size + 1 + 1) #[.slice none 0 0, .int .i64 0, .int .i64 0, .int .i64 0, .int .i64 0, .int .i64 0, .int .i64 0, .int .i64 0, .int .i64 0, .int .i64 0] 63 ∧ Blk Y w1.heap.size #[.slice ad p.cells.length cp, .int .i64 (p.bottles), .int .i64 (p.inH), .int .i64 (p.inA), .int .i64 (p.vH), .int .i64 (p.vA), .int .i64 (p.lH), .int .i64 (p.lA), .int .i64 (p.pH), .int .i64 (p.pA)] 63 ∧ Mine 25 w.heap.size Y (.slice ad p.cells.length cp) p.cells ∧ Kept w Y ∧ w.heap.size + 1 + 1 < w1.heap.size) ⟨by (exact blkc), by (exact blkc), by (exact blkc), by exact (by have hnp := mine_past hm2 (Nat.le_refl _); (repeat (with_reducible refine Mine.off ?_ hnp _)); exact hm2.alloc _), by (exact kpt), hsz⟩ ?_
  clear b0c0 b0f0 b0c1 b0f1 b0c2 b0f2 b0c3 b0f3 b0c4 b0f4 b0c5 b0f5 b0c6 b0f6 b0c7 b0f7 b0c8 b0f8 b0c9 b0f9 b0l b1c0 b1f0 b1c1 b1f1 b1c2 b1f2 b1c3 b1f3 b1l b2c0 b2f0 b2c1 b2f1 b2c2 b2f2 b2c3 b2f3 b2c4 b2f4 b2c5 b2f5 b2c6 b2f6 b2c7 b2f7 b2c8 b2f8 b2c9 b2f9 b2l b0 b1 b2 hk b1k b2k hm2 hk2 hm1 hb1 hsz
  rintro Y ⟨b1, b2, r3, hm, hk, hs⟩
  generalize w1.heap.size = s at hs r3 ⊢
  clear hb
  have b1c0 := fun g : Later Y => (b1.later g).cell 0
  have b1f0 := fun g : Later Y => (b1.later g).free 0
  have b1c1 := fun g : Later Y => (b1.later g).cell 1
  have b1f1 := fun g : Later Y => (b1.later g).free 1
  have b1c2 := fun g : Later Y => (b1.later g).cell 2
  have b1f2 := fun g : Later Y => (b1.later g).free 2
  have b1c3 := fun g : Later Y => (b1.later g).cell 3
  have b1f3 := fun g : Later Y => (b1.later g).free 3
  have b1l := fun g : Later Y => (b1.later g).lt
  simp at b1c0 b1c1 b1c2 b1c3
  have r3c0 := fun g : Later Y => (r3.later g).cell 0
  have r3f0 := fun g : Later Y => (r3.later g).free 0
  have r3c1 := fun g : Later Y => (r3.later g).cell 1
  have r3f1 := fun g : Later Y => (r3.later g).free 1
  have r3c2 := fun g : Later Y => (r3.later g).cell 2
  have r3f2 := fun g : Later Y => (r3.later g).free 2
  have r3c3 := fun g : Later Y => (r3.later g).cell 3
  have r3f3 := fun g : Later Y => (r3.later g).free 3
  have r3c4 := fun g : Later Y => (r3.later g).cell 4
  have r3f4 := fun g : Later Y => (r3.later g).free 4
  have r3c5 := fun g : Later Y => (r3.later g).cell 5
  have r3f5 := fun g : Later Y => (r3.later g).free 5
  have r3c6 := fun g : Later Y => (r3.later g).cell 6
  have r3f6 := fun g : Later Y => (r3.later g).free 6
  have r3c7 := fun g : Later Y => (r3.later g).cell 7
  have r3f7 := fun g : Later Y => (r3.later g).free 7
  have r3c8 := fun g : Later Y => (r3.later g).cell 8
  have r3f8 := fun g : Later Y => (r3.later g).free 8
  have r3c9 := fun g : Later Y => (r3.later g).cell 9
  have r3f9 := fun g : Later Y => (r3.later g).free 9
  have r3l := fun g : Later Y => (r3.later g).lt
  simp at r3c0 r3c1 r3c2 r3c3 r3c4 r3c5 r3c6 r3c7 r3c8 r3c9
  refine Later.region (by kernel_rfl) (by kernel_rfl) ?_
  repeat (first | go_big_quiet_skip | (go_big_quiet_want; go_big_quiet_op; first | go_big_quiet_on | (apply Exists.intro; refine ⟨fun g => ?_, ?_⟩; (focus (first | (go_at_call 117; exact Later.call (HMX _)))); go_big_quiet_on)))
  refine wpQuiet_nil ?_
  intro gg
  clear b1c0 b1f0 b1c1 b1f1 b1c2 b1f2 b1c3 b1f3 b1l r3c0 r3f0 r3c1 r3f1 r3c2 r3f2 r3c3 r3f3 r3c4 r3f4 r3c5 r3f5 r3c6 r3f6 r3c7 r3f7 r3c8 r3f8 r3c9 r3f9 r3l
  have z1 := b1.later gg
  have z2 := b2.later gg
  have z3 := r3.later gg
  have hmg := hm.keep gg.ok
  have hkg := Kept.drop hk gg.ok
  have hne := hmg.ne z3 (by decide)
  have z1c0 := z1.cell 0
  have z1f0 := z1.free 0
  have z1c1 := z1.cell 1
  have z1f1 := z1.free 1
  have z1c2 := z1.cell 2
  have z1f2 := z1.free 2
  have z1c3 := z1.cell 3
  have z1f3 := z1.free 3
  have z1l := z1.lt
  simp at z1c0 z1c1 z1c2 z1c3
  have z3c0 := z3.cell 0
  have z3f0 := z3.free 0
  have z3c1 := z3.cell 1
  have z3f1 := z3.free 1
  have z3c2 := z3.cell 2
  have z3f2 := z3.free 2
  have z3c3 := z3.cell 3
  have z3f3 := z3.free 3
  have z3c4 := z3.cell 4
  have z3f4 := z3.free 4
  have z3c5 := z3.cell 5
  have z3f5 := z3.free 5
  have z3c6 := z3.cell 6
  have z3f6 := z3.free 6
  have z3c7 := z3.cell 7
  have z3f7 := z3.free 7
  have z3c8 := z3.cell 8
  have z3f8 := z3.free 8
  have z3c9 := z3.cell 9
  have z3f9 := z3.free 9
  have z3l := z3.lt
  simp at z3c0 z3c1 z3c2 z3c3 z3c4 z3c5 z3c6 z3c7 z3c8 z3c9
  go_upto_region 14 with (go_at_call 117; (with_reducible refine (HMW _).mono ?_); rintro e w9 ⟨rfl, rfl⟩)
  refine at_world (S := fun V => Blk V (w.heap.size + 1) #[.int .u8 d.kind, .int .i64 d.cell, .int .i64 d.to, .int .i64 d.n] 65 ∧ Blk V (w.heap.size + 1 + 1) #[.slice none 0 0, .int .i64 0, .int .i64 0, .int .i64 0, .int .i64 0, .int .i64 0, .int .i64 0, .int .i64 0, .int .i64 0, .int .i64 0] 63 ∧ Blk V s #[.slice ad p.cells.length cp, .int .i64 (p.bottles), .int .i64 (p.inH), .int .i64 (p.inA), .int .i64 (p.vH), .int .i64 (p.vA), .int .i64 (p.lH), .int .i64 (p.lA), .int .i64 (p.pH), .int .i64 (p.pA)] 63 ∧ Mine 25 w.heap.size V (.slice ad p.cells.length cp) p.cells ∧ Kept w V) ⟨z1.alloc _, z2.alloc _, z3.alloc _, hmg.alloc _, by (exact kpt)⟩ ?_
  clear hne b1 b2 r3 hm hk z1 z2 z3 hmg hkg z1c0 z1f0 z1c1 z1f1 z1c2 z1f2 z1c3 z1f3 z1l z3c0 z3f0 z3c1 z3f1 z3c2 z3f2 z3c3 z3f3 z3c4 z3f4 z3c5 z3f5 z3c6 z3f6 z3c7 z3f7 z3c8 z3f8 z3c9 z3f9 z3l
  rintro V ⟨b1, b2, r3, hm, hk⟩
  go_loopw [9] (fun i wr => ∃ j : Nat, (j : Int) ≤ d.n ∧ i = .int .i64 j ∧ Blk wr (w.heap.size + 1) #[.int .u8 d.kind, .int .i64 d.cell, .int .i64 d.to, .int .i64 d.n] 65 ∧ Blk wr (w.heap.size + 1 + 1) #[.slice none 0 0, .int .i64 0, .int .i64 0, .int .i64 0, .int .i64 0, .int .i64 0, .int .i64 0, .int .i64 0, .int .i64 0, .int .i64 0] 63 ∧ Blk wr s #[.slice ad p.cells.length cp, .int .i64 ((ticks p j).bottles), .int .i64 ((ticks p j).inH), .int .i64 ((ticks p j).inA), .int .i64 ((ticks p j).vH), .int .i64 ((ticks p j).vA), .int .i64 ((ticks p j).lH), .int .i64 ((ticks p j).lA), .int .i64 ((ticks p j).pH), .int .i64 ((ticks p j).pA)] 63 ∧ Mine 25 w.heap.size wr (.slice ad p.cells.length cp) (ticks p j).cells ∧ Kept w wr) (fun i _ => d.n.toNat - (intOf i).toNat)
  case atStart => exact ⟨0, by omega, rfl, b1, b2, r3, hm, hk⟩
  case round =>
    clear b1 b2 r3 hm hk
    obtain ⟨j, hj, rfl, b1, b2, r3, hm, hk⟩ := hrel
    by_cases hlt : (j : Int) < d.n
    · have HJB := Lib.hid (HJ.out j)
      obtain ⟨q', hq'⟩ : ∃ q', q' = ticks p (j + 1) := ⟨_, rfl⟩
      have HJQ := Lib.hid hq'
      have HJN := Lib.hid (show q' = tickTo (ticks p j) p.cells.length from hq')
      clear hq'
      generalize ticks p j = q at HJB HJN r3 hm
      have hsz := hk.size
      have b1c0 := b1.cell 0
      have b1f0 := b1.free 0
      have b1c1 := b1.cell 1
      have b1f1 := b1.free 1
      have b1c2 := b1.cell 2
      have b1f2 := b1.free 2
      have b1c3 := b1.cell 3
      have b1f3 := b1.free 3
      have b1l := b1.lt
      simp at b1c0 b1c1 b1c2 b1c3
      have r3c0 := r3.cell 0
      have r3f0 := r3.free 0
      have r3c1 := r3.cell 1
      have r3f1 := r3.free 1
      have r3c2 := r3.cell 2
      have r3f2 := r3.free 2
      have r3c3 := r3.cell 3
      have r3f3 := r3.free 3
      have r3c4 := r3.cell 4
      have r3f4 := r3.free 4
      have r3c5 := r3.cell 5
      have r3f5 := r3.free 5
      have r3c6 := r3.cell 6
      have r3f6 := r3.free 6
      have r3c7 := r3.cell 7
      have r3f7 := r3.free 7
      have r3c8 := r3.cell 8
      have r3f8 := r3.free 8
      have r3c9 := r3.cell 9
      have r3f9 := r3.free 9
      have r3l := r3.lt
      simp at r3c0 r3c1 r3c2 r3c3 r3c4 r3c5 r3c6 r3c7 r3c8 r3c9
      go_wp2_with (go_at_call 120; (with_reducible refine (r_tickedK hm HJB.out (by exact hsz) _ HJN.out).mono ?_); rintro e w2 ⟨rfl, hm2, hw2, hbes2⟩; have z3 := Besides.blk hbes2 (by decide) r3; have z3c0 := z3.cell 0; have z3f0 := z3.free 0; have z3c1 := z3.cell 1; have z3f1 := z3.free 1; have z3c2 := z3.cell 2; have z3f2 := z3.free 2; have z3c3 := z3.cell 3; have z3f3 := z3.free 3; have z3c4 := z3.cell 4; have z3f4 := z3.free 4; have z3c5 := z3.cell 5; have z3f5 := z3.free 5; have z3c6 := z3.cell 6; have z3f6 := z3.free 6; have z3c7 := z3.cell 7; have z3f7 := z3.free 7; have z3c8 := z3.cell 8; have z3f8 := z3.free 8; have z3c9 := z3.cell 9; have z3f9 := z3.free 9; have z3l := z3.lt; simp at z3c0 z3c1 z3c2 z3c3 z3c4 z3c5 z3c6 z3c7 z3c8 z3c9)
      have n1 := Besides.blk hbes2 (by decide) b1
      have n2 := Besides.blk hbes2 (by decide) b2
      have hk2 : Kept w w2 := hk.trans hw2
      have hne := hm2.ne z3 (by decide)
      clear b1c0 b1f0 b1c1 b1f1 b1c2 b1f2 b1c3 b1f3 b1l r3c0 r3f0 r3c1 r3f1 r3c2 r3f2 r3c3 r3f3 r3c4 r3f4 r3c5 r3f5 r3c6 r3f6 r3c7 r3f7 r3c8 r3f8 r3c9 r3f9 r3l z3c0 z3f0 z3c1 z3f1 z3c2 z3f2 z3c3 z3f3 z3c4 z3f4 z3c5 z3f5 z3c6 z3f6 z3c7 z3f7 z3c8 z3f8 z3c9 z3f9 z3l b1 b2 r3 hm hk
      go_roundw
      case rel =>
        have hs9 : w.heap.size ≤ s := by omega
        have hs8 : ∀ o, (⟨s, o, none⟩ : Addr).block ≠ w.heap.size + 1 := fun o => by show s ≠ _; omega
        have hs7 : ∀ o, (⟨s, o, none⟩ : Addr).block ≠ w.heap.size + 1 + 1 := fun o => by show s ≠ _; omega
        refine ⟨j + 1, by omega, by go_num, (((((((((((n1).other (hs8 0) _).other (hs8 1) _).other (hs8 2) _).other (hs8 3) _).other (hs8 4) _).other (hs8 5) _).other (hs8 6) _).other (hs8 7) _).other (hs8 8) _).other (hs8 9) _), (((((((((((n2).other (hs7 0) _).other (hs7 1) _).other (hs7 2) _).other (hs7 3) _).other (hs7 4) _).other (hs7 5) _).other (hs7 6) _).other (hs7 7) _).other (hs7 8) _).other (hs7 9) _), by rw [← HJQ.out]; exact (((((((((((z3).set 0 _).set 1 _).set 2 _).set 3 _).set 4 _).set 5 _).set 6 _).set 7 _).set 8 _).set 9 _).cast (by simp), ?_, (((((((((((hk2).setCell hs9 _).setCell hs9 _).setCell hs9 _).setCell hs9 _).setCell hs9 _).setCell hs9 _).setCell hs9 _).setCell hs9 _).setCell hs9 _).setCell hs9 _)⟩
        rw [← HJQ.out]
        (repeat (with_reducible refine Mine.off ?_ hne _))
        exact hm2
      case measure => simp [intOf]; omega
    · have hQ2 := Lib.hid (show Q = ticks p j by rw [HQ.out]; show ticks p d.n.toNat = _; congr 1; omega)
      have b1c0 := b1.cell 0
      have b1f0 := b1.free 0
      have b1c1 := b1.cell 1
      have b1f1 := b1.free 1
      have b1c2 := b1.cell 2
      have b1f2 := b1.free 2
      have b1c3 := b1.cell 3
      have b1f3 := b1.free 3
      have b1l := b1.lt
      simp at b1c0 b1c1 b1c2 b1c3
      have r3c0 := r3.cell 0
      have r3f0 := r3.free 0
      have r3c1 := r3.cell 1
      have r3f1 := r3.free 1
      have r3c2 := r3.cell 2
      have r3f2 := r3.free 2
      have r3c3 := r3.cell 3
      have r3f3 := r3.free 3
      have r3c4 := r3.cell 4
      have r3f4 := r3.free 4
      have r3c5 := r3.cell 5
      have r3f5 := r3.free 5
      have r3c6 := r3.cell 6
      have r3f6 := r3.free 6
      have r3c7 := r3.cell 7
      have r3f7 := r3.free 7
      have r3c8 := r3.cell 8
      have r3f8 := r3.free 8
      have r3c9 := r3.cell 9
      have r3f9 := r3.free 9
      have r3l := r3.lt
      simp at r3c0 r3c1 r3c2 r3c3 r3c4 r3c5 r3c6 r3c7 r3c8 r3c9
      go_upto_region 34 with fail
      clear b1c0 b1f0 b1c1 b1f1 b1c2 b1f2 b1c3 b1f3 b1l r3c0 r3f0 r3c1 r3f1 r3c2 r3f2 r3c3 r3f3 r3c4 r3f4 r3c5 r3f5 r3c6 r3f6 r3c7 r3f7 r3c8 r3f8 r3c9 r3f9 r3l
      refine at_world (S := fun Z => Blk Z (w.heap.size + 1 + 1) #[.slice none 0 0, .int .i64 0, .int .i64 0, .int .i64 0, .int .i64 0, .int .i64 0, .int .i64 0, .int .i64 0, .int .i64 0, .int .i64 0] 63 ∧ Blk Z s #[.slice ad p.cells.length cp, .int .i64 (Q.bottles), .int .i64 (Q.inH), .int .i64 (Q.inA), .int .i64 (Q.vH), .int .i64 (Q.vA), .int .i64 (Q.lH), .int .i64 (Q.lA), .int .i64 (Q.pH), .int .i64 (Q.pA)] 63 ∧ Mine 25 w.heap.size Z (.slice ad p.cells.length cp) Q.cells ∧ Kept w Z) ⟨b2, by rw [hQ2.out]; exact r3, by rw [hQ2.out]; exact hm, hk⟩ ?_
      clear b1 b2 r3 hm hk
      rintro Z ⟨b2, r3, hm, hk⟩
      cases hpq : plantB Q
      · have HPQ := Lib.hid hpq
        have r3c0 := r3.cell 0
        have r3f0 := r3.free 0
        have r3c1 := r3.cell 1
        have r3f1 := r3.free 1
        have r3c2 := r3.cell 2
        have r3f2 := r3.free 2
        have r3c3 := r3.cell 3
        have r3f3 := r3.free 3
        have r3c4 := r3.cell 4
        have r3f4 := r3.free 4
        have r3c5 := r3.cell 5
        have r3f5 := r3.free 5
        have r3c6 := r3.cell 6
        have r3f6 := r3.free 6
        have r3c7 := r3.cell 7
        have r3f7 := r3.free 7
        have r3c8 := r3.cell 8
        have r3f8 := r3.free 8
        have r3c9 := r3.cell 9
        have r3f9 := r3.free 9
        have r3l := r3.lt
        simp at r3c0 r3c1 r3c2 r3c3 r3c4 r3c5 r3c6 r3c7 r3c8 r3c9
        go_upto_region 35 with (go_at_call 115; (with_reducible refine (r_PlantK hm).mono ?_); rw [HPQ.out]; rintro e w4 ⟨rfl, hb4⟩)
        clear r3c0 r3f0 r3c1 r3f1 r3c2 r3f2 r3c3 r3f3 r3c4 r3f4 r3c5 r3f5 r3c6 r3f6 r3c7 r3f7 r3c8 r3f8 r3c9 r3f9 r3l
        refine at_world (S := fun U => Blk U (w.heap.size + 1 + 1) #[.slice none 0 0, .int .i64 0, .int .i64 0, .int .i64 0, .int .i64 0, .int .i64 0, .int .i64 0, .int .i64 0, .int .i64 0, .int .i64 0] 63 ∧ Blk U s #[.slice ad p.cells.length cp, .int .i64 (Q.bottles), .int .i64 (Q.inH), .int .i64 (Q.inA), .int .i64 (Q.vH), .int .i64 (Q.vA), .int .i64 (Q.lH), .int .i64 (Q.lA), .int .i64 (Q.pH), .int .i64 (Q.pA)] 63 ∧ Mine 25 w.heap.size U (.slice ad p.cells.length cp) Q.cells ∧ Kept w U) ⟨b2.keep hb4, r3.keep hb4, hm.keep hb4, Kept.drop hk hb4⟩ ?_
        clear b2 r3 hm hk hb4
        rintro U ⟨b2, r3, hm, hk⟩
        have b2c0 := b2.cell 0
        have b2f0 := b2.free 0
        have b2c1 := b2.cell 1
        have b2f1 := b2.free 1
        have b2c2 := b2.cell 2
        have b2f2 := b2.free 2
        have b2c3 := b2.cell 3
        have b2f3 := b2.free 3
        have b2c4 := b2.cell 4
        have b2f4 := b2.free 4
        have b2c5 := b2.cell 5
        have b2f5 := b2.free 5
        have b2c6 := b2.cell 6
        have b2f6 := b2.free 6
        have b2c7 := b2.cell 7
        have b2f7 := b2.free 7
        have b2c8 := b2.cell 8
        have b2f8 := b2.free 8
        have b2c9 := b2.cell 9
        have b2f9 := b2.free 9
        have b2l := b2.lt
        simp at b2c0 b2c1 b2c2 b2c3 b2c4 b2c5 b2c6 b2c7 b2c8 b2c9
        have r3c0 := r3.cell 0
        have r3f0 := r3.free 0
        have r3c1 := r3.cell 1
        have r3f1 := r3.free 1
        have r3c2 := r3.cell 2
        have r3f2 := r3.free 2
        have r3c3 := r3.cell 3
        have r3f3 := r3.free 3
        have r3c4 := r3.cell 4
        have r3f4 := r3.free 4
        have r3c5 := r3.cell 5
        have r3f5 := r3.free 5
        have r3c6 := r3.cell 6
        have r3f6 := r3.free 6
        have r3c7 := r3.cell 7
        have r3f7 := r3.free 7
        have r3c8 := r3.cell 8
        have r3f8 := r3.free 8
        have r3c9 := r3.cell 9
        have r3f9 := r3.free 9
        have r3l := r3.lt
        simp at r3c0 r3c1 r3c2 r3c3 r3c4 r3c5 r3c6 r3c7 r3c8 r3c9
        go_wp2
        refine bodyPost_ret (v := .tuple #[.agg #[.slice none 0 0, .int .i64 0, .int .i64 0, .int .i64 0, .int .i64 0, .int .i64 0, .int .i64 0, .int .i64 0, .int .i64 0, .int .i64 0], .int .i64 9]) (by simp [results, Try.results49, go_sem, b2c0, b2f0, b2c1, b2f1, b2c2, b2f2, b2c3, b2f3, b2c4, b2f4, b2c5, b2f5, b2c6, b2f6, b2c7, b2f7, b2c8, b2f8, b2c9, b2f9, r3c0, r3f0, r3c1, r3f1, r3c2, r3f2, r3c3, r3f3, r3c4, r3f4, r3c5, r3f5, r3c6, r3f6, r3c7, r3f7, r3c8, r3f8, r3c9, r3f9]) rfl ⟨.slice none 0 0, ?_, ?_, ?_⟩
        · simp [endQ, endE, HPQ.out, noPlant]
        · rw [show endQ Q = noPlant by simp [endQ, HPQ.out]]
          exact Mine.zero
        · (exact kpt)
      · have HPQ := Lib.hid hpq
        have r3c0 := r3.cell 0
        have r3f0 := r3.free 0
        have r3c1 := r3.cell 1
        have r3f1 := r3.free 1
        have r3c2 := r3.cell 2
        have r3f2 := r3.free 2
        have r3c3 := r3.cell 3
        have r3f3 := r3.free 3
        have r3c4 := r3.cell 4
        have r3f4 := r3.free 4
        have r3c5 := r3.cell 5
        have r3f5 := r3.free 5
        have r3c6 := r3.cell 6
        have r3f6 := r3.free 6
        have r3c7 := r3.cell 7
        have r3f7 := r3.free 7
        have r3c8 := r3.cell 8
        have r3f8 := r3.free 8
        have r3c9 := r3.cell 9
        have r3f9 := r3.free 9
        have r3l := r3.lt
        simp at r3c0 r3c1 r3c2 r3c3 r3c4 r3c5 r3c6 r3c7 r3c8 r3c9
        go_upto_region 36 with (go_at_call 115; (with_reducible refine (r_PlantK hm).mono ?_); rw [HPQ.out]; rintro e w4 ⟨rfl, hb4⟩)
        clear r3c0 r3f0 r3c1 r3f1 r3c2 r3f2 r3c3 r3f3 r3c4 r3f4 r3c5 r3f5 r3c6 r3f6 r3c7 r3f7 r3c8 r3f8 r3c9 r3f9 r3l
        refine at_world (S := fun U => Blk U (w.heap.size + 1 + 1) #[.slice none 0 0, .int .i64 0, .int .i64 0, .int .i64 0, .int .i64 0, .int .i64 0, .int .i64 0, .int .i64 0, .int .i64 0, .int .i64 0] 63 ∧ Blk U s #[.slice ad p.cells.length cp, .int .i64 (Q.bottles), .int .i64 (Q.inH), .int .i64 (Q.inA), .int .i64 (Q.vH), .int .i64 (Q.vA), .int .i64 (Q.lH), .int .i64 (Q.lA), .int .i64 (Q.pH), .int .i64 (Q.pA)] 63 ∧ Mine 25 w.heap.size U (.slice ad p.cells.length cp) Q.cells ∧ Kept w U) ⟨b2.keep hb4, r3.keep hb4, hm.keep hb4, Kept.drop hk hb4⟩ ?_
        clear b2 r3 hm hk hb4
        rintro U ⟨b2, r3, hm, hk⟩
        have b2c0 := b2.cell 0
        have b2f0 := b2.free 0
        have b2c1 := b2.cell 1
        have b2f1 := b2.free 1
        have b2c2 := b2.cell 2
        have b2f2 := b2.free 2
        have b2c3 := b2.cell 3
        have b2f3 := b2.free 3
        have b2c4 := b2.cell 4
        have b2f4 := b2.free 4
        have b2c5 := b2.cell 5
        have b2f5 := b2.free 5
        have b2c6 := b2.cell 6
        have b2f6 := b2.free 6
        have b2c7 := b2.cell 7
        have b2f7 := b2.free 7
        have b2c8 := b2.cell 8
        have b2f8 := b2.free 8
        have b2c9 := b2.cell 9
        have b2f9 := b2.free 9
        have b2l := b2.lt
        simp at b2c0 b2c1 b2c2 b2c3 b2c4 b2c5 b2c6 b2c7 b2c8 b2c9
        have r3c0 := r3.cell 0
        have r3f0 := r3.free 0
        have r3c1 := r3.cell 1
        have r3f1 := r3.free 1
        have r3c2 := r3.cell 2
        have r3f2 := r3.free 2
        have r3c3 := r3.cell 3
        have r3f3 := r3.free 3
        have r3c4 := r3.cell 4
        have r3f4 := r3.free 4
        have r3c5 := r3.cell 5
        have r3f5 := r3.free 5
        have r3c6 := r3.cell 6
        have r3f6 := r3.free 6
        have r3c7 := r3.cell 7
        have r3f7 := r3.free 7
        have r3c8 := r3.cell 8
        have r3f8 := r3.free 8
        have r3c9 := r3.cell 9
        have r3f9 := r3.free 9
        have r3l := r3.lt
        simp at r3c0 r3c1 r3c2 r3c3 r3c4 r3c5 r3c6 r3c7 r3c8 r3c9
        go_wp2
        refine bodyPost_ret (v := .tuple #[.agg #[.slice ad p.cells.length cp, .int .i64 (Q.bottles), .int .i64 (Q.inH), .int .i64 (Q.inA), .int .i64 (Q.vH), .int .i64 (Q.vA), .int .i64 (Q.lH), .int .i64 (Q.lA), .int .i64 (Q.pH), .int .i64 (Q.pA)], .int .i64 0]) (by simp [results, Try.results49, go_sem, b2c0, b2f0, b2c1, b2f1, b2c2, b2f2, b2c3, b2f3, b2c4, b2f4, b2c5, b2f5, b2c6, b2f6, b2c7, b2f7, b2c8, b2f8, b2c9, b2f9, r3c0, r3f0, r3c1, r3f1, r3c2, r3f2, r3c3, r3f3, r3c4, r3f4, r3c5, r3f5, r3c6, r3f6, r3c7, r3f7, r3c8, r3f8, r3c9, r3f9]) rfl ⟨.slice ad p.cells.length cp, ?_, ?_, ?_⟩
        · simp [endQ, endE, HPQ.out, noPlant]
        · rw [show endQ Q = Q by simp [endQ, HPQ.out]]
          have hne := hm.ne b2 (by decide)
          (repeat (with_reducible refine Mine.off ?_ (by with_reducible assumption) _))
          exact hm
        · (exact kpt)

end Go.Proofs.Ytemafanncejeiaa

/-
  The reference: Do.
-/
namespace Go.Proofs.Ytemafanncejeiaa
open Go.RowKit Bal Bal.Trim Bal.Gas
set_option linter.unusedVariables false
set_option linter.unusedSimpArgs false
set_option maxHeartbeats 8000000

theorem sized_cases (p : Plant) (d : Deed) : sizedE p d = 2 ∨ (sizedE p d = 0 ∧ ((d.kind = 7 ∧ inB d.n 1 1000 = true) ∨ ((1 ≤ d.kind ∧ d.kind ≤ 6) ∧ inB d.n 1 10000000 = true ∧ (d.kind ≠ 1 → inB d.cell 0 (p.cells.length - 1) = true) ∧ (d.kind = 4 → inB d.to 0 (p.cells.length - 1) = true ∧ d.to ≠ d.cell)))) := by
  unfold sizedE
  by_cases h7 : d.kind = 7 ∧ inB d.n 1 1000 = true
  · exact .inr ⟨by simp [h7], .inl h7⟩
  · rw [if_neg h7]
    by_cases h1 : d.kind < 1 ∨ 6 < d.kind ∨ inB d.n 1 10000000 = false
    · exact .inl (by rw [if_pos h1])
    · rw [if_neg h1]
      simp only [not_or, Bool.not_eq_false] at h1
      by_cases h2 : d.kind ≠ 1 ∧ inB d.cell 0 (p.cells.length - 1) = false
      · exact .inl (by rw [if_pos h2])
      · rw [if_neg h2]
        by_cases h3 : d.kind = 4 ∧ (inB d.to 0 (p.cells.length - 1) = false ∨ d.to = d.cell)
        · exact .inl (by rw [if_pos h3])
        · rw [if_neg h3]
          refine .inr ⟨rfl, .inr ⟨by omega, h1.2.2, fun hk => ?_, fun hk => ?_⟩⟩
          · cases hc : inB d.cell 0 (p.cells.length - 1)
            · exact absurd ⟨hk, hc⟩ h2
            · rfl
          · cases hc : inB d.to 0 (p.cells.length - 1)
            · exact absurd ⟨hk, .inl hc⟩ h3
            · exact ⟨rfl, fun he => h3 ⟨hk, .inr he⟩⟩
theorem rng_one (a lo hi : Int) : rng [a] lo hi = inB a lo hi := by simp [rng]
theorem errA_sized {p : Plant} {d : Deed} (h : sizedE p d = 2) : errA p d = 2 := by
  by_cases k1 : d.kind = 1
  · cases hn : inB d.n 1 10000000 <;> simp [sizedE, errA, rng_one, k1, hn] at h ⊢
  · by_cases k4 : d.kind = 4
    · cases hn : inB d.n 1 10000000 <;> cases hc : inB d.cell 0 (p.cells.length - 1) <;> cases ht : inB d.to 0 (p.cells.length - 1) <;> simp [sizedE, errA, argB, toB, rng_one, k4, hn, hc, ht] at h ⊢
      simp [h]
    · by_cases k7 : d.kind = 7
      · cases hn : inB d.n 1 1000 <;> simp [sizedE, errA, rng_one, k7, hn] at h ⊢
      · have key : (d.kind = 2 ∨ d.kind = 3 ∨ d.kind = 5 ∨ d.kind = 6) ∨ ¬ (d.kind = 2 ∨ d.kind = 3 ∨ d.kind = 5 ∨ d.kind = 6) := Decidable.em _
        rcases key with (k | k | k | k) | k
        · cases hn : inB d.n 1 10000000 <;> cases hc : inB d.cell 0 (p.cells.length - 1) <;> simp [sizedE, errA, argB, rng_one, k, hn, hc] at h ⊢
        · cases hn : inB d.n 1 10000000 <;> cases hc : inB d.cell 0 (p.cells.length - 1) <;> simp [sizedE, errA, argB, rng_one, k, hn, hc] at h ⊢
        · cases hn : inB d.n 1 10000000 <;> cases hc : inB d.cell 0 (p.cells.length - 1) <;> simp [sizedE, errA, argB, rng_one, k, hn, hc] at h ⊢
        · cases hn : inB d.n 1 10000000 <;> cases hc : inB d.cell 0 (p.cells.length - 1) <;> simp [sizedE, errA, argB, rng_one, k, hn, hc] at h ⊢
        · simp only [not_or] at k
          obtain ⟨a2, a3, a5, a6⟩ := k
          simp [errA, k1, a2, a3, k4, a5, a6, k7]

theorem zero_end {p : Plant} {d : Deed} {a : Option Addr} {cap : Nat} {w : World} {n : Int} (h : Calls Try.prog 49 #[.agg #[.slice a p.cells.length cap, .int .i64 p.bottles, .int .i64 p.inH, .int .i64 p.inA, .int .i64 p.vH, .int .i64 p.vA, .int .i64 p.lH, .int .i64 p.lA, .int .i64 p.pH, .int .i64 p.pA], .agg #[.int .u8 d.kind, .int .i64 d.cell, .int .i64 d.to, .int .i64 d.n]] w fun e w' => e = .returned (.tuple #[.agg #[.slice none 0 0, .int .i64 0, .int .i64 0, .int .i64 0, .int .i64 0, .int .i64 0, .int .i64 0, .int .i64 0, .int .i64 0, .int .i64 0], .int .i64 n]) ∧ Kept w w') : Calls Try.prog 49 #[.agg #[.slice a p.cells.length cap, .int .i64 p.bottles, .int .i64 p.inH, .int .i64 p.inA, .int .i64 p.vH, .int .i64 p.vA, .int .i64 p.lH, .int .i64 p.lA, .int .i64 p.pH, .int .i64 p.pA], .agg #[.int .u8 d.kind, .int .i64 d.cell, .int .i64 d.to, .int .i64 d.n]] w fun e w' => ∃ v, e = .returned (.tuple #[.agg #[v, .int .i64 (noPlant).bottles, .int .i64 (noPlant).inH, .int .i64 (noPlant).inA, .int .i64 (noPlant).vH, .int .i64 (noPlant).vA, .int .i64 (noPlant).lH, .int .i64 (noPlant).lA, .int .i64 (noPlant).pH, .int .i64 (noPlant).pA], .int .i64 (n)]) ∧ Mine 25 w.heap.size w' v (noPlant).cells ∧ Kept w w' := by
  refine h.mono ?_
  rintro e w' ⟨rfl, hk⟩
  exact ⟨.slice none 0 0, rfl, Mine.zero, hk⟩
theorem r_Do (p : Plant) (d : Deed) (a : Option Addr) (cap : Nat) (w : World) (hx : Row Cell.cells 7 w.heap.size w a p.cells) (hc : p.cells.length ≤ cap) (hM : cap ≤ maxLen) (hz : a = none → cap = 0) : Calls Try.prog 49 #[.agg #[.slice a p.cells.length cap, .int .i64 p.bottles, .int .i64 p.inH, .int .i64 p.inA, .int .i64 p.vH, .int .i64 p.vA, .int .i64 p.lH, .int .i64 p.lA, .int .i64 p.pH, .int .i64 p.pA], .agg #[.int .u8 d.kind, .int .i64 d.cell, .int .i64 d.to, .int .i64 d.n]] w fun e w' => ∃ v, e = .returned (.tuple #[.agg #[v, .int .i64 (doQ p d).bottles, .int .i64 (doQ p d).inH, .int .i64 (doQ p d).inA, .int .i64 (doQ p d).vH, .int .i64 (doQ p d).vA, .int .i64 (doQ p d).lH, .int .i64 (doQ p d).lA, .int .i64 (doQ p d).pH, .int .i64 (doQ p d).pA], .int .i64 (doE p d)]) ∧ Mine 25 w.heap.size w' v (doQ p d).cells ∧ Kept w w' := by
  cases hp : plantB p
  · rw [show doE p d = 32 by simp [doE, hp], show doQ p d = noPlant by simp [doQ, doE, hp]]
    exact zero_end (r_Do_bad p d a cap w hx hc hM hz hp)
  · rcases sized_cases p d with hs | ⟨hs, ⟨hk, hn⟩ | ⟨hk16, hn, hcl, hto⟩⟩
    · have hE := errA_sized hs
      rw [show doE p d = 2 by simp [doE, hp, hE], show doQ p d = noPlant by simp [doQ, doE, hp, hE]]
      exact zero_end (r_Do_size p d a cap w hx hc hM hz hp hs)
    · have hE : errA p d = 0 := by simp [errA, rng_one, hk, hn]
      have e1 : doE p d = endE (tickP p d) := by simp [doE, hp, hE, resA, hk, endE]
      have e2 : doQ p d = endQ (tickP p d) := by simp [doQ, doE, hp, hE, resA, hk, endQ] <;> (split <;> simp_all)
      rw [e1, e2]
      exact r_Do_7 p d a cap w hx hc hM hz hp hs hk (inB_iff.1 hn)
    · have key : d.kind = 1 ∨ d.kind = 2 ∨ d.kind = 3 ∨ d.kind = 4 ∨ d.kind = 5 ∨ d.kind = 6 := by omega
      rcases key with hk | hk | hk | hk | hk | hk
      · have hE : errA p d = 0 := by simp [errA, argB, toB, rng_one, hk, hn]
        have e1 : doE p d = endE (buyP p d) := by simp [doE, hp, hE, resA, hk, endE]
        have e2 : doQ p d = endQ (buyP p d) := by simp [doQ, doE, hp, hE, resA, hk, endQ] <;> (split <;> simp_all)
        rw [e1, e2]
        exact r_Do_1 p d a cap w hx hc hM hz hp hs hk (inB_iff.1 hn)
      · have hc1 := hcl (by omega)
        by_cases hl : p.bottles < d.n
        · have hE : errA p d = 6 := by simp [errA, argB, toB, rng_one, hk, hn, hc1, hl]
          rw [show doE p d = 6 by simp [doE, hp, hE], show doQ p d = noPlant by simp [doQ, doE, hp, hE]]
          exact zero_end (r_Do_lack2 p d a cap w hx hc hM hz hp hs hk hl)
        · have hE : errA p d = 0 := by simp [errA, argB, toB, rng_one, hk, hn, hc1, hl]
          have e1 : doE p d = endE (fillP p d) := by simp [doE, hp, hE, resA, hk, endE]
          have e2 : doQ p d = endQ (fillP p d) := by simp [doQ, doE, hp, hE, resA, hk, endQ] <;> (split <;> simp_all)
          rw [e1, e2]
          exact r_Do_2 p d a cap w hx hc hM hz hp hs hk (inB_iff.1 hn) hc1 hl
      · have hc1 := hcl (by omega)
        by_cases hl : amount (at_ p d) < d.n
        · have hE : errA p d = 6 := by simp [errA, argB, toB, rng_one, hk, hn, hc1, hl]
          rw [show doE p d = 6 by simp [doE, hp, hE], show doQ p d = noPlant by simp [doQ, doE, hp, hE]]
          exact zero_end (r_Do_lackm p d a cap w hx hc hM hz hp hs (by simp [mixedB, hk]) hc1 hl)
        · have hE : errA p d = 0 := by simp [errA, argB, toB, rng_one, hk, hn, hc1, hl]
          have e1 : doE p d = endE (valveP p d) := by simp [doE, hp, hE, resA, hk, endE]
          have e2 : doQ p d = endQ (valveP p d) := by simp [doQ, doE, hp, hE, resA, hk, endQ] <;> (split <;> simp_all)
          rw [e1, e2]
          exact r_Do_3 p d a cap w hx hc hM hz hp hs hk (inB_iff.1 hn) hc1 hl
      · have hc1 := hcl (by omega)
        obtain ⟨ht, he⟩ := hto hk
        by_cases hl : amount (at_ p d) < d.n
        · have hE : errA p d = 6 := by simp [errA, argB, toB, rng_one, hk, hn, hc1, hl, ht, he]
          rw [show doE p d = 6 by simp [doE, hp, hE], show doQ p d = noPlant by simp [doQ, doE, hp, hE]]
          exact zero_end (r_Do_lackm p d a cap w hx hc hM hz hp hs (by simp [mixedB, hk]) hc1 hl)
        · have hE : errA p d = 0 := by simp [errA, argB, toB, rng_one, hk, hn, hc1, hl, ht, he]
          have e1 : doE p d = endE (moveP p d) := by simp [doE, hp, hE, resA, hk, endE]
          have e2 : doQ p d = endQ (moveP p d) := by simp [doQ, doE, hp, hE, resA, hk, endQ] <;> (split <;> simp_all)
          rw [e1, e2]
          exact r_Do_4 p d a cap w hx hc hM hz hp hs hk (inB_iff.1 hn) hc1 ht hl
      · have hc1 := hcl (by omega)
        by_cases hl : amount (at_ p d) < d.n
        · have hE : errA p d = 6 := by simp [errA, argB, toB, rng_one, hk, hn, hc1, hl]
          rw [show doE p d = 6 by simp [doE, hp, hE], show doQ p d = noPlant by simp [doQ, doE, hp, hE]]
          exact zero_end (r_Do_lackm p d a cap w hx hc hM hz hp hs (by simp [mixedB, hk]) hc1 hl)
        · have hE : errA p d = 0 := by simp [errA, argB, toB, rng_one, hk, hn, hc1, hl]
          have e1 : doE p d = endE (purifyP p d) := by simp [doE, hp, hE, resA, hk, endE]
          have e2 : doQ p d = endQ (purifyP p d) := by simp [doQ, doE, hp, hE, resA, hk, endQ] <;> (split <;> simp_all)
          rw [e1, e2]
          exact r_Do_5 p d a cap w hx hc hM hz hp hs hk (inB_iff.1 hn) hc1 hl
      · have hc1 := hcl (by omega)
        have hE : errA p d = 0 := by simp [errA, argB, toB, rng_one, hk, hn, hc1]
        have e1 : doE p d = endE (breatheP p d) := by simp [doE, hp, hE, resA, hk, endE]
        have e2 : doQ p d = endQ (breatheP p d) := by simp [doQ, doE, hp, hE, resA, hk, endQ] <;> (split <;> simp_all)
        rw [e1, e2]
        exact r_Do_6 p d a cap w hx hc hM hz hp hs hk (inB_iff.1 hn) hc1

end Go.Proofs.Ytemafanncejeiaa

/-
  GasDoes: plants and acts are the same in the program and in the reference: for every input.
-/
namespace Go.Proofs.Ytemafanncejeiaa
open Go.RowKit Bal Bal.Trim Bal.Gas
set_option linter.unusedVariables false
set_option linter.unusedSimpArgs false
set_option maxHeartbeats 8000000
set_option maxRecDepth 100000

theorem r_Great1 (p : Plant) (d : Deed) (v : Value) (a : Option Addr) (cap : Nat) (m : Nat) (w : World) (hv : v = .slice a p.cells.length cap) (hx : Blk w m #[.int .u8 d.kind, .int .i64 d.cell, .int .i64 d.to, .int .i64 d.n] 65) (hc : p.cells.length ≤ cap) (hM : cap ≤ maxLen) :
    Calls Try.prog 46 #[.agg #[v, .int .i64 p.bottles, .int .i64 p.inH, .int .i64 p.inA, .int .i64 p.vH, .int .i64 p.vA, .int .i64 p.lH, .int .i64 p.lA, .int .i64 p.pH, .int .i64 p.pA], .slice (some ⟨m, 0, none⟩) 1 1] w fun e w' => e = .returned (.bool (greatB p [d])) ∧ Kept w w' :=
  r_Great p [d] v a cap _ 1 w hv (Row.one hx rfl) hc hM (by simp) (by simp [maxLen])
theorem f_DoK {B n cp : Nat} {ad : Option Addr} {p : Plant} (d : Deed) {w : World} (h : Mine 25 B w (.slice ad n cp) p.cells) (hu : 0 ≤ d.kind ∧ d.kind ≤ 255) (Q : Plant) (E : Int) (hQ : Q = doQ p d) (hE : E = doE p d) :
    Calls Try.prog 48 #[.agg #[.slice ad n cp, .int .i64 p.bottles, .int .i64 p.inH, .int .i64 p.inA, .int .i64 p.vH, .int .i64 p.vA, .int .i64 p.lH, .int .i64 p.lA, .int .i64 p.pH, .int .i64 p.pA], .agg #[.int .u8 d.kind, .int .i64 d.cell, .int .i64 d.to, .int .i64 d.n]] w fun e w' => ∃ v, e = .returned (.tuple #[.agg #[v, .int .i64 Q.bottles, .int .i64 Q.inH, .int .i64 Q.inA, .int .i64 Q.vH, .int .i64 Q.vA, .int .i64 Q.lH, .int .i64 Q.lA, .int .i64 Q.pH, .int .i64 Q.pA], .int .i64 E]) ∧ Mine 25 w.heap.size w' v Q.cells ∧ Kept w w' := by
  obtain ⟨h1, h2, h3, h4, h5⟩ := h.row
  subst h1 hQ hE
  exact f_Do p d ad cp w h2 h3 h4 h5 hu
theorem r_DoK (p : Plant) (d : Deed) (a : Option Addr) (cap : Nat) (w : World) (hx : Row Cell.cells 7 w.heap.size w a p.cells) (hc : p.cells.length ≤ cap) (hM : cap ≤ maxLen) (hz : a = none → cap = 0) (Q : Plant) (E : Int) (hQ : Q = doQ p d) (hE : E = doE p d) :
    Calls Try.prog 49 #[.agg #[.slice a p.cells.length cap, .int .i64 p.bottles, .int .i64 p.inH, .int .i64 p.inA, .int .i64 p.vH, .int .i64 p.vA, .int .i64 p.lH, .int .i64 p.lA, .int .i64 p.pH, .int .i64 p.pA], .agg #[.int .u8 d.kind, .int .i64 d.cell, .int .i64 d.to, .int .i64 d.n]] w fun e w' => ∃ v, e = .returned (.tuple #[.agg #[v, .int .i64 Q.bottles, .int .i64 Q.inH, .int .i64 Q.inA, .int .i64 Q.vH, .int .i64 Q.vA, .int .i64 Q.lH, .int .i64 Q.lA, .int .i64 Q.pH, .int .i64 Q.pA], .int .i64 E]) ∧ Mine 25 w.heap.size w' v Q.cells ∧ Kept w w' := by
  subst hQ hE
  exact r_Do p d a cap w hx hc hM hz

theorem wf_u8 {n : Int} (h : (Lit.int .u8 n).wf = true) : 0 ≤ n ∧ n ≤ 255 := by
  simp only [Lit.wf, Bool.and_eq_true, decide_eq_true_eq] at h
  have e1 : IntKind.min .u8 = 0 := by decide
  have e2 : IntKind.max .u8 = 255 := by decide
  rw [e1, e2] at h
  exact h
theorem rowUp {C : Nat} {w w' : World} {ad : Option Addr} {xs : List Cell} (h : Row Cell.cells 7 C w ad xs) (hb : Kept w w') (hC : C ≤ w.heap.size) : Row Cell.cells 7 w'.heap.size w' ad xs :=
  (h.keep (hb.mono hC) (Nat.le_refl _)).up (Nat.le_trans hC hb.size)
def RoomRel (T : TypeId) (Q : Plant) (ad : Option Addr) (cp s C : Nat) (Z : World) (i : Value) (wr : World) : Prop :=
  ∃ (k : Nat) (xs : List Cell), k ≤ Q.cells.length ∧ i = .int .i64 k ∧ xs.length = Q.cells.length ∧ Blk wr s #[.slice ad Q.cells.length cp, .int .i64 Q.bottles, .int .i64 Q.inH, .int .i64 Q.inA, .int .i64 Q.vH, .int .i64 Q.vA, .int .i64 Q.lH, .int .i64 Q.lA, .int .i64 Q.pH, .int .i64 Q.pA] 63 ∧ Mine T C wr (.slice ad Q.cells.length cp) xs ∧ Below C Z wr
theorem law_GasDoes (p : Plant) (d : Deed) (a : Option Addr) (cap : Nat) (w : World) (hx : Row Cell.cells 7 w.heap.size w a p.cells) (hc : p.cells.length ≤ cap) (hM : cap ≤ maxLen) (hz : a = none → cap = 0) (hu : 0 ≤ d.kind ∧ d.kind ≤ 255) : Calls Try.prog 6 #[.agg #[.slice a p.cells.length cap, .int .i64 p.bottles, .int .i64 p.inH, .int .i64 p.inA, .int .i64 p.vH, .int .i64 p.vA, .int .i64 p.lH, .int .i64 p.lA, .int .i64 p.pH, .int .i64 p.pA], .agg #[.int .u8 d.kind, .int .i64 d.cell, .int .i64 d.to, .int .i64 d.n]] w fun e w' => e = .returned (.bool true) ∧ Kept w w' := by
  cases hg : greatB p [d]
  · have HG := Lib.hid hg
    have hn : p.cells.length ≤ 20 := by simp [greatB] at hg; omega
    clear hg
    obtain ⟨Q, hQ⟩ : ∃ Q, Q = doQ p d := ⟨_, rfl⟩
    obtain ⟨E, hE⟩ : ∃ E, E = doE p d := ⟨_, rfl⟩
    have HQ := Lib.hid hQ
    have HE := Lib.hid hE
    clear hQ hE
    go_enter Try.func6, Try.ntmps6
    go_upto_region 4 with (first | (go_at_call 46; (with_reducible refine (r_Great1 p d _ a cap _ _ rfl (by (exact blk)) hc hM).mono ?_); rw [HG.out]; rintro e w1 ⟨rfl, hb1⟩; refine Blk.thru (b := w.heap.size) (arr := ?_) (t := ?_) ?_ hb1 ?_; rotate_left 2; (focus (exact blk)); intro rr; have rrc0 := rr.cell 0; have rrf0 := rr.free 0; have rrc1 := rr.cell 1; have rrf1 := rr.free 1; have rrc2 := rr.cell 2; have rrf2 := rr.free 2; have rrc3 := rr.cell 3; have rrf3 := rr.free 3; have rrc4 := rr.cell 4; have rrf4 := rr.free 4; have rrc5 := rr.cell 5; have rrf5 := rr.free 5; have rrc6 := rr.cell 6; have rrf6 := rr.free 6; have rrc7 := rr.cell 7; have rrf7 := rr.free 7; have rrc8 := rr.cell 8; have rrf8 := rr.free 8; have rrc9 := rr.cell 9; have rrf9 := rr.free 9; have rrl := rr.lt; simp at rrc0 rrc1 rrc2 rrc3 rrc4 rrc5 rrc6 rrc7 rrc8 rrc9; refine Blk.thru (b := (w.heap.size + 1)) (arr := ?_) (t := ?_) ?_ hb1 ?_; rotate_left 2; (focus (exact blk)); intro rq; have rqc0 := rq.cell 0; have rqf0 := rq.free 0; have rqc1 := rq.cell 1; have rqf1 := rq.free 1; have rqc2 := rq.cell 2; have rqf2 := rq.free 2; have rqc3 := rq.cell 3; have rqf3 := rq.free 3; have rql := rq.lt; simp at rqc0 rqc1 rqc2 rqc3) | (go_at_call 47; (with_reducible refine (r_Twin p a cap _ (hx.later (by (exact kpt)) (Nat.le_refl _)) (by omega) hz).mono ?_); rintro e w2 ⟨ad, cp, rfl, hm1, hb2⟩))
    have hm2 := hm1.base (C := w.heap.size) (by have := hb1.size; simp at this; omega)
    have hsz := (show Blk w2 (w.heap.size + 1) #[.int .u8 d.kind, .int .i64 d.cell, .int .i64 d.to, .int .i64 d.n] 65 by (exact blk)).lt
    refine at_world (S := fun W => Blk W w.heap.size #[.slice a p.cells.length cap, .int .i64 p.bottles, .int .i64 p.inH, .int .i64 p.inA, .int .i64 p.vH, .int .i64 p.vA, .int .i64 p.lH, .int .i64 p.lA, .int .i64 p.pH, .int .i64 p.pA] 63 ∧ Blk W (w.heap.size + 1) #[.int .u8 d.kind, .int .i64 d.cell, .int .i64 d.to, .int .i64 d.n] 65 ∧ Blk W w2.heap.size #[.slice ad p.cells.length cp, .int .i64 p.bottles, .int .i64 p.inH, .int .i64 p.inA, .int .i64 p.vH, .int .i64 p.vA, .int .i64 p.lH, .int .i64 p.lA, .int .i64 p.pH, .int .i64 p.pA] 63 ∧ Mine 25 w.heap.size W (.slice ad p.cells.length cp) p.cells ∧ Kept w W ∧ w.heap.size + 1 < w2.heap.size) ⟨by (exact blkc), by (exact blkc), by (exact blkc), by exact (by have hnp := mine_past hm2 (Nat.le_refl _); (repeat (with_reducible refine Mine.off ?_ hnp _)); exact hm2.alloc _), by (exact kpt), hsz⟩ ?_
    clear hm2 hm1 hsz hb2 hb1 rrc0 rrf0 rrc1 rrf1 rrc2 rrf2 rrc3 rrf3 rrc4 rrf4 rrc5 rrf5 rrc6 rrf6 rrc7 rrf7 rrc8 rrf8 rrc9 rrf9 rrl rqc0 rqf0 rqc1 rqf1 rqc2 rqf2 rqc3 rqf3 rql
    rintro W ⟨b2, b3, b5, hm, hk, hs⟩
    generalize w2.heap.size = s at hs b5 ⊢
    have b2c0 := b2.cell 0
    have b2f0 := b2.free 0
    have b2c1 := b2.cell 1
    have b2f1 := b2.free 1
    have b2c2 := b2.cell 2
    have b2f2 := b2.free 2
    have b2c3 := b2.cell 3
    have b2f3 := b2.free 3
    have b2c4 := b2.cell 4
    have b2f4 := b2.free 4
    have b2c5 := b2.cell 5
    have b2f5 := b2.free 5
    have b2c6 := b2.cell 6
    have b2f6 := b2.free 6
    have b2c7 := b2.cell 7
    have b2f7 := b2.free 7
    have b2c8 := b2.cell 8
    have b2f8 := b2.free 8
    have b2c9 := b2.cell 9
    have b2f9 := b2.free 9
    have b2l := b2.lt
    simp at b2c0 b2c1 b2c2 b2c3 b2c4 b2c5 b2c6 b2c7 b2c8 b2c9
    have b3c0 := b3.cell 0
    have b3f0 := b3.free 0
    have b3c1 := b3.cell 1
    have b3f1 := b3.free 1
    have b3c2 := b3.cell 2
    have b3f2 := b3.free 2
    have b3c3 := b3.cell 3
    have b3f3 := b3.free 3
    have b3l := b3.lt
    simp at b3c0 b3c1 b3c2 b3c3
    have b5c0 := b5.cell 0
    have b5f0 := b5.free 0
    have b5c1 := b5.cell 1
    have b5f1 := b5.free 1
    have b5c2 := b5.cell 2
    have b5f2 := b5.free 2
    have b5c3 := b5.cell 3
    have b5f3 := b5.free 3
    have b5c4 := b5.cell 4
    have b5f4 := b5.free 4
    have b5c5 := b5.cell 5
    have b5f5 := b5.free 5
    have b5c6 := b5.cell 6
    have b5f6 := b5.free 6
    have b5c7 := b5.cell 7
    have b5f7 := b5.free 7
    have b5c8 := b5.cell 8
    have b5f8 := b5.free 8
    have b5c9 := b5.cell 9
    have b5f9 := b5.free 9
    have b5l := b5.lt
    simp at b5c0 b5c1 b5c2 b5c3 b5c4 b5c5 b5c6 b5c7 b5c8 b5c9
    go_upto_region 5 with (go_at_call 48; (with_reducible refine (f_DoK d hm hu Q E HQ.out HE.out).mono ?_); rintro e w3 ⟨v3, rfl, hm3, hb3⟩; obtain ⟨ad3, cp3, rfl, hl3, hc3, hz3⟩ := hm3.slice)
    clear b2c0 b2f0 b2c1 b2f1 b2c2 b2f2 b2c3 b2f3 b2c4 b2f4 b2c5 b2f5 b2c6 b2f6 b2c7 b2f7 b2c8 b2f8 b2c9 b2f9 b2l b3c0 b3f0 b3c1 b3f1 b3c2 b3f2 b3c3 b3f3 b3l b5c0 b5f0 b5c1 b5f1 b5c2 b5f2 b5c3 b5f3 b5c4 b5f4 b5c5 b5f5 b5c6 b5f6 b5c7 b5f7 b5c8 b5f8 b5c9 b5f9 b5l
    have hsC := b5.lt
    obtain ⟨_, hrow, hlo, hmo, _⟩ := hm.row
    have hC := hb3.size
    generalize hCC : W.heap.size = C at hsC hrow hm3 hC
    have hrow3 := hrow.keep (hCC ▸ hb3 : Below C W w3) (Nat.le_refl _)
    have hkC : w.heap.size ≤ C := by rw [← hCC]; exact hk.size
    refine at_world (S := fun X => Blk X w.heap.size #[.slice a p.cells.length cap, .int .i64 p.bottles, .int .i64 p.inH, .int .i64 p.inA, .int .i64 p.vH, .int .i64 p.vA, .int .i64 p.lH, .int .i64 p.lA, .int .i64 p.pH, .int .i64 p.pA] 63 ∧ Blk X (w.heap.size + 1) #[.int .u8 d.kind, .int .i64 d.cell, .int .i64 d.to, .int .i64 d.n] 65 ∧ Blk X s #[.slice ad p.cells.length cp, .int .i64 p.bottles, .int .i64 p.inH, .int .i64 p.inA, .int .i64 p.vH, .int .i64 p.vA, .int .i64 p.lH, .int .i64 p.lA, .int .i64 p.pH, .int .i64 p.pA] 63 ∧ Blk X w3.heap.size #[.slice ad3 Q.cells.length cp3, .int .i64 Q.bottles, .int .i64 Q.inH, .int .i64 Q.inA, .int .i64 Q.vH, .int .i64 Q.vA, .int .i64 Q.lH, .int .i64 Q.lA, .int .i64 Q.pH, .int .i64 Q.pA] 63 ∧ Row Cell.cells 7 C X ad p.cells ∧ Mine 25 C X (.slice ad3 Q.cells.length cp3) Q.cells ∧ Kept w X ∧ C ≤ w3.heap.size) ⟨by (exact blkc), by (exact blkc), by (exact blkc), by (exact blkc), (hrow3.keep (by exact (by have hnp : C ≤ w3.heap.size := hC; (repeat (refine Below.setCell ?_ hnp _)); exact (Below.refl _ _).alloc hnp _) : Below C w3 _) (Nat.le_refl _)), by exact (by have hnp := mine_past hm3 (Nat.le_refl _); (repeat (with_reducible refine Mine.off ?_ hnp _)); exact hm3.alloc _), by (exact kpt), hC⟩ ?_
    clear b2 b3 b5 hm hk hb3 hm3 hrow hrow3 hC
    rintro X ⟨b2, b3, b5, b6, hrow, hm6, hk, hC6⟩
    generalize w3.heap.size = s6 at hC6 b6 ⊢
    have b2c0 := b2.cell 0
    have b2f0 := b2.free 0
    have b2c1 := b2.cell 1
    have b2f1 := b2.free 1
    have b2c2 := b2.cell 2
    have b2f2 := b2.free 2
    have b2c3 := b2.cell 3
    have b2f3 := b2.free 3
    have b2c4 := b2.cell 4
    have b2f4 := b2.free 4
    have b2c5 := b2.cell 5
    have b2f5 := b2.free 5
    have b2c6 := b2.cell 6
    have b2f6 := b2.free 6
    have b2c7 := b2.cell 7
    have b2f7 := b2.free 7
    have b2c8 := b2.cell 8
    have b2f8 := b2.free 8
    have b2c9 := b2.cell 9
    have b2f9 := b2.free 9
    have b2l := b2.lt
    simp at b2c0 b2c1 b2c2 b2c3 b2c4 b2c5 b2c6 b2c7 b2c8 b2c9
    have b3c0 := b3.cell 0
    have b3f0 := b3.free 0
    have b3c1 := b3.cell 1
    have b3f1 := b3.free 1
    have b3c2 := b3.cell 2
    have b3f2 := b3.free 2
    have b3c3 := b3.cell 3
    have b3f3 := b3.free 3
    have b3l := b3.lt
    simp at b3c0 b3c1 b3c2 b3c3
    go_upto_region 6 with (go_at_call 49; (with_reducible refine (r_DoK p d a cap _ (hx.later hk (Nat.le_refl _)) hc hM hz Q E HQ.out HE.out).mono ?_); rintro e w4 ⟨v4, rfl, hm4, hb4⟩; obtain ⟨ad4, cp4, rfl, hl4, hc4, hz4⟩ := hm4.slice)
    clear b2c0 b2f0 b2c1 b2f1 b2c2 b2f2 b2c3 b2f3 b2c4 b2f4 b2c5 b2f5 b2c6 b2f6 b2c7 b2f7 b2c8 b2f8 b2c9 b2f9 b2l b3c0 b3f0 b3c1 b3f1 b3c2 b3f2 b3c3 b3f3 b3l
    have hCX : C ≤ X.heap.size := by have := b6.lt; omega
    have hC4 : C ≤ w4.heap.size := by have := hb4.size; omega
    have hrow4 := hrow.keep (hb4.mono hCX) (Nat.le_refl _)
    have hm6k := hm6.keep hb4
    have hm4k := hm4.base (C := w.heap.size) hk.size
    refine at_world (S := fun Y => Blk Y w.heap.size #[.slice a p.cells.length cap, .int .i64 p.bottles, .int .i64 p.inH, .int .i64 p.inA, .int .i64 p.vH, .int .i64 p.vA, .int .i64 p.lH, .int .i64 p.lA, .int .i64 p.pH, .int .i64 p.pA] 63 ∧ Blk Y s #[.slice ad p.cells.length cp, .int .i64 p.bottles, .int .i64 p.inH, .int .i64 p.inA, .int .i64 p.vH, .int .i64 p.vA, .int .i64 p.lH, .int .i64 p.lA, .int .i64 p.pH, .int .i64 p.pA] 63 ∧ Blk Y s6 #[.slice ad3 Q.cells.length cp3, .int .i64 Q.bottles, .int .i64 Q.inH, .int .i64 Q.inA, .int .i64 Q.vH, .int .i64 Q.vA, .int .i64 Q.lH, .int .i64 Q.lA, .int .i64 Q.pH, .int .i64 Q.pA] 63 ∧ Row Cell.cells 7 C Y ad p.cells ∧ Mine 25 C Y (.slice ad3 Q.cells.length cp3) Q.cells ∧ Kept w Y ∧ Blk Y w4.heap.size #[.slice ad4 Q.cells.length cp4, .int .i64 Q.bottles, .int .i64 Q.inH, .int .i64 Q.inA, .int .i64 Q.vH, .int .i64 Q.vA, .int .i64 Q.lH, .int .i64 Q.lA, .int .i64 Q.pH, .int .i64 Q.pA] 63 ∧ Mine 25 w.heap.size Y (.slice ad4 Q.cells.length cp4) Q.cells ∧ C ≤ Y.heap.size) ⟨by (exact blkc), by (exact blkc), by (exact blkc), (hrow4.keep (by exact (by have hnp : C ≤ w4.heap.size := hC4; (repeat (refine Below.setCell ?_ hnp _)); exact (Below.refl _ _).alloc hnp _) : Below C w4 _) (Nat.le_refl _)), by exact (by have hnp := mine_past hm6k (Nat.le_refl _); (repeat (with_reducible refine Mine.off ?_ hnp _)); exact hm6k.alloc _), by (exact kpt), by (exact blkc), by exact (by have hnp := mine_past hm4k (Nat.le_refl _); (repeat (with_reducible refine Mine.off ?_ hnp _)); exact hm4k.alloc _), by simp; omega⟩ ?_
    clear b2 b3 b5 b6 hrow hm6 hk hb4 hm4 hrow4 hm6k hm4k hC4 hCX
    rintro Y ⟨b2, b5, b6, hrow, hm6, hk, b8, hm8, hCY⟩
    generalize w4.heap.size = s8 at b8 ⊢
    have b2c0 := fun g : Later Y => (b2.later g).cell 0
    have b2f0 := fun g : Later Y => (b2.later g).free 0
    have b2c1 := fun g : Later Y => (b2.later g).cell 1
    have b2f1 := fun g : Later Y => (b2.later g).free 1
    have b2c2 := fun g : Later Y => (b2.later g).cell 2
    have b2f2 := fun g : Later Y => (b2.later g).free 2
    have b2c3 := fun g : Later Y => (b2.later g).cell 3
    have b2f3 := fun g : Later Y => (b2.later g).free 3
    have b2c4 := fun g : Later Y => (b2.later g).cell 4
    have b2f4 := fun g : Later Y => (b2.later g).free 4
    have b2c5 := fun g : Later Y => (b2.later g).cell 5
    have b2f5 := fun g : Later Y => (b2.later g).free 5
    have b2c6 := fun g : Later Y => (b2.later g).cell 6
    have b2f6 := fun g : Later Y => (b2.later g).free 6
    have b2c7 := fun g : Later Y => (b2.later g).cell 7
    have b2f7 := fun g : Later Y => (b2.later g).free 7
    have b2c8 := fun g : Later Y => (b2.later g).cell 8
    have b2f8 := fun g : Later Y => (b2.later g).free 8
    have b2c9 := fun g : Later Y => (b2.later g).cell 9
    have b2f9 := fun g : Later Y => (b2.later g).free 9
    have b2l := fun g : Later Y => (b2.later g).lt
    simp at b2c0 b2c1 b2c2 b2c3 b2c4 b2c5 b2c6 b2c7 b2c8 b2c9
    have b5c0 := fun g : Later Y => (b5.later g).cell 0
    have b5f0 := fun g : Later Y => (b5.later g).free 0
    have b5c1 := fun g : Later Y => (b5.later g).cell 1
    have b5f1 := fun g : Later Y => (b5.later g).free 1
    have b5c2 := fun g : Later Y => (b5.later g).cell 2
    have b5f2 := fun g : Later Y => (b5.later g).free 2
    have b5c3 := fun g : Later Y => (b5.later g).cell 3
    have b5f3 := fun g : Later Y => (b5.later g).free 3
    have b5c4 := fun g : Later Y => (b5.later g).cell 4
    have b5f4 := fun g : Later Y => (b5.later g).free 4
    have b5c5 := fun g : Later Y => (b5.later g).cell 5
    have b5f5 := fun g : Later Y => (b5.later g).free 5
    have b5c6 := fun g : Later Y => (b5.later g).cell 6
    have b5f6 := fun g : Later Y => (b5.later g).free 6
    have b5c7 := fun g : Later Y => (b5.later g).cell 7
    have b5f7 := fun g : Later Y => (b5.later g).free 7
    have b5c8 := fun g : Later Y => (b5.later g).cell 8
    have b5f8 := fun g : Later Y => (b5.later g).free 8
    have b5c9 := fun g : Later Y => (b5.later g).cell 9
    have b5f9 := fun g : Later Y => (b5.later g).free 9
    have b5l := fun g : Later Y => (b5.later g).lt
    simp at b5c0 b5c1 b5c2 b5c3 b5c4 b5c5 b5c6 b5c7 b5c8 b5c9
    have b6c0 := fun g : Later Y => (b6.later g).cell 0
    have b6f0 := fun g : Later Y => (b6.later g).free 0
    have b6c1 := fun g : Later Y => (b6.later g).cell 1
    have b6f1 := fun g : Later Y => (b6.later g).free 1
    have b6c2 := fun g : Later Y => (b6.later g).cell 2
    have b6f2 := fun g : Later Y => (b6.later g).free 2
    have b6c3 := fun g : Later Y => (b6.later g).cell 3
    have b6f3 := fun g : Later Y => (b6.later g).free 3
    have b6c4 := fun g : Later Y => (b6.later g).cell 4
    have b6f4 := fun g : Later Y => (b6.later g).free 4
    have b6c5 := fun g : Later Y => (b6.later g).cell 5
    have b6f5 := fun g : Later Y => (b6.later g).free 5
    have b6c6 := fun g : Later Y => (b6.later g).cell 6
    have b6f6 := fun g : Later Y => (b6.later g).free 6
    have b6c7 := fun g : Later Y => (b6.later g).cell 7
    have b6f7 := fun g : Later Y => (b6.later g).free 7
    have b6c8 := fun g : Later Y => (b6.later g).cell 8
    have b6f8 := fun g : Later Y => (b6.later g).free 8
    have b6c9 := fun g : Later Y => (b6.later g).cell 9
    have b6f9 := fun g : Later Y => (b6.later g).free 9
    have b6l := fun g : Later Y => (b6.later g).lt
    simp at b6c0 b6c1 b6c2 b6c3 b6c4 b6c5 b6c6 b6c7 b6c8 b6c9
    have b8c0 := fun g : Later Y => (b8.later g).cell 0
    have b8f0 := fun g : Later Y => (b8.later g).free 0
    have b8c1 := fun g : Later Y => (b8.later g).cell 1
    have b8f1 := fun g : Later Y => (b8.later g).free 1
    have b8c2 := fun g : Later Y => (b8.later g).cell 2
    have b8f2 := fun g : Later Y => (b8.later g).free 2
    have b8c3 := fun g : Later Y => (b8.later g).cell 3
    have b8f3 := fun g : Later Y => (b8.later g).free 3
    have b8c4 := fun g : Later Y => (b8.later g).cell 4
    have b8f4 := fun g : Later Y => (b8.later g).free 4
    have b8c5 := fun g : Later Y => (b8.later g).cell 5
    have b8f5 := fun g : Later Y => (b8.later g).free 5
    have b8c6 := fun g : Later Y => (b8.later g).cell 6
    have b8f6 := fun g : Later Y => (b8.later g).free 6
    have b8c7 := fun g : Later Y => (b8.later g).cell 7
    have b8f7 := fun g : Later Y => (b8.later g).free 7
    have b8c8 := fun g : Later Y => (b8.later g).cell 8
    have b8f8 := fun g : Later Y => (b8.later g).free 8
    have b8c9 := fun g : Later Y => (b8.later g).cell 9
    have b8f9 := fun g : Later Y => (b8.later g).free 9
    have b8l := fun g : Later Y => (b8.later g).lt
    simp at b8c0 b8c1 b8c2 b8c3 b8c4 b8c5 b8c6 b8c7 b8c8 b8c9
    refine Later.region (by kernel_rfl) (by kernel_rfl) ?_
    repeat (first | go_big_quiet_skip | (go_big_quiet_want; go_big_quiet_op; first | go_big_quiet_on | (apply Exists.intro; refine ⟨fun g_ => ?_, ?_⟩; (focus (first | (go_at_call 50; exact Later.call (f_Check p ad cp _ (rowUp hrow g_.ok hCY) hlo hmo)) | (go_at_call 51; exact Later.call (r_Check p a cap _ (hx.later (Kept.drop hk g_.ok) (Nat.le_refl _)) hc hM)) | (go_at_call 52; exact Later.call (r_SamePlantK (hm6.keep g_.ok) (hm8.keep g_.ok))))); go_big_quiet_on)))
    refine wpQuiet_nil ?_
    intro gg
    clear b2c0 b2f0 b2c1 b2f1 b2c2 b2f2 b2c3 b2f3 b2c4 b2f4 b2c5 b2f5 b2c6 b2f6 b2c7 b2f7 b2c8 b2f8 b2c9 b2f9 b2l b5c0 b5f0 b5c1 b5f1 b5c2 b5f2 b5c3 b5f3 b5c4 b5f4 b5c5 b5f5 b5c6 b5f6 b5c7 b5f7 b5c8 b5f8 b5c9 b5f9 b5l b6c0 b6f0 b6c1 b6f1 b6c2 b6f2 b6c3 b6f3 b6c4 b6f4 b6c5 b6f5 b6c6 b6f6 b6c7 b6f7 b6c8 b6f8 b6c9 b6f9 b6l b8c0 b8f0 b8c1 b8f1 b8c2 b8f2 b8c3 b8f3 b8c4 b8f4 b8c5 b8f5 b8c6 b8f6 b8c7 b8f7 b8c8 b8f8 b8c9 b8f9 b8l
    have n2 := b2.later gg
    have n5 := b5.later gg
    have n6 := b6.later gg
    have hrowg := hrow.keep (gg.ok.mono hCY) (Nat.le_refl _)
    have hm6g := hm6.keep gg.ok
    have hkg := Kept.drop hk gg.ok
    clear b2 b5 b6 b8 hrow hm6 hm8 hk
    obtain ⟨Z, hZ⟩ : ∃ Z : World, Z = gg.val := ⟨_, rfl⟩
    rw [← hZ] at n2 n5 n6 hrowg hm6g hkg ⊢
    clear hZ
    have n6c0 := n6.cell 0
    have n6f0 := n6.free 0
    have n6c1 := n6.cell 1
    have n6f1 := n6.free 1
    have n6c2 := n6.cell 2
    have n6f2 := n6.free 2
    have n6c3 := n6.cell 3
    have n6f3 := n6.free 3
    have n6c4 := n6.cell 4
    have n6f4 := n6.free 4
    have n6c5 := n6.cell 5
    have n6f5 := n6.free 5
    have n6c6 := n6.cell 6
    have n6f6 := n6.free 6
    have n6c7 := n6.cell 7
    have n6f7 := n6.free 7
    have n6c8 := n6.cell 8
    have n6f8 := n6.free 8
    have n6c9 := n6.cell 9
    have n6f9 := n6.free 9
    have n6l := n6.lt
    simp at n6c0 n6c1 n6c2 n6c3 n6c4 n6c5 n6c6 n6c7 n6c8 n6c9
    go_wp2
    clear n6c0 n6f0 n6c1 n6f1 n6c2 n6f2 n6c3 n6f3 n6c4 n6f4 n6c5 n6f5 n6c6 n6f6 n6c7 n6f7 n6c8 n6f8 n6c9 n6f9 n6l
    go_loopw [48] (fun i wr => RoomRel 25 Q ad3 cp3 s6 C Z i wr) (fun i _ => Q.cells.length - (intOf i).toNat)
    case atStart => exact ⟨0, Q.cells, Nat.zero_le _, rfl, rfl, n6, hm6g, Below.refl _ _⟩
    case round =>
      obtain ⟨k, xs, hk0, rfl, hxl, r6, hmr, hBr⟩ := hrel
      have hq63 : Q.cells.length ≤ 9223372036854775807 := by have := hc3; unfold maxLen at this; omega
      have r6c0 := r6.cell 0
      have r6f0 := r6.free 0
      have r6c1 := r6.cell 1
      have r6f1 := r6.free 1
      have r6c2 := r6.cell 2
      have r6f2 := r6.free 2
      have r6c3 := r6.cell 3
      have r6f3 := r6.free 3
      have r6c4 := r6.cell 4
      have r6f4 := r6.free 4
      have r6c5 := r6.cell 5
      have r6f5 := r6.free 5
      have r6c6 := r6.cell 6
      have r6f6 := r6.free 6
      have r6c7 := r6.cell 7
      have r6f7 := r6.free 7
      have r6c8 := r6.cell 8
      have r6f8 := r6.free 8
      have r6c9 := r6.cell 9
      have r6f9 := r6.free 9
      have r6l := r6.lt
      simp at r6c0 r6c1 r6c2 r6c3 r6c4 r6c5 r6c6 r6c7 r6c8 r6c9
      by_cases hlt : k < Q.cells.length
      · have hix : k < xs.length := by omega
        have HXL := Lib.hid hxl
        clear hxl
        obtain ⟨g, cur, hge, hBg, hcur, c0, c1, c2, c3, c4, c5, c6⟩ := hmr.at hix
        clear c1 c2 c3 c4 c5 c6
        have fr := hcur.free (k * 7)
        cases hge
        go_wp2
        go_round
        case rel =>
          exact ⟨k + 1, xs.set k { xs[k] with room := -7 }, by omega, by go_num, by simp [HXL.out], r6.other (fun he => by simp only at he; subst he; have := r6.symm.trans hcur; simp at this) _, hmr.put (j := 0) (c := xs[k]) { xs[k] with room := -7 } (by simp [hix]) (by decide) rfl, hBr.setCell hBg _⟩
        case measure => simp [intOf]; omega
      · obtain rfl : k = Q.cells.length := by omega
        have m2 := blk_below n2 hBr (by omega)
        have m5 := blk_below n5 hBr (by omega)
        have hrowE := hrowg.keep hBr (Nat.le_refl _)
        have hCZ : C ≤ wr.heap.size := by have := hBr.size; have := r6.lt; omega
        have hkE : Kept w wr := hkg.trans (hBr.mono hkC)
        clear r6c0 r6f0 r6c1 r6f1 r6c2 r6f2 r6c3 r6f3 r6c4 r6f4 r6c5 r6f5 r6c6 r6f6 r6c7 r6f7 r6c8 r6f8 r6c9 r6f9 r6l n2 n5
        have m2c0 := m2.cell 0
        have m2f0 := m2.free 0
        have m2c1 := m2.cell 1
        have m2f1 := m2.free 1
        have m2c2 := m2.cell 2
        have m2f2 := m2.free 2
        have m2c3 := m2.cell 3
        have m2f3 := m2.free 3
        have m2c4 := m2.cell 4
        have m2f4 := m2.free 4
        have m2c5 := m2.cell 5
        have m2f5 := m2.free 5
        have m2c6 := m2.cell 6
        have m2f6 := m2.free 6
        have m2c7 := m2.cell 7
        have m2f7 := m2.free 7
        have m2c8 := m2.cell 8
        have m2f8 := m2.free 8
        have m2c9 := m2.cell 9
        have m2f9 := m2.free 9
        have m2l := m2.lt
        simp at m2c0 m2c1 m2c2 m2c3 m2c4 m2c5 m2c6 m2c7 m2c8 m2c9
        have m5c0 := m5.cell 0
        have m5f0 := m5.free 0
        have m5c1 := m5.cell 1
        have m5f1 := m5.free 1
        have m5c2 := m5.cell 2
        have m5f2 := m5.free 2
        have m5c3 := m5.cell 3
        have m5f3 := m5.free 3
        have m5c4 := m5.cell 4
        have m5f4 := m5.free 4
        have m5c5 := m5.cell 5
        have m5f5 := m5.free 5
        have m5c6 := m5.cell 6
        have m5f6 := m5.free 6
        have m5c7 := m5.cell 7
        have m5f7 := m5.free 7
        have m5c8 := m5.cell 8
        have m5f8 := m5.free 8
        have m5c9 := m5.cell 9
        have m5f9 := m5.free 9
        have m5l := m5.lt
        simp at m5c0 m5c1 m5c2 m5c3 m5c4 m5c5 m5c6 m5c7 m5c8 m5c9
        go_wp2_with (go_at_call 52; (with_reducible refine (r_SamePlant ad a cp cap p _ (hrowE.up hCZ) (hx.later hkE (Nat.le_refl _)) hlo hc hmo hM).mono ?_); rintro e w9 ⟨rfl, hb9⟩)
        go_ret
        exact ⟨rfl, by (exact kpt)⟩
  · have HG := Lib.hid hg
    go_enter Try.func6, Try.ntmps6
    go_wp2_with (go_at_call 46; (with_reducible refine (r_Great1 p d _ a cap _ _ rfl (by (exact blk)) hc hM).mono ?_); rw [HG.out]; rintro e w1 ⟨rfl, hb1⟩; refine Blk.thru (b := w.heap.size) (arr := ?_) (t := ?_) ?_ hb1 ?_; rotate_left 2; (focus (exact blk)); intro rr; have rrc0 := rr.cell 0; have rrf0 := rr.free 0; have rrc1 := rr.cell 1; have rrf1 := rr.free 1; have rrc2 := rr.cell 2; have rrf2 := rr.free 2; have rrc3 := rr.cell 3; have rrf3 := rr.free 3; have rrc4 := rr.cell 4; have rrf4 := rr.free 4; have rrc5 := rr.cell 5; have rrf5 := rr.free 5; have rrc6 := rr.cell 6; have rrf6 := rr.free 6; have rrc7 := rr.cell 7; have rrf7 := rr.free 7; have rrc8 := rr.cell 8; have rrf8 := rr.free 8; have rrc9 := rr.cell 9; have rrf9 := rr.free 9; have rrl := rr.lt; simp at rrc0 rrc1 rrc2 rrc3 rrc4 rrc5 rrc6 rrc7 rrc8 rrc9; refine Blk.thru (b := (w.heap.size + 1)) (arr := ?_) (t := ?_) ?_ hb1 ?_; rotate_left 2; (focus (exact blk)); intro rq; have rqc0 := rq.cell 0; have rqf0 := rq.free 0; have rqc1 := rq.cell 1; have rqf1 := rq.free 1; have rqc2 := rq.cell 2; have rqf2 := rq.free 2; have rqc3 := rq.cell 3; have rqf3 := rq.free 3; have rql := rq.lt; simp at rqc0 rqc1 rqc2 rqc3)
    go_ret
    exact ⟨rfl, by (exact kpt)⟩

end Go.Proofs.Ytemafanncejeiaa

/-
  The program: acts played one behind the other.
-/
namespace Go.Proofs.Ytemafanncejeiaa
open Go.RowKit Bal Bal.Trim Bal.Gas
set_option linter.unusedVariables false
set_option linter.unusedSimpArgs false
set_option maxHeartbeats 8000000
set_option maxRecDepth 100000

theorem blkd {w : World} {b : Nat} {arr : Array Value} {t : TypeId} (h : Blk w b arr t := by (refine Blk.cast (arr := ?_) ?_ ?_; rotate_left 1; (focus (exact blk)); (first | with_reducible rfl | (simp; done) | rfl))) : Blk w b arr t := h
theorem mine_below {T : TypeId} {B : Nat} {w : World} {ad : Option Addr} {n cp : Nat} {xs : List Cell} (h : Mine T B w (.slice ad n cp) xs) {b : Nat} (hb : b < B) : xs = [] ∨ ∀ g, ad = some ⟨g, 0, none⟩ → g ≠ b := by
  obtain ⟨ad', cp', h1, h2, h3, h4, h5⟩ := h
  cases h1
  rcases h5 with h5 | ⟨g, cur, ha, hg, hk, ht⟩
  · exact .inl h5
  · refine .inr fun g' hg' he => ?_
    rw [ha] at hg'
    cases hg'
    omega
theorem f_Play_bad (p : Plant) (ds : List Deed) (a : Option Addr) (cap : Nat) (b : Option Addr) (cb : Nat) (w : World) (hx : Row Cell.cells 7 w.heap.size w a p.cells) (hc : p.cells.length ≤ cap) (hM : cap ≤ maxLen) (hz : a = none → cap = 0) (hd : Row Deed.cells 4 w.heap.size w b ds) (hdc : ds.length ≤ cb) (hdM : cb ≤ maxLen) (hp : plantB p = false) : Calls Try.prog 53 #[.agg #[.slice a p.cells.length cap, .int .i64 p.bottles, .int .i64 p.inH, .int .i64 p.inA, .int .i64 p.vH, .int .i64 p.vA, .int .i64 p.lH, .int .i64 p.lA, .int .i64 p.pH, .int .i64 p.pA], .slice b ds.length cb] w fun e w' => ∃ v, e = .returned (.tuple #[.agg #[v, .int .i64 noPlant.bottles, .int .i64 noPlant.inH, .int .i64 noPlant.inA, .int .i64 noPlant.vH, .int .i64 noPlant.vA, .int .i64 noPlant.lH, .int .i64 noPlant.lA, .int .i64 noPlant.pH, .int .i64 noPlant.pA], .int .i64 0, .int .i64 32]) ∧ Mine 25 w.heap.size w' v noPlant.cells ∧ Kept w w' := by
  have HP := Lib.hid (show plantE p = 32 by simp [plantE, hp])
  clear hp
  go_enter Try.func53, Try.ntmps53
  go_upto_region 2 with (go_at_call 50; (with_reducible refine (f_Check p a cap _ (hx.later (by (exact kpt)) (Nat.le_refl _)) hc hM).mono ?_); rw [HP.out]; rintro e w1 ⟨rfl, hb1⟩; refine Blk.thru (b := w.heap.size) (arr := ?_) (t := ?_) ?_ hb1 ?_; rotate_left 2; (focus (exact blk)); intro rr; have rrc0 := rr.cell 0; have rrf0 := rr.free 0; have rrc1 := rr.cell 1; have rrf1 := rr.free 1; have rrc2 := rr.cell 2; have rrf2 := rr.free 2; have rrc3 := rr.cell 3; have rrf3 := rr.free 3; have rrc4 := rr.cell 4; have rrf4 := rr.free 4; have rrc5 := rr.cell 5; have rrf5 := rr.free 5; have rrc6 := rr.cell 6; have rrf6 := rr.free 6; have rrc7 := rr.cell 7; have rrf7 := rr.free 7; have rrc8 := rr.cell 8; have rrf8 := rr.free 8; have rrc9 := rr.cell 9; have rrf9 := rr.free 9; have rrl := rr.lt; simp at rrc0 rrc1 rrc2 rrc3 rrc4 rrc5 rrc6 rrc7 rrc8 rrc9; refine Blk.thru (b := (w.heap.size + 1)) (arr := ?_) (t := ?_) ?_ hb1 ?_; rotate_left 2; (focus (exact blk)); intro rq; have rqc0 := rq.cell 0; have rqf0 := rq.free 0; have rqc1 := rq.cell 1; have rqf1 := rq.free 1; have rqc2 := rq.cell 2; have rqf2 := rq.free 2; have rqc3 := rq.cell 3; have rqf3 := rq.free 3; have rqc4 := rq.cell 4; have rqf4 := rq.free 4; have rqc5 := rq.cell 5; have rqf5 := rq.free 5; have rqc6 := rq.cell 6; have rqf6 := rq.free 6; have rqc7 := rq.cell 7; have rqf7 := rq.free 7; have rqc8 := rq.cell 8; have rqf8 := rq.free 8; have rqc9 := rq.cell 9; have rqf9 := rq.free 9; have rql := rq.lt; simp at rqc0 rqc1 rqc2 rqc3 rqc4 rqc5 rqc6 rqc7 rqc8 rqc9)
  clear rrc0 rrf0 rrc1 rrf1 rrc2 rrf2 rrc3 rrf3 rrc4 rrf4 rrc5 rrf5 rrc6 rrf6 rrc7 rrf7 rrc8 rrf8 rrc9 rrf9 rrl rqc0 rqf0 rqc1 rqf1 rqc2 rqf2 rqc3 rqf3 rqc4 rqf4 rqc5 rqf5 rqc6 rqf6 rqc7 rqf7 rqc8 rqf8 rqc9 rqf9 rql
  refine at_world (S := fun W => Blk W w.heap.size #[.slice a p.cells.length cap, .int .i64 p.bottles, .int .i64 p.inH, .int .i64 p.inA, .int .i64 p.vH, .int .i64 p.vA, .int .i64 p.lH, .int .i64 p.lA, .int .i64 p.pH, .int .i64 p.pA] 63 ∧ Blk W (w.heap.size + 1) #[.slice none 0 0, .int .i64 0, .int .i64 0, .int .i64 0, .int .i64 0, .int .i64 0, .int .i64 0, .int .i64 0, .int .i64 0, .int .i64 0] 63 ∧ Kept w W) ⟨by (exact blkc), by (exact blkc), by (exact kpt)⟩ ?_
  rintro W ⟨b0, b4, hk⟩
  have b4c0 := b4.cell 0
  have b4f0 := b4.free 0
  have b4c1 := b4.cell 1
  have b4f1 := b4.free 1
  have b4c2 := b4.cell 2
  have b4f2 := b4.free 2
  have b4c3 := b4.cell 3
  have b4f3 := b4.free 3
  have b4c4 := b4.cell 4
  have b4f4 := b4.free 4
  have b4c5 := b4.cell 5
  have b4f5 := b4.free 5
  have b4c6 := b4.cell 6
  have b4f6 := b4.free 6
  have b4c7 := b4.cell 7
  have b4f7 := b4.free 7
  have b4c8 := b4.cell 8
  have b4f8 := b4.free 8
  have b4c9 := b4.cell 9
  have b4f9 := b4.free 9
  have b4l := b4.lt
  simp at b4c0 b4c1 b4c2 b4c3 b4c4 b4c5 b4c6 b4c7 b4c8 b4c9
  go_wp2
  refine bodyPost_ret (v := .tuple #[.agg #[.slice none 0 0, .int .i64 0, .int .i64 0, .int .i64 0, .int .i64 0, .int .i64 0, .int .i64 0, .int .i64 0, .int .i64 0, .int .i64 0], .int .i64 0, .int .i64 32]) (by simp [results, Try.results53, go_sem, b4c0, b4f0, b4c1, b4f1, b4c2, b4f2, b4c3, b4f3, b4c4, b4f4, b4c5, b4f5, b4c6, b4f6, b4c7, b4f7, b4c8, b4f8, b4c9, b4f9]) rfl ⟨.slice none 0 0, rfl, Mine.zero, by (exact kpt)⟩
theorem f_Play_many (p : Plant) (ds : List Deed) (a : Option Addr) (cap : Nat) (b : Option Addr) (cb : Nat) (w : World) (hx : Row Cell.cells 7 w.heap.size w a p.cells) (hc : p.cells.length ≤ cap) (hM : cap ≤ maxLen) (hz : a = none → cap = 0) (hd : Row Deed.cells 4 w.heap.size w b ds) (hdc : ds.length ≤ cb) (hdM : cb ≤ maxLen) (hp : plantB p = true) (hl : 200 < ds.length) : Calls Try.prog 53 #[.agg #[.slice a p.cells.length cap, .int .i64 p.bottles, .int .i64 p.inH, .int .i64 p.inA, .int .i64 p.vH, .int .i64 p.vA, .int .i64 p.lH, .int .i64 p.lA, .int .i64 p.pH, .int .i64 p.pA], .slice b ds.length cb] w fun e w' => ∃ v, e = .returned (.tuple #[.agg #[v, .int .i64 noPlant.bottles, .int .i64 noPlant.inH, .int .i64 noPlant.inA, .int .i64 noPlant.vH, .int .i64 noPlant.vA, .int .i64 noPlant.lH, .int .i64 noPlant.lA, .int .i64 noPlant.pH, .int .i64 noPlant.pA], .int .i64 0, .int .i64 4]) ∧ Mine 25 w.heap.size w' v noPlant.cells ∧ Kept w w' := by
  have HP := Lib.hid (show plantE p = 0 by simp [plantE, hp])
  have hl2 : decide ((200 : Int) < (ds.length : Int)) = true := by simp; omega
  clear hp
  go_enter Try.func53, Try.ntmps53
  go_upto_region 2 with (go_at_call 50; (with_reducible refine (f_Check p a cap _ (hx.later (by (exact kpt)) (Nat.le_refl _)) hc hM).mono ?_); rw [HP.out]; rintro e w1 ⟨rfl, hb1⟩; refine Blk.thru (b := w.heap.size) (arr := ?_) (t := ?_) ?_ hb1 ?_; rotate_left 2; (focus (exact blk)); intro rr; have rrc0 := rr.cell 0; have rrf0 := rr.free 0; have rrc1 := rr.cell 1; have rrf1 := rr.free 1; have rrc2 := rr.cell 2; have rrf2 := rr.free 2; have rrc3 := rr.cell 3; have rrf3 := rr.free 3; have rrc4 := rr.cell 4; have rrf4 := rr.free 4; have rrc5 := rr.cell 5; have rrf5 := rr.free 5; have rrc6 := rr.cell 6; have rrf6 := rr.free 6; have rrc7 := rr.cell 7; have rrf7 := rr.free 7; have rrc8 := rr.cell 8; have rrf8 := rr.free 8; have rrc9 := rr.cell 9; have rrf9 := rr.free 9; have rrl := rr.lt; simp at rrc0 rrc1 rrc2 rrc3 rrc4 rrc5 rrc6 rrc7 rrc8 rrc9; refine Blk.thru (b := (w.heap.size + 1)) (arr := ?_) (t := ?_) ?_ hb1 ?_; rotate_left 2; (focus (exact blk)); intro rq; have rqc0 := rq.cell 0; have rqf0 := rq.free 0; have rqc1 := rq.cell 1; have rqf1 := rq.free 1; have rqc2 := rq.cell 2; have rqf2 := rq.free 2; have rqc3 := rq.cell 3; have rqf3 := rq.free 3; have rqc4 := rq.cell 4; have rqf4 := rq.free 4; have rqc5 := rq.cell 5; have rqf5 := rq.free 5; have rqc6 := rq.cell 6; have rqf6 := rq.free 6; have rqc7 := rq.cell 7; have rqf7 := rq.free 7; have rqc8 := rq.cell 8; have rqf8 := rq.free 8; have rqc9 := rq.cell 9; have rqf9 := rq.free 9; have rql := rq.lt; simp at rqc0 rqc1 rqc2 rqc3 rqc4 rqc5 rqc6 rqc7 rqc8 rqc9)
  clear rrc0 rrf0 rrc1 rrf1 rrc2 rrf2 rrc3 rrf3 rrc4 rrf4 rrc5 rrf5 rrc6 rrf6 rrc7 rrf7 rrc8 rrf8 rrc9 rrf9 rrl rqc0 rqf0 rqc1 rqf1 rqc2 rqf2 rqc3 rqf3 rqc4 rqf4 rqc5 rqf5 rqc6 rqf6 rqc7 rqf7 rqc8 rqf8 rqc9 rqf9 rql
  refine at_world (S := fun W => Blk W w.heap.size #[.slice a p.cells.length cap, .int .i64 p.bottles, .int .i64 p.inH, .int .i64 p.inA, .int .i64 p.vH, .int .i64 p.vA, .int .i64 p.lH, .int .i64 p.lA, .int .i64 p.pH, .int .i64 p.pA] 63 ∧ Blk W (w.heap.size + 1) #[.slice none 0 0, .int .i64 0, .int .i64 0, .int .i64 0, .int .i64 0, .int .i64 0, .int .i64 0, .int .i64 0, .int .i64 0, .int .i64 0] 63 ∧ Kept w W) ⟨by (exact blkc), by (exact blkc), by (exact kpt)⟩ ?_
  rintro W ⟨b0, b4, hk⟩
  have b4c0 := b4.cell 0
  have b4f0 := b4.free 0
  have b4c1 := b4.cell 1
  have b4f1 := b4.free 1
  have b4c2 := b4.cell 2
  have b4f2 := b4.free 2
  have b4c3 := b4.cell 3
  have b4f3 := b4.free 3
  have b4c4 := b4.cell 4
  have b4f4 := b4.free 4
  have b4c5 := b4.cell 5
  have b4f5 := b4.free 5
  have b4c6 := b4.cell 6
  have b4f6 := b4.free 6
  have b4c7 := b4.cell 7
  have b4f7 := b4.free 7
  have b4c8 := b4.cell 8
  have b4f8 := b4.free 8
  have b4c9 := b4.cell 9
  have b4f9 := b4.free 9
  have b4l := b4.lt
  simp at b4c0 b4c1 b4c2 b4c3 b4c4 b4c5 b4c6 b4c7 b4c8 b4c9
  go_wp2
  refine bodyPost_ret (v := .tuple #[.agg #[.slice none 0 0, .int .i64 0, .int .i64 0, .int .i64 0, .int .i64 0, .int .i64 0, .int .i64 0, .int .i64 0, .int .i64 0, .int .i64 0], .int .i64 0, .int .i64 4]) (by simp [results, Try.results53, go_sem, b4c0, b4f0, b4c1, b4f1, b4c2, b4f2, b4c3, b4f3, b4c4, b4f4, b4c5, b4f5, b4c6, b4f6, b4c7, b4f7, b4c8, b4f8, b4c9, b4f9]) rfl ⟨.slice none 0 0, rfl, Mine.zero, by (exact kpt)⟩

theorem f_Play_ok (p : Plant) (ds : List Deed) (a : Option Addr) (cap : Nat) (b : Option Addr) (cb : Nat) (w : World) (hx : Row Cell.cells 7 w.heap.size w a p.cells) (hc : p.cells.length ≤ cap) (hM : cap ≤ maxLen) (hz : a = none → cap = 0) (hd : Row Deed.cells 4 w.heap.size w b ds) (hdc : ds.length ≤ cb) (hdM : cb ≤ maxLen) (hku : ∀ d ∈ ds, 0 ≤ d.kind ∧ d.kind ≤ 255) (hp : plantB p = true) (hl : ds.length ≤ 200) (Q : Plant) (N E : Int) (hR : playGo p ds 0 = (Q, N, E)) : Calls Try.prog 53 #[.agg #[.slice a p.cells.length cap, .int .i64 p.bottles, .int .i64 p.inH, .int .i64 p.inA, .int .i64 p.vH, .int .i64 p.vA, .int .i64 p.lH, .int .i64 p.lA, .int .i64 p.pH, .int .i64 p.pA], .slice b ds.length cb] w fun e w' => ∃ v, e = .returned (.tuple #[.agg #[v, .int .i64 Q.bottles, .int .i64 Q.inH, .int .i64 Q.inA, .int .i64 Q.vH, .int .i64 Q.vA, .int .i64 Q.lH, .int .i64 Q.lA, .int .i64 Q.pH, .int .i64 Q.pA], .int .i64 N, .int .i64 E]) ∧ Mine 25 w.heap.size w' v Q.cells ∧ Kept w w' := by
  have HP := Lib.hid (show plantE p = 0 by simp [plantE, hp])
  have hn12 : p.cells.length ≤ 12 := (plantB_iff.1 hp).1
  have HR := Lib.hid hR
  have HU := Lib.hid hku
  clear hp hR hku
  go_enter Try.func53, Try.ntmps53
  go_upto_region 7 with (go_at_call 50; (with_reducible refine (f_Check p a cap _ (hx.later (by (exact kpt)) (Nat.le_refl _)) hc hM).mono ?_); rw [HP.out]; rintro e w1 ⟨rfl, hb1⟩; refine Blk.thru (b := w.heap.size) (arr := ?_) (t := ?_) ?_ hb1 ?_; rotate_left 2; (focus (exact blk)); intro rr; have rrc0 := rr.cell 0; have rrf0 := rr.free 0; have rrc1 := rr.cell 1; have rrf1 := rr.free 1; have rrc2 := rr.cell 2; have rrf2 := rr.free 2; have rrc3 := rr.cell 3; have rrf3 := rr.free 3; have rrc4 := rr.cell 4; have rrf4 := rr.free 4; have rrc5 := rr.cell 5; have rrf5 := rr.free 5; have rrc6 := rr.cell 6; have rrf6 := rr.free 6; have rrc7 := rr.cell 7; have rrf7 := rr.free 7; have rrc8 := rr.cell 8; have rrf8 := rr.free 8; have rrc9 := rr.cell 9; have rrf9 := rr.free 9; have rrl := rr.lt; simp at rrc0 rrc1 rrc2 rrc3 rrc4 rrc5 rrc6 rrc7 rrc8 rrc9; refine Blk.thru (b := (w.heap.size + 1)) (arr := ?_) (t := ?_) ?_ hb1 ?_; rotate_left 2; (focus (exact blk)); intro rq; have rqc0 := rq.cell 0; have rqf0 := rq.free 0; have rqc1 := rq.cell 1; have rqf1 := rq.free 1; have rqc2 := rq.cell 2; have rqf2 := rq.free 2; have rqc3 := rq.cell 3; have rqf3 := rq.free 3; have rqc4 := rq.cell 4; have rqf4 := rq.free 4; have rqc5 := rq.cell 5; have rqf5 := rq.free 5; have rqc6 := rq.cell 6; have rqf6 := rq.free 6; have rqc7 := rq.cell 7; have rqf7 := rq.free 7; have rqc8 := rq.cell 8; have rqf8 := rq.free 8; have rqc9 := rq.cell 9; have rqf9 := rq.free 9; have rql := rq.lt; simp at rqc0 rqc1 rqc2 rqc3 rqc4 rqc5 rqc6 rqc7 rqc8 rqc9)
  clear rrc0 rrf0 rrc1 rrf1 rrc2 rrf2 rrc3 rrf3 rrc4 rrf4 rrc5 rrf5 rrc6 rrf6 rrc7 rrf7 rrc8 rrf8 rrc9 rrf9 rrl rqc0 rqf0 rqc1 rqf1 rqc2 rqf2 rqc3 rqf3 rqc4 rqf4 rqc5 rqf5 rqc6 rqf6 rqc7 rqf7 rqc8 rqf8 rqc9 rqf9 rql
  refine at_world (S := fun W => Blk W w.heap.size #[.slice a p.cells.length cap, .int .i64 p.bottles, .int .i64 p.inH, .int .i64 p.inA, .int .i64 p.vH, .int .i64 p.vA, .int .i64 p.lH, .int .i64 p.lA, .int .i64 p.pH, .int .i64 p.pA] 63 ∧ Blk W (w.heap.size + 1) #[.slice a p.cells.length cap, .int .i64 p.bottles, .int .i64 p.inH, .int .i64 p.inA, .int .i64 p.vH, .int .i64 p.vA, .int .i64 p.lH, .int .i64 p.lA, .int .i64 p.pH, .int .i64 p.pA] 63 ∧ Kept w W) ⟨by (exact blkd), by (exact blkd), by (exact kpt)⟩ ?_
  rintro W ⟨b0, b4, hk⟩
  have b0c0 := b0.cell 0
  have b0f0 := b0.free 0
  have b0c1 := b0.cell 1
  have b0f1 := b0.free 1
  have b0c2 := b0.cell 2
  have b0f2 := b0.free 2
  have b0c3 := b0.cell 3
  have b0f3 := b0.free 3
  have b0c4 := b0.cell 4
  have b0f4 := b0.free 4
  have b0c5 := b0.cell 5
  have b0f5 := b0.free 5
  have b0c6 := b0.cell 6
  have b0f6 := b0.free 6
  have b0c7 := b0.cell 7
  have b0f7 := b0.free 7
  have b0c8 := b0.cell 8
  have b0f8 := b0.free 8
  have b0c9 := b0.cell 9
  have b0f9 := b0.free 9
  have b0l := b0.lt
  simp at b0c0 b0c1 b0c2 b0c3 b0c4 b0c5 b0c6 b0c7 b0c8 b0c9
  have b4c0 := b4.cell 0
  have b4f0 := b4.free 0
  have b4c1 := b4.cell 1
  have b4f1 := b4.free 1
  have b4c2 := b4.cell 2
  have b4f2 := b4.free 2
  have b4c3 := b4.cell 3
  have b4f3 := b4.free 3
  have b4c4 := b4.cell 4
  have b4f4 := b4.free 4
  have b4c5 := b4.cell 5
  have b4f5 := b4.free 5
  have b4c6 := b4.cell 6
  have b4f6 := b4.free 6
  have b4c7 := b4.cell 7
  have b4f7 := b4.free 7
  have b4c8 := b4.cell 8
  have b4f8 := b4.free 8
  have b4c9 := b4.cell 9
  have b4f9 := b4.free 9
  have b4l := b4.lt
  simp at b4c0 b4c1 b4c2 b4c3 b4c4 b4c5 b4c6 b4c7 b4c8 b4c9
  go_upto_region 8 with (go_at_call 114; (with_reducible refine (s_CloneC a cap p.cells _ (hx.later (by (exact kpt)) (Nat.le_refl _)) (by omega) hz).mono ?_); rintro e w2 ⟨v, rfl, hown, hb2⟩; obtain ⟨ad, cp, rfl, _⟩ := (Mine.of_owns hown).slice; refine Blk.thru (b := (w.heap.size + 1)) (arr := ?_) (t := ?_) ?_ hb2 ?_; rotate_left 2; (focus (exact blk)); intro rs; have rsc0 := rs.cell 0; have rsf0 := rs.free 0; have rsc1 := rs.cell 1; have rsf1 := rs.free 1; have rsc2 := rs.cell 2; have rsf2 := rs.free 2; have rsc3 := rs.cell 3; have rsf3 := rs.free 3; have rsc4 := rs.cell 4; have rsf4 := rs.free 4; have rsc5 := rs.cell 5; have rsf5 := rs.free 5; have rsc6 := rs.cell 6; have rsf6 := rs.free 6; have rsc7 := rs.cell 7; have rsf7 := rs.free 7; have rsc8 := rs.cell 8; have rsf8 := rs.free 8; have rsc9 := rs.cell 9; have rsf9 := rs.free 9; have rsl := rs.lt; simp at rsc0 rsc1 rsc2 rsc3 rsc4 rsc5 rsc6 rsc7 rsc8 rsc9)
  clear b0c0 b0f0 b0c1 b0f1 b0c2 b0f2 b0c3 b0f3 b0c4 b0f4 b0c5 b0f5 b0c6 b0f6 b0c7 b0f7 b0c8 b0f8 b0c9 b0f9 b0l b4c0 b4f0 b4c1 b4f1 b4c2 b4f2 b4c3 b4f3 b4c4 b4f4 b4c5 b4f5 b4c6 b4f6 b4c7 b4f7 b4c8 b4f8 b4c9 b4f9 b4l
  refine at_world (S := fun X => Blk X (w.heap.size + 1) #[.slice ad p.cells.length cp, .int .i64 p.bottles, .int .i64 p.inH, .int .i64 p.inA, .int .i64 p.vH, .int .i64 p.vA, .int .i64 p.lH, .int .i64 p.lA, .int .i64 p.pH, .int .i64 p.pA] 63 ∧ Mine 25 w.heap.size X (.slice ad p.cells.length cp) p.cells ∧ Kept w X) ⟨by (exact blkd), by exact (by have hmc := (Mine.of_owns hown).base (C := w.heap.size) (by have := hk.size; simp; omega); have hnc := hmc.ne rs (by decide); (repeat (with_reducible refine Mine.off ?_ hnc _)); exact hmc), by (exact kpt)⟩ ?_
  clear b0 b4 hk hown hb2 rsc0 rsf0 rsc1 rsf1 rsc2 rsf2 rsc3 rsf3 rsc4 rsf4 rsc5 rsf5 rsc6 rsf6 rsc7 rsf7 rsc8 rsf8 rsc9 rsf9 rsl
  rintro X ⟨b4, hm, hk⟩
  go_wp2
  go_loopw [29] (fun i wr => ∃ (k : Nat) (q : Plant) (ad : Option Addr) (cp : Nat), k ≤ ds.length ∧ i = .int .i64 k ∧ Blk wr (w.heap.size + 1) #[.slice ad q.cells.length cp, .int .i64 q.bottles, .int .i64 q.inH, .int .i64 q.inA, .int .i64 q.vH, .int .i64 q.vA, .int .i64 q.lH, .int .i64 q.lA, .int .i64 q.pH, .int .i64 q.pA] 63 ∧ Mine 25 w.heap.size wr (.slice ad q.cells.length cp) q.cells ∧ Kept w wr ∧ playGo p ds 0 = playGo q (ds.drop k) k) (fun i _ => ds.length - (intOf i).toNat)
  case atStart => exact ⟨0, p, ad, cp, Nat.zero_le _, rfl, b4, hm, hk, by simp⟩
  case round =>
    obtain ⟨k, q, ad, cp, hk0, rfl, b4, hm, hk, hpl⟩ := hrel
    have HPL := Lib.hid hpl
    clear hpl
    by_cases hlt : k < ds.length
    · obtain ⟨b1, o1, rfl, hb1, d0, d1, d2, d3⟩ := Deed.row (hd.later hk (Nat.le_refl _)) k hlt
      obtain ⟨x, hxx⟩ : ∃ x, x = ds[k] := ⟨_, rfl⟩
      rw [← hxx] at d0 d1 d2 d3
      have HXU := Lib.hid (show 0 ≤ x.kind ∧ x.kind ≤ 255 by rw [hxx]; exact HU.out _ (List.getElem_mem hlt))
      have HX := Lib.hid hxx
      clear hxx
      obtain ⟨Q1, hQ1⟩ : ∃ Q1, Q1 = doQ q x := ⟨_, rfl⟩
      obtain ⟨E1, hE1⟩ : ∃ E1, E1 = doE q x := ⟨_, rfl⟩
      have HQ1 := Lib.hid hQ1
      have HE1 := Lib.hid hE1
      clear hQ1 hE1
      go_upto_region 11 with fail
      clear d0 d1 d2 d3
      have hmx := hm.alloc (.cells #[.int .u8 0, .int .i64 0, .int .i64 0, .int .i64 0] 65)
      refine at_world (S := fun X => Blk X (w.heap.size + 1) #[.slice ad q.cells.length cp, .int .i64 q.bottles, .int .i64 q.inH, .int .i64 q.inA, .int .i64 q.vH, .int .i64 q.vA, .int .i64 q.lH, .int .i64 q.lA, .int .i64 q.pH, .int .i64 q.pA] 63 ∧ Blk X wr.heap.size #[.int .u8 x.kind, .int .i64 x.cell, .int .i64 x.to, .int .i64 x.n] 65 ∧ Mine 25 w.heap.size X (.slice ad q.cells.length cp) q.cells ∧ Kept w X) ⟨by (exact blkd), by (exact blkd), by exact (by have hnp := mine_past hm (Nat.le_refl _); (repeat (with_reducible refine Mine.off ?_ hnp _)); exact hm.alloc _), by (exact kpt)⟩ ?_
      clear b4 hm hk hmx
      rintro X ⟨b4, b9, hm, hk⟩
      generalize wr.heap.size = s9 at b9 ⊢
      have b4c0 := b4.cell 0
      have b4f0 := b4.free 0
      have b4c1 := b4.cell 1
      have b4f1 := b4.free 1
      have b4c2 := b4.cell 2
      have b4f2 := b4.free 2
      have b4c3 := b4.cell 3
      have b4f3 := b4.free 3
      have b4c4 := b4.cell 4
      have b4f4 := b4.free 4
      have b4c5 := b4.cell 5
      have b4f5 := b4.free 5
      have b4c6 := b4.cell 6
      have b4f6 := b4.free 6
      have b4c7 := b4.cell 7
      have b4f7 := b4.free 7
      have b4c8 := b4.cell 8
      have b4f8 := b4.free 8
      have b4c9 := b4.cell 9
      have b4f9 := b4.free 9
      have b4l := b4.lt
      simp at b4c0 b4c1 b4c2 b4c3 b4c4 b4c5 b4c6 b4c7 b4c8 b4c9
      have b9c0 := b9.cell 0
      have b9f0 := b9.free 0
      have b9c1 := b9.cell 1
      have b9f1 := b9.free 1
      have b9c2 := b9.cell 2
      have b9f2 := b9.free 2
      have b9c3 := b9.cell 3
      have b9f3 := b9.free 3
      have b9l := b9.lt
      simp at b9c0 b9c1 b9c2 b9c3
      go_upto_region 12 with (go_at_call 48; (with_reducible refine (f_DoK x hm HXU.out Q1 E1 HQ1.out HE1.out).mono ?_); rintro e w3 ⟨v3, rfl, hm3, hb3⟩; obtain ⟨ad3, cp3, rfl, hl3, hc3, hz3⟩ := hm3.slice)
      clear b4c0 b4f0 b4c1 b4f1 b4c2 b4f2 b4c3 b4f3 b4c4 b4f4 b4c5 b4f5 b4c6 b4f6 b4c7 b4f7 b4c8 b4f8 b4c9 b4f9 b4l b9c0 b9f0 b9c1 b9f1 b9c2 b9f2 b9c3 b9f3 b9l
      have hmk := hm.keep hb3
      have hm3k := hm3.base (C := w.heap.size) hk.size
      refine at_world (S := fun Y => Blk Y (w.heap.size + 1) #[.slice ad q.cells.length cp, .int .i64 q.bottles, .int .i64 q.inH, .int .i64 q.inA, .int .i64 q.vH, .int .i64 q.vA, .int .i64 q.lH, .int .i64 q.lA, .int .i64 q.pH, .int .i64 q.pA] 63 ∧ Blk Y w3.heap.size #[.slice ad3 Q1.cells.length cp3, .int .i64 Q1.bottles, .int .i64 Q1.inH, .int .i64 Q1.inA, .int .i64 Q1.vH, .int .i64 Q1.vA, .int .i64 Q1.lH, .int .i64 Q1.lA, .int .i64 Q1.pH, .int .i64 Q1.pA] 63 ∧ Mine 25 w.heap.size Y (.slice ad q.cells.length cp) q.cells ∧ Mine 25 w.heap.size Y (.slice ad3 Q1.cells.length cp3) Q1.cells ∧ Kept w Y) ⟨by (exact blkd), by (exact blkd), by exact (by have hnp := mine_past hmk (Nat.le_refl _); (repeat (with_reducible refine Mine.off ?_ hnp _)); exact hmk.alloc _), by exact (by have hnp := mine_past hm3k (Nat.le_refl _); (repeat (with_reducible refine Mine.off ?_ hnp _)); exact hm3k.alloc _), by (exact kpt)⟩ ?_
      clear b4 b9 hm hk hb3 hm3 hmk hm3k
      rintro Y ⟨b4, b10, hm, hm1, hk⟩
      generalize w3.heap.size = s10 at b10 ⊢
      have b4c0 := b4.cell 0
      have b4f0 := b4.free 0
      have b4c1 := b4.cell 1
      have b4f1 := b4.free 1
      have b4c2 := b4.cell 2
      have b4f2 := b4.free 2
      have b4c3 := b4.cell 3
      have b4f3 := b4.free 3
      have b4c4 := b4.cell 4
      have b4f4 := b4.free 4
      have b4c5 := b4.cell 5
      have b4f5 := b4.free 5
      have b4c6 := b4.cell 6
      have b4f6 := b4.free 6
      have b4c7 := b4.cell 7
      have b4f7 := b4.free 7
      have b4c8 := b4.cell 8
      have b4f8 := b4.free 8
      have b4c9 := b4.cell 9
      have b4f9 := b4.free 9
      have b4l := b4.lt
      simp at b4c0 b4c1 b4c2 b4c3 b4c4 b4c5 b4c6 b4c7 b4c8 b4c9
      have b10c0 := b10.cell 0
      have b10f0 := b10.free 0
      have b10c1 := b10.cell 1
      have b10f1 := b10.free 1
      have b10c2 := b10.cell 2
      have b10f2 := b10.free 2
      have b10c3 := b10.cell 3
      have b10f3 := b10.free 3
      have b10c4 := b10.cell 4
      have b10f4 := b10.free 4
      have b10c5 := b10.cell 5
      have b10f5 := b10.free 5
      have b10c6 := b10.cell 6
      have b10f6 := b10.free 6
      have b10c7 := b10.cell 7
      have b10f7 := b10.free 7
      have b10c8 := b10.cell 8
      have b10f8 := b10.free 8
      have b10c9 := b10.cell 9
      have b10f9 := b10.free 9
      have b10l := b10.lt
      simp at b10c0 b10c1 b10c2 b10c3 b10c4 b10c5 b10c6 b10c7 b10c8 b10c9
      by_cases he : E1 = 0
      · have e1 : (E1 == 0) = true := by simp [he]
        have e2 : decide (E1 = 0) = true := by simp [he]
        have e3 : (E1 != 0) = false := by simp [he]
        have HEE := Lib.hid he
        clear he
        go_wp2
        go_round
        case rel =>
          refine ⟨k + 1, Q1, ad3, cp3, by omega, by go_num, by (exact blkd), ?_, by (exact kpt), ?_⟩
          · have hn4 := hm1.ne b4 (by decide)
            (repeat (with_reducible refine Mine.off ?_ hn4 _))
            exact hm1
          · rw [HPL.out, HQ1.out]; exact playGo_ok hlt HX.out (by rw [← HE1.out]; exact HEE.out)
        case measure => simp [intOf]; omega
      · have e1 : (E1 == 0) = false := by simp [he]
        have e2 : decide (E1 = 0) = false := by simp [he]
        have e3 : (E1 != 0) = true := by simp [he]
        have HEE := Lib.hid he
        clear he
        go_wp2
        have hfin : (Q, N, E) = (q, (k : Int), E1) := by rw [← HR.out, HPL.out, HE1.out]; exact playGo_no hlt HX.out (by rw [← HE1.out]; exact HEE.out)
        obtain ⟨rfl, rfl, rfl⟩ : Q = q ∧ N = (k : Int) ∧ E = E1 := by simpa using hfin
        refine bodyPost_ret (v := .tuple #[.agg #[.slice ad Q.cells.length cp, .int .i64 Q.bottles, .int .i64 Q.inH, .int .i64 Q.inA, .int .i64 Q.vH, .int .i64 Q.vA, .int .i64 Q.lH, .int .i64 Q.lA, .int .i64 Q.pH, .int .i64 Q.pA], .int .i64 k, .int .i64 E]) (by simp [results, Try.results53, go_sem, b4c0, b4f0, b4c1, b4f1, b4c2, b4f2, b4c3, b4f3, b4c4, b4f4, b4c5, b4f5, b4c6, b4f6, b4c7, b4f7, b4c8, b4f8, b4c9, b4f9]) rfl ⟨_, rfl, ?_, by (exact kpt)⟩
        have hn4 := hm.ne b4 (by decide)
        (repeat (with_reducible refine Mine.off ?_ hn4 _))
        exact hm
    · obtain rfl : k = ds.length := by omega
      have b4c0 := b4.cell 0
      have b4f0 := b4.free 0
      have b4c1 := b4.cell 1
      have b4f1 := b4.free 1
      have b4c2 := b4.cell 2
      have b4f2 := b4.free 2
      have b4c3 := b4.cell 3
      have b4f3 := b4.free 3
      have b4c4 := b4.cell 4
      have b4f4 := b4.free 4
      have b4c5 := b4.cell 5
      have b4f5 := b4.free 5
      have b4c6 := b4.cell 6
      have b4f6 := b4.free 6
      have b4c7 := b4.cell 7
      have b4f7 := b4.free 7
      have b4c8 := b4.cell 8
      have b4f8 := b4.free 8
      have b4c9 := b4.cell 9
      have b4f9 := b4.free 9
      have b4l := b4.lt
      simp at b4c0 b4c1 b4c2 b4c3 b4c4 b4c5 b4c6 b4c7 b4c8 b4c9
      go_wp2
      have hfin : (Q, N, E) = (q, 0, 0) := by rw [← HR.out, HPL.out]; exact playGo_last q ds
      obtain ⟨rfl, rfl, rfl⟩ : Q = q ∧ N = 0 ∧ E = 0 := by simpa using hfin
      refine bodyPost_ret (v := .tuple #[.agg #[.slice ad Q.cells.length cp, .int .i64 Q.bottles, .int .i64 Q.inH, .int .i64 Q.inA, .int .i64 Q.vH, .int .i64 Q.vA, .int .i64 Q.lH, .int .i64 Q.lA, .int .i64 Q.pH, .int .i64 Q.pA], .int .i64 0, .int .i64 0]) (by simp [results, Try.results53, go_sem, b4c0, b4f0, b4c1, b4f1, b4c2, b4f2, b4c3, b4f3, b4c4, b4f4, b4c5, b4f5, b4c6, b4f6, b4c7, b4f7, b4c8, b4f8, b4c9, b4f9]) rfl ⟨_, rfl, ?_, by (exact kpt)⟩
      have hn4 := hm.ne b4 (by decide)
      (repeat (with_reducible refine Mine.off ?_ hn4 _))
      exact hm

theorem f_Play (p : Plant) (ds : List Deed) (a : Option Addr) (cap : Nat) (b : Option Addr) (cb : Nat) (w : World) (hx : Row Cell.cells 7 w.heap.size w a p.cells) (hc : p.cells.length ≤ cap) (hM : cap ≤ maxLen) (hz : a = none → cap = 0) (hd : Row Deed.cells 4 w.heap.size w b ds) (hdc : ds.length ≤ cb) (hdM : cb ≤ maxLen) (hku : ∀ d ∈ ds, 0 ≤ d.kind ∧ d.kind ≤ 255) (Q : Plant) (N E : Int) (hR : play p ds = (Q, N, E)) : Calls Try.prog 53 #[.agg #[.slice a p.cells.length cap, .int .i64 p.bottles, .int .i64 p.inH, .int .i64 p.inA, .int .i64 p.vH, .int .i64 p.vA, .int .i64 p.lH, .int .i64 p.lA, .int .i64 p.pH, .int .i64 p.pA], .slice b ds.length cb] w fun e w' => ∃ v, e = .returned (.tuple #[.agg #[v, .int .i64 Q.bottles, .int .i64 Q.inH, .int .i64 Q.inA, .int .i64 Q.vH, .int .i64 Q.vA, .int .i64 Q.lH, .int .i64 Q.lA, .int .i64 Q.pH, .int .i64 Q.pA], .int .i64 N, .int .i64 E]) ∧ Mine 25 w.heap.size w' v Q.cells ∧ Kept w w' := by
  unfold play at hR
  cases hp : plantB p
  · simp [hp] at hR
    obtain ⟨rfl, rfl, rfl⟩ := hR
    exact f_Play_bad p ds a cap b cb w hx hc hM hz hd hdc hdM hp
  · by_cases hl : ds.length ≤ 200
    · simp only [hp, hl, if_true] at hR
      exact f_Play_ok p ds a cap b cb w hx hc hM hz hd hdc hdM hku hp hl Q N E hR
    · simp [hp, hl] at hR
      obtain ⟨rfl, rfl, rfl⟩ := hR
      exact f_Play_many p ds a cap b cb w hx hc hM hz hd hdc hdM hp (by omega)

end Go.Proofs.Ytemafanncejeiaa

/-
  The reference: acts played one behind the other.
-/
namespace Go.Proofs.Ytemafanncejeiaa
open Go.RowKit Bal Bal.Trim Bal.Gas
set_option linter.unusedVariables false
set_option linter.unusedSimpArgs false
set_option maxHeartbeats 8000000
set_option maxRecDepth 100000

theorem thru_ {P Q : Prop} (h : P) (k : P → Q) : Q := k h
theorem r_DoM {B n cp : Nat} {ad : Option Addr} {p : Plant} (d : Deed) {w : World} (h : Mine 25 B w (.slice ad n cp) p.cells) (Q : Plant) (E : Int) (hQ : Q = doQ p d) (hE : E = doE p d) :
    Calls Try.prog 49 #[.agg #[.slice ad n cp, .int .i64 p.bottles, .int .i64 p.inH, .int .i64 p.inA, .int .i64 p.vH, .int .i64 p.vA, .int .i64 p.lH, .int .i64 p.lA, .int .i64 p.pH, .int .i64 p.pA], .agg #[.int .u8 d.kind, .int .i64 d.cell, .int .i64 d.to, .int .i64 d.n]] w fun e w' => ∃ v, e = .returned (.tuple #[.agg #[v, .int .i64 Q.bottles, .int .i64 Q.inH, .int .i64 Q.inA, .int .i64 Q.vH, .int .i64 Q.vA, .int .i64 Q.lH, .int .i64 Q.lA, .int .i64 Q.pH, .int .i64 Q.pA], .int .i64 E]) ∧ Mine 25 w.heap.size w' v Q.cells ∧ Kept w w' := by
  obtain ⟨h1, h2, h3, h4, h5⟩ := h.row
  subst h1
  exact r_DoK p d ad cp w h2 h3 h4 h5 Q E hQ hE
def PlayCut (Q q : Plant) (E : Int) (ad : Option Addr) (cp s7 : Nat) (w : World) (s9 s10 : Value) (wx : World) : Prop :=
  ∃ g ad3 cp3, s9 = .pointer (some ⟨g, 0, none⟩) ∧ s10 = .int .i64 E ∧ Blk wx g #[.slice ad3 Q.cells.length cp3, .int .i64 Q.bottles, .int .i64 Q.inH, .int .i64 Q.inA, .int .i64 Q.vH, .int .i64 Q.vA, .int .i64 Q.lH, .int .i64 Q.lA, .int .i64 Q.pH, .int .i64 Q.pA] 63 ∧ Blk wx s7 #[.slice ad q.cells.length cp, .int .i64 q.bottles, .int .i64 q.inH, .int .i64 q.inA, .int .i64 q.vH, .int .i64 q.vA, .int .i64 q.lH, .int .i64 q.lA, .int .i64 q.pH, .int .i64 q.pA] 63 ∧ Blk wx (w.heap.size + 1) #[.slice none 0 0, .int .i64 0, .int .i64 0, .int .i64 0, .int .i64 0, .int .i64 0, .int .i64 0, .int .i64 0, .int .i64 0, .int .i64 0] 63 ∧ Mine 25 w.heap.size wx (.slice ad3 Q.cells.length cp3) Q.cells ∧ Mine 25 w.heap.size wx (.slice ad q.cells.length cp) q.cells ∧ Kept w wx
theorem r_Play_bad (p : Plant) (ds : List Deed) (a : Option Addr) (cap : Nat) (b : Option Addr) (cb : Nat) (w : World) (hx : Row Cell.cells 7 w.heap.size w a p.cells) (hc : p.cells.length ≤ cap) (hM : cap ≤ maxLen) (hz : a = none → cap = 0) (hd : Row Deed.cells 4 w.heap.size w b ds) (hdc : ds.length ≤ cb) (hdM : cb ≤ maxLen) (hp : plantB p = false) : Calls Try.prog 54 #[.agg #[.slice a p.cells.length cap, .int .i64 p.bottles, .int .i64 p.inH, .int .i64 p.inA, .int .i64 p.vH, .int .i64 p.vA, .int .i64 p.lH, .int .i64 p.lA, .int .i64 p.pH, .int .i64 p.pA], .slice b ds.length cb] w fun e w' => ∃ v, e = .returned (.tuple #[.agg #[v, .int .i64 noPlant.bottles, .int .i64 noPlant.inH, .int .i64 noPlant.inA, .int .i64 noPlant.vH, .int .i64 noPlant.vA, .int .i64 noPlant.lH, .int .i64 noPlant.lA, .int .i64 noPlant.pH, .int .i64 noPlant.pA], .int .i64 0, .int .i64 32]) ∧ Mine 25 w.heap.size w' v noPlant.cells ∧ Kept w w' := by
  have HP := Lib.hid hp
  clear hp
  go_enter Try.func54, Try.ntmps54
  go_upto_region 2 with (go_at_call 115; (with_reducible refine (r_Plant p a cap _ (hx.later (by (exact kpt)) (Nat.le_refl _)) hc hM).mono ?_); rw [HP.out]; rintro e w1 ⟨rfl, hb1⟩; refine Blk.thru (b := w.heap.size) (arr := ?_) (t := ?_) ?_ hb1 ?_; rotate_left 2; (focus (exact blk)); intro rr; have rrc0 := rr.cell 0; have rrf0 := rr.free 0; have rrc1 := rr.cell 1; have rrf1 := rr.free 1; have rrc2 := rr.cell 2; have rrf2 := rr.free 2; have rrc3 := rr.cell 3; have rrf3 := rr.free 3; have rrc4 := rr.cell 4; have rrf4 := rr.free 4; have rrc5 := rr.cell 5; have rrf5 := rr.free 5; have rrc6 := rr.cell 6; have rrf6 := rr.free 6; have rrc7 := rr.cell 7; have rrf7 := rr.free 7; have rrc8 := rr.cell 8; have rrf8 := rr.free 8; have rrc9 := rr.cell 9; have rrf9 := rr.free 9; have rrl := rr.lt; simp at rrc0 rrc1 rrc2 rrc3 rrc4 rrc5 rrc6 rrc7 rrc8 rrc9; refine Blk.thru (b := (w.heap.size + 1)) (arr := ?_) (t := ?_) ?_ hb1 ?_; rotate_left 2; (focus (exact blk)); intro rq; have rqc0 := rq.cell 0; have rqf0 := rq.free 0; have rqc1 := rq.cell 1; have rqf1 := rq.free 1; have rqc2 := rq.cell 2; have rqf2 := rq.free 2; have rqc3 := rq.cell 3; have rqf3 := rq.free 3; have rqc4 := rq.cell 4; have rqf4 := rq.free 4; have rqc5 := rq.cell 5; have rqf5 := rq.free 5; have rqc6 := rq.cell 6; have rqf6 := rq.free 6; have rqc7 := rq.cell 7; have rqf7 := rq.free 7; have rqc8 := rq.cell 8; have rqf8 := rq.free 8; have rqc9 := rq.cell 9; have rqf9 := rq.free 9; have rql := rq.lt; simp at rqc0 rqc1 rqc2 rqc3 rqc4 rqc5 rqc6 rqc7 rqc8 rqc9)
  clear rrc0 rrf0 rrc1 rrf1 rrc2 rrf2 rrc3 rrf3 rrc4 rrf4 rrc5 rrf5 rrc6 rrf6 rrc7 rrf7 rrc8 rrf8 rrc9 rrf9 rrl rqc0 rqf0 rqc1 rqf1 rqc2 rqf2 rqc3 rqf3 rqc4 rqf4 rqc5 rqf5 rqc6 rqf6 rqc7 rqf7 rqc8 rqf8 rqc9 rqf9 rql
  refine at_world (S := fun W => Blk W w.heap.size #[.slice a p.cells.length cap, .int .i64 p.bottles, .int .i64 p.inH, .int .i64 p.inA, .int .i64 p.vH, .int .i64 p.vA, .int .i64 p.lH, .int .i64 p.lA, .int .i64 p.pH, .int .i64 p.pA] 63 ∧ Blk W (w.heap.size + 1) #[.slice none 0 0, .int .i64 0, .int .i64 0, .int .i64 0, .int .i64 0, .int .i64 0, .int .i64 0, .int .i64 0, .int .i64 0, .int .i64 0] 63 ∧ Kept w W) ⟨by (exact blkc), by (exact blkc), by (exact kpt)⟩ ?_
  rintro W ⟨b0, b4, hk⟩
  have b4c0 := b4.cell 0
  have b4f0 := b4.free 0
  have b4c1 := b4.cell 1
  have b4f1 := b4.free 1
  have b4c2 := b4.cell 2
  have b4f2 := b4.free 2
  have b4c3 := b4.cell 3
  have b4f3 := b4.free 3
  have b4c4 := b4.cell 4
  have b4f4 := b4.free 4
  have b4c5 := b4.cell 5
  have b4f5 := b4.free 5
  have b4c6 := b4.cell 6
  have b4f6 := b4.free 6
  have b4c7 := b4.cell 7
  have b4f7 := b4.free 7
  have b4c8 := b4.cell 8
  have b4f8 := b4.free 8
  have b4c9 := b4.cell 9
  have b4f9 := b4.free 9
  have b4l := b4.lt
  simp at b4c0 b4c1 b4c2 b4c3 b4c4 b4c5 b4c6 b4c7 b4c8 b4c9
  go_wp2
  refine bodyPost_ret (v := .tuple #[.agg #[.slice none 0 0, .int .i64 0, .int .i64 0, .int .i64 0, .int .i64 0, .int .i64 0, .int .i64 0, .int .i64 0, .int .i64 0, .int .i64 0], .int .i64 0, .int .i64 32]) (by simp [results, Try.results54, go_sem, b4c0, b4f0, b4c1, b4f1, b4c2, b4f2, b4c3, b4f3, b4c4, b4f4, b4c5, b4f5, b4c6, b4f6, b4c7, b4f7, b4c8, b4f8, b4c9, b4f9]) rfl ⟨.slice none 0 0, rfl, Mine.zero, by (exact kpt)⟩
theorem r_Play_many (p : Plant) (ds : List Deed) (a : Option Addr) (cap : Nat) (b : Option Addr) (cb : Nat) (w : World) (hx : Row Cell.cells 7 w.heap.size w a p.cells) (hc : p.cells.length ≤ cap) (hM : cap ≤ maxLen) (hz : a = none → cap = 0) (hd : Row Deed.cells 4 w.heap.size w b ds) (hdc : ds.length ≤ cb) (hdM : cb ≤ maxLen) (hp : plantB p = true) (hl : 200 < ds.length) : Calls Try.prog 54 #[.agg #[.slice a p.cells.length cap, .int .i64 p.bottles, .int .i64 p.inH, .int .i64 p.inA, .int .i64 p.vH, .int .i64 p.vA, .int .i64 p.lH, .int .i64 p.lA, .int .i64 p.pH, .int .i64 p.pA], .slice b ds.length cb] w fun e w' => ∃ v, e = .returned (.tuple #[.agg #[v, .int .i64 noPlant.bottles, .int .i64 noPlant.inH, .int .i64 noPlant.inA, .int .i64 noPlant.vH, .int .i64 noPlant.vA, .int .i64 noPlant.lH, .int .i64 noPlant.lA, .int .i64 noPlant.pH, .int .i64 noPlant.pA], .int .i64 0, .int .i64 4]) ∧ Mine 25 w.heap.size w' v noPlant.cells ∧ Kept w w' := by
  have HP := Lib.hid hp
  have hl2 : decide ((200 : Int) < (ds.length : Int)) = true := by simp; omega
  clear hp
  go_enter Try.func54, Try.ntmps54
  go_upto_region 4 with (go_at_call 115; (with_reducible refine (r_Plant p a cap _ (hx.later (by (exact kpt)) (Nat.le_refl _)) hc hM).mono ?_); rw [HP.out]; rintro e w1 ⟨rfl, hb1⟩; refine Blk.thru (b := w.heap.size) (arr := ?_) (t := ?_) ?_ hb1 ?_; rotate_left 2; (focus (exact blk)); intro rr; have rrc0 := rr.cell 0; have rrf0 := rr.free 0; have rrc1 := rr.cell 1; have rrf1 := rr.free 1; have rrc2 := rr.cell 2; have rrf2 := rr.free 2; have rrc3 := rr.cell 3; have rrf3 := rr.free 3; have rrc4 := rr.cell 4; have rrf4 := rr.free 4; have rrc5 := rr.cell 5; have rrf5 := rr.free 5; have rrc6 := rr.cell 6; have rrf6 := rr.free 6; have rrc7 := rr.cell 7; have rrf7 := rr.free 7; have rrc8 := rr.cell 8; have rrf8 := rr.free 8; have rrc9 := rr.cell 9; have rrf9 := rr.free 9; have rrl := rr.lt; simp at rrc0 rrc1 rrc2 rrc3 rrc4 rrc5 rrc6 rrc7 rrc8 rrc9; refine Blk.thru (b := (w.heap.size + 1)) (arr := ?_) (t := ?_) ?_ hb1 ?_; rotate_left 2; (focus (exact blk)); intro rq; have rqc0 := rq.cell 0; have rqf0 := rq.free 0; have rqc1 := rq.cell 1; have rqf1 := rq.free 1; have rqc2 := rq.cell 2; have rqf2 := rq.free 2; have rqc3 := rq.cell 3; have rqf3 := rq.free 3; have rqc4 := rq.cell 4; have rqf4 := rq.free 4; have rqc5 := rq.cell 5; have rqf5 := rq.free 5; have rqc6 := rq.cell 6; have rqf6 := rq.free 6; have rqc7 := rq.cell 7; have rqf7 := rq.free 7; have rqc8 := rq.cell 8; have rqf8 := rq.free 8; have rqc9 := rq.cell 9; have rqf9 := rq.free 9; have rql := rq.lt; simp at rqc0 rqc1 rqc2 rqc3 rqc4 rqc5 rqc6 rqc7 rqc8 rqc9)
  clear rrc0 rrf0 rrc1 rrf1 rrc2 rrf2 rrc3 rrf3 rrc4 rrf4 rrc5 rrf5 rrc6 rrf6 rrc7 rrf7 rrc8 rrf8 rrc9 rrf9 rrl rqc0 rqf0 rqc1 rqf1 rqc2 rqf2 rqc3 rqf3 rqc4 rqf4 rqc5 rqf5 rqc6 rqf6 rqc7 rqf7 rqc8 rqf8 rqc9 rqf9 rql
  refine at_world (S := fun W => Blk W w.heap.size #[.slice a p.cells.length cap, .int .i64 p.bottles, .int .i64 p.inH, .int .i64 p.inA, .int .i64 p.vH, .int .i64 p.vA, .int .i64 p.lH, .int .i64 p.lA, .int .i64 p.pH, .int .i64 p.pA] 63 ∧ Blk W (w.heap.size + 1) #[.slice none 0 0, .int .i64 0, .int .i64 0, .int .i64 0, .int .i64 0, .int .i64 0, .int .i64 0, .int .i64 0, .int .i64 0, .int .i64 0] 63 ∧ Kept w W) ⟨by (exact blkc), by (exact blkc), by (exact kpt)⟩ ?_
  rintro W ⟨b0, b4, hk⟩
  have b4c0 := b4.cell 0
  have b4f0 := b4.free 0
  have b4c1 := b4.cell 1
  have b4f1 := b4.free 1
  have b4c2 := b4.cell 2
  have b4f2 := b4.free 2
  have b4c3 := b4.cell 3
  have b4f3 := b4.free 3
  have b4c4 := b4.cell 4
  have b4f4 := b4.free 4
  have b4c5 := b4.cell 5
  have b4f5 := b4.free 5
  have b4c6 := b4.cell 6
  have b4f6 := b4.free 6
  have b4c7 := b4.cell 7
  have b4f7 := b4.free 7
  have b4c8 := b4.cell 8
  have b4f8 := b4.free 8
  have b4c9 := b4.cell 9
  have b4f9 := b4.free 9
  have b4l := b4.lt
  simp at b4c0 b4c1 b4c2 b4c3 b4c4 b4c5 b4c6 b4c7 b4c8 b4c9
  go_wp2
  refine bodyPost_ret (v := .tuple #[.agg #[.slice none 0 0, .int .i64 0, .int .i64 0, .int .i64 0, .int .i64 0, .int .i64 0, .int .i64 0, .int .i64 0, .int .i64 0, .int .i64 0], .int .i64 0, .int .i64 4]) (by simp [results, Try.results54, go_sem, b4c0, b4f0, b4c1, b4f1, b4c2, b4f2, b4c3, b4f3, b4c4, b4f4, b4c5, b4f5, b4c6, b4f6, b4c7, b4f7, b4c8, b4f8, b4c9, b4f9]) rfl ⟨.slice none 0 0, rfl, Mine.zero, by (exact kpt)⟩

theorem r_Play_ok (p : Plant) (ds : List Deed) (a : Option Addr) (cap : Nat) (b : Option Addr) (cb : Nat) (w : World) (hx : Row Cell.cells 7 w.heap.size w a p.cells) (hc : p.cells.length ≤ cap) (hM : cap ≤ maxLen) (hz : a = none → cap = 0) (hd : Row Deed.cells 4 w.heap.size w b ds) (hdc : ds.length ≤ cb) (hdM : cb ≤ maxLen) (hp : plantB p = true) (hl : ds.length ≤ 200) (Q : Plant) (N E : Int) (hR : playGo p ds 0 = (Q, N, E)) : Calls Try.prog 54 #[.agg #[.slice a p.cells.length cap, .int .i64 p.bottles, .int .i64 p.inH, .int .i64 p.inA, .int .i64 p.vH, .int .i64 p.vA, .int .i64 p.lH, .int .i64 p.lA, .int .i64 p.pH, .int .i64 p.pA], .slice b ds.length cb] w fun e w' => ∃ v, e = .returned (.tuple #[.agg #[v, .int .i64 Q.bottles, .int .i64 Q.inH, .int .i64 Q.inA, .int .i64 Q.vH, .int .i64 Q.vA, .int .i64 Q.lH, .int .i64 Q.lA, .int .i64 Q.pH, .int .i64 Q.pA], .int .i64 N, .int .i64 E]) ∧ Mine 25 w.heap.size w' v Q.cells ∧ Kept w w' := by
  have HP := Lib.hid hp
  have hn12 : p.cells.length ≤ 12 := (plantB_iff.1 hp).1
  have HR := Lib.hid hR
  clear hp hR
  go_enter Try.func54, Try.ntmps54
  go_upto_region 5 with (go_at_call 115; (with_reducible refine (r_Plant p a cap _ (hx.later (by (exact kpt)) (Nat.le_refl _)) hc hM).mono ?_); rw [HP.out]; rintro e w1 ⟨rfl, hb1⟩; refine Blk.thru (b := w.heap.size) (arr := ?_) (t := ?_) ?_ hb1 ?_; rotate_left 2; (focus (exact blk)); intro rr; have rrc0 := rr.cell 0; have rrf0 := rr.free 0; have rrc1 := rr.cell 1; have rrf1 := rr.free 1; have rrc2 := rr.cell 2; have rrf2 := rr.free 2; have rrc3 := rr.cell 3; have rrf3 := rr.free 3; have rrc4 := rr.cell 4; have rrf4 := rr.free 4; have rrc5 := rr.cell 5; have rrf5 := rr.free 5; have rrc6 := rr.cell 6; have rrf6 := rr.free 6; have rrc7 := rr.cell 7; have rrf7 := rr.free 7; have rrc8 := rr.cell 8; have rrf8 := rr.free 8; have rrc9 := rr.cell 9; have rrf9 := rr.free 9; have rrl := rr.lt; simp at rrc0 rrc1 rrc2 rrc3 rrc4 rrc5 rrc6 rrc7 rrc8 rrc9; refine Blk.thru (b := (w.heap.size + 1)) (arr := ?_) (t := ?_) ?_ hb1 ?_; rotate_left 2; (focus (exact blk)); intro rq; have rqc0 := rq.cell 0; have rqf0 := rq.free 0; have rqc1 := rq.cell 1; have rqf1 := rq.free 1; have rqc2 := rq.cell 2; have rqf2 := rq.free 2; have rqc3 := rq.cell 3; have rqf3 := rq.free 3; have rqc4 := rq.cell 4; have rqf4 := rq.free 4; have rqc5 := rq.cell 5; have rqf5 := rq.free 5; have rqc6 := rq.cell 6; have rqf6 := rq.free 6; have rqc7 := rq.cell 7; have rqf7 := rq.free 7; have rqc8 := rq.cell 8; have rqf8 := rq.free 8; have rqc9 := rq.cell 9; have rqf9 := rq.free 9; have rql := rq.lt; simp at rqc0 rqc1 rqc2 rqc3 rqc4 rqc5 rqc6 rqc7 rqc8 rqc9)
  clear rrc0 rrf0 rrc1 rrf1 rrc2 rrf2 rrc3 rrf3 rrc4 rrf4 rrc5 rrf5 rrc6 rrf6 rrc7 rrf7 rrc8 rrf8 rrc9 rrf9 rrl rqc0 rqf0 rqc1 rqf1 rqc2 rqf2 rqc3 rqf3 rqc4 rqf4 rqc5 rqf5 rqc6 rqf6 rqc7 rqf7 rqc8 rqf8 rqc9 rqf9 rql
  refine at_world (S := fun W => Blk W w.heap.size #[.slice a p.cells.length cap, .int .i64 p.bottles, .int .i64 p.inH, .int .i64 p.inA, .int .i64 p.vH, .int .i64 p.vA, .int .i64 p.lH, .int .i64 p.lA, .int .i64 p.pH, .int .i64 p.pA] 63 ∧ Blk W (w.heap.size + 1) #[.slice none 0 0, .int .i64 0, .int .i64 0, .int .i64 0, .int .i64 0, .int .i64 0, .int .i64 0, .int .i64 0, .int .i64 0, .int .i64 0] 63 ∧ Kept w W) ⟨by (exact blkd), by (exact blkd), by (exact kpt)⟩ ?_
  rintro W ⟨b0, b4, hk⟩
  have b0c0 := b0.cell 0
  have b0f0 := b0.free 0
  have b0c1 := b0.cell 1
  have b0f1 := b0.free 1
  have b0c2 := b0.cell 2
  have b0f2 := b0.free 2
  have b0c3 := b0.cell 3
  have b0f3 := b0.free 3
  have b0c4 := b0.cell 4
  have b0f4 := b0.free 4
  have b0c5 := b0.cell 5
  have b0f5 := b0.free 5
  have b0c6 := b0.cell 6
  have b0f6 := b0.free 6
  have b0c7 := b0.cell 7
  have b0f7 := b0.free 7
  have b0c8 := b0.cell 8
  have b0f8 := b0.free 8
  have b0c9 := b0.cell 9
  have b0f9 := b0.free 9
  have b0l := b0.lt
  simp at b0c0 b0c1 b0c2 b0c3 b0c4 b0c5 b0c6 b0c7 b0c8 b0c9
  go_upto_region 6 with (go_at_call 47; (with_reducible refine (r_Twin p a cap _ (hx.later (by (exact kpt)) (Nat.le_refl _)) (by omega) hz).mono ?_); rintro e w2 ⟨ad, cp, rfl, hm1, hb2⟩)
  clear b0c0 b0f0 b0c1 b0f1 b0c2 b0f2 b0c3 b0f3 b0c4 b0f4 b0c5 b0f5 b0c6 b0f6 b0c7 b0f7 b0c8 b0f8 b0c9 b0f9 b0l
  have hm2 := hm1.base (C := w.heap.size) hk.size
  refine at_world (S := fun X => Blk X (w.heap.size + 1) #[.slice none 0 0, .int .i64 0, .int .i64 0, .int .i64 0, .int .i64 0, .int .i64 0, .int .i64 0, .int .i64 0, .int .i64 0, .int .i64 0] 63 ∧ Blk X w2.heap.size #[.slice ad p.cells.length cp, .int .i64 p.bottles, .int .i64 p.inH, .int .i64 p.inA, .int .i64 p.vH, .int .i64 p.vA, .int .i64 p.lH, .int .i64 p.lA, .int .i64 p.pH, .int .i64 p.pA] 63 ∧ Mine 25 w.heap.size X (.slice ad p.cells.length cp) p.cells ∧ Kept w X ∧ w.heap.size + 1 < w2.heap.size) ⟨by (exact blkd), by (exact blkd), by exact (by have hnp := mine_past hm2 (Nat.le_refl _); (repeat (with_reducible refine Mine.off ?_ hnp _)); exact hm2.alloc _), by (exact kpt), (b4.keep hb2).lt⟩ ?_
  clear b0 b4 hk hm1 hm2 hb2
  rintro X ⟨b4, b7, hm, hk, hs7⟩
  generalize w2.heap.size = s7 at b7 hs7
  go_wp2
  go_loopw [8] (fun i wr => ∃ (k : Nat) (q : Plant) (ad : Option Addr) (cp : Nat), k ≤ ds.length ∧ i = .int .i64 k ∧ Blk wr s7 #[.slice ad q.cells.length cp, .int .i64 q.bottles, .int .i64 q.inH, .int .i64 q.inA, .int .i64 q.vH, .int .i64 q.vA, .int .i64 q.lH, .int .i64 q.lA, .int .i64 q.pH, .int .i64 q.pA] 63 ∧ Blk wr (w.heap.size + 1) #[.slice none 0 0, .int .i64 0, .int .i64 0, .int .i64 0, .int .i64 0, .int .i64 0, .int .i64 0, .int .i64 0, .int .i64 0, .int .i64 0] 63 ∧ Mine 25 w.heap.size wr (.slice ad q.cells.length cp) q.cells ∧ Kept w wr ∧ playGo p ds 0 = playGo q (ds.drop k) k) (fun i _ => ds.length - (intOf i).toNat)
  case atStart => exact ⟨0, p, ad, cp, Nat.zero_le _, rfl, b7, b4, hm, hk, by simp⟩
  case round =>
    clear b7 b4 hm hk
    obtain ⟨k, q, ad, cp, hk0, rfl, b7, b4, hm, hk, hpl⟩ := hrel
    have HPL := Lib.hid hpl
    clear hpl
    by_cases hlt : k < ds.length
    · obtain ⟨b1, o1, rfl, hb1, d0, d1, d2, d3⟩ := Deed.row (hd.later hk (Nat.le_refl _)) k hlt
      obtain ⟨x, hxx⟩ : ∃ x, x = ds[k] := ⟨_, rfl⟩
      rw [← hxx] at d0 d1 d2 d3
      have HX := Lib.hid hxx
      clear hxx
      obtain ⟨Q1, hQ1⟩ : ∃ Q1, Q1 = doQ q x := ⟨_, rfl⟩
      obtain ⟨E1, hE1⟩ : ∃ E1, E1 = doE q x := ⟨_, rfl⟩
      have HQ1 := Lib.hid hQ1
      have HE1 := Lib.hid hE1
      clear hQ1 hE1
      go_upto_region 9 with fail
      have r7k0 : ∀ w', Kept wr w' → w'.cell? ⟨s7, 0, none⟩ = _ := fun w' h => (b7.keep h).cell 0
      have r7k1 : ∀ w', Kept wr w' → w'.cell? ⟨s7, 1, none⟩ = _ := fun w' h => (b7.keep h).cell 1
      have r7k2 : ∀ w', Kept wr w' → w'.cell? ⟨s7, 2, none⟩ = _ := fun w' h => (b7.keep h).cell 2
      have r7k3 : ∀ w', Kept wr w' → w'.cell? ⟨s7, 3, none⟩ = _ := fun w' h => (b7.keep h).cell 3
      have r7k4 : ∀ w', Kept wr w' → w'.cell? ⟨s7, 4, none⟩ = _ := fun w' h => (b7.keep h).cell 4
      have r7k5 : ∀ w', Kept wr w' → w'.cell? ⟨s7, 5, none⟩ = _ := fun w' h => (b7.keep h).cell 5
      have r7k6 : ∀ w', Kept wr w' → w'.cell? ⟨s7, 6, none⟩ = _ := fun w' h => (b7.keep h).cell 6
      have r7k7 : ∀ w', Kept wr w' → w'.cell? ⟨s7, 7, none⟩ = _ := fun w' h => (b7.keep h).cell 7
      have r7k8 : ∀ w', Kept wr w' → w'.cell? ⟨s7, 8, none⟩ = _ := fun w' h => (b7.keep h).cell 8
      have r7k9 : ∀ w', Kept wr w' → w'.cell? ⟨s7, 9, none⟩ = _ := fun w' h => (b7.keep h).cell 9
      simp at r7k0 r7k1 r7k2 r7k3 r7k4 r7k5 r7k6 r7k7 r7k8 r7k9
      have y0 : ∀ w', Kept wr w' → w'.cell? ⟨b1, o1 + k * 4, none⟩ = _ := fun w' h => (h.cell (p := ⟨b1, o1 + k * 4, none⟩) hb1).trans d0
      have y1 : ∀ w', Kept wr w' → w'.cell? ⟨b1, o1 + k * 4 + 1, none⟩ = _ := fun w' h => (h.cell (p := ⟨b1, o1 + k * 4 + 1, none⟩) hb1).trans d1
      have y2 : ∀ w', Kept wr w' → w'.cell? ⟨b1, o1 + k * 4 + 2, none⟩ = _ := fun w' h => (h.cell (p := ⟨b1, o1 + k * 4 + 2, none⟩) hb1).trans d2
      have y3 : ∀ w', Kept wr w' → w'.cell? ⟨b1, o1 + k * 4 + 3, none⟩ = _ := fun w' h => (h.cell (p := ⟨b1, o1 + k * 4 + 3, none⟩) hb1).trans d3
      have l7 := b7.lt
      have l4 := b4.lt
      go_cut [9, 10] (fun s9 s10 wx => PlayCut Q1 q E1 ad cp s7 w s9 s10 wx)
      case first =>
        clear d0 d1 d2 d3
        go_region_held3 (fun w' => Kept wr w') (exact kpt) (first | (go_at_call 49; (with_reducible refine (r_DoM x (hm.keep (by (exact kpt))) Q1 E1 HQ1.out HE1.out).mono ?_); rintro e w3 ⟨v3, rfl, hm3, hb3⟩; obtain ⟨ad3, cp3, rfl, hl3, hc3, hz3⟩ := hm3.slice; (first | (refine Blk.thru (b := wr.heap.size) (arr := #[.slice none 0 0, .int .i64 0, .int .i64 0, .int .i64 0, .int .i64 0, .int .i64 0, .int .i64 0, .int .i64 0, .int .i64 0, .int .i64 0]) (t := 63) ?_ hb3 ?_; (focus (first | with_reducible assumption | (refine Blk.new' ?_; (focus (simp; done))) | (refine Blk.drew (Blk.new' ?_); (focus (simp; done))) | (refine Blk.alloc (Blk.new' ?_) _; (focus (simp; done))) | (refine Blk.drew (Blk.alloc (Blk.new' ?_) _); (focus (simp; done))) | (refine Blk.alloc (Blk.drew (Blk.new' ?_)) _; (focus (simp; done))) | (refine Blk.alloc ?_ _; with_reducible assumption) | (refine Blk.drew ?_; with_reducible assumption) | (refine Blk.drew (Blk.alloc ?_ _); with_reducible assumption) | fail)); intro tz; have tzc0 := tz.cell 0; have tzf0 := tz.free 0; have tzc1 := tz.cell 1; have tzf1 := tz.free 1; have tzc2 := tz.cell 2; have tzf2 := tz.free 2; have tzc3 := tz.cell 3; have tzf3 := tz.free 3; have tzc4 := tz.cell 4; have tzf4 := tz.free 4; have tzc5 := tz.cell 5; have tzf5 := tz.free 5; have tzc6 := tz.cell 6; have tzf6 := tz.free 6; have tzc7 := tz.cell 7; have tzf7 := tz.free 7; have tzc8 := tz.cell 8; have tzf8 := tz.free 8; have tzc9 := tz.cell 9; have tzf9 := tz.free 9; have tzl := tz.lt; simp at tzc0 tzc1 tzc2 tzc3 tzc4 tzc5 tzc6 tzc7 tzc8 tzc9) | skip)) | fail)
        all_goals (go_wp2_with fail; go_meet)
        all_goals
          have hwz := hk.size
          refine ⟨_, ad3, cp3, rfl, rfl, by (exact blkd), by (exact blkd), by (exact blkd), ?_, ?_, by (exact kpt)⟩
          · first | (refine thru_ (mine_below hm3 (b := wr.heap.size) ?_) ?_; (focus (simp; done)); intro hn; (repeat (first | with_reducible refine Mine.off ?_ hn _ | with_reducible refine Mine.drew ?_ | with_reducible refine Mine.alloc ?_ _)); exact hm3.base (by first | omega | (simp; omega))) | (have hn := mine_past hm3 (Nat.le_refl _); (repeat (first | with_reducible refine Mine.off ?_ hn _ | with_reducible refine Mine.drew ?_ | with_reducible refine Mine.alloc ?_ _)); exact hm3.base (by first | omega | (simp; omega)))
          · have hm4 := hm.keep (show Kept wr w3 by (exact kpt)); first | (have hn := mine_past hm (b := wr.heap.size) (Nat.le_refl _); (repeat (first | with_reducible refine Mine.off ?_ hn _ | with_reducible refine Mine.drew ?_ | with_reducible refine Mine.alloc ?_ _)); exact hm4) | (have hn := mine_past hm4 (Nat.le_refl _); (repeat (first | with_reducible refine Mine.off ?_ hn _ | with_reducible refine Mine.drew ?_ | with_reducible refine Mine.alloc ?_ _)); exact hm4)
      case rest =>
        clear r7k0 r7k1 r7k2 r7k3 r7k4 r7k5 r7k6 r7k7 r7k8 r7k9 y0 y1 y2 y3 d0 d1 d2 d3 hm hk b7 b4 l7 l4
        obtain ⟨s9, ad3, cp3, rfl, rfl, b9, b7, b4, hm1, hm, hk⟩ := hcut
        have b9c0 := b9.cell 0
        have b9f0 := b9.free 0
        have b9c1 := b9.cell 1
        have b9f1 := b9.free 1
        have b9c2 := b9.cell 2
        have b9f2 := b9.free 2
        have b9c3 := b9.cell 3
        have b9f3 := b9.free 3
        have b9c4 := b9.cell 4
        have b9f4 := b9.free 4
        have b9c5 := b9.cell 5
        have b9f5 := b9.free 5
        have b9c6 := b9.cell 6
        have b9f6 := b9.free 6
        have b9c7 := b9.cell 7
        have b9f7 := b9.free 7
        have b9c8 := b9.cell 8
        have b9f8 := b9.free 8
        have b9c9 := b9.cell 9
        have b9f9 := b9.free 9
        have b9l := b9.lt
        simp at b9c0 b9c1 b9c2 b9c3 b9c4 b9c5 b9c6 b9c7 b9c8 b9c9
        have b7c0 := b7.cell 0
        have b7f0 := b7.free 0
        have b7c1 := b7.cell 1
        have b7f1 := b7.free 1
        have b7c2 := b7.cell 2
        have b7f2 := b7.free 2
        have b7c3 := b7.cell 3
        have b7f3 := b7.free 3
        have b7c4 := b7.cell 4
        have b7f4 := b7.free 4
        have b7c5 := b7.cell 5
        have b7f5 := b7.free 5
        have b7c6 := b7.cell 6
        have b7f6 := b7.free 6
        have b7c7 := b7.cell 7
        have b7f7 := b7.free 7
        have b7c8 := b7.cell 8
        have b7f8 := b7.free 8
        have b7c9 := b7.cell 9
        have b7f9 := b7.free 9
        have b7l := b7.lt
        simp at b7c0 b7c1 b7c2 b7c3 b7c4 b7c5 b7c6 b7c7 b7c8 b7c9
        have b4c0 := b4.cell 0
        have b4f0 := b4.free 0
        have b4c1 := b4.cell 1
        have b4f1 := b4.free 1
        have b4c2 := b4.cell 2
        have b4f2 := b4.free 2
        have b4c3 := b4.cell 3
        have b4f3 := b4.free 3
        have b4c4 := b4.cell 4
        have b4f4 := b4.free 4
        have b4c5 := b4.cell 5
        have b4f5 := b4.free 5
        have b4c6 := b4.cell 6
        have b4f6 := b4.free 6
        have b4c7 := b4.cell 7
        have b4f7 := b4.free 7
        have b4c8 := b4.cell 8
        have b4f8 := b4.free 8
        have b4c9 := b4.cell 9
        have b4f9 := b4.free 9
        have b4l := b4.lt
        simp at b4c0 b4c1 b4c2 b4c3 b4c4 b4c5 b4c6 b4c7 b4c8 b4c9
        by_cases he : E1 = 0
        · have e1 : (E1 == 0) = true := by simp [he]
          have e2 : decide (E1 = 0) = true := by simp [he]
          have e3 : (E1 != 0) = false := by simp [he]
          have HEE := Lib.hid he
          clear he
          go_wp2
          go_round
          case rel =>
            refine ⟨k + 1, Q1, ad3, cp3, by omega, by go_num, by (exact blkd), by (exact blkd), ?_, by (exact kpt), ?_⟩
            · have hn4 := hm1.ne b7 (by decide)
              (repeat (with_reducible refine Mine.off ?_ hn4 _))
              exact hm1
            · rw [HPL.out, HQ1.out]; exact playGo_ok hlt HX.out (by rw [← HE1.out]; exact HEE.out)
          case measure => simp [intOf]; omega
        · have e1 : (E1 == 0) = false := by simp [he]
          have e2 : decide (E1 = 0) = false := by simp [he]
          have e3 : (E1 != 0) = true := by simp [he]
          have HEE := Lib.hid he
          clear he
          go_wp2
          have hfin : (Q, N, E) = (q, (k : Int), E1) := by rw [← HR.out, HPL.out, HE1.out]; exact playGo_no hlt HX.out (by rw [← HE1.out]; exact HEE.out)
          obtain ⟨rfl, rfl, rfl⟩ : Q = q ∧ N = (k : Int) ∧ E = E1 := by simpa using hfin
          refine bodyPost_ret (v := .tuple #[.agg #[.slice ad Q.cells.length cp, .int .i64 Q.bottles, .int .i64 Q.inH, .int .i64 Q.inA, .int .i64 Q.vH, .int .i64 Q.vA, .int .i64 Q.lH, .int .i64 Q.lA, .int .i64 Q.pH, .int .i64 Q.pA], .int .i64 k, .int .i64 E]) (by simp [results, Try.results54, go_sem, b4c0, b4f0, b4c1, b4f1, b4c2, b4f2, b4c3, b4f3, b4c4, b4f4, b4c5, b4f5, b4c6, b4f6, b4c7, b4f7, b4c8, b4f8, b4c9, b4f9, b7c0, b7f0, b7c1, b7f1, b7c2, b7f2, b7c3, b7f3, b7c4, b7f4, b7c5, b7f5, b7c6, b7f6, b7c7, b7f7, b7c8, b7f8, b7c9, b7f9]) rfl ⟨_, rfl, ?_, by (exact kpt)⟩
          have hn4 := hm.ne b4 (by decide)
          (repeat (with_reducible refine Mine.off ?_ hn4 _))
          exact hm
    · obtain rfl : k = ds.length := by omega
      have b7c0 := b7.cell 0
      have b7f0 := b7.free 0
      have b7c1 := b7.cell 1
      have b7f1 := b7.free 1
      have b7c2 := b7.cell 2
      have b7f2 := b7.free 2
      have b7c3 := b7.cell 3
      have b7f3 := b7.free 3
      have b7c4 := b7.cell 4
      have b7f4 := b7.free 4
      have b7c5 := b7.cell 5
      have b7f5 := b7.free 5
      have b7c6 := b7.cell 6
      have b7f6 := b7.free 6
      have b7c7 := b7.cell 7
      have b7f7 := b7.free 7
      have b7c8 := b7.cell 8
      have b7f8 := b7.free 8
      have b7c9 := b7.cell 9
      have b7f9 := b7.free 9
      have b7l := b7.lt
      simp at b7c0 b7c1 b7c2 b7c3 b7c4 b7c5 b7c6 b7c7 b7c8 b7c9
      have b4c0 := b4.cell 0
      have b4f0 := b4.free 0
      have b4c1 := b4.cell 1
      have b4f1 := b4.free 1
      have b4c2 := b4.cell 2
      have b4f2 := b4.free 2
      have b4c3 := b4.cell 3
      have b4f3 := b4.free 3
      have b4c4 := b4.cell 4
      have b4f4 := b4.free 4
      have b4c5 := b4.cell 5
      have b4f5 := b4.free 5
      have b4c6 := b4.cell 6
      have b4f6 := b4.free 6
      have b4c7 := b4.cell 7
      have b4f7 := b4.free 7
      have b4c8 := b4.cell 8
      have b4f8 := b4.free 8
      have b4c9 := b4.cell 9
      have b4f9 := b4.free 9
      have b4l := b4.lt
      simp at b4c0 b4c1 b4c2 b4c3 b4c4 b4c5 b4c6 b4c7 b4c8 b4c9
      go_wp2
      have hfin : (Q, N, E) = (q, 0, 0) := by rw [← HR.out, HPL.out]; exact playGo_last q ds
      obtain ⟨rfl, rfl, rfl⟩ : Q = q ∧ N = 0 ∧ E = 0 := by simpa using hfin
      refine bodyPost_ret (v := .tuple #[.agg #[.slice ad Q.cells.length cp, .int .i64 Q.bottles, .int .i64 Q.inH, .int .i64 Q.inA, .int .i64 Q.vH, .int .i64 Q.vA, .int .i64 Q.lH, .int .i64 Q.lA, .int .i64 Q.pH, .int .i64 Q.pA], .int .i64 0, .int .i64 0]) (by simp [results, Try.results54, go_sem, b4c0, b4f0, b4c1, b4f1, b4c2, b4f2, b4c3, b4f3, b4c4, b4f4, b4c5, b4f5, b4c6, b4f6, b4c7, b4f7, b4c8, b4f8, b4c9, b4f9, b7c0, b7f0, b7c1, b7f1, b7c2, b7f2, b7c3, b7f3, b7c4, b7f4, b7c5, b7f5, b7c6, b7f6, b7c7, b7f7, b7c8, b7f8, b7c9, b7f9]) rfl ⟨_, rfl, ?_, by (exact kpt)⟩
      have hn4 := hm.ne b4 (by decide)
      (repeat (with_reducible refine Mine.off ?_ hn4 _))
      exact hm

theorem r_Play (p : Plant) (ds : List Deed) (a : Option Addr) (cap : Nat) (b : Option Addr) (cb : Nat) (w : World) (hx : Row Cell.cells 7 w.heap.size w a p.cells) (hc : p.cells.length ≤ cap) (hM : cap ≤ maxLen) (hz : a = none → cap = 0) (hd : Row Deed.cells 4 w.heap.size w b ds) (hdc : ds.length ≤ cb) (hdM : cb ≤ maxLen) (Q : Plant) (N E : Int) (hR : play p ds = (Q, N, E)) : Calls Try.prog 54 #[.agg #[.slice a p.cells.length cap, .int .i64 p.bottles, .int .i64 p.inH, .int .i64 p.inA, .int .i64 p.vH, .int .i64 p.vA, .int .i64 p.lH, .int .i64 p.lA, .int .i64 p.pH, .int .i64 p.pA], .slice b ds.length cb] w fun e w' => ∃ v, e = .returned (.tuple #[.agg #[v, .int .i64 Q.bottles, .int .i64 Q.inH, .int .i64 Q.inA, .int .i64 Q.vH, .int .i64 Q.vA, .int .i64 Q.lH, .int .i64 Q.lA, .int .i64 Q.pH, .int .i64 Q.pA], .int .i64 N, .int .i64 E]) ∧ Mine 25 w.heap.size w' v Q.cells ∧ Kept w w' := by
  unfold play at hR
  cases hp : plantB p
  · simp [hp] at hR
    obtain ⟨rfl, rfl, rfl⟩ := hR
    exact r_Play_bad p ds a cap b cb w hx hc hM hz hd hdc hdM hp
  · by_cases hl : ds.length ≤ 200
    · simp only [hp, hl, if_true] at hR
      exact r_Play_ok p ds a cap b cb w hx hc hM hz hd hdc hdM hp hl Q N E hR
    · simp [hp, hl] at hR
      obtain ⟨rfl, rfl, rfl⟩ := hR
      exact r_Play_many p ds a cap b cb w hx hc hM hz hd hdc hdM hp (by omega)

end Go.Proofs.Ytemafanncejeiaa

/-
  A list copied by append to an empty slice of the call's own: what was there ahead of it stays. No program in sight.
-/
namespace Bal
open Go Go.RowKit
set_option linter.unusedVariables false
theorem owns_none {w : World} {base k n m c : Nat} {e : TypeId} {a : Option Addr} {xs : List Value} (h : w.ownsRow base e k (.slice a n c) m xs) : a = none → c = 0 := by
  rintro rfl
  obtain ⟨_, ⟨hv, _⟩ | ⟨g, cap, cur, hv, _⟩⟩ := h
  · cases hv; rfl
  · cases hv
theorem wpList_copyZ {α : Type} {enc : α → List Value} {P : Program} {w0 w : World} {ops : Array Oper} {rest : List Oper} {o : Oper} {a : Act} {Q : Exit → Act → World → Prop} (hgd : o.guard = none) (s x : Operand) (t : TypeId)
    (ho : o.op = .call { callee := .builtin .append, args := #[s, x], argTypes := #[t, t] })
    (base : Nat) (e : TypeId) (z : Value) (size bytes : Nat) (ht : P.underlying t = some (.slice e)) (hinfo : (P.info? e).map (fun i => (i.zero, i.size, i.bytes)) = some (some z, size, bytes))
    (hzs : z.cells.size = size) (hsz : 0 < size) (he : ∀ x : α, (enc x).length = size) (h1 : ∀ (x : α), ∀ u ∈ enc x, u.oneCell' = true)
    (n : Nat) (hn : n = w.heap.size) (hs : a.eval s = .slice (some ⟨n, 0, none⟩) 0 0)
    (ad : Option Addr) (c : Nat) (ys : List α) (hx : a.eval x = .slice ad ys.length c) (hc : ad = none → c = 0) (hrow : Row enc size w0.heap.size w0 ad ys) (hk : Kept w0 w) (hbase : base = w0.heap.size)
    (h63 : ys.length ≤ 1000000) (hbytes : bytes ≤ 100000)
    (h : ∀ ad' cp w', Row enc size w'.heap.size w' ad' ys → ys.length ≤ cp → cp ≤ maxLen → Kept w0 w' → Kept w w' → (ad' = none → cp = 0) → wpList P ops Q rest (a.put o.dst (.slice ad' ys.length cp)) w') :
    wpList P ops Q (o :: rest) a (w.alloc (.cells #[] e)) := by
  subst hbase
  obtain ⟨i, hi, hz, hsize, hby⟩ := info_parts hinfo
  have hsz0 := hk.size
  have hown0 : (w.alloc (.cells #[] e)).ownsRow w0.heap.size e size (.slice (some ⟨n, 0, none⟩) 0 0) ([] : List α).length (([] : List α).flatMap enc) := owns_made hn hsz0
  have hm : ys.length * bytes ≤ 1000000 * 100000 := Nat.mul_le_mul h63 hbytes
  refine wpList_append_list hgd s x t ho w0.heap.size e i z size bytes ht hi hz hsize hby hzs hsz he h1 _ [] hs hown0 ad c ys hx hc (hrow.keep (Kept.alloc hk _) (Nat.le_refl _)) (by simp [maxLen]; omega) (by simp; omega) (by show w0.heap.size ≤ (w.heap.push _).size; simp; omega) ?_
  intro v' w' hown hgrow
  have hk' : Kept w0 w' := Kept.grown (Kept.alloc hk _) hown0 (Nat.le_refl _) hgrow
  have hk2 : Kept w w' := by
    have hown1 : (w.alloc (.cells #[] e)).ownsRow w.heap.size e size (.slice (some ⟨n, 0, none⟩) 0 0) ([] : List α).length (([] : List α).flatMap enc) := owns_made hn (Nat.le_refl _)
    exact Kept.grown (Kept.alloc (Below.refl _ _) _) hown1 (Nat.le_refl _) hgrow
  rw [List.nil_append] at hown
  obtain ⟨ad', cp', rfl, hrow', h5, h6⟩ := Row.of_owns he hown
  exact h ad' cp' w' hrow' h5 h6 hk' hk2 (owns_none hown)
end Bal
