/-
  The reference: Do, too little of a gas.
-/
import Derived.Test.YtemafanncejeiaaGasDP
namespace Go.Proofs.Ytemafanncejeiaa
open Go.RowKit Bal Bal.Trim Bal.Gas
set_option linter.unusedVariables false
set_option linter.unusedSimpArgs false
set_option maxHeartbeats 8000000
set_option maxRecDepth 100000

theorem r_PlantK {B n cp : Nat} {ad : Option Addr} {q : Plant} {w : World} (h : Mine 25 B w (.slice ad n cp) q.cells) : Calls Try.prog 115 #[.agg #[.slice ad n cp, .int .i64 q.bottles, .int .i64 q.inH, .int .i64 q.inA, .int .i64 q.vH, .int .i64 q.vA, .int .i64 q.lH, .int .i64 q.lA, .int .i64 q.pH, .int .i64 q.pA]] w fun e w' => e = .returned (.bool (plantB q)) ∧ Kept w w' := by
  obtain ⟨h1, h2, h3, h4, h5⟩ := h.row
  subst h1
  exact r_Plant q ad cp w h2 h3 h4
theorem r_mixedW (k : Int) (b : Bool) (h : mixedB k = b) (w : World) : Calls Try.prog 117 #[.int .u8 k] w fun e w' => e = .returned (.bool b) ∧ w = w' := by rw [← h]; exact r_mixed k w

theorem mine_past {T : TypeId} {B : Nat} {w : World} {ad : Option Addr} {n cp : Nat} {xs : List Cell} (h : Mine T B w (.slice ad n cp) xs) {b : Nat} (hb : w.heap.size ≤ b) : xs = [] ∨ ∀ g, ad = some ⟨g, 0, none⟩ → g ≠ b := by
  obtain ⟨ad', cp', h1, h2, h3, h4, h5⟩ := h
  cases h1
  rcases h5 with h5 | ⟨g, cur, ha, hg, hk, ht⟩
  · exact .inl h5
  · refine .inr fun g' hg' he => ?_
    rw [ha] at hg'
    cases hg'
    have := hk.lt
    omega

theorem r_Do_lack2 (p : Plant) (d : Deed) (a : Option Addr) (cap : Nat) (w : World) (hx : Row Cell.cells 7 w.heap.size w a p.cells) (hc : p.cells.length ≤ cap) (hM : cap ≤ maxLen) (hz : a = none → cap = 0) (hp : plantB p = true) (hs : sizedE p d = 0) (hk2 : d.kind = 2) (hl : p.bottles < d.n) : Calls Try.prog 49 #[.agg #[.slice a p.cells.length cap, .int .i64 p.bottles, .int .i64 p.inH, .int .i64 p.inA, .int .i64 p.vH, .int .i64 p.vA, .int .i64 p.lH, .int .i64 p.lA, .int .i64 p.pH, .int .i64 p.pA], .agg #[.int .u8 d.kind, .int .i64 d.cell, .int .i64 d.to, .int .i64 d.n]] w fun e w' => e = .returned (.tuple #[.agg #[.slice none 0 0, .int .i64 0, .int .i64 0, .int .i64 0, .int .i64 0, .int .i64 0, .int .i64 0, .int .i64 0, .int .i64 0, .int .i64 0], .int .i64 6]) ∧ Kept w w' := by
  have e2 : (d.kind == 2) = true := by simp; omega
  have g2 : decide (d.kind = 2) = true := by simp; omega
  have hlt : decide (p.bottles < d.n) = true := by simp [hl]
  clear hk2 hl
  have HP := Lib.hid hp
  have HS := Lib.hid hs
  have hn12 : p.cells.length ≤ 12 := (plantB_iff.1 hp).1
  have hb := plantB_iff.1 hp
  clear hp hs
  go_enter Try.func49, Try.ntmps49
  go_upto_region 3 with (go_at_call 115; (with_reducible refine (r_Plant p a cap _ (hx.later (by (exact kpt)) (Nat.le_refl _)) hc hM).mono ?_); rw [HP.out]; rintro e w1 ⟨rfl, hb1⟩; refine Blk.thru (b := w.heap.size) (arr := ?_) (t := ?_) ?_ hb1 ?_; rotate_left 2; (focus (exact blk)); intro rr; have rrc0 := rr.cell 0; have rrf0 := rr.free 0; have rrc1 := rr.cell 1; have rrf1 := rr.free 1; have rrc2 := rr.cell 2; have rrf2 := rr.free 2; have rrc3 := rr.cell 3; have rrf3 := rr.free 3; have rrc4 := rr.cell 4; have rrf4 := rr.free 4; have rrc5 := rr.cell 5; have rrf5 := rr.free 5; have rrc6 := rr.cell 6; have rrf6 := rr.free 6; have rrc7 := rr.cell 7; have rrf7 := rr.free 7; have rrc8 := rr.cell 8; have rrf8 := rr.free 8; have rrc9 := rr.cell 9; have rrf9 := rr.free 9; have rrl := rr.lt; simp at rrc0 rrc1 rrc2 rrc3 rrc4 rrc5 rrc6 rrc7 rrc8 rrc9; refine Blk.thru (b := (w.heap.size + 1)) (arr := ?_) (t := ?_) ?_ hb1 ?_; rotate_left 2; (focus (exact blk)); intro rq; have rqc0 := rq.cell 0; have rqf0 := rq.free 0; have rqc1 := rq.cell 1; have rqf1 := rq.free 1; have rqc2 := rq.cell 2; have rqf2 := rq.free 2; have rqc3 := rq.cell 3; have rqf3 := rq.free 3; have rql := rq.lt; simp at rqc0 rqc1 rqc2 rqc3)
  refine at_world (S := fun W => Blk W w.heap.size #[.slice a p.cells.length cap, .int .i64 p.bottles, .int .i64 p.inH, .int .i64 p.inA, .int .i64 p.vH, .int .i64 p.vA, .int .i64 p.lH, .int .i64 p.lA, .int .i64 p.pH, .int .i64 p.pA] 63 ∧ Blk W (w.heap.size + 1) #[.int .u8 d.kind, .int .i64 d.cell, .int .i64 d.to, .int .i64 d.n] 65 ∧ Blk W (w.heap.size + 1 + 1) #[.slice none 0 0, .int .i64 0, .int .i64 0, .int .i64 0, .int .i64 0, .int .i64 0, .int .i64 0, .int .i64 0, .int .i64 0, .int .i64 0] 63 ∧ Kept w W) ⟨by (exact blkc), by (exact blkc), by (exact blkc), by (exact kpt)⟩ ?_
  rintro W ⟨b0, b1, b2, hk⟩
  have b0c0 := b0.cell 0
  have b0f0 := b0.free 0
  have b0c1 := b0.cell 1
  have b0f1 := b0.free 1
  have b0c2 := b0.cell 2
  have b0f2 := b0.free 2
  have b0c3 := b0.cell 3
  have b0f3 := b0.free 3
  have b0c4 := b0.cell 4
  have b0f4 := b0.free 4
  have b0c5 := b0.cell 5
  have b0f5 := b0.free 5
  have b0c6 := b0.cell 6
  have b0f6 := b0.free 6
  have b0c7 := b0.cell 7
  have b0f7 := b0.free 7
  have b0c8 := b0.cell 8
  have b0f8 := b0.free 8
  have b0c9 := b0.cell 9
  have b0f9 := b0.free 9
  have b0l := b0.lt
  simp at b0c0 b0c1 b0c2 b0c3 b0c4 b0c5 b0c6 b0c7 b0c8 b0c9
  have b1c0 := b1.cell 0
  have b1f0 := b1.free 0
  have b1c1 := b1.cell 1
  have b1f1 := b1.free 1
  have b1c2 := b1.cell 2
  have b1f2 := b1.free 2
  have b1c3 := b1.cell 3
  have b1f3 := b1.free 3
  have b1l := b1.lt
  simp at b1c0 b1c1 b1c2 b1c3
  have b2c0 := b2.cell 0
  have b2f0 := b2.free 0
  have b2c1 := b2.cell 1
  have b2f1 := b2.free 1
  have b2c2 := b2.cell 2
  have b2f2 := b2.free 2
  have b2c3 := b2.cell 3
  have b2f3 := b2.free 3
  have b2c4 := b2.cell 4
  have b2f4 := b2.free 4
  have b2c5 := b2.cell 5
  have b2f5 := b2.free 5
  have b2c6 := b2.cell 6
  have b2f6 := b2.free 6
  have b2c7 := b2.cell 7
  have b2f7 := b2.free 7
  have b2c8 := b2.cell 8
  have b2f8 := b2.free 8
  have b2c9 := b2.cell 9
  have b2f9 := b2.free 9
  have b2l := b2.lt
  simp at b2c0 b2c1 b2c2 b2c3 b2c4 b2c5 b2c6 b2c7 b2c8 b2c9
  go_upto_region 6 with (go_at_call 116; (with_reducible refine (r_sized p d a cap _ hc hM).mono ?_); rw [HS.out]; rintro e w1 ⟨rfl, hb1⟩)
  clear b0c0 b0f0 b0c1 b0f1 b0c2 b0f2 b0c3 b0f3 b0c4 b0f4 b0c5 b0f5 b0c6 b0f6 b0c7 b0f7 b0c8 b0f8 b0c9 b0f9 b0l b1c0 b1f0 b1c1 b1f1 b1c2 b1f2 b1c3 b1f3 b1l b2c0 b2f0 b2c1 b2f1 b2c2 b2f2 b2c3 b2f3 b2c4 b2f4 b2c5 b2f5 b2c6 b2f6 b2c7 b2f7 b2c8 b2f8 b2c9 b2f9 b2l
  refine at_world (S := fun X => Blk X w.heap.size #[.slice a p.cells.length cap, .int .i64 p.bottles, .int .i64 p.inH, .int .i64 p.inA, .int .i64 p.vH, .int .i64 p.vA, .int .i64 p.lH, .int .i64 p.lA, .int .i64 p.pH, .int .i64 p.pA] 63 ∧ Blk X (w.heap.size + 1) #[.int .u8 d.kind, .int .i64 d.cell, .int .i64 d.to, .int .i64 d.n] 65 ∧ Blk X (w.heap.size + 1 + 1) #[.slice none 0 0, .int .i64 0, .int .i64 0, .int .i64 0, .int .i64 0, .int .i64 0, .int .i64 0, .int .i64 0, .int .i64 0, .int .i64 0] 63 ∧ Kept w X) ⟨by (exact blkc), by (exact blkc), by (exact blkc), by (exact kpt)⟩ ?_
  clear b0 b1 b2 hk
  rintro X ⟨b0, b1, b2, hk⟩
  have b0c0 := b0.cell 0
  have b0f0 := b0.free 0
  have b0c1 := b0.cell 1
  have b0f1 := b0.free 1
  have b0c2 := b0.cell 2
  have b0f2 := b0.free 2
  have b0c3 := b0.cell 3
  have b0f3 := b0.free 3
  have b0c4 := b0.cell 4
  have b0f4 := b0.free 4
  have b0c5 := b0.cell 5
  have b0f5 := b0.free 5
  have b0c6 := b0.cell 6
  have b0f6 := b0.free 6
  have b0c7 := b0.cell 7
  have b0f7 := b0.free 7
  have b0c8 := b0.cell 8
  have b0f8 := b0.free 8
  have b0c9 := b0.cell 9
  have b0f9 := b0.free 9
  have b0l := b0.lt
  simp at b0c0 b0c1 b0c2 b0c3 b0c4 b0c5 b0c6 b0c7 b0c8 b0c9
  have b1c0 := b1.cell 0
  have b1f0 := b1.free 0
  have b1c1 := b1.cell 1
  have b1f1 := b1.free 1
  have b1c2 := b1.cell 2
  have b1f2 := b1.free 2
  have b1c3 := b1.cell 3
  have b1f3 := b1.free 3
  have b1l := b1.lt
  simp at b1c0 b1c1 b1c2 b1c3
  have b2c0 := b2.cell 0
  have b2f0 := b2.free 0
  have b2c1 := b2.cell 1
  have b2f1 := b2.free 1
  have b2c2 := b2.cell 2
  have b2f2 := b2.free 2
  have b2c3 := b2.cell 3
  have b2f3 := b2.free 3
  have b2c4 := b2.cell 4
  have b2f4 := b2.free 4
  have b2c5 := b2.cell 5
  have b2f5 := b2.free 5
  have b2c6 := b2.cell 6
  have b2f6 := b2.free 6
  have b2c7 := b2.cell 7
  have b2f7 := b2.free 7
  have b2c8 := b2.cell 8
  have b2f8 := b2.free 8
  have b2c9 := b2.cell 9
  have b2f9 := b2.free 9
  have b2l := b2.lt
  simp at b2c0 b2c1 b2c2 b2c3 b2c4 b2c5 b2c6 b2c7 b2c8 b2c9
  go_upto_region 7 with (go_at_call 47; (with_reducible refine (r_Twin p a cap _ (hx.later (by (exact kpt)) (Nat.le_refl _)) (by omega) hz).mono ?_); rintro e w1 ⟨ad, cp, rfl, hm1, hb1⟩)
  have b1k := b1.keep hb1
  have b2k := b2.keep hb1
  have hsz := b2k.lt
  have hm2 := hm1.base (C := w.heap.size) hk.size
  have hk2 := hk.trans (hb1.mono hk.size)
  refine at_world (S := fun Y => Blk Y (w.heap.size + 1) #[.int .u8 d.kind, .int .i64 d.cell, .int .i64 d.to, .int .i64 d.n] 65 ∧ Blk Y (w.heap.size + 1 + 1) #[.slice none 0 0, .int .i64 0, .int .i64 0, .int .i64 0, .int .i64 0, .int .i64 0, .int .i64 0, .int .i64 0, .int .i64 0, .int .i64 0] 63 ∧ Blk Y w1.heap.size #[.slice ad p.cells.length cp, .int .i64 (p.bottles), .int .i64 (p.inH), .int .i64 (p.inA), .int .i64 (p.vH), .int .i64 (p.vA), .int .i64 (p.lH), .int .i64 (p.lA), .int .i64 (p.pH), .int .i64 (p.pA)] 63 ∧ Mine 25 w.heap.size Y (.slice ad p.cells.length cp) p.cells ∧ Kept w Y ∧ w.heap.size + 1 + 1 < w1.heap.size) ⟨by (exact blkc), by (exact blkc), by (exact blkc), by exact (by have hnp := mine_past hm2 (Nat.le_refl _); (repeat (with_reducible refine Mine.off ?_ hnp _)); exact hm2.alloc _), by (exact kpt), hsz⟩ ?_
  clear b0c0 b0f0 b0c1 b0f1 b0c2 b0f2 b0c3 b0f3 b0c4 b0f4 b0c5 b0f5 b0c6 b0f6 b0c7 b0f7 b0c8 b0f8 b0c9 b0f9 b0l b1c0 b1f0 b1c1 b1f1 b1c2 b1f2 b1c3 b1f3 b1l b2c0 b2f0 b2c1 b2f1 b2c2 b2f2 b2c3 b2f3 b2c4 b2f4 b2c5 b2f5 b2c6 b2f6 b2c7 b2f7 b2c8 b2f8 b2c9 b2f9 b2l b0 b1 b2 hk b1k b2k hm2 hk2 hm1 hb1 hsz
  rintro Y ⟨b1, b2, r3, hm, hk, hs⟩
  generalize w1.heap.size = s at hs r3 ⊢
  have b1c0 := fun g : Later Y => (b1.later g).cell 0
  have b1f0 := fun g : Later Y => (b1.later g).free 0
  have b1c1 := fun g : Later Y => (b1.later g).cell 1
  have b1f1 := fun g : Later Y => (b1.later g).free 1
  have b1c2 := fun g : Later Y => (b1.later g).cell 2
  have b1f2 := fun g : Later Y => (b1.later g).free 2
  have b1c3 := fun g : Later Y => (b1.later g).cell 3
  have b1f3 := fun g : Later Y => (b1.later g).free 3
  have b1l := fun g : Later Y => (b1.later g).lt
  simp at b1c0 b1c1 b1c2 b1c3
  have r3c0 := fun g : Later Y => (r3.later g).cell 0
  have r3f0 := fun g : Later Y => (r3.later g).free 0
  have r3c1 := fun g : Later Y => (r3.later g).cell 1
  have r3f1 := fun g : Later Y => (r3.later g).free 1
  have r3c2 := fun g : Later Y => (r3.later g).cell 2
  have r3f2 := fun g : Later Y => (r3.later g).free 2
  have r3c3 := fun g : Later Y => (r3.later g).cell 3
  have r3f3 := fun g : Later Y => (r3.later g).free 3
  have r3c4 := fun g : Later Y => (r3.later g).cell 4
  have r3f4 := fun g : Later Y => (r3.later g).free 4
  have r3c5 := fun g : Later Y => (r3.later g).cell 5
  have r3f5 := fun g : Later Y => (r3.later g).free 5
  have r3c6 := fun g : Later Y => (r3.later g).cell 6
  have r3f6 := fun g : Later Y => (r3.later g).free 6
  have r3c7 := fun g : Later Y => (r3.later g).cell 7
  have r3f7 := fun g : Later Y => (r3.later g).free 7
  have r3c8 := fun g : Later Y => (r3.later g).cell 8
  have r3f8 := fun g : Later Y => (r3.later g).free 8
  have r3c9 := fun g : Later Y => (r3.later g).cell 9
  have r3f9 := fun g : Later Y => (r3.later g).free 9
  have r3l := fun g : Later Y => (r3.later g).lt
  simp at r3c0 r3c1 r3c2 r3c3 r3c4 r3c5 r3c6 r3c7 r3c8 r3c9
  refine Later.region (by kernel_rfl) (by kernel_rfl) ?_
  repeat (first | go_big_quiet_skip | (go_big_quiet_want; go_big_quiet_op; first | go_big_quiet_on | (apply Exists.intro; refine ⟨fun g => ?_, ?_⟩; (focus (first | fail)); go_big_quiet_on)))
  refine wpQuiet_nil ?_
  intro gg
  clear b1c0 b1f0 b1c1 b1f1 b1c2 b1f2 b1c3 b1f3 b1l r3c0 r3f0 r3c1 r3f1 r3c2 r3f2 r3c3 r3f3 r3c4 r3f4 r3c5 r3f5 r3c6 r3f6 r3c7 r3f7 r3c8 r3f8 r3c9 r3f9 r3l
  have z2 := b2.later gg
  have hkg := Kept.drop hk gg.ok
  have z2c0 := z2.cell 0
  have z2f0 := z2.free 0
  have z2c1 := z2.cell 1
  have z2f1 := z2.free 1
  have z2c2 := z2.cell 2
  have z2f2 := z2.free 2
  have z2c3 := z2.cell 3
  have z2f3 := z2.free 3
  have z2c4 := z2.cell 4
  have z2f4 := z2.free 4
  have z2c5 := z2.cell 5
  have z2f5 := z2.free 5
  have z2c6 := z2.cell 6
  have z2f6 := z2.free 6
  have z2c7 := z2.cell 7
  have z2f7 := z2.free 7
  have z2c8 := z2.cell 8
  have z2f8 := z2.free 8
  have z2c9 := z2.cell 9
  have z2f9 := z2.free 9
  have z2l := z2.lt
  simp at z2c0 z2c1 z2c2 z2c3 z2c4 z2c5 z2c6 z2c7 z2c8 z2c9
  go_wp2
  refine bodyPost_ret (v := .tuple #[.agg #[.slice none 0 0, .int .i64 0, .int .i64 0, .int .i64 0, .int .i64 0, .int .i64 0, .int .i64 0, .int .i64 0, .int .i64 0, .int .i64 0], .int .i64 6]) (by simp [results, Try.results49, go_sem, z2c0, z2f0, z2c1, z2f1, z2c2, z2f2, z2c3, z2f3, z2c4, z2f4, z2c5, z2f5, z2c6, z2f6, z2c7, z2f7, z2c8, z2f8, z2c9, z2f9]) rfl ⟨rfl, by (exact kpt)⟩

theorem r_mixedK (k : Int) (b : Bool) (h : mixedB k = b) (w : World) : Calls Try.prog 117 #[.int .u8 k] w fun e w' => e = .returned (.bool b) ∧ Kept w w' := by
  refine (r_mixed k w).mono ?_
  rintro e w' ⟨rfl, rfl⟩
  exact ⟨by rw [h], Below.refl _ _⟩
theorem r_Do_lackm (p : Plant) (d : Deed) (a : Option Addr) (cap : Nat) (w : World) (hx : Row Cell.cells 7 w.heap.size w a p.cells) (hc : p.cells.length ≤ cap) (hM : cap ≤ maxLen) (hz : a = none → cap = 0) (hp : plantB p = true) (hs : sizedE p d = 0) (hkm : mixedB d.kind = true) (hcl : inB d.cell 0 (p.cells.length - 1) = true) (hl : amount (at_ p d) < d.n) : Calls Try.prog 49 #[.agg #[.slice a p.cells.length cap, .int .i64 p.bottles, .int .i64 p.inH, .int .i64 p.inA, .int .i64 p.vH, .int .i64 p.vA, .int .i64 p.lH, .int .i64 p.lA, .int .i64 p.pH, .int .i64 p.pA], .agg #[.int .u8 d.kind, .int .i64 d.cell, .int .i64 d.to, .int .i64 d.n]] w fun e w' => e = .returned (.tuple #[.agg #[.slice none 0 0, .int .i64 0, .int .i64 0, .int .i64 0, .int .i64 0, .int .i64 0, .int .i64 0, .int .i64 0, .int .i64 0, .int .i64 0], .int .i64 6]) ∧ Kept w w' := by
  have hkk : d.kind = 3 ∨ d.kind = 4 ∨ d.kind = 5 := by simp [mixedB] at hkm; omega
  have e2 : (d.kind == 2) = false := by simp; omega
  have g2 : decide (d.kind = 2) = false := by simp; omega
  have HMX := fun (W : World) => r_mixedK _ _ hkm W
  clear hkk hkm
  have HP := Lib.hid hp
  have HS := Lib.hid hs
  have hn12 : p.cells.length ≤ 12 := (plantB_iff.1 hp).1
  have hb := plantB_iff.1 hp
  have hi : d.cell.toNat < p.cells.length := by
    have h1 : 0 ≤ d.cell ∧ d.cell ≤ p.cells.length - 1 := by simpa [inB] using hcl
    omega
  have hd0 : 0 ≤ d.cell ∧ d.cell < p.cells.length := by
    have h1 : 0 ≤ d.cell ∧ d.cell ≤ p.cells.length - 1 := by simpa [inB] using hcl
    omega
  have hcv : cellB p.cells[d.cell.toNat] = true := hb.2.2.2.2.2.2.1 _ (List.getElem_mem hi)
  have hat : at_ p d = p.cells[d.cell.toNat] := cellAt_get hi
  clear hp hs
  go_enter Try.func49, Try.ntmps49
  go_upto_region 3 with (go_at_call 115; (with_reducible refine (r_Plant p a cap _ (hx.later (by (exact kpt)) (Nat.le_refl _)) hc hM).mono ?_); rw [HP.out]; rintro e w1 ⟨rfl, hb1⟩; refine Blk.thru (b := w.heap.size) (arr := ?_) (t := ?_) ?_ hb1 ?_; rotate_left 2; (focus (exact blk)); intro rr; have rrc0 := rr.cell 0; have rrf0 := rr.free 0; have rrc1 := rr.cell 1; have rrf1 := rr.free 1; have rrc2 := rr.cell 2; have rrf2 := rr.free 2; have rrc3 := rr.cell 3; have rrf3 := rr.free 3; have rrc4 := rr.cell 4; have rrf4 := rr.free 4; have rrc5 := rr.cell 5; have rrf5 := rr.free 5; have rrc6 := rr.cell 6; have rrf6 := rr.free 6; have rrc7 := rr.cell 7; have rrf7 := rr.free 7; have rrc8 := rr.cell 8; have rrf8 := rr.free 8; have rrc9 := rr.cell 9; have rrf9 := rr.free 9; have rrl := rr.lt; simp at rrc0 rrc1 rrc2 rrc3 rrc4 rrc5 rrc6 rrc7 rrc8 rrc9; refine Blk.thru (b := (w.heap.size + 1)) (arr := ?_) (t := ?_) ?_ hb1 ?_; rotate_left 2; (focus (exact blk)); intro rq; have rqc0 := rq.cell 0; have rqf0 := rq.free 0; have rqc1 := rq.cell 1; have rqf1 := rq.free 1; have rqc2 := rq.cell 2; have rqf2 := rq.free 2; have rqc3 := rq.cell 3; have rqf3 := rq.free 3; have rql := rq.lt; simp at rqc0 rqc1 rqc2 rqc3)
  refine at_world (S := fun W => Blk W w.heap.size #[.slice a p.cells.length cap, .int .i64 p.bottles, .int .i64 p.inH, .int .i64 p.inA, .int .i64 p.vH, .int .i64 p.vA, .int .i64 p.lH, .int .i64 p.lA, .int .i64 p.pH, .int .i64 p.pA] 63 ∧ Blk W (w.heap.size + 1) #[.int .u8 d.kind, .int .i64 d.cell, .int .i64 d.to, .int .i64 d.n] 65 ∧ Blk W (w.heap.size + 1 + 1) #[.slice none 0 0, .int .i64 0, .int .i64 0, .int .i64 0, .int .i64 0, .int .i64 0, .int .i64 0, .int .i64 0, .int .i64 0, .int .i64 0] 63 ∧ Kept w W) ⟨by (exact blkc), by (exact blkc), by (exact blkc), by (exact kpt)⟩ ?_
  rintro W ⟨b0, b1, b2, hk⟩
  have b0c0 := b0.cell 0
  have b0f0 := b0.free 0
  have b0c1 := b0.cell 1
  have b0f1 := b0.free 1
  have b0c2 := b0.cell 2
  have b0f2 := b0.free 2
  have b0c3 := b0.cell 3
  have b0f3 := b0.free 3
  have b0c4 := b0.cell 4
  have b0f4 := b0.free 4
  have b0c5 := b0.cell 5
  have b0f5 := b0.free 5
  have b0c6 := b0.cell 6
  have b0f6 := b0.free 6
  have b0c7 := b0.cell 7
  have b0f7 := b0.free 7
  have b0c8 := b0.cell 8
  have b0f8 := b0.free 8
  have b0c9 := b0.cell 9
  have b0f9 := b0.free 9
  have b0l := b0.lt
  simp at b0c0 b0c1 b0c2 b0c3 b0c4 b0c5 b0c6 b0c7 b0c8 b0c9
  have b1c0 := b1.cell 0
  have b1f0 := b1.free 0
  have b1c1 := b1.cell 1
  have b1f1 := b1.free 1
  have b1c2 := b1.cell 2
  have b1f2 := b1.free 2
  have b1c3 := b1.cell 3
  have b1f3 := b1.free 3
  have b1l := b1.lt
  simp at b1c0 b1c1 b1c2 b1c3
  have b2c0 := b2.cell 0
  have b2f0 := b2.free 0
  have b2c1 := b2.cell 1
  have b2f1 := b2.free 1
  have b2c2 := b2.cell 2
  have b2f2 := b2.free 2
  have b2c3 := b2.cell 3
  have b2f3 := b2.free 3
  have b2c4 := b2.cell 4
  have b2f4 := b2.free 4
  have b2c5 := b2.cell 5
  have b2f5 := b2.free 5
  have b2c6 := b2.cell 6
  have b2f6 := b2.free 6
  have b2c7 := b2.cell 7
  have b2f7 := b2.free 7
  have b2c8 := b2.cell 8
  have b2f8 := b2.free 8
  have b2c9 := b2.cell 9
  have b2f9 := b2.free 9
  have b2l := b2.lt
  simp at b2c0 b2c1 b2c2 b2c3 b2c4 b2c5 b2c6 b2c7 b2c8 b2c9
  go_upto_region 6 with (go_at_call 116; (with_reducible refine (r_sized p d a cap _ hc hM).mono ?_); rw [HS.out]; rintro e w1 ⟨rfl, hb1⟩)
  clear b0c0 b0f0 b0c1 b0f1 b0c2 b0f2 b0c3 b0f3 b0c4 b0f4 b0c5 b0f5 b0c6 b0f6 b0c7 b0f7 b0c8 b0f8 b0c9 b0f9 b0l b1c0 b1f0 b1c1 b1f1 b1c2 b1f2 b1c3 b1f3 b1l b2c0 b2f0 b2c1 b2f1 b2c2 b2f2 b2c3 b2f3 b2c4 b2f4 b2c5 b2f5 b2c6 b2f6 b2c7 b2f7 b2c8 b2f8 b2c9 b2f9 b2l
  refine at_world (S := fun X => Blk X w.heap.size #[.slice a p.cells.length cap, .int .i64 p.bottles, .int .i64 p.inH, .int .i64 p.inA, .int .i64 p.vH, .int .i64 p.vA, .int .i64 p.lH, .int .i64 p.lA, .int .i64 p.pH, .int .i64 p.pA] 63 ∧ Blk X (w.heap.size + 1) #[.int .u8 d.kind, .int .i64 d.cell, .int .i64 d.to, .int .i64 d.n] 65 ∧ Blk X (w.heap.size + 1 + 1) #[.slice none 0 0, .int .i64 0, .int .i64 0, .int .i64 0, .int .i64 0, .int .i64 0, .int .i64 0, .int .i64 0, .int .i64 0, .int .i64 0] 63 ∧ Kept w X) ⟨by (exact blkc), by (exact blkc), by (exact blkc), by (exact kpt)⟩ ?_
  clear b0 b1 b2 hk
  rintro X ⟨b0, b1, b2, hk⟩
  have b0c0 := b0.cell 0
  have b0f0 := b0.free 0
  have b0c1 := b0.cell 1
  have b0f1 := b0.free 1
  have b0c2 := b0.cell 2
  have b0f2 := b0.free 2
  have b0c3 := b0.cell 3
  have b0f3 := b0.free 3
  have b0c4 := b0.cell 4
  have b0f4 := b0.free 4
  have b0c5 := b0.cell 5
  have b0f5 := b0.free 5
  have b0c6 := b0.cell 6
  have b0f6 := b0.free 6
  have b0c7 := b0.cell 7
  have b0f7 := b0.free 7
  have b0c8 := b0.cell 8
  have b0f8 := b0.free 8
  have b0c9 := b0.cell 9
  have b0f9 := b0.free 9
  have b0l := b0.lt
  simp at b0c0 b0c1 b0c2 b0c3 b0c4 b0c5 b0c6 b0c7 b0c8 b0c9
  have b1c0 := b1.cell 0
  have b1f0 := b1.free 0
  have b1c1 := b1.cell 1
  have b1f1 := b1.free 1
  have b1c2 := b1.cell 2
  have b1f2 := b1.free 2
  have b1c3 := b1.cell 3
  have b1f3 := b1.free 3
  have b1l := b1.lt
  simp at b1c0 b1c1 b1c2 b1c3
  have b2c0 := b2.cell 0
  have b2f0 := b2.free 0
  have b2c1 := b2.cell 1
  have b2f1 := b2.free 1
  have b2c2 := b2.cell 2
  have b2f2 := b2.free 2
  have b2c3 := b2.cell 3
  have b2f3 := b2.free 3
  have b2c4 := b2.cell 4
  have b2f4 := b2.free 4
  have b2c5 := b2.cell 5
  have b2f5 := b2.free 5
  have b2c6 := b2.cell 6
  have b2f6 := b2.free 6
  have b2c7 := b2.cell 7
  have b2f7 := b2.free 7
  have b2c8 := b2.cell 8
  have b2f8 := b2.free 8
  have b2c9 := b2.cell 9
  have b2f9 := b2.free 9
  have b2l := b2.lt
  simp at b2c0 b2c1 b2c2 b2c3 b2c4 b2c5 b2c6 b2c7 b2c8 b2c9
  go_upto_region 7 with (go_at_call 47; (with_reducible refine (r_Twin p a cap _ (hx.later (by (exact kpt)) (Nat.le_refl _)) (by omega) hz).mono ?_); rintro e w1 ⟨ad, cp, rfl, hm1, hb1⟩)
  have b1k := b1.keep hb1
  have b2k := b2.keep hb1
  have hsz := b2k.lt
  have hm2 := hm1.base (C := w.heap.size) hk.size
  have hk2 := hk.trans (hb1.mono hk.size)
  refine at_world (S := fun Y => Blk Y (w.heap.size + 1) #[.int .u8 d.kind, .int .i64 d.cell, .int .i64 d.to, .int .i64 d.n] 65 ∧ Blk Y (w.heap.size + 1 + 1) #[.slice none 0 0, .int .i64 0, .int .i64 0, .int .i64 0, .int .i64 0, .int .i64 0, .int .i64 0, .int .i64 0, .int .i64 0, .int .i64 0] 63 ∧ Blk Y w1.heap.size #[.slice ad p.cells.length cp, .int .i64 (p.bottles), .int .i64 (p.inH), .int .i64 (p.inA), .int .i64 (p.vH), .int .i64 (p.vA), .int .i64 (p.lH), .int .i64 (p.lA), .int .i64 (p.pH), .int .i64 (p.pA)] 63 ∧ Mine 25 w.heap.size Y (.slice ad p.cells.length cp) p.cells ∧ Kept w Y ∧ w.heap.size + 1 + 1 < w1.heap.size) ⟨by (exact blkc), by (exact blkc), by (exact blkc), by exact (by have hnp := mine_past hm2 (Nat.le_refl _); (repeat (with_reducible refine Mine.off ?_ hnp _)); exact hm2.alloc _), by (exact kpt), hsz⟩ ?_
  clear b0c0 b0f0 b0c1 b0f1 b0c2 b0f2 b0c3 b0f3 b0c4 b0f4 b0c5 b0f5 b0c6 b0f6 b0c7 b0f7 b0c8 b0f8 b0c9 b0f9 b0l b1c0 b1f0 b1c1 b1f1 b1c2 b1f2 b1c3 b1f3 b1l b2c0 b2f0 b2c1 b2f1 b2c2 b2f2 b2c3 b2f3 b2c4 b2f4 b2c5 b2f5 b2c6 b2f6 b2c7 b2f7 b2c8 b2f8 b2c9 b2f9 b2l b0 b1 b2 hk b1k b2k hm2 hk2 hm1 hb1 hsz
  rintro Y ⟨b1, b2, r3, hm, hk, hs⟩
  generalize w1.heap.size = s at hs r3 ⊢
  obtain ⟨x, hx⟩ : ∃ x, x = p.cells[d.cell.toNat] := ⟨_, rfl⟩
  have HX := Lib.hid (show p.cells[d.cell.toNat]? = some x by rw [hx]; simp [hi])
  have HXX := Lib.hid hx
  rw [← hx] at hcv hat
  have HAT := Lib.hid hat
  have HCV := Lib.hid hcv
  have hxb := cellB_iff.1 hcv
  obtain ⟨g, cur, rfl, hBg, hcur, c0, c1, c2, c3, c4, c5, c6⟩ := hm.at hi
  rw [← hx] at c0 c1 c2 c3 c4 c5 c6
  clear hx hat hcv
  have HAC := fun (W : World) => r_amount x W HCV.out
  obtain ⟨AM, hAM⟩ : ∃ y, y = amount x := ⟨_, rfl⟩
  have HAM := Lib.hid (show amount x = AM from hAM.symm)
  rw [← hAM] at HAC
  clear hAM
  have hlt : decide (AM < d.n) = true := by rw [← HAM.out, ← HAT.out]; simpa using hl
  clear hl
  have b1c0 := fun g : Later Y => (b1.later g).cell 0
  have b1f0 := fun g : Later Y => (b1.later g).free 0
  have b1c1 := fun g : Later Y => (b1.later g).cell 1
  have b1f1 := fun g : Later Y => (b1.later g).free 1
  have b1c2 := fun g : Later Y => (b1.later g).cell 2
  have b1f2 := fun g : Later Y => (b1.later g).free 2
  have b1c3 := fun g : Later Y => (b1.later g).cell 3
  have b1f3 := fun g : Later Y => (b1.later g).free 3
  have b1l := fun g : Later Y => (b1.later g).lt
  simp at b1c0 b1c1 b1c2 b1c3
  have r3c0 := fun g : Later Y => (r3.later g).cell 0
  have r3f0 := fun g : Later Y => (r3.later g).free 0
  have r3c1 := fun g : Later Y => (r3.later g).cell 1
  have r3f1 := fun g : Later Y => (r3.later g).free 1
  have r3c2 := fun g : Later Y => (r3.later g).cell 2
  have r3f2 := fun g : Later Y => (r3.later g).free 2
  have r3c3 := fun g : Later Y => (r3.later g).cell 3
  have r3f3 := fun g : Later Y => (r3.later g).free 3
  have r3c4 := fun g : Later Y => (r3.later g).cell 4
  have r3f4 := fun g : Later Y => (r3.later g).free 4
  have r3c5 := fun g : Later Y => (r3.later g).cell 5
  have r3f5 := fun g : Later Y => (r3.later g).free 5
  have r3c6 := fun g : Later Y => (r3.later g).cell 6
  have r3f6 := fun g : Later Y => (r3.later g).free 6
  have r3c7 := fun g : Later Y => (r3.later g).cell 7
  have r3f7 := fun g : Later Y => (r3.later g).free 7
  have r3c8 := fun g : Later Y => (r3.later g).cell 8
  have r3f8 := fun g : Later Y => (r3.later g).free 8
  have r3c9 := fun g : Later Y => (r3.later g).cell 9
  have r3f9 := fun g : Later Y => (r3.later g).free 9
  have r3l := fun g : Later Y => (r3.later g).lt
  simp at r3c0 r3c1 r3c2 r3c3 r3c4 r3c5 r3c6 r3c7 r3c8 r3c9
  have y0 := fun q : Later Y => q.some c0
  have y1 := fun q : Later Y => q.some c1
  have y2 := fun q : Later Y => q.some c2
  have y3 := fun q : Later Y => q.some c3
  have y4 := fun q : Later Y => q.some c4
  have y5 := fun q : Later Y => q.some c5
  have y6 := fun q : Later Y => q.some c6
  clear c0 c1 c2 c3 c4 c5 c6
  refine Later.region (by kernel_rfl) (by kernel_rfl) ?_
  repeat (first | go_big_quiet_skip | (go_big_quiet_want; go_big_quiet_op; first | go_big_quiet_on | (apply Exists.intro; refine ⟨fun g => ?_, ?_⟩; (focus (first | (go_at_call 117; exact Later.call (HMX _)) | (go_at_call 85; exact Later.call (HAC _)))); go_big_quiet_on)))
  refine wpQuiet_nil ?_
  intro gg
  clear b1c0 b1f0 b1c1 b1f1 b1c2 b1f2 b1c3 b1f3 b1l r3c0 r3f0 r3c1 r3f1 r3c2 r3f2 r3c3 r3f3 r3c4 r3f4 r3c5 r3f5 r3c6 r3f6 r3c7 r3f7 r3c8 r3f8 r3c9 r3f9 r3l y0 y1 y2 y3 y4 y5 y6
  have z2 := b2.later gg
  have hkg := Kept.drop hk gg.ok
  have z2c0 := z2.cell 0
  have z2f0 := z2.free 0
  have z2c1 := z2.cell 1
  have z2f1 := z2.free 1
  have z2c2 := z2.cell 2
  have z2f2 := z2.free 2
  have z2c3 := z2.cell 3
  have z2f3 := z2.free 3
  have z2c4 := z2.cell 4
  have z2f4 := z2.free 4
  have z2c5 := z2.cell 5
  have z2f5 := z2.free 5
  have z2c6 := z2.cell 6
  have z2f6 := z2.free 6
  have z2c7 := z2.cell 7
  have z2f7 := z2.free 7
  have z2c8 := z2.cell 8
  have z2f8 := z2.free 8
  have z2c9 := z2.cell 9
  have z2f9 := z2.free 9
  have z2l := z2.lt
  simp at z2c0 z2c1 z2c2 z2c3 z2c4 z2c5 z2c6 z2c7 z2c8 z2c9
  go_wp2
  refine bodyPost_ret (v := .tuple #[.agg #[.slice none 0 0, .int .i64 0, .int .i64 0, .int .i64 0, .int .i64 0, .int .i64 0, .int .i64 0, .int .i64 0, .int .i64 0, .int .i64 0], .int .i64 6]) (by simp [results, Try.results49, go_sem, z2c0, z2f0, z2c1, z2f1, z2c2, z2f2, z2c3, z2f3, z2c4, z2f4, z2c5, z2f5, z2c6, z2f6, z2c7, z2f7, z2c8, z2f8, z2c9, z2f9]) rfl ⟨rfl, by (exact kpt)⟩

end Go.Proofs.Ytemafanncejeiaa
