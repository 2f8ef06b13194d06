/-
  GasPlays, the statement: for every input the call returns true and leaves the input alone.
-/
import Derived.Test.YtemafanncejeiaaGasPlaysZE
import Derived.Test.YtemafanncejeiaaGasPlaysZB
import Derived.WideShapes
import Derived.Test.YtemafanncejeiaaProg
import Derived.JoinedOf
import Derived.Test.YtemafanncejeiaaRows
import Derived.Test.YtemafanncejeiaaGasPlaysZA
import Derived.Test.YtemafanncejeiaaGasPlaysZC
import Derived.Test.YtemafanncejeiaaGasPlaysZD
/-
  GasPlays: acts played one behind the other are the same in the program and in the reference: for every input.
-/
namespace Go.Proofs.Ytemafanncejeiaa
open Go.RowKit Bal Bal.Trim Bal.Gas
set_option linter.unusedVariables false
set_option linter.unusedSimpArgs false
set_option maxHeartbeats 8000000
set_option maxRecDepth 100000

theorem infoAct : (Try.prog.info? 65).map (fun i => (i.zero, i.size, i.bytes)) = some (some (.agg #[.int .u8 0, .int .i64 0, .int .i64 0, .int .i64 0]), 4, 32) := by kernel_rfl
theorem law_GasPlays (p : Plant) (ds : List Deed) (a : Option Addr) (cap : Nat) (b : Option Addr) (cb : Nat) (w : World) (hx : Row Cell.cells 7 w.heap.size w a p.cells) (hc : p.cells.length ≤ cap) (hM : cap ≤ maxLen) (hz : a = none → cap = 0) (hd : Row Deed.cells 4 w.heap.size w b ds) (hdc : ds.length ≤ cb) (hdM : cb ≤ maxLen) (hdz : b = none → cb = 0) (hku : ∀ d ∈ ds, 0 ≤ d.kind ∧ d.kind ≤ 255) : Calls Try.prog 7 #[.agg #[.slice a p.cells.length cap, .int .i64 p.bottles, .int .i64 p.inH, .int .i64 p.inA, .int .i64 p.vH, .int .i64 p.vA, .int .i64 p.lH, .int .i64 p.lA, .int .i64 p.pH, .int .i64 p.pA], .slice b ds.length cb] w fun e w' => e = .returned (.bool true) ∧ Kept w w' := by
  cases hg : greatB p ds
  · have HG := Lib.hid hg
    have hn : p.cells.length ≤ 20 ∧ ds.length ≤ 210 := by simp [greatB] at hg; omega
    have HU := Lib.hid hku
    clear hg hku
    obtain ⟨Q, N, E, hR⟩ : ∃ Q N E, play p ds = (Q, N, E) := ⟨_, _, _, rfl⟩
    have HR := Lib.hid hR
    clear hR
    go_enter Try.func7, Try.ntmps7
    go_upto_region 4 with (first | (go_at_call 46; (with_reducible refine (r_Great p ds _ a cap b cb _ rfl (hd.later (by (exact kpt)) (Nat.le_refl _)) hc hM hdc hdM).mono ?_); rw [HG.out]; rintro e w1 ⟨rfl, hb1⟩; refine Blk.thru (b := w.heap.size) (arr := ?_) (t := ?_) ?_ hb1 ?_; rotate_left 2; (focus (exact blk)); intro rr; have rrc0 := rr.cell 0; have rrf0 := rr.free 0; have rrc1 := rr.cell 1; have rrf1 := rr.free 1; have rrc2 := rr.cell 2; have rrf2 := rr.free 2; have rrc3 := rr.cell 3; have rrf3 := rr.free 3; have rrc4 := rr.cell 4; have rrf4 := rr.free 4; have rrc5 := rr.cell 5; have rrf5 := rr.free 5; have rrc6 := rr.cell 6; have rrf6 := rr.free 6; have rrc7 := rr.cell 7; have rrf7 := rr.free 7; have rrc8 := rr.cell 8; have rrf8 := rr.free 8; have rrc9 := rr.cell 9; have rrf9 := rr.free 9; have rrl := rr.lt; simp at rrc0 rrc1 rrc2 rrc3 rrc4 rrc5 rrc6 rrc7 rrc8 rrc9) | (go_at_call 47; (with_reducible refine (r_Twin p a cap _ (hx.later (by (exact kpt)) (Nat.le_refl _)) (by omega) hz).mono ?_); rintro e w2 ⟨ad, cp, rfl, hm1, hb2⟩) | (at_builtin; refine wpList_copyZ (enc := Deed.cells) (w0 := w) (w := w2) rfl _ _ 67 rfl w.heap.size 65 (.agg #[.int .u8 0, .int .i64 0, .int .i64 0, .int .i64 0]) 4 32 Try.underlying67 infoAct rfl (by decide) (fun _ => rfl) (fun x u hu => by simp [Deed.cells] at hu; rcases hu with rfl | rfl | rfl | rfl <;> rfl) _ (by simp) rfl b cb ds rfl hdz hd (by (exact kpt)) rfl (by omega) (by decide) ?_; intro adL cpL w3 hrL hlL hmL hkL hkM hzL))
    clear rrc0 rrf0 rrc1 rrf1 rrc2 rrf2 rrc3 rrf3 rrc4 rrf4 rrc5 rrf5 rrc6 rrf6 rrc7 rrf7 rrc8 rrf8 rrc9 rrf9 rrl
    have hm2 := (hm1.base (C := w.heap.size) (by have := hb1.size; simp at this; omega)).keep hkM
    have hsz := (show Blk w3 w.heap.size #[.slice a p.cells.length cap, .int .i64 p.bottles, .int .i64 p.inH, .int .i64 p.inA, .int .i64 p.vH, .int .i64 p.vA, .int .i64 p.lH, .int .i64 p.lA, .int .i64 p.pH, .int .i64 p.pA] 63 by (exact blk)).lt
    refine at_world (S := fun W => Blk W w.heap.size #[.slice a p.cells.length cap, .int .i64 p.bottles, .int .i64 p.inH, .int .i64 p.inA, .int .i64 p.vH, .int .i64 p.vA, .int .i64 p.lH, .int .i64 p.lA, .int .i64 p.pH, .int .i64 p.pA] 63 ∧ Blk W w3.heap.size #[.slice ad p.cells.length cp, .int .i64 p.bottles, .int .i64 p.inH, .int .i64 p.inA, .int .i64 p.vH, .int .i64 p.vA, .int .i64 p.lH, .int .i64 p.lA, .int .i64 p.pH, .int .i64 p.pA] 63 ∧ Mine 25 w.heap.size W (.slice ad p.cells.length cp) p.cells ∧ Row Deed.cells 4 W.heap.size W adL ds ∧ Kept w W ∧ w.heap.size < w3.heap.size) ⟨by (exact blkd), by (exact blkd), by exact (by have hnp := mine_past hm2 (Nat.le_refl _); (repeat (with_reducible refine Mine.off ?_ hnp _)); exact hm2.alloc _), (hrL.later (by exact (by have hnp := Nat.le_refl w3.heap.size; (repeat (refine Below.setCell ?_ hnp _)); exact (Below.refl _ _).alloc hnp _) : Kept w3 _) (Nat.le_refl _)), by (exact kpt), hsz⟩ ?_
    clear hm1 hm2 hsz hb1 hb2 hkL hkM hrL
    rintro W ⟨b2, b5, hm, hrL, hk, hs⟩
    generalize w3.heap.size = s at hs b5 ⊢
    have b2c0 := b2.cell 0
    have b2f0 := b2.free 0
    have b2c1 := b2.cell 1
    have b2f1 := b2.free 1
    have b2c2 := b2.cell 2
    have b2f2 := b2.free 2
    have b2c3 := b2.cell 3
    have b2f3 := b2.free 3
    have b2c4 := b2.cell 4
    have b2f4 := b2.free 4
    have b2c5 := b2.cell 5
    have b2f5 := b2.free 5
    have b2c6 := b2.cell 6
    have b2f6 := b2.free 6
    have b2c7 := b2.cell 7
    have b2f7 := b2.free 7
    have b2c8 := b2.cell 8
    have b2f8 := b2.free 8
    have b2c9 := b2.cell 9
    have b2f9 := b2.free 9
    have b2l := b2.lt
    simp at b2c0 b2c1 b2c2 b2c3 b2c4 b2c5 b2c6 b2c7 b2c8 b2c9
    have b5c0 := b5.cell 0
    have b5f0 := b5.free 0
    have b5c1 := b5.cell 1
    have b5f1 := b5.free 1
    have b5c2 := b5.cell 2
    have b5f2 := b5.free 2
    have b5c3 := b5.cell 3
    have b5f3 := b5.free 3
    have b5c4 := b5.cell 4
    have b5f4 := b5.free 4
    have b5c5 := b5.cell 5
    have b5f5 := b5.free 5
    have b5c6 := b5.cell 6
    have b5f6 := b5.free 6
    have b5c7 := b5.cell 7
    have b5f7 := b5.free 7
    have b5c8 := b5.cell 8
    have b5f8 := b5.free 8
    have b5c9 := b5.cell 9
    have b5f9 := b5.free 9
    have b5l := b5.lt
    simp at b5c0 b5c1 b5c2 b5c3 b5c4 b5c5 b5c6 b5c7 b5c8 b5c9
    obtain ⟨_, _, hlo, hmo, hzo⟩ := hm.row
    go_upto_region 5 with (go_at_call 53; (with_reducible refine (f_Play p ds ad cp adL cpL _ (hm.row.2.1) hlo hmo hzo hrL hlL hmL HU.out Q N E HR.out).mono ?_); rintro e w4 ⟨v4, rfl, hm4, hb4⟩; obtain ⟨ad4, cp4, rfl, hl4, hc4, hz4⟩ := hm4.slice)
    clear b2c0 b2f0 b2c1 b2f1 b2c2 b2f2 b2c3 b2f3 b2c4 b2f4 b2c5 b2f5 b2c6 b2f6 b2c7 b2f7 b2c8 b2f8 b2c9 b2f9 b2l b5c0 b5f0 b5c1 b5f1 b5c2 b5f2 b5c3 b5f3 b5c4 b5f4 b5c5 b5f5 b5c6 b5f6 b5c7 b5f7 b5c8 b5f8 b5c9 b5f9 b5l
    have hsC := b5.lt
    have hrow := (hm.row).2.1
    have hC := hb4.size
    generalize hCC : W.heap.size = C at hsC hrow hm4 hC hrL
    have hrow4 := hrow.keep (hCC ▸ hb4 : Below C W w4) (Nat.le_refl _)
    have hrL4 := hrL.keep (hCC ▸ hb4 : Below C W w4) (Nat.le_refl _)
    have hkC : w.heap.size ≤ C := by rw [← hCC]; exact hk.size
    refine at_world (S := fun X => Blk X w.heap.size #[.slice a p.cells.length cap, .int .i64 p.bottles, .int .i64 p.inH, .int .i64 p.inA, .int .i64 p.vH, .int .i64 p.vA, .int .i64 p.lH, .int .i64 p.lA, .int .i64 p.pH, .int .i64 p.pA] 63 ∧ Blk X s #[.slice ad p.cells.length cp, .int .i64 p.bottles, .int .i64 p.inH, .int .i64 p.inA, .int .i64 p.vH, .int .i64 p.vA, .int .i64 p.lH, .int .i64 p.lA, .int .i64 p.pH, .int .i64 p.pA] 63 ∧ Blk X w4.heap.size #[.slice ad4 Q.cells.length cp4, .int .i64 Q.bottles, .int .i64 Q.inH, .int .i64 Q.inA, .int .i64 Q.vH, .int .i64 Q.vA, .int .i64 Q.lH, .int .i64 Q.lA, .int .i64 Q.pH, .int .i64 Q.pA] 63 ∧ Row Cell.cells 7 C X ad p.cells ∧ Row Deed.cells 4 C X adL ds ∧ Mine 25 C X (.slice ad4 Q.cells.length cp4) Q.cells ∧ Kept w X ∧ C ≤ w4.heap.size) ⟨by (exact blkd), by (exact blkd), by (exact blkd), (hrow4.keep (by exact (by have hnp : C ≤ w4.heap.size := hC; (repeat (refine Below.setCell ?_ hnp _)); exact (Below.refl _ _).alloc hnp _) : Below C w4 _) (Nat.le_refl _)), (hrL4.keep (by exact (by have hnp : C ≤ w4.heap.size := hC; (repeat (refine Below.setCell ?_ hnp _)); exact (Below.refl _ _).alloc hnp _) : Below C w4 _) (Nat.le_refl _)), by exact (by have hnp := mine_past hm4 (Nat.le_refl _); (repeat (with_reducible refine Mine.off ?_ hnp _)); exact hm4.alloc _), by (exact kpt), hC⟩ ?_
    clear b2 b5 hm hk hb4 hm4 hrow hrow4 hrL hrL4 hC
    rintro X ⟨b2, b5, b6, hrow, hrL, hm6, hk, hC6⟩
    generalize w4.heap.size = s6 at hC6 b6 ⊢
    have b2c0 := b2.cell 0
    have b2f0 := b2.free 0
    have b2c1 := b2.cell 1
    have b2f1 := b2.free 1
    have b2c2 := b2.cell 2
    have b2f2 := b2.free 2
    have b2c3 := b2.cell 3
    have b2f3 := b2.free 3
    have b2c4 := b2.cell 4
    have b2f4 := b2.free 4
    have b2c5 := b2.cell 5
    have b2f5 := b2.free 5
    have b2c6 := b2.cell 6
    have b2f6 := b2.free 6
    have b2c7 := b2.cell 7
    have b2f7 := b2.free 7
    have b2c8 := b2.cell 8
    have b2f8 := b2.free 8
    have b2c9 := b2.cell 9
    have b2f9 := b2.free 9
    have b2l := b2.lt
    simp at b2c0 b2c1 b2c2 b2c3 b2c4 b2c5 b2c6 b2c7 b2c8 b2c9
    go_upto_region 6 with (go_at_call 54; (with_reducible refine (r_Play p ds a cap b cb _ (hx.later hk (Nat.le_refl _)) hc hM hz (hd.later hk (Nat.le_refl _)) hdc hdM Q N E HR.out).mono ?_); rintro e w5 ⟨v5, rfl, hm5, hb5⟩; obtain ⟨ad5, cp5, rfl, hl5, hc5, hz5⟩ := hm5.slice)
    clear b2c0 b2f0 b2c1 b2f1 b2c2 b2f2 b2c3 b2f3 b2c4 b2f4 b2c5 b2f5 b2c6 b2f6 b2c7 b2f7 b2c8 b2f8 b2c9 b2f9 b2l
    have hCX : C ≤ X.heap.size := by have := b6.lt; omega
    have hC5 : C ≤ w5.heap.size := by have := hb5.size; omega
    have hrow5 := hrow.keep (hb5.mono hCX) (Nat.le_refl _)
    have hrL5 := hrL.keep (hb5.mono hCX) (Nat.le_refl _)
    have hm6k := hm6.keep hb5
    have hm5k := hm5.base (C := w.heap.size) hk.size
    refine at_world (S := fun Y => Blk Y w.heap.size #[.slice a p.cells.length cap, .int .i64 p.bottles, .int .i64 p.inH, .int .i64 p.inA, .int .i64 p.vH, .int .i64 p.vA, .int .i64 p.lH, .int .i64 p.lA, .int .i64 p.pH, .int .i64 p.pA] 63 ∧ Blk Y s #[.slice ad p.cells.length cp, .int .i64 p.bottles, .int .i64 p.inH, .int .i64 p.inA, .int .i64 p.vH, .int .i64 p.vA, .int .i64 p.lH, .int .i64 p.lA, .int .i64 p.pH, .int .i64 p.pA] 63 ∧ Blk Y s6 #[.slice ad4 Q.cells.length cp4, .int .i64 Q.bottles, .int .i64 Q.inH, .int .i64 Q.inA, .int .i64 Q.vH, .int .i64 Q.vA, .int .i64 Q.lH, .int .i64 Q.lA, .int .i64 Q.pH, .int .i64 Q.pA] 63 ∧ Row Cell.cells 7 C Y ad p.cells ∧ Row Deed.cells 4 C Y adL ds ∧ Mine 25 C Y (.slice ad4 Q.cells.length cp4) Q.cells ∧ Kept w Y ∧ Blk Y w5.heap.size #[.slice ad5 Q.cells.length cp5, .int .i64 Q.bottles, .int .i64 Q.inH, .int .i64 Q.inA, .int .i64 Q.vH, .int .i64 Q.vA, .int .i64 Q.lH, .int .i64 Q.lA, .int .i64 Q.pH, .int .i64 Q.pA] 63 ∧ Mine 25 w.heap.size Y (.slice ad5 Q.cells.length cp5) Q.cells ∧ C ≤ Y.heap.size) ⟨by (exact blkd), by (exact blkd), by (exact blkd), (hrow5.keep (by exact (by have hnp : C ≤ w5.heap.size := hC5; (repeat (refine Below.setCell ?_ hnp _)); exact (Below.refl _ _).alloc hnp _) : Below C w5 _) (Nat.le_refl _)), (hrL5.keep (by exact (by have hnp : C ≤ w5.heap.size := hC5; (repeat (refine Below.setCell ?_ hnp _)); exact (Below.refl _ _).alloc hnp _) : Below C w5 _) (Nat.le_refl _)), by exact (by have hnp := mine_past hm6k (Nat.le_refl _); (repeat (with_reducible refine Mine.off ?_ hnp _)); exact hm6k.alloc _), by (exact kpt), by (exact blkd), by exact (by have hnp := mine_past hm5k (Nat.le_refl _); (repeat (with_reducible refine Mine.off ?_ hnp _)); exact hm5k.alloc _), by simp; omega⟩ ?_
    clear b2 b5 b6 hrow hrL hm6 hk hb5 hm5 hrow5 hrL5 hm6k hm5k hC5 hCX
    rintro Y ⟨b2, b5, b6, hrow, hrL, hm6, hk, b8, hm8, hCY⟩
    generalize w5.heap.size = s8 at b8 ⊢
    have b6c0 := b6.cell 0
    have b6f0 := b6.free 0
    have b6c1 := b6.cell 1
    have b6f1 := b6.free 1
    have b6c2 := b6.cell 2
    have b6f2 := b6.free 2
    have b6c3 := b6.cell 3
    have b6f3 := b6.free 3
    have b6c4 := b6.cell 4
    have b6f4 := b6.free 4
    have b6c5 := b6.cell 5
    have b6f5 := b6.free 5
    have b6c6 := b6.cell 6
    have b6f6 := b6.free 6
    have b6c7 := b6.cell 7
    have b6f7 := b6.free 7
    have b6c8 := b6.cell 8
    have b6f8 := b6.free 8
    have b6c9 := b6.cell 9
    have b6f9 := b6.free 9
    have b6l := b6.lt
    simp at b6c0 b6c1 b6c2 b6c3 b6c4 b6c5 b6c6 b6c7 b6c8 b6c9
    have b8c0 := b8.cell 0
    have b8f0 := b8.free 0
    have b8c1 := b8.cell 1
    have b8f1 := b8.free 1
    have b8c2 := b8.cell 2
    have b8f2 := b8.free 2
    have b8c3 := b8.cell 3
    have b8f3 := b8.free 3
    have b8c4 := b8.cell 4
    have b8f4 := b8.free 4
    have b8c5 := b8.cell 5
    have b8f5 := b8.free 5
    have b8c6 := b8.cell 6
    have b8f6 := b8.free 6
    have b8c7 := b8.cell 7
    have b8f7 := b8.free 7
    have b8c8 := b8.cell 8
    have b8f8 := b8.free 8
    have b8c9 := b8.cell 9
    have b8f9 := b8.free 9
    have b8l := b8.lt
    simp at b8c0 b8c1 b8c2 b8c3 b8c4 b8c5 b8c6 b8c7 b8c8 b8c9
    go_upto_region 7 with (go_at_call 52; (with_reducible refine (r_SamePlantK hm6 hm8).mono ?_); rintro e w6 ⟨rfl, hb6⟩)
    clear b6c0 b6f0 b6c1 b6f1 b6c2 b6f2 b6c3 b6f3 b6c4 b6f4 b6c5 b6f5 b6c6 b6f6 b6c7 b6f7 b6c8 b6f8 b6c9 b6f9 b6l b8c0 b8f0 b8c1 b8f1 b8c2 b8f2 b8c3 b8f3 b8c4 b8f4 b8c5 b8f5 b8c6 b8f6 b8c7 b8f7 b8c8 b8f8 b8c9 b8f9 b8l
    refine at_world (S := fun Z => Blk Z w.heap.size #[.slice a p.cells.length cap, .int .i64 p.bottles, .int .i64 p.inH, .int .i64 p.inA, .int .i64 p.vH, .int .i64 p.vA, .int .i64 p.lH, .int .i64 p.lA, .int .i64 p.pH, .int .i64 p.pA] 63 ∧ Blk Z s #[.slice ad p.cells.length cp, .int .i64 p.bottles, .int .i64 p.inH, .int .i64 p.inA, .int .i64 p.vH, .int .i64 p.vA, .int .i64 p.lH, .int .i64 p.lA, .int .i64 p.pH, .int .i64 p.pA] 63 ∧ Blk Z s6 #[.slice ad4 Q.cells.length cp4, .int .i64 Q.bottles, .int .i64 Q.inH, .int .i64 Q.inA, .int .i64 Q.vH, .int .i64 Q.vA, .int .i64 Q.lH, .int .i64 Q.lA, .int .i64 Q.pH, .int .i64 Q.pA] 63 ∧ Row Cell.cells 7 C Z ad p.cells ∧ Row Deed.cells 4 C Z adL ds ∧ Mine 25 C Z (.slice ad4 Q.cells.length cp4) Q.cells ∧ Kept w Z ∧ C ≤ Z.heap.size) ⟨b2.keep hb6, b5.keep hb6, b6.keep hb6, hrow.keep (hb6.mono hCY) (Nat.le_refl _), hrL.keep (hb6.mono hCY) (Nat.le_refl _), hm6.keep hb6, Kept.drop hk hb6, Nat.le_trans hCY hb6.size⟩ ?_
    clear b2 b5 b6 b8 hrow hrL hm6 hm8 hk hb6 hCY
    rintro Z ⟨b2, b5, b6, hrow, hrL, hm6, hk, hCZ⟩
    go_wp2
    go_loopw [60, 13] (fun i ok wr => ∃ k : Nat, k ≤ ds.length ∧ i = .int .i64 k ∧ ok = .bool true ∧ Kept Z wr) (fun i _ _ => ds.length - (intOf i).toNat)
    case atStart => exact ⟨0, Nat.zero_le _, rfl, rfl, Below.refl _ _⟩
    case round =>
      obtain ⟨k, hk0, rfl, rfl, hkk⟩ := hrel
      by_cases hlt : k < ds.length
      · obtain ⟨b1, o1, rfl, hb1, x0, x1, x2, x3⟩ := Deed.row (hrL.keep (hkk.mono hCZ) (Nat.le_refl _)) k hlt
        obtain ⟨b3, o3, rfl, hb3, y0, y1, y2, y3⟩ := Deed.row (hd.later (Kept.drop hk hkk) (Nat.le_refl _)) k hlt
        have u0 := fun g : Later wr => g.some x0
        have v0 := fun g : Later wr => g.some y0
        have u1 := fun g : Later wr => g.some x1
        have v1 := fun g : Later wr => g.some y1
        have u2 := fun g : Later wr => g.some x2
        have v2 := fun g : Later wr => g.some y2
        have u3 := fun g : Later wr => g.some x3
        have v3 := fun g : Later wr => g.some y3
        clear x0 x1 x2 x3 y0 y1 y2 y3
        go_upto_region 10 with fail
        refine Later.region (by kernel_rfl) (by kernel_rfl) ?_
        repeat (first | go_big_quiet_skip | (go_big_quiet_want; go_big_quiet_op; first | go_big_quiet_on | (apply Exists.intro; refine ⟨fun g => ?_, ?_⟩; (focus (first | fail)); go_big_quiet_on)))
        refine wpQuiet_nil ?_
        intro gg
        have hkgg := Kept.drop hkk gg.ok
        go_wp2
        go_round
        case rel => exact ⟨k + 1, by omega, by go_num, rfl, hkgg⟩
        case measure => simp [intOf]; omega
      · obtain rfl : k = ds.length := by omega
        obtain ⟨Z2, rfl⟩ : ∃ Z2 : World, Z2 = wr := ⟨_, rfl⟩
        have n2 := b2.keep hkk
        have n5 := b5.keep hkk
        have n6 := b6.keep hkk
        have hrowg := hrow.keep (hkk.mono hCZ) (Nat.le_refl _)
        have hm6g := hm6.keep hkk
        have hkg := Kept.drop hk hkk
        clear b2 b5 b6 hrow hm6 hk hrL hkk hCZ
        have n6c0 := n6.cell 0
        have n6f0 := n6.free 0
        have n6c1 := n6.cell 1
        have n6f1 := n6.free 1
        have n6c2 := n6.cell 2
        have n6f2 := n6.free 2
        have n6c3 := n6.cell 3
        have n6f3 := n6.free 3
        have n6c4 := n6.cell 4
        have n6f4 := n6.free 4
        have n6c5 := n6.cell 5
        have n6f5 := n6.free 5
        have n6c6 := n6.cell 6
        have n6f6 := n6.free 6
        have n6c7 := n6.cell 7
        have n6f7 := n6.free 7
        have n6c8 := n6.cell 8
        have n6f8 := n6.free 8
        have n6c9 := n6.cell 9
        have n6f9 := n6.free 9
        have n6l := n6.lt
        simp at n6c0 n6c1 n6c2 n6c3 n6c4 n6c5 n6c6 n6c7 n6c8 n6c9
        go_wp2
        clear n6c0 n6f0 n6c1 n6f1 n6c2 n6f2 n6c3 n6f3 n6c4 n6f4 n6c5 n6f5 n6c6 n6f6 n6c7 n6f7 n6c8 n6f8 n6c9 n6f9 n6l
        go_loopw [79] (fun i wx => RoomRel 25 Q ad4 cp4 s6 C Z2 i wx) (fun i _ => Q.cells.length - (intOf i).toNat)
        case atStart => exact ⟨0, Q.cells, Nat.zero_le _, rfl, rfl, n6, hm6g, Below.refl _ _⟩
        case round =>
          obtain ⟨k, xs, hk0, rfl, hxl, r6, hmr, hBr⟩ := hrel
          have hq63 : Q.cells.length ≤ 9223372036854775807 := by have := hc4; unfold maxLen at this; omega
          have r6c0 := r6.cell 0
          have r6f0 := r6.free 0
          have r6c1 := r6.cell 1
          have r6f1 := r6.free 1
          have r6c2 := r6.cell 2
          have r6f2 := r6.free 2
          have r6c3 := r6.cell 3
          have r6f3 := r6.free 3
          have r6c4 := r6.cell 4
          have r6f4 := r6.free 4
          have r6c5 := r6.cell 5
          have r6f5 := r6.free 5
          have r6c6 := r6.cell 6
          have r6f6 := r6.free 6
          have r6c7 := r6.cell 7
          have r6f7 := r6.free 7
          have r6c8 := r6.cell 8
          have r6f8 := r6.free 8
          have r6c9 := r6.cell 9
          have r6f9 := r6.free 9
          have r6l := r6.lt
          simp at r6c0 r6c1 r6c2 r6c3 r6c4 r6c5 r6c6 r6c7 r6c8 r6c9
          by_cases hlt : k < Q.cells.length
          · have hix : k < xs.length := by omega
            have HXL := Lib.hid hxl
            clear hxl
            obtain ⟨g, cur, hge, hBg, hcur, c0, c1, c2, c3, c4, c5, c6⟩ := hmr.at hix
            clear c1 c2 c3 c4 c5 c6
            have fr := hcur.free (k * 7)
            cases hge
            go_wp2
            go_round
            case rel =>
              exact ⟨k + 1, xs.set k { xs[k] with room := -7 }, by omega, by go_num, by simp [HXL.out], r6.other (fun he => by simp only at he; subst he; have := r6.symm.trans hcur; simp at this) _, hmr.put (j := 0) (c := xs[k]) { xs[k] with room := -7 } (by simp [hix]) (by decide) rfl, hBr.setCell hBg _⟩
            case measure => simp [intOf]; omega
          · obtain rfl : k = Q.cells.length := by omega
            have m2 := blk_below n2 hBr (by omega)
            have m5 := blk_below n5 hBr (by omega)
            have hrowE := hrowg.keep hBr (Nat.le_refl _)
            have hCZ : C ≤ wr.heap.size := by have := hBr.size; have := r6.lt; omega
            have hkE : Kept w wr := hkg.trans (hBr.mono hkC)
            clear r6c0 r6f0 r6c1 r6f1 r6c2 r6f2 r6c3 r6f3 r6c4 r6f4 r6c5 r6f5 r6c6 r6f6 r6c7 r6f7 r6c8 r6f8 r6c9 r6f9 r6l n2 n5
            have m2c0 := m2.cell 0
            have m2f0 := m2.free 0
            have m2c1 := m2.cell 1
            have m2f1 := m2.free 1
            have m2c2 := m2.cell 2
            have m2f2 := m2.free 2
            have m2c3 := m2.cell 3
            have m2f3 := m2.free 3
            have m2c4 := m2.cell 4
            have m2f4 := m2.free 4
            have m2c5 := m2.cell 5
            have m2f5 := m2.free 5
            have m2c6 := m2.cell 6
            have m2f6 := m2.free 6
            have m2c7 := m2.cell 7
            have m2f7 := m2.free 7
            have m2c8 := m2.cell 8
            have m2f8 := m2.free 8
            have m2c9 := m2.cell 9
            have m2f9 := m2.free 9
            have m2l := m2.lt
            simp at m2c0 m2c1 m2c2 m2c3 m2c4 m2c5 m2c6 m2c7 m2c8 m2c9
            have m5c0 := m5.cell 0
            have m5f0 := m5.free 0
            have m5c1 := m5.cell 1
            have m5f1 := m5.free 1
            have m5c2 := m5.cell 2
            have m5f2 := m5.free 2
            have m5c3 := m5.cell 3
            have m5f3 := m5.free 3
            have m5c4 := m5.cell 4
            have m5f4 := m5.free 4
            have m5c5 := m5.cell 5
            have m5f5 := m5.free 5
            have m5c6 := m5.cell 6
            have m5f6 := m5.free 6
            have m5c7 := m5.cell 7
            have m5f7 := m5.free 7
            have m5c8 := m5.cell 8
            have m5f8 := m5.free 8
            have m5c9 := m5.cell 9
            have m5f9 := m5.free 9
            have m5l := m5.lt
            simp at m5c0 m5c1 m5c2 m5c3 m5c4 m5c5 m5c6 m5c7 m5c8 m5c9
            go_wp2_with (go_at_call 52; (with_reducible refine (r_SamePlant ad a cp cap p _ (hrowE.up hCZ) (hx.later hkE (Nat.le_refl _)) hlo hc hmo hM).mono ?_); rintro e w9 ⟨rfl, hb9⟩)
            go_ret
            exact ⟨rfl, by (exact kpt)⟩
  · have HG := Lib.hid hg
    go_enter Try.func7, Try.ntmps7
    go_wp2_with (go_at_call 46; (with_reducible refine (r_Great p ds _ a cap b cb _ rfl (hd.later (by (exact kpt)) (Nat.le_refl _)) hc hM hdc hdM).mono ?_); rw [HG.out]; rintro e w1 ⟨rfl, hb1⟩; refine Blk.thru (b := w.heap.size) (arr := ?_) (t := ?_) ?_ hb1 ?_; rotate_left 2; (focus (exact blk)); intro rr; have rrc0 := rr.cell 0; have rrf0 := rr.free 0; have rrc1 := rr.cell 1; have rrf1 := rr.free 1; have rrc2 := rr.cell 2; have rrf2 := rr.free 2; have rrc3 := rr.cell 3; have rrf3 := rr.free 3; have rrc4 := rr.cell 4; have rrf4 := rr.free 4; have rrc5 := rr.cell 5; have rrf5 := rr.free 5; have rrc6 := rr.cell 6; have rrf6 := rr.free 6; have rrc7 := rr.cell 7; have rrf7 := rr.free 7; have rrc8 := rr.cell 8; have rrf8 := rr.free 8; have rrc9 := rr.cell 9; have rrf9 := rr.free 9; have rrl := rr.lt; simp at rrc0 rrc1 rrc2 rrc3 rrc4 rrc5 rrc6 rrc7 rrc8 rrc9)
    go_ret
    exact ⟨rfl, by (exact kpt)⟩

end Go.Proofs.Ytemafanncejeiaa

/-
  An argument that is a struct of numbers, opened. No program in sight.
-/
namespace Bal
open Go Go.RowKit Go.WideShapes
section
variable {H : Type} {enc : TypeId × Value → H} {P : Program} {w : World} {base : Nat} {spare : Nat → Bool} {held : Bool}
theorem open_agg {α : Type} {enc' : α → List Value} {wf : α → Prop} {ls : List Leaf} (hdec : ∀ cs, LeavesOk ls cs → ∃ x : α, cs = enc' x ∧ wf x) {t : TypeId} {fs : Array Field} {n : Nat} {v : Value} {d : DataW H} {ps : List MemPlace} {r : Reach} {b0 : Nat}
    (ht : P.underlying t = some (.struct fs)) (hls : leaves P n t = some ls) (hval : Value.okWide P w r b0 t v) (hd : DataW.Trod enc P w base spare held t v d ps) :
    ∃ x : α, v = .agg (enc' x).toArray ∧ wf x := by
  obtain ⟨cs, rfl, _⟩ := okWide_struct ht hval
  obtain ⟨fuel, hf⟩ := hd
  obtain ⟨x, e, hw⟩ := hdec _ (leaves_ok n _ _ _ _ _ hls hf)
  refine ⟨x, ?_, hw⟩
  rw [← e]
  simp [Value.cells]
end
end Bal

/-
  A plant that came in, opened: its cells, its numbers.
-/
namespace Go.Proofs.Ytemafanncejeiaa
open Go.RowKit Go.ChangeShapes Go.WideShapes Go.ChangeAt Bal Bal.Trim Bal.Gas
set_option linter.unusedVariables false
set_option maxRecDepth 100000
theorem trod_field {H : Type} {enc : TypeId × Value → H} {P : Program} {w : World} {base fuel : Nat} {spare : Nat → Bool} {held : Bool} {fs : Array Field} {cs : List Value} {xs : List (DataW H × List MemPlace)} (hxl : xs.length = fs.size)
    (hg : ∀ (i : Nat) (f : Field), fs[i]? = some f → DataW.trod enc P w base spare held fuel f.type ((cs.drop f.offset).take (P.cellsOf f.type)) = xs[i]?) (i : Nat) (f : Field) (hi : fs[i]? = some f) :
    ∃ x, DataW.trod enc P w base spare held fuel f.type ((cs.drop f.offset).take (P.cellsOf f.type)) = some x := by
  have hlt : i < fs.size := (Array.getElem?_eq_some_iff.1 hi).1
  refine ⟨xs[i]'(by omega), ?_⟩
  rw [hg i f hi]
  exact List.getElem?_eq_getElem (by omega)
theorem pair_leaves {H : Type} {enc : TypeId × Value → H} {w : World} {base fuel : Nat} {spare : Nat → Bool} {held : Bool} {cs : List Value} {x : DataW H × List MemPlace} (h : DataW.trod enc Try.prog w base spare held fuel 61 cs = some x) :
    ∃ a b : Int, cs = [.int .i64 a, .int .i64 b] := by
  have hl := leaves_ok (P := Try.prog) 4 61 [.int .i64, .int .i64] fuel cs x (by kernel_rfl) h
  obtain ⟨hl, h⟩ := hl
  match cs, hl with
  | [v0, v1], _ =>
    obtain ⟨_, e0, n0, rfl, w0⟩ := h 0 (.int .i64) rfl; simp at e0; subst e0
    obtain ⟨_, e1, n1, rfl, w1⟩ := h 1 (.int .i64) rfl; simp at e1; subst e1
    exact ⟨n0, n1, rfl⟩
theorem open_plant {H : Type} {enc : TypeId × Value → H} {w : World} {base : Nat} {spare : Nat → Bool} {held : Bool} {v : Value} {d : DataW H} {ps : List MemPlace} {r : Reach} {b0 : Nat}
    (hval : Value.okWide Try.prog w r b0 63 v) (hd : DataW.Trod enc Try.prog w base spare held 63 v d ps) :
    ∃ (a : Option Addr) (c : Nat) (p : Plant), v = .agg (plantCells (.slice a p.cells.length c) p) ∧
      Row Cell.cells 7 w.heap.size w a p.cells ∧ p.cells.length ≤ c ∧ c ≤ maxLen ∧ (a = none → c = 0) := by
  obtain ⟨cs, rfl, hsz⟩ := okWide_struct Try.underlying63 hval
  obtain ⟨fuel, hf⟩ := hd
  obtain ⟨zs, n, _, _, hcl, hxl, hg⟩ := DataW.trod_struct Try.underlying63 hf
  have hc5 : Try.prog.cellsOf 63 = 10 := by kernel_rfl
  have k1 : Try.prog.cellsOf 3 = 1 := by kernel_rfl
  have k2 : Try.prog.cellsOf 59 = 1 := by kernel_rfl
  have k3 : Try.prog.cellsOf 61 = 2 := by kernel_rfl
  obtain ⟨x0, h0⟩ := trod_field hxl hg 0 _ rfl
  obtain ⟨x1, h1⟩ := trod_field hxl hg 1 _ rfl
  obtain ⟨x2, h2⟩ := trod_field hxl hg 2 _ rfl
  obtain ⟨x3, h3⟩ := trod_field hxl hg 3 _ rfl
  obtain ⟨x4, h4⟩ := trod_field hxl hg 4 _ rfl
  obtain ⟨x5, h5⟩ := trod_field hxl hg 5 _ rfl
  have g0 : DataW.trod enc Try.prog w base spare held n 59 (((Value.agg cs).cells.toList.drop 0).take (Try.prog.cellsOf 59)) = some x0 := h0
  have g1 : DataW.trod enc Try.prog w base spare held n 3 (((Value.agg cs).cells.toList.drop 1).take (Try.prog.cellsOf 3)) = some x1 := h1
  have g2 : DataW.trod enc Try.prog w base spare held n 61 (((Value.agg cs).cells.toList.drop 2).take (Try.prog.cellsOf 61)) = some x2 := h2
  have g3 : DataW.trod enc Try.prog w base spare held n 61 (((Value.agg cs).cells.toList.drop 4).take (Try.prog.cellsOf 61)) = some x3 := h3
  have g4 : DataW.trod enc Try.prog w base spare held n 61 (((Value.agg cs).cells.toList.drop 6).take (Try.prog.cellsOf 61)) = some x4 := h4
  have g5 : DataW.trod enc Try.prog w base spare held n 61 (((Value.agg cs).cells.toList.drop 8).take (Try.prog.cellsOf 61)) = some x5 := h5
  clear h0 h1 h2 h3 h4 h5
  rw [k2] at g0
  rw [k1] at g1
  rw [k3] at g2 g3 g4 g5
  obtain ⟨a, c, xs, e0, hl0, hm0, row0, _, z0⟩ := open_typed (n := 4) (fun _ h => Cell.of_leaves h) Try.underlying59 (by kernel_rfl) (by kernel_rfl) (by decide) g0
  obtain ⟨q1, e1, _, _⟩ := DataW.trod_int Try.underlying3 g1
  obtain ⟨q2h, q2a, e2⟩ := pair_leaves g2
  obtain ⟨q3h, q3a, e3⟩ := pair_leaves g3
  obtain ⟨q4h, q4a, e4⟩ := pair_leaves g4
  obtain ⟨q5h, q5a, e5⟩ := pair_leaves g5
  refine ⟨a, c, ⟨xs, q1, q2h, q2a, q3h, q3a, q4h, q4a, q5h, q5a⟩, ?_, row0, hl0, hm0, z0⟩
  obtain ⟨l⟩ := cs
  rw [hc5] at hsz
  match l, hsz with
  | [c0, c1, c2, c3, c4, c5, c6, c7, c8, c9], _ =>
    simp [Value.cells] at e0 e1 e2 e3 e4 e5
    simp [plantCells, e0, e1, e2, e3, e4, e5]
end Go.Proofs.Ytemafanncejeiaa

/-
  The words of a string that is known sign by sign: for the facts on how a program was made. No program in sight.
-/
namespace Bal
open Go
theorem words_cons : ∀ (w r : List Char), w.all (fun c => c != Char.ofNat 32) = true → wordsSigns (w ++ Char.ofNat 32 :: r) = w :: wordsSigns r
  | [], r, _ => by simp [wordsSigns]
  | c :: w, r, h => by
    simp only [List.all_cons, Bool.and_eq_true, bne_iff_ne, ne_eq] at h
    obtain ⟨h1, h2⟩ := h
    have ih := words_cons w r h2
    rw [List.cons_append]
    simp [wordsSigns, ih]
theorem words_last : ∀ (w : List Char), w.all (fun c => c != Char.ofNat 32) = true → wordsSigns w = [w]
  | [], _ => by simp [wordsSigns]
  | c :: w, h => by
    simp only [List.all_cons, Bool.and_eq_true, bne_iff_ne, ne_eq] at h
    obtain ⟨h1, h2⟩ := h
    simp [wordsSigns, words_last w h2]
/-! A program that was cut, behind a harness. (With the program a variable the kernel never unfolds it.) -/
section
variable {P : Program} {w0 w1 : List Char} {r : List (List Char)}
theorem behind_cut (h : wordsSigns P.initOrder.toList = w0 :: w1 :: [Char.ofNat 99, Char.ofNat 117, Char.ofNat 116] :: r) (h0 : w0 = "harness".toList) (h1 : isSumSigns w1 = true) : behindMainWord (wordsSigns P.initOrder.toList) = [Char.ofNat 99, Char.ofNat 117, Char.ofNat 116] :: r := by
  rw [h]
  have e : (w0 == "harness".toList) = true := by rw [h0]; simp
  simp only [behindMainWord, e, h1, Bool.true_or, Bool.and_self, if_true]
theorem make_cut (h : wordsSigns P.initOrder.toList = w0 :: w1 :: [Char.ofNat 99, Char.ofNat 117, Char.ofNat 116] :: r) (h0 : w0 = "harness".toList) (h1 : isSumSigns w1 = true) : P.make = some .cut := by
  unfold Program.make
  rw [behind_cut h h0 h1]
  rfl
theorem lifts_cut (h : wordsSigns P.initOrder.toList = w0 :: w1 :: [Char.ofNat 99, Char.ofNat 117, Char.ofNat 116] :: r) (h0 : w0 = "harness".toList) (h1 : isSumSigns w1 = true) : P.liftsFinal = false := by
  unfold Program.liftsFinal Program.headLifts
  rw [behind_cut h h0 h1]
  rfl
theorem enter_cut (h : wordsSigns P.initOrder.toList = w0 :: w1 :: [Char.ofNat 99, Char.ofNat 117, Char.ofNat 116] :: r) (h0 : w0 = "harness".toList) (h1 : isSumSigns w1 = true) (l : P.laysLater = false) (b : P.bearsReflect = false) (d : P.doorFits [] = true) : P.mayEnter = true := by
  unfold Program.mayEnter
  rw [behind_cut h h0 h1]
  have e : stripLifts liftWords ([Char.ofNat 99, Char.ofNat 117, Char.ofNat 116] :: r) = ([], [Char.ofNat 99, Char.ofNat 117, Char.ofNat 116] :: r) := rfl
  simp only [e, l, b, d]
  rfl
end
end Bal

/-
  How the program was made: its words, and what follows for every row of the seat.
-/
namespace Go.Proofs.Ytemafanncejeiaa
open Bal
set_option maxRecDepth 100000
def initW0 : List Char := List.map Char.ofNat [104, 97, 114, 110, 101, 115, 115]
def initW1 : List Char := List.map Char.ofNat [97, 100, 52, 49, 56, 99, 52, 98, 97, 54, 50, 52, 52, 49, 56, 97, 100, 48, 100, 56, 56, 52, 55, 97, 56, 98, 97, 98, 49, 52, 54, 52, 48, 98, 101, 50, 97, 56, 99, 49, 52, 49, 53, 97, 54, 99, 57, 49, 100, 57, 101, 99, 49, 97, 50, 99, 99, 102, 99, 97, 102, 97, 49, 51]
def initW2 : List Char := List.map Char.ofNat [99, 117, 116]
def initW3 : List Char := List.map Char.ofNat [97, 116]
def initW4 : List Char := List.map Char.ofNat [98, 97, 108, 108, 111, 110, 101, 116, 47, 98, 97, 108, 108, 111, 110, 101, 116, 108, 97, 119, 48, 51, 46, 71, 97, 115, 86, 111, 108, 117, 109, 101, 115]
def initW5 : List Char := List.map Char.ofNat [98, 97, 108, 108, 111, 110, 101, 116, 47, 98, 97, 108, 108, 111, 110, 101, 116, 108, 97, 119, 48, 51, 46, 71, 97, 115, 76, 105, 102, 116, 115]
def initW6 : List Char := List.map Char.ofNat [98, 97, 108, 108, 111, 110, 101, 116, 47, 98, 97, 108, 108, 111, 110, 101, 116, 108, 97, 119, 48, 51, 46, 71, 97, 115, 72, 117, 108, 108, 115]
def initW7 : List Char := List.map Char.ofNat [98, 97, 108, 108, 111, 110, 101, 116, 47, 98, 97, 108, 108, 111, 110, 101, 116, 108, 97, 119, 48, 51, 46, 71, 97, 115, 68, 111, 101, 115]
def initW8 : List Char := List.map Char.ofNat [98, 97, 108, 108, 111, 110, 101, 116, 47, 98, 97, 108, 108, 111, 110, 101, 116, 108, 97, 119, 48, 51, 46, 71, 97, 115, 80, 108, 97, 121, 115]
def initW9 : List Char := List.map Char.ofNat [98, 97, 108, 108, 111, 110, 101, 116, 47, 98, 97, 108, 108, 111, 110, 101, 116, 108, 97, 119, 48, 51, 46, 71, 97, 115, 76, 101, 97, 107, 115]
def initW10 : List Char := List.map Char.ofNat [98, 97, 108, 108, 111, 110, 101, 116, 47, 98, 97, 108, 108, 111, 110, 101, 116, 108, 97, 119, 48, 51, 46, 71, 97, 115, 87, 97, 114, 109, 101, 114]
def initW11 : List Char := List.map Char.ofNat [98, 97, 108, 108, 111, 110, 101, 116, 47, 98, 97, 108, 108, 111, 110, 101, 116, 108, 97, 119, 48, 51, 46, 71, 97, 115, 75, 101, 112, 116]
def initW12 : List Char := List.map Char.ofNat [98, 97, 108, 108, 111, 110, 101, 116, 47, 98, 97, 108, 108, 111, 110, 101, 116, 108, 97, 119, 48, 51, 46, 71, 97, 115, 80, 117, 114, 101]
def initW13 : List Char := List.map Char.ofNat [98, 97, 108, 108, 111, 110, 101, 116, 47, 98, 97, 108, 108, 111, 110, 101, 116, 108, 97, 119, 48, 51, 46, 71, 97, 115, 72, 101, 108, 100]
def initW14 : List Char := List.map Char.ofNat [98, 97, 108, 108, 111, 110, 101, 116, 47, 98, 97, 108, 108, 111, 110, 101, 116, 108, 97, 119, 48, 51, 46, 71, 97, 115, 84, 105, 103, 104, 116]
def initW15 : List Char := List.map Char.ofNat [98, 97, 108, 108, 111, 110, 101, 116, 47, 98, 97, 108, 108, 111, 110, 101, 116, 108, 97, 119, 48, 51, 46, 71, 97, 115, 78, 97, 109, 101, 100]
def initW16 : List Char := List.map Char.ofNat [98, 97, 108, 108, 111, 110, 101, 116, 47, 98, 97, 108, 108, 111, 110, 101, 116, 108, 97, 119, 48, 51, 46, 71, 97, 115, 69, 120, 97, 99, 116]
def initW17 : List Char := List.map Char.ofNat [98, 97, 108, 108, 111, 110, 101, 116, 47, 98, 97, 108, 108, 111, 110, 101, 116, 108, 97, 119, 48, 51, 46, 71, 97, 115, 80, 114, 111, 118, 101, 100]
def initW18 : List Char := List.map Char.ofNat [98, 97, 108, 108, 111, 110, 101, 116, 47, 98, 97, 108, 108, 111, 110, 101, 116, 108, 97, 119, 48, 51, 46, 71, 97, 115, 66, 108, 111, 119, 110]
def initW19 : List Char := List.map Char.ofNat [98, 97, 108, 108, 111, 110, 101, 116, 47, 98, 97, 108, 108, 111, 110, 101, 116, 108, 97, 119, 48, 51, 46, 71, 97, 115, 82, 111, 111, 102]
def initW20 : List Char := List.map Char.ofNat [98, 97, 108, 108, 111, 110, 101, 116, 47, 98, 97, 108, 108, 111, 110, 101, 116, 108, 97, 119, 48, 51, 46, 71, 97, 115, 80, 108, 97, 121, 101, 100]
def initW21 : List Char := List.map Char.ofNat [98, 97, 108, 108, 111, 110, 101, 116, 47, 98, 97, 108, 108, 111, 110, 101, 116, 108, 97, 119, 48, 51, 46, 71, 97, 115, 70, 117, 108, 108]
def initW22 : List Char := List.map Char.ofNat [98, 97, 108, 108, 111, 110, 101, 116, 47, 98, 97, 108, 108, 111, 110, 101, 116, 108, 97, 119, 48, 51, 46, 71, 97, 115, 69, 120, 97, 109, 112, 108, 101, 115]
def initL : List Char := initW0 ++ Char.ofNat 32 :: (initW1 ++ Char.ofNat 32 :: (initW2 ++ Char.ofNat 32 :: (initW3 ++ Char.ofNat 32 :: (initW4 ++ Char.ofNat 32 :: (initW5 ++ Char.ofNat 32 :: (initW6 ++ Char.ofNat 32 :: (initW7 ++ Char.ofNat 32 :: (initW8 ++ Char.ofNat 32 :: (initW9 ++ Char.ofNat 32 :: (initW10 ++ Char.ofNat 32 :: (initW11 ++ Char.ofNat 32 :: (initW12 ++ Char.ofNat 32 :: (initW13 ++ Char.ofNat 32 :: (initW14 ++ Char.ofNat 32 :: (initW15 ++ Char.ofNat 32 :: (initW16 ++ Char.ofNat 32 :: (initW17 ++ Char.ofNat 32 :: (initW18 ++ Char.ofNat 32 :: (initW19 ++ Char.ofNat 32 :: (initW20 ++ Char.ofNat 32 :: (initW21 ++ Char.ofNat 32 :: initW22)))))))))))))))))))))
theorem init_is : Try.prog.initOrder = String.ofList initL := by kernel_rfl
theorem init_words : wordsSigns Try.prog.initOrder.toList = [initW0, initW1, initW2, initW3, initW4, initW5, initW6, initW7, initW8, initW9, initW10, initW11, initW12, initW13, initW14, initW15, initW16, initW17, initW18, initW19, initW20, initW21, initW22] := by
  rw [init_is, String.toList_ofList]
  unfold initL
  rw [words_cons _ _ (by decide), words_cons _ _ (by decide), words_cons _ _ (by decide), words_cons _ _ (by decide), words_cons _ _ (by decide), words_cons _ _ (by decide), words_cons _ _ (by decide), words_cons _ _ (by decide), words_cons _ _ (by decide), words_cons _ _ (by decide), words_cons _ _ (by decide), words_cons _ _ (by decide), words_cons _ _ (by decide), words_cons _ _ (by decide), words_cons _ _ (by decide), words_cons _ _ (by decide), words_cons _ _ (by decide), words_cons _ _ (by decide), words_cons _ _ (by decide), words_cons _ _ (by decide), words_cons _ _ (by decide), words_cons _ _ (by decide), words_last _ (by decide)]
theorem init_cut : wordsSigns Try.prog.initOrder.toList = initW0 :: initW1 :: [Char.ofNat 99, Char.ofNat 117, Char.ofNat 116] :: [initW3, initW4, initW5, initW6, initW7, initW8, initW9, initW10, initW11, initW12, initW13, initW14, initW15, initW16, initW17, initW18, initW19, initW20, initW21, initW22] := init_words
theorem init_sum : isSumSigns initW1 = true := by decide
theorem make_is : Try.prog.make = some .cut := make_cut init_cut rfl init_sum
theorem liftsFinal_is : Try.prog.liftsFinal = false := lifts_cut init_cut rfl init_sum
theorem mayEnter_is : Try.prog.mayEnter = true := enter_cut init_cut rfl init_sum (by kernel_rfl) (by kernel_rfl) (by kernel_rfl)
end Go.Proofs.Ytemafanncejeiaa

/-
  GasPlays, the statement: for every input the call returns true and leaves the input alone.
-/
namespace Go.Proofs.Ytemafanncejeiaa.gasPlays
open Go.ChangeShapes Go.WideShapes Go.ChangeAt Go.RowKit Bal Bal.Trim Bal.Gas
open Go.ChangeMaps (open_string shut_string)
set_option linter.unusedVariables false

theorem own : ownKnob Try.prog.godebug = none := by kernel_rfl
theorem laidOut : laidOutB Try.prog = true := by kernel_rfl

set_option maxRecDepth 100000 in
theorem lifted (os : Os) (started : os.Started) (H : Type) (enc : TypeId × Value → H) :
    ReturnsInHanded {} Try.checked os 7 .any (Rows.gasPlaysSpec.pre6 enc Try.prog Try.f7 Rows.gasPlaysRow.domain false) (Rows.gasPlaysSpec.post enc Try.prog Try.f7 false true false false) := by
  refine returnsInHanded_of_change (C := Try.checked) own started (by kernel_rfl) Try.func7
    (ChangeSpec.witness6 (enc := enc) (C := Try.checked) false ⟨#[], #[.agg #[.slice none 0 0, .int .i64 0, .int .i64 0, .int .i64 0, .int .i64 0, .int .i64 0, .int .i64 0, .int .i64 0, .int .i64 0, .int .i64 0], .slice none 0 0], []⟩ 8 (by kernel_rfl) (by kernel_rfl) (by kernel_rfl) (by kernel_rfl)) ?_
  intro W base args ds gs before hval0 hW hcnd _
  have hval : ∀ (j : Nat) t v, Try.f7.params[j]? = some t → args[j]? = some v → Value.okWide Try.prog W .any base t v := hval0
  have hW' := hW
  obtain ⟨p, q, hA0, hV, rfl, hfz, hnd⟩ := hW
  have hA : DataW.TrodAll enc Try.prog W 0 (fun _ => true) true Try.f7.params.toList args.toList ds p := hA0
  rw [Try.params7] at hA hval
  obtain ⟨v0, vs0, d0, ds0, p0, q0, hargs, rfl, rfl, h0, r0⟩ := trodAll_cons hA
  obtain ⟨v1, vs1, d1, ds1, p1, q1, rfl, rfl, rfl, h1, r1⟩ := trodAll_cons r0
  obtain ⟨rfl, rfl, rfl⟩ := trodAll_nil r1
  obtain rfl : args = #[v0, v1] := by cases args; simp_all
  obtain ⟨rfl, rfl⟩ := trodVars_none hV
  have k0 := h0
  have lt0 : ∀ x ∈ p0, x.block < W.heap.size := by obtain ⟨m, hm⟩ := k0; exact DataW.trod_lt m _ _ _ hm
  obtain ⟨a0, c0, pl0, rfl, row0, hl0, hm0, z0⟩ := open_plant (hval 0 63 v0 rfl rfl) h0
  have k1 := h1
  have lt1 : ∀ x ∈ p1, x.block < W.heap.size := by obtain ⟨m, hm⟩ := k1; exact DataW.trod_lt m _ _ _ hm
  obtain ⟨a1, len1, cap1, rfl⟩ := okWide_slice Try.underlying67 (hval 1 67 v1 rfl rfl)
  obtain ⟨fuel1, hf1⟩ := h1
  obtain ⟨b1, c1, xs1, e1, hl1, hm1, row1, wf1, z1⟩ := open_typed (n := 4) (fun _ h => Deed.of_leaves h) Try.underlying67 (by kernel_rfl) (by kernel_rfl) (by decide) hf1
  simp [Value.cells] at e1
  obtain ⟨rfl, rfl, rfl⟩ := e1
  clear hA0 hval0
  refine (law_GasPlays pl0 xs1 a0 c0 _ _ W row0 hl0 hm0 z0 row1 hl1 hm1 z1 (fun d hd => wf_u8 (wf1 d hd).1)).mono fun e W' ⟨he, bel⟩ => ?_
  subst he
  exact ⟨_, rfl, _, _, _, [], _, [], hW', trodAll_mk1 (shut_bool Try.underlying4 _), (trodAll_cons_mk (Below.trod laidOut (by kernel_rfl) (of_decide_eq_true (by kernel_rfl)) k0 bel lt0) (trodAll_cons_mk (Below.trod laidOut (by kernel_rfl) (of_decide_eq_true (by kernel_rfl)) k1 bel lt1) trodAll_mk0)), rfl, bel.frame _, fun h => by cases h⟩

theorem joined : joinedFacts Try.prog 7 Try.f7 Rows.gasPlaysSpec Rows.gasPlaysRow = true := by
  unfold joinedFacts
  rw [mayEnter_is, liftsFinal_is, make_is]
  kernel_rfl
theorem over : Rows.gasPlaysRow.holds Try.pinned (OpenSpec.ofChange Rows.gasPlaysSpec) :=
  OpenClaim.holds_of_wide 7 Try.f7 rfl rfl rfl rfl rfl rfl rfl ⟨rfl, rfl, rfl, rfl, rfl⟩ rfl rfl rfl rfl rfl (by kernel_rfl) Try.func7 joined
    (of_decide_eq_true (by kernel_rfl)) (by unfold Func.isWrapper; first | (rw [if_pos (by decide +kernel)]; kernel_rfl) | (rw [if_neg (by decide +kernel)]; exact ⟨rfl, rfl⟩))
    (fun os started H enc _ => lifted os started H enc)
end Go.Proofs.Ytemafanncejeiaa.gasPlays

namespace Go.Proofs.Ytemafanncejeiaa
theorem gasPlays_holds : Rows.GasPlaysSaid := gasPlays.over
#print axioms gasPlays_holds
end Go.Proofs.Ytemafanncejeiaa
