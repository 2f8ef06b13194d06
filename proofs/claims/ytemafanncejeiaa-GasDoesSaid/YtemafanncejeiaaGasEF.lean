/-
  GasDoes: plants and acts are the same in the program and in the reference: for every input.
-/
import Derived.Test.YtemafanncejeiaaGasED
import Derived.Test.YtemafanncejeiaaGasEB
import Derived.Test.YtemafanncejeiaaGasDV
namespace Go.Proofs.Ytemafanncejeiaa
open Go.RowKit Bal Bal.Trim Bal.Gas
set_option linter.unusedVariables false
set_option linter.unusedSimpArgs false
set_option maxHeartbeats 8000000
set_option maxRecDepth 100000

theorem r_Great1 (p : Plant) (d : Deed) (v : Value) (a : Option Addr) (cap : Nat) (m : Nat) (w : World) (hv : v = .slice a p.cells.length cap) (hx : Blk w m #[.int .u8 d.kind, .int .i64 d.cell, .int .i64 d.to, .int .i64 d.n] 65) (hc : p.cells.length ≤ cap) (hM : cap ≤ maxLen) :
    Calls Try.prog 46 #[.agg #[v, .int .i64 p.bottles, .int .i64 p.inH, .int .i64 p.inA, .int .i64 p.vH, .int .i64 p.vA, .int .i64 p.lH, .int .i64 p.lA, .int .i64 p.pH, .int .i64 p.pA], .slice (some ⟨m, 0, none⟩) 1 1] w fun e w' => e = .returned (.bool (greatB p [d])) ∧ Kept w w' :=
  r_Great p [d] v a cap _ 1 w hv (Row.one hx rfl) hc hM (by simp) (by simp [maxLen])
theorem f_DoK {B n cp : Nat} {ad : Option Addr} {p : Plant} (d : Deed) {w : World} (h : Mine 25 B w (.slice ad n cp) p.cells) (hu : 0 ≤ d.kind ∧ d.kind ≤ 255) (Q : Plant) (E : Int) (hQ : Q = doQ p d) (hE : E = doE p d) :
    Calls Try.prog 48 #[.agg #[.slice ad n cp, .int .i64 p.bottles, .int .i64 p.inH, .int .i64 p.inA, .int .i64 p.vH, .int .i64 p.vA, .int .i64 p.lH, .int .i64 p.lA, .int .i64 p.pH, .int .i64 p.pA], .agg #[.int .u8 d.kind, .int .i64 d.cell, .int .i64 d.to, .int .i64 d.n]] w fun e w' => ∃ v, e = .returned (.tuple #[.agg #[v, .int .i64 Q.bottles, .int .i64 Q.inH, .int .i64 Q.inA, .int .i64 Q.vH, .int .i64 Q.vA, .int .i64 Q.lH, .int .i64 Q.lA, .int .i64 Q.pH, .int .i64 Q.pA], .int .i64 E]) ∧ Mine 25 w.heap.size w' v Q.cells ∧ Kept w w' := by
  obtain ⟨h1, h2, h3, h4, h5⟩ := h.row
  subst h1 hQ hE
  exact f_Do p d ad cp w h2 h3 h4 h5 hu
theorem r_DoK (p : Plant) (d : Deed) (a : Option Addr) (cap : Nat) (w : World) (hx : Row Cell.cells 7 w.heap.size w a p.cells) (hc : p.cells.length ≤ cap) (hM : cap ≤ maxLen) (hz : a = none → cap = 0) (Q : Plant) (E : Int) (hQ : Q = doQ p d) (hE : E = doE p d) :
    Calls Try.prog 49 #[.agg #[.slice a p.cells.length cap, .int .i64 p.bottles, .int .i64 p.inH, .int .i64 p.inA, .int .i64 p.vH, .int .i64 p.vA, .int .i64 p.lH, .int .i64 p.lA, .int .i64 p.pH, .int .i64 p.pA], .agg #[.int .u8 d.kind, .int .i64 d.cell, .int .i64 d.to, .int .i64 d.n]] w fun e w' => ∃ v, e = .returned (.tuple #[.agg #[v, .int .i64 Q.bottles, .int .i64 Q.inH, .int .i64 Q.inA, .int .i64 Q.vH, .int .i64 Q.vA, .int .i64 Q.lH, .int .i64 Q.lA, .int .i64 Q.pH, .int .i64 Q.pA], .int .i64 E]) ∧ Mine 25 w.heap.size w' v Q.cells ∧ Kept w w' := by
  subst hQ hE
  exact r_Do p d a cap w hx hc hM hz

theorem wf_u8 {n : Int} (h : (Lit.int .u8 n).wf = true) : 0 ≤ n ∧ n ≤ 255 := by
  simp only [Lit.wf, Bool.and_eq_true, decide_eq_true_eq] at h
  have e1 : IntKind.min .u8 = 0 := by decide
  have e2 : IntKind.max .u8 = 255 := by decide
  rw [e1, e2] at h
  exact h
theorem rowUp {C : Nat} {w w' : World} {ad : Option Addr} {xs : List Cell} (h : Row Cell.cells 7 C w ad xs) (hb : Kept w w') (hC : C ≤ w.heap.size) : Row Cell.cells 7 w'.heap.size w' ad xs :=
  (h.keep (hb.mono hC) (Nat.le_refl _)).up (Nat.le_trans hC hb.size)
def RoomRel (T : TypeId) (Q : Plant) (ad : Option Addr) (cp s C : Nat) (Z : World) (i : Value) (wr : World) : Prop :=
  ∃ (k : Nat) (xs : List Cell), k ≤ Q.cells.length ∧ i = .int .i64 k ∧ xs.length = Q.cells.length ∧ Blk wr s #[.slice ad Q.cells.length cp, .int .i64 Q.bottles, .int .i64 Q.inH, .int .i64 Q.inA, .int .i64 Q.vH, .int .i64 Q.vA, .int .i64 Q.lH, .int .i64 Q.lA, .int .i64 Q.pH, .int .i64 Q.pA] 63 ∧ Mine T C wr (.slice ad Q.cells.length cp) xs ∧ Below C Z wr
theorem law_GasDoes (p : Plant) (d : Deed) (a : Option Addr) (cap : Nat) (w : World) (hx : Row Cell.cells 7 w.heap.size w a p.cells) (hc : p.cells.length ≤ cap) (hM : cap ≤ maxLen) (hz : a = none → cap = 0) (hu : 0 ≤ d.kind ∧ d.kind ≤ 255) : Calls Try.prog 6 #[.agg #[.slice a p.cells.length cap, .int .i64 p.bottles, .int .i64 p.inH, .int .i64 p.inA, .int .i64 p.vH, .int .i64 p.vA, .int .i64 p.lH, .int .i64 p.lA, .int .i64 p.pH, .int .i64 p.pA], .agg #[.int .u8 d.kind, .int .i64 d.cell, .int .i64 d.to, .int .i64 d.n]] w fun e w' => e = .returned (.bool true) ∧ Kept w w' := by
  cases hg : greatB p [d]
  · have HG := Lib.hid hg
    have hn : p.cells.length ≤ 20 := by simp [greatB] at hg; omega
    clear hg
    obtain ⟨Q, hQ⟩ : ∃ Q, Q = doQ p d := ⟨_, rfl⟩
    obtain ⟨E, hE⟩ : ∃ E, E = doE p d := ⟨_, rfl⟩
    have HQ := Lib.hid hQ
    have HE := Lib.hid hE
    clear hQ hE
    go_enter Try.func6, Try.ntmps6
    go_upto_region 4 with (first | (go_at_call 46; (with_reducible refine (r_Great1 p d _ a cap _ _ rfl (by (exact blk)) hc hM).mono ?_); rw [HG.out]; rintro e w1 ⟨rfl, hb1⟩; refine Blk.thru (b := w.heap.size) (arr := ?_) (t := ?_) ?_ hb1 ?_; rotate_left 2; (focus (exact blk)); intro rr; have rrc0 := rr.cell 0; have rrf0 := rr.free 0; have rrc1 := rr.cell 1; have rrf1 := rr.free 1; have rrc2 := rr.cell 2; have rrf2 := rr.free 2; have rrc3 := rr.cell 3; have rrf3 := rr.free 3; have rrc4 := rr.cell 4; have rrf4 := rr.free 4; have rrc5 := rr.cell 5; have rrf5 := rr.free 5; have rrc6 := rr.cell 6; have rrf6 := rr.free 6; have rrc7 := rr.cell 7; have rrf7 := rr.free 7; have rrc8 := rr.cell 8; have rrf8 := rr.free 8; have rrc9 := rr.cell 9; have rrf9 := rr.free 9; have rrl := rr.lt; simp at rrc0 rrc1 rrc2 rrc3 rrc4 rrc5 rrc6 rrc7 rrc8 rrc9; refine Blk.thru (b := (w.heap.size + 1)) (arr := ?_) (t := ?_) ?_ hb1 ?_; rotate_left 2; (focus (exact blk)); intro rq; have rqc0 := rq.cell 0; have rqf0 := rq.free 0; have rqc1 := rq.cell 1; have rqf1 := rq.free 1; have rqc2 := rq.cell 2; have rqf2 := rq.free 2; have rqc3 := rq.cell 3; have rqf3 := rq.free 3; have rql := rq.lt; simp at rqc0 rqc1 rqc2 rqc3) | (go_at_call 47; (with_reducible refine (r_Twin p a cap _ (hx.later (by (exact kpt)) (Nat.le_refl _)) (by omega) hz).mono ?_); rintro e w2 ⟨ad, cp, rfl, hm1, hb2⟩))
    have hm2 := hm1.base (C := w.heap.size) (by have := hb1.size; simp at this; omega)
    have hsz := (show Blk w2 (w.heap.size + 1) #[.int .u8 d.kind, .int .i64 d.cell, .int .i64 d.to, .int .i64 d.n] 65 by (exact blk)).lt
    refine at_world (S := fun W => Blk W w.heap.size #[.slice a p.cells.length cap, .int .i64 p.bottles, .int .i64 p.inH, .int .i64 p.inA, .int .i64 p.vH, .int .i64 p.vA, .int .i64 p.lH, .int .i64 p.lA, .int .i64 p.pH, .int .i64 p.pA] 63 ∧ Blk W (w.heap.size + 1) #[.int .u8 d.kind, .int .i64 d.cell, .int .i64 d.to, .int .i64 d.n] 65 ∧ Blk W w2.heap.size #[.slice ad p.cells.length cp, .int .i64 p.bottles, .int .i64 p.inH, .int .i64 p.inA, .int .i64 p.vH, .int .i64 p.vA, .int .i64 p.lH, .int .i64 p.lA, .int .i64 p.pH, .int .i64 p.pA] 63 ∧ Mine 25 w.heap.size W (.slice ad p.cells.length cp) p.cells ∧ Kept w W ∧ w.heap.size + 1 < w2.heap.size) ⟨by (exact blkc), by (exact blkc), by (exact blkc), by exact (by have hnp := mine_past hm2 (Nat.le_refl _); (repeat (with_reducible refine Mine.off ?_ hnp _)); exact hm2.alloc _), by (exact kpt), hsz⟩ ?_
    clear hm2 hm1 hsz hb2 hb1 rrc0 rrf0 rrc1 rrf1 rrc2 rrf2 rrc3 rrf3 rrc4 rrf4 rrc5 rrf5 rrc6 rrf6 rrc7 rrf7 rrc8 rrf8 rrc9 rrf9 rrl rqc0 rqf0 rqc1 rqf1 rqc2 rqf2 rqc3 rqf3 rql
    rintro W ⟨b2, b3, b5, hm, hk, hs⟩
    generalize w2.heap.size = s at hs b5 ⊢
    have b2c0 := b2.cell 0
    have b2f0 := b2.free 0
    have b2c1 := b2.cell 1
    have b2f1 := b2.free 1
    have b2c2 := b2.cell 2
    have b2f2 := b2.free 2
    have b2c3 := b2.cell 3
    have b2f3 := b2.free 3
    have b2c4 := b2.cell 4
    have b2f4 := b2.free 4
    have b2c5 := b2.cell 5
    have b2f5 := b2.free 5
    have b2c6 := b2.cell 6
    have b2f6 := b2.free 6
    have b2c7 := b2.cell 7
    have b2f7 := b2.free 7
    have b2c8 := b2.cell 8
    have b2f8 := b2.free 8
    have b2c9 := b2.cell 9
    have b2f9 := b2.free 9
    have b2l := b2.lt
    simp at b2c0 b2c1 b2c2 b2c3 b2c4 b2c5 b2c6 b2c7 b2c8 b2c9
    have b3c0 := b3.cell 0
    have b3f0 := b3.free 0
    have b3c1 := b3.cell 1
    have b3f1 := b3.free 1
    have b3c2 := b3.cell 2
    have b3f2 := b3.free 2
    have b3c3 := b3.cell 3
    have b3f3 := b3.free 3
    have b3l := b3.lt
    simp at b3c0 b3c1 b3c2 b3c3
    have b5c0 := b5.cell 0
    have b5f0 := b5.free 0
    have b5c1 := b5.cell 1
    have b5f1 := b5.free 1
    have b5c2 := b5.cell 2
    have b5f2 := b5.free 2
    have b5c3 := b5.cell 3
    have b5f3 := b5.free 3
    have b5c4 := b5.cell 4
    have b5f4 := b5.free 4
    have b5c5 := b5.cell 5
    have b5f5 := b5.free 5
    have b5c6 := b5.cell 6
    have b5f6 := b5.free 6
    have b5c7 := b5.cell 7
    have b5f7 := b5.free 7
    have b5c8 := b5.cell 8
    have b5f8 := b5.free 8
    have b5c9 := b5.cell 9
    have b5f9 := b5.free 9
    have b5l := b5.lt
    simp at b5c0 b5c1 b5c2 b5c3 b5c4 b5c5 b5c6 b5c7 b5c8 b5c9
    go_upto_region 5 with (go_at_call 48; (with_reducible refine (f_DoK d hm hu Q E HQ.out HE.out).mono ?_); rintro e w3 ⟨v3, rfl, hm3, hb3⟩; obtain ⟨ad3, cp3, rfl, hl3, hc3, hz3⟩ := hm3.slice)
    clear b2c0 b2f0 b2c1 b2f1 b2c2 b2f2 b2c3 b2f3 b2c4 b2f4 b2c5 b2f5 b2c6 b2f6 b2c7 b2f7 b2c8 b2f8 b2c9 b2f9 b2l b3c0 b3f0 b3c1 b3f1 b3c2 b3f2 b3c3 b3f3 b3l b5c0 b5f0 b5c1 b5f1 b5c2 b5f2 b5c3 b5f3 b5c4 b5f4 b5c5 b5f5 b5c6 b5f6 b5c7 b5f7 b5c8 b5f8 b5c9 b5f9 b5l
    have hsC := b5.lt
    obtain ⟨_, hrow, hlo, hmo, _⟩ := hm.row
    have hC := hb3.size
    generalize hCC : W.heap.size = C at hsC hrow hm3 hC
    have hrow3 := hrow.keep (hCC ▸ hb3 : Below C W w3) (Nat.le_refl _)
    have hkC : w.heap.size ≤ C := by rw [← hCC]; exact hk.size
    refine at_world (S := fun X => Blk X w.heap.size #[.slice a p.cells.length cap, .int .i64 p.bottles, .int .i64 p.inH, .int .i64 p.inA, .int .i64 p.vH, .int .i64 p.vA, .int .i64 p.lH, .int .i64 p.lA, .int .i64 p.pH, .int .i64 p.pA] 63 ∧ Blk X (w.heap.size + 1) #[.int .u8 d.kind, .int .i64 d.cell, .int .i64 d.to, .int .i64 d.n] 65 ∧ Blk X s #[.slice ad p.cells.length cp, .int .i64 p.bottles, .int .i64 p.inH, .int .i64 p.inA, .int .i64 p.vH, .int .i64 p.vA, .int .i64 p.lH, .int .i64 p.lA, .int .i64 p.pH, .int .i64 p.pA] 63 ∧ Blk X w3.heap.size #[.slice ad3 Q.cells.length cp3, .int .i64 Q.bottles, .int .i64 Q.inH, .int .i64 Q.inA, .int .i64 Q.vH, .int .i64 Q.vA, .int .i64 Q.lH, .int .i64 Q.lA, .int .i64 Q.pH, .int .i64 Q.pA] 63 ∧ Row Cell.cells 7 C X ad p.cells ∧ Mine 25 C X (.slice ad3 Q.cells.length cp3) Q.cells ∧ Kept w X ∧ C ≤ w3.heap.size) ⟨by (exact blkc), by (exact blkc), by (exact blkc), by (exact blkc), (hrow3.keep (by exact (by have hnp : C ≤ w3.heap.size := hC; (repeat (refine Below.setCell ?_ hnp _)); exact (Below.refl _ _).alloc hnp _) : Below C w3 _) (Nat.le_refl _)), by exact (by have hnp := mine_past hm3 (Nat.le_refl _); (repeat (with_reducible refine Mine.off ?_ hnp _)); exact hm3.alloc _), by (exact kpt), hC⟩ ?_
    clear b2 b3 b5 hm hk hb3 hm3 hrow hrow3 hC
    rintro X ⟨b2, b3, b5, b6, hrow, hm6, hk, hC6⟩
    generalize w3.heap.size = s6 at hC6 b6 ⊢
    have b2c0 := b2.cell 0
    have b2f0 := b2.free 0
    have b2c1 := b2.cell 1
    have b2f1 := b2.free 1
    have b2c2 := b2.cell 2
    have b2f2 := b2.free 2
    have b2c3 := b2.cell 3
    have b2f3 := b2.free 3
    have b2c4 := b2.cell 4
    have b2f4 := b2.free 4
    have b2c5 := b2.cell 5
    have b2f5 := b2.free 5
    have b2c6 := b2.cell 6
    have b2f6 := b2.free 6
    have b2c7 := b2.cell 7
    have b2f7 := b2.free 7
    have b2c8 := b2.cell 8
    have b2f8 := b2.free 8
    have b2c9 := b2.cell 9
    have b2f9 := b2.free 9
    have b2l := b2.lt
    simp at b2c0 b2c1 b2c2 b2c3 b2c4 b2c5 b2c6 b2c7 b2c8 b2c9
    have b3c0 := b3.cell 0
    have b3f0 := b3.free 0
    have b3c1 := b3.cell 1
    have b3f1 := b3.free 1
    have b3c2 := b3.cell 2
    have b3f2 := b3.free 2
    have b3c3 := b3.cell 3
    have b3f3 := b3.free 3
    have b3l := b3.lt
    simp at b3c0 b3c1 b3c2 b3c3
    go_upto_region 6 with (go_at_call 49; (with_reducible refine (r_DoK p d a cap _ (hx.later hk (Nat.le_refl _)) hc hM hz Q E HQ.out HE.out).mono ?_); rintro e w4 ⟨v4, rfl, hm4, hb4⟩; obtain ⟨ad4, cp4, rfl, hl4, hc4, hz4⟩ := hm4.slice)
    clear b2c0 b2f0 b2c1 b2f1 b2c2 b2f2 b2c3 b2f3 b2c4 b2f4 b2c5 b2f5 b2c6 b2f6 b2c7 b2f7 b2c8 b2f8 b2c9 b2f9 b2l b3c0 b3f0 b3c1 b3f1 b3c2 b3f2 b3c3 b3f3 b3l
    have hCX : C ≤ X.heap.size := by have := b6.lt; omega
    have hC4 : C ≤ w4.heap.size := by have := hb4.size; omega
    have hrow4 := hrow.keep (hb4.mono hCX) (Nat.le_refl _)
    have hm6k := hm6.keep hb4
    have hm4k := hm4.base (C := w.heap.size) hk.size
    refine at_world (S := fun Y => Blk Y w.heap.size #[.slice a p.cells.length cap, .int .i64 p.bottles, .int .i64 p.inH, .int .i64 p.inA, .int .i64 p.vH, .int .i64 p.vA, .int .i64 p.lH, .int .i64 p.lA, .int .i64 p.pH, .int .i64 p.pA] 63 ∧ Blk Y s #[.slice ad p.cells.length cp, .int .i64 p.bottles, .int .i64 p.inH, .int .i64 p.inA, .int .i64 p.vH, .int .i64 p.vA, .int .i64 p.lH, .int .i64 p.lA, .int .i64 p.pH, .int .i64 p.pA] 63 ∧ Blk Y s6 #[.slice ad3 Q.cells.length cp3, .int .i64 Q.bottles, .int .i64 Q.inH, .int .i64 Q.inA, .int .i64 Q.vH, .int .i64 Q.vA, .int .i64 Q.lH, .int .i64 Q.lA, .int .i64 Q.pH, .int .i64 Q.pA] 63 ∧ Row Cell.cells 7 C Y ad p.cells ∧ Mine 25 C Y (.slice ad3 Q.cells.length cp3) Q.cells ∧ Kept w Y ∧ Blk Y w4.heap.size #[.slice ad4 Q.cells.length cp4, .int .i64 Q.bottles, .int .i64 Q.inH, .int .i64 Q.inA, .int .i64 Q.vH, .int .i64 Q.vA, .int .i64 Q.lH, .int .i64 Q.lA, .int .i64 Q.pH, .int .i64 Q.pA] 63 ∧ Mine 25 w.heap.size Y (.slice ad4 Q.cells.length cp4) Q.cells ∧ C ≤ Y.heap.size) ⟨by (exact blkc), by (exact blkc), by (exact blkc), (hrow4.keep (by exact (by have hnp : C ≤ w4.heap.size := hC4; (repeat (refine Below.setCell ?_ hnp _)); exact (Below.refl _ _).alloc hnp _) : Below C w4 _) (Nat.le_refl _)), by exact (by have hnp := mine_past hm6k (Nat.le_refl _); (repeat (with_reducible refine Mine.off ?_ hnp _)); exact hm6k.alloc _), by (exact kpt), by (exact blkc), by exact (by have hnp := mine_past hm4k (Nat.le_refl _); (repeat (with_reducible refine Mine.off ?_ hnp _)); exact hm4k.alloc _), by simp; omega⟩ ?_
    clear b2 b3 b5 b6 hrow hm6 hk hb4 hm4 hrow4 hm6k hm4k hC4 hCX
    rintro Y ⟨b2, b5, b6, hrow, hm6, hk, b8, hm8, hCY⟩
    generalize w4.heap.size = s8 at b8 ⊢
    have b2c0 := fun g : Later Y => (b2.later g).cell 0
    have b2f0 := fun g : Later Y => (b2.later g).free 0
    have b2c1 := fun g : Later Y => (b2.later g).cell 1
    have b2f1 := fun g : Later Y => (b2.later g).free 1
    have b2c2 := fun g : Later Y => (b2.later g).cell 2
    have b2f2 := fun g : Later Y => (b2.later g).free 2
    have b2c3 := fun g : Later Y => (b2.later g).cell 3
    have b2f3 := fun g : Later Y => (b2.later g).free 3
    have b2c4 := fun g : Later Y => (b2.later g).cell 4
    have b2f4 := fun g : Later Y => (b2.later g).free 4
    have b2c5 := fun g : Later Y => (b2.later g).cell 5
    have b2f5 := fun g : Later Y => (b2.later g).free 5
    have b2c6 := fun g : Later Y => (b2.later g).cell 6
    have b2f6 := fun g : Later Y => (b2.later g).free 6
    have b2c7 := fun g : Later Y => (b2.later g).cell 7
    have b2f7 := fun g : Later Y => (b2.later g).free 7
    have b2c8 := fun g : Later Y => (b2.later g).cell 8
    have b2f8 := fun g : Later Y => (b2.later g).free 8
    have b2c9 := fun g : Later Y => (b2.later g).cell 9
    have b2f9 := fun g : Later Y => (b2.later g).free 9
    have b2l := fun g : Later Y => (b2.later g).lt
    simp at b2c0 b2c1 b2c2 b2c3 b2c4 b2c5 b2c6 b2c7 b2c8 b2c9
    have b5c0 := fun g : Later Y => (b5.later g).cell 0
    have b5f0 := fun g : Later Y => (b5.later g).free 0
    have b5c1 := fun g : Later Y => (b5.later g).cell 1
    have b5f1 := fun g : Later Y => (b5.later g).free 1
    have b5c2 := fun g : Later Y => (b5.later g).cell 2
    have b5f2 := fun g : Later Y => (b5.later g).free 2
    have b5c3 := fun g : Later Y => (b5.later g).cell 3
    have b5f3 := fun g : Later Y => (b5.later g).free 3
    have b5c4 := fun g : Later Y => (b5.later g).cell 4
    have b5f4 := fun g : Later Y => (b5.later g).free 4
    have b5c5 := fun g : Later Y => (b5.later g).cell 5
    have b5f5 := fun g : Later Y => (b5.later g).free 5
    have b5c6 := fun g : Later Y => (b5.later g).cell 6
    have b5f6 := fun g : Later Y => (b5.later g).free 6
    have b5c7 := fun g : Later Y => (b5.later g).cell 7
    have b5f7 := fun g : Later Y => (b5.later g).free 7
    have b5c8 := fun g : Later Y => (b5.later g).cell 8
    have b5f8 := fun g : Later Y => (b5.later g).free 8
    have b5c9 := fun g : Later Y => (b5.later g).cell 9
    have b5f9 := fun g : Later Y => (b5.later g).free 9
    have b5l := fun g : Later Y => (b5.later g).lt
    simp at b5c0 b5c1 b5c2 b5c3 b5c4 b5c5 b5c6 b5c7 b5c8 b5c9
    have b6c0 := fun g : Later Y => (b6.later g).cell 0
    have b6f0 := fun g : Later Y => (b6.later g).free 0
    have b6c1 := fun g : Later Y => (b6.later g).cell 1
    have b6f1 := fun g : Later Y => (b6.later g).free 1
    have b6c2 := fun g : Later Y => (b6.later g).cell 2
    have b6f2 := fun g : Later Y => (b6.later g).free 2
    have b6c3 := fun g : Later Y => (b6.later g).cell 3
    have b6f3 := fun g : Later Y => (b6.later g).free 3
    have b6c4 := fun g : Later Y => (b6.later g).cell 4
    have b6f4 := fun g : Later Y => (b6.later g).free 4
    have b6c5 := fun g : Later Y => (b6.later g).cell 5
    have b6f5 := fun g : Later Y => (b6.later g).free 5
    have b6c6 := fun g : Later Y => (b6.later g).cell 6
    have b6f6 := fun g : Later Y => (b6.later g).free 6
    have b6c7 := fun g : Later Y => (b6.later g).cell 7
    have b6f7 := fun g : Later Y => (b6.later g).free 7
    have b6c8 := fun g : Later Y => (b6.later g).cell 8
    have b6f8 := fun g : Later Y => (b6.later g).free 8
    have b6c9 := fun g : Later Y => (b6.later g).cell 9
    have b6f9 := fun g : Later Y => (b6.later g).free 9
    have b6l := fun g : Later Y => (b6.later g).lt
    simp at b6c0 b6c1 b6c2 b6c3 b6c4 b6c5 b6c6 b6c7 b6c8 b6c9
    have b8c0 := fun g : Later Y => (b8.later g).cell 0
    have b8f0 := fun g : Later Y => (b8.later g).free 0
    have b8c1 := fun g : Later Y => (b8.later g).cell 1
    have b8f1 := fun g : Later Y => (b8.later g).free 1
    have b8c2 := fun g : Later Y => (b8.later g).cell 2
    have b8f2 := fun g : Later Y => (b8.later g).free 2
    have b8c3 := fun g : Later Y => (b8.later g).cell 3
    have b8f3 := fun g : Later Y => (b8.later g).free 3
    have b8c4 := fun g : Later Y => (b8.later g).cell 4
    have b8f4 := fun g : Later Y => (b8.later g).free 4
    have b8c5 := fun g : Later Y => (b8.later g).cell 5
    have b8f5 := fun g : Later Y => (b8.later g).free 5
    have b8c6 := fun g : Later Y => (b8.later g).cell 6
    have b8f6 := fun g : Later Y => (b8.later g).free 6
    have b8c7 := fun g : Later Y => (b8.later g).cell 7
    have b8f7 := fun g : Later Y => (b8.later g).free 7
    have b8c8 := fun g : Later Y => (b8.later g).cell 8
    have b8f8 := fun g : Later Y => (b8.later g).free 8
    have b8c9 := fun g : Later Y => (b8.later g).cell 9
    have b8f9 := fun g : Later Y => (b8.later g).free 9
    have b8l := fun g : Later Y => (b8.later g).lt
    simp at b8c0 b8c1 b8c2 b8c3 b8c4 b8c5 b8c6 b8c7 b8c8 b8c9
    refine Later.region (by kernel_rfl) (by kernel_rfl) ?_
    repeat (first | go_big_quiet_skip | (go_big_quiet_want; go_big_quiet_op; first | go_big_quiet_on | (apply Exists.intro; refine ⟨fun g_ => ?_, ?_⟩; (focus (first | (go_at_call 50; exact Later.call (f_Check p ad cp _ (rowUp hrow g_.ok hCY) hlo hmo)) | (go_at_call 51; exact Later.call (r_Check p a cap _ (hx.later (Kept.drop hk g_.ok) (Nat.le_refl _)) hc hM)) | (go_at_call 52; exact Later.call (r_SamePlantK (hm6.keep g_.ok) (hm8.keep g_.ok))))); go_big_quiet_on)))
    refine wpQuiet_nil ?_
    intro gg
    clear b2c0 b2f0 b2c1 b2f1 b2c2 b2f2 b2c3 b2f3 b2c4 b2f4 b2c5 b2f5 b2c6 b2f6 b2c7 b2f7 b2c8 b2f8 b2c9 b2f9 b2l b5c0 b5f0 b5c1 b5f1 b5c2 b5f2 b5c3 b5f3 b5c4 b5f4 b5c5 b5f5 b5c6 b5f6 b5c7 b5f7 b5c8 b5f8 b5c9 b5f9 b5l b6c0 b6f0 b6c1 b6f1 b6c2 b6f2 b6c3 b6f3 b6c4 b6f4 b6c5 b6f5 b6c6 b6f6 b6c7 b6f7 b6c8 b6f8 b6c9 b6f9 b6l b8c0 b8f0 b8c1 b8f1 b8c2 b8f2 b8c3 b8f3 b8c4 b8f4 b8c5 b8f5 b8c6 b8f6 b8c7 b8f7 b8c8 b8f8 b8c9 b8f9 b8l
    have n2 := b2.later gg
    have n5 := b5.later gg
    have n6 := b6.later gg
    have hrowg := hrow.keep (gg.ok.mono hCY) (Nat.le_refl _)
    have hm6g := hm6.keep gg.ok
    have hkg := Kept.drop hk gg.ok
    clear b2 b5 b6 b8 hrow hm6 hm8 hk
    obtain ⟨Z, hZ⟩ : ∃ Z : World, Z = gg.val := ⟨_, rfl⟩
    rw [← hZ] at n2 n5 n6 hrowg hm6g hkg ⊢
    clear hZ
    have n6c0 := n6.cell 0
    have n6f0 := n6.free 0
    have n6c1 := n6.cell 1
    have n6f1 := n6.free 1
    have n6c2 := n6.cell 2
    have n6f2 := n6.free 2
    have n6c3 := n6.cell 3
    have n6f3 := n6.free 3
    have n6c4 := n6.cell 4
    have n6f4 := n6.free 4
    have n6c5 := n6.cell 5
    have n6f5 := n6.free 5
    have n6c6 := n6.cell 6
    have n6f6 := n6.free 6
    have n6c7 := n6.cell 7
    have n6f7 := n6.free 7
    have n6c8 := n6.cell 8
    have n6f8 := n6.free 8
    have n6c9 := n6.cell 9
    have n6f9 := n6.free 9
    have n6l := n6.lt
    simp at n6c0 n6c1 n6c2 n6c3 n6c4 n6c5 n6c6 n6c7 n6c8 n6c9
    go_wp2
    clear n6c0 n6f0 n6c1 n6f1 n6c2 n6f2 n6c3 n6f3 n6c4 n6f4 n6c5 n6f5 n6c6 n6f6 n6c7 n6f7 n6c8 n6f8 n6c9 n6f9 n6l
    go_loopw [48] (fun i wr => RoomRel 25 Q ad3 cp3 s6 C Z i wr) (fun i _ => Q.cells.length - (intOf i).toNat)
    case atStart => exact ⟨0, Q.cells, Nat.zero_le _, rfl, rfl, n6, hm6g, Below.refl _ _⟩
    case round =>
      obtain ⟨k, xs, hk0, rfl, hxl, r6, hmr, hBr⟩ := hrel
      have hq63 : Q.cells.length ≤ 9223372036854775807 := by have := hc3; unfold maxLen at this; omega
      have r6c0 := r6.cell 0
      have r6f0 := r6.free 0
      have r6c1 := r6.cell 1
      have r6f1 := r6.free 1
      have r6c2 := r6.cell 2
      have r6f2 := r6.free 2
      have r6c3 := r6.cell 3
      have r6f3 := r6.free 3
      have r6c4 := r6.cell 4
      have r6f4 := r6.free 4
      have r6c5 := r6.cell 5
      have r6f5 := r6.free 5
      have r6c6 := r6.cell 6
      have r6f6 := r6.free 6
      have r6c7 := r6.cell 7
      have r6f7 := r6.free 7
      have r6c8 := r6.cell 8
      have r6f8 := r6.free 8
      have r6c9 := r6.cell 9
      have r6f9 := r6.free 9
      have r6l := r6.lt
      simp at r6c0 r6c1 r6c2 r6c3 r6c4 r6c5 r6c6 r6c7 r6c8 r6c9
      by_cases hlt : k < Q.cells.length
      · have hix : k < xs.length := by omega
        have HXL := Lib.hid hxl
        clear hxl
        obtain ⟨g, cur, hge, hBg, hcur, c0, c1, c2, c3, c4, c5, c6⟩ := hmr.at hix
        clear c1 c2 c3 c4 c5 c6
        have fr := hcur.free (k * 7)
        cases hge
        go_wp2
        go_round
        case rel =>
          exact ⟨k + 1, xs.set k { xs[k] with room := -7 }, by omega, by go_num, by simp [HXL.out], r6.other (fun he => by simp only at he; subst he; have := r6.symm.trans hcur; simp at this) _, hmr.put (j := 0) (c := xs[k]) { xs[k] with room := -7 } (by simp [hix]) (by decide) rfl, hBr.setCell hBg _⟩
        case measure => simp [intOf]; omega
      · obtain rfl : k = Q.cells.length := by omega
        have m2 := blk_below n2 hBr (by omega)
        have m5 := blk_below n5 hBr (by omega)
        have hrowE := hrowg.keep hBr (Nat.le_refl _)
        have hCZ : C ≤ wr.heap.size := by have := hBr.size; have := r6.lt; omega
        have hkE : Kept w wr := hkg.trans (hBr.mono hkC)
        clear r6c0 r6f0 r6c1 r6f1 r6c2 r6f2 r6c3 r6f3 r6c4 r6f4 r6c5 r6f5 r6c6 r6f6 r6c7 r6f7 r6c8 r6f8 r6c9 r6f9 r6l n2 n5
        have m2c0 := m2.cell 0
        have m2f0 := m2.free 0
        have m2c1 := m2.cell 1
        have m2f1 := m2.free 1
        have m2c2 := m2.cell 2
        have m2f2 := m2.free 2
        have m2c3 := m2.cell 3
        have m2f3 := m2.free 3
        have m2c4 := m2.cell 4
        have m2f4 := m2.free 4
        have m2c5 := m2.cell 5
        have m2f5 := m2.free 5
        have m2c6 := m2.cell 6
        have m2f6 := m2.free 6
        have m2c7 := m2.cell 7
        have m2f7 := m2.free 7
        have m2c8 := m2.cell 8
        have m2f8 := m2.free 8
        have m2c9 := m2.cell 9
        have m2f9 := m2.free 9
        have m2l := m2.lt
        simp at m2c0 m2c1 m2c2 m2c3 m2c4 m2c5 m2c6 m2c7 m2c8 m2c9
        have m5c0 := m5.cell 0
        have m5f0 := m5.free 0
        have m5c1 := m5.cell 1
        have m5f1 := m5.free 1
        have m5c2 := m5.cell 2
        have m5f2 := m5.free 2
        have m5c3 := m5.cell 3
        have m5f3 := m5.free 3
        have m5c4 := m5.cell 4
        have m5f4 := m5.free 4
        have m5c5 := m5.cell 5
        have m5f5 := m5.free 5
        have m5c6 := m5.cell 6
        have m5f6 := m5.free 6
        have m5c7 := m5.cell 7
        have m5f7 := m5.free 7
        have m5c8 := m5.cell 8
        have m5f8 := m5.free 8
        have m5c9 := m5.cell 9
        have m5f9 := m5.free 9
        have m5l := m5.lt
        simp at m5c0 m5c1 m5c2 m5c3 m5c4 m5c5 m5c6 m5c7 m5c8 m5c9
        go_wp2_with (go_at_call 52; (with_reducible refine (r_SamePlant ad a cp cap p _ (hrowE.up hCZ) (hx.later hkE (Nat.le_refl _)) hlo hc hmo hM).mono ?_); rintro e w9 ⟨rfl, hb9⟩)
        go_ret
        exact ⟨rfl, by (exact kpt)⟩
  · have HG := Lib.hid hg
    go_enter Try.func6, Try.ntmps6
    go_wp2_with (go_at_call 46; (with_reducible refine (r_Great1 p d _ a cap _ _ rfl (by (exact blk)) hc hM).mono ?_); rw [HG.out]; rintro e w1 ⟨rfl, hb1⟩; refine Blk.thru (b := w.heap.size) (arr := ?_) (t := ?_) ?_ hb1 ?_; rotate_left 2; (focus (exact blk)); intro rr; have rrc0 := rr.cell 0; have rrf0 := rr.free 0; have rrc1 := rr.cell 1; have rrf1 := rr.free 1; have rrc2 := rr.cell 2; have rrf2 := rr.free 2; have rrc3 := rr.cell 3; have rrf3 := rr.free 3; have rrc4 := rr.cell 4; have rrf4 := rr.free 4; have rrc5 := rr.cell 5; have rrf5 := rr.free 5; have rrc6 := rr.cell 6; have rrf6 := rr.free 6; have rrc7 := rr.cell 7; have rrf7 := rr.free 7; have rrc8 := rr.cell 8; have rrf8 := rr.free 8; have rrc9 := rr.cell 9; have rrf9 := rr.free 9; have rrl := rr.lt; simp at rrc0 rrc1 rrc2 rrc3 rrc4 rrc5 rrc6 rrc7 rrc8 rrc9; refine Blk.thru (b := (w.heap.size + 1)) (arr := ?_) (t := ?_) ?_ hb1 ?_; rotate_left 2; (focus (exact blk)); intro rq; have rqc0 := rq.cell 0; have rqf0 := rq.free 0; have rqc1 := rq.cell 1; have rqf1 := rq.free 1; have rqc2 := rq.cell 2; have rqf2 := rq.free 2; have rqc3 := rq.cell 3; have rqf3 := rq.free 3; have rql := rq.lt; simp at rqc0 rqc1 rqc2 rqc3)
    go_ret
    exact ⟨rfl, by (exact kpt)⟩

end Go.Proofs.Ytemafanncejeiaa
