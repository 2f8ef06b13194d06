/-
  Moving gas from a cell to another one.
-/
import Derived.Test.YtemafanncejeiaaGasDH
namespace Go.Proofs.Ytemafanncejeiaa
open Go.RowKit Bal Bal.Trim Bal.Gas
set_option linter.unusedVariables false
set_option linter.unusedSimpArgs false
set_option maxHeartbeats 4000000
set_option maxRecDepth 10000

theorem f_move_no1 {B s cp : Nat} {ad : Option Addr} {p : Plant} {w : World} (d : Deed) (h : Shop 25 174 B w s ad cp p) (hp : plantB p = true) (ha : argB p d = false) : Calls Try.prog 109 #[.pointer (some ⟨s, 0, none⟩), .agg #[.int .u8 d.kind, .int .i64 d.cell, .int .i64 d.to, .int .i64 d.n]] w fun e w' => e = .panicked [{ v := refusal 2, recovered := false }] ∧ Kept w w' := by
  have hn12 : p.cells.length ≤ 12 := (plantB_iff.1 hp).1
  have HA := Lib.hid ha
  obtain ⟨hB, hs, hm⟩ := h
  clear ha hp
  go_enter Try.func109, Try.ntmps109
  go_wp2_with (first | (go_at_call 135; (with_reducible refine (f_cell_no s ad cp p d _ (hs.keep (by (exact kpt))) hn12 HA.out).mono ?_); rintro e w1 ⟨rfl, hb1⟩))
  exact ⟨rfl, rfl, by (exact kpt)⟩
theorem f_move_no2 {B s cp : Nat} {ad : Option Addr} {p : Plant} {w : World} (d : Deed) (h : Shop 25 174 B w s ad cp p) (hp : plantB p = true) (ha : argB p d = true) (ht : rng [d.to] 0 (p.cells.length - 1) = false) : Calls Try.prog 109 #[.pointer (some ⟨s, 0, none⟩), .agg #[.int .u8 d.kind, .int .i64 d.cell, .int .i64 d.to, .int .i64 d.n]] w fun e w' => e = .panicked [{ v := refusal 2, recovered := false }] ∧ Kept w w' := by
  have hn12 : p.cells.length ≤ 12 := (plantB_iff.1 hp).1
  have hb := plantB_iff.1 hp
  have hi : d.cell.toNat < p.cells.length := by
    have h1 : rng [d.cell] 0 (p.cells.length - 1) = true := by unfold argB at ha; simp only [Bool.and_eq_true] at ha; exact ha.1
    have : 0 ≤ d.cell ∧ d.cell ≤ p.cells.length - 1 := by simpa [rng, inB] using h1
    omega
  have hn : 1 ≤ d.n ∧ d.n ≤ 10000000 := by
    have h1 : rng [d.n] 1 10000000 = true := by unfold argB at ha; simp only [Bool.and_eq_true] at ha; exact ha.2
    simpa [rng, inB] using h1
  have hcv : cellB p.cells[d.cell.toNat] = true := hb.2.2.2.2.2.2.1 _ (List.getElem_mem hi)
  have hat : at_ p d = p.cells[d.cell.toNat] := cellAt_get hi
  have HA := Lib.hid ha
  obtain ⟨hB, hs, hm⟩ := h
  have hBw : B ≤ w.heap.size := by have := hs.lt; omega
  obtain ⟨g, _, rfl, hBg, hbg, _⟩ := hm.at hi
  have hgl := hbg.lt
  clear hbg
  obtain ⟨x, hx⟩ : ∃ x, x = p.cells[d.cell.toNat] := ⟨_, rfl⟩
  have HX := Lib.hid (show p.cells[d.cell.toNat]? = some x by rw [hx]; simp [hi])
  rw [← hx] at hcv hat
  have hxb := cellB_iff.1 hcv
  have HAT := Lib.hid hat
  have HXX := Lib.hid hx
  clear ha hat hx
  have HT := Lib.hid ht
  clear hp hb ht
  have hwl := i64_inx (n := (p.cells.length : Int) - 1) (by omega)
  go_enter Try.func109, Try.ntmps109
  go_upto_region 2 with (first | (go_at_call 135; (with_reducible refine (f_cell_ok s g cp p d _ (hs.keep (by (exact kpt))) hn12 HA.out).mono ?_); rintro e w1 ⟨rfl, hb1⟩; refine Blk.thru (b := w.heap.size) (arr := ?_) (t := ?_) ?_ hb1 ?_; rotate_left 2; (focus (exact blk)); intro rr; have rrc0 := rr.cell 0; have rrf0 := rr.free 0; have rrc1 := rr.cell 1; have rrf1 := rr.free 1; have rrc2 := rr.cell 2; have rrf2 := rr.free 2; have rrc3 := rr.cell 3; have rrf3 := rr.free 3; have rrl := rr.lt; simp at rrc0 rrc1 rrc2 rrc3; obtain ⟨hc1, hf1, hl1⟩ := bcell3 hb1))
  refine at_world (S := fun W => Blk W w.heap.size #[.int .u8 d.kind, .int .i64 d.cell, .int .i64 d.to, .int .i64 d.n] 65 ∧ Blk W s #[.slice (some ⟨g, 0, none⟩) p.cells.length cp, .int .i64 (p.bottles), .int .i64 (p.inH), .int .i64 (p.inA), .int .i64 (p.vH), .int .i64 (p.vA), .int .i64 (p.lH), .int .i64 (p.lA), .int .i64 (p.pH), .int .i64 (p.pA)] 174 ∧ Mine 25 B W (.slice (some ⟨g, 0, none⟩) p.cells.length cp) p.cells ∧ Kept w W) ⟨by (exact blkc), hs.keep (by (exact kpt)), hm.keep (by (exact kpt)), by (exact kpt)⟩ ?_
  rintro W ⟨r0, hsW, hmW, hk⟩
  clear hc1 hf1 hl1
  refine held_walk (fun w' => Blk w' s #[.slice (some ⟨g, 0, none⟩) p.cells.length cp, .int .i64 (p.bottles), .int .i64 (p.inH), .int .i64 (p.inA), .int .i64 (p.vH), .int .i64 (p.vA), .int .i64 (p.lH), .int .i64 (p.lA), .int .i64 (p.pH), .int .i64 (p.pA)] 174 ∧ Blk w' w.heap.size #[.int .u8 d.kind, .int .i64 d.cell, .int .i64 d.to, .int .i64 d.n] 65) [(true, 0), (true, 1), (true, 2), (true, 3), (true, 4), (true, 5), (true, 6), (true, 7), (true, 8), (false, 9), (false, 10), (true, 11), (true, 12), (true, 13), (true, 14), (true, 15), (true, 16), (true, 17), (false, 18)] 18 (by kernel_rfl) (by kernel_rfl) (fun c a d v w h => by cases d <;> exact h) ⟨hsW.drew, r0.drew⟩ ?_
  simp only [List.filterMap_cons, List.filterMap_nil, List.getElem?_cons_zero, List.getElem?_cons_succ, Option.map_some]
  iterate 9 ((first | (refine held_take ?_ ?_ (fun w' hS => ?_) ?_; rotate_left 1; (focus rfl); (focus (first | (go_simp; done) | (go_simp; with_reducible rfl) | (obtain ⟨S1, S2⟩ := hS; have k0 := S1.cell 0; have k1 := S1.cell 1; have k2 := S1.cell 2; have k3 := S1.cell 3; have k4 := S1.cell 4; have k5 := S1.cell 5; have k6 := S1.cell 6; have k7 := S1.cell 7; have k8 := S1.cell 8; have k9 := S1.cell 9; have j0 := S2.cell 0; have j1 := S2.cell 1; have j2 := S2.cell 2; have j3 := S2.cell 3; simp at k0 k1 k2 k3 k4 k5 k6 k7 k8 k9 j0 j1 j2 j3; first | (go_simp; done) | (go_simp; with_reducible rfl))))) | (refine held_pass ?_ ?_; (focus rfl))); simp only [Act.put, List.setIfInBounds_toArray, List.set_cons_zero, List.set_cons_succ])
  refine held_one ?_
  refine wpList_plain rfl fun K1 hK1 => ?_
  go_wp2
  refine held_on ⟨by (repeat (first | with_reducible assumption | with_reducible refine Blk.drew ?_ | with_reducible refine Blk.alloc ?_ _ | (with_reducible refine Besides.blk hbes2 (by decide) ?_) | with_reducible refine Blk.keep ?_ (by with_reducible assumption))), by (repeat (first | with_reducible assumption | with_reducible refine Blk.drew ?_ | with_reducible refine Blk.alloc ?_ _ | (with_reducible refine Besides.blk hbes2 (by decide) ?_) | with_reducible refine Blk.keep ?_ (by with_reducible assumption)))⟩ ?_
  refine held_one ?_
  refine wpList_plain rfl fun K1 hK1 => ?_
  go_wp2_with (go_at_call 91; (with_reducible refine (f_ranged1B _ _ d.to _ _ ?_).mono ?_); (focus ((repeat with_reducible refine Blk.drew ?_); exact Blk.new' (by first | rfl | (simp; done)))); rw [HT.out]; rintro e w1 ⟨rfl, rfl⟩)
  refine held_on ⟨by (repeat (first | with_reducible assumption | with_reducible refine Blk.drew ?_ | with_reducible refine Blk.alloc ?_ _ | (with_reducible refine Besides.blk hbes2 (by decide) ?_) | with_reducible refine Blk.keep ?_ (by with_reducible assumption))), by (repeat (first | with_reducible assumption | with_reducible refine Blk.drew ?_ | with_reducible refine Blk.alloc ?_ _ | (with_reducible refine Besides.blk hbes2 (by decide) ?_) | with_reducible refine Blk.keep ?_ (by with_reducible assumption)))⟩ ?_
  iterate 7 ((first | (refine held_take ?_ ?_ (fun w' hS => ?_) ?_; rotate_left 1; (focus rfl); (focus (first | (go_simp; done) | (go_simp; with_reducible rfl) | (obtain ⟨S1, S2⟩ := hS; have k0 := S1.cell 0; have k1 := S1.cell 1; have k2 := S1.cell 2; have k3 := S1.cell 3; have k4 := S1.cell 4; have k5 := S1.cell 5; have k6 := S1.cell 6; have k7 := S1.cell 7; have k8 := S1.cell 8; have k9 := S1.cell 9; have j0 := S2.cell 0; have j1 := S2.cell 1; have j2 := S2.cell 2; have j3 := S2.cell 3; simp at k0 k1 k2 k3 k4 k5 k6 k7 k8 k9 j0 j1 j2 j3; first | (go_simp; done) | (go_simp; with_reducible rfl))))) | (refine held_pass ?_ ?_; (focus rfl))); simp only [Act.put, List.setIfInBounds_toArray, List.set_cons_zero, List.set_cons_succ])
  refine held_one ?_
  refine wpList_plain rfl fun K1 hK1 => ?_
  go_wp2_with (first | (go_at_call 113; (with_reducible refine (f_need_no _ _).mono ?_); rintro e w1 ⟨rfl, rfl⟩))
  (first | refine onward_panic ?_ | skip)
  exact ⟨rfl, rfl, by (exact kpt)⟩
theorem f_move_no3 {B s cp : Nat} {ad : Option Addr} {p : Plant} {w : World} (d : Deed) (h : Shop 25 174 B w s ad cp p) (hp : plantB p = true) (ha : argB p d = true) (ht : rng [d.to] 0 (p.cells.length - 1) = true) (he : d.to = d.cell) : Calls Try.prog 109 #[.pointer (some ⟨s, 0, none⟩), .agg #[.int .u8 d.kind, .int .i64 d.cell, .int .i64 d.to, .int .i64 d.n]] w fun e w' => e = .panicked [{ v := refusal 2, recovered := false }] ∧ Kept w w' := by
  have hn12 : p.cells.length ≤ 12 := (plantB_iff.1 hp).1
  have hb := plantB_iff.1 hp
  have hi : d.cell.toNat < p.cells.length := by
    have h1 : rng [d.cell] 0 (p.cells.length - 1) = true := by unfold argB at ha; simp only [Bool.and_eq_true] at ha; exact ha.1
    have : 0 ≤ d.cell ∧ d.cell ≤ p.cells.length - 1 := by simpa [rng, inB] using h1
    omega
  have hn : 1 ≤ d.n ∧ d.n ≤ 10000000 := by
    have h1 : rng [d.n] 1 10000000 = true := by unfold argB at ha; simp only [Bool.and_eq_true] at ha; exact ha.2
    simpa [rng, inB] using h1
  have hcv : cellB p.cells[d.cell.toNat] = true := hb.2.2.2.2.2.2.1 _ (List.getElem_mem hi)
  have hat : at_ p d = p.cells[d.cell.toNat] := cellAt_get hi
  have HA := Lib.hid ha
  obtain ⟨hB, hs, hm⟩ := h
  have hBw : B ≤ w.heap.size := by have := hs.lt; omega
  obtain ⟨g, _, rfl, hBg, hbg, _⟩ := hm.at hi
  have hgl := hbg.lt
  clear hbg
  obtain ⟨x, hx⟩ : ∃ x, x = p.cells[d.cell.toNat] := ⟨_, rfl⟩
  have HX := Lib.hid (show p.cells[d.cell.toNat]? = some x by rw [hx]; simp [hi])
  rw [← hx] at hcv hat
  have hxb := cellB_iff.1 hcv
  have HAT := Lib.hid hat
  have HXX := Lib.hid hx
  clear ha hat hx
  have hto : 0 ≤ d.to ∧ d.to ≤ p.cells.length - 1 := by simpa [rng, inB] using ht
  have HT := Lib.hid ht
  have hne : (d.to == d.cell) = true := by simp [he]
  have hne' : (d.to != d.cell) = false := by simp [he]
  have hne'' : decide (d.to = d.cell) = true := by simp [he]
  clear hp hb ht he
  have hwl := i64_inx (n := (p.cells.length : Int) - 1) (by omega)
  go_enter Try.func109, Try.ntmps109
  go_upto_region 2 with (first | (go_at_call 135; (with_reducible refine (f_cell_ok s g cp p d _ (hs.keep (by (exact kpt))) hn12 HA.out).mono ?_); rintro e w1 ⟨rfl, hb1⟩; refine Blk.thru (b := w.heap.size) (arr := ?_) (t := ?_) ?_ hb1 ?_; rotate_left 2; (focus (exact blk)); intro rr; have rrc0 := rr.cell 0; have rrf0 := rr.free 0; have rrc1 := rr.cell 1; have rrf1 := rr.free 1; have rrc2 := rr.cell 2; have rrf2 := rr.free 2; have rrc3 := rr.cell 3; have rrf3 := rr.free 3; have rrl := rr.lt; simp at rrc0 rrc1 rrc2 rrc3; obtain ⟨hc1, hf1, hl1⟩ := bcell3 hb1))
  refine at_world (S := fun W => Blk W w.heap.size #[.int .u8 d.kind, .int .i64 d.cell, .int .i64 d.to, .int .i64 d.n] 65 ∧ Blk W s #[.slice (some ⟨g, 0, none⟩) p.cells.length cp, .int .i64 (p.bottles), .int .i64 (p.inH), .int .i64 (p.inA), .int .i64 (p.vH), .int .i64 (p.vA), .int .i64 (p.lH), .int .i64 (p.lA), .int .i64 (p.pH), .int .i64 (p.pA)] 174 ∧ Mine 25 B W (.slice (some ⟨g, 0, none⟩) p.cells.length cp) p.cells ∧ Kept w W) ⟨by (exact blkc), hs.keep (by (exact kpt)), hm.keep (by (exact kpt)), by (exact kpt)⟩ ?_
  rintro W ⟨r0, hsW, hmW, hk⟩
  clear hc1 hf1 hl1
  refine held_walk (fun w' => Blk w' s #[.slice (some ⟨g, 0, none⟩) p.cells.length cp, .int .i64 (p.bottles), .int .i64 (p.inH), .int .i64 (p.inA), .int .i64 (p.vH), .int .i64 (p.vA), .int .i64 (p.lH), .int .i64 (p.lA), .int .i64 (p.pH), .int .i64 (p.pA)] 174 ∧ Blk w' w.heap.size #[.int .u8 d.kind, .int .i64 d.cell, .int .i64 d.to, .int .i64 d.n] 65) [(true, 0), (true, 1), (true, 2), (true, 3), (true, 4), (true, 5), (true, 6), (true, 7), (true, 8), (false, 9), (false, 10), (true, 11), (true, 12), (true, 13), (true, 14), (true, 15), (true, 16), (true, 17), (false, 18)] 18 (by kernel_rfl) (by kernel_rfl) (fun c a d v w h => by cases d <;> exact h) ⟨hsW.drew, r0.drew⟩ ?_
  simp only [List.filterMap_cons, List.filterMap_nil, List.getElem?_cons_zero, List.getElem?_cons_succ, Option.map_some]
  iterate 9 ((first | (refine held_take ?_ ?_ (fun w' hS => ?_) ?_; rotate_left 1; (focus rfl); (focus (first | (go_simp; done) | (go_simp; with_reducible rfl) | (obtain ⟨S1, S2⟩ := hS; have k0 := S1.cell 0; have k1 := S1.cell 1; have k2 := S1.cell 2; have k3 := S1.cell 3; have k4 := S1.cell 4; have k5 := S1.cell 5; have k6 := S1.cell 6; have k7 := S1.cell 7; have k8 := S1.cell 8; have k9 := S1.cell 9; have j0 := S2.cell 0; have j1 := S2.cell 1; have j2 := S2.cell 2; have j3 := S2.cell 3; simp at k0 k1 k2 k3 k4 k5 k6 k7 k8 k9 j0 j1 j2 j3; first | (go_simp; done) | (go_simp; with_reducible rfl))))) | (refine held_pass ?_ ?_; (focus rfl))); simp only [Act.put, List.setIfInBounds_toArray, List.set_cons_zero, List.set_cons_succ])
  refine held_one ?_
  refine wpList_plain rfl fun K1 hK1 => ?_
  go_wp2
  refine held_on ⟨by (repeat (first | with_reducible assumption | with_reducible refine Blk.drew ?_ | with_reducible refine Blk.alloc ?_ _ | (with_reducible refine Besides.blk hbes2 (by decide) ?_) | with_reducible refine Blk.keep ?_ (by with_reducible assumption))), by (repeat (first | with_reducible assumption | with_reducible refine Blk.drew ?_ | with_reducible refine Blk.alloc ?_ _ | (with_reducible refine Besides.blk hbes2 (by decide) ?_) | with_reducible refine Blk.keep ?_ (by with_reducible assumption)))⟩ ?_
  refine held_one ?_
  refine wpList_plain rfl fun K1 hK1 => ?_
  go_wp2_with (go_at_call 91; (with_reducible refine (f_ranged1B _ _ d.to _ _ ?_).mono ?_); (focus ((repeat with_reducible refine Blk.drew ?_); exact Blk.new' (by first | rfl | (simp; done)))); rw [HT.out]; rintro e w1 ⟨rfl, rfl⟩)
  refine held_on ⟨by (repeat (first | with_reducible assumption | with_reducible refine Blk.drew ?_ | with_reducible refine Blk.alloc ?_ _ | (with_reducible refine Besides.blk hbes2 (by decide) ?_) | with_reducible refine Blk.keep ?_ (by with_reducible assumption))), by (repeat (first | with_reducible assumption | with_reducible refine Blk.drew ?_ | with_reducible refine Blk.alloc ?_ _ | (with_reducible refine Besides.blk hbes2 (by decide) ?_) | with_reducible refine Blk.keep ?_ (by with_reducible assumption)))⟩ ?_
  iterate 7 ((first | (refine held_take ?_ ?_ (fun w' hS => ?_) ?_; rotate_left 1; (focus rfl); (focus (first | (go_simp; done) | (go_simp; with_reducible rfl) | (obtain ⟨S1, S2⟩ := hS; have k0 := S1.cell 0; have k1 := S1.cell 1; have k2 := S1.cell 2; have k3 := S1.cell 3; have k4 := S1.cell 4; have k5 := S1.cell 5; have k6 := S1.cell 6; have k7 := S1.cell 7; have k8 := S1.cell 8; have k9 := S1.cell 9; have j0 := S2.cell 0; have j1 := S2.cell 1; have j2 := S2.cell 2; have j3 := S2.cell 3; simp at k0 k1 k2 k3 k4 k5 k6 k7 k8 k9 j0 j1 j2 j3; first | (go_simp; done) | (go_simp; with_reducible rfl))))) | (refine held_pass ?_ ?_; (focus rfl))); simp only [Act.put, List.setIfInBounds_toArray, List.set_cons_zero, List.set_cons_succ])
  refine held_one ?_
  refine wpList_plain rfl fun K1 hK1 => ?_
  go_wp2_with (first | (go_at_call 113; (with_reducible refine (f_need_no _ _).mono ?_); rintro e w1 ⟨rfl, rfl⟩))
  (first | refine onward_panic ?_ | skip)
  exact ⟨rfl, rfl, by (exact kpt)⟩

theorem f_move_no4 {B s cp : Nat} {ad : Option Addr} {p : Plant} {w : World} (d : Deed) (h : Shop 25 174 B w s ad cp p) (hp : plantB p = true) (ha : argB p d = true) (ht : rng [d.to] 0 (p.cells.length - 1) = true) (he : d.to ≠ d.cell) (hl : amount (at_ p d) < d.n) : Calls Try.prog 109 #[.pointer (some ⟨s, 0, none⟩), .agg #[.int .u8 d.kind, .int .i64 d.cell, .int .i64 d.to, .int .i64 d.n]] w fun e w' => e = .panicked [{ v := refusal 6, recovered := false }] ∧ Kept w w' := by
  have hn12 : p.cells.length ≤ 12 := (plantB_iff.1 hp).1
  have hb := plantB_iff.1 hp
  have hi : d.cell.toNat < p.cells.length := by
    have h1 : rng [d.cell] 0 (p.cells.length - 1) = true := by unfold argB at ha; simp only [Bool.and_eq_true] at ha; exact ha.1
    have : 0 ≤ d.cell ∧ d.cell ≤ p.cells.length - 1 := by simpa [rng, inB] using h1
    omega
  have hn : 1 ≤ d.n ∧ d.n ≤ 10000000 := by
    have h1 : rng [d.n] 1 10000000 = true := by unfold argB at ha; simp only [Bool.and_eq_true] at ha; exact ha.2
    simpa [rng, inB] using h1
  have hcv : cellB p.cells[d.cell.toNat] = true := hb.2.2.2.2.2.2.1 _ (List.getElem_mem hi)
  have hat : at_ p d = p.cells[d.cell.toNat] := cellAt_get hi
  have HA := Lib.hid ha
  obtain ⟨hB, hs, hm⟩ := h
  have hBw : B ≤ w.heap.size := by have := hs.lt; omega
  obtain ⟨g, _, rfl, hBg, hbg, _⟩ := hm.at hi
  have hgl := hbg.lt
  clear hbg
  obtain ⟨x, hx⟩ : ∃ x, x = p.cells[d.cell.toNat] := ⟨_, rfl⟩
  have HX := Lib.hid (show p.cells[d.cell.toNat]? = some x by rw [hx]; simp [hi])
  rw [← hx] at hcv hat
  have hxb := cellB_iff.1 hcv
  have HAT := Lib.hid hat
  have HXX := Lib.hid hx
  clear ha hat hx
  have hto : 0 ≤ d.to ∧ d.to ≤ p.cells.length - 1 := by simpa [rng, inB] using ht
  have HT := Lib.hid ht
  have hlt : x.helium + x.air < d.n := by rw [HAT.out] at hl; exact hl
  have HOK := Lib.hid (okC_of hcv)
  clear hp hb hl
  have hne0 : (d.to == d.cell) = false := by simp [he]
  have hne' : (d.to != d.cell) = true := by simp [he]
  have hne'' : decide (d.to = d.cell) = false := by simp [he]
  clear ht he
  have hwl := i64_inx (n := (p.cells.length : Int) - 1) (by omega)
  go_enter Try.func109, Try.ntmps109
  go_upto_region 2 with (first | (go_at_call 135; (with_reducible refine (f_cell_ok s g cp p d _ (hs.keep (by (exact kpt))) hn12 HA.out).mono ?_); rintro e w1 ⟨rfl, hb1⟩; refine Blk.thru (b := w.heap.size) (arr := ?_) (t := ?_) ?_ hb1 ?_; rotate_left 2; (focus (exact blk)); intro rr; have rrc0 := rr.cell 0; have rrf0 := rr.free 0; have rrc1 := rr.cell 1; have rrf1 := rr.free 1; have rrc2 := rr.cell 2; have rrf2 := rr.free 2; have rrc3 := rr.cell 3; have rrf3 := rr.free 3; have rrl := rr.lt; simp at rrc0 rrc1 rrc2 rrc3; obtain ⟨hc1, hf1, hl1⟩ := bcell3 hb1))
  refine at_world (S := fun W => Blk W w.heap.size #[.int .u8 d.kind, .int .i64 d.cell, .int .i64 d.to, .int .i64 d.n] 65 ∧ Blk W s #[.slice (some ⟨g, 0, none⟩) p.cells.length cp, .int .i64 (p.bottles), .int .i64 (p.inH), .int .i64 (p.inA), .int .i64 (p.vH), .int .i64 (p.vA), .int .i64 (p.lH), .int .i64 (p.lA), .int .i64 (p.pH), .int .i64 (p.pA)] 174 ∧ Mine 25 B W (.slice (some ⟨g, 0, none⟩) p.cells.length cp) p.cells ∧ Kept w W) ⟨by (exact blkc), hs.keep (by (exact kpt)), hm.keep (by (exact kpt)), by (exact kpt)⟩ ?_
  rintro W ⟨r0, hsW, hmW, hk⟩
  clear hc1 hf1 hl1
  refine held_walk (fun w' => Blk w' s #[.slice (some ⟨g, 0, none⟩) p.cells.length cp, .int .i64 (p.bottles), .int .i64 (p.inH), .int .i64 (p.inA), .int .i64 (p.vH), .int .i64 (p.vA), .int .i64 (p.lH), .int .i64 (p.lA), .int .i64 (p.pH), .int .i64 (p.pA)] 174 ∧ Blk w' w.heap.size #[.int .u8 d.kind, .int .i64 d.cell, .int .i64 d.to, .int .i64 d.n] 65) [(true, 0), (true, 1), (true, 2), (true, 3), (true, 4), (true, 5), (true, 6), (true, 7), (true, 8), (false, 9), (false, 10), (true, 11), (true, 12), (true, 13), (true, 14), (true, 15), (true, 16), (true, 17), (false, 18)] 18 (by kernel_rfl) (by kernel_rfl) (fun c a d v w h => by cases d <;> exact h) ⟨hsW.drew, r0.drew⟩ ?_
  simp only [List.filterMap_cons, List.filterMap_nil, List.getElem?_cons_zero, List.getElem?_cons_succ, Option.map_some]
  iterate 9 ((first | (refine held_take ?_ ?_ (fun w' hS => ?_) ?_; rotate_left 1; (focus rfl); (focus (first | (go_simp; done) | (go_simp; with_reducible rfl) | (obtain ⟨S1, S2⟩ := hS; have k0 := S1.cell 0; have k1 := S1.cell 1; have k2 := S1.cell 2; have k3 := S1.cell 3; have k4 := S1.cell 4; have k5 := S1.cell 5; have k6 := S1.cell 6; have k7 := S1.cell 7; have k8 := S1.cell 8; have k9 := S1.cell 9; have j0 := S2.cell 0; have j1 := S2.cell 1; have j2 := S2.cell 2; have j3 := S2.cell 3; simp at k0 k1 k2 k3 k4 k5 k6 k7 k8 k9 j0 j1 j2 j3; first | (go_simp; done) | (go_simp; with_reducible rfl))))) | (refine held_pass ?_ ?_; (focus rfl))); simp only [Act.put, List.setIfInBounds_toArray, List.set_cons_zero, List.set_cons_succ])
  refine held_one ?_
  refine wpList_plain rfl fun K1 hK1 => ?_
  go_wp2
  refine held_on ⟨by (repeat (first | with_reducible assumption | with_reducible refine Blk.drew ?_ | with_reducible refine Blk.alloc ?_ _ | (with_reducible refine Besides.blk hbes2 (by decide) ?_) | with_reducible refine Blk.keep ?_ (by with_reducible assumption))), by (repeat (first | with_reducible assumption | with_reducible refine Blk.drew ?_ | with_reducible refine Blk.alloc ?_ _ | (with_reducible refine Besides.blk hbes2 (by decide) ?_) | with_reducible refine Blk.keep ?_ (by with_reducible assumption)))⟩ ?_
  refine held_one ?_
  refine wpList_plain rfl fun K1 hK1 => ?_
  go_wp2_with (go_at_call 91; (with_reducible refine (f_ranged1B _ _ d.to _ _ ?_).mono ?_); (focus ((repeat with_reducible refine Blk.drew ?_); exact Blk.new' (by first | rfl | (simp; done)))); rw [HT.out]; rintro e w1 ⟨rfl, rfl⟩)
  refine held_on ⟨by (repeat (first | with_reducible assumption | with_reducible refine Blk.drew ?_ | with_reducible refine Blk.alloc ?_ _ | (with_reducible refine Besides.blk hbes2 (by decide) ?_) | with_reducible refine Blk.keep ?_ (by with_reducible assumption))), by (repeat (first | with_reducible assumption | with_reducible refine Blk.drew ?_ | with_reducible refine Blk.alloc ?_ _ | (with_reducible refine Besides.blk hbes2 (by decide) ?_) | with_reducible refine Blk.keep ?_ (by with_reducible assumption)))⟩ ?_
  iterate 7 ((first | (refine held_take ?_ ?_ (fun w' hS => ?_) ?_; rotate_left 1; (focus rfl); (focus (first | (go_simp; done) | (go_simp; with_reducible rfl) | (obtain ⟨S1, S2⟩ := hS; have k0 := S1.cell 0; have k1 := S1.cell 1; have k2 := S1.cell 2; have k3 := S1.cell 3; have k4 := S1.cell 4; have k5 := S1.cell 5; have k6 := S1.cell 6; have k7 := S1.cell 7; have k8 := S1.cell 8; have k9 := S1.cell 9; have j0 := S2.cell 0; have j1 := S2.cell 1; have j2 := S2.cell 2; have j3 := S2.cell 3; simp at k0 k1 k2 k3 k4 k5 k6 k7 k8 k9 j0 j1 j2 j3; first | (go_simp; done) | (go_simp; with_reducible rfl))))) | (refine held_pass ?_ ?_; (focus rfl))); simp only [Act.put, List.setIfInBounds_toArray, List.set_cons_zero, List.set_cons_succ])
  refine held_one ?_
  refine wpList_plain rfl fun K1 hK1 => ?_
  go_wp2_with (first | (go_at_call 113; (with_reducible refine (f_need_ok _ _).mono ?_); rintro e w1 ⟨rfl, rfl⟩))
  (first | refine held_end ?_ | (refine onward_on ?_; first | refine held_nil ?_ | refine ⟨.inl trivial, held_nil ?_⟩ | refine ⟨.inl rfl, held_nil ?_⟩))
  go_wp2
  refine at_world (S := fun X => Blk X w.heap.size #[.int .u8 d.kind, .int .i64 d.cell, .int .i64 d.to, .int .i64 d.n] 65 ∧ Blk X s #[.slice (some ⟨g, 0, none⟩) p.cells.length cp, .int .i64 (p.bottles), .int .i64 (p.inH), .int .i64 (p.inA), .int .i64 (p.vH), .int .i64 (p.vA), .int .i64 (p.lH), .int .i64 (p.lA), .int .i64 (p.pH), .int .i64 (p.pA)] 174 ∧ Mine 25 B X (.slice (some ⟨g, 0, none⟩) p.cells.length cp) p.cells ∧ Kept w X) ⟨by (repeat (first | with_reducible assumption | with_reducible refine Blk.drew ?_ | with_reducible refine Blk.alloc ?_ _ | (with_reducible refine Besides.blk hbes2 (by decide) ?_) | with_reducible refine Blk.keep ?_ (by with_reducible assumption))), by (repeat (first | with_reducible assumption | with_reducible refine Blk.drew ?_ | with_reducible refine Blk.alloc ?_ _ | (with_reducible refine Besides.blk hbes2 (by decide) ?_) | with_reducible refine Blk.keep ?_ (by with_reducible assumption))), by (repeat (first | with_reducible assumption | with_reducible refine Mine.drew ?_ | with_reducible refine Mine.alloc ?_ _)), by (exact kpt)⟩ ?_
  rintro X ⟨r0, hsX, hmX, hkX⟩
  have hi0 : (0 : Int) ≤ d.to := hto.1
  have hi1 : d.to < (p.cells.length : Int) := by omega
  have r0c0 := fun g : Later X => (r0.later g).cell 0
  have r0f0 := fun g : Later X => (r0.later g).free 0
  have r0c1 := fun g : Later X => (r0.later g).cell 1
  have r0f1 := fun g : Later X => (r0.later g).free 1
  have r0c2 := fun g : Later X => (r0.later g).cell 2
  have r0f2 := fun g : Later X => (r0.later g).free 2
  have r0c3 := fun g : Later X => (r0.later g).cell 3
  have r0f3 := fun g : Later X => (r0.later g).free 3
  have r0l := fun g : Later X => (r0.later g).lt
  simp at r0c0 r0c1 r0c2 r0c3
  have hsXc0 := fun g : Later X => (hsX.later g).cell 0
  have hsXf0 := fun g : Later X => (hsX.later g).free 0
  have hsXc1 := fun g : Later X => (hsX.later g).cell 1
  have hsXf1 := fun g : Later X => (hsX.later g).free 1
  have hsXc2 := fun g : Later X => (hsX.later g).cell 2
  have hsXf2 := fun g : Later X => (hsX.later g).free 2
  have hsXc3 := fun g : Later X => (hsX.later g).cell 3
  have hsXf3 := fun g : Later X => (hsX.later g).free 3
  have hsXc4 := fun g : Later X => (hsX.later g).cell 4
  have hsXf4 := fun g : Later X => (hsX.later g).free 4
  have hsXc5 := fun g : Later X => (hsX.later g).cell 5
  have hsXf5 := fun g : Later X => (hsX.later g).free 5
  have hsXc6 := fun g : Later X => (hsX.later g).cell 6
  have hsXf6 := fun g : Later X => (hsX.later g).free 6
  have hsXc7 := fun g : Later X => (hsX.later g).cell 7
  have hsXf7 := fun g : Later X => (hsX.later g).free 7
  have hsXc8 := fun g : Later X => (hsX.later g).cell 8
  have hsXf8 := fun g : Later X => (hsX.later g).free 8
  have hsXc9 := fun g : Later X => (hsX.later g).cell 9
  have hsXf9 := fun g : Later X => (hsX.later g).free 9
  have hsXl := fun g : Later X => (hsX.later g).lt
  simp at hsXc0 hsXc1 hsXc2 hsXc3 hsXc4 hsXc5 hsXc6 hsXc7 hsXc8 hsXc9
  refine later_dies [0, 1, 2, 4, 5, 6, 7, 8, 9, 10, 11] 3 (some 12) (by kernel_rfl) (by kernel_rfl) (fun c a d v w h => by cases d <;> exact h) (makes_pair rfl rfl rfl) ?_
  simp only [List.filterMap_cons, List.filterMap_nil, List.getElem?_cons_zero, List.getElem?_cons_succ, List.map_cons, List.map_nil]
  repeat (refine wpSteps_quiet ?_; (first | go_big_quiet_skip | (go_big_quiet_want; go_big_quiet_op; first | go_big_quiet_on | (apply Exists.intro; refine ⟨fun g_ => ?_, ?_⟩; (focus (first | fail)); go_big_quiet_on))); refine wpQuiet_nil ?_)
  refine wpSteps_nil ?_
  refine ⟨DiesAt.of rfl rfl (fun w' hw' => ?_), fun _ oq hq ho v => ?_⟩
  · obtain ⟨gg, rfl⟩ := hw'
    simp only [Go.wp_at_succ, Go.wp_at_zero]
    go_simp
    (with_reducible refine (f_outX_none (hmX.keep gg.ok) HX.out HOK.out d.n hlt).mono ?_)
    rintro e w1 ⟨rfl, hb1⟩
    have hkg := Kept.drop hkX gg.ok
    exact ⟨rfl, rfl, by (exact kpt)⟩
  · cases hq
    obtain rfl : _ = oq := Option.some.inj ho
    simp only [Act.put, List.setIfInBounds_toArray, List.set_cons_zero, List.set_cons_succ]
    refine DiesAt.of rfl rfl (fun w' hw' => ?_)
    obtain ⟨gg, rfl⟩ := hw'
    simp only [Go.wp_at_succ, Go.wp_at_zero]
    go_simp
    (with_reducible refine (f_outX_none (hmX.keep gg.ok) HX.out HOK.out d.n hlt).mono ?_)
    rintro e w1 ⟨rfl, hb1⟩
    have hkg := Kept.drop hkX gg.ok
    exact ⟨rfl, rfl, by (exact kpt)⟩
theorem to_bd {p : Plant} {d : Deed} {x : Cell} (hv : ∀ c ∈ p.cells, cellB c = true) (hx : p.cells[d.cell.toNat]? = some x) (h0 : 0 ≤ d.n) (h1 : d.n ≤ x.helium + x.air) (ht : 0 ≤ d.to ∧ d.to ≤ p.cells.length - 1) :
    ∃ y, (p.cells.set d.cell.toNat (less x d.n))[d.to.toNat]? = some y ∧ okC y := by
  have hj : d.to.toNat < (p.cells.set d.cell.toNat (less x d.n)).length := by simp; omega
  refine ⟨_, List.getElem?_eq_getElem hj, okC_of ?_⟩
  rcases List.mem_or_eq_of_mem_set (List.getElem_mem hj) with h | h
  · exact hv _ h
  · rw [h]; exact less_B (hv _ (List.mem_of_getElem? hx)) h0 h1
theorem f_move_ok {B s cp : Nat} {ad : Option Addr} {p : Plant} {w : World} (d : Deed) (h : Shop 25 174 B w s ad cp p) (hp : plantB p = true) (ha : argB p d = true) (ht : rng [d.to] 0 (p.cells.length - 1) = true) (he : d.to ≠ d.cell) (hl : ¬ amount (at_ p d) < d.n) : Calls Try.prog 109 #[.pointer (some ⟨s, 0, none⟩), .agg #[.int .u8 d.kind, .int .i64 d.cell, .int .i64 d.to, .int .i64 d.n]] w fun e w' => e = .returned (.tuple #[]) ∧ Shop 25 174 B w' s ad cp (moveP p d) ∧ Below B w w' := by
  have hn12 : p.cells.length ≤ 12 := (plantB_iff.1 hp).1
  have hb := plantB_iff.1 hp
  have hi : d.cell.toNat < p.cells.length := by
    have h1 : rng [d.cell] 0 (p.cells.length - 1) = true := by unfold argB at ha; simp only [Bool.and_eq_true] at ha; exact ha.1
    have : 0 ≤ d.cell ∧ d.cell ≤ p.cells.length - 1 := by simpa [rng, inB] using h1
    omega
  have hn : 1 ≤ d.n ∧ d.n ≤ 10000000 := by
    have h1 : rng [d.n] 1 10000000 = true := by unfold argB at ha; simp only [Bool.and_eq_true] at ha; exact ha.2
    simpa [rng, inB] using h1
  have hcv : cellB p.cells[d.cell.toNat] = true := hb.2.2.2.2.2.2.1 _ (List.getElem_mem hi)
  have hat : at_ p d = p.cells[d.cell.toNat] := cellAt_get hi
  have HA := Lib.hid ha
  obtain ⟨hB, hs, hm⟩ := h
  have hBw : B ≤ w.heap.size := by have := hs.lt; omega
  obtain ⟨g, _, rfl, hBg, hbg, _⟩ := hm.at hi
  have hgl := hbg.lt
  clear hbg
  obtain ⟨x, hx⟩ : ∃ x, x = p.cells[d.cell.toNat] := ⟨_, rfl⟩
  have HX := Lib.hid (show p.cells[d.cell.toNat]? = some x by rw [hx]; simp [hi])
  rw [← hx] at hcv hat
  have hxb := cellB_iff.1 hcv
  have HAT := Lib.hid hat
  have HXX := Lib.hid hx
  clear ha hat hx
  have hto : 0 ≤ d.to ∧ d.to ≤ p.cells.length - 1 := by simpa [rng, inB] using ht
  have HT := Lib.hid ht
  have hvv := hb.2.2.2.2.2.2.1
  have hle : d.n ≤ x.helium + x.air := by rw [HAT.out] at hl; unfold amount at hl; omega
  have HOK := Lib.hid (okC_of hcv)
  obtain ⟨s0, s1, s2, s3⟩ := share_bd HOK.out (show 0 ≤ d.n by omega) hle
  obtain ⟨S, hS⟩ : ∃ S, S = shareH x d.n := ⟨_, rfl⟩
  have HSS := Lib.hid (show shareH x d.n = S from hS.symm)
  have HOUT := fun (W : World) (q : Mine 25 B W (.slice (some ⟨g, 0, none⟩) p.cells.length cp) p.cells) => f_outX q HX.out HOK.out d.n hn.1 hle
  rw [← hS] at s0 s1 s2 s3 HOUT
  obtain ⟨_, hb1, ⟨hb2, hb3⟩, ⟨hb4, hb5⟩, ⟨hb6, hb7⟩, ⟨hb8, hb9⟩, _⟩ := hb
  clear hS hl
  have hne0 : (d.to == d.cell) = false := by simp [he]
  have hne' : (d.to != d.cell) = true := by simp [he]
  have hne'' : decide (d.to = d.cell) = false := by simp [he]
  obtain ⟨y, hy, hyb⟩ := to_bd hvv HX.out (by omega) hle hto
  have HY := Lib.hid hy
  obtain ⟨hyb1, hyb2⟩ := hyb
  clear hp ht he hvv hy
  have hwl := i64_inx (n := (p.cells.length : Int) - 1) (by omega)
  go_enter Try.func109, Try.ntmps109
  go_upto_region 2 with (first | (go_at_call 135; (with_reducible refine (f_cell_ok s g cp p d _ (hs.keep (by (exact kpt))) hn12 HA.out).mono ?_); rintro e w1 ⟨rfl, hb1⟩; refine Blk.thru (b := w.heap.size) (arr := ?_) (t := ?_) ?_ hb1 ?_; rotate_left 2; (focus (exact blk)); intro rr; have rrc0 := rr.cell 0; have rrf0 := rr.free 0; have rrc1 := rr.cell 1; have rrf1 := rr.free 1; have rrc2 := rr.cell 2; have rrf2 := rr.free 2; have rrc3 := rr.cell 3; have rrf3 := rr.free 3; have rrl := rr.lt; simp at rrc0 rrc1 rrc2 rrc3; obtain ⟨hc1, hf1, hl1⟩ := bcell3 hb1))
  refine at_world (S := fun W => Blk W w.heap.size #[.int .u8 d.kind, .int .i64 d.cell, .int .i64 d.to, .int .i64 d.n] 65 ∧ Blk W s #[.slice (some ⟨g, 0, none⟩) p.cells.length cp, .int .i64 (p.bottles), .int .i64 (p.inH), .int .i64 (p.inA), .int .i64 (p.vH), .int .i64 (p.vA), .int .i64 (p.lH), .int .i64 (p.lA), .int .i64 (p.pH), .int .i64 (p.pA)] 174 ∧ Mine 25 B W (.slice (some ⟨g, 0, none⟩) p.cells.length cp) p.cells ∧ Kept w W) ⟨by (exact blkc), hs.keep (by (exact kpt)), hm.keep (by (exact kpt)), by (exact kpt)⟩ ?_
  rintro W ⟨r0, hsW, hmW, hk⟩
  clear hc1 hf1 hl1
  refine held_walk (fun w' => Blk w' s #[.slice (some ⟨g, 0, none⟩) p.cells.length cp, .int .i64 (p.bottles), .int .i64 (p.inH), .int .i64 (p.inA), .int .i64 (p.vH), .int .i64 (p.vA), .int .i64 (p.lH), .int .i64 (p.lA), .int .i64 (p.pH), .int .i64 (p.pA)] 174 ∧ Blk w' w.heap.size #[.int .u8 d.kind, .int .i64 d.cell, .int .i64 d.to, .int .i64 d.n] 65) [(true, 0), (true, 1), (true, 2), (true, 3), (true, 4), (true, 5), (true, 6), (true, 7), (true, 8), (false, 9), (false, 10), (true, 11), (true, 12), (true, 13), (true, 14), (true, 15), (true, 16), (true, 17), (false, 18)] 18 (by kernel_rfl) (by kernel_rfl) (fun c a d v w h => by cases d <;> exact h) ⟨hsW.drew, r0.drew⟩ ?_
  simp only [List.filterMap_cons, List.filterMap_nil, List.getElem?_cons_zero, List.getElem?_cons_succ, Option.map_some]
  iterate 9 ((first | (refine held_take ?_ ?_ (fun w' hS => ?_) ?_; rotate_left 1; (focus rfl); (focus (first | (go_simp; done) | (go_simp; with_reducible rfl) | (obtain ⟨S1, S2⟩ := hS; have k0 := S1.cell 0; have k1 := S1.cell 1; have k2 := S1.cell 2; have k3 := S1.cell 3; have k4 := S1.cell 4; have k5 := S1.cell 5; have k6 := S1.cell 6; have k7 := S1.cell 7; have k8 := S1.cell 8; have k9 := S1.cell 9; have j0 := S2.cell 0; have j1 := S2.cell 1; have j2 := S2.cell 2; have j3 := S2.cell 3; simp at k0 k1 k2 k3 k4 k5 k6 k7 k8 k9 j0 j1 j2 j3; first | (go_simp; done) | (go_simp; with_reducible rfl))))) | (refine held_pass ?_ ?_; (focus rfl))); simp only [Act.put, List.setIfInBounds_toArray, List.set_cons_zero, List.set_cons_succ])
  refine held_one ?_
  refine wpList_plain rfl fun K1 hK1 => ?_
  go_wp2
  refine held_on ⟨by (repeat (first | with_reducible assumption | with_reducible refine Blk.drew ?_ | with_reducible refine Blk.alloc ?_ _ | (with_reducible refine Besides.blk hbes2 (by decide) ?_) | with_reducible refine Blk.keep ?_ (by with_reducible assumption))), by (repeat (first | with_reducible assumption | with_reducible refine Blk.drew ?_ | with_reducible refine Blk.alloc ?_ _ | (with_reducible refine Besides.blk hbes2 (by decide) ?_) | with_reducible refine Blk.keep ?_ (by with_reducible assumption)))⟩ ?_
  refine held_one ?_
  refine wpList_plain rfl fun K1 hK1 => ?_
  go_wp2_with (go_at_call 91; (with_reducible refine (f_ranged1B _ _ d.to _ _ ?_).mono ?_); (focus ((repeat with_reducible refine Blk.drew ?_); exact Blk.new' (by first | rfl | (simp; done)))); rw [HT.out]; rintro e w1 ⟨rfl, rfl⟩)
  refine held_on ⟨by (repeat (first | with_reducible assumption | with_reducible refine Blk.drew ?_ | with_reducible refine Blk.alloc ?_ _ | (with_reducible refine Besides.blk hbes2 (by decide) ?_) | with_reducible refine Blk.keep ?_ (by with_reducible assumption))), by (repeat (first | with_reducible assumption | with_reducible refine Blk.drew ?_ | with_reducible refine Blk.alloc ?_ _ | (with_reducible refine Besides.blk hbes2 (by decide) ?_) | with_reducible refine Blk.keep ?_ (by with_reducible assumption)))⟩ ?_
  iterate 7 ((first | (refine held_take ?_ ?_ (fun w' hS => ?_) ?_; rotate_left 1; (focus rfl); (focus (first | (go_simp; done) | (go_simp; with_reducible rfl) | (obtain ⟨S1, S2⟩ := hS; have k0 := S1.cell 0; have k1 := S1.cell 1; have k2 := S1.cell 2; have k3 := S1.cell 3; have k4 := S1.cell 4; have k5 := S1.cell 5; have k6 := S1.cell 6; have k7 := S1.cell 7; have k8 := S1.cell 8; have k9 := S1.cell 9; have j0 := S2.cell 0; have j1 := S2.cell 1; have j2 := S2.cell 2; have j3 := S2.cell 3; simp at k0 k1 k2 k3 k4 k5 k6 k7 k8 k9 j0 j1 j2 j3; first | (go_simp; done) | (go_simp; with_reducible rfl))))) | (refine held_pass ?_ ?_; (focus rfl))); simp only [Act.put, List.setIfInBounds_toArray, List.set_cons_zero, List.set_cons_succ])
  refine held_one ?_
  refine wpList_plain rfl fun K1 hK1 => ?_
  go_wp2_with (first | (go_at_call 113; (with_reducible refine (f_need_ok _ _).mono ?_); rintro e w1 ⟨rfl, rfl⟩))
  (first | refine held_end ?_ | (refine onward_on ?_; first | refine held_nil ?_ | refine ⟨.inl trivial, held_nil ?_⟩ | refine ⟨.inl rfl, held_nil ?_⟩))
  go_wp2
  refine at_world (S := fun X => Blk X w.heap.size #[.int .u8 d.kind, .int .i64 d.cell, .int .i64 d.to, .int .i64 d.n] 65 ∧ Blk X s #[.slice (some ⟨g, 0, none⟩) p.cells.length cp, .int .i64 (p.bottles), .int .i64 (p.inH), .int .i64 (p.inA), .int .i64 (p.vH), .int .i64 (p.vA), .int .i64 (p.lH), .int .i64 (p.lA), .int .i64 (p.pH), .int .i64 (p.pA)] 174 ∧ Mine 25 B X (.slice (some ⟨g, 0, none⟩) p.cells.length cp) p.cells ∧ Kept w X) ⟨by (repeat (first | with_reducible assumption | with_reducible refine Blk.drew ?_ | with_reducible refine Blk.alloc ?_ _ | (with_reducible refine Besides.blk hbes2 (by decide) ?_) | with_reducible refine Blk.keep ?_ (by with_reducible assumption))), by (repeat (first | with_reducible assumption | with_reducible refine Blk.drew ?_ | with_reducible refine Blk.alloc ?_ _ | (with_reducible refine Besides.blk hbes2 (by decide) ?_) | with_reducible refine Blk.keep ?_ (by with_reducible assumption))), by (repeat (first | with_reducible assumption | with_reducible refine Mine.drew ?_ | with_reducible refine Mine.alloc ?_ _)), by (exact kpt)⟩ ?_
  rintro X ⟨r0, hsX, hmX, hkX⟩
  have hi0 : (0 : Int) ≤ d.to := hto.1
  have hi1 : d.to < (p.cells.length : Int) := by omega
  have hsk0 : ∀ w', Blk w' s #[.slice (some ⟨g, 0, none⟩) p.cells.length cp, .int .i64 (p.bottles), .int .i64 (p.inH), .int .i64 (p.inA), .int .i64 (p.vH), .int .i64 (p.vA), .int .i64 (p.lH), .int .i64 (p.lA), .int .i64 (p.pH), .int .i64 (p.pA)] 174 → w'.cell? ⟨s, 0, none⟩ = _ := fun w' h => h.cell 0
  have hsk1 : ∀ w', Blk w' s #[.slice (some ⟨g, 0, none⟩) p.cells.length cp, .int .i64 (p.bottles), .int .i64 (p.inH), .int .i64 (p.inA), .int .i64 (p.vH), .int .i64 (p.vA), .int .i64 (p.lH), .int .i64 (p.lA), .int .i64 (p.pH), .int .i64 (p.pA)] 174 → w'.cell? ⟨s, 1, none⟩ = _ := fun w' h => h.cell 1
  have hsk2 : ∀ w', Blk w' s #[.slice (some ⟨g, 0, none⟩) p.cells.length cp, .int .i64 (p.bottles), .int .i64 (p.inH), .int .i64 (p.inA), .int .i64 (p.vH), .int .i64 (p.vA), .int .i64 (p.lH), .int .i64 (p.lA), .int .i64 (p.pH), .int .i64 (p.pA)] 174 → w'.cell? ⟨s, 2, none⟩ = _ := fun w' h => h.cell 2
  have hsk3 : ∀ w', Blk w' s #[.slice (some ⟨g, 0, none⟩) p.cells.length cp, .int .i64 (p.bottles), .int .i64 (p.inH), .int .i64 (p.inA), .int .i64 (p.vH), .int .i64 (p.vA), .int .i64 (p.lH), .int .i64 (p.lA), .int .i64 (p.pH), .int .i64 (p.pA)] 174 → w'.cell? ⟨s, 3, none⟩ = _ := fun w' h => h.cell 3
  have hsk4 : ∀ w', Blk w' s #[.slice (some ⟨g, 0, none⟩) p.cells.length cp, .int .i64 (p.bottles), .int .i64 (p.inH), .int .i64 (p.inA), .int .i64 (p.vH), .int .i64 (p.vA), .int .i64 (p.lH), .int .i64 (p.lA), .int .i64 (p.pH), .int .i64 (p.pA)] 174 → w'.cell? ⟨s, 4, none⟩ = _ := fun w' h => h.cell 4
  have hsk5 : ∀ w', Blk w' s #[.slice (some ⟨g, 0, none⟩) p.cells.length cp, .int .i64 (p.bottles), .int .i64 (p.inH), .int .i64 (p.inA), .int .i64 (p.vH), .int .i64 (p.vA), .int .i64 (p.lH), .int .i64 (p.lA), .int .i64 (p.pH), .int .i64 (p.pA)] 174 → w'.cell? ⟨s, 5, none⟩ = _ := fun w' h => h.cell 5
  have hsk6 : ∀ w', Blk w' s #[.slice (some ⟨g, 0, none⟩) p.cells.length cp, .int .i64 (p.bottles), .int .i64 (p.inH), .int .i64 (p.inA), .int .i64 (p.vH), .int .i64 (p.vA), .int .i64 (p.lH), .int .i64 (p.lA), .int .i64 (p.pH), .int .i64 (p.pA)] 174 → w'.cell? ⟨s, 6, none⟩ = _ := fun w' h => h.cell 6
  have hsk7 : ∀ w', Blk w' s #[.slice (some ⟨g, 0, none⟩) p.cells.length cp, .int .i64 (p.bottles), .int .i64 (p.inH), .int .i64 (p.inA), .int .i64 (p.vH), .int .i64 (p.vA), .int .i64 (p.lH), .int .i64 (p.lA), .int .i64 (p.pH), .int .i64 (p.pA)] 174 → w'.cell? ⟨s, 7, none⟩ = _ := fun w' h => h.cell 7
  have hsk8 : ∀ w', Blk w' s #[.slice (some ⟨g, 0, none⟩) p.cells.length cp, .int .i64 (p.bottles), .int .i64 (p.inH), .int .i64 (p.inA), .int .i64 (p.vH), .int .i64 (p.vA), .int .i64 (p.lH), .int .i64 (p.lA), .int .i64 (p.pH), .int .i64 (p.pA)] 174 → w'.cell? ⟨s, 8, none⟩ = _ := fun w' h => h.cell 8
  have hsk9 : ∀ w', Blk w' s #[.slice (some ⟨g, 0, none⟩) p.cells.length cp, .int .i64 (p.bottles), .int .i64 (p.inH), .int .i64 (p.inA), .int .i64 (p.vH), .int .i64 (p.vA), .int .i64 (p.lH), .int .i64 (p.lA), .int .i64 (p.pH), .int .i64 (p.pA)] 174 → w'.cell? ⟨s, 9, none⟩ = _ := fun w' h => h.cell 9
  have hsf0 : ∀ w', Blk w' s #[.slice (some ⟨g, 0, none⟩) p.cells.length cp, .int .i64 (p.bottles), .int .i64 (p.inH), .int .i64 (p.inA), .int .i64 (p.vH), .int .i64 (p.vA), .int .i64 (p.lH), .int .i64 (p.lA), .int .i64 (p.pH), .int .i64 (p.pA)] 174 → w'.frozen? ⟨s, 0, none⟩ = _ := fun w' h => h.free 0
  have hsf1 : ∀ w', Blk w' s #[.slice (some ⟨g, 0, none⟩) p.cells.length cp, .int .i64 (p.bottles), .int .i64 (p.inH), .int .i64 (p.inA), .int .i64 (p.vH), .int .i64 (p.vA), .int .i64 (p.lH), .int .i64 (p.lA), .int .i64 (p.pH), .int .i64 (p.pA)] 174 → w'.frozen? ⟨s, 1, none⟩ = _ := fun w' h => h.free 1
  have hsf2 : ∀ w', Blk w' s #[.slice (some ⟨g, 0, none⟩) p.cells.length cp, .int .i64 (p.bottles), .int .i64 (p.inH), .int .i64 (p.inA), .int .i64 (p.vH), .int .i64 (p.vA), .int .i64 (p.lH), .int .i64 (p.lA), .int .i64 (p.pH), .int .i64 (p.pA)] 174 → w'.frozen? ⟨s, 2, none⟩ = _ := fun w' h => h.free 2
  have hsf3 : ∀ w', Blk w' s #[.slice (some ⟨g, 0, none⟩) p.cells.length cp, .int .i64 (p.bottles), .int .i64 (p.inH), .int .i64 (p.inA), .int .i64 (p.vH), .int .i64 (p.vA), .int .i64 (p.lH), .int .i64 (p.lA), .int .i64 (p.pH), .int .i64 (p.pA)] 174 → w'.frozen? ⟨s, 3, none⟩ = _ := fun w' h => h.free 3
  have hsf4 : ∀ w', Blk w' s #[.slice (some ⟨g, 0, none⟩) p.cells.length cp, .int .i64 (p.bottles), .int .i64 (p.inH), .int .i64 (p.inA), .int .i64 (p.vH), .int .i64 (p.vA), .int .i64 (p.lH), .int .i64 (p.lA), .int .i64 (p.pH), .int .i64 (p.pA)] 174 → w'.frozen? ⟨s, 4, none⟩ = _ := fun w' h => h.free 4
  have hsf5 : ∀ w', Blk w' s #[.slice (some ⟨g, 0, none⟩) p.cells.length cp, .int .i64 (p.bottles), .int .i64 (p.inH), .int .i64 (p.inA), .int .i64 (p.vH), .int .i64 (p.vA), .int .i64 (p.lH), .int .i64 (p.lA), .int .i64 (p.pH), .int .i64 (p.pA)] 174 → w'.frozen? ⟨s, 5, none⟩ = _ := fun w' h => h.free 5
  have hsf6 : ∀ w', Blk w' s #[.slice (some ⟨g, 0, none⟩) p.cells.length cp, .int .i64 (p.bottles), .int .i64 (p.inH), .int .i64 (p.inA), .int .i64 (p.vH), .int .i64 (p.vA), .int .i64 (p.lH), .int .i64 (p.lA), .int .i64 (p.pH), .int .i64 (p.pA)] 174 → w'.frozen? ⟨s, 6, none⟩ = _ := fun w' h => h.free 6
  have hsf7 : ∀ w', Blk w' s #[.slice (some ⟨g, 0, none⟩) p.cells.length cp, .int .i64 (p.bottles), .int .i64 (p.inH), .int .i64 (p.inA), .int .i64 (p.vH), .int .i64 (p.vA), .int .i64 (p.lH), .int .i64 (p.lA), .int .i64 (p.pH), .int .i64 (p.pA)] 174 → w'.frozen? ⟨s, 7, none⟩ = _ := fun w' h => h.free 7
  have hsf8 : ∀ w', Blk w' s #[.slice (some ⟨g, 0, none⟩) p.cells.length cp, .int .i64 (p.bottles), .int .i64 (p.inH), .int .i64 (p.inA), .int .i64 (p.vH), .int .i64 (p.vA), .int .i64 (p.lH), .int .i64 (p.lA), .int .i64 (p.pH), .int .i64 (p.pA)] 174 → w'.frozen? ⟨s, 8, none⟩ = _ := fun w' h => h.free 8
  have hsf9 : ∀ w', Blk w' s #[.slice (some ⟨g, 0, none⟩) p.cells.length cp, .int .i64 (p.bottles), .int .i64 (p.inH), .int .i64 (p.inA), .int .i64 (p.vH), .int .i64 (p.vA), .int .i64 (p.lH), .int .i64 (p.lA), .int .i64 (p.pH), .int .i64 (p.pA)] 174 → w'.frozen? ⟨s, 9, none⟩ = _ := fun w' h => h.free 9
  simp at hsk0 hsk1 hsk2 hsk3 hsk4 hsk5 hsk6 hsk7 hsk8 hsk9
  have hdk0 : ∀ w', Blk w' w.heap.size #[.int .u8 d.kind, .int .i64 d.cell, .int .i64 d.to, .int .i64 d.n] 65 → w'.cell? ⟨w.heap.size, 0, none⟩ = _ := fun w' h => h.cell 0
  have hdk1 : ∀ w', Blk w' w.heap.size #[.int .u8 d.kind, .int .i64 d.cell, .int .i64 d.to, .int .i64 d.n] 65 → w'.cell? ⟨w.heap.size, 1, none⟩ = _ := fun w' h => h.cell 1
  have hdk2 : ∀ w', Blk w' w.heap.size #[.int .u8 d.kind, .int .i64 d.cell, .int .i64 d.to, .int .i64 d.n] 65 → w'.cell? ⟨w.heap.size, 2, none⟩ = _ := fun w' h => h.cell 2
  have hdk3 : ∀ w', Blk w' w.heap.size #[.int .u8 d.kind, .int .i64 d.cell, .int .i64 d.to, .int .i64 d.n] 65 → w'.cell? ⟨w.heap.size, 3, none⟩ = _ := fun w' h => h.cell 3
  have hdf0 : ∀ w', Blk w' w.heap.size #[.int .u8 d.kind, .int .i64 d.cell, .int .i64 d.to, .int .i64 d.n] 65 → w'.frozen? ⟨w.heap.size, 0, none⟩ = _ := fun w' h => h.free 0
  have hdf1 : ∀ w', Blk w' w.heap.size #[.int .u8 d.kind, .int .i64 d.cell, .int .i64 d.to, .int .i64 d.n] 65 → w'.frozen? ⟨w.heap.size, 1, none⟩ = _ := fun w' h => h.free 1
  have hdf2 : ∀ w', Blk w' w.heap.size #[.int .u8 d.kind, .int .i64 d.cell, .int .i64 d.to, .int .i64 d.n] 65 → w'.frozen? ⟨w.heap.size, 2, none⟩ = _ := fun w' h => h.free 2
  have hdf3 : ∀ w', Blk w' w.heap.size #[.int .u8 d.kind, .int .i64 d.cell, .int .i64 d.to, .int .i64 d.n] 65 → w'.frozen? ⟨w.heap.size, 3, none⟩ = _ := fun w' h => h.free 3
  simp at hdk0 hdk1 hdk2 hdk3
  go_cut [5, 6] (fun s5 s6 wx => ∃ gx, s5 = .pointer (some ⟨gx, 0, none⟩) ∧ s6 = .pointer (some ⟨g, d.to.toNat * 7, none⟩) ∧ Blk wx gx #[.int .i64 S, .int .i64 (d.n - S)] 61 ∧ Blk wx s #[.slice (some ⟨g, 0, none⟩) p.cells.length cp, .int .i64 (p.bottles), .int .i64 (p.inH), .int .i64 (p.inA), .int .i64 (p.vH), .int .i64 (p.vA), .int .i64 (p.lH), .int .i64 (p.lA), .int .i64 (p.pH), .int .i64 (p.pA)] 174 ∧ Mine 25 B wx (.slice (some ⟨g, 0, none⟩) p.cells.length cp) (p.cells.set d.cell.toNat (less x d.n)) ∧ Below B w wx ∧ w.heap.size ≤ wx.heap.size ∧ w.heap.size < gx)
  case first =>
    go_region_held3 (fun w' => Blk w' s #[.slice (some ⟨g, 0, none⟩) p.cells.length cp, .int .i64 (p.bottles), .int .i64 (p.inH), .int .i64 (p.inA), .int .i64 (p.vH), .int .i64 (p.vA), .int .i64 (p.lH), .int .i64 (p.lA), .int .i64 (p.pH), .int .i64 (p.pA)] 174 ∧ Blk w' w.heap.size #[.int .u8 d.kind, .int .i64 d.cell, .int .i64 d.to, .int .i64 d.n] 65) ((refine ⟨?_, ?_⟩ <;> ((repeat (first | with_reducible assumption | with_reducible refine Blk.drew ?_ | with_reducible refine Blk.alloc ?_ _ | ((with_reducible refine Blk.other ?_ ?_ _); rotate_left 1; (focus (have e0 := hsX.lt; have e9 := r0.lt; have e3 := Below.size hw2; simp at e3; first | (simp; omega) | (simp at *; omega)))) | (with_reducible refine Besides.blk hbes2 (by decide) ?_) | with_reducible refine Blk.keep ?_ (by with_reducible assumption))); done))) (first | (go_at_call 136; (with_reducible refine (HOUT _ ?_).mono ?_); (focus (repeat (first | with_reducible assumption | with_reducible refine Mine.drew ?_ | with_reducible refine Mine.alloc ?_ _ | with_reducible refine Mine.keep ?_ (by with_reducible assumption)))); rintro e w2 ⟨rfl, hm2, hw2, hbes2⟩; have hbB : Below B X w2 := (by first | exact ((Below.refl B X).drew).trans hw2 | exact (((Below.refl B X).alloc (by have e0 := hkX.size; omega) _).drew).trans hw2); have hsB : Blk w2 s #[.slice (some ⟨g, 0, none⟩) p.cells.length cp, .int .i64 (p.bottles), .int .i64 (p.inH), .int .i64 (p.inA), .int .i64 (p.vH), .int .i64 (p.vA), .int .i64 (p.lH), .int .i64 (p.lA), .int .i64 (p.pH), .int .i64 (p.pA)] 174 := (by (repeat (first | with_reducible assumption | with_reducible refine Blk.drew ?_ | with_reducible refine Blk.alloc ?_ _ | (with_reducible refine Besides.blk hbes2 (by decide) ?_) | with_reducible refine Blk.keep ?_ (by with_reducible assumption)))); have r0B : Blk w2 w.heap.size #[.int .u8 d.kind, .int .i64 d.cell, .int .i64 d.to, .int .i64 d.n] 65 := (by (repeat (first | with_reducible assumption | with_reducible refine Blk.drew ?_ | with_reducible refine Blk.alloc ?_ _ | (with_reducible refine Besides.blk hbes2 (by decide) ?_) | with_reducible refine Blk.keep ?_ (by with_reducible assumption)))); have hzB := hbB.size; (first | (refine Besides.thru (b := X.heap.size) (arr := ?_) (t := ?_) ?_ hbes2 ?_ ?_; rotate_left 2; (focus ((repeat with_reducible refine Blk.drew ?_); exact Blk.new' (by first | rfl | (simp; done)))); (focus decide); intro x2; have x2c0 := x2.cell 0; have x2f0 := x2.free 0; have x2c1 := x2.cell 1; have x2f1 := x2.free 1; have x2l := x2.lt; simp at x2c0 x2c1) | skip)) | fail)
    all_goals (go_wp2_with fail; go_meet)
    all_goals
      have e9 := r0.lt
      have e8 := hs.lt
      have ey := hkX.size
      have eb := hbB.size
    · exact ⟨_, rfl, rfl, Blk.new, hsB.alloc _, hm2.alloc _, ((hkX.mono hBw).trans hbB).alloc (by omega) _, by simp; omega, by omega⟩
    · exact ⟨_, rfl, rfl, (x2.set 0 _).set 1 _, (hsB.other (by simp; omega) _).other (by simp; omega) _, (hm2.other x2 (by decide) _).other (x2.set 0 _) (by decide) _, (((hkX.mono hBw).trans hbB).setCell (by simp; omega) _).setCell (by simp; omega) _, by simp [World.setCell]; omega, by omega⟩
  case rest =>
    clear hkX r0 hsX hmX hsk0 hsf0 hsk1 hsf1 hsk2 hsf2 hsk3 hsf3 hsk4 hsf4 hsk5 hsf5 hsk6 hsf6 hsk7 hsf7 hsk8 hsf8 hsk9 hsf9 hdk0 hdf0 hdk1 hdf1 hdk2 hdf2 hdk3 hdf3
    obtain ⟨gx, rfl, rfl, x0, hsX, hmX, hbX, hzX, hgx⟩ := hcut
    go_upto_region 4 with fail
    refine at_world (S := fun X => Blk X gx #[.int .i64 S, .int .i64 (d.n - S)] 61 ∧ Blk X s #[.slice (some ⟨g, 0, none⟩) p.cells.length cp, .int .i64 (p.bottles), .int .i64 (p.inH), .int .i64 (p.inA), .int .i64 (p.vH), .int .i64 (p.vA), .int .i64 (p.lH), .int .i64 (p.lA), .int .i64 (p.pH), .int .i64 (p.pA)] 174 ∧ Mine 25 B X (.slice (some ⟨g, 0, none⟩) p.cells.length cp) (p.cells.set d.cell.toNat (less x d.n)) ∧ Below B w X ∧ w.heap.size ≤ X.heap.size) ⟨x0, hsX, hmX, hbX, hzX⟩ ?_
    rintro X ⟨x0, hsX, hmX, hbX, hzX⟩
    obtain ⟨hj, hyj⟩ := List.getElem?_eq_some_iff.1 HY.out
    obtain ⟨_, cur, hge, _, hcur, c0, c1, c2, c3, c4, c5, c6⟩ := hmX.at hj
    cases hge
    rw [hyj] at c0 c1 c2 c3 c4 c5 c6
    clear hyj
    have y1 := fun q : Later X => q.some c1
    have y2 := fun q : Later X => q.some c2
    clear c0 c1 c2 c3 c4 c5 c6
    have x0c0 := fun g : Later X => (x0.later g).cell 0
    have x0f0 := fun g : Later X => (x0.later g).free 0
    have x0c1 := fun g : Later X => (x0.later g).cell 1
    have x0f1 := fun g : Later X => (x0.later g).free 1
    have x0l := fun g : Later X => (x0.later g).lt
    simp at x0c0 x0c1
    refine Later.tail 9 (by kernel_rfl) (by kernel_rfl) ?_
    simp only [List.take_succ_cons, List.take_zero, List.drop_succ_cons, List.drop_zero]
    repeat (first | go_big_quiet_skip | (go_big_quiet_want; go_big_quiet_op; first | go_big_quiet_on | (apply Exists.intro; refine ⟨fun g_ => ?_, ?_⟩; (focus (first | fail)); go_big_quiet_on)))
    refine wpQuiet_nil ?_
    intro gh
    refine wpList_plain rfl fun K1 hK1 => ?_
    have z1 := y1 gh
    have z2 := y2 gh
    have hcg := hcur.later gh
    have zf := hcg.free (d.to.toNat * 7 + 1)
    clear x0c0 x0f0 x0c1 x0f1 x0l
    go_wp2
    refine at_world (S := fun Y => Blk Y gx #[.int .i64 S, .int .i64 (d.n - S)] 61 ∧ Blk Y s #[.slice (some ⟨g, 0, none⟩) p.cells.length cp, .int .i64 (p.bottles), .int .i64 (p.inH), .int .i64 (p.inA), .int .i64 (p.vH), .int .i64 (p.vA), .int .i64 (p.lH), .int .i64 (p.lA), .int .i64 (p.pH), .int .i64 (p.pA)] 174 ∧ Mine 25 B Y (.slice (some ⟨g, 0, none⟩) p.cells.length cp) ((p.cells.set d.cell.toNat (less x d.n)).set d.to.toNat { y with helium := y.helium + S }) ∧ Below B w Y ∧ w.heap.size ≤ Y.heap.size) ⟨(x0.later gh).other (by simp; omega) _, (hsX.later gh).other (a := ⟨g, d.to.toNat * 7 + 1, none⟩) (fun he => by simp only at he; subst he; have := (hsX.later gh).symm.trans hcg; simp at this) _, (hmX.keep gh.ok).put (i := d.to.toNat) (j := 1) (c := y) (u := .int .i64 (y.helium + S)) { y with helium := y.helium + S } HY.out (by decide) rfl, (hbX.trans (gh.ok.mono (by omega))).setCell hBg _, Nat.le_trans hzX (Nat.le_trans gh.ok.size (by simp))⟩ ?_
    rintro Y ⟨x0, hsY, hmY, hbY, hzY⟩
    obtain ⟨_, cuy, hge, _, hcy, _, _, c2, _⟩ := hmY.at (i := d.to.toNat) (by simpa using hj)
    cases hge
    rw [List.getElem_set_self] at c2
    have y2 := fun q : Later Y => q.some c2
    clear c2
    have x0c0 := fun g : Later Y => (x0.later g).cell 0
    have x0f0 := fun g : Later Y => (x0.later g).free 0
    have x0c1 := fun g : Later Y => (x0.later g).cell 1
    have x0f1 := fun g : Later Y => (x0.later g).free 1
    have x0l := fun g : Later Y => (x0.later g).lt
    simp at x0c0 x0c1
    refine Later.tail 9 (by kernel_rfl) (by kernel_rfl) ?_
    simp only [List.take_succ_cons, List.take_zero, List.drop_succ_cons, List.drop_zero]
    repeat (first | go_big_quiet_skip | (go_big_quiet_want; go_big_quiet_op; first | go_big_quiet_on | (apply Exists.intro; refine ⟨fun g_ => ?_, ?_⟩; (focus (first | fail)); go_big_quiet_on)))
    refine wpQuiet_nil ?_
    intro gi
    refine wpList_plain rfl fun K1 hK1 => ?_
    have z2 := y2 gi
    have hcg := hcy.later gi
    have zf := hcg.free (d.to.toNat * 7 + 2)
    clear x0c0 x0f0 x0c1 x0f1 x0l
    go_wp2
    go_end0
    refine ⟨rfl, ⟨hB, ?_, ?_⟩, ?_⟩
    · exact ((hsY.later gi).other (a := ⟨g, d.to.toNat * 7 + 2, none⟩) (fun he => by simp only at he; subst he; have := (hsY.later gi).symm.trans hcg; simp at this) _).cast (by simp [plantCells, moveP, lessP])
    · have q := (hmY.keep gi.ok).put (i := d.to.toNat) (j := 2) (c := { y with helium := y.helium + S }) (u := .int .i64 (y.air + (d.n - S))) { y with helium := y.helium + S, air := y.air + (d.n - S) } (List.getElem?_set_self (by simpa using hj)) (by decide) rfl
      rw [List.set_set] at q
      have hyc : cellAt (lessP p d) d.to.toNat = y := by
        have := HY.out
        simp [cellAt, lessP, HAT.out, this]
      have e : (moveP p d).cells = ((p.cells.set d.cell.toNat (less x d.n)).set d.to.toNat { y with helium := y.helium + S, air := y.air + (d.n - S) }) := by
        show (lessP p d).cells.set _ (more (cellAt (lessP p d) d.to.toNat) (shareH (at_ p d) d.n) (d.n - shareH (at_ p d) d.n)) = _
        rw [hyc, HAT.out, HSS.out]
        simp [lessP, HAT.out, more]
      have el : (moveP p d).cells.length = p.cells.length := by rw [e]; simp
      rw [el, e]
      exact q
    · exact (hbY.trans (gi.ok.mono (by omega))).setCell hBg _

end Go.Proofs.Ytemafanncejeiaa
