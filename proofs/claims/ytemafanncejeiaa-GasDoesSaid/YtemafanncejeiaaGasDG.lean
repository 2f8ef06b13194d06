/-
  Acts on a plant at work: buy, fill, breathe.
-/
import Derived.Test.YtemafanncejeiaaGasDE
namespace Go.Proofs.Ytemafanncejeiaa
open Go.RowKit Bal Bal.Trim Bal.Gas
set_option linter.unusedVariables false
set_option linter.unusedSimpArgs false
set_option maxHeartbeats 4000000
set_option maxRecDepth 10000

theorem f_buy_no {B s cp : Nat} {ad : Option Addr} {p : Plant} {w : World} (d : Deed) (h : Shop 25 174 B w s ad cp p) (hp : plantB p = true) (he : rng [d.n] 1 10000000 = false) : Calls Try.prog 106 #[.pointer (some ⟨s, 0, none⟩), .agg #[.int .u8 d.kind, .int .i64 d.cell, .int .i64 d.to, .int .i64 d.n]] w fun e w' => e = .panicked [{ v := refusal 2, recovered := false }] ∧ Kept w w' := by
  have H1 := Lib.hid he
  clear he
  go_enter Try.func106, Try.ntmps106
  go_wp2_with (first | (go_at_call 91; (with_reducible refine (f_ranged1 _ _ d.n _ _ _ (by simp)).mono ?_); rw [H1.out]; rintro e w1 ⟨rfl, rfl⟩) | (go_at_call 113; (with_reducible refine (f_need_no _ _).mono ?_); rintro e w1 ⟨rfl, rfl⟩))
  exact ⟨rfl, rfl, by (exact kpt)⟩
theorem f_buy_ok {B s cp : Nat} {ad : Option Addr} {p : Plant} {w : World} (d : Deed) (h : Shop 25 174 B w s ad cp p) (hp : plantB p = true) (he : rng [d.n] 1 10000000 = true) : Calls Try.prog 106 #[.pointer (some ⟨s, 0, none⟩), .agg #[.int .u8 d.kind, .int .i64 d.cell, .int .i64 d.to, .int .i64 d.n]] w fun e w' => e = .returned (.tuple #[]) ∧ Shop 25 174 B w' s ad cp (buyP p d) ∧ Below B w w' := by
  have hn : 1 ≤ d.n ∧ d.n ≤ 10000000 := by simpa [rng, inB] using he
  obtain ⟨_, hb1, hb2, _⟩ := plantB_iff.1 hp
  have H1 := Lib.hid he
  clear he hp
  obtain ⟨hB, hs, hm⟩ := h
  have hBw : B ≤ w.heap.size := by have := hs.lt; omega
  go_enter Try.func106, Try.ntmps106
  go_upto_region 2 with (first | (go_at_call 91; (with_reducible refine (f_ranged1 _ _ d.n _ _ _ (by simp)).mono ?_); rw [H1.out]; rintro e w1 ⟨rfl, rfl⟩) | (go_at_call 113; (with_reducible refine (f_need_ok _ _).mono ?_); rintro e w1 ⟨rfl, rfl⟩))
  refine at_world (S := fun W => Blk W w.heap.size #[.int .u8 d.kind, .int .i64 d.cell, .int .i64 d.to, .int .i64 d.n] 65 ∧ Blk W s #[.slice ad p.cells.length cp, .int .i64 (p.bottles), .int .i64 (p.inH), .int .i64 (p.inA), .int .i64 (p.vH), .int .i64 (p.vA), .int .i64 (p.lH), .int .i64 (p.lA), .int .i64 (p.pH), .int .i64 (p.pA)] 174 ∧ Mine 25 B W (.slice ad p.cells.length cp) p.cells ∧ Kept w W) ⟨by (exact blkc), hs.keep (by (exact kpt)), hm.keep (by (exact kpt)), by (exact kpt)⟩ ?_
  rintro W ⟨r0, hsW, hmW, hk⟩
  have r0c0 := fun g : Later W => (r0.later g).cell 0
  have r0f0 := fun g : Later W => (r0.later g).free 0
  have r0c1 := fun g : Later W => (r0.later g).cell 1
  have r0f1 := fun g : Later W => (r0.later g).free 1
  have r0c2 := fun g : Later W => (r0.later g).cell 2
  have r0f2 := fun g : Later W => (r0.later g).free 2
  have r0c3 := fun g : Later W => (r0.later g).cell 3
  have r0f3 := fun g : Later W => (r0.later g).free 3
  have r0l := fun g : Later W => (r0.later g).lt
  simp at r0c0 r0c1 r0c2 r0c3
  have hsWc0 := fun g : Later W => (hsW.later g).cell 0
  have hsWf0 := fun g : Later W => (hsW.later g).free 0
  have hsWc1 := fun g : Later W => (hsW.later g).cell 1
  have hsWf1 := fun g : Later W => (hsW.later g).free 1
  have hsWc2 := fun g : Later W => (hsW.later g).cell 2
  have hsWf2 := fun g : Later W => (hsW.later g).free 2
  have hsWc3 := fun g : Later W => (hsW.later g).cell 3
  have hsWf3 := fun g : Later W => (hsW.later g).free 3
  have hsWc4 := fun g : Later W => (hsW.later g).cell 4
  have hsWf4 := fun g : Later W => (hsW.later g).free 4
  have hsWc5 := fun g : Later W => (hsW.later g).cell 5
  have hsWf5 := fun g : Later W => (hsW.later g).free 5
  have hsWc6 := fun g : Later W => (hsW.later g).cell 6
  have hsWf6 := fun g : Later W => (hsW.later g).free 6
  have hsWc7 := fun g : Later W => (hsW.later g).cell 7
  have hsWf7 := fun g : Later W => (hsW.later g).free 7
  have hsWc8 := fun g : Later W => (hsW.later g).cell 8
  have hsWf8 := fun g : Later W => (hsW.later g).free 8
  have hsWc9 := fun g : Later W => (hsW.later g).cell 9
  have hsWf9 := fun g : Later W => (hsW.later g).free 9
  have hsWl := fun g : Later W => (hsW.later g).lt
  simp at hsWc0 hsWc1 hsWc2 hsWc3 hsWc4 hsWc5 hsWc6 hsWc7 hsWc8 hsWc9
  refine Later.tail 11 (by kernel_rfl) (by kernel_rfl) ?_
  simp only [List.take_succ_cons, List.take_zero, List.drop_succ_cons, List.drop_zero]
  repeat (first | go_big_quiet_skip | (go_big_quiet_want; go_big_quiet_op; first | go_big_quiet_on | (apply Exists.intro; refine ⟨fun g_ => ?_, ?_⟩; (focus (first | fail)); go_big_quiet_on)))
  refine wpQuiet_nil ?_
  intro gg
  refine wpList_plain rfl fun K1 hK1 => ?_
  have q0 := r0.later gg
  have q1 := hsW.later gg
  clear r0c0 r0f0 r0c1 r0f1 r0c2 r0f2 r0c3 r0f3 r0l hsWc0 hsWf0 hsWc1 hsWf1 hsWc2 hsWf2 hsWc3 hsWf3 hsWc4 hsWf4 hsWc5 hsWf5 hsWc6 hsWf6 hsWc7 hsWf7 hsWc8 hsWf8 hsWc9 hsWf9 hsWl
  have q0c0 := q0.cell 0
  have q0f0 := q0.free 0
  have q0c1 := q0.cell 1
  have q0f1 := q0.free 1
  have q0c2 := q0.cell 2
  have q0f2 := q0.free 2
  have q0c3 := q0.cell 3
  have q0f3 := q0.free 3
  have q0l := q0.lt
  simp at q0c0 q0c1 q0c2 q0c3
  have q1c0 := q1.cell 0
  have q1f0 := q1.free 0
  have q1c1 := q1.cell 1
  have q1f1 := q1.free 1
  have q1c2 := q1.cell 2
  have q1f2 := q1.free 2
  have q1c3 := q1.cell 3
  have q1f3 := q1.free 3
  have q1c4 := q1.cell 4
  have q1f4 := q1.free 4
  have q1c5 := q1.cell 5
  have q1f5 := q1.free 5
  have q1c6 := q1.cell 6
  have q1f6 := q1.free 6
  have q1c7 := q1.cell 7
  have q1f7 := q1.free 7
  have q1c8 := q1.cell 8
  have q1f8 := q1.free 8
  have q1c9 := q1.cell 9
  have q1f9 := q1.free 9
  have q1l := q1.lt
  simp at q1c0 q1c1 q1c2 q1c3 q1c4 q1c5 q1c6 q1c7 q1c8 q1c9
  go_wp2
  refine at_world (S := fun X => Blk X w.heap.size #[.int .u8 d.kind, .int .i64 d.cell, .int .i64 d.to, .int .i64 d.n] 65 ∧ Blk X s #[.slice ad p.cells.length cp, .int .i64 (p.bottles + d.n), .int .i64 (p.inH), .int .i64 (p.inA), .int .i64 (p.vH), .int .i64 (p.vA), .int .i64 (p.lH), .int .i64 (p.lA), .int .i64 (p.pH), .int .i64 (p.pA)] 174 ∧ Mine 25 B X (.slice ad p.cells.length cp) p.cells ∧ Below B w X ∧ w.heap.size ≤ X.heap.size) ⟨by (exact blkc), q1.set 1 _, (hmW.keep gg.ok).other q1 (by decide) _, ((hk.mono (by have := hs.lt; omega)).trans (gg.ok.mono (by have := hsW.lt; omega))).setCell hB _, Nat.le_trans hk.size (Nat.le_trans gg.ok.size (by simp))⟩ ?_
  rintro X ⟨r0, hsX, hmX, hbX, hzX⟩
  clear q0c0 q0f0 q0c1 q0f1 q0c2 q0f2 q0c3 q0f3 q0l q1c0 q1f0 q1c1 q1f1 q1c2 q1f2 q1c3 q1f3 q1c4 q1f4 q1c5 q1f5 q1c6 q1f6 q1c7 q1f7 q1c8 q1f8 q1c9 q1f9 q1l q0 q1
  have r0c0 := fun g : Later X => (r0.later g).cell 0
  have r0f0 := fun g : Later X => (r0.later g).free 0
  have r0c1 := fun g : Later X => (r0.later g).cell 1
  have r0f1 := fun g : Later X => (r0.later g).free 1
  have r0c2 := fun g : Later X => (r0.later g).cell 2
  have r0f2 := fun g : Later X => (r0.later g).free 2
  have r0c3 := fun g : Later X => (r0.later g).cell 3
  have r0f3 := fun g : Later X => (r0.later g).free 3
  have r0l := fun g : Later X => (r0.later g).lt
  simp at r0c0 r0c1 r0c2 r0c3
  have hsXc0 := fun g : Later X => (hsX.later g).cell 0
  have hsXf0 := fun g : Later X => (hsX.later g).free 0
  have hsXc1 := fun g : Later X => (hsX.later g).cell 1
  have hsXf1 := fun g : Later X => (hsX.later g).free 1
  have hsXc2 := fun g : Later X => (hsX.later g).cell 2
  have hsXf2 := fun g : Later X => (hsX.later g).free 2
  have hsXc3 := fun g : Later X => (hsX.later g).cell 3
  have hsXf3 := fun g : Later X => (hsX.later g).free 3
  have hsXc4 := fun g : Later X => (hsX.later g).cell 4
  have hsXf4 := fun g : Later X => (hsX.later g).free 4
  have hsXc5 := fun g : Later X => (hsX.later g).cell 5
  have hsXf5 := fun g : Later X => (hsX.later g).free 5
  have hsXc6 := fun g : Later X => (hsX.later g).cell 6
  have hsXf6 := fun g : Later X => (hsX.later g).free 6
  have hsXc7 := fun g : Later X => (hsX.later g).cell 7
  have hsXf7 := fun g : Later X => (hsX.later g).free 7
  have hsXc8 := fun g : Later X => (hsX.later g).cell 8
  have hsXf8 := fun g : Later X => (hsX.later g).free 8
  have hsXc9 := fun g : Later X => (hsX.later g).cell 9
  have hsXf9 := fun g : Later X => (hsX.later g).free 9
  have hsXl := fun g : Later X => (hsX.later g).lt
  simp at hsXc0 hsXc1 hsXc2 hsXc3 hsXc4 hsXc5 hsXc6 hsXc7 hsXc8 hsXc9
  refine Later.tail 13 (by kernel_rfl) (by kernel_rfl) ?_
  simp only [List.take_succ_cons, List.take_zero, List.drop_succ_cons, List.drop_zero]
  repeat (first | go_big_quiet_skip | (go_big_quiet_want; go_big_quiet_op; first | go_big_quiet_on | (apply Exists.intro; refine ⟨fun g_ => ?_, ?_⟩; (focus (first | fail)); go_big_quiet_on)))
  refine wpQuiet_nil ?_
  intro gh
  refine wpList_plain rfl fun K1 hK1 => ?_
  have z1 := hsX.later gh
  have z1c0 := z1.cell 0
  have z1f0 := z1.free 0
  have z1c1 := z1.cell 1
  have z1f1 := z1.free 1
  have z1c2 := z1.cell 2
  have z1f2 := z1.free 2
  have z1c3 := z1.cell 3
  have z1f3 := z1.free 3
  have z1c4 := z1.cell 4
  have z1f4 := z1.free 4
  have z1c5 := z1.cell 5
  have z1f5 := z1.free 5
  have z1c6 := z1.cell 6
  have z1f6 := z1.free 6
  have z1c7 := z1.cell 7
  have z1f7 := z1.free 7
  have z1c8 := z1.cell 8
  have z1f8 := z1.free 8
  have z1c9 := z1.cell 9
  have z1f9 := z1.free 9
  have z1l := z1.lt
  simp at z1c0 z1c1 z1c2 z1c3 z1c4 z1c5 z1c6 z1c7 z1c8 z1c9
  clear r0c0 r0f0 r0c1 r0f1 r0c2 r0f2 r0c3 r0f3 r0l hsXc0 hsXf0 hsXc1 hsXf1 hsXc2 hsXf2 hsXc3 hsXf3 hsXc4 hsXf4 hsXc5 hsXf5 hsXc6 hsXf6 hsXc7 hsXf7 hsXc8 hsXf8 hsXc9 hsXf9 hsXl
  go_wp2
  go_end0
  refine ⟨rfl, ⟨hB, ?_, ?_⟩, ?_⟩
  · exact z1.set 2 _
  · exact (hmX.keep gh.ok).other z1 (by decide) _
  · exact (hbX.trans (gh.ok.mono (by omega))).setCell hB _

theorem f_fill_no1 {B s cp : Nat} {ad : Option Addr} {p : Plant} {w : World} (d : Deed) (h : Shop 25 174 B w s ad cp p) (hp : plantB p = true) (ha : argB p d = false) : Calls Try.prog 107 #[.pointer (some ⟨s, 0, none⟩), .agg #[.int .u8 d.kind, .int .i64 d.cell, .int .i64 d.to, .int .i64 d.n]] w fun e w' => e = .panicked [{ v := refusal 2, recovered := false }] ∧ Kept w w' := by
  have hn12 : p.cells.length ≤ 12 := (plantB_iff.1 hp).1
  have HA := Lib.hid ha
  obtain ⟨hB, hs, hm⟩ := h
  clear ha hp
  go_enter Try.func107, Try.ntmps107
  go_wp2_with (first | (go_at_call 135; (with_reducible refine (f_cell_no s ad cp p d _ (hs.keep (by (exact kpt))) hn12 HA.out).mono ?_); rintro e w1 ⟨rfl, hb1⟩))
  exact ⟨rfl, rfl, by (exact kpt)⟩
theorem f_fill_no2 {B s cp : Nat} {ad : Option Addr} {p : Plant} {w : World} (d : Deed) (h : Shop 25 174 B w s ad cp p) (hp : plantB p = true) (ha : argB p d = true) (ht : p.bottles < d.n) : Calls Try.prog 107 #[.pointer (some ⟨s, 0, none⟩), .agg #[.int .u8 d.kind, .int .i64 d.cell, .int .i64 d.to, .int .i64 d.n]] w fun e w' => e = .panicked [{ v := refusal 6, recovered := false }] ∧ Kept w w' := by
  have hn12 : p.cells.length ≤ 12 := (plantB_iff.1 hp).1
  have hb := plantB_iff.1 hp
  have hi : d.cell.toNat < p.cells.length := by
    have h1 : rng [d.cell] 0 (p.cells.length - 1) = true := by unfold argB at ha; simp only [Bool.and_eq_true] at ha; exact ha.1
    have : 0 ≤ d.cell ∧ d.cell ≤ p.cells.length - 1 := by simpa [rng, inB] using h1
    omega
  have hn : 1 ≤ d.n ∧ d.n ≤ 10000000 := by
    have h1 : rng [d.n] 1 10000000 = true := by unfold argB at ha; simp only [Bool.and_eq_true] at ha; exact ha.2
    simpa [rng, inB] using h1
  have hcv : cellB p.cells[d.cell.toNat] = true := hb.2.2.2.2.2.2.1 _ (List.getElem_mem hi)
  have hat : at_ p d = p.cells[d.cell.toNat] := cellAt_get hi
  have HA := Lib.hid ha
  obtain ⟨hB, hs, hm⟩ := h
  have hBw : B ≤ w.heap.size := by have := hs.lt; omega
  obtain ⟨g, _, rfl, hBg, hbg, _⟩ := hm.at hi
  have hgl := hbg.lt
  clear hbg
  obtain ⟨x, hx⟩ : ∃ x, x = p.cells[d.cell.toNat] := ⟨_, rfl⟩
  have HX := Lib.hid (show p.cells[d.cell.toNat]? = some x by rw [hx]; simp [hi])
  rw [← hx] at hcv hat
  have hxb := cellB_iff.1 hcv
  have HAT := Lib.hid hat
  have HXX := Lib.hid hx
  clear ha hat hx
  have hlt : decide (d.n ≤ p.bottles) = false := by simp; omega
  clear hp hb
  go_enter Try.func107, Try.ntmps107
  go_upto_region 2 with (first | (go_at_call 135; (with_reducible refine (f_cell_ok s g cp p d _ (hs.keep (by (exact kpt))) hn12 HA.out).mono ?_); rintro e w1 ⟨rfl, hb1⟩; refine Blk.thru (b := w.heap.size) (arr := ?_) (t := ?_) ?_ hb1 ?_; rotate_left 2; (focus (exact blk)); intro rr; have rrc0 := rr.cell 0; have rrf0 := rr.free 0; have rrc1 := rr.cell 1; have rrf1 := rr.free 1; have rrc2 := rr.cell 2; have rrf2 := rr.free 2; have rrc3 := rr.cell 3; have rrf3 := rr.free 3; have rrl := rr.lt; simp at rrc0 rrc1 rrc2 rrc3; obtain ⟨hc1, hf1, hl1⟩ := bcell3 hb1))
  refine at_world (S := fun W => Blk W w.heap.size #[.int .u8 d.kind, .int .i64 d.cell, .int .i64 d.to, .int .i64 d.n] 65 ∧ Blk W s #[.slice (some ⟨g, 0, none⟩) p.cells.length cp, .int .i64 (p.bottles), .int .i64 (p.inH), .int .i64 (p.inA), .int .i64 (p.vH), .int .i64 (p.vA), .int .i64 (p.lH), .int .i64 (p.lA), .int .i64 (p.pH), .int .i64 (p.pA)] 174 ∧ Mine 25 B W (.slice (some ⟨g, 0, none⟩) p.cells.length cp) p.cells ∧ Kept w W) ⟨by (exact blkc), hs.keep (by (exact kpt)), hm.keep (by (exact kpt)), by (exact kpt)⟩ ?_
  rintro W ⟨r0, hsW, hmW, hk⟩
  have r0c0 := fun g : Later W => (r0.later g).cell 0
  have r0f0 := fun g : Later W => (r0.later g).free 0
  have r0c1 := fun g : Later W => (r0.later g).cell 1
  have r0f1 := fun g : Later W => (r0.later g).free 1
  have r0c2 := fun g : Later W => (r0.later g).cell 2
  have r0f2 := fun g : Later W => (r0.later g).free 2
  have r0c3 := fun g : Later W => (r0.later g).cell 3
  have r0f3 := fun g : Later W => (r0.later g).free 3
  have r0l := fun g : Later W => (r0.later g).lt
  simp at r0c0 r0c1 r0c2 r0c3
  have hsWc0 := fun g : Later W => (hsW.later g).cell 0
  have hsWf0 := fun g : Later W => (hsW.later g).free 0
  have hsWc1 := fun g : Later W => (hsW.later g).cell 1
  have hsWf1 := fun g : Later W => (hsW.later g).free 1
  have hsWc2 := fun g : Later W => (hsW.later g).cell 2
  have hsWf2 := fun g : Later W => (hsW.later g).free 2
  have hsWc3 := fun g : Later W => (hsW.later g).cell 3
  have hsWf3 := fun g : Later W => (hsW.later g).free 3
  have hsWc4 := fun g : Later W => (hsW.later g).cell 4
  have hsWf4 := fun g : Later W => (hsW.later g).free 4
  have hsWc5 := fun g : Later W => (hsW.later g).cell 5
  have hsWf5 := fun g : Later W => (hsW.later g).free 5
  have hsWc6 := fun g : Later W => (hsW.later g).cell 6
  have hsWf6 := fun g : Later W => (hsW.later g).free 6
  have hsWc7 := fun g : Later W => (hsW.later g).cell 7
  have hsWf7 := fun g : Later W => (hsW.later g).free 7
  have hsWc8 := fun g : Later W => (hsW.later g).cell 8
  have hsWf8 := fun g : Later W => (hsW.later g).free 8
  have hsWc9 := fun g : Later W => (hsW.later g).cell 9
  have hsWf9 := fun g : Later W => (hsW.later g).free 9
  have hsWl := fun g : Later W => (hsW.later g).lt
  simp at hsWc0 hsWc1 hsWc2 hsWc3 hsWc4 hsWc5 hsWc6 hsWc7 hsWc8 hsWc9
  refine Later.tail 8 (by kernel_rfl) (by kernel_rfl) ?_
  simp only [List.take_succ_cons, List.take_zero, List.drop_succ_cons, List.drop_zero]
  repeat (first | go_big_quiet_skip | (go_big_quiet_want; go_big_quiet_op; first | go_big_quiet_on | (apply Exists.intro; refine ⟨fun g_ => ?_, ?_⟩; (focus (first | fail)); go_big_quiet_on)))
  refine wpQuiet_nil ?_
  intro gg
  refine wpList_plain rfl fun K1 hK1 => ?_
  have hkg := Kept.drop hk gg.ok
  go_wp2_with (first | (go_at_call 113; (with_reducible refine (f_need_no _ _).mono ?_); rintro e w1 ⟨rfl, rfl⟩))
  exact ⟨rfl, rfl, hkg⟩
theorem f_fill_ok {B s cp : Nat} {ad : Option Addr} {p : Plant} {w : World} (d : Deed) (h : Shop 25 174 B w s ad cp p) (hp : plantB p = true) (ha : argB p d = true) (ht : d.n ≤ p.bottles) : Calls Try.prog 107 #[.pointer (some ⟨s, 0, none⟩), .agg #[.int .u8 d.kind, .int .i64 d.cell, .int .i64 d.to, .int .i64 d.n]] w fun e w' => e = .returned (.tuple #[]) ∧ Shop 25 174 B w' s ad cp (fillP p d) ∧ Below B w w' := by
  have hn12 : p.cells.length ≤ 12 := (plantB_iff.1 hp).1
  have hb := plantB_iff.1 hp
  have hi : d.cell.toNat < p.cells.length := by
    have h1 : rng [d.cell] 0 (p.cells.length - 1) = true := by unfold argB at ha; simp only [Bool.and_eq_true] at ha; exact ha.1
    have : 0 ≤ d.cell ∧ d.cell ≤ p.cells.length - 1 := by simpa [rng, inB] using h1
    omega
  have hn : 1 ≤ d.n ∧ d.n ≤ 10000000 := by
    have h1 : rng [d.n] 1 10000000 = true := by unfold argB at ha; simp only [Bool.and_eq_true] at ha; exact ha.2
    simpa [rng, inB] using h1
  have hcv : cellB p.cells[d.cell.toNat] = true := hb.2.2.2.2.2.2.1 _ (List.getElem_mem hi)
  have hat : at_ p d = p.cells[d.cell.toNat] := cellAt_get hi
  have HA := Lib.hid ha
  obtain ⟨hB, hs, hm⟩ := h
  have hBw : B ≤ w.heap.size := by have := hs.lt; omega
  obtain ⟨g, _, rfl, hBg, hbg, _⟩ := hm.at hi
  have hgl := hbg.lt
  clear hbg
  obtain ⟨x, hx⟩ : ∃ x, x = p.cells[d.cell.toNat] := ⟨_, rfl⟩
  have HX := Lib.hid (show p.cells[d.cell.toNat]? = some x by rw [hx]; simp [hi])
  rw [← hx] at hcv hat
  have hxb := cellB_iff.1 hcv
  have HAT := Lib.hid hat
  have HXX := Lib.hid hx
  clear ha hat hx
  have hlt : decide (d.n ≤ p.bottles) = true := by simp; omega
  obtain ⟨_, hb1, hb2, _⟩ := hb
  clear hp
  go_enter Try.func107, Try.ntmps107
  go_upto_region 2 with (first | (go_at_call 135; (with_reducible refine (f_cell_ok s g cp p d _ (hs.keep (by (exact kpt))) hn12 HA.out).mono ?_); rintro e w1 ⟨rfl, hb1⟩; refine Blk.thru (b := w.heap.size) (arr := ?_) (t := ?_) ?_ hb1 ?_; rotate_left 2; (focus (exact blk)); intro rr; have rrc0 := rr.cell 0; have rrf0 := rr.free 0; have rrc1 := rr.cell 1; have rrf1 := rr.free 1; have rrc2 := rr.cell 2; have rrf2 := rr.free 2; have rrc3 := rr.cell 3; have rrf3 := rr.free 3; have rrl := rr.lt; simp at rrc0 rrc1 rrc2 rrc3; obtain ⟨hc1, hf1, hl1⟩ := bcell3 hb1))
  refine at_world (S := fun W => Blk W w.heap.size #[.int .u8 d.kind, .int .i64 d.cell, .int .i64 d.to, .int .i64 d.n] 65 ∧ Blk W s #[.slice (some ⟨g, 0, none⟩) p.cells.length cp, .int .i64 (p.bottles), .int .i64 (p.inH), .int .i64 (p.inA), .int .i64 (p.vH), .int .i64 (p.vA), .int .i64 (p.lH), .int .i64 (p.lA), .int .i64 (p.pH), .int .i64 (p.pA)] 174 ∧ Mine 25 B W (.slice (some ⟨g, 0, none⟩) p.cells.length cp) p.cells ∧ Kept w W) ⟨by (exact blkc), hs.keep (by (exact kpt)), hm.keep (by (exact kpt)), by (exact kpt)⟩ ?_
  rintro W ⟨r0, hsW, hmW, hk⟩
  have r0c0 := fun g : Later W => (r0.later g).cell 0
  have r0f0 := fun g : Later W => (r0.later g).free 0
  have r0c1 := fun g : Later W => (r0.later g).cell 1
  have r0f1 := fun g : Later W => (r0.later g).free 1
  have r0c2 := fun g : Later W => (r0.later g).cell 2
  have r0f2 := fun g : Later W => (r0.later g).free 2
  have r0c3 := fun g : Later W => (r0.later g).cell 3
  have r0f3 := fun g : Later W => (r0.later g).free 3
  have r0l := fun g : Later W => (r0.later g).lt
  simp at r0c0 r0c1 r0c2 r0c3
  have hsWc0 := fun g : Later W => (hsW.later g).cell 0
  have hsWf0 := fun g : Later W => (hsW.later g).free 0
  have hsWc1 := fun g : Later W => (hsW.later g).cell 1
  have hsWf1 := fun g : Later W => (hsW.later g).free 1
  have hsWc2 := fun g : Later W => (hsW.later g).cell 2
  have hsWf2 := fun g : Later W => (hsW.later g).free 2
  have hsWc3 := fun g : Later W => (hsW.later g).cell 3
  have hsWf3 := fun g : Later W => (hsW.later g).free 3
  have hsWc4 := fun g : Later W => (hsW.later g).cell 4
  have hsWf4 := fun g : Later W => (hsW.later g).free 4
  have hsWc5 := fun g : Later W => (hsW.later g).cell 5
  have hsWf5 := fun g : Later W => (hsW.later g).free 5
  have hsWc6 := fun g : Later W => (hsW.later g).cell 6
  have hsWf6 := fun g : Later W => (hsW.later g).free 6
  have hsWc7 := fun g : Later W => (hsW.later g).cell 7
  have hsWf7 := fun g : Later W => (hsW.later g).free 7
  have hsWc8 := fun g : Later W => (hsW.later g).cell 8
  have hsWf8 := fun g : Later W => (hsW.later g).free 8
  have hsWc9 := fun g : Later W => (hsW.later g).cell 9
  have hsWf9 := fun g : Later W => (hsW.later g).free 9
  have hsWl := fun g : Later W => (hsW.later g).lt
  simp at hsWc0 hsWc1 hsWc2 hsWc3 hsWc4 hsWc5 hsWc6 hsWc7 hsWc8 hsWc9
  refine Later.tail 8 (by kernel_rfl) (by kernel_rfl) ?_
  simp only [List.take_succ_cons, List.take_zero, List.drop_succ_cons, List.drop_zero]
  repeat (first | go_big_quiet_skip | (go_big_quiet_want; go_big_quiet_op; first | go_big_quiet_on | (apply Exists.intro; refine ⟨fun g_ => ?_, ?_⟩; (focus (first | fail)); go_big_quiet_on)))
  refine wpQuiet_nil ?_
  intro gg
  refine wpList_plain rfl fun K1 hK1 => ?_
  clear r0c0 r0f0 r0c1 r0f1 r0c2 r0f2 r0c3 r0f3 r0l hsWc0 hsWf0 hsWc1 hsWf1 hsWc2 hsWf2 hsWc3 hsWf3 hsWc4 hsWf4 hsWc5 hsWf5 hsWc6 hsWf6 hsWc7 hsWf7 hsWc8 hsWf8 hsWc9 hsWf9 hsWl
  go_wp2_with (first | (go_at_call 113; (with_reducible refine (f_need_ok _ _).mono ?_); rintro e w1 ⟨rfl, rfl⟩))
  refine at_world (S := fun X => Blk X w.heap.size #[.int .u8 d.kind, .int .i64 d.cell, .int .i64 d.to, .int .i64 d.n] 65 ∧ Blk X s #[.slice (some ⟨g, 0, none⟩) p.cells.length cp, .int .i64 (p.bottles), .int .i64 (p.inH), .int .i64 (p.inA), .int .i64 (p.vH), .int .i64 (p.vA), .int .i64 (p.lH), .int .i64 (p.lA), .int .i64 (p.pH), .int .i64 (p.pA)] 174 ∧ Mine 25 B X (.slice (some ⟨g, 0, none⟩) p.cells.length cp) p.cells ∧ Kept w X) ⟨r0.later gg, hsW.later gg, hmW.keep gg.ok, Kept.drop hk gg.ok⟩ ?_
  rintro X ⟨r0, hsX, hmX, hkX⟩
  have r0c0 := fun g : Later X => (r0.later g).cell 0
  have r0f0 := fun g : Later X => (r0.later g).free 0
  have r0c1 := fun g : Later X => (r0.later g).cell 1
  have r0f1 := fun g : Later X => (r0.later g).free 1
  have r0c2 := fun g : Later X => (r0.later g).cell 2
  have r0f2 := fun g : Later X => (r0.later g).free 2
  have r0c3 := fun g : Later X => (r0.later g).cell 3
  have r0f3 := fun g : Later X => (r0.later g).free 3
  have r0l := fun g : Later X => (r0.later g).lt
  simp at r0c0 r0c1 r0c2 r0c3
  have hsXc0 := fun g : Later X => (hsX.later g).cell 0
  have hsXf0 := fun g : Later X => (hsX.later g).free 0
  have hsXc1 := fun g : Later X => (hsX.later g).cell 1
  have hsXf1 := fun g : Later X => (hsX.later g).free 1
  have hsXc2 := fun g : Later X => (hsX.later g).cell 2
  have hsXf2 := fun g : Later X => (hsX.later g).free 2
  have hsXc3 := fun g : Later X => (hsX.later g).cell 3
  have hsXf3 := fun g : Later X => (hsX.later g).free 3
  have hsXc4 := fun g : Later X => (hsX.later g).cell 4
  have hsXf4 := fun g : Later X => (hsX.later g).free 4
  have hsXc5 := fun g : Later X => (hsX.later g).cell 5
  have hsXf5 := fun g : Later X => (hsX.later g).free 5
  have hsXc6 := fun g : Later X => (hsX.later g).cell 6
  have hsXf6 := fun g : Later X => (hsX.later g).free 6
  have hsXc7 := fun g : Later X => (hsX.later g).cell 7
  have hsXf7 := fun g : Later X => (hsX.later g).free 7
  have hsXc8 := fun g : Later X => (hsX.later g).cell 8
  have hsXf8 := fun g : Later X => (hsX.later g).free 8
  have hsXc9 := fun g : Later X => (hsX.later g).cell 9
  have hsXf9 := fun g : Later X => (hsX.later g).free 9
  have hsXl := fun g : Later X => (hsX.later g).lt
  simp at hsXc0 hsXc1 hsXc2 hsXc3 hsXc4 hsXc5 hsXc6 hsXc7 hsXc8 hsXc9
  refine Later.tail 11 (by kernel_rfl) (by kernel_rfl) ?_
  simp only [List.take_succ_cons, List.take_zero, List.drop_succ_cons, List.drop_zero]
  repeat (first | go_big_quiet_skip | (go_big_quiet_want; go_big_quiet_op; first | go_big_quiet_on | (apply Exists.intro; refine ⟨fun g_ => ?_, ?_⟩; (focus (first | fail)); go_big_quiet_on)))
  refine wpQuiet_nil ?_
  intro gh
  refine wpList_plain rfl fun K1 hK1 => ?_
  have q0 := r0.later gh
  have q1 := hsX.later gh
  clear r0c0 r0f0 r0c1 r0f1 r0c2 r0f2 r0c3 r0f3 r0l hsXc0 hsXf0 hsXc1 hsXf1 hsXc2 hsXf2 hsXc3 hsXf3 hsXc4 hsXf4 hsXc5 hsXf5 hsXc6 hsXf6 hsXc7 hsXf7 hsXc8 hsXf8 hsXc9 hsXf9 hsXl
  have q0c0 := q0.cell 0
  have q0f0 := q0.free 0
  have q0c1 := q0.cell 1
  have q0f1 := q0.free 1
  have q0c2 := q0.cell 2
  have q0f2 := q0.free 2
  have q0c3 := q0.cell 3
  have q0f3 := q0.free 3
  have q0l := q0.lt
  simp at q0c0 q0c1 q0c2 q0c3
  have q1c0 := q1.cell 0
  have q1f0 := q1.free 0
  have q1c1 := q1.cell 1
  have q1f1 := q1.free 1
  have q1c2 := q1.cell 2
  have q1f2 := q1.free 2
  have q1c3 := q1.cell 3
  have q1f3 := q1.free 3
  have q1c4 := q1.cell 4
  have q1f4 := q1.free 4
  have q1c5 := q1.cell 5
  have q1f5 := q1.free 5
  have q1c6 := q1.cell 6
  have q1f6 := q1.free 6
  have q1c7 := q1.cell 7
  have q1f7 := q1.free 7
  have q1c8 := q1.cell 8
  have q1f8 := q1.free 8
  have q1c9 := q1.cell 9
  have q1f9 := q1.free 9
  have q1l := q1.lt
  simp at q1c0 q1c1 q1c2 q1c3 q1c4 q1c5 q1c6 q1c7 q1c8 q1c9
  go_wp2
  refine at_world (S := fun Y => Blk Y w.heap.size #[.int .u8 d.kind, .int .i64 d.cell, .int .i64 d.to, .int .i64 d.n] 65 ∧ Blk Y s #[.slice (some ⟨g, 0, none⟩) p.cells.length cp, .int .i64 (p.bottles - d.n), .int .i64 (p.inH), .int .i64 (p.inA), .int .i64 (p.vH), .int .i64 (p.vA), .int .i64 (p.lH), .int .i64 (p.lA), .int .i64 (p.pH), .int .i64 (p.pA)] 174 ∧ Mine 25 B Y (.slice (some ⟨g, 0, none⟩) p.cells.length cp) p.cells ∧ Below B w Y ∧ w.heap.size ≤ Y.heap.size) ⟨by (exact blkc), q1.set 1 _, (hmX.keep gh.ok).other q1 (by decide) _, ((hkX.mono hBw).trans (gh.ok.mono (by have := hkX.size; omega))).setCell hB _, Nat.le_trans hkX.size (Nat.le_trans gh.ok.size (by simp))⟩ ?_
  rintro Y ⟨r0, hsY, hmY, hbY, hzY⟩
  clear q0c0 q0f0 q0c1 q0f1 q0c2 q0f2 q0c3 q0f3 q0l q1c0 q1f0 q1c1 q1f1 q1c2 q1f2 q1c3 q1f3 q1c4 q1f4 q1c5 q1f5 q1c6 q1f6 q1c7 q1f7 q1c8 q1f8 q1c9 q1f9 q1l q0 q1
  obtain ⟨_, cur, hge, _, hcur, c0, c1, c2, c3, c4, c5, c6⟩ := hmY.at hi
  cases hge
  rw [← HXX.out] at c0 c1 c2 c3 c4 c5 c6
  have r0c0 := fun g : Later Y => (r0.later g).cell 0
  have r0f0 := fun g : Later Y => (r0.later g).free 0
  have r0c1 := fun g : Later Y => (r0.later g).cell 1
  have r0f1 := fun g : Later Y => (r0.later g).free 1
  have r0c2 := fun g : Later Y => (r0.later g).cell 2
  have r0f2 := fun g : Later Y => (r0.later g).free 2
  have r0c3 := fun g : Later Y => (r0.later g).cell 3
  have r0f3 := fun g : Later Y => (r0.later g).free 3
  have r0l := fun g : Later Y => (r0.later g).lt
  simp at r0c0 r0c1 r0c2 r0c3
  have y1 := fun q : Later Y => q.some c1
  clear c0 c2 c3 c4 c5 c6
  refine Later.tail 9 (by kernel_rfl) (by kernel_rfl) ?_
  simp only [List.take_succ_cons, List.take_zero, List.drop_succ_cons, List.drop_zero]
  repeat (first | go_big_quiet_skip | (go_big_quiet_want; go_big_quiet_op; first | go_big_quiet_on | (apply Exists.intro; refine ⟨fun g_ => ?_, ?_⟩; (focus (first | fail)); go_big_quiet_on)))
  refine wpQuiet_nil ?_
  intro gi
  refine wpList_plain rfl fun K1 hK1 => ?_
  have z1 := y1 gi
  have hcg := hcur.later gi
  have zf := hcg.free (d.cell.toNat * 7 + 1)
  clear r0c0 r0f0 r0c1 r0f1 r0c2 r0f2 r0c3 r0f3 r0l
  go_wp2
  go_end0
  refine ⟨rfl, ⟨hB, ?_, ?_⟩, ?_⟩
  · have z2 := (hsY.later gi).other (a := ⟨g, d.cell.toNat * 7 + 1, none⟩) (fun he => by
      simp only at he; subst he; have := (hsY.later gi).symm.trans hcg; simp at this) (.int .i64 (x.helium + d.n))
    exact z2.cast (by simp [plantCells, fillP])
  · have := (hmY.keep gi.ok).put (i := d.cell.toNat) (j := 1) (c := x) (u := .int .i64 (x.helium + d.n)) { x with helium := x.helium + d.n } HX.out (by decide) rfl
    simpa [fillP, HAT.out] using this
  · exact (hbY.trans (gi.ok.mono (by omega))).setCell hBg _

theorem f_breathe_no {B s cp : Nat} {ad : Option Addr} {p : Plant} {w : World} (d : Deed) (h : Shop 25 174 B w s ad cp p) (hp : plantB p = true) (ha : argB p d = false) : Calls Try.prog 111 #[.pointer (some ⟨s, 0, none⟩), .agg #[.int .u8 d.kind, .int .i64 d.cell, .int .i64 d.to, .int .i64 d.n]] w fun e w' => e = .panicked [{ v := refusal 2, recovered := false }] ∧ Kept w w' := by
  have hn12 : p.cells.length ≤ 12 := (plantB_iff.1 hp).1
  have HA := Lib.hid ha
  obtain ⟨hB, hs, hm⟩ := h
  clear ha hp
  go_enter Try.func111, Try.ntmps111
  go_upto_region 1 with fail
  refine at_world (S := fun W => Blk W w.heap.size #[.int .u8 d.kind, .int .i64 d.cell, .int .i64 d.to, .int .i64 d.n] 65 ∧ Blk W s #[.slice ad p.cells.length cp, .int .i64 (p.bottles), .int .i64 (p.inH), .int .i64 (p.inA), .int .i64 (p.vH), .int .i64 (p.vA), .int .i64 (p.lH), .int .i64 (p.lA), .int .i64 (p.pH), .int .i64 (p.pA)] 174 ∧ Kept w W) ⟨by (exact blkc), hs.keep (by (exact kpt)), by (exact kpt)⟩ ?_
  rintro W ⟨r0, hsW, hk⟩
  have r0c0 := fun g : Later W => (r0.later g).cell 0
  have r0f0 := fun g : Later W => (r0.later g).free 0
  have r0c1 := fun g : Later W => (r0.later g).cell 1
  have r0f1 := fun g : Later W => (r0.later g).free 1
  have r0c2 := fun g : Later W => (r0.later g).cell 2
  have r0f2 := fun g : Later W => (r0.later g).free 2
  have r0c3 := fun g : Later W => (r0.later g).cell 3
  have r0f3 := fun g : Later W => (r0.later g).free 3
  have r0l := fun g : Later W => (r0.later g).lt
  simp at r0c0 r0c1 r0c2 r0c3
  have hsWc0 := fun g : Later W => (hsW.later g).cell 0
  have hsWf0 := fun g : Later W => (hsW.later g).free 0
  have hsWc1 := fun g : Later W => (hsW.later g).cell 1
  have hsWf1 := fun g : Later W => (hsW.later g).free 1
  have hsWc2 := fun g : Later W => (hsW.later g).cell 2
  have hsWf2 := fun g : Later W => (hsW.later g).free 2
  have hsWc3 := fun g : Later W => (hsW.later g).cell 3
  have hsWf3 := fun g : Later W => (hsW.later g).free 3
  have hsWc4 := fun g : Later W => (hsW.later g).cell 4
  have hsWf4 := fun g : Later W => (hsW.later g).free 4
  have hsWc5 := fun g : Later W => (hsW.later g).cell 5
  have hsWf5 := fun g : Later W => (hsW.later g).free 5
  have hsWc6 := fun g : Later W => (hsW.later g).cell 6
  have hsWf6 := fun g : Later W => (hsW.later g).free 6
  have hsWc7 := fun g : Later W => (hsW.later g).cell 7
  have hsWf7 := fun g : Later W => (hsW.later g).free 7
  have hsWc8 := fun g : Later W => (hsW.later g).cell 8
  have hsWf8 := fun g : Later W => (hsW.later g).free 8
  have hsWc9 := fun g : Later W => (hsW.later g).cell 9
  have hsWf9 := fun g : Later W => (hsW.later g).free 9
  have hsWl := fun g : Later W => (hsW.later g).lt
  simp at hsWc0 hsWc1 hsWc2 hsWc3 hsWc4 hsWc5 hsWc6 hsWc7 hsWc8 hsWc9
  refine later_dies [0, 1, 6, 7] 2 none (by kernel_rfl) (by kernel_rfl) (fun c a d v w h => by cases d <;> exact h) trivial ?_
  simp only [List.filterMap_cons, List.filterMap_nil, List.getElem?_cons_zero, List.getElem?_cons_succ, List.map_cons, List.map_nil]
  repeat (refine wpSteps_quiet ?_; (first | go_big_quiet_skip | (go_big_quiet_want; go_big_quiet_op; first | go_big_quiet_on | (apply Exists.intro; refine ⟨fun g => ?_, ?_⟩; (focus (first | fail)); go_big_quiet_on))); refine wpQuiet_nil ?_)
  refine wpSteps_nil ?_
  refine ⟨DiesAt.of rfl rfl (fun w' hw' => ?_), fun _ _ h => by cases h⟩
  obtain ⟨gg, rfl⟩ := hw'
  simp only [Go.wp_at_succ, Go.wp_at_zero]
  go_simp
  (with_reducible refine (f_cell_no s ad cp p d _ (hsW.later gg) hn12 HA.out).mono ?_)
  rintro e w1 ⟨rfl, hb1⟩
  have hkg := Kept.drop hk gg.ok
  exact ⟨rfl, rfl, by (exact kpt)⟩
theorem f_breathe_ok {B s cp : Nat} {ad : Option Addr} {p : Plant} {w : World} (d : Deed) (h : Shop 25 174 B w s ad cp p) (hp : plantB p = true) (ha : argB p d = true) : Calls Try.prog 111 #[.pointer (some ⟨s, 0, none⟩), .agg #[.int .u8 d.kind, .int .i64 d.cell, .int .i64 d.to, .int .i64 d.n]] w fun e w' => e = .returned (.tuple #[]) ∧ Shop 25 174 B w' s ad cp (breatheP p d) ∧ Below B w w' := by
  have hn12 : p.cells.length ≤ 12 := (plantB_iff.1 hp).1
  have hb := plantB_iff.1 hp
  have hi : d.cell.toNat < p.cells.length := by
    have h1 : rng [d.cell] 0 (p.cells.length - 1) = true := by unfold argB at ha; simp only [Bool.and_eq_true] at ha; exact ha.1
    have : 0 ≤ d.cell ∧ d.cell ≤ p.cells.length - 1 := by simpa [rng, inB] using h1
    omega
  have hn : 1 ≤ d.n ∧ d.n ≤ 10000000 := by
    have h1 : rng [d.n] 1 10000000 = true := by unfold argB at ha; simp only [Bool.and_eq_true] at ha; exact ha.2
    simpa [rng, inB] using h1
  have hcv : cellB p.cells[d.cell.toNat] = true := hb.2.2.2.2.2.2.1 _ (List.getElem_mem hi)
  have hat : at_ p d = p.cells[d.cell.toNat] := cellAt_get hi
  have HA := Lib.hid ha
  obtain ⟨hB, hs, hm⟩ := h
  have hBw : B ≤ w.heap.size := by have := hs.lt; omega
  obtain ⟨g, _, rfl, hBg, hbg, _⟩ := hm.at hi
  have hgl := hbg.lt
  clear hbg
  obtain ⟨x, hx⟩ : ∃ x, x = p.cells[d.cell.toNat] := ⟨_, rfl⟩
  have HX := Lib.hid (show p.cells[d.cell.toNat]? = some x by rw [hx]; simp [hi])
  rw [← hx] at hcv hat
  have hxb := cellB_iff.1 hcv
  have HAT := Lib.hid hat
  have HXX := Lib.hid hx
  clear ha hat hx
  obtain ⟨_, _, ⟨_, hb1, hb2⟩, _⟩ := hb
  clear hp
  go_enter Try.func111, Try.ntmps111
  go_upto_region 1 with fail
  refine at_world (S := fun W => Blk W w.heap.size #[.int .u8 d.kind, .int .i64 d.cell, .int .i64 d.to, .int .i64 d.n] 65 ∧ Blk W s #[.slice (some ⟨g, 0, none⟩) p.cells.length cp, .int .i64 (p.bottles), .int .i64 (p.inH), .int .i64 (p.inA), .int .i64 (p.vH), .int .i64 (p.vA), .int .i64 (p.lH), .int .i64 (p.lA), .int .i64 (p.pH), .int .i64 (p.pA)] 174 ∧ Mine 25 B W (.slice (some ⟨g, 0, none⟩) p.cells.length cp) p.cells ∧ Kept w W) ⟨by (exact blkc), hs.keep (by (exact kpt)), hm.keep (by (exact kpt)), by (exact kpt)⟩ ?_
  rintro W ⟨r0, hsW, hmW, hk⟩
  have r0c0 := fun g : Later W => (r0.later g).cell 0
  have r0f0 := fun g : Later W => (r0.later g).free 0
  have r0c1 := fun g : Later W => (r0.later g).cell 1
  have r0f1 := fun g : Later W => (r0.later g).free 1
  have r0c2 := fun g : Later W => (r0.later g).cell 2
  have r0f2 := fun g : Later W => (r0.later g).free 2
  have r0c3 := fun g : Later W => (r0.later g).cell 3
  have r0f3 := fun g : Later W => (r0.later g).free 3
  have r0l := fun g : Later W => (r0.later g).lt
  simp at r0c0 r0c1 r0c2 r0c3
  have hsWc0 := fun g : Later W => (hsW.later g).cell 0
  have hsWf0 := fun g : Later W => (hsW.later g).free 0
  have hsWc1 := fun g : Later W => (hsW.later g).cell 1
  have hsWf1 := fun g : Later W => (hsW.later g).free 1
  have hsWc2 := fun g : Later W => (hsW.later g).cell 2
  have hsWf2 := fun g : Later W => (hsW.later g).free 2
  have hsWc3 := fun g : Later W => (hsW.later g).cell 3
  have hsWf3 := fun g : Later W => (hsW.later g).free 3
  have hsWc4 := fun g : Later W => (hsW.later g).cell 4
  have hsWf4 := fun g : Later W => (hsW.later g).free 4
  have hsWc5 := fun g : Later W => (hsW.later g).cell 5
  have hsWf5 := fun g : Later W => (hsW.later g).free 5
  have hsWc6 := fun g : Later W => (hsW.later g).cell 6
  have hsWf6 := fun g : Later W => (hsW.later g).free 6
  have hsWc7 := fun g : Later W => (hsW.later g).cell 7
  have hsWf7 := fun g : Later W => (hsW.later g).free 7
  have hsWc8 := fun g : Later W => (hsW.later g).cell 8
  have hsWf8 := fun g : Later W => (hsW.later g).free 8
  have hsWc9 := fun g : Later W => (hsW.later g).cell 9
  have hsWf9 := fun g : Later W => (hsW.later g).free 9
  have hsWl := fun g : Later W => (hsW.later g).lt
  simp at hsWc0 hsWc1 hsWc2 hsWc3 hsWc4 hsWc5 hsWc6 hsWc7 hsWc8 hsWc9
  obtain ⟨_, cur, hge, _, hcur, c0, c1, c2, c3, c4, c5, c6⟩ := hmW.at hi
  cases hge
  rw [← HXX.out] at c0 c1 c2 c3 c4 c5 c6
  have y1 := fun q : Later W => q.some c2
  clear c0 c1 c3 c4 c5 c6
  refine Later.tail 11 (by kernel_rfl) (by kernel_rfl) ?_
  simp only [List.take_succ_cons, List.take_zero, List.drop_succ_cons, List.drop_zero]
  repeat (first | go_big_quiet_skip | (go_big_quiet_want; go_big_quiet_op; first | go_big_quiet_on | (apply Exists.intro; refine ⟨fun g_ => ?_, ?_⟩; (focus (first | (go_at_call 135; exact Later.call (f_cell_ok s g cp p d _ (hsW.later g_) hn12 HA.out)))); go_big_quiet_on)))
  refine wpQuiet_nil ?_
  intro gg
  refine wpList_plain rfl fun K1 hK1 => ?_
  have z1 := y1 gg
  have hcg := hcur.later gg
  have zf := hcg.free (d.cell.toNat * 7 + 2)
  clear r0c0 r0f0 r0c1 r0f1 r0c2 r0f2 r0c3 r0f3 r0l hsWc0 hsWf0 hsWc1 hsWf1 hsWc2 hsWf2 hsWc3 hsWf3 hsWc4 hsWf4 hsWc5 hsWf5 hsWc6 hsWf6 hsWc7 hsWf7 hsWc8 hsWf8 hsWc9 hsWf9 hsWl
  go_wp2
  refine at_world (S := fun X => Blk X w.heap.size #[.int .u8 d.kind, .int .i64 d.cell, .int .i64 d.to, .int .i64 d.n] 65 ∧ Blk X s #[.slice (some ⟨g, 0, none⟩) p.cells.length cp, .int .i64 (p.bottles), .int .i64 (p.inH), .int .i64 (p.inA), .int .i64 (p.vH), .int .i64 (p.vA), .int .i64 (p.lH), .int .i64 (p.lA), .int .i64 (p.pH), .int .i64 (p.pA)] 174 ∧ Mine 25 B X (.slice (some ⟨g, 0, none⟩) p.cells.length cp) (p.cells.set d.cell.toNat { x with air := x.air + d.n }) ∧ Below B w X ∧ w.heap.size ≤ X.heap.size) ⟨(r0.later gg).other (a := ⟨g, d.cell.toNat * 7 + 2, none⟩) (by simp; omega) _, (hsW.later gg).other (a := ⟨g, d.cell.toNat * 7 + 2, none⟩) (fun he => by simp only at he; subst he; have := (hsW.later gg).symm.trans hcg; simp at this) _, (hmW.keep gg.ok).put (i := d.cell.toNat) (j := 2) (c := x) (u := .int .i64 (x.air + d.n)) { x with air := x.air + d.n } HX.out (by decide) rfl, ((hk.mono hBw).trans (gg.ok.mono (by have := hk.size; omega))).setCell hBg _, Nat.le_trans hk.size (Nat.le_trans gg.ok.size (by simp))⟩ ?_
  rintro X ⟨r0, hsX, hmX, hbX, hzX⟩
  have r0c0 := fun g : Later X => (r0.later g).cell 0
  have r0f0 := fun g : Later X => (r0.later g).free 0
  have r0c1 := fun g : Later X => (r0.later g).cell 1
  have r0f1 := fun g : Later X => (r0.later g).free 1
  have r0c2 := fun g : Later X => (r0.later g).cell 2
  have r0f2 := fun g : Later X => (r0.later g).free 2
  have r0c3 := fun g : Later X => (r0.later g).cell 3
  have r0f3 := fun g : Later X => (r0.later g).free 3
  have r0l := fun g : Later X => (r0.later g).lt
  simp at r0c0 r0c1 r0c2 r0c3
  have hsXc0 := fun g : Later X => (hsX.later g).cell 0
  have hsXf0 := fun g : Later X => (hsX.later g).free 0
  have hsXc1 := fun g : Later X => (hsX.later g).cell 1
  have hsXf1 := fun g : Later X => (hsX.later g).free 1
  have hsXc2 := fun g : Later X => (hsX.later g).cell 2
  have hsXf2 := fun g : Later X => (hsX.later g).free 2
  have hsXc3 := fun g : Later X => (hsX.later g).cell 3
  have hsXf3 := fun g : Later X => (hsX.later g).free 3
  have hsXc4 := fun g : Later X => (hsX.later g).cell 4
  have hsXf4 := fun g : Later X => (hsX.later g).free 4
  have hsXc5 := fun g : Later X => (hsX.later g).cell 5
  have hsXf5 := fun g : Later X => (hsX.later g).free 5
  have hsXc6 := fun g : Later X => (hsX.later g).cell 6
  have hsXf6 := fun g : Later X => (hsX.later g).free 6
  have hsXc7 := fun g : Later X => (hsX.later g).cell 7
  have hsXf7 := fun g : Later X => (hsX.later g).free 7
  have hsXc8 := fun g : Later X => (hsX.later g).cell 8
  have hsXf8 := fun g : Later X => (hsX.later g).free 8
  have hsXc9 := fun g : Later X => (hsX.later g).cell 9
  have hsXf9 := fun g : Later X => (hsX.later g).free 9
  have hsXl := fun g : Later X => (hsX.later g).lt
  simp at hsXc0 hsXc1 hsXc2 hsXc3 hsXc4 hsXc5 hsXc6 hsXc7 hsXc8 hsXc9
  refine Later.tail 13 (by kernel_rfl) (by kernel_rfl) ?_
  simp only [List.take_succ_cons, List.take_zero, List.drop_succ_cons, List.drop_zero]
  repeat (first | go_big_quiet_skip | (go_big_quiet_want; go_big_quiet_op; first | go_big_quiet_on | (apply Exists.intro; refine ⟨fun g_ => ?_, ?_⟩; (focus (first | fail)); go_big_quiet_on)))
  refine wpQuiet_nil ?_
  intro gh
  refine wpList_plain rfl fun K1 hK1 => ?_
  have q1 := hsX.later gh
  clear r0c0 r0f0 r0c1 r0f1 r0c2 r0f2 r0c3 r0f3 r0l hsXc0 hsXf0 hsXc1 hsXf1 hsXc2 hsXf2 hsXc3 hsXf3 hsXc4 hsXf4 hsXc5 hsXf5 hsXc6 hsXf6 hsXc7 hsXf7 hsXc8 hsXf8 hsXc9 hsXf9 hsXl
  have q1c0 := q1.cell 0
  have q1f0 := q1.free 0
  have q1c1 := q1.cell 1
  have q1f1 := q1.free 1
  have q1c2 := q1.cell 2
  have q1f2 := q1.free 2
  have q1c3 := q1.cell 3
  have q1f3 := q1.free 3
  have q1c4 := q1.cell 4
  have q1f4 := q1.free 4
  have q1c5 := q1.cell 5
  have q1f5 := q1.free 5
  have q1c6 := q1.cell 6
  have q1f6 := q1.free 6
  have q1c7 := q1.cell 7
  have q1f7 := q1.free 7
  have q1c8 := q1.cell 8
  have q1f8 := q1.free 8
  have q1c9 := q1.cell 9
  have q1f9 := q1.free 9
  have q1l := q1.lt
  simp at q1c0 q1c1 q1c2 q1c3 q1c4 q1c5 q1c6 q1c7 q1c8 q1c9
  go_wp2
  go_end0
  refine ⟨rfl, ⟨hB, ?_, ?_⟩, ?_⟩
  · exact (q1.set 3 (.int .i64 (p.inA + d.n))).cast (by simp [plantCells, breatheP])
  · have := (hmX.keep gh.ok).other q1 (by decide) (o := 3) (.int .i64 (p.inA + d.n))
    simpa [breatheP, HAT.out] using this
  · exact (hbX.trans (gh.ok.mono (by omega))).setCell hB _

end Go.Proofs.Ytemafanncejeiaa
