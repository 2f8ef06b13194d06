/-
  Ceilings and valving.
-/
import Derived.Test.YtemafanncejeiaaGasLeaksMB
import Derived.Test.YtemafanncejeiaaGasLeaksMA
import Derived.RangeFuncNested
import Derived.RangeFuncCalls
import Derived.OrdersIn
import Derived.RangeFuncBound
import Derived.RangeFuncLeaves
import Derived.Shelf.Abstract
import Derived.Shelf.RegionOpen
import Derived.WalkKit
import Derived.OwnWalkIn
import Derived.TacticsInMore
import Derived.LoopNIn
import Derived.LoopIn
import Derived.Laws.AppendOwn
import Derived.WalkSmall
import Derived.OwnWalk
/-
  Ceilings and valving.
-/
namespace Go.Proofs.Ytemafanncejeiaa
open Go.RowKit Bal Bal.Trim Bal.Gas
set_option linter.unusedVariables false
set_option linter.unusedSimpArgs false
set_option maxHeartbeats 800000

set_option maxRecDepth 10000
theorem i64_in {n : Int} (h : -9223372036854775808 ≤ n ∧ n ≤ 9223372036854775807) : IntKind.i64.wrap n = n := by rw [IntKind.wrap_i64]; have := w64_in n h; unfold wrap64 at this; omega

theorem f_heated_ok (x y u v : Int) (w : World) (h : -1000000 ≤ x ∧ x ≤ 1000000 ∧ -1000000 ≤ y ∧ y ≤ 1000000 ∧ -1000000 ≤ u ∧ u ≤ 1000000 ∧ -1000000 ≤ v ∧ v ≤ 1000000) :
    Calls Try.prog 93 #[.agg #[.int .i64 x, .int .i64 y], .agg #[.int .i64 u, .int .i64 v]] w fun e w' => e = .returned (.agg #[.int .i64 (x + u), .int .i64 (y + v)]) ∧ Kept w w' := by
  have := f_heated x y u v w
  rwa [w64_in (x + u) (by omega), w64_in (y + v) (by omega)] at this

theorem f_Ceiling_bad (c : Cell) (x y : Int) (w : World) (hv : cellB c = false) :
    Calls Try.prog 32 #[.agg #[.int .i64 c.room, .int .i64 c.helium, .int .i64 c.air, .int .i64 c.wlo, .int .i64 c.whi, .int .i64 c.leak, .int .i64 c.owed], .agg #[.int .i64 (x), .int .i64 (y)]] w fun e w' => e = .returned (.tuple #[.agg #[.int .i64 0, .int .i64 0], .int .i64 31]) ∧ Kept w w' := by
  have HC := Lib.hid (show checkCell c = 31 by unfold checkCell; rw [hv]; rfl)
  skip
  clear hv
  go_enter Try.func32, Try.ntmps32
  go_wp2_with (first | (go_at_call 28; (with_reducible refine (f_CheckCell c _).mono ?_); rw [HC.out]; rintro e w1 ⟨rfl, hb1⟩; obtain ⟨hc1, hf1, hl1⟩ := bcell3 hb1; refine Blk.thru (b := w.heap.size + 1 + 1) (arr := ?_) (t := ?_) ?_ hb1 ?_; rotate_left 2; (focus (exact blk)); intro qq; have qqc0 := qq.cell 0; have qqf0 := qq.free 0; have qqc1 := qq.cell 1; have qqf1 := qq.free 1; have qql := qq.lt; simp at qqc0 qqc1; refine Blk.thru (b := w.heap.size) (arr := ?_) (t := ?_) ?_ hb1 ?_; rotate_left 2; (focus (exact blk)); intro qa; have qac0 := qa.cell 0; have qaf0 := qa.free 0; have qac1 := qa.cell 1; have qaf1 := qa.free 1; have qac2 := qa.cell 2; have qaf2 := qa.free 2; have qac3 := qa.cell 3; have qaf3 := qa.free 3; have qac4 := qa.cell 4; have qaf4 := qa.free 4; have qac5 := qa.cell 5; have qaf5 := qa.free 5; have qac6 := qa.cell 6; have qaf6 := qa.free 6; have qal := qa.lt; simp at qac0 qac1 qac2 qac3 qac4 qac5 qac6; refine Blk.thru (b := w.heap.size + 1) (arr := ?_) (t := ?_) ?_ hb1 ?_; rotate_left 2; (focus (exact blk)); intro qb; have qbc0 := qb.cell 0; have qbf0 := qb.free 0; have qbc1 := qb.cell 1; have qbf1 := qb.free 1; have qbl := qb.lt; simp at qbc0 qbc1) | fail)
  exact bodyPost_ret (v := .tuple #[.agg #[.int .i64 0, .int .i64 0], .int .i64 31]) (by simp [results, Try.results32, go_sem, qqc0, qqc1, qqf0, qqf1]) rfl ⟨rfl, by (exact kpt)⟩

theorem f_Ceiling_arg (c : Cell) (x y : Int) (w : World) (hv : cellB c = true) (hs : spanIn x y 1500 3500 = false) :
    Calls Try.prog 32 #[.agg #[.int .i64 c.room, .int .i64 c.helium, .int .i64 c.air, .int .i64 c.wlo, .int .i64 c.whi, .int .i64 c.leak, .int .i64 c.owed], .agg #[.int .i64 (x), .int .i64 (y)]] w fun e w' => e = .returned (.tuple #[.agg #[.int .i64 0, .int .i64 0], .int .i64 2]) ∧ Kept w w' := by
  have HC := Lib.hid (show checkCell c = 0 by unfold checkCell; rw [hv]; rfl)
  have HS := Lib.hid hs
  clear hv hs
  go_enter Try.func32, Try.ntmps32
  go_wp2_with (first | (go_at_call 28; (with_reducible refine (f_CheckCell c _).mono ?_); rw [HC.out]; rintro e w1 ⟨rfl, hb1⟩; obtain ⟨hc1, hf1, hl1⟩ := bcell3 hb1; refine Blk.thru (b := w.heap.size + 1 + 1) (arr := ?_) (t := ?_) ?_ hb1 ?_; rotate_left 2; (focus (exact blk)); intro qq; have qqc0 := qq.cell 0; have qqf0 := qq.free 0; have qqc1 := qq.cell 1; have qqf1 := qq.free 1; have qql := qq.lt; simp at qqc0 qqc1; refine Blk.thru (b := w.heap.size) (arr := ?_) (t := ?_) ?_ hb1 ?_; rotate_left 2; (focus (exact blk)); intro qa; have qac0 := qa.cell 0; have qaf0 := qa.free 0; have qac1 := qa.cell 1; have qaf1 := qa.free 1; have qac2 := qa.cell 2; have qaf2 := qa.free 2; have qac3 := qa.cell 3; have qaf3 := qa.free 3; have qac4 := qa.cell 4; have qaf4 := qa.free 4; have qac5 := qa.cell 5; have qaf5 := qa.free 5; have qac6 := qa.cell 6; have qaf6 := qa.free 6; have qal := qa.lt; simp at qac0 qac1 qac2 qac3 qac4 qac5 qac6; refine Blk.thru (b := w.heap.size + 1) (arr := ?_) (t := ?_) ?_ hb1 ?_; rotate_left 2; (focus (exact blk)); intro qb; have qbc0 := qb.cell 0; have qbf0 := qb.free 0; have qbc1 := qb.cell 1; have qbf1 := qb.free 1; have qbl := qb.lt; simp at qbc0 qbc1) | (go_at_call 89; (with_reducible refine (f_temps x y _).mono ?_); rw [HS.out]; rintro e w1 ⟨rfl, hb1⟩; obtain ⟨hc1, hf1, hl1⟩ := bcell3 hb1; refine Blk.thru (b := w.heap.size + 1 + 1) (arr := ?_) (t := ?_) ?_ hb1 ?_; rotate_left 2; (focus (exact blk)); intro qq; have qqc0 := qq.cell 0; have qqf0 := qq.free 0; have qqc1 := qq.cell 1; have qqf1 := qq.free 1; have qql := qq.lt; simp at qqc0 qqc1; refine Blk.thru (b := w.heap.size) (arr := ?_) (t := ?_) ?_ hb1 ?_; rotate_left 2; (focus (exact blk)); intro qa; have qac0 := qa.cell 0; have qaf0 := qa.free 0; have qac1 := qa.cell 1; have qaf1 := qa.free 1; have qac2 := qa.cell 2; have qaf2 := qa.free 2; have qac3 := qa.cell 3; have qaf3 := qa.free 3; have qac4 := qa.cell 4; have qaf4 := qa.free 4; have qac5 := qa.cell 5; have qaf5 := qa.free 5; have qac6 := qa.cell 6; have qaf6 := qa.free 6; have qal := qa.lt; simp at qac0 qac1 qac2 qac3 qac4 qac5 qac6; refine Blk.thru (b := w.heap.size + 1) (arr := ?_) (t := ?_) ?_ hb1 ?_; rotate_left 2; (focus (exact blk)); intro qb; have qbc0 := qb.cell 0; have qbf0 := qb.free 0; have qbc1 := qb.cell 1; have qbf1 := qb.free 1; have qbl := qb.lt; simp at qbc0 qbc1))
  exact bodyPost_ret (v := .tuple #[.agg #[.int .i64 0, .int .i64 0], .int .i64 2]) (by simp [results, Try.results32, go_sem, qqc0, qqc1, qqf0, qqf1]) rfl ⟨rfl, by (exact kpt)⟩

theorem f_Ceiling_ok (c : Cell) (x y : Int) (w : World) (hv : cellB c = true) (hs : spanIn x y 1500 3500 = true) :
    Calls Try.prog 32 #[.agg #[.int .i64 c.room, .int .i64 c.helium, .int .i64 c.air, .int .i64 c.wlo, .int .i64 c.whi, .int .i64 c.leak, .int .i64 c.owed], .agg #[.int .i64 (x), .int .i64 (y)]] w fun e w' => e = .returned (.tuple #[.agg #[.int .i64 (ceilLo c x), .int .i64 (ceilHi c y)], .int .i64 0]) ∧ Kept w w' := by
  obtain ⟨⟨n0, n1⟩, p0, p1, p2⟩ := ceil_bd hv hs
  obtain ⟨⟨v1, v2⟩, ⟨u1, u2⟩, ⟨u6, u7⟩, _, _, u3, u4, u5⟩ := cellB_iff.1 hv
  obtain ⟨s1, s2, s3⟩ := spanIn_iff.1 hs
  have HB := Lib.hid (show -1000000 ≤ x ∧ x ≤ 1000000 ∧ -1000000 ≤ y ∧ y ≤ 1000000 ∧ -1000000 ≤ c.wlo ∧ c.wlo ≤ 1000000 ∧ -1000000 ≤ c.whi ∧ c.whi ≤ 1000000 by omega)
  have K1 := Lib.hid (show ratioOk ⟨amount c * (x + c.wlo), c.room⟩ from ⟨by simp; omega, by simp; omega, by simp; omega, by simp; omega⟩)
  have K2 := Lib.hid (show ratioOk ⟨amount c * (y + c.whi), c.room⟩ from ⟨by simp; omega, by simp; omega, by simp; omega, by simp; omega⟩)
  have E1 := Lib.hid (ceil_lo hv hs)
  have E2 := Lib.hid (ceil_hi hv hs)
  have HW := i64_in (n := c.helium + c.air) (by omega)
  have HC := Lib.hid (show checkCell c = 0 by unfold checkCell; rw [hv]; rfl)
  have HS := Lib.hid hs
  clear hv hs
  go_enter Try.func32, Try.ntmps32
  go_wp2_with (first | (go_at_call 28; (with_reducible refine (f_CheckCell c _).mono ?_); rw [HC.out]; rintro e w1 ⟨rfl, hb1⟩; obtain ⟨hc1, hf1, hl1⟩ := bcell3 hb1; refine Blk.thru (b := w.heap.size + 1 + 1) (arr := ?_) (t := ?_) ?_ hb1 ?_; rotate_left 2; (focus (exact blk)); intro qq; have qqc0 := qq.cell 0; have qqf0 := qq.free 0; have qqc1 := qq.cell 1; have qqf1 := qq.free 1; have qql := qq.lt; simp at qqc0 qqc1; refine Blk.thru (b := w.heap.size) (arr := ?_) (t := ?_) ?_ hb1 ?_; rotate_left 2; (focus (exact blk)); intro qa; have qac0 := qa.cell 0; have qaf0 := qa.free 0; have qac1 := qa.cell 1; have qaf1 := qa.free 1; have qac2 := qa.cell 2; have qaf2 := qa.free 2; have qac3 := qa.cell 3; have qaf3 := qa.free 3; have qac4 := qa.cell 4; have qaf4 := qa.free 4; have qac5 := qa.cell 5; have qaf5 := qa.free 5; have qac6 := qa.cell 6; have qaf6 := qa.free 6; have qal := qa.lt; simp at qac0 qac1 qac2 qac3 qac4 qac5 qac6; refine Blk.thru (b := w.heap.size + 1) (arr := ?_) (t := ?_) ?_ hb1 ?_; rotate_left 2; (focus (exact blk)); intro qb; have qbc0 := qb.cell 0; have qbf0 := qb.free 0; have qbc1 := qb.cell 1; have qbf1 := qb.free 1; have qbl := qb.lt; simp at qbc0 qbc1) | (go_at_call 89; (with_reducible refine (f_temps x y _).mono ?_); rw [HS.out]; rintro e w1 ⟨rfl, hb1⟩; obtain ⟨hc1, hf1, hl1⟩ := bcell3 hb1; refine Blk.thru (b := w.heap.size + 1 + 1) (arr := ?_) (t := ?_) ?_ hb1 ?_; rotate_left 2; (focus (exact blk)); intro qq; have qqc0 := qq.cell 0; have qqf0 := qq.free 0; have qqc1 := qq.cell 1; have qqf1 := qq.free 1; have qql := qq.lt; simp at qqc0 qqc1; refine Blk.thru (b := w.heap.size) (arr := ?_) (t := ?_) ?_ hb1 ?_; rotate_left 2; (focus (exact blk)); intro qa; have qac0 := qa.cell 0; have qaf0 := qa.free 0; have qac1 := qa.cell 1; have qaf1 := qa.free 1; have qac2 := qa.cell 2; have qaf2 := qa.free 2; have qac3 := qa.cell 3; have qaf3 := qa.free 3; have qac4 := qa.cell 4; have qaf4 := qa.free 4; have qac5 := qa.cell 5; have qaf5 := qa.free 5; have qac6 := qa.cell 6; have qaf6 := qa.free 6; have qal := qa.lt; simp at qac0 qac1 qac2 qac3 qac4 qac5 qac6; refine Blk.thru (b := w.heap.size + 1) (arr := ?_) (t := ?_) ?_ hb1 ?_; rotate_left 2; (focus (exact blk)); intro qb; have qbc0 := qb.cell 0; have qbf0 := qb.free 0; have qbc1 := qb.cell 1; have qbf1 := qb.free 1; have qbl := qb.lt; simp at qbc0 qbc1))
  go_upto_region 6 with fail
  refine at_world (S := fun W => Blk W w.heap.size #[.int .i64 c.room, .int .i64 c.helium, .int .i64 c.air, .int .i64 c.wlo, .int .i64 c.whi, .int .i64 c.leak, .int .i64 c.owed] 25 ∧ Blk W (w.heap.size + 1) #[.int .i64 x, .int .i64 y] 23 ∧ Blk W (w.heap.size + 1 + 1) #[.int .i64 0, .int .i64 0] 23 ∧ Kept w W) ⟨by (exact blk), by (exact blk), by (exact blk), by (exact kpt)⟩ ?_
  clear hc1 hf1 hl1 qqc0 qqc1 qqf0 qqf1 qql
  rintro W ⟨r0, r1, r2, hk⟩
  have r0k0 : ∀ w', Kept W w' → w'.cell? ⟨w.heap.size, 0, none⟩ = _ := fun w' h => (r0.keep h).cell 0
  have r0k1 : ∀ w', Kept W w' → w'.cell? ⟨w.heap.size, 1, none⟩ = _ := fun w' h => (r0.keep h).cell 1
  have r0k2 : ∀ w', Kept W w' → w'.cell? ⟨w.heap.size, 2, none⟩ = _ := fun w' h => (r0.keep h).cell 2
  have r0k3 : ∀ w', Kept W w' → w'.cell? ⟨w.heap.size, 3, none⟩ = _ := fun w' h => (r0.keep h).cell 3
  have r0k4 : ∀ w', Kept W w' → w'.cell? ⟨w.heap.size, 4, none⟩ = _ := fun w' h => (r0.keep h).cell 4
  have r0k5 : ∀ w', Kept W w' → w'.cell? ⟨w.heap.size, 5, none⟩ = _ := fun w' h => (r0.keep h).cell 5
  have r0k6 : ∀ w', Kept W w' → w'.cell? ⟨w.heap.size, 6, none⟩ = _ := fun w' h => (r0.keep h).cell 6
  simp at r0k0 r0k1 r0k2 r0k3 r0k4 r0k5 r0k6
  have r1k0 : ∀ w', Kept W w' → w'.cell? ⟨w.heap.size + 1, 0, none⟩ = _ := fun w' h => (r1.keep h).cell 0
  have r1k1 : ∀ w', Kept W w' → w'.cell? ⟨w.heap.size + 1, 1, none⟩ = _ := fun w' h => (r1.keep h).cell 1
  simp at r1k0 r1k1
  go_cut [7, 8] (fun s7 s8 wx => ∃ g, s7 = .int .i64 (amount c) ∧ s8 = .pointer (some ⟨g, 0, none⟩) ∧ Blk wx g #[.int .i64 (x + c.wlo), .int .i64 (y + c.whi)] 23 ∧ Blk wx w.heap.size #[.int .i64 c.room, .int .i64 c.helium, .int .i64 c.air, .int .i64 c.wlo, .int .i64 c.whi, .int .i64 c.leak, .int .i64 c.owed] 25 ∧ Blk wx (w.heap.size + 1 + 1) #[.int .i64 0, .int .i64 0] 23 ∧ Kept w wx)
  case first =>
    go_region_held3 (fun w' => Kept W w') (exact kpt) (first | (go_at_call 93; (with_reducible refine (f_heated_ok x y c.wlo c.whi _ HB.out).mono ?_); rintro e w1 ⟨rfl, hb1⟩; obtain ⟨hc1, hf1, hl1⟩ := bcell3 hb1))
    all_goals (go_wp2_with fail; go_meet)
    all_goals
      refine ⟨_, by first | rfl | (rw [HW]; rfl), rfl, ?_, ?_, ?_, ?_⟩
      · (exact blkc)
      · (exact blkc)
      · (exact blkc)
      · (exact kpt)
  case rest =>
    clear r0k0 r0k1 r0k2 r0k3 r0k4 r0k5 r0k6 r1k0 r1k1 r0 r1 r2 hk
    obtain ⟨g, rfl, rfl, p1, p0, p2, hk⟩ := hcut
    have p1c0 := p1.cell 0
    have p1f0 := p1.free 0
    have p1c1 := p1.cell 1
    have p1f1 := p1.free 1
    have p1l := p1.lt
    simp at p1c0 p1c1
    have p0c0 := p0.cell 0
    have p0f0 := p0.free 0
    have p0c1 := p0.cell 1
    have p0f1 := p0.free 1
    have p0c2 := p0.cell 2
    have p0f2 := p0.free 2
    have p0c3 := p0.cell 3
    have p0f3 := p0.free 3
    have p0c4 := p0.cell 4
    have p0f4 := p0.free 4
    have p0c5 := p0.cell 5
    have p0f5 := p0.free 5
    have p0c6 := p0.cell 6
    have p0f6 := p0.free 6
    have p0l := p0.lt
    simp at p0c0 p0c1 p0c2 p0c3 p0c4 p0c5 p0c6
    have p2c0 := p2.cell 0
    have p2f0 := p2.free 0
    have p2c1 := p2.cell 1
    have p2f1 := p2.free 1
    have p2l := p2.lt
    simp at p2c0 p2c1
    go_wp2_with (go_at_call 81; (with_reducible refine (f_least2 ⟨amount c * (x + c.wlo), c.room⟩ ⟨amount c * (y + c.whi), c.room⟩ _ _ _ (by simp) K1.out K2.out).mono ?_); rintro e w1 ⟨rfl, hb1⟩; obtain ⟨hc1, hf1, hl1⟩ := bcell3 hb1; refine Blk.thru (b := w.heap.size + 1 + 1) (arr := ?_) (t := ?_) ?_ hb1 ?_; rotate_left 2; (focus (exact blk)); intro qq; have qqc0 := qq.cell 0; have qqf0 := qq.free 0; have qqc1 := qq.cell 1; have qqf1 := qq.free 1; have qql := qq.lt; simp at qqc0 qqc1)
    exact bodyPost_ret (v := .tuple #[.agg #[.int .i64 (leastLo [⟨amount c * (x + c.wlo), c.room⟩, ⟨amount c * (y + c.whi), c.room⟩]), .int .i64 (leastHi [⟨amount c * (x + c.wlo), c.room⟩, ⟨amount c * (y + c.whi), c.room⟩])], .int .i64 0]) (by simp [results, Try.results32, go_sem, qqc0, qqc1, qqf0, qqf1]) rfl ⟨by rw [E1.out, E2.out], by (exact kpt)⟩

theorem f_Valving_bad (c : Cell) (a : Air) (w : World) (hv : cellB c = false) :
    Calls Try.prog 34 #[.agg #[.int .i64 c.room, .int .i64 c.helium, .int .i64 c.air, .int .i64 c.wlo, .int .i64 c.whi, .int .i64 c.leak, .int .i64 c.owed], .agg #[.int .i64 a.plo, .int .i64 a.phi, .int .i64 a.tlo, .int .i64 a.thi]] w fun e w' => e = .returned (.tuple #[.agg #[.int .i64 0, .int .i64 0], .int .i64 31]) ∧ Kept w w' := by
  go_enter Try.func34, Try.ntmps34
  go_wp2_with (go_at_call 80; (with_reducible refine (f_put_bad c a _ hv).mono ?_); rintro e w1 ⟨rfl, hb1⟩; obtain ⟨hc1, hf1, hl1⟩ := bcell3 hb1)
  exact bodyPost_ret (v := .tuple #[.agg #[.int .i64 0, .int .i64 0], .int .i64 31]) (by simp [results, Try.results34, go_sem, hc1, hf1, hl1]) rfl ⟨rfl, by (exact kpt)⟩

theorem f_Valving_air (c : Cell) (a : Air) (w : World) (hv : cellB c = true) (ha : airB a = false) :
    Calls Try.prog 34 #[.agg #[.int .i64 c.room, .int .i64 c.helium, .int .i64 c.air, .int .i64 c.wlo, .int .i64 c.whi, .int .i64 c.leak, .int .i64 c.owed], .agg #[.int .i64 a.plo, .int .i64 a.phi, .int .i64 a.tlo, .int .i64 a.thi]] w fun e w' => e = .returned (.tuple #[.agg #[.int .i64 0, .int .i64 0], .int .i64 30]) ∧ Kept w w' := by
  go_enter Try.func34, Try.ntmps34
  go_wp2_with (go_at_call 80; (with_reducible refine (f_put_air c a _ hv ha).mono ?_); rintro e w1 ⟨rfl, hb1⟩; obtain ⟨hc1, hf1, hl1⟩ := bcell3 hb1)
  exact bodyPost_ret (v := .tuple #[.agg #[.int .i64 0, .int .i64 0], .int .i64 30]) (by simp [results, Try.results34, go_sem, hc1, hf1, hl1]) rfl ⟨rfl, by (exact kpt)⟩

set_option maxHeartbeats 4000000 in
theorem f_Valving_ok (c : Cell) (a : Air) (w : World) (hv : cellB c = true) (ha : airB a = true) :
    Calls Try.prog 34 #[.agg #[.int .i64 c.room, .int .i64 c.helium, .int .i64 c.air, .int .i64 c.wlo, .int .i64 c.whi, .int .i64 c.leak, .int .i64 c.owed], .agg #[.int .i64 a.plo, .int .i64 a.phi, .int .i64 a.tlo, .int .i64 a.thi]] w fun e w' => e = .returned (.tuple #[.agg #[.int .i64 (valveLo c a), .int .i64 (valveHi c a)], .int .i64 0]) ∧ Kept w w' := by
  obtain ⟨n0, n1, _, q0, q1, q2, q3⟩ := prod_bd hv ha
  obtain ⟨⟨h7, h8, h9⟩, h10, h11, h12⟩ := airB_iff.1 ha
  obtain ⟨⟨v1, v2⟩, _, _, _, _, u3, u4, u5⟩ := cellB_iff.1 hv
  have t1 : 0 < heatLo c a ∧ heatLo c a ≤ 4000 := by unfold heatLo; omega
  have t2 : 0 < heatHi c a ∧ heatHi c a ≤ 4000 := by unfold heatHi; omega
  have d1 : -120000000000 ≤ down ⟨c.room * a.phi, heatLo c a⟩ ∧ down ⟨c.room * a.phi, heatLo c a⟩ ≤ 120000000000 := div_bd (N := 120000000000) (a := c.room * a.phi) (by omega) q3 t1.1 (by omega)
  have d2 : -120000000000 ≤ down ⟨c.room * a.plo, heatHi c a⟩ ∧ down ⟨c.room * a.plo, heatHi c a⟩ ≤ 120000000000 := div_bd (N := 120000000000) (a := c.room * a.plo) (by omega) q1 t2.1 (by omega)
  have K1 := Lib.hid (show 0 < heatLo c a ∧ heatLo c a ≤ 1000000000000000 ∧ -1000000000000000 ≤ c.room * a.phi ∧ c.room * a.phi ≤ 1000000000000000 by omega)
  have K2 := Lib.hid (show 0 < heatHi c a ∧ heatHi c a ≤ 1000000000000000 ∧ -1000000000000000 ≤ c.room * a.plo ∧ c.room * a.plo ≤ 1000000000000000 by omega)
  obtain ⟨D1, hD1⟩ : ∃ D, D = down ⟨c.room * a.phi, heatLo c a⟩ := ⟨_, rfl⟩
  obtain ⟨D2, hD2⟩ : ∃ D, D = down ⟨c.room * a.plo, heatHi c a⟩ := ⟨_, rfl⟩
  have F1 := Lib.hid (fun w => f_down ⟨c.room * a.phi, heatLo c a⟩ w K1.out.1 K1.out.2.1 K1.out.2.2.1 K1.out.2.2.2)
  have F2 := Lib.hid (fun w => f_down ⟨c.room * a.plo, heatHi c a⟩ w K2.out.1 K2.out.2.1 K2.out.2.2.1 K2.out.2.2.2)
  rw [← hD1] at d1 F1
  rw [← hD2] at d2 F2
  have e1 : valveLo c a = (max (amount c - D1) 0) := by rw [hD1]; rfl
  have e2 : valveHi c a = (max (amount c - D2) 0) := by rw [hD2]; rfl
  rw [e1, e2]
  clear e1 e2 hD1 hD2 K1 K2
  have HW1 := i64_in (n := c.room * a.phi) (by omega)
  have HW2 := i64_in (n := c.room * a.plo) (by omega)
  have HV := Lib.hid hv
  have HA := Lib.hid ha
  clear hv ha
  go_enter Try.func34, Try.ntmps34
  go_wp2_with (go_at_call 80; (with_reducible refine (f_put_good c a _ HV.out HA.out).mono ?_); rintro e w1 ⟨rfl, hb1⟩; obtain ⟨hc1, hf1, hl1⟩ := bcell3 hb1)
  go_upto_region 4 with fail
  refine at_world (S := fun W => Blk W w.heap.size #[.int .i64 c.room, .int .i64 c.helium, .int .i64 c.air, .int .i64 c.wlo, .int .i64 c.whi, .int .i64 c.leak, .int .i64 c.owed] 25 ∧ Blk W (w.heap.size + 1) #[.int .i64 a.plo, .int .i64 a.phi, .int .i64 a.tlo, .int .i64 a.thi] 27 ∧ Blk W (w.heap.size + 1 + 1) #[.int .i64 0, .int .i64 0] 23 ∧ Blk W w1.heap.size #[.int .i64 c.room, .int .i64 c.helium, .int .i64 c.air, .int .i64 c.wlo, .int .i64 c.whi, .int .i64 c.leak, .int .i64 c.owed, .int .i64 a.plo, .int .i64 a.phi, .int .i64 a.tlo, .int .i64 a.thi, .int .i64 (amount c), .int .i64 (heatLo c a), .int .i64 (heatHi c a)] 144 ∧ Kept w W) ⟨by (exact blk), by (exact blk), by (exact blk), by (exact blk), by (exact kpt)⟩ ?_
  clear hc1 hf1 hl1
  rintro W ⟨r0, r1, r2, r3, hk⟩
  have r0k0 : ∀ w', Kept W w' → w'.cell? ⟨w.heap.size, 0, none⟩ = _ := fun w' h => (r0.keep h).cell 0
  simp at r0k0
  have r1k0 : ∀ w', Kept W w' → w'.cell? ⟨w.heap.size + 1, 0, none⟩ = _ := fun w' h => (r1.keep h).cell 0
  have r1k1 : ∀ w', Kept W w' → w'.cell? ⟨w.heap.size + 1, 1, none⟩ = _ := fun w' h => (r1.keep h).cell 1
  simp at r1k0 r1k1
  have r3k12 : ∀ w', Kept W w' → w'.cell? ⟨w1.heap.size, 12, none⟩ = _ := fun w' h => (r3.keep h).cell 12
  have r3k13 : ∀ w', Kept W w' → w'.cell? ⟨w1.heap.size, 13, none⟩ = _ := fun w' h => (r3.keep h).cell 13
  simp at r3k12 r3k13
  go_cut [8, 9] (fun s8 s9 wx => ∃ g h, s8 = .pointer (some ⟨g, 0, none⟩) ∧ s9 = .pointer (some ⟨h, 0, none⟩) ∧ Blk wx g #[.int .i64 (c.room * a.phi), .int .i64 (heatLo c a)] 149 ∧ Blk wx h #[.int .i64 (c.room * a.plo), .int .i64 (heatHi c a)] 149 ∧ Blk wx (w.heap.size + 1 + 1) #[.int .i64 0, .int .i64 0] 23 ∧ Blk wx w1.heap.size #[.int .i64 c.room, .int .i64 c.helium, .int .i64 c.air, .int .i64 c.wlo, .int .i64 c.whi, .int .i64 c.leak, .int .i64 c.owed, .int .i64 a.plo, .int .i64 a.phi, .int .i64 a.tlo, .int .i64 a.thi, .int .i64 (amount c), .int .i64 (heatLo c a), .int .i64 (heatHi c a)] 144 ∧ Kept w wx)
  case first =>
    go_region_held3 (fun w' => Kept W w') (exact kpt) (fail)
    all_goals (go_wp2_with fail; go_meet)
    all_goals
      refine ⟨_, _, rfl, rfl, ?_, ?_, ?_, ?_, ?_⟩
      · first | exact Blk.drew (Blk.new' (by simp)) | exact Blk.drew (Blk.alloc (Blk.new' (by simp)) _)
      · first | exact Blk.drew (Blk.new' (by simp)) | exact Blk.drew (Blk.alloc (Blk.new' (by simp)) _)
      · (exact blk)
      · (exact blk)
      · (exact kpt)
  case rest =>
    clear r0k0 r1k0 r1k1 r3k12 r3k13 r0 r1 r2 r3 hk
    obtain ⟨g, h, rfl, rfl, hall⟩ := hcut
    go_upto_region 5 with fail
    refine at_world (S := fun wx => Blk wx g #[.int .i64 (c.room * a.phi), .int .i64 (heatLo c a)] 149 ∧ Blk wx h #[.int .i64 (c.room * a.plo), .int .i64 (heatHi c a)] 149 ∧ Blk wx (w.heap.size + 1 + 1) #[.int .i64 0, .int .i64 0] 23 ∧ Blk wx w1.heap.size #[.int .i64 c.room, .int .i64 c.helium, .int .i64 c.air, .int .i64 c.wlo, .int .i64 c.whi, .int .i64 c.leak, .int .i64 c.owed, .int .i64 a.plo, .int .i64 a.phi, .int .i64 a.tlo, .int .i64 a.thi, .int .i64 (amount c), .int .i64 (heatLo c a), .int .i64 (heatHi c a)] 144 ∧ Kept w wx) hall ?_
    clear hall
    rintro wx ⟨p1, p2, p0, p3, hk⟩
    have p1c0 := fun g : Later wx => (p1.later g).cell 0
    have p1f0 := fun g : Later wx => (p1.later g).free 0
    have p1c1 := fun g : Later wx => (p1.later g).cell 1
    have p1f1 := fun g : Later wx => (p1.later g).free 1
    have p1l := fun g : Later wx => (p1.later g).lt
    simp at p1c0 p1c1
    have p2c0 := fun g : Later wx => (p2.later g).cell 0
    have p2f0 := fun g : Later wx => (p2.later g).free 0
    have p2c1 := fun g : Later wx => (p2.later g).cell 1
    have p2f1 := fun g : Later wx => (p2.later g).free 1
    have p2l := fun g : Later wx => (p2.later g).lt
    simp at p2c0 p2c1
    have p0c0 := fun g : Later wx => (p0.later g).cell 0
    have p0f0 := fun g : Later wx => (p0.later g).free 0
    have p0c1 := fun g : Later wx => (p0.later g).cell 1
    have p0f1 := fun g : Later wx => (p0.later g).free 1
    have p0l := fun g : Later wx => (p0.later g).lt
    simp at p0c0 p0c1
    have p3c0 := fun g : Later wx => (p3.later g).cell 0
    have p3f0 := fun g : Later wx => (p3.later g).free 0
    have p3c1 := fun g : Later wx => (p3.later g).cell 1
    have p3f1 := fun g : Later wx => (p3.later g).free 1
    have p3c2 := fun g : Later wx => (p3.later g).cell 2
    have p3f2 := fun g : Later wx => (p3.later g).free 2
    have p3c3 := fun g : Later wx => (p3.later g).cell 3
    have p3f3 := fun g : Later wx => (p3.later g).free 3
    have p3c4 := fun g : Later wx => (p3.later g).cell 4
    have p3f4 := fun g : Later wx => (p3.later g).free 4
    have p3c5 := fun g : Later wx => (p3.later g).cell 5
    have p3f5 := fun g : Later wx => (p3.later g).free 5
    have p3c6 := fun g : Later wx => (p3.later g).cell 6
    have p3f6 := fun g : Later wx => (p3.later g).free 6
    have p3c7 := fun g : Later wx => (p3.later g).cell 7
    have p3f7 := fun g : Later wx => (p3.later g).free 7
    have p3c8 := fun g : Later wx => (p3.later g).cell 8
    have p3f8 := fun g : Later wx => (p3.later g).free 8
    have p3c9 := fun g : Later wx => (p3.later g).cell 9
    have p3f9 := fun g : Later wx => (p3.later g).free 9
    have p3c10 := fun g : Later wx => (p3.later g).cell 10
    have p3f10 := fun g : Later wx => (p3.later g).free 10
    have p3c11 := fun g : Later wx => (p3.later g).cell 11
    have p3f11 := fun g : Later wx => (p3.later g).free 11
    have p3l := fun g : Later wx => (p3.later g).lt
    simp at p3c0 p3c1 p3c2 p3c3 p3c4 p3c5 p3c6 p3c7 p3c8 p3c9 p3c10 p3c11
    refine later_mix [(false, 0), (false, 1), (false, 2), (false, 3), (false, 4), (true, 5), (false, 6), (false, 7), (false, 8), (false, 9), (false, 10), (true, 11), (false, 12)] 13 [14] (by kernel_rfl) (by kernel_rfl) ?_
    simp only [List.filterMap_cons, List.filterMap_nil, List.getElem?_cons_zero, List.getElem?_cons_succ, Option.map_some]
    repeat (refine wpSteps_quiet ?_; (first | go_big_quiet_skip | (go_big_quiet_want; go_big_quiet_op; first | go_big_quiet_on | (apply Exists.intro; refine ⟨fun g => ?_, ?_⟩; (focus (first | (go_at_call 95; with_reducible exact Later.call (F1.out _)) | (go_at_call 95; with_reducible exact Later.call (F2.out _)))); go_big_quiet_on))); refine wpQuiet_nil ?_)
    refine wpSteps_any (.int .i64 (max (amount c - D1) 0)) rfl (fun w => ?_) ?_
    · first | (go_simp; done) | (go_simp; simp [ite_max]; done) | (go_simp; split <;> omega) | (go_simp; simp; split <;> omega) | trace_state
    simp only [Act.put, List.setIfInBounds_toArray, List.set_cons_zero, List.set_cons_succ]
    repeat (refine wpSteps_quiet ?_; (first | go_big_quiet_skip | (go_big_quiet_want; go_big_quiet_op; first | go_big_quiet_on | (apply Exists.intro; refine ⟨fun g => ?_, ?_⟩; (focus (first | (go_at_call 95; with_reducible exact Later.call (F1.out _)) | (go_at_call 95; with_reducible exact Later.call (F2.out _)))); go_big_quiet_on))); refine wpQuiet_nil ?_)
    refine wpSteps_any (.int .i64 (max (amount c - D2) 0)) rfl (fun w => ?_) ?_
    · first | (go_simp; done) | (go_simp; simp [ite_max]; done) | (go_simp; split <;> omega) | (go_simp; simp; split <;> omega) | trace_state
    simp only [Act.put, List.setIfInBounds_toArray, List.set_cons_zero, List.set_cons_succ]
    repeat (refine wpSteps_quiet ?_; (first | go_big_quiet_skip | (go_big_quiet_want; go_big_quiet_op; first | go_big_quiet_on | (apply Exists.intro; refine ⟨fun g => ?_, ?_⟩; (focus (first | (go_at_call 95; with_reducible exact Later.call (F1.out _)) | (go_at_call 95; with_reducible exact Later.call (F2.out _)))); go_big_quiet_on))); refine wpQuiet_nil ?_)
    refine wpSteps_nil ?_
    intro gg
    have hkgg := Kept.drop hk gg.ok
    try simp only [ite_min, ite_max]
    go_wp2
    refine NoPanic.normal ?_
    go_wp2
    have y0 := p0.later gg
    have y0c0 := y0.cell 0
    have y0f0 := y0.free 0
    have y0c1 := y0.cell 1
    have y0f1 := y0.free 1
    have y0l := y0.lt
    simp at y0c0 y0c1
    exact bodyPost_ret (v := .tuple #[.agg #[.int .i64 ((max (amount c - D1) 0)), .int .i64 ((max (amount c - D2) 0))], .int .i64 0]) (by simp [results, Try.results34, go_sem, y0c0, y0c1, y0f0, y0f1]) rfl ⟨rfl, by (exact kpt)⟩

end Go.Proofs.Ytemafanncejeiaa

/-
  What a gauge allows of a cell: the program.
-/
namespace Go.Proofs.Ytemafanncejeiaa
open Go.RowKit Bal Bal.Trim Bal.Gas
set_option linter.unusedVariables false
set_option linter.unusedSimpArgs false
set_option maxHeartbeats 4000000
set_option maxRecDepth 100000

theorem blkx {w : World} {b : Nat} {arr : Array Value} {t : TypeId} (h : Blk w b arr t := by (refine Blk.cast (arr := ?_) ?_ ?_; rotate_left 1; (focus (repeat (first | with_reducible assumption | ((with_reducible refine Blk.new' ?_); first | with_reducible rfl | (simp; done) | (simp [World.drew]; done)) | with_reducible refine Blk.alloc ?_ _ | ((with_reducible refine Blk.set (arr := ?_) ?_ _ _); rotate_left 1) | ((with_reducible refine Blk.other ?_ ?_ _); rotate_left 1; (focus (first | (simp; done) | (simp; omega) | (refine Nat.ne_of_gt (Blk.lt (arr := ?_) (t := ?_) ?_); rotate_left 2; focus (exact blk0)) | (refine Nat.ne_of_lt (Blk.lt (arr := ?_) (t := ?_) ?_); rotate_left 2; focus (exact blk0)))); rotate_right 1) | with_reducible refine Blk.keep ?_ (by with_reducible assumption) | with_reducible refine Blk.drew ?_))); (first | rfl | (simp; done)))) : Blk w b arr t := h
theorem f_allowed (h : Hist) (s : Spot) (w : World) (hh : HistAt h s w) (ho : HistOk h) (i c : Nat) (hi : i < h.gauges.length) (hc : c < h.warm.length) :
    Calls Try.prog 125 #[.agg #[.slice s.aw h.warm.length s.cw, .slice s.ag h.gauges.length s.cg, .slice s.af h.flows.length s.cf], .int .i64 i, .int .i64 c] w fun e w' => e = .returned (.agg #[.int .i64 (alLo h i c), .int .i64 (alHi h i c)]) ∧ Kept w w' := by
  have hcw := hh.wc
  have hcm := hh.wm
  have hgc := hh.gc
  have hgm := hh.gm
  have hfc := hh.fc
  have hfm := hh.fm
  unfold maxLen at hcm hgm hfm
  obtain ⟨aw, ag, af, cw, cg, cf⟩ := s
  simp only at hcw hcm hgc hgm hfc hfm
  have R1 := Lib.hid (show ∀ W, Kept w W → Row Sp.cells 2 W.heap.size W aw h.warm from fun W hW => (hh.later hW).warm)
  have R2 := Lib.hid (show ∀ W, Kept w W → Row Gauge.cells 6 W.heap.size W ag h.gauges from fun W hW => (hh.later hW).gauges)
  have RV0 := fun (W : World) (hW : Kept w W) => (hh.later hW).volsAt i hi
  have hbd := al_bd ho hi hc
  have hvl := ho.vlen i hi
  have hvc := hh.vc _ (List.getElem_mem hi)
  rw [gAt_get hi] at hvc
  have hai := airB_iff.1 (ho.air i hi)
  have hwb := ho.warm c hc
  have HLO0 : alLo h i c = -((-((vAt (gAt h i) c).lo * (gAt h i).air.plo)) / ((gAt h i).air.thi + (wAt h c).hi)) := rfl
  have HHI0 : alHi h i c = (vAt (gAt h i) c).hi * (gAt h i).air.phi / ((gAt h i).air.tlo + (wAt h c).lo) := rfl
  obtain ⟨g, hg⟩ : ∃ g, g = gAt h i := ⟨_, rfl⟩
  obtain ⟨x, hx⟩ : ∃ x, x = wAt h c := ⟨_, rfl⟩
  rw [← hg] at RV0 hvl hvc hbd hai HLO0 HHI0
  rw [← hx] at hbd hwb HLO0 HHI0
  obtain ⟨y, hy⟩ : ∃ y, y = vAt g c := ⟨_, rfl⟩
  rw [← hy] at hbd HLO0 HHI0
  obtain ⟨va, hva⟩ : ∃ v, v = gv g := ⟨_, rfl⟩
  rw [← hva] at RV0
  have hcv : c < g.vols.length := by omega
  have hv12 : g.vols.length ≤ 12 := by have := ho.w2; omega
  have hg30 : h.gauges.length ≤ 30 := ho.g2
  have hw12 : h.warm.length ≤ 12 := ho.w2
  have RV := Lib.hid RV0
  have HLO := Lib.hid HLO0
  have HHI := Lib.hid HHI0
  have HG := Lib.hid hg
  have HX := Lib.hid hx
  have HY := Lib.hid hy
  have HVA := Lib.hid hva
  obtain ⟨⟨d0, d1, d2⟩, ⟨m0, m1⟩, ⟨m2, m3⟩, ⟨l0_, l1_⟩, l2_, l3_⟩ := hbd
  clear hg hx hy hva RV0 HLO0 HHI0 hvl l0_ l1_ l2_ l3_
  obtain ⟨bg, og, hag, hbg, g0, g1, g2, g3, g4, g5⟩ := Gauge.row (R2.out _ (Below.refl _ _)) i hi
  rw [gAt_get hi, ← HG.out] at g0 g1 g2 g3 g4 g5
  rw [← HVA.out] at g5
  subst hag
  go_enter Try.func125, Try.ntmps125
  go_upto_region 2 with fail
  clear g0 g1 g2 g3 g4 g5
  refine at_world (S := fun V => Blk V w.heap.size #[.slice aw h.warm.length cw, .slice (some ⟨bg, og, none⟩) h.gauges.length cg, .slice af h.flows.length cf] 85 ∧ Blk V (w.heap.size + 1) #[.int .i64 0, .int .i64 0] 23 ∧ Blk V (w.heap.size + 1 + 1) #[.int .i64 g.time, .int .i64 g.air.plo, .int .i64 g.air.phi, .int .i64 g.air.tlo, .int .i64 g.air.thi, .slice va g.vols.length g.vc] 124 ∧ Kept w V) ⟨by (exact blkc), by (exact blkc), by (exact blkc), by (exact kpt)⟩ ?_
  rintro V ⟨q0, q1, q6, hkV⟩
  obtain ⟨bw, ow, haw, hbw, c0, c1⟩ := Sp.row (R1.out _ hkV) c hc
  rw [wAt_get hc, ← HX.out] at c0 c1
  obtain ⟨bv, ov, hva2, hbv, v0, v1⟩ := Sp.row (RV.out _ hkV) c hcv
  rw [vAt_get hcv, ← HY.out] at v0 v1
  subst haw hva2
  go_cut [8, 9] (fun s8 s9 wx => ∃ n8 n9, s8 = .pointer (some ⟨n8, 0, none⟩) ∧ s9 = .pointer (some ⟨n9, 0, none⟩) ∧ Blk wx n8 #[.int .i64 y.lo, .int .i64 y.hi] 23 ∧ Blk wx n9 #[.int .i64 (g.air.tlo + x.lo), .int .i64 (g.air.thi + x.hi)] 23 ∧ Blk wx w.heap.size #[.slice (some ⟨bw, ow, none⟩) h.warm.length cw, .slice (some ⟨bg, og, none⟩) h.gauges.length cg, .slice af h.flows.length cf] 85 ∧ Blk wx (w.heap.size + 1) #[.int .i64 0, .int .i64 0] 23 ∧ Blk wx (w.heap.size + 1 + 1) #[.int .i64 g.time, .int .i64 g.air.plo, .int .i64 g.air.phi, .int .i64 g.air.tlo, .int .i64 g.air.thi, .slice (some ⟨bv, ov, none⟩) g.vols.length g.vc] 124 ∧ Kept w wx)
  case first =>
    have q0k0 : ∀ w', Kept V w' → w'.cell? ⟨w.heap.size, 0, none⟩ = _ := fun w' h => (q0.keep h).cell 0
    have q0k1 : ∀ w', Kept V w' → w'.cell? ⟨w.heap.size, 1, none⟩ = _ := fun w' h => (q0.keep h).cell 1
    have q0k2 : ∀ w', Kept V w' → w'.cell? ⟨w.heap.size, 2, none⟩ = _ := fun w' h => (q0.keep h).cell 2
    simp at q0k0 q0k1 q0k2
    have q6k0 : ∀ w', Kept V w' → w'.cell? ⟨(w.heap.size + 1 + 1), 0, none⟩ = _ := fun w' h => (q6.keep h).cell 0
    have q6k1 : ∀ w', Kept V w' → w'.cell? ⟨(w.heap.size + 1 + 1), 1, none⟩ = _ := fun w' h => (q6.keep h).cell 1
    have q6k2 : ∀ w', Kept V w' → w'.cell? ⟨(w.heap.size + 1 + 1), 2, none⟩ = _ := fun w' h => (q6.keep h).cell 2
    have q6k3 : ∀ w', Kept V w' → w'.cell? ⟨(w.heap.size + 1 + 1), 3, none⟩ = _ := fun w' h => (q6.keep h).cell 3
    have q6k4 : ∀ w', Kept V w' → w'.cell? ⟨(w.heap.size + 1 + 1), 4, none⟩ = _ := fun w' h => (q6.keep h).cell 4
    have q6k5 : ∀ w', Kept V w' → w'.cell? ⟨(w.heap.size + 1 + 1), 5, none⟩ = _ := fun w' h => (q6.keep h).cell 5
    simp at q6k0 q6k1 q6k2 q6k3 q6k4 q6k5
    have y0 : ∀ w', Kept V w' → w'.cell? ⟨bw, ow + c * 2, none⟩ = _ := fun w' h => (h.cell (p := ⟨bw, ow + c * 2, none⟩) hbw).trans c0
    have y1 : ∀ w', Kept V w' → w'.cell? ⟨bw, ow + c * 2 + 1, none⟩ = _ := fun w' h => (h.cell (p := ⟨bw, ow + c * 2 + 1, none⟩) hbw).trans c1
    have z0 : ∀ w', Kept V w' → w'.cell? ⟨bv, ov + c * 2, none⟩ = _ := fun w' h => (h.cell (p := ⟨bv, ov + c * 2, none⟩) hbv).trans v0
    have z1 : ∀ w', Kept V w' → w'.cell? ⟨bv, ov + c * 2 + 1, none⟩ = _ := fun w' h => (h.cell (p := ⟨bv, ov + c * 2 + 1, none⟩) hbv).trans v1
    have l0 := q0.lt
    have l1 := q1.lt
    have l6 := q6.lt
    clear c0 c1 v0 v1
    go_region_held3 (fun w' => Kept V w') (exact kpt) (first | (go_at_call 93; (with_reducible refine (f_heated_ok g.air.tlo g.air.thi x.lo x.hi _ ?_).mono ?_); (focus omega); rintro e w3 ⟨rfl, hb3⟩; (first | (refine Blk.thru (b := V.heap.size) (arr := #[.int .i64 0, .int .i64 0]) (t := 23) ?_ hb3 ?_; (focus (first | with_reducible assumption | (refine Blk.new' ?_; (focus (simp; done))) | (refine Blk.drew (Blk.new' ?_); (focus (simp; done))) | (refine Blk.alloc (Blk.new' ?_) _; (focus (simp; done))) | (refine Blk.drew (Blk.alloc (Blk.new' ?_) _); (focus (simp; done))) | (refine Blk.alloc (Blk.drew (Blk.new' ?_)) _; (focus (simp; done))) | (refine Blk.alloc ?_ _; with_reducible assumption) | (refine Blk.drew ?_; with_reducible assumption) | (refine Blk.drew (Blk.alloc ?_ _); with_reducible assumption) | fail)); intro ta; have tac0 := ta.cell 0; have taf0 := ta.free 0; have tac1 := ta.cell 1; have taf1 := ta.free 1; have tal := ta.lt; simp at tac0 tac1) | skip); (first | (refine Blk.thru (b := V.heap.size + 1) (arr := #[.int .i64 0, .int .i64 0]) (t := 23) ?_ hb3 ?_; (focus (first | with_reducible assumption | (refine Blk.new' ?_; (focus (simp; done))) | (refine Blk.drew (Blk.new' ?_); (focus (simp; done))) | (refine Blk.alloc (Blk.new' ?_) _; (focus (simp; done))) | (refine Blk.drew (Blk.alloc (Blk.new' ?_) _); (focus (simp; done))) | (refine Blk.alloc (Blk.drew (Blk.new' ?_)) _; (focus (simp; done))) | (refine Blk.alloc ?_ _; with_reducible assumption) | (refine Blk.drew ?_; with_reducible assumption) | (refine Blk.drew (Blk.alloc ?_ _); with_reducible assumption) | fail)); intro tb; have tbc0 := tb.cell 0; have tbf0 := tb.free 0; have tbc1 := tb.cell 1; have tbf1 := tb.free 1; have tbl := tb.lt; simp at tbc0 tbc1) | skip)) | fail)
    all_goals (go_wp2_with fail; go_meet)
    all_goals exact ⟨_, _, rfl, rfl, by exact blkx, by exact blkx, by (exact blkc), by (exact blkc), by (exact blkc), by (exact kpt)⟩
  case rest =>
    clear q0 q1 q6 hkV c0 c1 v0 v1
    obtain ⟨n8, n9, rfl, rfl, q8, q9, q0, q1, q6, hk⟩ := hcut
    go_upto_region 3 with fail
    refine at_world (S := fun Y => Blk Y n8 #[.int .i64 y.lo, .int .i64 y.hi] 23 ∧ Blk Y n9 #[.int .i64 (g.air.tlo + x.lo), .int .i64 (g.air.thi + x.hi)] 23 ∧ Blk Y w.heap.size #[.slice (some ⟨bw, ow, none⟩) h.warm.length cw, .slice (some ⟨bg, og, none⟩) h.gauges.length cg, .slice af h.flows.length cf] 85 ∧ Blk Y (w.heap.size + 1) #[.int .i64 0, .int .i64 0] 23 ∧ Blk Y (w.heap.size + 1 + 1) #[.int .i64 g.time, .int .i64 g.air.plo, .int .i64 g.air.phi, .int .i64 g.air.tlo, .int .i64 g.air.thi, .slice (some ⟨bv, ov, none⟩) g.vols.length g.vc] 124 ∧ Kept w Y) ⟨q8, q9, q0, q1, q6, hk⟩ ?_
    clear q8 q9 q0 q1 q6 hk
    rintro Y ⟨q8, q9, q0, q1, q6, hkY⟩
    have q8c0 := fun g : Later Y => (q8.later g).cell 0
    have q8f0 := fun g : Later Y => (q8.later g).free 0
    have q8c1 := fun g : Later Y => (q8.later g).cell 1
    have q8f1 := fun g : Later Y => (q8.later g).free 1
    have q8l := fun g : Later Y => (q8.later g).lt
    simp at q8c0 q8c1
    have q9c0 := fun g : Later Y => (q9.later g).cell 0
    have q9f0 := fun g : Later Y => (q9.later g).free 0
    have q9c1 := fun g : Later Y => (q9.later g).cell 1
    have q9f1 := fun g : Later Y => (q9.later g).free 1
    have q9l := fun g : Later Y => (q9.later g).lt
    simp at q9c0 q9c1
    have q6c0 := fun g : Later Y => (q6.later g).cell 0
    have q6f0 := fun g : Later Y => (q6.later g).free 0
    have q6c1 := fun g : Later Y => (q6.later g).cell 1
    have q6f1 := fun g : Later Y => (q6.later g).free 1
    have q6c2 := fun g : Later Y => (q6.later g).cell 2
    have q6f2 := fun g : Later Y => (q6.later g).free 2
    have q6c3 := fun g : Later Y => (q6.later g).cell 3
    have q6f3 := fun g : Later Y => (q6.later g).free 3
    have q6c4 := fun g : Later Y => (q6.later g).cell 4
    have q6f4 := fun g : Later Y => (q6.later g).free 4
    have q6c5 := fun g : Later Y => (q6.later g).cell 5
    have q6f5 := fun g : Later Y => (q6.later g).free 5
    have q6l := fun g : Later Y => (q6.later g).lt
    simp at q6c0 q6c1 q6c2 q6c3 q6c4 q6c5
    have w1 := i64_inH (n := y.lo * g.air.plo) (by omega)
    have w2 := i64_inH (n := y.hi * g.air.phi) (by omega)
    obtain ⟨L, hL⟩ : ∃ n, n = alLo h i c := ⟨_, rfl⟩
    obtain ⟨H, hH⟩ : ∃ n, n = alHi h i c := ⟨_, rfl⟩
    have KC : ∀ W, Calls Try.prog 133 #[.agg #[.int .i64 (y.lo * g.air.plo), .int .i64 (g.air.thi + x.hi)]] W fun e w' => e = .returned (.int .i64 L) ∧ Kept W w' := fun W => by
      have k := f_up ⟨y.lo * g.air.plo, g.air.thi + x.hi⟩ W (by simp only; omega) (by simp only; omega) (by simp only; omega) (by simp only; omega)
      rwa [show up ⟨y.lo * g.air.plo, g.air.thi + x.hi⟩ = L by rw [hL, HLO.out]; rfl] at k
    have KF : ∀ W, Calls Try.prog 95 #[.agg #[.int .i64 (y.hi * g.air.phi), .int .i64 (g.air.tlo + x.lo)]] W fun e w' => e = .returned (.int .i64 H) ∧ Kept W w' := fun W => by
      have k := f_down ⟨y.hi * g.air.phi, g.air.tlo + x.lo⟩ W (by simp only; omega) (by simp only; omega) (by simp only; omega) (by simp only; omega)
      rwa [show down ⟨y.hi * g.air.phi, g.air.tlo + x.lo⟩ = H by rw [hH, HHI.out]; rfl] at k
    have HL := Lib.hid hL
    have HH := Lib.hid hH
    clear hL hH
    refine Later.tail 23 (by kernel_rfl) (by kernel_rfl) ?_
    simp only [List.take_succ_cons, List.take_zero, List.drop_succ_cons, List.drop_zero]
    repeat (first | go_big_quiet_skip | (go_big_quiet_want; go_big_quiet_op; first | go_big_quiet_on | (apply Exists.intro; refine ⟨fun g_ => ?_, ?_⟩; (focus (first | (go_at_call 133; with_reducible exact Later.call (KC _)) | (go_at_call 95; with_reducible exact Later.call (KF _)))); go_big_quiet_on)))
    refine wpQuiet_nil ?_
    intro gg
    refine wpList_plain rfl fun K1 hK1 => ?_
    clear q8c0 q8f0 q8c1 q8f1 q8l q9c0 q9f0 q9c1 q9f1 q9l q6c0 q6f0 q6c1 q6f1 q6c2 q6f2 q6c3 q6f3 q6c4 q6f4 q6c5 q6f5 q6l
    have n1 := q1.later gg
    have hkg := Kept.drop hkY gg.ok
    have n1c0 := n1.cell 0
    have n1f0 := n1.free 0
    have n1c1 := n1.cell 1
    have n1f1 := n1.free 1
    have n1l := n1.lt
    simp at n1c0 n1c1
    go_wp2
    exact bodyPost_ret (v := .agg #[.int .i64 L, .int .i64 H]) (by simp [results, Try.results125, go_sem, n1c0, n1f0, n1c1, n1f1]) rfl ⟨by rw [HL.out, HH.out], by (exact kpt)⟩

end Go.Proofs.Ytemafanncejeiaa

/-
  The amounts that a gauge allows: both.
-/
namespace Go.Proofs.Ytemafanncejeiaa
open Go.RowKit Bal Bal.Trim Bal.Gas
set_option linter.unusedVariables false
set_option linter.unusedSimpArgs false
set_option maxHeartbeats 4000000
set_option maxRecDepth 100000

theorem f_Amounts_bad (h : Hist) (s : Spot) (w : World) (hh : HistAt h s w) (gi ci : Int) (hb : histB h = false) : Calls Try.prog 56 #[.agg #[.slice s.aw h.warm.length s.cw, .slice s.ag h.gauges.length s.cg, .slice s.af h.flows.length s.cf], .int .i64 gi, .int .i64 ci] w fun e w' => e = .returned (.tuple #[.agg #[.int .i64 (0), .int .i64 (0)], .int .i64 (34)]) ∧ Kept w w' := by
  have HE := Lib.hid (show histE h = 34 by unfold histE; rw [hb]; rfl)
  clear hb
  go_enter Try.func56, Try.ntmps56
  go_wp2_with (go_at_call 64; (with_reducible refine (f_CheckHistory h s _ (hh.later (by (exact kpt)))).mono ?_); rw [HE.out]; rintro e w1 ⟨rfl, hb1⟩; refine Blk.thru (b := w.heap.size) (arr := ?_) (t := ?_) ?_ hb1 ?_; rotate_left 2; (focus (exact blk)); intro rr; have rrc0 := rr.cell 0; have rrf0 := rr.free 0; have rrc1 := rr.cell 1; have rrf1 := rr.free 1; have rrc2 := rr.cell 2; have rrf2 := rr.free 2; have rrl := rr.lt; simp at rrc0 rrc1 rrc2; refine Blk.thru (b := (w.heap.size + 1)) (arr := ?_) (t := ?_) ?_ hb1 ?_; rotate_left 2; (focus (exact blk)); intro rq; have rqc0 := rq.cell 0; have rqf0 := rq.free 0; have rqc1 := rq.cell 1; have rqf1 := rq.free 1; have rql := rq.lt; simp at rqc0 rqc1)
  exact bodyPost_ret (v := .tuple #[.agg #[.int .i64 0, .int .i64 0], .int .i64 34]) (by simp [results, Try.results56, go_sem, rqc0, rqf0, rqc1, rqf1, rql, rrl]) rfl ⟨rfl, by (exact kpt)⟩

theorem f_Amounts_arg (h : Hist) (s : Spot) (w : World) (hh : HistAt h s w) (gi ci : Int) (hb : histB h = true) (hk : (inB gi 0 (h.gauges.length - 1) && inB ci 0 (h.warm.length - 1)) = false) : Calls Try.prog 56 #[.agg #[.slice s.aw h.warm.length s.cw, .slice s.ag h.gauges.length s.cg, .slice s.af h.flows.length s.cf], .int .i64 gi, .int .i64 ci] w fun e w' => e = .returned (.tuple #[.agg #[.int .i64 (0), .int .i64 (0)], .int .i64 (2)]) ∧ Kept w w' := by
  have ho := histB_ok hb
  have b1 := ho.g1
  have b2 := ho.g2
  have b3 := ho.w1
  have b4 := ho.w2
  have HE := Lib.hid (show histE h = 0 by unfold histE; rw [hb]; rfl)
  clear hb ho
  cases k1 : inB gi 0 (h.gauges.length - 1)
  · have K1 := Lib.hid k1
    clear k1 hk
    go_enter Try.func56, Try.ntmps56
    go_wp2_with (first | (go_at_call 64; (with_reducible refine (f_CheckHistory h s _ (hh.later (by (exact kpt)))).mono ?_); rw [HE.out]; rintro e w1 ⟨rfl, hb1⟩; refine Blk.thru (b := w.heap.size) (arr := ?_) (t := ?_) ?_ hb1 ?_; rotate_left 2; (focus (exact blk)); intro rr; have rrc0 := rr.cell 0; have rrf0 := rr.free 0; have rrc1 := rr.cell 1; have rrf1 := rr.free 1; have rrc2 := rr.cell 2; have rrf2 := rr.free 2; have rrl := rr.lt; simp at rrc0 rrc1 rrc2; refine Blk.thru (b := (w.heap.size + 1)) (arr := ?_) (t := ?_) ?_ hb1 ?_; rotate_left 2; (focus (exact blk)); intro rq; have rqc0 := rq.cell 0; have rqf0 := rq.free 0; have rqc1 := rq.cell 1; have rqf1 := rq.free 1; have rql := rq.lt; simp at rqc0 rqc1) | (go_at_call 91; (with_reducible refine (f_rangedQ gi 0 ((h.gauges.length : Int) - 1) _ K1.out _ _ _ (by simp)).mono ?_); rintro e w9 ⟨rfl, rfl⟩))
    exact bodyPost_ret (v := .tuple #[.agg #[.int .i64 0, .int .i64 0], .int .i64 2]) (by simp [results, Try.results56, go_sem, rqc0, rqf0, rqc1, rqf1, rql, rrl]) rfl ⟨rfl, by (exact kpt)⟩
  · have k2 : inB ci 0 (h.warm.length - 1) = false := by simpa [k1] using hk
    have K1 := Lib.hid k1
    have K2 := Lib.hid k2
    clear k1 k2 hk
    go_enter Try.func56, Try.ntmps56
    go_wp2_with (first | (go_at_call 64; (with_reducible refine (f_CheckHistory h s _ (hh.later (by (exact kpt)))).mono ?_); rw [HE.out]; rintro e w1 ⟨rfl, hb1⟩; refine Blk.thru (b := w.heap.size) (arr := ?_) (t := ?_) ?_ hb1 ?_; rotate_left 2; (focus (exact blk)); intro rr; have rrc0 := rr.cell 0; have rrf0 := rr.free 0; have rrc1 := rr.cell 1; have rrf1 := rr.free 1; have rrc2 := rr.cell 2; have rrf2 := rr.free 2; have rrl := rr.lt; simp at rrc0 rrc1 rrc2; refine Blk.thru (b := (w.heap.size + 1)) (arr := ?_) (t := ?_) ?_ hb1 ?_; rotate_left 2; (focus (exact blk)); intro rq; have rqc0 := rq.cell 0; have rqf0 := rq.free 0; have rqc1 := rq.cell 1; have rqf1 := rq.free 1; have rql := rq.lt; simp at rqc0 rqc1) | (go_at_call 91; (with_reducible refine (f_rangedQ gi 0 ((h.gauges.length : Int) - 1) _ K1.out _ _ _ (by simp)).mono ?_); rintro e w9 ⟨rfl, rfl⟩) | (go_at_call 91; (with_reducible refine (f_rangedQ ci 0 ((h.warm.length : Int) - 1) _ K2.out _ _ _ (by simp)).mono ?_); rintro e w9 ⟨rfl, rfl⟩))
    exact bodyPost_ret (v := .tuple #[.agg #[.int .i64 0, .int .i64 0], .int .i64 2]) (by simp [results, Try.results56, go_sem, rqc0, rqf0, rqc1, rqf1, rql, rrl]) rfl ⟨rfl, by (exact kpt)⟩

theorem f_Amounts_ok (h : Hist) (s : Spot) (w : World) (hh : HistAt h s w) (i c : Nat) (hb : histB h = true) (hi : i < h.gauges.length) (hc : c < h.warm.length) :
    Calls Try.prog 56 #[.agg #[.slice s.aw h.warm.length s.cw, .slice s.ag h.gauges.length s.cg, .slice s.af h.flows.length s.cf], .int .i64 (i : Int), .int .i64 (c : Int)] w fun e w' => e = .returned (.tuple #[.agg #[.int .i64 (Bal.Gas.ifOk (if alHi h i c < alLo h i c then 6 else 0) (alLo h i c)), .int .i64 (Bal.Gas.ifOk (if alHi h i c < alLo h i c then 6 else 0) (alHi h i c))], .int .i64 (if alHi h i c < alLo h i c then 6 else 0)]) ∧ Kept w w' := by
  have ho := histB_ok hb
  have b1 := ho.g1
  have b2 := ho.g2
  have b3 := ho.w1
  have b4 := ho.w2
  obtain ⟨L, hL⟩ : ∃ n, n = alLo h i c := ⟨_, rfl⟩
  obtain ⟨H, hH⟩ : ∃ n, n = alHi h i c := ⟨_, rfl⟩
  rw [← hL, ← hH]
  have HL := Lib.hid hL.symm
  have HH := Lib.hid hH.symm
  have HE := Lib.hid (show histE h = 0 by unfold histE; rw [hb]; rfl)
  have K1 := Lib.hid (show inB (i : Int) 0 (h.gauges.length - 1) = true by simp [inB]; omega)
  have K2 := Lib.hid (show inB (c : Int) 0 (h.warm.length - 1) = true by simp [inB]; omega)
  clear hb hL hH
  by_cases hlt : H < L
  · have d1 : decide (H < L) = true := by simp [hlt]
    rw [if_pos hlt]
    rw [show Bal.Gas.ifOk 6 L = 0 from rfl, show Bal.Gas.ifOk 6 H = 0 from rfl]
    clear hlt
    go_enter Try.func56, Try.ntmps56
    go_wp2_with (first | (go_at_call 64; (with_reducible refine (f_CheckHistory h s _ (hh.later (by (exact kpt)))).mono ?_); rw [HE.out]; rintro e w1 ⟨rfl, hb1⟩; refine Blk.thru (b := w.heap.size) (arr := ?_) (t := ?_) ?_ hb1 ?_; rotate_left 2; (focus (exact blk)); intro rr; have rrc0 := rr.cell 0; have rrf0 := rr.free 0; have rrc1 := rr.cell 1; have rrf1 := rr.free 1; have rrc2 := rr.cell 2; have rrf2 := rr.free 2; have rrl := rr.lt; simp at rrc0 rrc1 rrc2; refine Blk.thru (b := (w.heap.size + 1)) (arr := ?_) (t := ?_) ?_ hb1 ?_; rotate_left 2; (focus (exact blk)); intro rq; have rqc0 := rq.cell 0; have rqf0 := rq.free 0; have rqc1 := rq.cell 1; have rqf1 := rq.free 1; have rql := rq.lt; simp at rqc0 rqc1) | (go_at_call 91; (with_reducible refine (f_rangedQ (i : Int) 0 ((h.gauges.length : Int) - 1) _ K1.out _ _ _ (by simp)).mono ?_); rintro e w9 ⟨rfl, rfl⟩) | (go_at_call 91; (with_reducible refine (f_rangedQ (c : Int) 0 ((h.warm.length : Int) - 1) _ K2.out _ _ _ (by simp)).mono ?_); rintro e w9 ⟨rfl, rfl⟩) | (go_at_call 125; (with_reducible refine (f_allowed h s _ (hh.later (by (exact kpt))) ho i c hi hc).mono ?_); rw [HL.out, HH.out]; rintro e w2 ⟨rfl, hb2⟩; refine Blk.thru (b := (w.heap.size + 1)) (arr := ?_) (t := ?_) ?_ hb2 ?_; rotate_left 2; (focus (exact blk)); intro rt; have rtc0 := rt.cell 0; have rtf0 := rt.free 0; have rtc1 := rt.cell 1; have rtf1 := rt.free 1; have rtl := rt.lt; simp at rtc0 rtc1))
    exact bodyPost_ret (v := .tuple #[.agg #[.int .i64 0, .int .i64 0], .int .i64 6]) (by simp [results, Try.results56, go_sem, rtc0, rtf0, rtc1, rtf1, rtl]) rfl ⟨rfl, by (exact kpt)⟩
  · have d1 : decide (H < L) = false := by simp; omega
    rw [if_neg hlt]
    rw [show Bal.Gas.ifOk 0 L = L from rfl, show Bal.Gas.ifOk 0 H = H from rfl]
    clear hlt
    go_enter Try.func56, Try.ntmps56
    go_wp2_with (first | (go_at_call 64; (with_reducible refine (f_CheckHistory h s _ (hh.later (by (exact kpt)))).mono ?_); rw [HE.out]; rintro e w1 ⟨rfl, hb1⟩; refine Blk.thru (b := w.heap.size) (arr := ?_) (t := ?_) ?_ hb1 ?_; rotate_left 2; (focus (exact blk)); intro rr; have rrc0 := rr.cell 0; have rrf0 := rr.free 0; have rrc1 := rr.cell 1; have rrf1 := rr.free 1; have rrc2 := rr.cell 2; have rrf2 := rr.free 2; have rrl := rr.lt; simp at rrc0 rrc1 rrc2; refine Blk.thru (b := (w.heap.size + 1)) (arr := ?_) (t := ?_) ?_ hb1 ?_; rotate_left 2; (focus (exact blk)); intro rq; have rqc0 := rq.cell 0; have rqf0 := rq.free 0; have rqc1 := rq.cell 1; have rqf1 := rq.free 1; have rql := rq.lt; simp at rqc0 rqc1) | (go_at_call 91; (with_reducible refine (f_rangedQ (i : Int) 0 ((h.gauges.length : Int) - 1) _ K1.out _ _ _ (by simp)).mono ?_); rintro e w9 ⟨rfl, rfl⟩) | (go_at_call 91; (with_reducible refine (f_rangedQ (c : Int) 0 ((h.warm.length : Int) - 1) _ K2.out _ _ _ (by simp)).mono ?_); rintro e w9 ⟨rfl, rfl⟩) | (go_at_call 125; (with_reducible refine (f_allowed h s _ (hh.later (by (exact kpt))) ho i c hi hc).mono ?_); rw [HL.out, HH.out]; rintro e w2 ⟨rfl, hb2⟩; refine Blk.thru (b := (w.heap.size + 1)) (arr := ?_) (t := ?_) ?_ hb2 ?_; rotate_left 2; (focus (exact blk)); intro rt; have rtc0 := rt.cell 0; have rtf0 := rt.free 0; have rtc1 := rt.cell 1; have rtf1 := rt.free 1; have rtl := rt.lt; simp at rtc0 rtc1))
    exact bodyPost_ret (v := .tuple #[.agg #[.int .i64 L, .int .i64 H], .int .i64 0]) (by simp [results, Try.results56, go_sem, rtc0, rtf0, rtc1, rtf1, rtl]) rfl ⟨rfl, by (exact kpt)⟩
theorem f_Amounts (h : Hist) (s : Spot) (w : World) (hh : HistAt h s w) (gi ci : Int) : Calls Try.prog 56 #[.agg #[.slice s.aw h.warm.length s.cw, .slice s.ag h.gauges.length s.cg, .slice s.af h.flows.length s.cf], .int .i64 gi, .int .i64 ci] w fun e w' => e = .returned (.tuple #[.agg #[.int .i64 (Bal.Gas.ifOk (amtE h gi ci) (alLo h gi.toNat ci.toNat)), .int .i64 (Bal.Gas.ifOk (amtE h gi ci) (alHi h gi.toNat ci.toNat))], .int .i64 (amtE h gi ci)]) ∧ Kept w w' := by
  cases hb : histB h
  · rw [show amtE h gi ci = 34 by simp [amtE, hb]]
    exact f_Amounts_bad h s w hh gi ci hb
  · cases hk : (inB gi 0 (h.gauges.length - 1) && inB ci 0 (h.warm.length - 1))
    · rw [show amtE h gi ci = 2 by simp [amtE, hb, hk]]
      exact f_Amounts_arg h s w hh gi ci hb hk
    · have hk2 := hk
      rw [Bool.and_eq_true, inB_iff, inB_iff] at hk2
      obtain ⟨⟨g0, g1⟩, c0, c1⟩ := hk2
      obtain ⟨i, rfl⟩ := Int.eq_ofNat_of_zero_le g0
      obtain ⟨c, rfl⟩ := Int.eq_ofNat_of_zero_le c0
      rw [show amtE h i c = if alHi h i c < alLo h i c then 6 else 0 by simp only [amtE, hb, hk, if_true, Int.toNat_natCast]]
      exact f_Amounts_ok h s w hh i c hb (by omega) (by omega)

theorem r_Amounts_bad (h : Hist) (s : Spot) (w : World) (hh : HistAt h s w) (gi ci : Int) (hb : histB h = false) : Calls Try.prog 57 #[.agg #[.slice s.aw h.warm.length s.cw, .slice s.ag h.gauges.length s.cg, .slice s.af h.flows.length s.cf], .int .i64 gi, .int .i64 ci] w fun e w' => e = .returned (.tuple #[.agg #[.int .i64 (0), .int .i64 (0)], .int .i64 (34)]) ∧ Kept w w' := by
  have HE := Lib.hid hb
  clear hb
  go_enter Try.func57, Try.ntmps57
  go_wp2_with (go_at_call 126; (with_reducible refine (r_History h s _ (hh.later (by (exact kpt)))).mono ?_); rw [HE.out]; rintro e w1 ⟨rfl, hb1⟩; refine Blk.thru (b := w.heap.size) (arr := ?_) (t := ?_) ?_ hb1 ?_; rotate_left 2; (focus (exact blk)); intro rr; have rrc0 := rr.cell 0; have rrf0 := rr.free 0; have rrc1 := rr.cell 1; have rrf1 := rr.free 1; have rrc2 := rr.cell 2; have rrf2 := rr.free 2; have rrl := rr.lt; simp at rrc0 rrc1 rrc2; refine Blk.thru (b := (w.heap.size + 1)) (arr := ?_) (t := ?_) ?_ hb1 ?_; rotate_left 2; (focus (exact blk)); intro rq; have rqc0 := rq.cell 0; have rqf0 := rq.free 0; have rqc1 := rq.cell 1; have rqf1 := rq.free 1; have rql := rq.lt; simp at rqc0 rqc1)
  exact bodyPost_ret (v := .tuple #[.agg #[.int .i64 0, .int .i64 0], .int .i64 34]) (by simp [results, Try.results57, go_sem, rqc0, rqf0, rqc1, rqf1, rql, rrl]) rfl ⟨rfl, by (exact kpt)⟩

theorem r_Amounts_arg (h : Hist) (s : Spot) (w : World) (hh : HistAt h s w) (gi ci : Int) (hb : histB h = true) (hk : (inB gi 0 (h.gauges.length - 1) && inB ci 0 (h.warm.length - 1)) = false) : Calls Try.prog 57 #[.agg #[.slice s.aw h.warm.length s.cw, .slice s.ag h.gauges.length s.cg, .slice s.af h.flows.length s.cf], .int .i64 gi, .int .i64 ci] w fun e w' => e = .returned (.tuple #[.agg #[.int .i64 (0), .int .i64 (0)], .int .i64 (2)]) ∧ Kept w w' := by
  have ho := histB_ok hb
  have b1 := ho.g1
  have b2 := ho.g2
  have b3 := ho.w1
  have b4 := ho.w2
  have HE := Lib.hid hb
  clear hb ho
  cases k1 : inB gi 0 (h.gauges.length - 1)
  · have K1 := Lib.hid k1
    clear k1 hk
    go_enter Try.func57, Try.ntmps57
    go_wp2_with (first | (go_at_call 126; (with_reducible refine (r_History h s _ (hh.later (by (exact kpt)))).mono ?_); rw [HE.out]; rintro e w1 ⟨rfl, hb1⟩; refine Blk.thru (b := w.heap.size) (arr := ?_) (t := ?_) ?_ hb1 ?_; rotate_left 2; (focus (exact blk)); intro rr; have rrc0 := rr.cell 0; have rrf0 := rr.free 0; have rrc1 := rr.cell 1; have rrf1 := rr.free 1; have rrc2 := rr.cell 2; have rrf2 := rr.free 2; have rrl := rr.lt; simp at rrc0 rrc1 rrc2; refine Blk.thru (b := (w.heap.size + 1)) (arr := ?_) (t := ?_) ?_ hb1 ?_; rotate_left 2; (focus (exact blk)); intro rq; have rqc0 := rq.cell 0; have rqf0 := rq.free 0; have rqc1 := rq.cell 1; have rqf1 := rq.free 1; have rql := rq.lt; simp at rqc0 rqc1) | (go_at_call 104; (with_reducible refine (r_within gi _ _ _).mono ?_); rw [K1.out]; rintro e w9 ⟨rfl, rfl⟩))
    exact bodyPost_ret (v := .tuple #[.agg #[.int .i64 0, .int .i64 0], .int .i64 2]) (by simp [results, Try.results57, go_sem, rqc0, rqf0, rqc1, rqf1, rql, rrl]) rfl ⟨rfl, by (exact kpt)⟩
  · have k2 : inB ci 0 (h.warm.length - 1) = false := by simpa [k1] using hk
    have K1 := Lib.hid k1
    have K2 := Lib.hid k2
    clear k1 k2 hk
    go_enter Try.func57, Try.ntmps57
    go_wp2_with (first | (go_at_call 126; (with_reducible refine (r_History h s _ (hh.later (by (exact kpt)))).mono ?_); rw [HE.out]; rintro e w1 ⟨rfl, hb1⟩; refine Blk.thru (b := w.heap.size) (arr := ?_) (t := ?_) ?_ hb1 ?_; rotate_left 2; (focus (exact blk)); intro rr; have rrc0 := rr.cell 0; have rrf0 := rr.free 0; have rrc1 := rr.cell 1; have rrf1 := rr.free 1; have rrc2 := rr.cell 2; have rrf2 := rr.free 2; have rrl := rr.lt; simp at rrc0 rrc1 rrc2; refine Blk.thru (b := (w.heap.size + 1)) (arr := ?_) (t := ?_) ?_ hb1 ?_; rotate_left 2; (focus (exact blk)); intro rq; have rqc0 := rq.cell 0; have rqf0 := rq.free 0; have rqc1 := rq.cell 1; have rqf1 := rq.free 1; have rql := rq.lt; simp at rqc0 rqc1) | (go_at_call 104; (with_reducible refine (r_within gi _ _ _).mono ?_); rw [K1.out]; rintro e w9 ⟨rfl, rfl⟩) | (go_at_call 104; (with_reducible refine (r_within ci _ _ _).mono ?_); rw [K2.out]; rintro e w9 ⟨rfl, rfl⟩))
    exact bodyPost_ret (v := .tuple #[.agg #[.int .i64 0, .int .i64 0], .int .i64 2]) (by simp [results, Try.results57, go_sem, rqc0, rqf0, rqc1, rqf1, rql, rrl]) rfl ⟨rfl, by (exact kpt)⟩

theorem r_Amounts_ok (h : Hist) (s : Spot) (w : World) (hh : HistAt h s w) (i c : Nat) (hb : histB h = true) (hi : i < h.gauges.length) (hc : c < h.warm.length) :
    Calls Try.prog 57 #[.agg #[.slice s.aw h.warm.length s.cw, .slice s.ag h.gauges.length s.cg, .slice s.af h.flows.length s.cf], .int .i64 (i : Int), .int .i64 (c : Int)] w fun e w' => e = .returned (.tuple #[.agg #[.int .i64 (Bal.Gas.ifOk (if alHi h i c < alLo h i c then 6 else 0) (alLo h i c)), .int .i64 (Bal.Gas.ifOk (if alHi h i c < alLo h i c then 6 else 0) (alHi h i c))], .int .i64 (if alHi h i c < alLo h i c then 6 else 0)]) ∧ Kept w w' := by
  have ho := histB_ok hb
  have b1 := ho.g1
  have b2 := ho.g2
  have b3 := ho.w1
  have b4 := ho.w2
  obtain ⟨L, hL⟩ : ∃ n, n = alLo h i c := ⟨_, rfl⟩
  obtain ⟨H, hH⟩ : ∃ n, n = alHi h i c := ⟨_, rfl⟩
  rw [← hL, ← hH]
  have HL := Lib.hid hL.symm
  have HH := Lib.hid hH.symm
  have HE := Lib.hid hb
  have K1 := Lib.hid (show inB (i : Int) 0 (h.gauges.length - 1) = true by simp [inB]; omega)
  have K2 := Lib.hid (show inB (c : Int) 0 (h.warm.length - 1) = true by simp [inB]; omega)
  clear hb hL hH
  by_cases hlt : H < L
  · have d1 : decide (H < L) = true := by simp [hlt]
    rw [if_pos hlt]
    rw [show Bal.Gas.ifOk 6 L = 0 from rfl, show Bal.Gas.ifOk 6 H = 0 from rfl]
    clear hlt
    go_enter Try.func57, Try.ntmps57
    go_wp2_with (first | (go_at_call 126; (with_reducible refine (r_History h s _ (hh.later (by (exact kpt)))).mono ?_); rw [HE.out]; rintro e w1 ⟨rfl, hb1⟩; refine Blk.thru (b := w.heap.size) (arr := ?_) (t := ?_) ?_ hb1 ?_; rotate_left 2; (focus (exact blk)); intro rr; have rrc0 := rr.cell 0; have rrf0 := rr.free 0; have rrc1 := rr.cell 1; have rrf1 := rr.free 1; have rrc2 := rr.cell 2; have rrf2 := rr.free 2; have rrl := rr.lt; simp at rrc0 rrc1 rrc2; refine Blk.thru (b := (w.heap.size + 1)) (arr := ?_) (t := ?_) ?_ hb1 ?_; rotate_left 2; (focus (exact blk)); intro rq; have rqc0 := rq.cell 0; have rqf0 := rq.free 0; have rqc1 := rq.cell 1; have rqf1 := rq.free 1; have rql := rq.lt; simp at rqc0 rqc1) | (go_at_call 104; (with_reducible refine (r_within (i : Int) _ _ _).mono ?_); rw [K1.out]; rintro e w9 ⟨rfl, rfl⟩) | (go_at_call 104; (with_reducible refine (r_within (c : Int) _ _ _).mono ?_); rw [K2.out]; rintro e w9 ⟨rfl, rfl⟩) | (go_at_call 127; (with_reducible refine (r_Allowed h s _ (hh.later (by (exact kpt))) ho i c hi hc).mono ?_); rw [HL.out, HH.out]; rintro e w2 ⟨rfl, hb2⟩; refine Blk.thru (b := (w.heap.size + 1)) (arr := ?_) (t := ?_) ?_ hb2 ?_; rotate_left 2; (focus (exact blk)); intro rt; have rtc0 := rt.cell 0; have rtf0 := rt.free 0; have rtc1 := rt.cell 1; have rtf1 := rt.free 1; have rtl := rt.lt; simp at rtc0 rtc1))
    exact bodyPost_ret (v := .tuple #[.agg #[.int .i64 0, .int .i64 0], .int .i64 6]) (by simp [results, Try.results57, go_sem, rtc0, rtf0, rtc1, rtf1, rtl]) rfl ⟨rfl, by (exact kpt)⟩
  · have d1 : decide (H < L) = false := by simp; omega
    rw [if_neg hlt]
    rw [show Bal.Gas.ifOk 0 L = L from rfl, show Bal.Gas.ifOk 0 H = H from rfl]
    clear hlt
    go_enter Try.func57, Try.ntmps57
    go_wp2_with (first | (go_at_call 126; (with_reducible refine (r_History h s _ (hh.later (by (exact kpt)))).mono ?_); rw [HE.out]; rintro e w1 ⟨rfl, hb1⟩; refine Blk.thru (b := w.heap.size) (arr := ?_) (t := ?_) ?_ hb1 ?_; rotate_left 2; (focus (exact blk)); intro rr; have rrc0 := rr.cell 0; have rrf0 := rr.free 0; have rrc1 := rr.cell 1; have rrf1 := rr.free 1; have rrc2 := rr.cell 2; have rrf2 := rr.free 2; have rrl := rr.lt; simp at rrc0 rrc1 rrc2; refine Blk.thru (b := (w.heap.size + 1)) (arr := ?_) (t := ?_) ?_ hb1 ?_; rotate_left 2; (focus (exact blk)); intro rq; have rqc0 := rq.cell 0; have rqf0 := rq.free 0; have rqc1 := rq.cell 1; have rqf1 := rq.free 1; have rql := rq.lt; simp at rqc0 rqc1) | (go_at_call 104; (with_reducible refine (r_within (i : Int) _ _ _).mono ?_); rw [K1.out]; rintro e w9 ⟨rfl, rfl⟩) | (go_at_call 104; (with_reducible refine (r_within (c : Int) _ _ _).mono ?_); rw [K2.out]; rintro e w9 ⟨rfl, rfl⟩) | (go_at_call 127; (with_reducible refine (r_Allowed h s _ (hh.later (by (exact kpt))) ho i c hi hc).mono ?_); rw [HL.out, HH.out]; rintro e w2 ⟨rfl, hb2⟩; refine Blk.thru (b := (w.heap.size + 1)) (arr := ?_) (t := ?_) ?_ hb2 ?_; rotate_left 2; (focus (exact blk)); intro rt; have rtc0 := rt.cell 0; have rtf0 := rt.free 0; have rtc1 := rt.cell 1; have rtf1 := rt.free 1; have rtl := rt.lt; simp at rtc0 rtc1))
    exact bodyPost_ret (v := .tuple #[.agg #[.int .i64 L, .int .i64 H], .int .i64 0]) (by simp [results, Try.results57, go_sem, rtc0, rtf0, rtc1, rtf1, rtl]) rfl ⟨rfl, by (exact kpt)⟩
theorem r_Amounts (h : Hist) (s : Spot) (w : World) (hh : HistAt h s w) (gi ci : Int) : Calls Try.prog 57 #[.agg #[.slice s.aw h.warm.length s.cw, .slice s.ag h.gauges.length s.cg, .slice s.af h.flows.length s.cf], .int .i64 gi, .int .i64 ci] w fun e w' => e = .returned (.tuple #[.agg #[.int .i64 (Bal.Gas.ifOk (amtE h gi ci) (alLo h gi.toNat ci.toNat)), .int .i64 (Bal.Gas.ifOk (amtE h gi ci) (alHi h gi.toNat ci.toNat))], .int .i64 (amtE h gi ci)]) ∧ Kept w w' := by
  cases hb : histB h
  · rw [show amtE h gi ci = 34 by simp [amtE, hb]]
    exact r_Amounts_bad h s w hh gi ci hb
  · cases hk : (inB gi 0 (h.gauges.length - 1) && inB ci 0 (h.warm.length - 1))
    · rw [show amtE h gi ci = 2 by simp [amtE, hb, hk]]
      exact r_Amounts_arg h s w hh gi ci hb hk
    · have hk2 := hk
      rw [Bool.and_eq_true, inB_iff, inB_iff] at hk2
      obtain ⟨⟨g0, g1⟩, c0, c1⟩ := hk2
      obtain ⟨i, rfl⟩ := Int.eq_ofNat_of_zero_le g0
      obtain ⟨c, rfl⟩ := Int.eq_ofNat_of_zero_le c0
      rw [show amtE h i c = if alHi h i c < alLo h i c then 6 else 0 by simp only [amtE, hb, hk, if_true, Int.toNat_natCast]]
      exact r_Amounts_ok h s w hh i c hb (by omega) (by omega)

end Go.Proofs.Ytemafanncejeiaa

/-
  The reference: clashes.
-/
namespace Go.Proofs.Ytemafanncejeiaa
open Go.RowKit Bal Bal.Trim Bal.Gas
set_option linter.unusedVariables false
set_option linter.unusedSimpArgs false
set_option maxHeartbeats 4000000
set_option maxRecDepth 100000

theorem kptx {w w' : World} (h : Kept w w' := by (repeat (first | with_reducible exact Below.refl _ _ | with_reducible assumption | with_reducible refine Kept.drop ?_ (by with_reducible assumption) | with_reducible refine Kept.alloc ?_ _ | ((with_reducible refine Below.setCell ?_ ?_ _); rotate_left 1; (focus (first | exact Nat.le_refl _ | (simp; done) | (simp; omega) | exact Below.size (by with_reducible assumption) | (refine Kept.size ?_; (exact kpt0)) | (refine Nat.le_succ_of_le (Kept.size ?_); (exact kpt0))))) | with_reducible refine Below.drew ?_))) : Kept w w' := h
theorem r_clashes (h : Hist) (s : Spot) (w : World) (hh : HistAt h s w) (ho : HistOk h) (c p t : Nat) (hf : p < h.gauges.length) (ht : t < h.gauges.length) (hc : c < h.warm.length) :
    Calls Try.prog 132 #[.agg #[.slice s.aw h.warm.length s.cw, .slice s.ag h.gauges.length s.cg, .slice s.af h.flows.length s.cf], .int .i64 c, .int .i64 p, .int .i64 t] w fun e w' => e = .returned (.bool (clashB h c p t)) ∧ Kept w w' := by
  obtain ⟨L1, hL1⟩ : ∃ n, n = alLo h p c := ⟨_, rfl⟩
  obtain ⟨H1, hH1⟩ : ∃ n, n = alHi h p c := ⟨_, rfl⟩
  obtain ⟨L2, hL2⟩ : ∃ n, n = alLo h t c := ⟨_, rfl⟩
  obtain ⟨H2, hH2⟩ : ∃ n, n = alHi h t c := ⟨_, rfl⟩
  obtain ⟨CM, hCM⟩ : ∃ n, n = come h c (tt h p) (tt h t) := ⟨_, rfl⟩
  have bd1 := (al_bd ho hf hc).2.2.2
  have bd2 := come_bd ho c (tt h p) (tt h t) h.flows.length
  rw [← come_all, ← hCM] at bd2
  rw [← hL1, ← hH1] at bd1
  have HCL := Lib.hid (show clashB h c p t = if p = t then decide (H1 < L1) else decide (L1 ≤ H1) && decide (L2 ≤ H2) && decide (H1 + CM < L2) by unfold clashB; rw [← hL1, ← hH1, ← hL2, ← hH2, ← hCM])
  have E1 := Lib.hid hL1.symm
  have E2 := Lib.hid hH1.symm
  have E3 := Lib.hid hL2.symm
  have E4 := Lib.hid hH2.symm
  have E5 := Lib.hid hCM.symm
  have b2 := ho.g2
  have b4 := ho.w2
  clear hL1 hH1 hL2 hH2 hCM
  go_enter Try.func132, Try.ntmps132
  go_upto_region 1 with fail
  refine at_world (S := fun V => Blk V w.heap.size #[.slice s.aw h.warm.length s.cw, .slice s.ag h.gauges.length s.cg, .slice s.af h.flows.length s.cf] 85 ∧ Kept w V) ⟨by (exact blkc), by (exact kpt)⟩ ?_
  rintro V ⟨q0, hkV⟩
  go_cut [9, 10] (fun s9 s10 wx => ∃ n9 n10, s9 = .pointer (some ⟨n9, 0, none⟩) ∧ s10 = .pointer (some ⟨n10, 0, none⟩) ∧ Blk wx n9 #[.int .i64 L1, .int .i64 H1] 23 ∧ Blk wx n10 #[.int .i64 L2, .int .i64 H2] 23 ∧ Blk wx w.heap.size #[.slice s.aw h.warm.length s.cw, .slice s.ag h.gauges.length s.cg, .slice s.af h.flows.length s.cf] 85 ∧ Kept w wx)
  case first =>
    have q0k0 : ∀ w', Kept V w' → w'.cell? ⟨w.heap.size, 0, none⟩ = _ := fun w' h => (q0.keep h).cell 0
    have q0k1 : ∀ w', Kept V w' → w'.cell? ⟨w.heap.size, 1, none⟩ = _ := fun w' h => (q0.keep h).cell 1
    have q0k2 : ∀ w', Kept V w' → w'.cell? ⟨w.heap.size, 2, none⟩ = _ := fun w' h => (q0.keep h).cell 2
    simp at q0k0 q0k1 q0k2
    have l0 := q0.lt
    go_region_held3 (fun w' => Kept V w') (exact kptx) (first | (go_at_call 127; (with_reducible refine (r_Allowed h s _ (hh.later (by (exact kpt))) ho p c hf hc).mono ?_); rw [E1.out, E2.out]; rintro e w3 ⟨rfl, hb3⟩; (first | (refine Blk.thru (b := V.heap.size) (arr := #[.int .i64 0, .int .i64 0]) (t := 23) ?_ hb3 ?_; (focus (first | with_reducible assumption | (refine Blk.new' ?_; (focus (simp; done))) | (refine Blk.drew (Blk.new' ?_); (focus (simp; done))) | (refine Blk.alloc (Blk.new' ?_) _; (focus (simp; done))) | (refine Blk.drew (Blk.alloc (Blk.new' ?_) _); (focus (simp; done))) | (refine Blk.alloc (Blk.drew (Blk.new' ?_)) _; (focus (simp; done))) | (refine Blk.alloc ?_ _; with_reducible assumption) | (refine Blk.drew ?_; with_reducible assumption) | (refine Blk.drew (Blk.alloc ?_ _); with_reducible assumption) | fail)); intro ta; have tac0 := ta.cell 0; have taf0 := ta.free 0; have tac1 := ta.cell 1; have taf1 := ta.free 1; have tal := ta.lt; simp at tac0 tac1) | skip); (first | (refine Blk.thru (b := V.heap.size + 1) (arr := #[.int .i64 0, .int .i64 0]) (t := 23) ?_ hb3 ?_; (focus (first | with_reducible assumption | (refine Blk.new' ?_; (focus (simp; done))) | (refine Blk.drew (Blk.new' ?_); (focus (simp; done))) | (refine Blk.alloc (Blk.new' ?_) _; (focus (simp; done))) | (refine Blk.drew (Blk.alloc (Blk.new' ?_) _); (focus (simp; done))) | (refine Blk.alloc (Blk.drew (Blk.new' ?_)) _; (focus (simp; done))) | (refine Blk.alloc ?_ _; with_reducible assumption) | (refine Blk.drew ?_; with_reducible assumption) | (refine Blk.drew (Blk.alloc ?_ _); with_reducible assumption) | fail)); intro tb; have tbc0 := tb.cell 0; have tbf0 := tb.free 0; have tbc1 := tb.cell 1; have tbf1 := tb.free 1; have tbl := tb.lt; simp at tbc0 tbc1) | skip)) | (go_at_call 127; (with_reducible refine (r_Allowed h s _ (hh.later (by (exact kpt))) ho t c ht hc).mono ?_); rw [E3.out, E4.out]; rintro e w4 ⟨rfl, hb4⟩; (first | (refine Blk.thru (b := V.heap.size) (arr := #[.int .i64 0, .int .i64 0]) (t := 23) ?_ hb4 ?_; (focus (first | with_reducible assumption | (refine Blk.new' ?_; (focus (simp; done))) | (refine Blk.drew (Blk.new' ?_); (focus (simp; done))) | (refine Blk.alloc (Blk.new' ?_) _; (focus (simp; done))) | (refine Blk.drew (Blk.alloc (Blk.new' ?_) _); (focus (simp; done))) | (refine Blk.alloc (Blk.drew (Blk.new' ?_)) _; (focus (simp; done))) | (refine Blk.alloc ?_ _; with_reducible assumption) | (refine Blk.drew ?_; with_reducible assumption) | (refine Blk.drew (Blk.alloc ?_ _); with_reducible assumption) | fail)); intro tc; have tcc0 := tc.cell 0; have tcf0 := tc.free 0; have tcc1 := tc.cell 1; have tcf1 := tc.free 1; have tcl := tc.lt; simp at tcc0 tcc1) | skip); (first | (refine Blk.thru (b := V.heap.size + 1) (arr := #[.int .i64 0, .int .i64 0]) (t := 23) ?_ hb4 ?_; (focus (first | with_reducible assumption | (refine Blk.new' ?_; (focus (simp; done))) | (refine Blk.drew (Blk.new' ?_); (focus (simp; done))) | (refine Blk.alloc (Blk.new' ?_) _; (focus (simp; done))) | (refine Blk.drew (Blk.alloc (Blk.new' ?_) _); (focus (simp; done))) | (refine Blk.alloc (Blk.drew (Blk.new' ?_)) _; (focus (simp; done))) | (refine Blk.alloc ?_ _; with_reducible assumption) | (refine Blk.drew ?_; with_reducible assumption) | (refine Blk.drew (Blk.alloc ?_ _); with_reducible assumption) | fail)); intro td; have tdc0 := td.cell 0; have tdf0 := td.free 0; have tdc1 := td.cell 1; have tdf1 := td.free 1; have tdl := td.lt; simp at tdc0 tdc1) | skip); (first | (refine Blk.thru (b := w3.heap.size) (arr := #[.int .i64 0, .int .i64 0]) (t := 23) ?_ hb4 ?_; (focus (first | with_reducible assumption | (refine Blk.new' ?_; (focus (simp; done))) | (refine Blk.drew (Blk.new' ?_); (focus (simp; done))) | (refine Blk.alloc (Blk.new' ?_) _; (focus (simp; done))) | (refine Blk.drew (Blk.alloc (Blk.new' ?_) _); (focus (simp; done))) | (refine Blk.alloc (Blk.drew (Blk.new' ?_)) _; (focus (simp; done))) | (refine Blk.alloc ?_ _; with_reducible assumption) | (refine Blk.drew ?_; with_reducible assumption) | (refine Blk.drew (Blk.alloc ?_ _); with_reducible assumption) | fail)); intro te; have tec0 := te.cell 0; have tef0 := te.free 0; have tec1 := te.cell 1; have tef1 := te.free 1; have tel := te.lt; simp at tec0 tec1) | skip); (first | (refine Blk.thru (b := w3.heap.size + 1) (arr := #[.int .i64 0, .int .i64 0]) (t := 23) ?_ hb4 ?_; (focus (first | with_reducible assumption | (refine Blk.new' ?_; (focus (simp; done))) | (refine Blk.drew (Blk.new' ?_); (focus (simp; done))) | (refine Blk.alloc (Blk.new' ?_) _; (focus (simp; done))) | (refine Blk.drew (Blk.alloc (Blk.new' ?_) _); (focus (simp; done))) | (refine Blk.alloc (Blk.drew (Blk.new' ?_)) _; (focus (simp; done))) | (refine Blk.alloc ?_ _; with_reducible assumption) | (refine Blk.drew ?_; with_reducible assumption) | (refine Blk.drew (Blk.alloc ?_ _); with_reducible assumption) | fail)); intro tf; have tfc0 := tf.cell 0; have tff0 := tf.free 0; have tfc1 := tf.cell 1; have tff1 := tf.free 1; have tfl := tf.lt; simp at tfc0 tfc1) | skip)) | fail)
    all_goals (go_wp2_with fail; go_meet)
    all_goals
      have hz3 := hb3.size
      have hz4 := hb4.size
      (try simp only [World.size_alloc] at hz3)
      (try simp only [World.size_alloc] at hz4)
      (try simp at hz3)
      (try simp at hz4)
      exact ⟨_, _, rfl, rfl, by exact blkx, by exact blkx, by exact blkx, by exact kptx⟩
  case rest =>
    clear q0 hkV
    obtain ⟨n9, n10, rfl, rfl, q9, q10, q0, hk⟩ := hcut
    by_cases hpt : p = t
    · have e1 : ((p : Int) == (t : Int)) = true := by simp [hpt]
      have e2 : (p == t) = true := by simp [hpt]
      have e3 : decide (p = t) = true := by simp [hpt]
      have HB := Lib.hid (show clashB h c p t = decide (H1 < L1) by rw [HCL.out, if_pos hpt])
      clear hpt
      have q9c0 := q9.cell 0
      have q9f0 := q9.free 0
      have q9c1 := q9.cell 1
      have q9f1 := q9.free 1
      have q9l := q9.lt
      simp at q9c0 q9c1
      go_wp2
      go_ret
      exact ⟨ret_bool HB.out.symm, by (exact kpt)⟩
    · have e1 : ((p : Int) == (t : Int)) = false := by simp; omega
      have e2 : (p == t) = false := by simp [hpt]
      have e3 : decide (p = t) = false := by simp [hpt]
      have HB0 := Lib.hid (show clashB h c p t = (decide (L1 ≤ H1) && decide (L2 ≤ H2) && decide (H1 + CM < L2)) by rw [HCL.out, if_neg hpt])
      clear hpt
      go_upto_region 4 with fail
      refine at_world (S := fun Y => Blk Y n9 #[.int .i64 L1, .int .i64 H1] 23 ∧ Blk Y n10 #[.int .i64 L2, .int .i64 H2] 23 ∧ Blk Y w.heap.size #[.slice s.aw h.warm.length s.cw, .slice s.ag h.gauges.length s.cg, .slice s.af h.flows.length s.cf] 85 ∧ Kept w Y) ⟨q9, q10, q0, hk⟩ ?_
      clear q9 q10 q0 hk
      rintro Y ⟨q9, q10, q0, hkY⟩
      have KCM : ∀ W, Kept Y W → Calls Try.prog 140 #[.agg #[.slice s.aw h.warm.length s.cw, .slice s.ag h.gauges.length s.cg, .slice s.af h.flows.length s.cf], .int .i64 c, .int .i64 p, .int .i64 t] W fun e w' => e = .returned (.int .i64 CM) ∧ Kept W w' := fun W hW => by
        have k := r_Come h s W (hh.later (Kept.drop hkY hW)) ho c p t hf ht hc
        rwa [E5.out] at k
      have q9c0 := fun g : Later Y => (q9.later g).cell 0
      have q9f0 := fun g : Later Y => (q9.later g).free 0
      have q9c1 := fun g : Later Y => (q9.later g).cell 1
      have q9f1 := fun g : Later Y => (q9.later g).free 1
      have q9l := fun g : Later Y => (q9.later g).lt
      simp at q9c0 q9c1
      have q10c0 := fun g : Later Y => (q10.later g).cell 0
      have q10f0 := fun g : Later Y => (q10.later g).free 0
      have q10c1 := fun g : Later Y => (q10.later g).cell 1
      have q10f1 := fun g : Later Y => (q10.later g).free 1
      have q10l := fun g : Later Y => (q10.later g).lt
      simp at q10c0 q10c1
      have q0c0 := fun g : Later Y => (q0.later g).cell 0
      have q0f0 := fun g : Later Y => (q0.later g).free 0
      have q0c1 := fun g : Later Y => (q0.later g).cell 1
      have q0f1 := fun g : Later Y => (q0.later g).free 1
      have q0c2 := fun g : Later Y => (q0.later g).cell 2
      have q0f2 := fun g : Later Y => (q0.later g).free 2
      have q0l := fun g : Later Y => (q0.later g).lt
      simp at q0c0 q0c1 q0c2
      have g1 := i64_inH (n := H1 + CM) (by omega)
      by_cases k1 : L1 ≤ H1
      · have d1 : decide (L1 ≤ H1) = true := by simp [k1]
        by_cases k2 : L2 ≤ H2
        · have d2 : decide (L2 ≤ H2) = true := by simp [k2]
          have HB := Lib.hid (show clashB h c p t = decide (H1 + CM < L2) by rw [HB0.out]; simp [k1, k2])
          clear k1 k2
          refine Later.region (by kernel_rfl) (by kernel_rfl) ?_
          repeat (first | go_big_quiet_skip | (go_big_quiet_want; go_big_quiet_op; first | go_big_quiet_on | (apply Exists.intro; refine ⟨fun g_ => ?_, ?_⟩; (focus (first | (go_at_call 140; with_reducible exact Later.call (KCM _ g_.ok)))); go_big_quiet_on)))
          refine wpQuiet_nil ?_
          intro gg
          have hkg := Kept.drop hkY gg.ok
          go_wp2
          go_ret
          exact ⟨ret_bool HB.out.symm, by (exact kpt)⟩
        · have d2 : decide (L2 ≤ H2) = false := by simp; omega
          have HB := Lib.hid (show clashB h c p t = false by rw [HB0.out]; simp [k2])
          clear k1 k2
          refine Later.region (by kernel_rfl) (by kernel_rfl) ?_
          repeat (first | go_big_quiet_skip | (go_big_quiet_want; go_big_quiet_op; first | go_big_quiet_on | (apply Exists.intro; refine ⟨fun g_ => ?_, ?_⟩; (focus (first | (go_at_call 140; with_reducible exact Later.call (KCM _ g_.ok)))); go_big_quiet_on)))
          refine wpQuiet_nil ?_
          intro gg
          have hkg := Kept.drop hkY gg.ok
          go_wp2
          go_ret
          exact ⟨ret_bool HB.out.symm, by (exact kpt)⟩
      · have d1 : decide (L1 ≤ H1) = false := by simp; omega
        have HB := Lib.hid (show clashB h c p t = false by rw [HB0.out]; simp [k1])
        clear k1
        refine Later.region (by kernel_rfl) (by kernel_rfl) ?_
        repeat (first | go_big_quiet_skip | (go_big_quiet_want; go_big_quiet_op; first | go_big_quiet_on | (apply Exists.intro; refine ⟨fun g_ => ?_, ?_⟩; (focus (first | (go_at_call 140; with_reducible exact Later.call (KCM _ g_.ok)))); go_big_quiet_on)))
        refine wpQuiet_nil ?_
        intro gg
        have hkg := Kept.drop hkY gg.ok
        go_wp2
        go_ret
        exact ⟨ret_bool HB.out.symm, by (exact kpt)⟩

end Go.Proofs.Ytemafanncejeiaa

/-
  The reference: the first clash.
-/
namespace Go.Proofs.Ytemafanncejeiaa
open Go.RowKit Bal Bal.Trim Bal.Gas
set_option linter.unusedVariables false
set_option linter.unusedSimpArgs false
set_option maxHeartbeats 4000000
set_option maxRecDepth 100000

theorem r_Conflict (h : Hist) (s : Spot) (w : World) (hh : HistAt h s w) : Calls Try.prog 63 #[.agg #[.slice s.aw h.warm.length s.cw, .slice s.ag h.gauges.length s.cg, .slice s.af h.flows.length s.cf]] w fun e w' => e = .returned (.tuple #[.agg #[.int .i64 (cfC h), .int .i64 (cfF h), .int .i64 (cfT h)], .int .i64 (confE h)]) ∧ Kept w w' := by
  cases hb : histB h
  · have HB := Lib.hid hb
    have HC := Lib.hid (cf_bad hb)
    clear hb
    go_enter Try.func63, Try.ntmps63
    go_wp2_with (go_at_call 126; (with_reducible refine (r_History h s _ (hh.later (by (exact kpt)))).mono ?_); rw [HB.out]; rintro e w1 ⟨rfl, hb1⟩; refine Blk.thru (b := w.heap.size) (arr := ?_) (t := ?_) ?_ hb1 ?_; rotate_left 2; (focus (exact blk)); intro rr; have rrc0 := rr.cell 0; have rrf0 := rr.free 0; have rrc1 := rr.cell 1; have rrf1 := rr.free 1; have rrc2 := rr.cell 2; have rrf2 := rr.free 2; have rrl := rr.lt; simp at rrc0 rrc1 rrc2; refine Blk.thru (b := (w.heap.size + 1)) (arr := ?_) (t := ?_) ?_ hb1 ?_; rotate_left 2; (focus (exact blk)); intro rq; have rqc0 := rq.cell 0; have rqf0 := rq.free 0; have rqc1 := rq.cell 1; have rqf1 := rq.free 1; have rqc2 := rq.cell 2; have rqf2 := rq.free 2; have rql := rq.lt; simp at rqc0 rqc1 rqc2)
    exact bodyPost_ret (v := .tuple #[.agg #[.int .i64 0, .int .i64 0, .int .i64 0], .int .i64 34]) (by simp [results, Try.results63, go_sem, rqc0, rqf0, rqc1, rqf1, rqc2, rqf2, rql]) rfl ⟨by rw [HC.out.1, HC.out.2.1, HC.out.2.2.1, HC.out.2.2.2], by (exact kpt)⟩
  · have ho := histB_ok hb
    have b1 := ho.w2
    have b2 := ho.g2
    have HO := Lib.hid ho
    have HB := Lib.hid hb
    clear hb ho
    go_enter Try.func63, Try.ntmps63
    go_wp2_with (go_at_call 126; (with_reducible refine (r_History h s _ (hh.later (by (exact kpt)))).mono ?_); rw [HB.out]; rintro e w1 ⟨rfl, hb1⟩; refine Blk.thru (b := w.heap.size) (arr := ?_) (t := ?_) ?_ hb1 ?_; rotate_left 2; (focus (exact blk)); intro rr; have rrc0 := rr.cell 0; have rrf0 := rr.free 0; have rrc1 := rr.cell 1; have rrf1 := rr.free 1; have rrc2 := rr.cell 2; have rrf2 := rr.free 2; have rrl := rr.lt; simp at rrc0 rrc1 rrc2; refine Blk.thru (b := (w.heap.size + 1)) (arr := ?_) (t := ?_) ?_ hb1 ?_; rotate_left 2; (focus (exact blk)); intro rq; have rqc0 := rq.cell 0; have rqf0 := rq.free 0; have rqc1 := rq.cell 1; have rqf1 := rq.free 1; have rqc2 := rq.cell 2; have rqf2 := rq.free 2; have rql := rq.lt; simp at rqc0 rqc1 rqc2)
    go_loopw [4] (fun i wr => ∃ c : Nat, c ≤ h.warm.length ∧ i = .int .i64 c ∧ Clear h c 0 0 ∧ Blk wr w.heap.size #[.slice s.aw h.warm.length s.cw, .slice s.ag h.gauges.length s.cg, .slice s.af h.flows.length s.cf] 85 ∧ Blk wr (w.heap.size + 1) #[.int .i64 0, .int .i64 0, .int .i64 0] 99 ∧ Kept w wr) (fun i _ => h.warm.length - (intOf i).toNat)
    case atStart => exact ⟨0, Nat.zero_le _, rfl, Clear.zero h, by (exact blkc), by (exact blkc), by (exact kpt)⟩
    case round =>
      clear rrc0 rrf0 rrc1 rrf1 rrc2 rrf2 rrl rqc0 rqf0 rqc1 rqf1 rqc2 rqf2 rql
      obtain ⟨c, hcl, rfl, hclr, q0, q1, hkk⟩ := hrel
      have HCLR := Lib.hid hclr
      clear hclr
      have q0c0 := q0.cell 0
      have q0f0 := q0.free 0
      have q0c1 := q0.cell 1
      have q0f1 := q0.free 1
      have q0c2 := q0.cell 2
      have q0f2 := q0.free 2
      have q0l := q0.lt
      simp at q0c0 q0c1 q0c2
      have q1c0 := q1.cell 0
      have q1f0 := q1.free 0
      have q1c1 := q1.cell 1
      have q1f1 := q1.free 1
      have q1c2 := q1.cell 2
      have q1f2 := q1.free 2
      have q1l := q1.lt
      simp at q1c0 q1c1 q1c2
      by_cases hc : c < h.warm.length
      · go_wp2
        go_loopw [5] (fun i wr => ∃ t : Nat, t ≤ h.gauges.length ∧ i = .int .i64 t ∧ Clear h c t 0 ∧ Blk wr w.heap.size #[.slice s.aw h.warm.length s.cw, .slice s.ag h.gauges.length s.cg, .slice s.af h.flows.length s.cf] 85 ∧ Blk wr (w.heap.size + 1) #[.int .i64 0, .int .i64 0, .int .i64 0] 99 ∧ Kept w wr) (fun i _ => h.gauges.length - (intOf i).toNat)
        case atStart => exact ⟨0, Nat.zero_le _, rfl, HCLR.out, q0, q1, hkk⟩
        case round =>
          clear q0c0 q0f0 q0c1 q0f1 q0c2 q0f2 q0l q1c0 q1f0 q1c1 q1f1 q1c2 q1f2 q1l q0 q1 hkk
          obtain ⟨t, htl, rfl, hclr, q0, q1, hkk⟩ := hrel
          have HCLT := Lib.hid hclr
          clear hclr
          have q0c0 := q0.cell 0
          have q0f0 := q0.free 0
          have q0c1 := q0.cell 1
          have q0f1 := q0.free 1
          have q0c2 := q0.cell 2
          have q0f2 := q0.free 2
          have q0l := q0.lt
          simp at q0c0 q0c1 q0c2
          have q1c0 := q1.cell 0
          have q1f0 := q1.free 0
          have q1c1 := q1.cell 1
          have q1f1 := q1.free 1
          have q1c2 := q1.cell 2
          have q1f2 := q1.free 2
          have q1l := q1.lt
          simp at q1c0 q1c1 q1c2
          by_cases ht : t < h.gauges.length
          · go_wp2
            go_loopw [6] (fun i wr => ∃ p : Nat, p ≤ t + 1 ∧ i = .int .i64 p ∧ Clear h c t p ∧ Blk wr w.heap.size #[.slice s.aw h.warm.length s.cw, .slice s.ag h.gauges.length s.cg, .slice s.af h.flows.length s.cf] 85 ∧ Blk wr (w.heap.size + 1) #[.int .i64 0, .int .i64 0, .int .i64 0] 99 ∧ Kept w wr) (fun i _ => t + 1 - (intOf i).toNat)
            case atStart => exact ⟨0, Nat.zero_le _, rfl, HCLT.out, q0, q1, hkk⟩
            case round =>
              clear q0c0 q0f0 q0c1 q0f1 q0c2 q0f2 q0l q1c0 q1f0 q1c1 q1f1 q1c2 q1f2 q1l q0 q1 hkk
              obtain ⟨p, hpl, rfl, hclr, q0, q1, hkk⟩ := hrel
              have HCLP := Lib.hid hclr
              clear hclr
              have q0c0 := q0.cell 0
              have q0f0 := q0.free 0
              have q0c1 := q0.cell 1
              have q0f1 := q0.free 1
              have q0c2 := q0.cell 2
              have q0f2 := q0.free 2
              have q0l := q0.lt
              simp at q0c0 q0c1 q0c2
              have q1c0 := q1.cell 0
              have q1f0 := q1.free 0
              have q1c1 := q1.cell 1
              have q1f1 := q1.free 1
              have q1c2 := q1.cell 2
              have q1f2 := q1.free 2
              have q1l := q1.lt
              simp at q1c0 q1c1 q1c2
              by_cases hpt : p ≤ t
              · cases hx : clashB h c p t
                · have HX := Lib.hid hx
                  clear hx
                  go_wp2_with (go_at_call 132; (with_reducible refine (r_clashes h s _ (hh.later (by (exact kpt))) HO.out c p t (by omega) (by omega) hc).mono ?_); rw [HX.out]; rintro e w3 ⟨rfl, hb3⟩; refine Blk.thru (b := (w.heap.size + 1)) (arr := ?_) (t := ?_) ?_ hb3 ?_; rotate_left 2; (focus (exact blk)); intro rq; have rqc0 := rq.cell 0; have rqf0 := rq.free 0; have rqc1 := rq.cell 1; have rqf1 := rq.free 1; have rqc2 := rq.cell 2; have rqf2 := rq.free 2; have rql := rq.lt; simp at rqc0 rqc1 rqc2)
                  go_round
                  case rel => exact ⟨p + 1, by omega, by go_num, HCLP.out.step HX.out, q0.keep hb3, q1.keep hb3, by (exact kpt)⟩
                  case measure => simp [intOf]; omega
                · have HX := Lib.hid hx
                  have HC := Lib.hid (cf_some HB.out (HCLP.out.found hc ht hpt hx))
                  clear hx
                  go_wp2_with (go_at_call 132; (with_reducible refine (r_clashes h s _ (hh.later (by (exact kpt))) HO.out c p t (by omega) (by omega) hc).mono ?_); rw [HX.out]; rintro e w3 ⟨rfl, hb3⟩; refine Blk.thru (b := (w.heap.size + 1)) (arr := ?_) (t := ?_) ?_ hb3 ?_; rotate_left 2; (focus (exact blk)); intro rq; have rqc0 := rq.cell 0; have rqf0 := rq.free 0; have rqc1 := rq.cell 1; have rqf1 := rq.free 1; have rqc2 := rq.cell 2; have rqf2 := rq.free 2; have rql := rq.lt; simp at rqc0 rqc1 rqc2)
                  exact bodyPost_ret (v := .tuple #[.agg #[.int .i64 c, .int .i64 p, .int .i64 t], .int .i64 0]) (by simp [results, Try.results63, go_sem, rqc0, rqf0, rqc1, rqf1, rqc2, rqf2, rql]) rfl ⟨by rw [HC.out.1, HC.out.2.1, HC.out.2.2.1, HC.out.2.2.2], by (exact kpt)⟩
              · obtain rfl : p = t + 1 := by omega
                go_wp2
                go_round
                case rel => exact ⟨t + 1, by omega, by go_num, HCLP.out.row, q0, q1, hkk⟩
                case measure => simp [intOf]; omega
          · obtain rfl : t = h.gauges.length := by omega
            go_wp2
            go_round
            case rel => exact ⟨c + 1, by omega, by go_num, HCLT.out.cell, q0, q1, hkk⟩
            case measure => simp [intOf]; omega
      · obtain rfl : c = h.warm.length := by omega
        have HC := Lib.hid (cf_none HB.out HCLR.out.none)
        go_wp2
        exact bodyPost_ret (v := .tuple #[.agg #[.int .i64 0, .int .i64 0, .int .i64 0], .int .i64 6]) (by simp [results, Try.results63, go_sem, q1c0, q1f0, q1c1, q1f1, q1c2, q1f2, q1l]) rfl ⟨by rw [HC.out.1, HC.out.2.1, HC.out.2.2.1, HC.out.2.2.2], by (exact kpt)⟩

end Go.Proofs.Ytemafanncejeiaa

/-
  Regions that draw their order within a round of a loop over an iterator (at the wide fence): what is shown of them outside holds there too. No program in sight.
-/
namespace Bal
open Go Go.RowKit
section
variable {P : Program} {Q : Exit → Act → World → Prop} {md : Region.Mode} {ops : Array Oper} {l : Nat} {n : Nat}

def noDefer (o : Oper) : Bool := match o.op with | .defer _ => false | _ => true

theorem rowsIn_wide' {row : String} {args : Array Value} {w : World} {R : Value → World → Prop} (h : Rows P row args w R) : RowsIn Fence.wide n P row args w R :=
  fun c cs _ => let ⟨v, w', r, s⟩ := h c cs; ⟨v, w', r, stepsIn_wide.2 s⟩

theorem operIn_of {o : Oper} {a : Act} {w : World} {K : Act → World → Prop} (hd : noDefer o = true) (h : o.wp P a w K Q) : o.wpIn (Fence.wide.inRound l) n P a w K Q := by
  refine ⟨fun _ _ => trivial, ?_⟩
  have hne : ∀ c, o.op ≠ .defer c := fun c hc => by simp [noDefer, hc] at hd
  rw [show (Fence.wide.inRound l).round = some l from rfl, Oper.semAt_eq _ _ _ hne]
  unfold Oper.wp at h
  generalize (execOp a.eval o).run P w = r at *
  cases r with
  | ok x w' =>
    cases x <;> first | exact h | exact h.elim | exact ⟨fun (h : none.isSome = true) => by (cases h), callsIn_wide.2 h⟩ | exact ⟨fun (h : none.isSome = true) => by (cases h), rowsIn_wide' h⟩
  | halt x w' => cases x <;> exact h

theorem anyIn_of (hd : ops.all noDefer = true) (hQ : ¬ LetsOut Q) : ∀ (f : Nat) (listed : Array Bool) (a : Act) (w : World), wpAny P md ops Q f listed a w → wpAnyIn (Fence.wide.inRound l) n P md ops Q f listed a w
  | 0, _, _, _, h => h
  | f + 1, listed, a, w, h => by
    refine ⟨h.1, fun i hi => ?_⟩
    have h2 := h.2 i hi
    unfold wpOp at h2
    unfold wpOpIn
    split
    · rename_i ho
      simp only [ho] at h2
      exact anyIn_of hd hQ f _ _ _ h2
    · rename_i o ho
      simp only [ho] at h2
      split
      · rename_i hw
        simp only [hw, if_true] at h2
        have hdo : noDefer o = true := by
          rw [Array.all_eq_true'] at hd
          obtain ⟨hlt, he⟩ := Array.getElem?_eq_some_iff.1 ho
          exact hd o (he ▸ Array.getElem_mem hlt)
        rcases h2 with h2 | h2
        · exact operIn_of hdo (Oper.wp_mono (fun a w h => anyIn_of hd hQ f _ _ _ h) h2)
        · exact absurd h2.2 hQ
      · rename_i hw
        simp only [hw] at h2
        exact ⟨fun _ _ => trivial, anyIn_of hd hQ f _ _ _ h2⟩

/-- Later.tail, in a round -/
theorem Later.tailIn {id : Nat} {a : Act} {w : World} {l' : List Oper} (k : Nat) (hd : l'.toArray.all noDefer = true) (hQ : ¬ LetsOut Q) (hm : P.follows .mixedOrders = true) (hB : Region.lexTailB .any l'.toArray k = true)
    (h : wpQuiet P l'.toArray (fun w' => ∃ g : Later w, w' = g.val) (fun a' => ∀ g : Later w, wpList P l'.toArray Q (l'.drop k) a' g.val) (l'.take k) a) : (Code.region id l'.toArray true).wpIn (Fence.wide.inRound l) n P Q a w := by
  simp only [Region.lexTailB, Bool.and_eq_true, decide_eq_true_eq] at hB
  obtain ⟨⟨⟨⟨hsel, hn⟩, hs⟩, hc⟩, hlex⟩ := hB
  have hn' : k < l'.length := by simpa using hn
  have htl : (l'.take k).length = k := by simp; omega
  have hdl : (l'.drop k).length = l'.toArray.size - k := by simp
  have inv0 : HeadInv .any l'.toArray k (Array.replicate l'.toArray.size false) :=
    ⟨by simp, fun j oj _ hl => (by rw [getD_replicate_false] at hl; cases hl), fun t _ ht => getD_in (by simpa using ht) (getD_replicate_false _ _)⟩
  have H := wpHeadQ_lex (md := .any) (g := l'.toArray.size - k) hsel hs hc hn (l'.take k) 0 _ a (fun j hj => by
    have hj' : j < k := by rw [htl] at hj; exact hj
    simp [hj']) (by simpa using htl) inv0 (by rw [htl]; exact hlex) h
  refine wpIn_region_any hm (anyIn_of hd hQ _ _ _ _ ?_)
  have := wpAny_of_headQ (C := fun w' => ∃ g : Later w, w' = g.val) (Q' := Q) (g := l'.toArray.size - k) (fun listed a' w' hw' hL => by
    obtain ⟨g, rfl⟩ := hw'
    have := wpAny_of_seq (md := .any) (Q' := Q) (l'.drop k) k listed a' g.val (fun j => by simp [List.getElem?_drop]) (by rw [hdl]; exact hL.1) (hL.2 g)
    rwa [hdl] at this) _ _ _ { w with drawn := w.drawn + 1 } ⟨⟨w.drew, (Below.refl _ _).drew⟩, rfl⟩ H
  rw [htl, show k + (l'.toArray.size - k) = l'.toArray.size by omega] at this
  exact this

/-- Later.region, in a round -/
theorem Later.regionIn {id : Nat} {a : Act} {w : World} {l' : List Oper} (hd : l'.toArray.all noDefer = true) (hQ : ¬ LetsOut Q) (hm : P.follows .mixedOrders = true) (hB : Region.lexB .any l'.toArray = true)
    (h : wpQuiet P l'.toArray (fun w' => ∃ g : Later w, w' = g.val) (fun a' => ∀ g : Later w, Q .normal a' g.val) l' a) : (Code.region id l'.toArray true).wpIn (Fence.wide.inRound l) n P Q a w := by
  simp only [Region.lexB, Bool.and_eq_true] at hB
  refine wpIn_region_any hm (anyIn_of hd hQ _ _ _ _ (wpAny_of_quiet (C := fun w' => ∃ g : Later w, w' = g.val) (Q := fun a' => ∀ w', (∃ g : Later w, w' = g.val) → Q .normal a' w') (fun _ w' hw' h => h w' hw') _ _ _ _ ⟨⟨w.drew, (Below.refl _ _).drew⟩, rfl⟩ ?_))
  have e : (fun a' => ∀ w', (∃ g : Later w, w' = g.val) → Q .normal a' w') = (fun a' => ∀ g : Later w, Q .normal a' g.val) := by
    funext a'
    exact propext ⟨fun h g => h _ ⟨g, rfl⟩, fun h _ ⟨g, hg⟩ => hg ▸ h g⟩
  have := wpAnyQ_lex (C := fun w' => ∃ g : Later w, w' = g.val) (md := .any) (Q := fun a' => ∀ w', (∃ g : Later w, w' = g.val) → Q .normal a' w') hB.1 l' 0 (Array.replicate l'.toArray.size false) a (by simp) (by simpa using hB.2) (by rw [e]; exact h)
  simpa using this
end

/-! ### A region without guards whose operations come in any order: one look at each operation -/
def upL (L : Nat → Bool) (i : Nat) : Nat → Bool := fun j => if j = i then true else L j
def cntL (L : Nat → Bool) : Nat → Nat
  | 0 => 0
  | k + 1 => cntL L k + (if L k then 0 else 1)
theorem cntL_up {L : Nat → Bool} {i : Nat} (h : L i = false) : ∀ k, (i < k → cntL (upL L i) k + 1 = cntL L k) ∧ (k ≤ i → cntL (upL L i) k = cntL L k)
  | 0 => ⟨fun h => by omega, fun _ => rfl⟩
  | k + 1 => by
    obtain ⟨h1, h2⟩ := cntL_up h k
    refine ⟨fun hk => ?_, fun hk => ?_⟩
    · by_cases hki : k = i
      · subst hki
        simp only [cntL, upL, if_true, h, if_false, Bool.false_eq_true]
        have := h2 (Nat.le_refl _)
        unfold upL at this
        omega
      · have := h1 (by omega)
        simp only [cntL, upL, hki, if_false]
        unfold upL at this
        omega
    · have := h2 (by omega)
      have hki : k ≠ i := by omega
      simp only [cntL, upL, hki, if_false]
      unfold upL at this
      omega
theorem cntL_zero {L : Nat → Bool} : ∀ k, cntL L k = 0 → ∀ j, j < k → L j = true
  | 0, _, j, hj => by omega
  | k + 1, h, j, hj => by
    simp only [cntL] at h
    by_cases hjk : j = k
    · subst hjk
      cases hL : L j
      · simp [hL] at h
      · rfl
    · exact cntL_zero k (by omega) j (by omega)
theorem cntL_none : ∀ k, cntL (fun _ => false) k = k
  | 0 => rfl
  | k + 1 => by simp [cntL, cntL_none k]

section
variable {P : Program} {Q : Exit → Act → World → Prop} {md : Region.Mode} {ops : Array Oper}
theorem wpAny_dp (T : (Nat → Bool) → Array Value) (ds : List Deferred) (R : (Nat → Bool) → World → Prop)
    (hg : ∀ i oi, ops[i]? = some oi → oi.guard = none ∧ ∀ e ∈ oi.after, Region.binds md e = true → e.on < i)
    (step : ∀ (i : Nat) (oi : Oper), ops[i]? = some oi → ∀ (L : Nat → Bool) (w : World), L i = false → (∀ e ∈ oi.after, Region.binds md e = true → L e.on = true) → R L w →
      ∀ K : Act → World → Prop, (∀ w', R (upL L i) w' → K ⟨T (upL L i), ds⟩ w') → oi.wp P ⟨T L, ds⟩ w K Q)
    (fin : ∀ (L : Nat → Bool) (w : World), (∀ j, j < ops.size → L j = true) → R L w → Q .normal ⟨T L, ds⟩ w) :
    ∀ (fuel : Nat) (listed : Array Bool) (L : Nat → Bool) (w : World), listed.size = ops.size → (∀ j, j < ops.size → listed.getD j false = L j) → cntL L ops.size ≤ fuel → R L w → wpAny P md ops Q fuel listed ⟨T L, ds⟩ w := by
  have hready : ∀ (listed : Array Bool) (L : Nat → Bool), listed.size = ops.size → (∀ j, j < ops.size → listed.getD j false = L j) → ∀ i, i ∈ Region.ready md ops listed → ∃ oi, ops[i]? = some oi ∧ i < ops.size ∧ L i = false ∧ ∀ e ∈ oi.after, Region.binds md e = true → L e.on = true := by
    intro listed L hsz hL i hi
    obtain ⟨hun, oi, hoi, hall⟩ := mem_ready.1 hi
    have hlt := (Array.getElem?_eq_some_iff.1 hoi).1
    refine ⟨oi, hoi, hlt, by rw [← hL i hlt]; exact getD_both hun, fun e he hb => ?_⟩
    have h1 := hall e he hb
    have h2 := (hg i oi hoi).2 e he hb
    rw [← hL e.on (by omega)]
    exact h1
  intro fuel
  induction fuel with
  | zero =>
    intro listed L w hsz hL hc hR
    have hall := cntL_zero (L := L) ops.size (by omega)
    refine ⟨?_, fin L w hall hR⟩
    cases hr : Region.ready md ops listed with
    | nil => rfl
    | cons i is =>
      obtain ⟨oi, _, hlt, hf, _⟩ := hready listed L hsz hL i (by rw [hr]; simp)
      rw [hall i hlt] at hf
      cases hf
  | succ fuel ih =>
    intro listed L w hsz hL hc hR
    refine ⟨fun hr => fin L w ?_ hR, fun i hi => ?_⟩
    · intro j
      induction j using Nat.strongRecOn with
      | ind j ihj =>
        intro hj
        cases hLj : L j with
        | true => rfl
        | false =>
          exfalso
          have : j ∈ Region.ready md ops listed := by
            obtain ⟨oj, hoj⟩ : ∃ oj, ops[j]? = some oj := ⟨ops[j], by simp [hj]⟩
            refine mem_ready.2 ⟨getD_in (by omega) (by rw [hL j hj]; exact hLj), oj, hoj, fun e he hb => ?_⟩
            have h2 := (hg j oj hoj).2 e he hb
            rw [hL e.on (by omega)]
            exact ihj e.on h2 (by omega)
          rw [hr] at this
          cases this
    · obtain ⟨oi, hoi, hlt, hf, hd⟩ := hready listed L hsz hL i hi
      unfold wpOp
      simp only [hoi]
      rw [if_pos (by simp [Region.wanted, (hg i oi hoi).1])]
      refine .inl (step i oi hoi L w hf hd hR _ fun w' hR' => ih _ _ _ (by simpa using hsz) (fun j hj => ?_) (by have := (cntL_up hf ops.size).1 hlt; omega) hR')
      unfold upL
      by_cases hji : j = i
      · subst hji
        simp [hsz, hj]
      · rw [if_neg hji, ← hL j hj]
        simp only [Array.getD_eq_getD_getElem?, Array.getElem?_setIfInBounds_ne (Ne.symm hji)]
theorem wpAny_dp0 (T : (Nat → Bool) → Array Value) (ds : List Deferred) (R : (Nat → Bool) → World → Prop) {A : Array Value} {w : World}
    (hg : ∀ i oi, ops[i]? = some oi → oi.guard = none ∧ ∀ e ∈ oi.after, Region.binds md e = true → e.on < i) (hA : A = T fun _ => false) (h0 : R (fun _ => false) w)
    (step : ∀ (i : Nat) (oi : Oper), ops[i]? = some oi → ∀ (L : Nat → Bool) (w : World), L i = false → (∀ e ∈ oi.after, Region.binds md e = true → L e.on = true) → R L w →
      ∀ K : Act → World → Prop, (∀ w', R (upL L i) w' → K ⟨T (upL L i), ds⟩ w') → oi.wp P ⟨T L, ds⟩ w K Q)
    (fin : ∀ (L : Nat → Bool) (w : World), (∀ j, j < ops.size → L j = true) → R L w → Q .normal ⟨T L, ds⟩ w) :
    wpAny P md ops Q ops.size (Array.replicate ops.size false) ⟨A, ds⟩ w := by
  subst hA
  exact wpAny_dp T ds R hg step fin _ _ _ _ (by simp) (fun j hj => by simp [hj]) (by rw [cntL_none]; exact Nat.le_refl _) h0
end

/-- what is kept is grown by nothing -/
theorem grown_of_kept {A B : World} (h : Kept A B) : A.grownBy B none := ⟨h.os, h.tape, h.output, h.size, fun k hk _ => h.block k hk⟩
theorem abides_kept {β : Type} {C : Nat} {J : β → World → Prop} (hJ : AbidesFrom C J) {s : β} {A B : World} (hs : J s A) (h : Kept A B) : J s B := hJ s A B none hs (grown_of_kept h) (fun r e => by cases e)
theorem keepsFrom_kept {W W' : World} (h : Kept W W') (B : Nat) : KeepsFrom B W W' :=
  ⟨h.size, fun k _ _ hk _ => (h.block k (Array.getElem?_eq_some_iff.1 hk).1).trans hk⟩
theorem Blk.belowR {W W' : World} {b B : Nat} {arr : Array Value} {t : TypeId} (h : Blk W b arr t) (hb : Below B W W') (hB : b < B) : Blk W' b arr t := (hb.block b hB).trans h
theorem blk_from {β : Type} (B b : Nat) (arr : Array Value) (t : TypeId) : OwnFrom B (fun (_ : β) W => Blk W b arr t) := by
  intro _ X Y row hb hg hr
  refine (hg.block b (Array.getElem?_eq_some_iff.1 hb).1 (fun e => ?_)).trans hb
  obtain ⟨_, _, ho, hc⟩ := hr b e.symm
  rw [show X.heap[b]? = _ from hb] at ho
  cases ho
  cases hc
end Bal

/-
  What a cell may have had, gauge by gauge: the iterator.
-/
namespace Go.Proofs.Ytemafanncejeiaa
open Go.RowKit Go.Shelf Bal Bal.Trim Bal.Gas
set_option linter.unusedVariables false
set_option linter.unusedSimpArgs false
set_option maxHeartbeats 4000000
set_option maxRecDepth 100000
attribute [local go_sem] Oper.semAt_some

/-- the numbers of gauges, in their order -/
def Up {n : Nat} (pre : List (Fin n)) : Prop := pre.map (·.val) = List.range pre.length
theorem Up.nil {n : Nat} : Up ([] : List (Fin n)) := rfl
theorem Up.snoc {n : Nat} {pre : List (Fin n)} (h : Up pre) (x : Fin n) (hx : x.val = pre.length) : Up (pre ++ [x]) := by
  unfold Up at *
  simp [h, List.range_succ, hx]
theorem Up.init {n : Nat} {pre : List (Fin n)} {x : Fin n} (h : Up (pre ++ [x])) : Up pre ∧ x.val = pre.length := by
  unfold Up at *
  simp only [List.map_append, List.map_cons, List.map_nil, List.length_append, List.length_cons, List.length_nil, Nat.zero_add, List.range_succ] at h
  have h1 := List.append_inj_left h (by simp)
  have h2 := List.append_inj_right h (by simp)
  exact ⟨h1, by simpa using h2⟩
theorem Up.mem {n : Nat} {pre : List (Fin n)} (h : Up pre) {x : Fin n} : x ∈ pre ↔ x.val < pre.length := by
  constructor
  · intro hx
    have : x.val ∈ pre.map (·.val) := List.mem_map.2 ⟨x, hx, rfl⟩
    rw [h] at this
    simpa using this
  · intro hx
    have : x.val ∈ pre.map (·.val) := by rw [h]; simpa using hx
    obtain ⟨y, hy, e⟩ := List.mem_map.1 this
    have : y = x := Fin.ext e
    rwa [← this]
theorem at_worldR {F : Fence} {n : Nat} {P : Program} {c : Code} {Q : Exit → Act → World → Prop} {a : Act} {S : World → Prop} {W : World} (h : S W) (k : ∀ W, S W → c.wpIn F n P Q a W) : c.wpIn F n P Q a W := k W h

theorem f_told (h : Hist) (s : Spot) (c : Int) (w : World) :
    Calls Try.prog 131 #[.agg #[.slice s.aw h.warm.length s.cw, .slice s.ag h.gauges.length s.cg, .slice s.af h.flows.length s.cf], .int .i64 c] w fun e w' =>
      e = .returned (.func (.func 141) #[] #[.pointer (some ⟨w.heap.size, 0, none⟩), .pointer (some ⟨w.heap.size + 1, 0, none⟩)]) ∧ w' = (w.alloc (.cells #[.slice s.aw h.warm.length s.cw, .slice s.ag h.gauges.length s.cg, .slice s.af h.flows.length s.cf] 85)).alloc (.cells #[.int .i64 c] 3) := by
  go_enter Try.func131, Try.ntmps131
  go_wp2
  go_ret
  exact ⟨rfl, rfl⟩

def toldV (h : Hist) (c : Nat) (x : Fin h.gauges.length) : Array Value := #[.int .i64 (x.val : Int), .agg #[.int .i64 (toldLo h c x.val), .int .i64 (toldHi h c x.val)]]
/-- what a round must leave to the iterator: what lies below B, and its two boxes -/
structure KeptB (B b0 b1 : Nat) (W W' : World) : Prop where
  below : Below B W W'
  k0 : W'.heap[b0]? = W.heap[b0]?
  k1 : W'.heap[b1]? = W.heap[b1]?
theorem KeptB.trans {B b0 b1 : Nat} {X Y Z : World} (h : KeptB B b0 b1 X Y) (k : KeptB B b0 b1 Y Z) : KeptB B b0 b1 X Z := ⟨h.below.trans k.below, k.k0.trans h.k0, k.k1.trans h.k1⟩
theorem KeptB.put {B b0 b1 : Nat} {w : World} (hB : B ≤ w.heap.size) (h0 : b0 < w.heap.size) (h1 : b1 < w.heap.size) (W : World) (l : Nat) (o o' : Obj) (hl : w.heap.size ≤ l) (h : W.heap[l]? = some o) (hc : o.isCells = false) (hw : o.isWalk = false) : KeptB B b0 b1 W (W.putObj l o') :=
  ⟨belowK_b hB W l o o' hl h hc hw, World.putObj_heap_other (by omega), World.putObj_heap_other (by omega)⟩
theorem KeptB.of_kept {B b0 b1 : Nat} {W W' : World} (h : Kept W W') (hB : B ≤ W.heap.size) (h0 : b0 < W.heap.size) (h1 : b1 < W.heap.size) : KeptB B b0 b1 W W' := ⟨h.mono hB, h.block _ h0, h.block _ h1⟩
theorem KeptB.set {B b0 b1 : Nat} {W W' : World} (h : KeptB B b0 b1 W W') {a : Addr} (hB : B ≤ a.block) (h0 : a.block ≠ b0) (h1 : a.block ≠ b1) (v : Value) : KeptB B b0 b1 W (W'.setCell a v) :=
  ⟨h.below.setCell hB v, (Below.heap_setCell _ _ _ _ (Ne.symm h0)).trans h.k0, (Below.heap_setCell _ _ _ _ (Ne.symm h1)).trans h.k1⟩
theorem keptB_from {β : Type} {B b0 b1 B' : Nat} {w0 : World} (hB : B ≤ w0.heap.size) (hB' : B ≤ B') (h0 : b0 < B') (h1 : b1 < B') (z0 : b0 < w0.heap.size) (z1 : b1 < w0.heap.size) : OwnFrom B' (fun (_ : β) W => KeptB B b0 b1 w0 W) := by
  intro s X Y row hs hg hr
  refine ⟨ownFrom_below (β := β) hB hB' s X Y row hs.below hg hr, ?_, ?_⟩
  · exact (hg.block b0 (by have := hs.below.size; omega) (fun e => by have := (hr b0 e.symm).1; omega)).trans hs.k0
  · exact (hg.block b1 (by have := hs.below.size; omega) (fun e => by have := (hr b1 e.symm).1; omega)).trans hs.k1
theorem f_told1 (h : Hist) (s : Spot) (w w' : World) (hh : HistAt h s w) (hw0 : Kept w w') (ho : HistOk h) (c : Nat) (hc : c < h.warm.length) (b0 b1 : Nat) (hq0 : Blk w' b0 #[.slice s.aw h.warm.length s.cw, .slice s.ag h.gauges.length s.cg, .slice s.af h.flows.length s.cf] 85) (hq1 : Blk w' b1 #[.int .i64 c] 3) (m : Nat) (hm : 1 ≤ m) :
    SeqStopsK Fence.wide m Try.prog 141 #[.pointer (some ⟨b0, 0, none⟩), .pointer (some ⟨b1, 0, none⟩)] (toldV h c) (KeptB w.heap.size b0 b1) (fun ys => Up ys ∧ ys.length = h.gauges.length) Up h.gauges.length w' := by
  intro l J Jx W hWW hJ hJx hY h0
  have hl0 := hq0.lt
  have hl1 := hq1.lt
  have hgl := ho.g2
  have hgc := hh.gc
  have hgm := hh.gm
  have hfl := ho.f2
  have hfc := hh.fc
  have hfm := hh.fm
  unfold maxLen at hgm hfm
  have hA0 := hq0.belowR hWW hl0
  have hA1 := hq1.belowR hWW hl1
  have hW : Kept w W := hw0.trans (hWW.mono hw0.size)
  clear hWW hw0 hl0 hl1
  have KA0 := fun (W : World) (hW : Kept w W) (k : Nat) (hk : k < h.gauges.length) => f_allowed h s W (hh.later hW) ho k c hk hc
  have R20 := fun (W : World) (hW : Kept w W) => (hh.later hW).gauges
  have R30 := fun (W : World) (hW : Kept w W) => (hh.later hW).flows
  clear hq0 hq1 hh
  obtain ⟨aw, ag, af, cw, cg, cf⟩ := s
  simp only at KA0 R20 R30 hgc hgm hfc hfm hA0
  have KA := Lib.hid KA0
  have R2 := Lib.hid R20
  have R3 := Lib.hid R30
  clear KA0 R20 R30
  refine callsIn_of_wp Try.func141 rfl trivial ?_ rfl
  simp only [Try.ntmps141, List.size_toArray, List.length_cons, List.length_nil, Nat.reduceAdd, Nat.reduceSub, Array.replicate_succ, Array.replicate_zero, List.push_toArray, List.append_toArray, List.nil_append, List.cons_append]
  have hA0c0 := hA0.cell 0
  have hA0f0 := hA0.free 0
  have hA0c1 := hA0.cell 1
  have hA0f1 := hA0.free 1
  have hA0c2 := hA0.cell 2
  have hA0f2 := hA0.free 2
  have hA0l := hA0.lt
  simp at hA0c0 hA0c1 hA0c2
  gi_wp2
  gi_loopw [12] (fun i wr => ∃ (pre : List (Fin h.gauges.length)) (k : Nat), k ≤ h.gauges.length ∧ i = .int .i64 k ∧ Up pre ∧ pre.length = k ∧ J pre wr ∧ Blk wr b0 #[.slice aw h.warm.length cw, .slice ag h.gauges.length cg, .slice af h.flows.length cf] 85 ∧ Blk wr b1 #[.int .i64 c] 3 ∧ Kept w wr) (fun i _ => h.gauges.length - (intOf i).toNat)
  case atStart => exact ⟨[], 0, Nat.zero_le _, rfl, Up.nil, rfl, h0, hA0, hA1, hW⟩
  case round =>
    clear hA0 hA1 h0 hW hA0c0 hA0f0 hA0c1 hA0f1 hA0c2 hA0f2 hA0l
    obtain ⟨pre, k, hk, rfl, hup, hpl, hJ0, q0, q1, hkr⟩ := hrel
    have HUP := Lib.hid hup
    have HJ0 := Lib.hid hJ0
    have HPL := Lib.hid hpl
    have hlr0 := Blk.lt q0
    have hlr1 := Blk.lt q1
    have q0c0 := q0.cell 0
    have q0f0 := q0.free 0
    have q0c1 := q0.cell 1
    have q0f1 := q0.free 1
    have q0c2 := q0.cell 2
    have q0f2 := q0.free 2
    have q0l := q0.lt
    simp at q0c0 q0c1 q0c2
    have q1c0 := q1.cell 0
    have q1f0 := q1.free 0
    have q1l := q1.lt
    simp at q1c0
    by_cases hlt : k < h.gauges.length
    · obtain ⟨bg, og, rfl, hbg, g0, g1, g2, g3, g4, g5⟩ := Gauge.row (R2.out _ hkr) k hlt
      rw [gAt_get hlt] at g0 g1 g2 g3 g4 g5
      have HTT0 : tt h k = (gAt h k).time := rfl
      obtain ⟨g, hg⟩ : ∃ g, g = gAt h k := ⟨_, rfl⟩
      rw [← hg] at g0 g1 g2 g3 g4 g5 HTT0
      obtain ⟨va, hva⟩ : ∃ va, va = gv g := ⟨_, rfl⟩
      rw [← hva] at g5
      clear hg hva
      have HTT := Lib.hid HTT0
      obtain ⟨L, hL⟩ : ∃ n, n = alLo h k c := ⟨_, rfl⟩
      obtain ⟨H, hH⟩ : ∃ n, n = alHi h k c := ⟨_, rfl⟩
      have bd := (al_bd ho hlt hc).2.2.2
      rw [← hL, ← hH] at bd
      have HTL0 : toldLo h c k = L - come h c (tt h 0) (tt h k) := by unfold toldLo; rw [hL]
      have HTH0 : toldHi h c k = H - come h c (tt h 0) (tt h k) := by unfold toldHi; rw [hH]
      have HL := Lib.hid hL.symm
      have HH := Lib.hid hH.symm
      have HTL := Lib.hid HTL0
      have HTH := Lib.hid HTH0
      clear hL hH HTL0 HTH0 HTT0
      gi_wp2_with (refine ⟨trivial, ?_⟩; gi_at_call 125; (refine (callsIn_wide.2 (KA.out _ (by (exact kpt)) k hlt)).mono ?_); rw [HL.out, HH.out]; rintro e w2 ⟨rfl, hb2⟩; refine Blk.thru (b := b0) (arr := ?_) (t := ?_) ?_ hb2 ?_; rotate_left 2; (focus (exact blk)); intro q0; have q0c0 := q0.cell 0; have q0f0 := q0.free 0; have q0c1 := q0.cell 1; have q0f1 := q0.free 1; have q0c2 := q0.cell 2; have q0f2 := q0.free 2; have q0l := q0.lt; simp at q0c0 q0c1 q0c2; refine Blk.thru (b := b1) (arr := ?_) (t := ?_) ?_ hb2 ?_; rotate_left 2; (focus (exact blk)); intro q1; have q1c0 := q1.cell 0; have q1f0 := q1.free 0; have q1l := q1.lt; simp at q1c0; refine Blk.thru (b := wr.heap.size) (arr := ?_) (t := ?_) ?_ hb2 ?_; rotate_left 2; (focus (exact blk)); intro qg; have qgc0 := qg.cell 0; have qgf0 := qg.free 0; have qgc1 := qg.cell 1; have qgf1 := qg.free 1; have qgc2 := qg.cell 2; have qgf2 := qg.free 2; have qgc3 := qg.cell 3; have qgf3 := qg.free 3; have qgc4 := qg.cell 4; have qgf4 := qg.free 4; have qgc5 := qg.cell 5; have qgf5 := qg.free 5; have qgl := qg.lt; simp at qgc0 qgc1 qgc2 qgc3 qgc4 qgc5)
      refine at_worldR (S := fun V => Blk V b0 #[.slice aw h.warm.length cw, .slice (some ⟨bg, og, none⟩) h.gauges.length cg, .slice af h.flows.length cf] 85 ∧ Blk V b1 #[.int .i64 c] 3 ∧ Blk V wr.heap.size #[.int .i64 g.time, .int .i64 g.air.plo, .int .i64 g.air.phi, .int .i64 g.air.tlo, .int .i64 g.air.thi, .slice va g.vols.length g.vc] 124 ∧ Blk V w2.heap.size #[.int .i64 (L - 0), .int .i64 (H - 0)] 23 ∧ Kept wr V ∧ Kept w V) ⟨by (exact blkc), by (exact blkc), by (exact blkc), by rw [Int.sub_zero, Int.sub_zero]; (exact blkc), by (exact kpt), by (exact kpt)⟩ ?_
      clear q0 q1 qg q0c0 q0f0 q0c1 q0f1 q0c2 q0f2 q0l q1c0 q1f0 q1l qgc0 qgf0 qgc1 qgf1 qgc2 qgf2 qgc3 qgf3 qgc4 qgf4 qgc5 qgf5 qgl
      clear q0 q1
      rintro V ⟨q0, q1, qg, q6, hkV, hkVw⟩
      have hz1 := hb2.size
      simp only [World.size_alloc] at hz1
      have hne0 : w2.heap.size ≠ b0 := by omega
      have hne1 : w2.heap.size ≠ b1 := by omega
      clear hlr0 hlr1
      have hneg : w2.heap.size ≠ wr.heap.size := by omega
      have hzz : wr.heap.size ≤ w2.heap.size := by omega
      have hzw : w.heap.size ≤ w2.heap.size := by have := hkr.size; omega
      obtain ⟨T0, hT0⟩ : ∃ n, n = tt h 0 := ⟨_, rfl⟩
      have HT0 := Lib.hid hT0
      have HBD := Lib.hid (fun j => come_bd ho c T0 g.time j)
      have HFLO := Lib.hid ho.flow
      have HCM := Lib.hid (come_all h c T0 g.time)
      rw [← hT0, HTT.out] at HTL HTH
      clear hT0 hkr q0f0
      obtain ⟨Z, rfl⟩ : ∃ Z : World, Z = wr := ⟨_, rfl⟩
      gi_loopw [24] (fun i wr => ∃ j : Nat, j ≤ h.flows.length ∧ i = .int .i64 j ∧ Blk wr b0 #[.slice aw h.warm.length cw, .slice (some ⟨bg, og, none⟩) h.gauges.length cg, .slice af h.flows.length cf] 85 ∧ Blk wr b1 #[.int .i64 c] 3 ∧ Blk wr Z.heap.size #[.int .i64 g.time, .int .i64 g.air.plo, .int .i64 g.air.phi, .int .i64 g.air.tlo, .int .i64 g.air.thi, .slice va g.vols.length g.vc] 124 ∧ Blk wr w2.heap.size #[.int .i64 (L - sumBy (flowN c T0 g.time) (h.flows.take j)), .int .i64 (H - sumBy (flowN c T0 g.time) (h.flows.take j))] 23 ∧ Kept Z wr ∧ Kept w wr) (fun i _ => h.flows.length - (intOf i).toNat)
      case atStart => exact ⟨0, Nat.zero_le _, rfl, q0, q1, qg, by simpa using q6, hkV, hkVw⟩
      case round =>
        clear q0 q1 qg q6 hkV hkVw
        obtain ⟨j, hj, rfl, q0, q1, qg, q6, hkz, hkw⟩ := hrel
        have q0c0 := q0.cell 0
        have q0f0 := q0.free 0
        have q0c1 := q0.cell 1
        have q0f1 := q0.free 1
        have q0c2 := q0.cell 2
        have q0f2 := q0.free 2
        have q0l := q0.lt
        simp at q0c0 q0c1 q0c2
        have sbd := HBD.out j
        by_cases hlt2 : j < h.flows.length
        · have ES0 := sumBy_take (flowN c T0 g.time) h.flows j hlt2
          obtain ⟨S, hS⟩ : ∃ S, S = sumBy (flowN c T0 g.time) (h.flows.take j) := ⟨_, rfl⟩
          rw [← hS] at ES0 q6 sbd
          obtain ⟨A, hA⟩ : ∃ A, A = L - S := ⟨_, rfl⟩
          obtain ⟨B, hB⟩ : ∃ B, B = H - S := ⟨_, rfl⟩
          rw [← hA, ← hB] at q6
          obtain ⟨bf, of, rfl, hbf, c0, c1, c2⟩ := Flow.row (R3.out _ hkw) j hlt2
          obtain ⟨x, hx⟩ : ∃ x, x = h.flows[j] := ⟨_, rfl⟩
          have hxb := HFLO.out x (by rw [hx]; exact List.getElem_mem hlt2)
          obtain ⟨⟨x1, x2⟩, ⟨x3, x4⟩, x5, x6⟩ := hxb
          rw [← hx] at c0 c1 c2 ES0
          have w1 := i64_inH (n := A - x.n) (by omega)
          have w2_ := i64_inH (n := B - x.n) (by omega)
          have hAA := Lib.hid hA
          have hBB := Lib.hid hB
          clear hx hA hB hS
          gi_wp2
          clear c0 c1 c2
          refine at_worldR (S := fun V => Blk V b0 #[.slice aw h.warm.length cw, .slice (some ⟨bg, og, none⟩) h.gauges.length cg, .slice (some ⟨bf, of, none⟩) h.flows.length cf] 85 ∧ Blk V b1 #[.int .i64 c] 3 ∧ Blk V Z.heap.size #[.int .i64 g.time, .int .i64 g.air.plo, .int .i64 g.air.phi, .int .i64 g.air.tlo, .int .i64 g.air.thi, .slice va g.vols.length g.vc] 124 ∧ Blk V w2.heap.size #[.int .i64 A, .int .i64 B] 23 ∧ Blk V wr.heap.size #[.int .i64 x.time, .int .i64 x.cell, .int .i64 x.n] 128 ∧ Kept Z V ∧ Kept w V) ⟨by (exact blkc), by (exact blkc), by (exact blkc), by (exact blkc), by (exact blkc), by (exact kpt), by (exact kpt)⟩ ?_
          clear q0 q1 qg q6 hkz hkw q0c0 q0f0 q0c1 q0f1 q0c2 q0f2 q0l
          rintro V ⟨q0, q1, qg, q6, qx, hkV, hkVw⟩
          obtain ⟨bg', og', hag', hbg', e0, _⟩ := Gauge.row (R2.out _ hkVw) 0 (by omega)
          obtain ⟨rfl, rfl⟩ : bg = bg' ∧ og = og' := by simpa using hag'
          rw [gAt_get (by omega), show (gAt h 0).time = T0 from HT0.out.symm] at e0
          simp only [Nat.zero_mul, Nat.add_zero] at e0
          have y0 := fun g_ : Later V => g_.some e0
          clear e0 hag'
          have q0c0 := fun g : Later V => (q0.later g).cell 0
          have q0f0 := fun g : Later V => (q0.later g).free 0
          have q0c1 := fun g : Later V => (q0.later g).cell 1
          have q0f1 := fun g : Later V => (q0.later g).free 1
          have q0c2 := fun g : Later V => (q0.later g).cell 2
          have q0f2 := fun g : Later V => (q0.later g).free 2
          have q0l := fun g : Later V => (q0.later g).lt
          simp at q0c0 q0c1 q0c2
          have q1c0 := fun g : Later V => (q1.later g).cell 0
          have q1f0 := fun g : Later V => (q1.later g).free 0
          have q1l := fun g : Later V => (q1.later g).lt
          simp at q1c0
          have qgc0 := fun g : Later V => (qg.later g).cell 0
          have qgf0 := fun g : Later V => (qg.later g).free 0
          have qgc1 := fun g : Later V => (qg.later g).cell 1
          have qgf1 := fun g : Later V => (qg.later g).free 1
          have qgc2 := fun g : Later V => (qg.later g).cell 2
          have qgf2 := fun g : Later V => (qg.later g).free 2
          have qgc3 := fun g : Later V => (qg.later g).cell 3
          have qgf3 := fun g : Later V => (qg.later g).free 3
          have qgc4 := fun g : Later V => (qg.later g).cell 4
          have qgf4 := fun g : Later V => (qg.later g).free 4
          have qgc5 := fun g : Later V => (qg.later g).cell 5
          have qgf5 := fun g : Later V => (qg.later g).free 5
          have qgl := fun g : Later V => (qg.later g).lt
          simp at qgc0 qgc1 qgc2 qgc3 qgc4 qgc5
          have qxc0 := fun g : Later V => (qx.later g).cell 0
          have qxf0 := fun g : Later V => (qx.later g).free 0
          have qxc1 := fun g : Later V => (qx.later g).cell 1
          have qxf1 := fun g : Later V => (qx.later g).free 1
          have qxc2 := fun g : Later V => (qx.later g).cell 2
          have qxf2 := fun g : Later V => (qx.later g).free 2
          have qxl := fun g : Later V => (qx.later g).lt
          simp at qxc0 qxc1 qxc2
          have g1 : 0 < h.gauges.length := by omega
          by_cases k1 : x.cell = (c : Int)
          · have e1 : (x.cell == (c : Int)) = true := by simp [k1]
            have e2 : decide (x.cell = (c : Int)) = true := by simp [k1]
            by_cases k2 : T0 < x.time
            · have e3 : decide (T0 < x.time) = true := by simp [k2]
              by_cases k3 : x.time ≤ g.time
              · have e4 : decide (x.time ≤ g.time) = true := by simp [k3]
                have EA := Lib.hid (show L - sumBy (flowN c T0 g.time) (h.flows.take (j + 1)) = A - x.n by rw [ES0, hAA.out, show flowN c T0 g.time x = x.n by simp [flowN, flowIn, k1, k2, k3]]; omega)
                have EB := Lib.hid (show H - sumBy (flowN c T0 g.time) (h.flows.take (j + 1)) = B - x.n by rw [ES0, hBB.out, show flowN c T0 g.time x = x.n by simp [flowN, flowIn, k1, k2, k3]]; omega)
                clear k1 k2 k3 ES0
                refine wpIn_wide.2 (Later.region (by kernel_rfl) (by kernel_rfl) ?_)
                repeat (first | go_big_quiet_skip | (go_big_quiet_want; go_big_quiet_op; first | go_big_quiet_on | (apply Exists.intro; refine ⟨fun g_ => ?_, ?_⟩; (focus (first | fail)); go_big_quiet_on)))
                refine wpQuiet_nil ?_
                intro gg
                have n0 := q0.later gg
                have n1 := q1.later gg
                have ng := qg.later gg
                have n6 := q6.later gg
                have nx := qx.later gg
                have hkg := Kept.drop hkV gg.ok
                have hkgw := Kept.drop hkVw gg.ok
                clear q0c0 q0f0 q0c1 q0f1 q0c2 q0f2 q0l qgc0 qgf0 qgc1 qgf1 qgc2 qgf2 qgc3 qgf3 qgc4 qgf4 qgc5 qgf5 qgl qxc0 qxf0 qxc1 qxf1 qxc2 qxf2 qxl q1c0 q1f0 q1l
                have n6c0 := n6.cell 0
                have n6f0 := n6.free 0
                have n6c1 := n6.cell 1
                have n6f1 := n6.free 1
                have n6l := n6.lt
                simp at n6c0 n6c1
                have nxc0 := nx.cell 0
                have nxf0 := nx.free 0
                have nxc1 := nx.cell 1
                have nxf1 := nx.free 1
                have nxc2 := nx.cell 2
                have nxf2 := nx.free 2
                have nxl := nx.lt
                simp at nxc0 nxc1 nxc2
                gi_wp2
                go_roundw
                case rel => exact ⟨j + 1, by omega, by go_num, (Blk.other (Blk.other n0 hne0 _) hne0 _), (Blk.other (Blk.other n1 hne1 _) hne1 _), (Blk.other (Blk.other ng hneg _) hneg _), by have z := ((n6.set 0 (.int .i64 (A - x.n))).set 1 (.int .i64 (B - x.n))); rw [EA.out, EB.out]; simpa using z, by (exact kpt), by (exact kpt)⟩
                case measure => simp [intOf]; omega
              · have e4 : decide (x.time ≤ g.time) = false := by simp; omega
                have EA := Lib.hid (show L - sumBy (flowN c T0 g.time) (h.flows.take (j + 1)) = A by rw [ES0, hAA.out, show flowN c T0 g.time x = 0 by simp [flowN, flowIn, k1, k2, k3]]; omega)
                have EB := Lib.hid (show H - sumBy (flowN c T0 g.time) (h.flows.take (j + 1)) = B by rw [ES0, hBB.out, show flowN c T0 g.time x = 0 by simp [flowN, flowIn, k1, k2, k3]]; omega)
                clear k1 k2 k3 ES0
                refine wpIn_wide.2 (Later.region (by kernel_rfl) (by kernel_rfl) ?_)
                repeat (first | go_big_quiet_skip | (go_big_quiet_want; go_big_quiet_op; first | go_big_quiet_on | (apply Exists.intro; refine ⟨fun g_ => ?_, ?_⟩; (focus (first | fail)); go_big_quiet_on)))
                refine wpQuiet_nil ?_
                intro gg
                have n0 := q0.later gg
                have n1 := q1.later gg
                have ng := qg.later gg
                have n6 := q6.later gg
                have nx := qx.later gg
                have hkg := Kept.drop hkV gg.ok
                have hkgw := Kept.drop hkVw gg.ok
                clear q0c0 q0f0 q0c1 q0f1 q0c2 q0f2 q0l qgc0 qgf0 qgc1 qgf1 qgc2 qgf2 qgc3 qgf3 qgc4 qgf4 qgc5 qgf5 qgl qxc0 qxf0 qxc1 qxf1 qxc2 qxf2 qxl q1c0 q1f0 q1l
                gi_wp2
                go_roundw
                case rel => exact ⟨j + 1, by omega, by go_num, n0, n1, ng, by rw [EA.out, EB.out]; exact n6, by (exact kpt), by (exact kpt)⟩
                case measure => simp [intOf]; omega
            · have e3 : decide (T0 < x.time) = false := by simp; omega
              have EA := Lib.hid (show L - sumBy (flowN c T0 g.time) (h.flows.take (j + 1)) = A by rw [ES0, hAA.out, show flowN c T0 g.time x = 0 by simp [flowN, flowIn, k1, k2]]; omega)
              have EB := Lib.hid (show H - sumBy (flowN c T0 g.time) (h.flows.take (j + 1)) = B by rw [ES0, hBB.out, show flowN c T0 g.time x = 0 by simp [flowN, flowIn, k1, k2]]; omega)
              clear k1 k2 ES0
              refine wpIn_wide.2 (Later.region (by kernel_rfl) (by kernel_rfl) ?_)
              repeat (first | go_big_quiet_skip | (go_big_quiet_want; go_big_quiet_op; first | go_big_quiet_on | (apply Exists.intro; refine ⟨fun g_ => ?_, ?_⟩; (focus (first | fail)); go_big_quiet_on)))
              refine wpQuiet_nil ?_
              intro gg
              have n0 := q0.later gg
              have n1 := q1.later gg
              have ng := qg.later gg
              have n6 := q6.later gg
              have nx := qx.later gg
              have hkg := Kept.drop hkV gg.ok
              have hkgw := Kept.drop hkVw gg.ok
              clear q0c0 q0f0 q0c1 q0f1 q0c2 q0f2 q0l qgc0 qgf0 qgc1 qgf1 qgc2 qgf2 qgc3 qgf3 qgc4 qgf4 qgc5 qgf5 qgl qxc0 qxf0 qxc1 qxf1 qxc2 qxf2 qxl q1c0 q1f0 q1l
              gi_wp2
              go_roundw
              case rel => exact ⟨j + 1, by omega, by go_num, n0, n1, ng, by rw [EA.out, EB.out]; exact n6, by (exact kpt), by (exact kpt)⟩
              case measure => simp [intOf]; omega
          · have e1 : (x.cell == (c : Int)) = false := by simp [k1]
            have e2 : decide (x.cell = (c : Int)) = false := by simp [k1]
            have EA := Lib.hid (show L - sumBy (flowN c T0 g.time) (h.flows.take (j + 1)) = A by rw [ES0, hAA.out, show flowN c T0 g.time x = 0 by simp [flowN, flowIn, k1]]; omega)
            have EB := Lib.hid (show H - sumBy (flowN c T0 g.time) (h.flows.take (j + 1)) = B by rw [ES0, hBB.out, show flowN c T0 g.time x = 0 by simp [flowN, flowIn, k1]]; omega)
            clear k1 ES0
            refine wpIn_wide.2 (Later.region (by kernel_rfl) (by kernel_rfl) ?_)
            repeat (first | go_big_quiet_skip | (go_big_quiet_want; go_big_quiet_op; first | go_big_quiet_on | (apply Exists.intro; refine ⟨fun g_ => ?_, ?_⟩; (focus (first | fail)); go_big_quiet_on)))
            refine wpQuiet_nil ?_
            intro gg
            have n0 := q0.later gg
            have n1 := q1.later gg
            have ng := qg.later gg
            have n6 := q6.later gg
            have nx := qx.later gg
            have hkg := Kept.drop hkV gg.ok
            have hkgw := Kept.drop hkVw gg.ok
            clear q0c0 q0f0 q0c1 q0f1 q0c2 q0f2 q0l qgc0 qgf0 qgc1 qgf1 qgc2 qgf2 qgc3 qgf3 qgc4 qgf4 qgc5 qgf5 qgl qxc0 qxf0 qxc1 qxf1 qxc2 qxf2 qxl q1c0 q1f0 q1l
            gi_wp2
            go_roundw
            case rel => exact ⟨j + 1, by omega, by go_num, n0, n1, ng, by rw [EA.out, EB.out]; exact n6, by (exact kpt), by (exact kpt)⟩
            case measure => simp [intOf]; omega
        · obtain rfl : j = h.flows.length := by omega
          rw [← HCM.out, ← HTL.out, ← HTH.out] at q6
          obtain ⟨fn, tmps, assign, body, hy, hR⟩ := hY pre ⟨k, hlt⟩ wr (abides_kept hJ HJ0.out hkz) (by omega)
          dsimp only [toldV] at hy
          obtain ⟨TL, hTL⟩ : ∃ n, n = toldLo h c k := ⟨_, rfl⟩
          obtain ⟨TH, hTH⟩ : ∃ n, n = toldHi h c k := ⟨_, rfl⟩
          rw [← hTL, ← hTH] at hy q6
          have q6c0 := q6.cell 0
          have q6f0 := q6.free 0
          have q6c1 := q6.cell 1
          have q6f1 := q6.free 1
          have q6l := q6.lt
          simp at q6c0 q6c1
          have HR := Lib.hid hR
          clear hR hTL hTH sbd
          gi_wp2
          refine HR.out.mono ?_
          clear hy q6c0 q6f0 q6c1 q6f1 q6l q0c0 q0f0 q0c1 q0f1 q0c2 q0f2 q0l
          rintro e W3 (⟨rfl, hJ3, hk3⟩ | ⟨rfl, hJx3⟩)
          · gi_wp2
            go_roundw
            case rel => exact ⟨pre ++ [⟨k, hlt⟩], k + 1, by omega, by go_num, HUP.out.snoc _ HPL.out.symm, by simp [HPL.out], hJ3, hk3.k0.trans q0, hk3.k1.trans q1, hkw.trans hk3.below⟩
            case measure => simp [intOf]; omega
          · gi_wp2
            refine bodyPost_ret (results_none rfl _ _ _) rfl ⟨⟨_, rfl⟩, .inr ⟨pre ++ [⟨k, hlt⟩], HUP.out.snoc _ HPL.out.symm, hJx3⟩⟩
    · obtain rfl : k = h.gauges.length := by omega
      gi_wp2
      go_end0
      exact ⟨⟨_, rfl⟩, .inl ⟨pre, ⟨hup, hpl⟩, hJ0⟩⟩

end Go.Proofs.Ytemafanncejeiaa

/-
  A range over an iterator that keeps its state in cells of its own, and hands over values that show them: its contract, and the law of the caller. No program in sight.
-/
namespace Bal
open Go Go.RowKit
variable {F : Fence} {n : Nat} {P : Program}

/-- whatever lay lies as it lay, but block l -/
structure Spares (l : Nat) (W W' : World) : Prop where
  size : W.heap.size ≤ W'.heap.size
  block : ∀ k, k < W.heap.size → k ≠ l → W'.heap[k]? = W.heap[k]?

/-- an iterator with memory of its own: its values show the lists of L, one behind the other -/
def SeqOf {α : Type} (F : Fence) (n : Nat) (P : Program) (g : Nat) (lb : Array Value) (V : α → Value → World → Prop) (L : List α) (w : World) : Prop :=
  ∀ (l : Nat) (J Jx : List α → World → Prop) (W : World), Below w.heap.size w W → (∀ s A B, J s A → Below W.heap.size A B → J s B) → w.heap.size ≤ l → l < W.heap.size →
    (∀ pre x v A, J pre A → V x v A → pre ++ [x] <+: L → YieldAt F (n - 1) P l #[v] A fun e W' =>
      (e = .returned (.bool true) ∧ J (pre ++ [x]) W' ∧ Spares l A W') ∨ (e = .returned (.bool false) ∧ Jx (pre ++ [x]) W')) →
    J [] W →
    CallsIn F n P g (#[.func (.yield l) #[] #[]] ++ lb) W fun e W' => (∃ v, e = .returned v) ∧ (J L W' ∨ (∃ pre, pre <+: L ∧ Jx pre W'))

/-- how a round's body may be left -/
def postP {α : Type} (B : Nat) (I : List α → World → Prop) (Ix : Code → List α → World → Prop) (xs : List α) (W : World) : Exit → Act → World → Prop
  | .normal, _, W' => Kept W W' ∧ I xs W'
  | .ret, _, W' => KeepsFrom B W W' ∧ Ix .ret xs W'
  | .exit id, _, W' => KeepsFrom B W W' ∧ Ix (.exit id) xs W'
  | .goto t, _, W' => KeepsFrom B W W' ∧ Ix (.goto t) xs W'
  | .panic _, _, _ => False
  | .outgrown, _, _ => False

theorem below_putObj {B l : Nat} {W : World} (o : Obj) (hB : B ≤ W.heap.size) (h : B ≤ l) : Below B W (W.putObj l o) :=
  (Below.refl B W).grown (grownBy_putObj' W l o) hB (fun k e => by cases e; exact h)

theorem wpIn_rangeFunc_P {α : Type} {g : Operand} {ps : Array Tmp} {assign body : Code} {Q : Exit → Act → World → Prop} {a : Act} {w : World}
    (hro : F.round = none) (h1 : 1 ≤ n) {gf : Nat} {lb : Array Value} (hg : a.eval g = .func (.func gf) #[] lb) (hFg : F.fn gf) (eg : ∀ args w, (callFunc gf args).run P w = .ok (.enter gf args) w)
    {V : α → Value → World → Prop} {L : List α} {w0 : World} (hseq : SeqOf F (n - 1) P gf lb V L w0) (hb0 : Below w0.heap.size w0 w) (hps : ps.size = 1)
    (I : List α → World → Prop) (Ix : Code → List α → World → Prop) (hI : ∀ s A B, I s A → Below w.heap.size A B → I s B) (hIx : ∀ c, OwnFrom w.heap.size (Ix c)) (hV : ∀ x v, OwnFrom w.heap.size (fun (_ : Unit) W => V x v W)) (h0 : I [] w) (a₁ : Value → Act)
    (hassign : ∀ (l : Nat) (v : Value) (W : World) (K : Act → World → Prop), K (a₁ v) W →
      assign.wpIn (F.inRound l) (n - 1 - 1) P (Exit.then K (fun _ _ _ => False)) { tmps := (ps.zip #[v]).foldl (fun t (p, v) => t.setIfInBounds p v) a.tmps, defers := [] } W)
    (hbody : ∀ (l : Nat) (pre : List α) (x : α) (v : Value) (W : World), w.heap.size ≤ W.heap.size → I pre W → V x v W → pre ++ [x] <+: L → body.wpIn (F.inRound l) (n - 1 - 1) P (postP w.heap.size I Ix (pre ++ [x]) W) (a₁ v) W)
    (hdone : ∀ (D : Nat) (W : World), w.heap.size ≤ D → I L W → W.heap[D]? = some (.deferred (some [])) → Q .normal { a with defers := { target := .collected D, args := #[] } :: a.defers } W)
    (hstop : ∀ (D : Nat) (c : Code) (pre : List α) (W : World), w.heap.size ≤ D → pre <+: L → Ix c pre W → W.heap[D]? = some (.deferred (some [])) → c.wpIn F n P Q { a with defers := { target := .collected D, args := #[] } :: a.defers } W) :
    (Code.rangeFunc g ps assign body).wpIn F n P Q a w := by
  refine wpIn_rangeFunc ?_
  intro fn hfn
  rw [hro]
  obtain ⟨rec, hrec⟩ : ∃ rec : LoopState → Option Code → Loop, rec = fun st pe => { state := st, pending := pe, fn, tmps := a.tmps, params := ps, assign, body, defers := w.heap.size } := ⟨_, rfl⟩
  obtain ⟨W1, hW1⟩ : ∃ W1, (w.alloc (.deferred (some []))).alloc (.loop (rec .ready none)) = W1 := ⟨_, rfl⟩
  have hs1 : W1.heap.size = w.heap.size + 1 + 1 := by rw [← hW1]; simp
  have hL1 : W1.heap[w.heap.size + 1]? = some (.loop (rec .ready none)) := by
    rw [← hW1]; have := World.alloc_heap_new (w.alloc (.deferred (some []))) (.loop (rec .ready none)); rwa [World.size_alloc] at this
  have hK1 : W1.heap[w.heap.size]? = some (.deferred (some [])) := by
    rw [← hW1]; exact (Below.heap_alloc _ _ _ (by simp)).trans (World.alloc_heap_new w _)
  have hw1 : Below w.heap.size w W1 := by
    rw [← hW1]; exact (((Below.refl _ w).alloc (Nat.le_refl _) _).alloc (by simp) _)
  have hI1 : I [] W1 := hI _ _ _ h0 hw1
  have hb1 : Below w0.heap.size w0 W1 := hb0.trans (hw1.mono hb0.size)
  refine ⟨w.heap.size + 1, [{ target := .collected w.heap.size, args := #[] }], W1, { target := .fn (.func gf) lb, args := #[.func (.yield (w.heap.size + 1)) #[] #[]] }, W1, gf,
    #[.func (.yield (w.heap.size + 1)) #[] #[]] ++ lb, W1, ?_, ?_, ?_, ?_, fun _ => h1, ?_⟩
  · rw [← hW1, hrec]; exact run_enterLoop_outer _ _ _ _ _
  · simp only [resolve, hg]
    simp [go_sem]
  · intro f' hf'; simp [Target.leads] at hf'; subst hf'; exact hFg
  · simp [invoke, go_sem, eg]
  · refine (hseq (w.heap.size + 1)
      (fun pre W => I pre W ∧ W.heap[w.heap.size + 1]? = some (.loop (rec .ready none)) ∧ W.heap[w.heap.size]? = some (.deferred (some [])))
      (fun pre W => ∃ c, Ix c pre W ∧ W.heap[w.heap.size + 1]? = some (.loop (rec .done (some c))) ∧ W.heap[w.heap.size]? = some (.deferred (some [])))
      W1 hb1
      (fun s A B hs hB => ⟨hI s A B hs.1 (hB.mono (by omega)), (hB.block _ (by omega)).trans hs.2.1, (hB.block _ (by omega)).trans hs.2.2⟩)
      (by have := hb0.size; omega) (by omega)
      ?_ ⟨hI1, hL1, hK1⟩).mono ?_
    · rintro pre x v W ⟨hi, hl, hk⟩ hv hpre
      have hlt : w.heap.size + 1 < W.heap.size := (Array.getElem?_eq_some_iff.1 hl).1
      have hy := run_yield (P := P) (args := #[v]) hl (by rw [hrec]; exact hps.symm)
      rw [hrec] at hy
      refine ⟨fn, _, assign, body, hy, roundIn_of_wpIn hfn (hassign _ v W _ ?_)⟩
      clear hy
      refine ⟨_, run_beginRound hl (by rw [hrec]), ?_⟩
      have hl2 : (W.putObj (w.heap.size + 1) (.loop { rec .ready none with state := .busy })).heap[w.heap.size + 1]? = some (.loop { rec .ready none with state := .busy }) := World.putObj_heap_same hlt
      have hk2 : (W.putObj (w.heap.size + 1) (.loop { rec .ready none with state := .busy })).heap[w.heap.size]? = some (.deferred (some [])) := (World.putObj_heap_other (by omega)).trans hk
      have hz2 : (W.putObj (w.heap.size + 1) (.loop { rec .ready none with state := .busy })).heap.size = W.heap.size := World.putObj_size
      have ho2 : ∀ k, k ≠ w.heap.size + 1 → (W.putObj (w.heap.size + 1) (.loop { rec .ready none with state := .busy })).heap[k]? = W.heap[k]? := fun k hk => World.putObj_heap_other hk
      obtain ⟨Wb, hWb⟩ : ∃ Wb, Wb = W.putObj (w.heap.size + 1) (.loop { rec .ready none with state := .busy }) := ⟨_, rfl⟩
      have hIb : I pre Wb := by rw [hWb]; exact hI _ _ _ hi (below_putObj _ (by omega) (by omega))
      have hVb : V x v Wb := by rw [hWb]; exact (hV x v).putObj (s := ()) _ hv (by omega) hl rfl
      rw [← hWb] at hl2 hk2 hz2 ho2 ⊢
      refine wpIn_mono (hbody _ pre x v Wb (by omega) hIb hVb hpre) ?_
      have fin : ∀ (jump : Option Code) (W3 : World), W3.heap[w.heap.size + 1]? = some (.loop { rec .ready none with state := .busy }) → W3.heap[w.heap.size]? = some (.deferred (some [])) →
          (Instr.endRound (w.heap.size + 1) jump).run P W3 = .ok (.bool jump.isNone) (W3.putObj (w.heap.size + 1) (.loop (rec (if jump.isNone then .ready else .done) jump))) ∧
          (W3.putObj (w.heap.size + 1) (.loop (rec (if jump.isNone then .ready else .done) jump))).heap[w.heap.size + 1]? = some (.loop (rec (if jump.isNone then .ready else .done) jump)) ∧
          (W3.putObj (w.heap.size + 1) (.loop (rec (if jump.isNone then .ready else .done) jump))).heap[w.heap.size]? = some (.deferred (some [])) := fun jump W3 hl3 hk3 => by
        have := run_endRound (P := P) jump hl3
        rw [hrec] at this ⊢
        exact ⟨this, World.putObj_heap_same (Array.getElem?_eq_some_iff.1 hl3).1, (World.putObj_heap_other (by omega)).trans hk3⟩
      rintro e a3 W3 hp
      cases e with
      | normal =>
        obtain ⟨hkp3, hi3⟩ := hp
        have hl3 := (hkp3.block (w.heap.size + 1) (by omega)).trans hl2
        obtain ⟨hr, hl4, hk4⟩ := fin none W3 hl3 ((hkp3.block w.heap.size (by omega)).trans hk2)
        have hz3 := hkp3.size
        refine ⟨_, _, hr, .inl ⟨rfl, ⟨hI _ _ _ hi3 (below_putObj _ (by omega) (by omega)), hl4, hk4⟩, ⟨by rw [World.putObj_size]; omega, fun k hk hne => ?_⟩⟩⟩
        rw [World.putObj_heap_other hne, hkp3.block k (by omega), ho2 k hne]
      | ret =>
        obtain ⟨hk3, hi3⟩ := hp
        have hl3 := hk3.same _ _ (by omega) hl2 rfl
        obtain ⟨hr, hl4, hk4⟩ := fin (some .ret) W3 hl3 (hk3.same _ _ (Nat.le_refl _) hk2 rfl)
        exact ⟨_, _, hr, .inr ⟨rfl, .ret, (hIx _).putObj _ hi3 (by omega) hl3 rfl, hl4, hk4⟩⟩
      | exit id =>
        obtain ⟨hk3, hi3⟩ := hp
        have hl3 := hk3.same _ _ (by omega) hl2 rfl
        obtain ⟨hr, hl4, hk4⟩ := fin (some (.exit id)) W3 hl3 (hk3.same _ _ (Nat.le_refl _) hk2 rfl)
        exact ⟨_, _, hr, .inr ⟨rfl, .exit id, (hIx _).putObj _ hi3 (by omega) hl3 rfl, hl4, hk4⟩⟩
      | goto t =>
        obtain ⟨hk3, hi3⟩ := hp
        have hl3 := hk3.same _ _ (by omega) hl2 rfl
        obtain ⟨hr, hl4, hk4⟩ := fin (some (.goto t)) W3 hl3 (hk3.same _ _ (Nat.le_refl _) hk2 rfl)
        exact ⟨_, _, hr, .inr ⟨rfl, .goto t, (hIx _).putObj _ hi3 (by omega) hl3 rfl, hl4, hk4⟩⟩
      | panic ch => exact hp.elim
      | outgrown => exact hp.elim
    · rintro e W2 ⟨⟨v, rfl⟩, (⟨hi, hl, hk⟩ | ⟨pre, hSp, c, hi, hl, hk⟩)⟩
      · have hlt : w.heap.size + 1 < W2.heap.size := (Array.getElem?_eq_some_iff.1 hl).1
        exact ⟨none, _, by have := run_endLoop (P := P) hl (by rw [hrec]; simp); rw [hrec] at this; exact this, hdone _ _ (Nat.le_refl _) (hI _ _ _ hi (below_putObj _ (by omega) (by omega))) ((World.putObj_heap_other (by omega)).trans hk)⟩
      · exact ⟨some c, _, by have := run_endLoop (P := P) hl (by rw [hrec]; simp); rw [hrec] at this; exact this, hstop _ c pre _ (Nat.le_refl _) hSp ((hIx c).putObj _ hi (by omega) hl rfl) ((World.putObj_heap_other (by omega)).trans hk)⟩

/-! ### The marks that the loops have left -/
def marks (Ds : List Nat) : List Deferred := Ds.map fun D => { target := .collected D, args := #[] }
/-- each mark's block is there, with no call -/
def Marked (B : Nat) (Ds : List Nat) (W : World) : Prop := Ds.Nodup ∧ ∀ D ∈ Ds, B ≤ D ∧ W.heap[D]? = some (.deferred (some []))
theorem Marked.keep {B C : Nat} {Ds : List Nat} {W W' : World} (h : Marked B Ds W) (hb : Below C W W') (hC : W.heap.size ≤ C) : Marked B Ds W' :=
  ⟨h.1, fun D hD => ⟨(h.2 D hD).1, (hb.block D (by have := (Array.getElem?_eq_some_iff.1 (h.2 D hD).2).1; omega)).trans (h.2 D hD).2⟩⟩
theorem Marked.from {B C : Nat} {Ds : List Nat} {W W' : World} (h : Marked B Ds W) (hk : KeepsFrom C W W') (hC : C ≤ B) : Marked B Ds W' :=
  ⟨h.1, fun D hD => ⟨(h.2 D hD).1, hk.same D _ (by have := (h.2 D hD).1; omega) (h.2 D hD).2 rfl⟩⟩
/-- a function leaves through its marks: what its ending says must abide their turn -/
theorem leaves_marks {fn : Func} {tmps : Array Value} {R : Ending → World → Prop} {B : Nat} (S : World → Prop) (hS : OwnFrom B (fun (_ : Unit) W => S W)) (hend : ∀ W, S W → LeavesIn F n P fn tmps R [] .returning W) :
    ∀ (Ds : List Nat) (W : World), Marked B Ds W → S W → LeavesInM F n P fn tmps R (marks Ds) .returning W
  | [], W, _, h => hend W h
  | D :: Ds, W, hm, h => by
    obtain ⟨hnd, hm⟩ := hm
    obtain ⟨hB, hD⟩ := hm D (by simp)
    refine ⟨by simp, .inl ⟨D, _, rfl, run_takeDeferred hD, leaves_marks S hS hend Ds _ ⟨(List.nodup_cons.1 hnd).2, fun E hE => ?_⟩ (hS.putObj (s := ()) _ h hB hD rfl)⟩⟩
    have hne : E ≠ D := fun e => (List.nodup_cons.1 hnd).1 (e ▸ hE)
    exact ⟨(hm E (by simp [hE])).1, (World.putObj_heap_other hne).trans (hm E (by simp [hE])).2⟩
end Bal

/-
  What can have leaked of a cell: the program.
-/
namespace Go.Proofs.Ytemafanncejeiaa
open Go.RowKit Go.Shelf Bal Bal.Trim Bal.Gas
set_option linter.unusedVariables false
set_option linter.unusedSimpArgs false
set_option maxHeartbeats 4000000
set_option maxRecDepth 100000
attribute [local go_sem] Oper.semAt_some ite_max ite_min toldV

def hiTo (h : Hist) (c k : Nat) : Int := if k = 0 then 0 else if k = h.gauges.length then toldHi h c 0 - toldLo h c (h.gauges.length - 1) else toldHi h c 0
/-- what the loop's cells hold when the gauges pre have come -/
def LostI (h : Hist) (c : Nat) (b2 b3 b4 : Nat) (pre : List (Fin h.gauges.length)) (W : World) : Prop :=
  ∃ nd cn hi : Int, (-1152921504606846976 ≤ nd ∧ nd ≤ 121000000000) ∧ (-1000000000 ≤ cn ∧ cn ≤ 1152921504606846976) ∧ (-(200000000000 * ((pre.length : Int) + 1)) ≤ hi ∧ hi ≤ 200000000000 * ((pre.length : Int) + 1)) ∧
    Blk W b2 #[.int .i64 nd] 3 ∧ Blk W b3 #[.int .i64 cn] 3 ∧ Blk W b4 #[.int .i64 0, .int .i64 hi] 23 ∧
    (Up pre → nd = needTo h c pre.length ∧ cn = canTo h c pre.length ∧ hi = hiTo h c pre.length)
theorem lostI_from (B : Nat) (h : Hist) (c b2 b3 b4 : Nat) : OwnFrom B (LostI h c b2 b3 b4) := by
  rintro pre X Y row ⟨nd, cn, hi, e1, e2, e3, k2, k3, k4, hu⟩ hg hr
  exact ⟨nd, cn, hi, e1, e2, e3, blk_from (β := Unit) B _ _ _ () X Y row k2 hg hr, blk_from (β := Unit) B _ _ _ () X Y row k3 hg hr, blk_from (β := Unit) B _ _ _ () X Y row k4 hg hr, hu⟩
theorem f_lost (h : Hist) (s : Spot) (w : World) (hh : HistAt h s w) (ho : HistOk h) (c : Nat) (hc : c < h.warm.length) :
    Calls Try.prog 128 #[.agg #[.slice s.aw h.warm.length s.cw, .slice s.ag h.gauges.length s.cg, .slice s.af h.flows.length s.cf], .int .i64 c] w fun e w' => e = .returned (.agg #[.int .i64 (lostLo h c), .int .i64 (lostHi h c)]) ∧ Kept w w' := by
  have hg1 := ho.g1
  have hg2 := ho.g2
  have hgc := hh.gc
  have hgm := hh.gm
  unfold maxLen at hgm
  refine (callsIn_wide (n := 6)).1 ?_
  refine callsIn_of_wp_marks Try.func128 rfl trivial ?_ rfl
  simp only [Try.ntmps128, List.size_toArray, List.length_cons, List.length_nil, Nat.reduceAdd, Nat.reduceSub, Array.replicate_succ, Array.replicate_zero, List.push_toArray, List.append_toArray, List.nil_append, List.cons_append]
  gi_wp2_with (refine ⟨trivial, ?_⟩; gi_at_call 131; (refine (callsIn_wide.2 (f_told h s _ _)).mono ?_); rintro e w1 ⟨rfl, rfl⟩)
  refine at_worldR (S := fun V => Blk V w.heap.size #[.slice s.aw h.warm.length s.cw, .slice s.ag h.gauges.length s.cg, .slice s.af h.flows.length s.cf] 85 ∧ Blk V (w.heap.size + 1) #[.int .i64 0, .int .i64 0] 23 ∧ Blk V (w.heap.size + 1 + 1) #[.int .i64 (-1152921504606846976)] 3 ∧ Blk V (w.heap.size + 1 + 1 + 1) #[.int .i64 1152921504606846976] 3 ∧ Blk V (w.heap.size + 1 + 1 + 1 + 1) #[.int .i64 0, .int .i64 0] 23 ∧ Blk V (w.heap.size + 1 + 1 + 1 + 1 + 1) #[.slice s.aw h.warm.length s.cw, .slice s.ag h.gauges.length s.cg, .slice s.af h.flows.length s.cf] 85 ∧ Blk V (w.heap.size + 1 + 1 + 1 + 1 + 1 + 1) #[.int .i64 c] 3 ∧ Kept w V) ⟨by (exact blkc), by (exact blkc), by (exact blkc), by (exact blkc), by (exact blkc), by (exact blkc), by (exact blkc), by (exact kpt)⟩ ?_
  rintro V ⟨k0, k1, k2, k3, k4, k5, k6, hkV⟩
  have hs0 := (Blk.lt k6)
  have HH2 := hh.later hkV
  obtain ⟨n0, hn0⟩ : ∃ n, n = h.gauges.length := ⟨_, rfl⟩
  refine wpIn_rangeFunc_ownH (gf := 141) (lb := #[.pointer (some ⟨w.heap.size + 1 + 1 + 1 + 1 + 1, 0, none⟩), .pointer (some ⟨w.heap.size + 1 + 1 + 1 + 1 + 1 + 1, 0, none⟩)]) rfl (by omega) rfl trivial (enters_of Try.func141 (by kernel_rfl) rfl)
    (f_told1 h s w V hh hkV ho c hc (w.heap.size + 1 + 1 + 1 + 1 + 1) (w.heap.size + 1 + 1 + 1 + 1 + 1 + 1) k5 k6 5 (by omega)) KeptB.trans (KeptB.put hkV.size k5.lt k6.lt) (Below.refl _ _) (fun _ => rfl)
    (fun pre W => LostI h c (w.heap.size + 1 + 1) (w.heap.size + 1 + 1 + 1) (w.heap.size + 1 + 1 + 1 + 1) pre W ∧ Blk W w.heap.size #[.slice s.aw h.warm.length s.cw, .slice s.ag h.gauges.length s.cg, .slice s.af h.flows.length s.cf] 85 ∧ Blk W (w.heap.size + 1) #[.int .i64 0, .int .i64 0] 23 ∧ Kept w W ∧ V.heap.size ≤ W.heap.size)
    (fun _ _ _ => False)
    (OwnFrom.and (lostI_from _ _ _ _ _ _) (OwnFrom.and (blk_from _ _ _ _) (OwnFrom.and (blk_from _ _ _ _) (OwnFrom.and (ownFrom_below (Nat.le_refl _) hkV.size) (fun _ _ _ _ hs hg _ => Nat.le_trans hs hg.size)))))
    (fun _ _ _ _ _ hs _ _ => hs)
    ⟨⟨-1152921504606846976, 1152921504606846976, 0, by omega, by omega, by simp, k2, k3, k4, fun _ => ⟨rfl, rfl, rfl⟩⟩, k0, k1, hkV, Nat.le_refl _⟩
    (fun x a' W => ∃ Bx, V.heap.size ≤ Bx ∧ Blk W Bx #[.int .i64 (toldLo h c x.val), .int .i64 (toldHi h c x.val)] 23 ∧ a' = { tmps := #[.agg #[.slice s.aw h.warm.length s.cw, .slice s.ag h.gauges.length s.cg, .slice s.af h.flows.length s.cf], .int .i64 c, .pointer (some ⟨w.heap.size, 0, none⟩), undef, .pointer (some ⟨w.heap.size + 1, 0, none⟩), .pointer (some ⟨w.heap.size + 1 + 1, 0, none⟩), .pointer (some ⟨w.heap.size + 1 + 1 + 1, 0, none⟩), .pointer (some ⟨w.heap.size + 1 + 1 + 1 + 1, 0, none⟩), .int .i64 x.val, .pointer (some ⟨Bx, 0, none⟩), .agg #[.slice s.aw h.warm.length s.cw, .slice s.ag h.gauges.length s.cg, .slice s.af h.flows.length s.cf], .int .i64 c, .func (.func 141) #[] #[.pointer (some ⟨w.heap.size + 1 + 1 + 1 + 1 + 1, 0, none⟩), .pointer (some ⟨w.heap.size + 1 + 1 + 1 + 1 + 1 + 1, 0, none⟩)], .int .i64 x.val, .agg #[.int .i64 (toldLo h c x.val), .int .i64 (toldHi h c x.val)], undef, undef, undef, undef, undef, undef, undef, undef, undef, undef, undef, undef, undef, undef, undef, undef, undef, undef, undef, undef, undef, undef, undef, undef, undef, undef, undef, undef, undef, undef, undef, undef, undef, undef, undef, undef], defers := [] })
    (fun x a' _ X Y row hs hg hr => by obtain ⟨Bx, e1, e2, e3⟩ := hs; exact ⟨Bx, e1, blk_from (β := Unit) V.heap.size _ _ _ () X Y row e2 hg hr, e3⟩)
    ?assign ?body ?done ?stop
  case assign =>
    rintro l pre x W K ⟨hL, q0, q1, hkw, hsz⟩ hK
    gi_wp2
    have hka : Kept W (W.alloc (.cells #[.int .i64 (toldLo h c x.val), .int .i64 (toldHi h c x.val)] 23)) := Kept.alloc (Below.refl _ _) _
    have z5 := Blk.lt k5
    have z6 := Blk.lt k6
    exact hK _ _ (keepsFrom_kept hka _) (KeptB.of_kept hka hkw.size (by omega) (by omega)) ⟨(lostI_from V.heap.size _ _ _ _ _).alloc _ hL, q0.alloc _, q1.alloc _, Kept.alloc hkw _, by rw [World.size_alloc]; omega⟩ ⟨W.heap.size, hsz, Blk.new, rfl⟩
  case body =>
    rintro l pre x a' W hl _ ⟨⟨nd, cn, hi, e1, e2, e3, q2, q3, q4, hu⟩, q0, q1, hkw, hsz⟩ ⟨Bx, hBx, qx, rfl⟩ hlen
    have bd := told_bd ho x.isLt hc
    obtain ⟨i, hi0⟩ : ∃ i, i = x.val := ⟨_, rfl⟩
    have hil : i < h.gauges.length := by rw [hi0]; exact x.isLt
    rw [← hi0] at bd qx ⊢
    obtain ⟨TL, hTL⟩ : ∃ n, n = toldLo h c i := ⟨_, rfl⟩
    obtain ⟨TH, hTH⟩ : ∃ n, n = toldHi h c i := ⟨_, rfl⟩
    rw [← hTL, ← hTH] at bd qx ⊢
    have HTL := Lib.hid hTL
    have HTH := Lib.hid hTH
    have HU := Lib.hid hu
    have HI0 := Lib.hid hi0
    have z5 := Blk.lt k5
    have z6 := Blk.lt k6
    clear k0 k1 k2 k3 k4 k5 k6 hkV hs0 HH2 hTL hTH hu hi0 hn0 n0
    gi_wp2
    have q2c0 := fun g : Later W => (q2.later g).cell 0
    have q2f0 := fun g : Later W => (q2.later g).free 0
    have q2l := fun g : Later W => (q2.later g).lt
    simp at q2c0
    have q3c0 := fun g : Later W => (q3.later g).cell 0
    have q3f0 := fun g : Later W => (q3.later g).free 0
    have q3l := fun g : Later W => (q3.later g).lt
    simp at q3c0
    have qxc0 := fun g : Later W => (qx.later g).cell 0
    have qxf0 := fun g : Later W => (qx.later g).free 0
    have qxc1 := fun g : Later W => (qx.later g).cell 1
    have qxf1 := fun g : Later W => (qx.later g).free 1
    have qxl := fun g : Later W => (qx.later g).lt
    simp at qxc0 qxc1
    refine wpIn_region_any (by kernel_rfl) (anyIn_of (by kernel_rfl) (fun ⟨_, _, h⟩ => h) _ _ _ _ (wpAny_dp0 (fun L => #[.agg #[.slice s.aw h.warm.length s.cw, .slice s.ag h.gauges.length s.cg, .slice s.af h.flows.length s.cf], .int .i64 c, .pointer (some ⟨w.heap.size, 0, none⟩), undef, .pointer (some ⟨w.heap.size + 1, 0, none⟩), .pointer (some ⟨w.heap.size + 1 + 1, 0, none⟩), .pointer (some ⟨w.heap.size + 1 + 1 + 1, 0, none⟩), .pointer (some ⟨w.heap.size + 1 + 1 + 1 + 1, 0, none⟩), .int .i64 i, .pointer (some ⟨Bx, 0, none⟩), .agg #[.slice s.aw h.warm.length s.cw, .slice s.ag h.gauges.length s.cg, .slice s.af h.flows.length s.cf], .int .i64 c, .func (.func 141) #[] #[.pointer (some ⟨w.heap.size + 1 + 1 + 1 + 1 + 1, 0, none⟩), .pointer (some ⟨w.heap.size + 1 + 1 + 1 + 1 + 1 + 1, 0, none⟩)], .int .i64 i, .agg #[.int .i64 TL, .int .i64 TH], cond (L 0) (.int .i64 nd) undef, cond (L 1) (.pointer (some ⟨Bx, 0, none⟩)) undef, cond (L 2) (.int .i64 TL) undef, cond (L 3) (.int .i64 (max nd TL)) undef, cond (L 4) (.int .i64 cn) undef, cond (L 5) (.pointer (some ⟨Bx, 1, none⟩)) undef, cond (L 6) (.int .i64 TH) undef, cond (L 7) (.int .i64 (min cn TH)) undef, undef, undef, undef, undef, undef, undef, undef, undef, undef, undef, undef, undef, undef, undef, undef, undef, undef, undef, undef, undef, undef, undef, undef, undef, undef, undef, undef, undef]) [] (fun L X => (L 8 = true → L 0 = true) ∧ (L 9 = true → L 4 = true) ∧ Blk X (w.heap.size + 1 + 1) #[.int .i64 (cond (L 8) (max nd TL) nd)] 3 ∧ Blk X (w.heap.size + 1 + 1 + 1) #[.int .i64 (cond (L 9) (min cn TH) cn)] 3 ∧ Blk X (w.heap.size + 1 + 1 + 1 + 1) #[.int .i64 0, .int .i64 hi] 23 ∧ Blk X Bx #[.int .i64 TL, .int .i64 TH] 23 ∧ Blk X w.heap.size #[.slice s.aw h.warm.length s.cw, .slice s.ag h.gauges.length s.cg, .slice s.af h.flows.length s.cf] 85 ∧ Blk X (w.heap.size + 1) #[.int .i64 0, .int .i64 0] 23 ∧ Kept w X ∧ KeptB w.heap.size (w.heap.size + 1 + 1 + 1 + 1 + 1) (w.heap.size + 1 + 1 + 1 + 1 + 1 + 1) W X ∧ KeepsFrom V.heap.size W X ∧ V.heap.size ≤ X.heap.size)
      (by intro i oi hoi; have hlt := (Array.getElem?_eq_some_iff.1 hoi).1; simp only [List.size_toArray, List.length_cons, List.length_nil, Nat.reduceAdd] at hlt; obtain rfl | rfl | rfl | rfl | rfl | rfl | rfl | rfl | rfl | rfl : i = 0 ∨ i = 1 ∨ i = 2 ∨ i = 3 ∨ i = 4 ∨ i = 5 ∨ i = 6 ∨ i = 7 ∨ i = 8 ∨ i = 9 := by omega
          all_goals (simp at hoi; subst hoi; refine ⟨rfl, ?_⟩; simp [Region.binds])) rfl ?_ ?_ ?_))
    · exact ⟨fun h => (by cases h), fun h => (by cases h), q2, q3, q4, qx, q0, q1, Below.drew hkw, KeptB.of_kept (Below.drew (Below.refl _ _)) hkw.size (by omega) (by omega), keepsFrom_kept (Below.drew (Below.refl _ _)) _, hsz⟩
    · intro m oi hoi L X hL hd ⟨hc8, hc9, r2, r3, r4, rx, r0, r1, rk, rb, rf, rz⟩ K hK
      have hlt := (Array.getElem?_eq_some_iff.1 hoi).1
      simp only [List.size_toArray, List.length_cons, List.length_nil, Nat.reduceAdd] at hlt
      have r2c0 := r2.cell 0
      have r2f0 := r2.free 0
      have r2l := r2.lt
      simp at r2c0
      have r3c0 := r3.cell 0
      have r3f0 := r3.free 0
      have r3l := r3.lt
      simp at r3c0
      have rxc0 := rx.cell 0
      have rxf0 := rx.free 0
      have rxc1 := rx.cell 1
      have rxf1 := rx.free 1
      have rxl := rx.lt
      simp at rxc0 rxc1
      obtain rfl | rfl | rfl | rfl | rfl | rfl | rfl | rfl | rfl | rfl : m = 0 ∨ m = 1 ∨ m = 2 ∨ m = 3 ∨ m = 4 ∨ m = 5 ∨ m = 6 ∨ m = 7 ∨ m = 8 ∨ m = 9 := by omega
      all_goals (simp at hoi; subst hoi; simp [Region.binds] at hd)
      · have h8 : L 8 = false := by (cases h : L 8 with | false => rfl | true => (have := hc8 h; rw [hL] at this; cases this))
        simp only [h8, cond_false] at r2c0
        have z := hK _ ⟨fun _ => rfl, hc9, r2, r3, r4, rx, r0, r1, rk, rb, rf, rz⟩
        simp [upL, hd] at z
        go_simp
        simpa using z
      · have z := hK _ ⟨hc8, hc9, r2, r3, r4, rx, r0, r1, rk, rb, rf, rz⟩
        simp [upL, hd] at z
        go_simp
        simpa using z
      · have z := hK _ ⟨hc8, hc9, r2, r3, r4, rx, r0, r1, rk, rb, rf, rz⟩
        simp [upL, hd] at z
        go_simp
        simpa using z
      · have z := hK _ ⟨hc8, hc9, r2, r3, r4, rx, r0, r1, rk, rb, rf, rz⟩
        simp [upL, hd] at z
        go_simp
        simpa using z
      · have h9 : L 9 = false := by (cases h : L 9 with | false => rfl | true => (have := hc9 h; rw [hL] at this; cases this))
        simp only [h9, cond_false] at r3c0
        have z := hK _ ⟨hc8, fun _ => rfl, r2, r3, r4, rx, r0, r1, rk, rb, rf, rz⟩
        simp [upL, hd] at z
        go_simp
        simpa using z
      · have z := hK _ ⟨hc8, hc9, r2, r3, r4, rx, r0, r1, rk, rb, rf, rz⟩
        simp [upL, hd] at z
        go_simp
        simpa using z
      · have z := hK _ ⟨hc8, hc9, r2, r3, r4, rx, r0, r1, rk, rb, rf, rz⟩
        simp [upL, hd] at z
        go_simp
        simpa using z
      · have z := hK _ ⟨hc8, hc9, r2, r3, r4, rx, r0, r1, rk, rb, rf, rz⟩
        simp [upL, hd] at z
        go_simp
        simpa using z
      · have z := hK _ ⟨fun _ => by simp [upL, hd], hc9, Blk.cast (Blk.set r2 0 (.int .i64 (max nd TL))) (by simp [upL]), Blk.other r3 (by first | (simp; done) | (simp; omega)) _, Blk.other r4 (by first | (simp; done) | (simp; omega)) _, Blk.other rx (by simp; omega) _, Blk.other r0 (by first | (simp; done) | (simp; omega)) _, Blk.other r1 (by first | (simp; done) | (simp; omega)) _, by exact kpt, rb.set (by simp; omega) (by first | (simp; done) | (simp; omega)) (by first | (simp; done) | (simp; omega)) _, rf.trans ((KeepsOthers.setCell _ _ _).from _), by simpa using rz⟩
        simp [upL, hd] at z
        go_simp
        simpa using z
      · have z := hK _ ⟨hc8, fun _ => by simp [upL, hd], Blk.other r2 (by first | (simp; done) | (simp; omega)) _, Blk.cast (Blk.set r3 0 (.int .i64 (min cn TH))) (by simp [upL]), Blk.other r4 (by first | (simp; done) | (simp; omega)) _, Blk.other rx (by simp; omega) _, Blk.other r0 (by first | (simp; done) | (simp; omega)) _, Blk.other r1 (by first | (simp; done) | (simp; omega)) _, by exact kpt, rb.set (by simp; omega) (by first | (simp; done) | (simp; omega)) (by first | (simp; done) | (simp; omega)) _, rf.trans ((KeepsOthers.setCell _ _ _).from _), by simpa using rz⟩
        simp [upL, hd] at z
        go_simp
        simpa using z
    · intro L X hall ⟨hc8, hc9, r2, r3, r4, rx, r0, r1, rk, rb, rf, rz⟩
      simp only [List.size_toArray, List.length_cons, List.length_nil, Nat.reduceAdd] at hall
      simp only [hall 0 (by omega), hall 1 (by omega), hall 2 (by omega), hall 3 (by omega), hall 4 (by omega), hall 5 (by omega), hall 6 (by omega), hall 7 (by omega), cond_true]
      simp only [hall 8 (by omega), hall 9 (by omega), cond_true] at r2 r3
      clear hc8 hc9 hall q2 q3 q4 q0 q1 qx hkw q2c0 q2f0 q2l q3c0 q3f0 q3l qxc0 qxf0 qxc1 qxf1 qxl
      have r4c0 := r4.cell 0
      have r4f0 := r4.free 0
      have r4c1 := r4.cell 1
      have r4f1 := r4.free 1
      have r4l := r4.lt
      simp at r4c0 r4c1
      have rxc0 := rx.cell 0
      have rxf0 := rx.free 0
      have rxc1 := rx.cell 1
      have rxf1 := rx.free 1
      have rxl := rx.lt
      simp at rxc0 rxc1
      have r0c0 := r0.cell 0
      have r0f0 := r0.free 0
      have r0c1 := r0.cell 1
      have r0f1 := r0.free 1
      have r0c2 := r0.cell 2
      have r0f2 := r0.free 2
      have r0l := r0.lt
      simp at r0c0 r0c1 r0c2
      by_cases hz : i = 0
      · have e0 : ((i : Int) == 0) = true := by simp [hz]
        by_cases hn : i + 1 = h.gauges.length
        · have e9 : ((i : Int) == (h.gauges.length : Int) - 1) = true := by simp; omega
          have w9 := i64_inH (n := TH - TL) (by omega)
          gi_wp2
          refine ⟨KeepsFrom.trans (KeepsFrom.trans (rf) ((KeepsOthers.setCell _ _ _).from _)) ((KeepsOthers.setCell _ _ _).from _), KeptB.set (KeptB.set (rb) (by simp; omega) (by first | (simp; done) | (simp; omega)) (by first | (simp; done) | (simp; omega)) _) (by simp; omega) (by first | (simp; done) | (simp; omega)) (by first | (simp; done) | (simp; omega)) _, ⟨max nd TL, min cn TH, TH - TL, by omega, by omega, by (rw [List.length_append]; simp; omega), Blk.other (Blk.other (r2) (by first | (simp; done) | (simp; omega)) _) (by first | (simp; done) | (simp; omega)) _, Blk.other (Blk.other (r3) (by first | (simp; done) | (simp; omega)) _) (by first | (simp; done) | (simp; omega)) _, Blk.cast (Blk.set (Blk.set (r4) 1 (.int .i64 TH)) 1 (.int .i64 (TH - TL))) (by simp), fun hu2 => ?_⟩, Blk.other (Blk.other (r0) (by first | (simp; done) | (simp; omega)) _) (by first | (simp; done) | (simp; omega)) _, Blk.other (Blk.other (r1) (by first | (simp; done) | (simp; omega)) _) (by first | (simp; done) | (simp; omega)) _, by exact kpt, by simpa using rz⟩
          obtain ⟨u1, u2⟩ := hu2.init
          obtain ⟨u3, u4, u5⟩ := HU.out u1
          rw [← HI0.out] at u2
          rw [← u2] at u3 u4 u5
          have u6 : (pre ++ [x]).length = i + 1 := by simp [u2]
          rw [u6]
          refine ⟨by rw [u3, HTL.out]; rfl, by rw [u4, HTH.out]; rfl, ?_⟩
          unfold hiTo; rw [if_neg (by omega), if_pos hn]; rw [show h.gauges.length - 1 = i by omega, ← HTL.out]; congr 1
          rw [HTH.out, hz]
        · have e9 : ((i : Int) == (h.gauges.length : Int) - 1) = false := by simp; omega
          gi_wp2
          refine ⟨KeepsFrom.trans (rf) ((KeepsOthers.setCell _ _ _).from _), KeptB.set (rb) (by simp; omega) (by first | (simp; done) | (simp; omega)) (by first | (simp; done) | (simp; omega)) _, ⟨max nd TL, min cn TH, TH, by omega, by omega, by (rw [List.length_append]; simp; omega), Blk.other (r2) (by first | (simp; done) | (simp; omega)) _, Blk.other (r3) (by first | (simp; done) | (simp; omega)) _, Blk.cast (Blk.set (r4) 1 (.int .i64 TH)) (by simp), fun hu2 => ?_⟩, Blk.other (r0) (by first | (simp; done) | (simp; omega)) _, Blk.other (r1) (by first | (simp; done) | (simp; omega)) _, by exact kpt, by simpa using rz⟩
          obtain ⟨u1, u2⟩ := hu2.init
          obtain ⟨u3, u4, u5⟩ := HU.out u1
          rw [← HI0.out] at u2
          rw [← u2] at u3 u4 u5
          have u6 : (pre ++ [x]).length = i + 1 := by simp [u2]
          rw [u6]
          refine ⟨by rw [u3, HTL.out]; rfl, by rw [u4, HTH.out]; rfl, ?_⟩
          unfold hiTo; rw [if_neg (by omega), if_neg hn]
          rw [HTH.out, hz]
      · have e0 : ((i : Int) == 0) = false := by simp [hz]
        by_cases hn : i + 1 = h.gauges.length
        · have e9 : ((i : Int) == (h.gauges.length : Int) - 1) = true := by simp; omega
          have w9 := i64_inH (n := hi - TL) (by omega)
          gi_wp2
          refine ⟨KeepsFrom.trans (rf) ((KeepsOthers.setCell _ _ _).from _), KeptB.set (rb) (by simp; omega) (by first | (simp; done) | (simp; omega)) (by first | (simp; done) | (simp; omega)) _, ⟨max nd TL, min cn TH, hi - TL, by omega, by omega, by (rw [List.length_append]; simp; omega), Blk.other (r2) (by first | (simp; done) | (simp; omega)) _, Blk.other (r3) (by first | (simp; done) | (simp; omega)) _, Blk.cast (Blk.set (r4) 1 (.int .i64 (hi - TL))) (by simp), fun hu2 => ?_⟩, Blk.other (r0) (by first | (simp; done) | (simp; omega)) _, Blk.other (r1) (by first | (simp; done) | (simp; omega)) _, by exact kpt, by simpa using rz⟩
          obtain ⟨u1, u2⟩ := hu2.init
          obtain ⟨u3, u4, u5⟩ := HU.out u1
          rw [← HI0.out] at u2
          rw [← u2] at u3 u4 u5
          have u6 : (pre ++ [x]).length = i + 1 := by simp [u2]
          rw [u6]
          refine ⟨by rw [u3, HTL.out]; rfl, by rw [u4, HTH.out]; rfl, ?_⟩
          unfold hiTo; rw [if_neg (by omega), if_pos hn]; rw [show h.gauges.length - 1 = i by omega, ← HTL.out]; congr 1
          rw [u5]; unfold hiTo; rw [if_neg hz, if_neg (by omega)]
        · have e9 : ((i : Int) == (h.gauges.length : Int) - 1) = false := by simp; omega
          gi_wp2
          refine ⟨rf, rb, ⟨max nd TL, min cn TH, hi, by omega, by omega, by (rw [List.length_append]; simp; omega), r2, r3, Blk.cast (r4) (by simp), fun hu2 => ?_⟩, r0, r1, by exact kpt, by simpa using rz⟩
          obtain ⟨u1, u2⟩ := hu2.init
          obtain ⟨u3, u4, u5⟩ := HU.out u1
          rw [← HI0.out] at u2
          rw [← u2] at u3 u4 u5
          have u6 : (pre ++ [x]).length = i + 1 := by simp [u2]
          rw [u6]
          refine ⟨by rw [u3, HTL.out]; rfl, by rw [u4, HTH.out]; rfl, ?_⟩
          unfold hiTo; rw [if_neg (by omega), if_neg hn]
          rw [u5]; unfold hiTo; rw [if_neg hz, if_neg (by omega)]
  case done =>
    rintro D ys X hD ⟨hup, hlen⟩ ⟨⟨nd, cn, hi, e1, e2, e3, q2, q3, q4, hu⟩, q0, q1, hkw, hsz⟩ hK
    obtain ⟨u3, u4, u5⟩ := hu hup
    rw [hlen] at u3 u4 u5
    have hVs := hkV.size
    have HK := Lib.hid hK
    clear k0 k1 k2 k3 k4 k5 k6 hs0 HH2 hkV hu hK
    by_cases hn1 : h.gauges.length = 1
    · have HL := Lib.hid (show lostLo h c = 0 by unfold lostLo; rw [if_pos hn1])
      have HH := Lib.hid (show lostHi h c = 0 by unfold lostHi; rw [if_pos hn1])
      have e0 : ((h.gauges.length : Int) == 1) = true := by simp; omega
      clear u3 u4 u5
      have q0c0 := q0.cell 0
      have q0f0 := q0.free 0
      have q0c1 := q0.cell 1
      have q0f1 := q0.free 1
      have q0c2 := q0.cell 2
      have q0f2 := q0.free 2
      have q0l := q0.lt
      simp at q0c0 q0c1 q0c2
      have q1c0 := q1.cell 0
      have q1f0 := q1.free 0
      have q1c1 := q1.cell 1
      have q1f1 := q1.free 1
      have q1l := q1.lt
      simp at q1c0 q1c1
      gi_wp2
      refine leaves_marks (B := w.heap.size) (fun W => Blk W (w.heap.size + 1) #[.int .i64 0, .int .i64 0] 23 ∧ Kept w W) (OwnFrom.and (blk_from _ _ _ _) (ownFrom_below (Nat.le_refl _) (Nat.le_refl _))) ?_ [D] _ ⟨by simp, fun E hE => ?_⟩ ⟨Blk.cast (Blk.set (Blk.set q1 0 _) 1 _) (by simp), by exact kpt⟩
      · rintro W5 ⟨k1, hkp⟩
        have k1c0 := k1.cell 0
        have k1f0 := k1.free 0
        have k1c1 := k1.cell 1
        have k1f1 := k1.free 1
        have k1l := k1.lt
        simp at k1c0 k1c1
        exact ⟨.agg #[.int .i64 0, .int .i64 0], by simp [results, Try.results128, go_sem, k1c0, k1c1], by rw [HL.out, HH.out], hkp⟩
      · obtain rfl : E = D := by simpa using hE
        exact ⟨by omega, ((KeepsOthers.setCell _ _ _).trans (KeepsOthers.setCell _ _ _)).same _ _ HK.out rfl⟩
    · have HL := Lib.hid (show lostLo h c = max (nd - cn) 0 by unfold lostLo; rw [if_neg hn1, u3, u4])
      have HH := Lib.hid (show lostHi h c = hi by unfold lostHi; rw [if_neg hn1, u5]; unfold hiTo; rw [if_neg (by omega), if_pos rfl])
      have e0 : ((h.gauges.length : Int) == 1) = false := by simp; omega
      have w1 := i64_inH (n := nd - cn) (by omega)
      clear u3 u4 u5
      have q0c0 := q0.cell 0
      have q0f0 := q0.free 0
      have q0c1 := q0.cell 1
      have q0f1 := q0.free 1
      have q0c2 := q0.cell 2
      have q0f2 := q0.free 2
      have q0l := q0.lt
      simp at q0c0 q0c1 q0c2
      have q1c0 := q1.cell 0
      have q1f0 := q1.free 0
      have q1c1 := q1.cell 1
      have q1f1 := q1.free 1
      have q1l := q1.lt
      simp at q1c0 q1c1
      have q2c0 := q2.cell 0
      have q2f0 := q2.free 0
      have q2l := q2.lt
      simp at q2c0
      have q3c0 := q3.cell 0
      have q3f0 := q3.free 0
      have q3l := q3.lt
      simp at q3c0
      have q4c0 := q4.cell 0
      have q4f0 := q4.free 0
      have q4c1 := q4.cell 1
      have q4f1 := q4.free 1
      have q4l := q4.lt
      simp at q4c0 q4c1
      gi_wp2
      refine leaves_marks (B := w.heap.size) (fun W => Blk W (w.heap.size + 1) #[.int .i64 (max (nd - cn) 0), .int .i64 hi] 23 ∧ Kept w W) (OwnFrom.and (blk_from _ _ _ _) (ownFrom_below (Nat.le_refl _) (Nat.le_refl _))) ?_ [D] _ ⟨by simp, fun E hE => ?_⟩ ⟨Blk.cast (Blk.set (Blk.set (Blk.other q1 (by simp; omega) _) 0 _) 1 _) (by simp), by exact kpt⟩
      · rintro W5 ⟨k1, hkp⟩
        have k1c0 := k1.cell 0
        have k1f0 := k1.free 0
        have k1c1 := k1.cell 1
        have k1f1 := k1.free 1
        have k1l := k1.lt
        simp at k1c0 k1c1
        exact ⟨.agg #[.int .i64 (max (nd - cn) 0), .int .i64 hi], by simp [results, Try.results128, go_sem, k1c0, k1c1], by rw [HL.out, HH.out], hkp⟩
      · obtain rfl : E = D := by simpa using hE
        exact ⟨by omega, (((KeepsOthers.setCell _ _ _).trans (KeepsOthers.setCell _ _ _)).trans (KeepsOthers.setCell _ _ _)).same _ _ HK.out rfl⟩
  case stop =>
    rintro D c pre W _ _ h _
    exact h.elim

end Go.Proofs.Ytemafanncejeiaa

/-
  The first clash: the program.
-/
namespace Go.Proofs.Ytemafanncejeiaa
open Go.RowKit Go.Shelf Bal Bal.Trim Bal.Gas
set_option linter.unusedVariables false
set_option linter.unusedSimpArgs false
set_option maxHeartbeats 4000000
set_option maxRecDepth 100000
attribute [local go_sem] Oper.semAt_some toldV

theorem list73 (f : Nat → Value) : ((List.range 73).map f).toArray = #[f 0, f 1, f 2, f 3, f 4, f 5, f 6, f 7, f 8, f 9, f 10, f 11, f 12, f 13, f 14, f 15, f 16, f 17, f 18, f 19, f 20, f 21, f 22, f 23, f 24, f 25, f 26, f 27, f 28, f 29, f 30, f 31, f 32, f 33, f 34, f 35, f 36, f 37, f 38, f 39, f 40, f 41, f 42, f 43, f 44, f 45, f 46, f 47, f 48, f 49, f 50, f 51, f 52, f 53, f 54, f 55, f 56, f 57, f 58, f 59, f 60, f 61, f 62, f 63, f 64, f 65, f 66, f 67, f 68, f 69, f 70, f 71, f 72] := by rfl
theorem conf_act (A : Array Value) {v0 v1 v2 v3 v19 v20 : Value} (hs : A.size = 73) (h0 : A[0]? = some v0) (h1 : A[1]? = some v1) (h2 : A[2]? = some v2) (h3 : A[3]? = some v3) (h19 : A[19]? = some v19) (h20 : A[20]? = some v20) :
    ∃ u : Nat → Value, A = #[v0, v1, v2, v3, u 4, u 5, u 6, u 7, u 8, u 9, u 10, u 11, u 12, u 13, u 14, u 15, u 16, u 17, u 18, v19, v20, u 21, u 22, u 23, u 24, u 25, u 26, u 27, u 28, u 29, u 30, u 31, u 32, u 33, u 34, u 35, u 36, u 37, u 38, u 39, u 40, u 41, u 42, u 43, u 44, u 45, u 46, u 47, u 48, u 49, u 50, u 51, u 52, u 53, u 54, u 55, u 56, u 57, u 58, u 59, u 60, u 61, u 62, u 63, u 64, u 65, u 66, u 67, u 68, u 69, u 70, u 71, u 72] := by
  obtain ⟨f, hf⟩ : ∃ f : Nat → Value, f = fun i => A.getD i undef := ⟨_, rfl⟩
  have key : A = ((List.range 73).map f).toArray := by
    apply Array.ext
    · simp [hs]
    · intro i h1 h2
      simp [hf, Array.getD, h1]
  have g : ∀ (i : Nat) (v : Value), A[i]? = some v → f i = v := by
    intro i v h
    rw [hf]
    simp [Array.getD_eq_getD_getElem?, h]
  refine ⟨f, ?_⟩
  rw [list73] at key
  rw [key, g 0 _ h0, g 1 _ h1, g 2 _ h2, g 3 _ h3, g 19 _ h19, g 20 _ h20]

theorem mark_from {β : Type} {B C : Nat} {Ds : List Nat} {W1 : World} (hM : Marked C Ds W1) (hB : W1.heap.size ≤ B) : OwnFrom B (fun (_ : β) W => Marked C Ds W) := by
  intro _ X Y row hb hg hr
  refine ⟨hb.1, fun D hD => ⟨(hb.2 D hD).1, ?_⟩⟩
  refine (hg.block D (Array.getElem?_eq_some_iff.1 (hb.2 D hD).2).1 (fun e => ?_)).trans (hb.2 D hD).2
  have h1 := (hr D e.symm).1
  have h2 := (Array.getElem?_eq_some_iff.1 (hM.2 D hD).2).1
  omega
def ConfI (h : Hist) (s : Spot) (w : World) (k cb : Nat) (Ds : List Nat) (pre : List (Fin h.gauges.length)) (X : World) : Prop :=
  Blk X w.heap.size #[.slice s.aw h.warm.length s.cw, .slice s.ag h.gauges.length s.cg, .slice s.af h.flows.length s.cf] 85 ∧ Blk X (w.heap.size + 1) #[.int .i64 0, .int .i64 0, .int .i64 0] 99 ∧ Blk X (w.heap.size + 1 + 1) #[.int .i64 0] 28 ∧ Kept w X ∧ Blk X cb #[.int .i64 k] 3 ∧ Marked w.heap.size Ds X ∧ ∀ t ∈ pre, ∀ f : Nat, f ≤ t.val → clashB h k f t.val = false
theorem confI_from {h : Hist} {s : Spot} {w V : World} {k cb B : Nat} {Ds : List Nat} (hM : Marked w.heap.size Ds V) (hB : V.heap.size ≤ B) (hw : w.heap.size ≤ V.heap.size) : OwnFrom B (ConfI h s w k cb Ds) := by
  rintro pre X Y row ⟨e0, e1, e2, e3, e4, e5, e6⟩ hg hr
  exact ⟨blk_from (β := Unit) B _ _ _ () X Y row e0 hg hr, blk_from (β := Unit) B _ _ _ () X Y row e1 hg hr, blk_from (β := Unit) B _ _ _ () X Y row e2 hg hr, ownFrom_below (β := Unit) (Nat.le_refl _) (by omega) () X Y row e3 hg hr, blk_from (β := Unit) B _ _ _ () X Y row e4 hg hr, mark_from (β := Unit) hM hB () X Y row e5 hg hr, e6⟩
theorem ConfI.keep {h : Hist} {s : Spot} {w : World} {k cb : Nat} {Ds : List Nat} {pre : List (Fin h.gauges.length)} {X Y : World} (hI : ConfI h s w k cb Ds pre X) (hk : Kept X Y) : ConfI h s w k cb Ds pre Y :=
  ⟨Blk.keep hI.1 hk, Blk.keep hI.2.1 hk, Blk.keep hI.2.2.1 hk, Kept.drop hI.2.2.2.1 hk, Blk.keep hI.2.2.2.2.1 hk, hI.2.2.2.2.2.1.keep hk (Nat.le_refl _), hI.2.2.2.2.2.2⟩
def ConfI2 (h : Hist) (s : Spot) (w : World) (k cb B6 B7 x : Nat) (LX HX : Int) (Ds : List Nat) (pre : List (Fin h.gauges.length)) (X : World) : Prop :=
  Blk X w.heap.size #[.slice s.aw h.warm.length s.cw, .slice s.ag h.gauges.length s.cg, .slice s.af h.flows.length s.cf] 85 ∧ Blk X (w.heap.size + 1) #[.int .i64 0, .int .i64 0, .int .i64 0] 99 ∧ Blk X (w.heap.size + 1 + 1) #[.int .i64 0] 28 ∧ Kept w X ∧ Blk X cb #[.int .i64 k] 3 ∧ Marked w.heap.size Ds X ∧ Blk X B6 #[.int .i64 x] 3 ∧ Blk X B7 #[.int .i64 LX, .int .i64 HX] 23 ∧ ∀ f ∈ pre, f.val ≤ x → clashB h k f.val x = false
theorem confI2_from {h : Hist} {s : Spot} {w V : World} {k cb B6 B7 x B : Nat} {LX HX : Int} {Ds : List Nat} (hM : Marked w.heap.size Ds V) (hB : V.heap.size ≤ B) (hw : w.heap.size ≤ V.heap.size) : OwnFrom B (ConfI2 h s w k cb B6 B7 x LX HX Ds) := by
  rintro pre X Y row ⟨e0, e1, e2, e3, e4, e5, e6, e7, e8⟩ hg hr
  exact ⟨blk_from (β := Unit) B _ _ _ () X Y row e0 hg hr, blk_from (β := Unit) B _ _ _ () X Y row e1 hg hr, blk_from (β := Unit) B _ _ _ () X Y row e2 hg hr, ownFrom_below (β := Unit) (Nat.le_refl _) (by omega) () X Y row e3 hg hr, blk_from (β := Unit) B _ _ _ () X Y row e4 hg hr, mark_from (β := Unit) hM hB () X Y row e5 hg hr, blk_from (β := Unit) B _ _ _ () X Y row e6 hg hr, blk_from (β := Unit) B _ _ _ () X Y row e7 hg hr, e8⟩
theorem ConfI2.keep {h : Hist} {s : Spot} {w : World} {k cb B6 B7 x : Nat} {LX HX : Int} {Ds : List Nat} {pre : List (Fin h.gauges.length)} {X Y : World} (hI : ConfI2 h s w k cb B6 B7 x LX HX Ds pre X) (hk : Kept X Y) : ConfI2 h s w k cb B6 B7 x LX HX Ds pre Y := by
  obtain ⟨e0, e1, e2, e3, e4, e5, e6, e7, e8⟩ := hI
  exact ⟨Blk.keep e0 hk, Blk.keep e1 hk, Blk.keep e2 hk, Kept.drop e3 hk, Blk.keep e4 hk, e5.keep hk (Nat.le_refl _), Blk.keep e6 hk, Blk.keep e7 hk, e8⟩
/-- the clash is found: its cells -/
def ConfR (w : World) (k f x : Nat) (Ds : List Nat) (X : World) : Prop := Blk X (w.heap.size + 1) #[.int .i64 k, .int .i64 f, .int .i64 x] 99 ∧ Blk X (w.heap.size + 1 + 1) #[.int .i64 0] 28 ∧ Kept w X ∧ Marked w.heap.size Ds X
theorem confR_from {β : Type} {w V : World} {k f x B : Nat} {Ds : List Nat} (hM : Marked w.heap.size Ds V) (hB : V.heap.size ≤ B) (hw : w.heap.size ≤ V.heap.size) : OwnFrom B (fun (_ : β) X => ConfR w k f x Ds X) := by
  rintro _ X Y row ⟨e1, e2, e3, e5⟩ hg hr
  exact ⟨blk_from (β := Unit) B _ _ _ () X Y row e1 hg hr, blk_from (β := Unit) B _ _ _ () X Y row e2 hg hr, ownFrom_below (β := Unit) (Nat.le_refl _) (by omega) () X Y row e3 hg hr, mark_from (β := Unit) hM hB () X Y row e5 hg hr⟩
def ConfE (h : Hist) (w : World) (k : Nat) (Ds : List Nat) (pre : List (Fin h.gauges.length)) (X : World) : Prop :=
  ∃ pre0 x f, pre = pre0 ++ [x] ∧ (∀ t ∈ pre0, ∀ f : Nat, f ≤ t.val → clashB h k f t.val = false) ∧ f ≤ x.val ∧ (∀ g, g < f → clashB h k g x.val = false) ∧ clashB h k f x.val = true ∧ ConfR w k f x.val Ds X
theorem confE_from {h : Hist} {w V : World} {k B : Nat} {Ds : List Nat} (hM : Marked w.heap.size Ds V) (hB : V.heap.size ≤ B) (hw : w.heap.size ≤ V.heap.size) : OwnFrom B (ConfE h w k Ds) := by
  rintro pre X Y row ⟨pre0, x, f, e1, e2, e3, e4, e5, e6⟩ hg hr
  exact ⟨pre0, x, f, e1, e2, e3, e4, e5, confR_from (β := Unit) hM hB hw () X Y row e6 hg hr⟩
def ConfE2 (h : Hist) (w : World) (k x : Nat) (Ds : List Nat) (pre : List (Fin h.gauges.length)) (X : World) : Prop :=
  ∃ pre1 f, pre = pre1 ++ [f] ∧ (∀ g ∈ pre1, g.val ≤ x → clashB h k g.val x = false) ∧ f.val ≤ x ∧ clashB h k f.val x = true ∧ ConfR w k f.val x Ds X
theorem confE2_from {h : Hist} {w V : World} {k x B : Nat} {Ds : List Nat} (hM : Marked w.heap.size Ds V) (hB : V.heap.size ≤ B) (hw : w.heap.size ≤ V.heap.size) : OwnFrom B (ConfE2 h w k x Ds) := by
  rintro pre X Y row ⟨pre1, f, e1, e2, e3, e4, e6⟩ hg hr
  exact ⟨pre1, f, e1, e2, e3, e4, confR_from (β := Unit) hM hB hw () X Y row e6 hg hr⟩

theorem f_Conflict_bad (h : Hist) (s : Spot) (w : World) (hh : HistAt h s w) (hb : histB h = false) :
    Calls Try.prog 62 #[.agg #[.slice s.aw h.warm.length s.cw, .slice s.ag h.gauges.length s.cg, .slice s.af h.flows.length s.cf]] w fun e w' => e = .returned (.tuple #[.agg #[.int .i64 (cfC h), .int .i64 (cfF h), .int .i64 (cfT h)], .int .i64 (confE h)]) ∧ Kept w w' := by
  have HE := Lib.hid (show histE h = 34 by unfold histE; rw [hb]; rfl)
  have HC := Lib.hid (cf_bad hb)
  clear hb
  go_enter Try.func62, Try.ntmps62
  go_wp2_with (go_at_call 64; (with_reducible refine (f_CheckHistory h s _ (hh.later (by (exact kpt)))).mono ?_); rw [HE.out]; rintro e w1 ⟨rfl, hb1⟩; refine Blk.thru (b := w.heap.size) (arr := ?_) (t := ?_) ?_ hb1 ?_; rotate_left 2; (focus (exact blk)); intro ra; have rac0 := ra.cell 0; have raf0 := ra.free 0; have rac1 := ra.cell 1; have raf1 := ra.free 1; have rac2 := ra.cell 2; have raf2 := ra.free 2; have ral := ra.lt; simp at rac0 rac1 rac2; refine Blk.thru (b := w.heap.size + 1) (arr := ?_) (t := ?_) ?_ hb1 ?_; rotate_left 2; (focus (exact blk)); intro rb; have rbc0 := rb.cell 0; have rbf0 := rb.free 0; have rbc1 := rb.cell 1; have rbf1 := rb.free 1; have rbc2 := rb.cell 2; have rbf2 := rb.free 2; have rbl := rb.lt; simp at rbc0 rbc1 rbc2; refine Blk.thru (b := w.heap.size + 1 + 1) (arr := ?_) (t := ?_) ?_ hb1 ?_; rotate_left 2; (focus (exact blk)); intro rc; have rcc0 := rc.cell 0; have rcf0 := rc.free 0; have rcl := rc.lt; simp at rcc0)
  exact bodyPost_ret (v := .tuple #[.agg #[.int .i64 0, .int .i64 0, .int .i64 0], .int .i64 34]) (by simp [results, Try.results62, go_sem, rbc0, rbf0, rbc1, rbf1, rbc2, rbf2, rbl, rcc0, rcf0, rcl]) rfl ⟨by rw [HC.out.1, HC.out.2.1, HC.out.2.2.1, HC.out.2.2.2], by (exact kpt)⟩
theorem f_Conflict_ok (h : Hist) (s : Spot) (w : World) (hh : HistAt h s w) (hb : histB h = true) :
    Calls Try.prog 62 #[.agg #[.slice s.aw h.warm.length s.cw, .slice s.ag h.gauges.length s.cg, .slice s.af h.flows.length s.cf]] w fun e w' => e = .returned (.tuple #[.agg #[.int .i64 (cfC h), .int .i64 (cfF h), .int .i64 (cfT h)], .int .i64 (confE h)]) ∧ Kept w w' := by
  have HE := Lib.hid (show histE h = 0 by unfold histE; rw [hb]; rfl)
  have ho := histB_ok hb
  have hw2 := ho.w2
  have hg2 := ho.g2
  have HB := Lib.hid hb
  clear hb
  refine (callsIn_wide (n := 6)).1 ?_
  refine callsIn_of_wp_marks Try.func62 rfl trivial ?_ rfl
  simp only [Try.ntmps62, List.size_toArray, List.length_cons, List.length_nil, Nat.reduceAdd, Nat.reduceSub, Array.replicate_succ, Array.replicate_zero, List.push_toArray, List.append_toArray, List.nil_append, List.cons_append]
  gi_wp2_with (refine ⟨trivial, ?_⟩; gi_at_call 64; (refine (callsIn_wide.2 (f_CheckHistory h s _ (hh.later (by (exact kpt))))).mono ?_); rw [HE.out]; rintro e w1 ⟨rfl, hb1⟩; refine Blk.thru (b := w.heap.size) (arr := ?_) (t := ?_) ?_ hb1 ?_; rotate_left 2; (focus (exact blk)); intro ra; have rac0 := ra.cell 0; have raf0 := ra.free 0; have rac1 := ra.cell 1; have raf1 := ra.free 1; have rac2 := ra.cell 2; have raf2 := ra.free 2; have ral := ra.lt; simp at rac0 rac1 rac2)
  refine at_worldR (S := fun V => Blk V w.heap.size #[.slice s.aw h.warm.length s.cw, .slice s.ag h.gauges.length s.cg, .slice s.af h.flows.length s.cf] 85 ∧ Blk V (w.heap.size + 1) #[.int .i64 0, .int .i64 0, .int .i64 0] 99 ∧ Blk V (w.heap.size + 1 + 1) #[.int .i64 0] 28 ∧ Kept w V) ⟨by (exact blkc), by (exact blkc), by (exact blkc), by (exact kpt)⟩ ?_
  rintro V ⟨k0, k1, k2, hkV⟩
  refine wpIn_loop (fun a' W => ∃ (k : Nat) (Ds : List Nat), (∃ u : Nat → Value, a' = { tmps := #[.agg #[.slice s.aw h.warm.length s.cw, .slice s.ag h.gauges.length s.cg, .slice s.af h.flows.length s.cf], .pointer (some ⟨w.heap.size, 0, none⟩), .pointer (some ⟨w.heap.size + 1, 0, none⟩), .pointer (some ⟨w.heap.size + 1 + 1, 0, none⟩), u 4, u 5, u 6, u 7, u 8, u 9, u 10, u 11, u 12, u 13, u 14, u 15, u 16, u 17, u 18, .int .i64 h.warm.length, .int .i64 k, u 21, u 22, u 23, u 24, u 25, u 26, u 27, u 28, u 29, u 30, u 31, u 32, u 33, u 34, u 35, u 36, u 37, u 38, u 39, u 40, u 41, u 42, u 43, u 44, u 45, u 46, u 47, u 48, u 49, u 50, u 51, u 52, u 53, u 54, u 55, u 56, u 57, u 58, u 59, u 60, u 61, u 62, u 63, u 64, u 65, u 66, u 67, u 68, u 69, u 70, u 71, u 72], defers := marks Ds }) ∧ k ≤ h.warm.length ∧ Marked w.heap.size Ds W ∧ (Blk W w.heap.size #[.slice s.aw h.warm.length s.cw, .slice s.ag h.gauges.length s.cg, .slice s.af h.flows.length s.cf] 85 ∧ Blk W (w.heap.size + 1) #[.int .i64 0, .int .i64 0, .int .i64 0] 99 ∧ Blk W (w.heap.size + 1 + 1) #[.int .i64 0] 28 ∧ Kept w W) ∧ Clear h k 0 0)
    (fun a' _ => h.warm.length - (intOf ((a'.tmps[20]?).getD undef)).toNat) ?_ ?_
  · refine ⟨0, [], ?_, by omega, ⟨by simp, by simp⟩, ⟨k0, k1, k2, hkV⟩, Clear.zero h⟩
    exact (conf_act _ rfl rfl rfl rfl rfl rfl rfl).imp fun u hu => congrArg (fun A => Act.mk A []) hu
  clear k0 k1 k2 hkV V
  rintro a' W ⟨k, Ds, ⟨u, rfl⟩, hk, hM, ⟨k0, k1, k2, hkW⟩, hclr⟩
  have HCLR := Lib.hid hclr
  clear hclr
  have k0c0 := k0.cell 0
  have k0f0 := k0.free 0
  have k0c1 := k0.cell 1
  have k0f1 := k0.free 1
  have k0c2 := k0.cell 2
  have k0f2 := k0.free 2
  have k0l := k0.lt
  simp at k0c0 k0c1 k0c2
  by_cases hc : k < h.warm.length
  · have hc' : (k : Int) < (h.warm.length : Int) := by omega
    gi_wp2_with (refine ⟨trivial, ?_⟩; gi_at_call 131; (refine (callsIn_wide.2 (f_told h s _ _)).mono ?_); rintro e w1 ⟨rfl, rfl⟩)
    refine at_worldR (S := fun V => Blk V w.heap.size #[.slice s.aw h.warm.length s.cw, .slice s.ag h.gauges.length s.cg, .slice s.af h.flows.length s.cf] 85 ∧ Blk V (w.heap.size + 1) #[.int .i64 0, .int .i64 0, .int .i64 0] 99 ∧ Blk V (w.heap.size + 1 + 1) #[.int .i64 0] 28 ∧ Kept w V ∧ Blk V W.heap.size #[.int .i64 k] 3 ∧ Blk V (W.heap.size + 1) #[.slice s.aw h.warm.length s.cw, .slice s.ag h.gauges.length s.cg, .slice s.af h.flows.length s.cf] 85 ∧ Blk V (W.heap.size + 1 + 1) #[.int .i64 k] 3 ∧ Marked w.heap.size Ds V) ⟨by (exact blkc), by (exact blkc), by (exact blkc), by (exact kpt), by (exact blkc), by (exact blkc), by (exact blkc), hM.keep (by (exact kpt) : Kept W _) (Nat.le_refl _)⟩ ?_
    clear k0 k1 k2 k0c0 k0f0 k0c1 k0f1 k0c2 k0f2 k0l
    rintro V ⟨k0, k1, k2, hkV, j4, j5, j6, hM1⟩
    have hWs := hkW.size
    have hVW : W.heap.size + 1 + 1 < V.heap.size := Blk.lt j6
    have hMV := hM1
    have hc2 := hkV.size
    refine wpIn_rangeFunc_ownH (gf := 141) (lb := #[.pointer (some ⟨W.heap.size + 1, 0, none⟩), .pointer (some ⟨W.heap.size + 1 + 1, 0, none⟩)]) rfl (by omega) rfl trivial (enters_of Try.func141 (by kernel_rfl) rfl)
      (f_told1 h s w V hh hkV ho k hc (W.heap.size + 1) (W.heap.size + 1 + 1) j5 j6 5 (by omega)) KeptB.trans (KeptB.put hkV.size j5.lt j6.lt) (Below.refl _ _) (fun _ => rfl)
      (fun pre X => ConfI h s w k W.heap.size Ds pre X ∧ V.heap.size ≤ X.heap.size)
      (fun c pre X => c = .ret ∧ ConfE h w k Ds pre X)
      (OwnFrom.and (confI_from hMV (Nat.le_refl _) hc2) (fun _ _ _ _ hs hg _ => Nat.le_trans hs hg.size))
      (fun c pre X Y row hs hg hr => ⟨hs.1, confE_from hMV (Nat.le_refl _) hc2 pre X Y row hs.2 hg hr⟩)
      ⟨⟨k0, k1, k2, hkV, j4, hM1, fun t ht => by cases ht⟩, Nat.le_refl _⟩
      (fun x a' X => ∃ B6 B7, V.heap.size ≤ B6 ∧ V.heap.size ≤ B7 ∧ Blk X B6 #[.int .i64 x.val] 3 ∧ Blk X B7 #[.int .i64 (toldLo h k x.val), .int .i64 (toldHi h k x.val)] 23 ∧ a' = { tmps := #[.agg #[.slice s.aw h.warm.length s.cw, .slice s.ag h.gauges.length s.cg, .slice s.af h.flows.length s.cf], .pointer (some ⟨w.heap.size, 0, none⟩), .pointer (some ⟨w.heap.size + 1, 0, none⟩), .pointer (some ⟨w.heap.size + 1 + 1, 0, none⟩), u 4, .pointer (some ⟨W.heap.size, 0, none⟩), .pointer (some ⟨B6, 0, none⟩), .pointer (some ⟨B7, 0, none⟩), u 8, u 9, u 10, u 11, u 12, u 13, u 14, u 15, u 16, u 17, u 18, .int .i64 h.warm.length, .int .i64 k, .bool true, .int .i64 k, .agg #[.slice s.aw h.warm.length s.cw, .slice s.ag h.gauges.length s.cg, .slice s.af h.flows.length s.cf], .int .i64 k, .func (.func 141) #[] #[.pointer (some ⟨W.heap.size + 1, 0, none⟩), .pointer (some ⟨W.heap.size + 1 + 1, 0, none⟩)], .int .i64 x.val, .agg #[.int .i64 (toldLo h k x.val), .int .i64 (toldHi h k x.val)], u 28, u 29, u 30, u 31, u 32, u 33, u 34, u 35, u 36, u 37, u 38, u 39, u 40, u 41, u 42, u 43, u 44, u 45, u 46, u 47, u 48, u 49, u 50, u 51, u 52, u 53, u 54, u 55, u 56, u 57, u 58, u 59, u 60, u 61, u 62, u 63, u 64, u 65, u 66, u 67, u 68, u 69, u 70, u 71, u 72], defers := [] })
      (fun x a' _ X Y row hs hg hr => by obtain ⟨B6, B7, e1, e2, e3, e4, e5⟩ := hs; exact ⟨B6, B7, e1, e2, blk_from (β := Unit) V.heap.size _ _ _ () X Y row e3 hg hr, blk_from (β := Unit) V.heap.size _ _ _ () X Y row e4 hg hr, e5⟩)
      ?assign ?body ?done ?stop
    case assign =>
      rintro l pre x X K ⟨hI, hsz⟩ hK
      gi_wp2
      have hka : Kept X ((X.alloc (.cells #[.int .i64 x.val] 3)).alloc (.cells #[.int .i64 (toldLo h k x.val), .int .i64 (toldHi h k x.val)] 23)) := by exact kpt
      exact hK _ _ (keepsFrom_kept hka _) (KeptB.of_kept hka (Nat.le_trans hc2 hsz) (by omega) (by omega)) ⟨hI.keep hka, by have := hka.size; omega⟩ ⟨X.heap.size, X.heap.size + 1, hsz, by omega, Blk.alloc Blk.new _, by simpa using Blk.new (w := X.alloc (.cells #[.int .i64 x.val] 3)), rfl⟩
    case body =>
      rintro l pre x a' X hl ⟨r, hr⟩ ⟨⟨q0, q1, q2, hkX, q4, hMX, hno⟩, hsz⟩ ⟨B6, B7, hB6, hB7, p6, p7, rfl⟩ hlen
      have HNO := Lib.hid hno
      clear hno k0 k1 k2 j4 j5 j6 hM1
      obtain ⟨x, hxl⟩ := x
      dsimp only at p6 p7 ⊢
      have bdx := told_bd ho hxl hc
      obtain ⟨LX, hLX⟩ : ∃ n, n = toldLo h k x := ⟨_, rfl⟩
      obtain ⟨HX, hHX⟩ : ∃ n, n = toldHi h k x := ⟨_, rfl⟩
      rw [← hLX, ← hHX] at p7 bdx ⊢
      have HLX := Lib.hid hLX
      have HHX := Lib.hid hHX
      clear hLX hHX
      have q0c0 := q0.cell 0
      have q0f0 := q0.free 0
      have q0c1 := q0.cell 1
      have q0f1 := q0.free 1
      have q0c2 := q0.cell 2
      have q0f2 := q0.free 2
      have q0l := q0.lt
      simp at q0c0 q0c1 q0c2
      have q4c0 := q4.cell 0
      have q4f0 := q4.free 0
      have q4l := q4.lt
      simp at q4c0
      gi_wp2_with (refine ⟨trivial, ?_⟩; gi_at_call 131; refine (CallsIn.inRound l (callsIn_wide.2 (f_told h s _ _))).mono ?_; rintro e w1 ⟨rfl, rfl⟩)
      have hkY0 : Kept X ((X.alloc (.cells #[.slice s.aw h.warm.length s.cw, .slice s.ag h.gauges.length s.cg, .slice s.af h.flows.length s.cf] 85)).alloc (.cells #[.int .i64 k] 3)) := by exact kpt
      have hr0 : ((X.alloc (.cells #[.slice s.aw h.warm.length s.cw, .slice s.ag h.gauges.length s.cg, .slice s.af h.flows.length s.cf] 85)).alloc (.cells #[.int .i64 k] 3)).heap[l]? = some (.loop r) := (hkY0.block l (Array.getElem?_eq_some_iff.1 hr).1).trans hr
      refine at_worldR (S := fun Y => Blk Y w.heap.size #[.slice s.aw h.warm.length s.cw, .slice s.ag h.gauges.length s.cg, .slice s.af h.flows.length s.cf] 85 ∧ Blk Y (w.heap.size + 1) #[.int .i64 0, .int .i64 0, .int .i64 0] 99 ∧ Blk Y (w.heap.size + 1 + 1) #[.int .i64 0] 28 ∧ Kept w Y ∧ Blk Y W.heap.size #[.int .i64 k] 3 ∧ Marked w.heap.size Ds Y ∧ Blk Y B6 #[.int .i64 x] 3 ∧ Blk Y B7 #[.int .i64 LX, .int .i64 HX] 23 ∧ Blk Y X.heap.size #[.slice s.aw h.warm.length s.cw, .slice s.ag h.gauges.length s.cg, .slice s.af h.flows.length s.cf] 85 ∧ Blk Y (X.heap.size + 1) #[.int .i64 k] 3 ∧ Kept X Y ∧ Y.heap[l]? = some (.loop r)) ⟨by (exact blkc), by (exact blkc), by (exact blkc), by (exact kpt), by (exact blkc), hMX.keep hkY0 (Nat.le_refl _), by (exact blkc), by (exact blkc), by (exact blkc), by (exact blkc), hkY0, hr0⟩ ?_
      clear q0 q1 q2 q4 p6 p7 hkY0 hr0 q0c0 q0f0 q0c1 q0f1 q0c2 q0f2 q0l q4c0 q4f0 q4l
      rintro Y ⟨q0, q1, q2, hkwY, q4, hMY, p6, p7, p5, p8, hkY, hrY⟩
      have hlY := (Array.getElem?_eq_some_iff.1 hrY).1
      have hXY := hkY.size
      refine wpIn_rangeFunc_ownN (l₀ := l) (r₀ := r) rfl hrY (by omega) (gf := 141) (lb := #[.pointer (some ⟨X.heap.size, 0, none⟩), .pointer (some ⟨X.heap.size + 1, 0, none⟩)]) rfl trivial (enters_of Try.func141 (by kernel_rfl) rfl)
        ((f_told1 h s w Y hh hkwY ho k hc X.heap.size (X.heap.size + 1) p5 p8 3 (by omega)).inRound l) KeptB.trans (KeptB.put hkwY.size p5.lt p8.lt) (Below.refl _ _) (fun _ => rfl)
        (fun pre' Z => ConfI2 h s w k W.heap.size B6 B7 x LX HX Ds pre' Z ∧ KeptB w.heap.size (W.heap.size + 1) (W.heap.size + 1 + 1) X Z ∧ KeepsFrom V.heap.size X Z ∧ Y.heap.size ≤ Z.heap.size)
        (fun c pre' Z => c = .ret ∧ ConfE2 h w k x Ds pre' Z ∧ KeepsFrom V.heap.size X Z)
        (OwnFrom.and (confI2_from hMY (Nat.le_refl _) hkwY.size) (OwnFrom.and (keptB_from (Nat.le_trans hc2 hsz) hkwY.size (by omega) (by omega) (by omega) (by omega)) (OwnFrom.and (ownFrom_keepsFrom hXY) (fun _ _ _ _ hs hg _ => Nat.le_trans hs hg.size))))
        (fun c pre' A B row hs hg hr => ⟨hs.1, confE2_from hMY (Nat.le_refl _) hkwY.size pre' A B row hs.2.1 hg hr, ownFrom_keepsFrom (β := Unit) hXY () A B row hs.2.2 hg hr⟩)
        ⟨⟨q0, q1, q2, hkwY, q4, hMY, p6, p7, fun t ht => by cases ht⟩, KeptB.of_kept hkY (Nat.le_trans hc2 hsz) (by omega) (by omega), keepsFrom_kept hkY _, Nat.le_refl _⟩
        (fun f a'' Z => ∃ B9, Y.heap.size ≤ B9 ∧ Blk Z B9 #[.int .i64 (toldLo h k f.val), .int .i64 (toldHi h k f.val)] 23 ∧ a'' = { tmps := #[.agg #[.slice s.aw h.warm.length s.cw, .slice s.ag h.gauges.length s.cg, .slice s.af h.flows.length s.cf], .pointer (some ⟨w.heap.size, 0, none⟩), .pointer (some ⟨w.heap.size + 1, 0, none⟩), .pointer (some ⟨w.heap.size + 1 + 1, 0, none⟩), u 4, .pointer (some ⟨W.heap.size, 0, none⟩), .pointer (some ⟨B6, 0, none⟩), .pointer (some ⟨B7, 0, none⟩), .int .i64 f.val, .pointer (some ⟨B9, 0, none⟩), u 10, u 11, u 12, u 13, u 14, u 15, u 16, u 17, u 18, .int .i64 h.warm.length, .int .i64 k, .bool true, .int .i64 k, .agg #[.slice s.aw h.warm.length s.cw, .slice s.ag h.gauges.length s.cg, .slice s.af h.flows.length s.cf], .int .i64 k, .func (.func 141) #[] #[.pointer (some ⟨W.heap.size + 1, 0, none⟩), .pointer (some ⟨W.heap.size + 1 + 1, 0, none⟩)], .int .i64 x, .agg #[.int .i64 LX, .int .i64 HX], .agg #[.slice s.aw h.warm.length s.cw, .slice s.ag h.gauges.length s.cg, .slice s.af h.flows.length s.cf], .int .i64 k, .func (.func 141) #[] #[.pointer (some ⟨X.heap.size, 0, none⟩), .pointer (some ⟨X.heap.size + 1, 0, none⟩)], .int .i64 f.val, .agg #[.int .i64 (toldLo h k f.val), .int .i64 (toldHi h k f.val)], u 33, u 34, u 35, u 36, u 37, u 38, u 39, u 40, u 41, u 42, u 43, u 44, u 45, u 46, u 47, u 48, u 49, u 50, u 51, u 52, u 53, u 54, u 55, u 56, u 57, u 58, u 59, u 60, u 61, u 62, u 63, u 64, u 65, u 66, u 67, u 68, u 69, u 70, u 71, u 72], defers := [] })
        (fun f a'' _ A B row hs hg hr => by obtain ⟨B9, e1, e2, e3⟩ := hs; exact ⟨B9, e1, blk_from (β := Unit) Y.heap.size _ _ _ () A B row e2 hg hr, e3⟩)
        ?assign2 ?body2 ?done2 ?stop2
      case assign2 =>
        rintro l2 pre' f Z K ⟨hI, hkb, hkf, hsz2⟩ hK
        gi_wp2
        have hka : Kept Z (Z.alloc (.cells #[.int .i64 (toldLo h k f.val), .int .i64 (toldHi h k f.val)] 23)) := Kept.alloc (Below.refl _ _) _
        have z5 := Blk.lt p5
        have z8 := Blk.lt p8
        have hzX := hkb.below.size
        exact hK _ _ (keepsFrom_kept hka _) (KeptB.of_kept hka (by have := hkwY.size; omega) (by omega) (by omega)) ⟨hI.keep hka, hkb.trans (KeptB.of_kept hka (by have := hkwY.size; omega) (by omega) (by omega)), hkf.trans (keepsFrom_kept hka _), by have := hka.size; omega⟩ ⟨Z.heap.size, hsz2, Blk.new, rfl⟩
      case body2 =>
        rintro l2 pre' f a'' Z hl2 _ ⟨⟨q0, q1, q2, hkZ, q4, hMZ, p6, p7, hno2⟩, hkb, hkf, hsz2⟩ ⟨B9, hB9, p9, rfl⟩ hlen2
        have HNO2 := Lib.hid hno2
        have HKB := Lib.hid hkb
        have HKF := Lib.hid hkf
        clear hno2 hkb hkf
        obtain ⟨f, hfl⟩ := f
        dsimp only at p9 ⊢
        have bdf := told_bd ho hfl hc
        have HCT0 : f ≤ x → clashB h k f x = ((decide (f = x) && decide (toldHi h k f < toldLo h k f)) || (decide (f < x) && !decide (toldHi h k f < toldLo h k f) && decide (LX ≤ HX) && decide (toldHi h k f < LX))) := fun hfx => by rw [clash_told ho hfx hxl, HLX.out, HHX.out]
        obtain ⟨LF, hLF⟩ : ∃ n, n = toldLo h k f := ⟨_, rfl⟩
        obtain ⟨HF, hHF⟩ : ∃ n, n = toldHi h k f := ⟨_, rfl⟩
        rw [← hLF, ← hHF] at p9 bdf HCT0 ⊢
        have HCT := Lib.hid HCT0
        clear HCT0 hLF hHF bdx bdf
        have q1c0 := q1.cell 0
        have q1f0 := q1.free 0
        have q1c1 := q1.cell 1
        have q1f1 := q1.free 1
        have q1c2 := q1.cell 2
        have q1f2 := q1.free 2
        have q1l := q1.lt
        simp at q1c0 q1c1 q1c2
        have q2c0 := q2.cell 0
        have q2f0 := q2.free 0
        have q2l := q2.lt
        simp at q2c0
        have q4c0 := q4.cell 0
        have q4f0 := q4.free 0
        have q4l := q4.lt
        simp at q4c0
        have p6c0 := p6.cell 0
        have p6f0 := p6.free 0
        have p6l := p6.lt
        simp at p6c0
        have p7c0 := p7.cell 0
        have p7f0 := p7.free 0
        have p7c1 := p7.cell 1
        have p7f1 := p7.free 1
        have p7l := p7.lt
        simp at p7c0 p7c1
        have p9c0 := p9.cell 0
        have p9f0 := p9.free 0
        have p9c1 := p9.cell 1
        have p9f1 := p9.free 1
        have p9l := p9.lt
        simp at p9c0 p9c1
        by_cases k1 : f ≤ x
        · by_cases k2 : f = x
          · have d1 : ((f : Int) == (x : Int)) = true := by simp; omega
            have d2 : (f == x) = true := by simp; omega
            have d3 : decide (f = x) = true := by simp; omega
            by_cases k3 : HF < LF
            · have d4 : decide (HF < LF) = true := by simp; omega
              have hfx : f ≤ x := by omega
              have HT := Lib.hid (show clashB h k f x = true by rw [HCT.out hfx]; simp; omega)
              clear k1 k2 k3
              gi_wp2
              have hko : KeepsOthers Z ((((Z.setCell ⟨w.heap.size + 1, 0, none⟩ (.int .i64 k)).setCell ⟨w.heap.size + 1, 1, none⟩ (.int .i64 f)).setCell ⟨w.heap.size + 1, 2, none⟩ (.int .i64 x)).setCell ⟨w.heap.size + 1 + 1, 0, none⟩ (.int .i64 0)) := (((KeepsOthers.setCell _ _ _).trans (KeepsOthers.setCell _ _ _)).trans (KeepsOthers.setCell _ _ _)).trans (KeepsOthers.setCell _ _ _)
              exact ⟨hko.from _, rfl, ⟨pre', ⟨f, hfl⟩, rfl, HNO2.out, hfx, HT.out, Blk.other (Blk.cast (((q1.set 0 _).set 1 _).set 2 _) (by simp)) (by simp) _, Blk.cast ((Blk.other (Blk.other (Blk.other q2 (by simp) _) (by simp) _) (by simp) _).set 0 _) (by simp), by exact kpt, hMZ.from (hko.from w.heap.size) (Nat.le_refl _)⟩, HKF.out.trans (hko.from _)⟩
            · have d4 : decide (HF < LF) = false := by simp; omega
              have d5 : decide ((f : Int) < (x : Int)) = false := by simp; omega
              have d6 : decide (f < x) = false := by simp; omega
              have HN := Lib.hid (show f ≤ x → clashB h k f x = false from fun hfx => by rw [HCT.out hfx]; simp; omega)
              clear k1 k2 k3
              gi_wp2
              refine ⟨KeepsFrom.refl _ _, KeptB.of_kept (Below.refl _ _) (by have := hkwY.size; omega) (by have := Blk.lt p5; omega) (by have := Blk.lt p8; omega), ⟨q0, q1, q2, hkZ, q4, hMZ, p6, p7, fun g hg hgx => ?_⟩, HKB.out, HKF.out, hsz2⟩
              rcases List.mem_append.1 hg with hg | hg
              · exact HNO2.out g hg hgx
              · obtain rfl : g = ⟨f, hfl⟩ := by simpa using hg
                exact HN.out hgx
          · have d1 : ((f : Int) == (x : Int)) = false := by simp; omega
            have d2 : (f == x) = false := by simp; omega
            have d3 : decide (f = x) = false := by simp; omega
            have d5 : decide ((f : Int) < (x : Int)) = true := by simp; omega
            have d6 : decide (f < x) = true := by simp; omega
            by_cases k3 : HF < LF
            · have d4 : decide (HF < LF) = true := by simp; omega
              have HN := Lib.hid (show f ≤ x → clashB h k f x = false from fun hfx => by rw [HCT.out hfx]; simp; omega)
              clear k1 k2 k3
              gi_wp2
              refine ⟨KeepsFrom.refl _ _, KeptB.of_kept (Below.refl _ _) (by have := hkwY.size; omega) (by have := Blk.lt p5; omega) (by have := Blk.lt p8; omega), ⟨q0, q1, q2, hkZ, q4, hMZ, p6, p7, fun g hg hgx => ?_⟩, HKB.out, HKF.out, hsz2⟩
              rcases List.mem_append.1 hg with hg | hg
              · exact HNO2.out g hg hgx
              · obtain rfl : g = ⟨f, hfl⟩ := by simpa using hg
                exact HN.out hgx
            · have d4 : decide (HF < LF) = false := by simp; omega
              by_cases k4 : LX ≤ HX
              · have d7 : decide (LX ≤ HX) = true := by simp; omega
                by_cases k5 : HF < LX
                · have d8 : decide (HF < LX) = true := by simp; omega
                  have hfx : f ≤ x := by omega
                  have HT := Lib.hid (show clashB h k f x = true by rw [HCT.out hfx]; simp; omega)
                  clear k1 k2 k3 k4 k5
                  gi_wp2
                  have hko : KeepsOthers Z ((((Z.setCell ⟨w.heap.size + 1, 0, none⟩ (.int .i64 k)).setCell ⟨w.heap.size + 1, 1, none⟩ (.int .i64 f)).setCell ⟨w.heap.size + 1, 2, none⟩ (.int .i64 x)).setCell ⟨w.heap.size + 1 + 1, 0, none⟩ (.int .i64 0)) := (((KeepsOthers.setCell _ _ _).trans (KeepsOthers.setCell _ _ _)).trans (KeepsOthers.setCell _ _ _)).trans (KeepsOthers.setCell _ _ _)
                  exact ⟨hko.from _, rfl, ⟨pre', ⟨f, hfl⟩, rfl, HNO2.out, hfx, HT.out, Blk.other (Blk.cast (((q1.set 0 _).set 1 _).set 2 _) (by simp)) (by simp) _, Blk.cast ((Blk.other (Blk.other (Blk.other q2 (by simp) _) (by simp) _) (by simp) _).set 0 _) (by simp), by exact kpt, hMZ.from (hko.from w.heap.size) (Nat.le_refl _)⟩, HKF.out.trans (hko.from _)⟩
                · have d8 : decide (HF < LX) = false := by simp; omega
                  have HN := Lib.hid (show f ≤ x → clashB h k f x = false from fun hfx => by rw [HCT.out hfx]; simp; omega)
                  clear k1 k2 k3 k4 k5
                  gi_wp2
                  refine ⟨KeepsFrom.refl _ _, KeptB.of_kept (Below.refl _ _) (by have := hkwY.size; omega) (by have := Blk.lt p5; omega) (by have := Blk.lt p8; omega), ⟨q0, q1, q2, hkZ, q4, hMZ, p6, p7, fun g hg hgx => ?_⟩, HKB.out, HKF.out, hsz2⟩
                  rcases List.mem_append.1 hg with hg | hg
                  · exact HNO2.out g hg hgx
                  · obtain rfl : g = ⟨f, hfl⟩ := by simpa using hg
                    exact HN.out hgx
              · have d7 : decide (LX ≤ HX) = false := by simp; omega
                have HN := Lib.hid (show f ≤ x → clashB h k f x = false from fun hfx => by rw [HCT.out hfx]; simp; omega)
                clear k1 k2 k3 k4
                gi_wp2
                refine ⟨KeepsFrom.refl _ _, KeptB.of_kept (Below.refl _ _) (by have := hkwY.size; omega) (by have := Blk.lt p5; omega) (by have := Blk.lt p8; omega), ⟨q0, q1, q2, hkZ, q4, hMZ, p6, p7, fun g hg hgx => ?_⟩, HKB.out, HKF.out, hsz2⟩
                rcases List.mem_append.1 hg with hg | hg
                · exact HNO2.out g hg hgx
                · obtain rfl : g = ⟨f, hfl⟩ := by simpa using hg
                  exact HN.out hgx
        · have d1 : ((f : Int) == (x : Int)) = false := by simp; omega
          have d2 : (f == x) = false := by simp; omega
          have d3 : decide (f = x) = false := by simp; omega
          have d5 : decide ((f : Int) < (x : Int)) = false := by simp; omega
          have d6 : decide (f < x) = false := by simp; omega
          have HN := Lib.hid (show f ≤ x → clashB h k f x = false from fun hfx => by exact absurd hfx k1)
          clear d3
          gi_wp2
          refine ⟨KeepsFrom.refl _ _, KeptB.of_kept (Below.refl _ _) (by have := hkwY.size; omega) (by have := Blk.lt p5; omega) (by have := Blk.lt p8; omega), ⟨q0, q1, q2, hkZ, q4, hMZ, p6, p7, fun g hg hgx => ?_⟩, HKB.out, HKF.out, hsz2⟩
          rcases List.mem_append.1 hg with hg | hg
          · exact HNO2.out g hg hgx
          · obtain rfl : g = ⟨f, hfl⟩ := by simpa using hg
            exact HN.out hgx
      case done2 =>
        rintro ys Z ⟨hup, hlen2⟩ ⟨⟨q0, q1, q2, hkZ, q4, hMZ, p6, p7, hno2⟩, hkb, hkf, hsz2⟩
        gi_wp2
        refine ⟨hkf, hkb, ⟨q0, q1, q2, hkZ, q4, hMZ, fun t ht f hft => ?_⟩, by have := hkf.size; omega⟩
        rcases List.mem_append.1 ht with ht | ht
        · exact HNO.out t ht f hft
        · obtain rfl : t = ⟨x, hxl⟩ := by simpa using ht
          exact hno2 ⟨f, by simp at hft; omega⟩ (hup.mem.2 (by simp at hft; rw [hlen2]; simp; omega)) hft
      case stop2 =>
        rintro c pre' Z hup ⟨rfl, ⟨pre1, f, rfl, hno2, hfx, hcl, hR⟩, hkf⟩
        obtain ⟨hup1, hfv⟩ := hup.init
        have hfl := f.isLt
        gi_wp2
        exact ⟨hkf, rfl, pre, ⟨x, hxl⟩, f.val, rfl, HNO.out, hfx, fun g hg => hno2 ⟨g, by omega⟩ (hup1.mem.2 (by simp; omega)) (by simp; omega), hcl, hR⟩
    case done =>
      rintro D ys X hD ⟨hup, hlen⟩ ⟨⟨q0, q1, q2, hkX, q4, hMX, hno⟩, hsz⟩ hK
      have hlM : ∀ E ∈ Ds, E < V.heap.size := fun E hE => (Array.getElem?_eq_some_iff.1 (hMV.2 E hE).2).1
      have hM3 : Marked w.heap.size (D :: Ds) X := by
        refine ⟨List.nodup_cons.2 ⟨fun h => by have := hlM D h; omega, hMX.1⟩, fun E hE => ?_⟩
        rcases List.mem_cons.1 hE with rfl | hE
        · exact ⟨by omega, hK⟩
        · exact hMX.2 E hE
      have hcl3 : Clear h (k + 1) 0 0 := fun c' t' f' h1 h2 h3 hx => by
        by_cases hck : c' < k
        · exact HCLR.out c' t' f' h1 h2 h3 (.inl hck)
        · obtain rfl : c' = k := by omega
          exact hno ⟨t', h2⟩ (hup.mem.2 (by rw [hlen]; exact h2)) f' h3
      have HM3 := Lib.hid hM3
      have HCL3 := Lib.hid hcl3
      clear hM3 hcl3 hno hMX k0 k1 k2 j4 j5 j6 hM1
      gi_wp2
      refine ⟨⟨k + 1, D :: Ds, ?_, by omega, HM3.out, ⟨q0, q1, q2, hkX⟩, HCL3.out⟩, ?_⟩
      · exact (conf_act _ rfl rfl rfl rfl rfl rfl rfl).imp fun u hu => congrArg (fun A => Act.mk A (marks (D :: Ds))) hu
      · simp [intOf]; omega
    case stop =>
      rintro D c pre X hD hup ⟨rfl, pre0, x, f, rfl, hno, hfx, hlt, hcl, hR⟩ hK
      obtain ⟨hup0, hxv⟩ := hup.init
      have hxl := x.isLt
      have hlM : ∀ E ∈ Ds, E < V.heap.size := fun E hE => (Array.getElem?_eq_some_iff.1 (hMV.2 E hE).2).1
      have HC := Lib.hid (cf_some HB.out (Clear.found (c := k) (t := x.val) (f := f) (fun c' t' f' h1 h2 h3 hx => by
        by_cases hck : c' < k
        · exact HCLR.out c' t' f' h1 h2 h3 (.inl hck)
        · by_cases htx : t' < x.val
          · obtain rfl : c' = k := by omega
            exact hno ⟨t', h2⟩ (hup0.mem.2 (by simp; omega)) f' h3
          · obtain ⟨rfl, rfl⟩ : c' = k ∧ t' = x.val := by omega
            exact hlt f' (by omega)) hc hxl hfx hcl))
      gi_wp2
      refine leaves_marks (B := w.heap.size) (fun W => ConfR w k f x.val [] W) (confR_from (V := w) ⟨by simp, by simp⟩ (Nat.le_refl _) (Nat.le_refl _)) ?_ (D :: Ds) X ⟨List.nodup_cons.2 ⟨fun h => by have := hlM D h; omega, hR.2.2.2.1⟩, fun E hE => ?_⟩ ⟨hR.1, hR.2.1, hR.2.2.1, ⟨by simp, by simp⟩⟩
      · rintro W5 ⟨e1, e2, hkp, _⟩
        have e1c0 := e1.cell 0
        have e1f0 := e1.free 0
        have e1c1 := e1.cell 1
        have e1f1 := e1.free 1
        have e1c2 := e1.cell 2
        have e1f2 := e1.free 2
        have e1l := e1.lt
        simp at e1c0 e1c1 e1c2
        have e2c0 := e2.cell 0
        have e2f0 := e2.free 0
        have e2l := e2.lt
        simp at e2c0
        exact ⟨.tuple #[.agg #[.int .i64 k, .int .i64 f, .int .i64 x.val], .int .i64 0], by simp [results, Try.results62, go_sem, e1c0, e1c1, e1c2, e2c0], by rw [HC.out.1, HC.out.2.1, HC.out.2.2.1, HC.out.2.2.2], hkp⟩
      · rcases List.mem_cons.1 hE with rfl | hE
        · exact ⟨by omega, hK⟩
        · exact hR.2.2.2.2 E hE
  · obtain rfl : k = h.warm.length := by omega
    have HC := Lib.hid (cf_none HB.out HCLR.out.none)
    have k1c0 := k1.cell 0
    have k1f0 := k1.free 0
    have k1c1 := k1.cell 1
    have k1f1 := k1.free 1
    have k1c2 := k1.cell 2
    have k1f2 := k1.free 2
    have k1l := k1.lt
    simp at k1c0 k1c1 k1c2
    have k2c0 := k2.cell 0
    have k2f0 := k2.free 0
    have k2l := k2.lt
    simp at k2c0
    gi_wp2
    refine leaves_marks (B := w.heap.size) (fun W => Blk W (w.heap.size + 1) #[.int .i64 0, .int .i64 0, .int .i64 0] 99 ∧ Blk W (w.heap.size + 1 + 1) #[.int .i64 6] 28 ∧ Kept w W) (OwnFrom.and (blk_from _ _ _ _) (OwnFrom.and (blk_from _ _ _ _) (ownFrom_below (Nat.le_refl _) (Nat.le_refl _)))) ?_ Ds _ (hM.from (((((KeepsOthers.setCell _ _ _).trans (KeepsOthers.setCell _ _ _)).trans (KeepsOthers.setCell _ _ _)).trans (KeepsOthers.setCell _ _ _)).from w.heap.size) (Nat.le_refl _)) ⟨Blk.other (Blk.cast (((k1.set 0 _).set 1 _).set 2 _) (by simp)) (by simp) _, Blk.cast ((Blk.other (Blk.other (Blk.other k2 (by simp) _) (by simp) _) (by simp) _).set 0 _) (by simp), by exact kpt⟩
    rintro W5 ⟨e1, e2, hkp⟩
    have e1c0 := e1.cell 0
    have e1f0 := e1.free 0
    have e1c1 := e1.cell 1
    have e1f1 := e1.free 1
    have e1c2 := e1.cell 2
    have e1f2 := e1.free 2
    have e1l := e1.lt
    simp at e1c0 e1c1 e1c2
    have e2c0 := e2.cell 0
    have e2f0 := e2.free 0
    have e2l := e2.lt
    simp at e2c0
    exact ⟨.tuple #[.agg #[.int .i64 0, .int .i64 0, .int .i64 0], .int .i64 6], by simp [results, Try.results62, go_sem, e1c0, e1c1, e1c2, e2c0], by rw [HC.out.1, HC.out.2.1, HC.out.2.2.1, HC.out.2.2.2], hkp⟩
theorem f_Conflict (h : Hist) (s : Spot) (w : World) (hh : HistAt h s w) :
    Calls Try.prog 62 #[.agg #[.slice s.aw h.warm.length s.cw, .slice s.ag h.gauges.length s.cg, .slice s.af h.flows.length s.cf]] w fun e w' => e = .returned (.tuple #[.agg #[.int .i64 (cfC h), .int .i64 (cfF h), .int .i64 (cfT h)], .int .i64 (confE h)]) ∧ Kept w w' := by
  cases hb : histB h
  · exact f_Conflict_bad h s w hh hb
  · exact f_Conflict_ok h s w hh hb

end Go.Proofs.Ytemafanncejeiaa

/-
  A slice that the call owns, beside blocks of another type. No program in sight.
-/
namespace Bal
open Go Go.RowKit
theorem Blk.grown {w w' : World} {b base k n : Nat} {arr : Array Value} {t e : TypeId} {v : Value} {xs : List Value} (h : Blk w b arr t) (ho : w.ownsRow base e k v n xs) (hne : t ≠ e) (hg : w.grownBy w' v.ownBlock) : Blk w' b arr t := by
  have hl := h.lt
  unfold Blk at *
  rw [hg.block b hl ?_]
  · exact h
  · intro he
    obtain ⟨_, ⟨rfl, _⟩ | ⟨g, cap, cur, rfl, _, hh, _⟩⟩ := ho
    · cases he
    · simp only [Value.ownBlock, Option.some.injEq] at he
      subst he
      rw [h] at hh
      simp only [Option.some.injEq, Obj.cells.injEq] at hh
      exact hne hh.2.1
theorem Kept.grown {w0 w w' : World} {base k n : Nat} {e : TypeId} {v : Value} {xs : List Value} (h : Kept w0 w) (ho : w.ownsRow base e k v n xs) (hb : w0.heap.size ≤ base) (hg : w.grownBy w' v.ownBlock) : Kept w0 w' := by
  refine Below.trans h ⟨hg.os, hg.tape, hg.output, hg.size, fun i hi => hg.block i (Nat.lt_of_lt_of_le hi h.size) fun he => ?_⟩
  obtain ⟨_, ⟨rfl, _⟩ | ⟨g, cap, cur, rfl, hbg, _, _⟩⟩ := ho
  · cases he
  · simp only [Value.ownBlock, Option.some.injEq] at he
    omega
theorem owns_set {w : World} {b base k n i : Nat} {arr : Array Value} {t e : TypeId} {v u : Value} {xs : List Value} (h : Blk w b arr t) (ho : w.ownsRow base e k v n xs) (hne : t ≠ e) : (w.setCell ⟨b, i, none⟩ u).ownsRow base e k v n xs := by
  obtain ⟨h1, h2 | ⟨g, cap, cur, hv, hg, hh, r⟩⟩ := ho
  · exact ⟨h1, .inl h2⟩
  · have hgb : g ≠ b := by
      intro he
      subst he
      unfold Blk at h
      rw [h] at hh
      simp only [Option.some.injEq, Obj.cells.injEq] at hh
      exact hne hh.2.1
    refine ⟨h1, .inr ⟨g, cap, cur, hv, hg, ?_, r⟩⟩
    have := Blk.other (w := w) (b := g) (arr := cur) (t := e) (a := ⟨b, i, none⟩) hh (by simpa using fun h => hgb h.symm) u
    exact this
end Bal

/-
  A slice that the call owns: stores into its elements; blocks beside it, of whatever type. No program in sight.
-/
namespace Bal
open Go Go.RowKit
theorem flatMap_setP {α : Type} {enc : α → List Value} {k : Nat} (he : ∀ x, (enc x).length = k) : ∀ (xs : List α) (i : Nat) (c c' : α) (j : Nat) (u : Value), xs[i]? = some c → j < k → enc c' = (enc c).set j u →
    (xs.set i c').flatMap enc = (xs.flatMap enc).set (i * k + j) u
  | [], i, c, c', j, u, h, _, _ => by simp at h
  | y :: ys, 0, c, c', j, u, h, hj, hc => by
    simp at h
    subst h
    rw [List.set_cons_zero, List.flatMap_cons, List.flatMap_cons, hc, Nat.zero_mul, Nat.zero_add, List.set_append_left _ _ (by rw [he]; exact hj)]
  | y :: ys, i + 1, c, c', j, u, h, hj, hc => by
    have ih := flatMap_setP he ys i c c' j u (by simpa using h) hj hc
    rw [List.set_cons_succ, List.flatMap_cons, List.flatMap_cons, ih, List.set_append_right _ _ (by rw [he, Nat.succ_mul]; omega), he]
    congr 2
    rw [Nat.succ_mul]; omega
theorem owns_ge {w : World} {base k n b : Nat} {e : TypeId} {v : Value} {xs : List Value} (ho : w.ownsRow base e k v n xs) (h : b < base) : v.ownBlock ≠ some b := by
  obtain ⟨_, ⟨rfl, _⟩ | ⟨g, cap, cur, rfl, hg, _⟩⟩ := ho
  · simp [Value.ownBlock]
  · simp only [Value.ownBlock, ne_eq, Option.some.injEq]; omega
theorem owns_newer {w : World} {base k n b : Nat} {e : TypeId} {v : Value} {xs : List Value} (ho : w.ownsRow base e k v n xs) (h : w.heap.size ≤ b) : v.ownBlock ≠ some b := by
  obtain ⟨_, ⟨rfl, _⟩ | ⟨g, cap, cur, rfl, hg, hh, _⟩⟩ := ho
  · simp [Value.ownBlock]
  · simp only [Value.ownBlock, ne_eq, Option.some.injEq]
    have : g < w.heap.size := Blk.lt (show Blk w g cur e from hh)
    omega
theorem Blk.grownN {w w' : World} {b : Nat} {arr : Array Value} {t : TypeId} {v : Value} (h : Blk w b arr t) (hne : v.ownBlock ≠ some b) (hg : w.grownBy w' v.ownBlock) : Blk w' b arr t :=
  (hg.block b h.lt (fun e => hne e.symm)).trans h
theorem Kept.grownB {w0 w w' : World} {base k n : Nat} {e : TypeId} {v : Value} {xs : List Value} (h : Kept w0 w) (ho : w.ownsRow base e k v n xs) (hb : w0.heap.size ≤ base) (hg : w.grownBy w' v.ownBlock) : Kept w0 w' := Kept.grown h ho hb hg
/-- the block of a row that is not nil -/
theorem owns_block {w : World} {base k n : Nat} {e : TypeId} {v : Value} {xs : List Value} (ho : w.ownsRow base e k v n xs) (hn : 0 < n) : ∃ g cap cur, v = .slice (some ⟨g, 0, none⟩) n cap ∧ base ≤ g ∧ Blk w g cur e ∧ n ≤ cap ∧ cap ≤ maxLen := by
  obtain ⟨_, ⟨_, h⟩ | ⟨g, cap, cur, hv, hg, hh, h1, h2, _⟩⟩ := ho
  · omega
  · exact ⟨g, cap, cur, hv, hg, hh, h1, h2⟩
theorem owns_cur {w : World} {base k n g m cap : Nat} {e : TypeId} {xs : List Value} (ho : w.ownsRow base e k (.slice (some ⟨g, 0, none⟩) m cap) n xs) : base ≤ g ∧ Blk w g (((w.heap[g]?).bind fun o => match o with | .cells c _ _ => some c | _ => none).getD #[]) e := by
  obtain ⟨_, ⟨h, _⟩ | ⟨g', cap', cur, hv, hg, hh, _⟩⟩ := ho
  · cases h
  · simp only [Value.slice.injEq, Option.some.injEq, Addr.mk.injEq, and_true] at hv
    obtain ⟨rfl, _, _⟩ := hv
    refine ⟨hg, ?_⟩
    rw [hh]
    exact hh
/-- a store into one element's field -/
theorem owns_put {α : Type} {enc : α → List Value} {k : Nat} (he : ∀ x, (enc x).length = k) {w : World} {base g n cap : Nat} {e : TypeId} {xs : List α} {i j : Nat} {c : α} {u : Value} (c' : α)
    (ho : w.ownsRow base e k (.slice (some ⟨g, 0, none⟩) n cap) xs.length (xs.flatMap enc)) (hx : xs[i]? = some c) (hj : j < k) (hc : enc c' = (enc c).set j u) :
    (w.setCell ⟨g, i * k + j, none⟩ u).ownsRow base e k (.slice (some ⟨g, 0, none⟩) n cap) (xs.set i c').length ((xs.set i c').flatMap enc) := by
  obtain ⟨h1, ⟨h2, _⟩ | ⟨g', cap', cur, hv, hg, hh, h3, h4, h5, h6⟩⟩ := ho
  · cases h2
  · simp only [Value.slice.injEq, Option.some.injEq, Addr.mk.injEq, and_true, true_and] at hv
    obtain ⟨rfl, rfl, rfl⟩ := hv
    have hi : i < xs.length := (List.getElem?_eq_some_iff.1 hx).1
    refine ⟨by rw [List.length_set, flatMap_len he, List.length_set], .inr ⟨g, cap, cur.setIfInBounds (i * k + j) u, by simp, hg, Blk.set (show Blk w g cur e from hh) _ _, by simpa using h3, h4, by simpa using h5, ?_⟩⟩
    rw [Array.toList_setIfInBounds, List.length_set, List.take_set, h6, flatMap_setP he xs i c c' j u hx hj hc]
end Bal

/-
  Rows of elements: parts of them, equal lists, what a call owns. No program in sight.
-/
namespace Bal
open Go Go.RowKit
/-- one element of a row as a row of its own -/
theorem Row.sub {α : Type} {enc : α → List Value} {k B : Nat} {w : World} {b off : Nat} {xs : List α} (h : Row enc k B w (some ⟨b, off, none⟩) xs) (i : Nat) (hi : i < xs.length) :
    Row enc k B w (some ⟨b, off + i * k, none⟩) [xs[i]] := by
  intro j x hx
  have hj : j = 0 := by
    have := (List.getElem?_eq_some_iff.1 hx).1
    simp at this; omega
  subst hj
  simp at hx
  subst hx
  obtain ⟨b', off', ha, hb, hc⟩ := h i xs[i] (by simp [hi])
  simp only [Option.some.injEq, Addr.mk.injEq, and_true] at ha
  obtain ⟨rfl, rfl⟩ := ha
  exact ⟨b, off + i * k, rfl, hb, fun j v hv => by rw [Nat.zero_mul, Nat.add_zero]; exact hc j v hv⟩
/-- the first elements of a row -/
theorem Row.take {α : Type} {enc : α → List Value} {k B : Nat} {w : World} {a : Option Addr} {xs : List α} (h : Row enc k B w a xs) (n : Nat) : Row enc k B w a (xs.take n) := by
  intro i x hx
  rw [List.getElem?_take] at hx
  split at hx
  · exact h i x hx
  · cases hx
theorem Row.one {α : Type} {enc : α → List Value} {k : Nat} {w : World} {b : Nat} {arr : Array Value} {t : TypeId} {x : α} (h : Blk w b arr t) (he : arr.toList = enc x) : Row enc k w.heap.size w (some ⟨b, 0, none⟩) [x] := by
  intro j y hy
  have hj : j = 0 := by
    have := (List.getElem?_eq_some_iff.1 hy).1
    simp at this; omega
  subst hj
  simp at hy
  subst hy
  exact ⟨b, 0, rfl, h.lt, fun j v hv => by simp only [Nat.zero_mul, Nat.zero_add]; rw [h.cell, ← Array.getElem?_toList, he]; exact hv⟩
/-- a block of several elements as a row -/
theorem Row.block {α : Type} {enc : α → List Value} {k : Nat} {w : World} {b : Nat} {arr : Array Value} {t : TypeId} {xs : List α} (he : ∀ x, (enc x).length = k) (h : Blk w b arr t) (ha : arr.toList = xs.flatMap enc) : Row enc k w.heap.size w (some ⟨b, 0, none⟩) xs := by
  intro i x hx
  refine ⟨b, 0, rfl, h.lt, fun j v hj => ?_⟩
  have hjk : j < k := by rw [← he x]; exact (List.getElem?_eq_some_iff.1 hj).1
  rw [h.cell, Nat.zero_add, ← Array.getElem?_toList, ha, flatMap_get he xs i x hx j hjk]
  exact hj
theorem cell_two_at {w : World} {n : Nat} (h : n = w.heap.size) (a b : Value) (t : TypeId) : ∀ j u, [a, b][j]? = some u → (w.alloc (.cells #[a, b] t)).cell? ((⟨n, 0, none⟩ : Addr).add j) = some u := h ▸ cell_two_new w a b t
theorem cell_one_at {w : World} {n : Nat} (h : n = w.heap.size) (a : Value) (t : TypeId) : ∀ j u, [a][j]? = some u → (w.alloc (.cells #[a] t)).cell? ((⟨n, 0, none⟩ : Addr).add j) = some u := by
  subst h
  intro j u hj
  have hj0 : j = 0 := by
    have := (List.getElem?_eq_some_iff.1 hj).1
    simp at this; omega
  subst hj0
  simp at hj
  subst hj
  simp [Addr.add]
theorem owns_lt {w : World} {base k n g : Nat} {e : TypeId} {v : Value} {xs : List Value} (ho : w.ownsRow base e k v n xs) (h : v.ownBlock = some g) : g < w.heap.size := by
  obtain ⟨_, ⟨rfl, _⟩ | ⟨g', cap, cur, rfl, _, hh, _⟩⟩ := ho
  · cases h
  · simp only [Value.ownBlock, Option.some.injEq] at h
    subst h
    rcases Nat.lt_or_ge g' w.heap.size with h' | h'
    · exact h'
    · rw [Array.getElem?_eq_none h'] at hh; cases hh
theorem owns_setB {w : World} {base k n b i : Nat} {e : TypeId} {v u : Value} {xs : List Value} (ho : w.ownsRow base e k v n xs) (hne : v.ownBlock ≠ some b) : (w.setCell ⟨b, i, none⟩ u).ownsRow base e k v n xs := by
  obtain ⟨h1, h2 | ⟨g, cap, cur, hv, hg, hh, r⟩⟩ := ho
  · exact ⟨h1, .inl h2⟩
  · refine ⟨h1, .inr ⟨g, cap, cur, hv, hg, ?_, r⟩⟩
    have hgb : b ≠ g := by
      rintro rfl
      exact hne (by rw [hv]; rfl)
    exact Blk.other (w := w) (b := g) (arr := cur) (t := e) (a := ⟨b, i, none⟩) hh (by simpa using hgb) u
/-- two lists are equal as far as they were compared -/
theorem eq_take_succ {α : Type} {xs ys : List α} {k : Nat} (h1 : k < xs.length) (h2 : k < ys.length) (h : xs.take k = ys.take k) (he : xs[k] = ys[k]) : xs.take (k + 1) = ys.take (k + 1) := by
  rw [List.take_succ_eq_append_getElem h1, List.take_succ_eq_append_getElem h2, h, he]
theorem ne_of_get {α : Type} {xs ys : List α} {k : Nat} (h1 : k < xs.length) (h2 : k < ys.length) (he : xs[k] ≠ ys[k]) : xs ≠ ys := by
  rintro rfl; exact he rfl
theorem ne_of_len {α : Type} {xs ys : List α} (h : xs.length ≠ ys.length) : xs ≠ ys := by rintro rfl; exact h rfl
theorem eq_of_take {α : Type} {xs ys : List α} (hl : xs.length = ys.length) (h : xs.take xs.length = ys.take xs.length) : xs = ys := by
  rw [List.take_length, hl, List.take_length] at h; exact h
/-- a slice that a call owns, as a row at an address; nil if it is empty and unmade -/
theorem owns_row {α : Type} {enc : α → List Value} {k base : Nat} {e : TypeId} {w : World} {v : Value} {xs : List α} (he : ∀ x, (enc x).length = k) (h : w.ownsRow base e k v xs.length (xs.flatMap enc)) :
    ∃ a cap, v = .slice a xs.length cap ∧ Row enc k w.heap.size w a xs ∧ xs.length ≤ cap ∧ cap ≤ maxLen := Row.of_owns he h
end Bal

/-
  What has leaked: the program.
-/
namespace Go.Proofs.Ytemafanncejeiaa
open Go.RowKit Bal Bal.Trim Bal.Gas
set_option linter.unusedVariables false
set_option linter.unusedSimpArgs false
set_option maxHeartbeats 4000000
set_option maxRecDepth 100000
attribute [local go_sem] ite_max ite_min

theorem infoSp : (Try.prog.info? 23).map (fun i => (i.zero, i.size, i.bytes)) = some (some (.agg #[.int .i64 0, .int .i64 0]), 2, 16) := by kernel_rfl

theorem f_Leaks_bad (h : Hist) (s : Spot) (x y : Int) (w : World) (hh : HistAt h s w) (hb : histB h = false) :
    Calls Try.prog 58 #[.agg #[.slice s.aw h.warm.length s.cw, .slice s.ag h.gauges.length s.cg, .slice s.af h.flows.length s.cf], .agg #[.int .i64 x, .int .i64 y]] w fun e w' => ∃ v, e = .returned (.tuple #[v, .int .i64 (34)]) ∧ w'.ownsRow w.heap.size 23 2 (v) (([] : List Sp)).length ((([] : List Sp)).flatMap Sp.cells) ∧ Kept w w' := by
  have HE := Lib.hid (show histE h = 34 by unfold histE; rw [hb]; rfl)
  clear hb
  go_enter Try.func58, Try.ntmps58
  go_wp2_with (go_at_call 64; (with_reducible refine (f_CheckHistory h s _ (hh.later (by (exact kpt)))).mono ?_); rw [HE.out]; rintro e w1 ⟨rfl, hb1⟩; refine Blk.thru (b := w.heap.size) (arr := ?_) (t := ?_) ?_ hb1 ?_; rotate_left 2; (focus (exact blk)); intro ra; have rac0 := ra.cell 0; have raf0 := ra.free 0; have rac1 := ra.cell 1; have raf1 := ra.free 1; have rac2 := ra.cell 2; have raf2 := ra.free 2; have ral := ra.lt; simp at rac0 rac1 rac2; refine Blk.thru (b := w.heap.size + 1) (arr := ?_) (t := ?_) ?_ hb1 ?_; rotate_left 2; (focus (exact blk)); intro rc; have rcc0 := rc.cell 0; have rcf0 := rc.free 0; have rcc1 := rc.cell 1; have rcf1 := rc.free 1; have rcl := rc.lt; simp at rcc0 rcc1)
  exact bodyPost_ret (v := .tuple #[.slice none 0 0, .int .i64 34]) (by simp [results, Try.results58, go_sem]) rfl ⟨.slice none 0 0, rfl, owns_nil (α := Sp) (enc := Sp.cells), by (exact kpt)⟩

theorem f_Leaks_arg (h : Hist) (s : Spot) (x y : Int) (w : World) (hh : HistAt h s w) (hb : histB h = true) (hs : spanIn x y 0 1000000000000 = false) :
    Calls Try.prog 58 #[.agg #[.slice s.aw h.warm.length s.cw, .slice s.ag h.gauges.length s.cg, .slice s.af h.flows.length s.cf], .agg #[.int .i64 x, .int .i64 y]] w fun e w' => ∃ v, e = .returned (.tuple #[v, .int .i64 (2)]) ∧ w'.ownsRow w.heap.size 23 2 (v) (([] : List Sp)).length ((([] : List Sp)).flatMap Sp.cells) ∧ Kept w w' := by
  have HE := Lib.hid (show histE h = 0 by unfold histE; rw [hb]; rfl)
  have HS := Lib.hid hs
  clear hb hs
  go_enter Try.func58, Try.ntmps58
  go_wp2_with (first | (go_at_call 64; (with_reducible refine (f_CheckHistory h s _ (hh.later (by (exact kpt)))).mono ?_); rw [HE.out]; rintro e w1 ⟨rfl, hb1⟩; refine Blk.thru (b := w.heap.size) (arr := ?_) (t := ?_) ?_ hb1 ?_; rotate_left 2; (focus (exact blk)); intro ra; have rac0 := ra.cell 0; have raf0 := ra.free 0; have rac1 := ra.cell 1; have raf1 := ra.free 1; have rac2 := ra.cell 2; have raf2 := ra.free 2; have ral := ra.lt; simp at rac0 rac1 rac2; refine Blk.thru (b := w.heap.size + 1) (arr := ?_) (t := ?_) ?_ hb1 ?_; rotate_left 2; (focus (exact blk)); intro rc; have rcc0 := rc.cell 0; have rcf0 := rc.free 0; have rcc1 := rc.cell 1; have rcf1 := rc.free 1; have rcl := rc.lt; simp at rcc0 rcc1) | (go_at_call 88; (with_reducible refine (f_span x y _ _ _).mono ?_); rw [HS.out]; rintro e w2 ⟨rfl, hb2⟩; refine Blk.thru (b := w.heap.size) (arr := ?_) (t := ?_) ?_ hb2 ?_; rotate_left 2; (focus (exact blk)); intro rb; have rbc0 := rb.cell 0; have rbf0 := rb.free 0; have rbc1 := rb.cell 1; have rbf1 := rb.free 1; have rbc2 := rb.cell 2; have rbf2 := rb.free 2; have rbl := rb.lt; simp at rbc0 rbc1 rbc2; refine Blk.thru (b := w.heap.size + 1) (arr := ?_) (t := ?_) ?_ hb2 ?_; rotate_left 2; (focus (exact blk)); intro rd; have rdc0 := rd.cell 0; have rdf0 := rd.free 0; have rdc1 := rd.cell 1; have rdf1 := rd.free 1; have rdl := rd.lt; simp at rdc0 rdc1))
  exact bodyPost_ret (v := .tuple #[.slice none 0 0, .int .i64 2]) (by simp [results, Try.results58, go_sem]) rfl ⟨.slice none 0 0, rfl, owns_nil (α := Sp) (enc := Sp.cells), by (exact kpt)⟩

theorem f_Leaks_conf (h : Hist) (s : Spot) (x y : Int) (w : World) (hh : HistAt h s w) (hb : histB h = true) (hs : spanIn x y 0 1000000000000 = true) (hc : confE h = 0) :
    Calls Try.prog 58 #[.agg #[.slice s.aw h.warm.length s.cw, .slice s.ag h.gauges.length s.cg, .slice s.af h.flows.length s.cf], .agg #[.int .i64 x, .int .i64 y]] w fun e w' => ∃ v, e = .returned (.tuple #[v, .int .i64 (6)]) ∧ w'.ownsRow w.heap.size 23 2 (v) (([] : List Sp)).length ((([] : List Sp)).flatMap Sp.cells) ∧ Kept w w' := by
  have HE := Lib.hid (show histE h = 0 by unfold histE; rw [hb]; rfl)
  have HS := Lib.hid hs
  have HC := Lib.hid hc
  clear hb hs hc
  go_enter Try.func58, Try.ntmps58
  go_wp2_with (first | (go_at_call 64; (with_reducible refine (f_CheckHistory h s _ (hh.later (by (exact kpt)))).mono ?_); rw [HE.out]; rintro e w1 ⟨rfl, hb1⟩; refine Blk.thru (b := w.heap.size) (arr := ?_) (t := ?_) ?_ hb1 ?_; rotate_left 2; (focus (exact blk)); intro ra; have rac0 := ra.cell 0; have raf0 := ra.free 0; have rac1 := ra.cell 1; have raf1 := ra.free 1; have rac2 := ra.cell 2; have raf2 := ra.free 2; have ral := ra.lt; simp at rac0 rac1 rac2; refine Blk.thru (b := w.heap.size + 1) (arr := ?_) (t := ?_) ?_ hb1 ?_; rotate_left 2; (focus (exact blk)); intro rc; have rcc0 := rc.cell 0; have rcf0 := rc.free 0; have rcc1 := rc.cell 1; have rcf1 := rc.free 1; have rcl := rc.lt; simp at rcc0 rcc1) | (go_at_call 88; (with_reducible refine (f_span x y _ _ _).mono ?_); rw [HS.out]; rintro e w2 ⟨rfl, hb2⟩; refine Blk.thru (b := w.heap.size) (arr := ?_) (t := ?_) ?_ hb2 ?_; rotate_left 2; (focus (exact blk)); intro rb; have rbc0 := rb.cell 0; have rbf0 := rb.free 0; have rbc1 := rb.cell 1; have rbf1 := rb.free 1; have rbc2 := rb.cell 2; have rbf2 := rb.free 2; have rbl := rb.lt; simp at rbc0 rbc1 rbc2; refine Blk.thru (b := w.heap.size + 1) (arr := ?_) (t := ?_) ?_ hb2 ?_; rotate_left 2; (focus (exact blk)); intro rd; have rdc0 := rd.cell 0; have rdf0 := rd.free 0; have rdc1 := rd.cell 1; have rdf1 := rd.free 1; have rdl := rd.lt; simp at rdc0 rdc1) | (go_at_call 62; (with_reducible refine (f_Conflict h s _ (hh.later (by (exact kpt)))).mono ?_); rw [HC.out]; rintro e w3 ⟨rfl, hb3⟩; refine Blk.thru (b := w.heap.size) (arr := ?_) (t := ?_) ?_ hb3 ?_; rotate_left 2; (focus (exact blk)); intro re; have rec0 := re.cell 0; have ref0 := re.free 0; have rec1 := re.cell 1; have ref1 := re.free 1; have rec2 := re.cell 2; have ref2 := re.free 2; have rel := re.lt; simp at rec0 rec1 rec2; refine Blk.thru (b := w.heap.size + 1) (arr := ?_) (t := ?_) ?_ hb3 ?_; rotate_left 2; (focus (exact blk)); intro rg; have rgc0 := rg.cell 0; have rgf0 := rg.free 0; have rgc1 := rg.cell 1; have rgf1 := rg.free 1; have rgl := rg.lt; simp at rgc0 rgc1))
  exact bodyPost_ret (v := .tuple #[.slice none 0 0, .int .i64 6]) (by simp [results, Try.results58, go_sem]) rfl ⟨.slice none 0 0, rfl, owns_nil (α := Sp) (enc := Sp.cells), by (exact kpt)⟩

theorem f_Leaks_main (h : Hist) (s : Spot) (x y : Int) (w : World) (hh : HistAt h s w) (hb : histB h = true) (hs : spanIn x y 0 1000000000000 = true) (hc : confE h ≠ 0) :
    Calls Try.prog 58 #[.agg #[.slice s.aw h.warm.length s.cw, .slice s.ag h.gauges.length s.cg, .slice s.af h.flows.length s.cf], .agg #[.int .i64 x, .int .i64 y]] w fun e w' => ∃ v, e = .returned (.tuple #[v, .int .i64 (leaksE h x y)]) ∧ w'.ownsRow w.heap.size 23 2 (v) (leaksL h x y).length ((leaksL h x y).flatMap Sp.cells) ∧ Kept w w' := by
  have HE := Lib.hid (show histE h = 0 by unfold histE; rw [hb]; rfl)
  have ho := histB_ok hb
  have HLE := Lib.hid (leaks_free hb hs hc)
  have xy := span3 hs
  have hw1 := ho.w1
  have hw2 := ho.w2
  have hcw := hh.wc
  have hcm := hh.wm
  unfold maxLen at hcm
  have HO := Lib.hid ho
  have HS := Lib.hid hs
  have hcn : (confE h == 0) = false := by simp [hc]
  have HC := Lib.hid (Eq.refl (confE h))
  have HAB := Lib.hid (fun k hk => all_bd ho k hk)
  have HLB := Lib.hid (fun (c : Nat) (hc : c < h.warm.length) => lost_bd ho hc)
  clear hb hs hc ho
  go_enter Try.func58, Try.ntmps58
  go_wp2_with (first | (go_at_call 64; (with_reducible refine (f_CheckHistory h s _ (hh.later (by (exact kpt)))).mono ?_); rw [HE.out]; rintro e w1 ⟨rfl, hb1⟩; refine Blk.thru (b := w.heap.size) (arr := ?_) (t := ?_) ?_ hb1 ?_; rotate_left 2; (focus (exact blk)); intro ra; have rac0 := ra.cell 0; have raf0 := ra.free 0; have rac1 := ra.cell 1; have raf1 := ra.free 1; have rac2 := ra.cell 2; have raf2 := ra.free 2; have ral := ra.lt; simp at rac0 rac1 rac2; refine Blk.thru (b := w.heap.size + 1) (arr := ?_) (t := ?_) ?_ hb1 ?_; rotate_left 2; (focus (exact blk)); intro rc; have rcc0 := rc.cell 0; have rcf0 := rc.free 0; have rcc1 := rc.cell 1; have rcf1 := rc.free 1; have rcl := rc.lt; simp at rcc0 rcc1) | (go_at_call 88; (with_reducible refine (f_span x y _ _ _).mono ?_); rw [HS.out]; rintro e w2 ⟨rfl, hb2⟩; refine Blk.thru (b := w.heap.size) (arr := ?_) (t := ?_) ?_ hb2 ?_; rotate_left 2; (focus (exact blk)); intro rb; have rbc0 := rb.cell 0; have rbf0 := rb.free 0; have rbc1 := rb.cell 1; have rbf1 := rb.free 1; have rbc2 := rb.cell 2; have rbf2 := rb.free 2; have rbl := rb.lt; simp at rbc0 rbc1 rbc2; refine Blk.thru (b := w.heap.size + 1) (arr := ?_) (t := ?_) ?_ hb2 ?_; rotate_left 2; (focus (exact blk)); intro rd; have rdc0 := rd.cell 0; have rdf0 := rd.free 0; have rdc1 := rd.cell 1; have rdf1 := rd.free 1; have rdl := rd.lt; simp at rdc0 rdc1) | (go_at_call 62; (with_reducible refine (f_Conflict h s _ (hh.later (by (exact kpt)))).mono ?_); rintro e w3 ⟨rfl, hb3⟩; refine Blk.thru (b := w.heap.size) (arr := ?_) (t := ?_) ?_ hb3 ?_; rotate_left 2; (focus (exact blk)); intro re; have rec0 := re.cell 0; have ref0 := re.free 0; have rec1 := re.cell 1; have ref1 := re.free 1; have rec2 := re.cell 2; have ref2 := re.free 2; have rel := re.lt; simp at rec0 rec1 rec2; refine Blk.thru (b := w.heap.size + 1) (arr := ?_) (t := ?_) ?_ hb3 ?_; rotate_left 2; (focus (exact blk)); intro rg; have rgc0 := rg.cell 0; have rgf0 := rg.free 0; have rgc1 := rg.cell 1; have rgf1 := rg.free 1; have rgl := rg.lt; simp at rgc0 rgc1))
  refine at_world (S := fun V => Blk V w.heap.size #[.slice s.aw h.warm.length s.cw, .slice s.ag h.gauges.length s.cg, .slice s.af h.flows.length s.cf] 85 ∧ Blk V (w.heap.size + 1) #[.int .i64 x, .int .i64 y] 23 ∧ Blk V (w3.heap.size + 1) #[.int .i64 0, .int .i64 0] 23 ∧ Kept w V ∧ w3.heap.size + 1 + 1 ≤ V.heap.size) ⟨by (exact blkc), by (exact blkc), by (exact blkc), by (exact kpt), by simp⟩ ?_
  clear re rg rec0 ref0 rec1 ref1 rec2 ref2 rel rgc0 rgf0 rgc1 rgf1 rgl
  rintro V ⟨q0, q1, qt, hkV, hVs⟩
  go_loopw [9, 33] (fun l i wr => ∃ k : Nat, k ≤ h.warm.length ∧ i = .int .i64 k ∧ wr.ownsRow (w3.heap.size + 1 + 1) 23 2 l (partL h k).length ((partL h k).flatMap Sp.cells) ∧ Blk wr w.heap.size #[.slice s.aw h.warm.length s.cw, .slice s.ag h.gauges.length s.cg, .slice s.af h.flows.length s.cf] 85 ∧ Blk wr (w.heap.size + 1) #[.int .i64 x, .int .i64 y] 23 ∧ Blk wr (w3.heap.size + 1) #[.int .i64 (allLo h k), .int .i64 (allHi h k)] 23 ∧ Kept w wr ∧ w3.heap.size + 1 + 1 ≤ wr.heap.size) (fun _ i _ => h.warm.length - (intOf i).toNat)
  case atStart => exact ⟨0, Nat.zero_le _, rfl, owns_nil (α := Sp) (enc := Sp.cells), q0, q1, qt, hkV, hVs⟩
  case round =>
    clear q0 q1 qt hkV hVs
    obtain ⟨k, hk, rfl, hown, q0, q1, qt, hkr, hrs⟩ := hrel
    have hw3 := hb3.size
    by_cases hlt : k < h.warm.length
    · obtain ⟨AL, hAL⟩ : ∃ n, n = allLo h k := ⟨_, rfl⟩
      obtain ⟨AH, hAH⟩ : ∃ n, n = allHi h k := ⟨_, rfl⟩
      obtain ⟨LL, hLL⟩ : ∃ n, n = lostLo h k := ⟨_, rfl⟩
      obtain ⟨LH, hLH⟩ : ∃ n, n = lostHi h k := ⟨_, rfl⟩
      have ab := HAB.out k hk
      have lb := HLB.out k hlt
      rw [← hAL, ← hAH] at ab qt
      rw [← hLL, ← hLH] at lb
      have EL := Lib.hid hLL.symm
      have EH := Lib.hid hLH.symm
      have EAL := Lib.hid (show allLo h (k + 1) = AL + LL by rw [allLo_succ, hAL, hLL])
      have EAH := Lib.hid (show allHi h (k + 1) = AH + LH by rw [allHi_succ, hAH, hLH])
      clear hAL hAH hLL hLH
      have w1_ := i64_inH (n := AL + LL) (by omega)
      have w2_ := i64_inH (n := AH + LH) (by omega)
      have q0c0 := q0.cell 0
      have q0f0 := q0.free 0
      have q0c1 := q0.cell 1
      have q0f1 := q0.free 1
      have q0c2 := q0.cell 2
      have q0f2 := q0.free 2
      have q0l := q0.lt
      simp at q0c0 q0c1 q0c2
      have q1c0 := q1.cell 0
      have q1f0 := q1.free 0
      have q1c1 := q1.cell 1
      have q1f1 := q1.free 1
      have q1l := q1.lt
      simp at q1c0 q1c1
      have qtc0 := qt.cell 0
      have qtf0 := qt.free 0
      have qtc1 := qt.cell 1
      have qtf1 := qt.free 1
      have qtl := qt.lt
      simp at qtc0 qtc1
      have hzs : w3.heap.size + 1 < wr.heap.size := by omega
      have hpl := Lib.hid (partL_len h k)
      go_wp2_with (first | (go_at_call 128; (with_reducible refine (f_lost h s _ (hh.later (by (exact kpt))) HO.out k hlt).mono ?_); rw [EL.out, EH.out]; rintro e w4 ⟨rfl, hb4⟩; have hown4 := owns_keep hown (by with_reducible assumption); refine Blk.thru (b := w.heap.size) (arr := ?_) (t := ?_) ?_ hb4 ?_; rotate_left 2; (focus (exact blk)); intro ra; have rac0 := ra.cell 0; have raf0 := ra.free 0; have rac1 := ra.cell 1; have raf1 := ra.free 1; have rac2 := ra.cell 2; have raf2 := ra.free 2; have ral := ra.lt; simp at rac0 rac1 rac2; refine Blk.thru (b := w.heap.size + 1) (arr := ?_) (t := ?_) ?_ hb4 ?_; rotate_left 2; (focus (exact blk)); intro rb; have rbc0 := rb.cell 0; have rbf0 := rb.free 0; have rbc1 := rb.cell 1; have rbf1 := rb.free 1; have rbl := rb.lt; simp at rbc0 rbc1; refine Blk.thru (b := w3.heap.size + 1) (arr := ?_) (t := ?_) ?_ hb4 ?_; rotate_left 2; (focus (exact blk)); intro rt; have rtc0 := rt.cell 0; have rtf0 := rt.free 0; have rtc1 := rt.cell 1; have rtf1 := rt.free 1; have rtl := rt.lt; simp at rtc0 rtc1) | (at_builtin; obtain ⟨i0, hi, hz0, hz1, hz2⟩ := info_parts infoSp; refine wpList_append_own _ rfl _ _ 81 rfl (w3.heap.size + 1 + 1) 23 i0 (.agg #[.int .i64 0, .int .i64 0]) 2 16 Try.underlying81 hi hz0 hz1 hz2 rfl (by decide) _ _ _ rfl ((hown4.alloc _).alloc _) ⟨_, 0, none⟩ 1 1 [.int .i64 LL, .int .i64 LH] rfl rfl (cell_two_at (by simp) _ _ _) (fun x hx => by simp at hx; rcases hx with rfl | rfl <;> rfl) (by unfold maxLen; rw [partL_len]; omega) (by rw [partL_len]; omega) (by have := hb4.size; simp; omega) ?_; intro v9 w9 hown9 hgrow9 hnil9; clear hi hz0 hz1 hz2; have n0 := Blk.grownN (b := w.heap.size) (arr := #[.slice s.aw h.warm.length s.cw, .slice s.ag h.gauges.length s.cg, .slice s.af h.flows.length s.cf]) (t := 85) (by exact blkc) (owns_ge hown4 (by omega)) hgrow9; have n0c0 := n0.cell 0; have n0f0 := n0.free 0; have n0c1 := n0.cell 1; have n0f1 := n0.free 1; have n0c2 := n0.cell 2; have n0f2 := n0.free 2; have n0l := Blk.lt n0; simp at n0c0 n0c1 n0c2; have n1 := Blk.grownN (b := w.heap.size + 1) (arr := #[.int .i64 x, .int .i64 y]) (t := 23) (by exact blkc) (owns_ge hown4 (by omega)) hgrow9; have n1c0 := n1.cell 0; have n1f0 := n1.free 0; have n1c1 := n1.cell 1; have n1f1 := n1.free 1; have n1l := Blk.lt n1; simp at n1c0 n1c1; have nt := Blk.grownN (b := w3.heap.size + 1) (arr := #[.int .i64 AL, .int .i64 AH]) (t := 23) (by exact blkc) (owns_ge hown4 (by omega)) hgrow9; have ntc0 := nt.cell 0; have ntf0 := nt.free 0; have ntc1 := nt.cell 1; have ntf1 := nt.free 1; have ntl := Blk.lt nt; simp at ntc0 ntc1; have nx := Blk.grownN (b := w4.heap.size) (arr := #[.int .i64 LL, .int .i64 LH]) (t := 23) (by exact blkc) (owns_newer hown4 (Nat.le_refl _)) hgrow9; have nxc0 := nx.cell 0; have nxf0 := nx.free 0; have nxc1 := nx.cell 1; have nxf1 := nx.free 1; have nxl := Blk.lt nx; simp at nxc0 nxc1))
      have hown10 : w9.ownsRow (w3.heap.size + 1 + 1) 23 2 v9 (partL h (k + 1)).length ((partL h (k + 1)).flatMap Sp.cells) := by
        rw [partL_succ, List.length_append, List.flatMap_append, EL.out, EH.out]; exact hown9
      have hk9 : Kept w w9 := Kept.grownB (by exact kpt) (owns_keep hown4 (by exact kpt)) (by omega) hgrow9
      go_roundw
      case rel => exact ⟨k + 1, by omega, by go_num, owns_setB (owns_setB hown10 (owns_ge hown10 (by omega))) (owns_ge hown10 (by omega)), Blk.other (Blk.other n0 (by simp; omega) _) (by simp; omega) _, Blk.other (Blk.other n1 (by simp; omega) _) (by simp; omega) _, by rw [EAL.out, EAH.out]; exact Blk.cast ((nt.set 0 _).set 1 _) (by simp), by exact kpt, by have := hgrow9.size; have := hb4.size; simp at *; omega⟩
      case measure => simp [intOf]; omega
    · obtain rfl : k = h.warm.length := by omega
      have hown1 := hown
      rw [← mixL_zero h x y, mixL_len] at hown1
      obtain ⟨g, cap, cur, rfl, hgb, hcur, hgc, hgm⟩ := owns_block hown1 (by omega)
      have hown2 : wr.ownsRow (w3.heap.size + 1 + 1) 23 2 (.slice (some ⟨g, 0, none⟩) h.warm.length cap) (mixL h x y 0).length ((mixL h x y 0).flatMap Sp.cells) := by rw [mixL_len]; exact hown1
      clear hown hown1 hcur
      unfold maxLen at hgm
      have ab := HAB.out _ hk
      have HOB := Lib.hid (show outB h x y = (decide (y < allLo h h.warm.length) || decide (allHi h h.warm.length < x)) from rfl)
      have HLKL := Lib.hid (fun c => show leakLo h x c = max (lostLo h c) (x - allHi h h.warm.length + lostHi h c) from rfl)
      have HLKH := Lib.hid (fun c => show leakHi h y c = min (lostHi h c) (y - allLo h h.warm.length + lostLo h c) from rfl)
      obtain ⟨AL, hAL⟩ : ∃ n, n = allLo h h.warm.length := ⟨_, rfl⟩
      obtain ⟨AH, hAH⟩ : ∃ n, n = allHi h h.warm.length := ⟨_, rfl⟩
      rw [← hAL, ← hAH] at ab qt HOB
      rw [← hAH] at HLKL
      rw [← hAL] at HLKH
      clear hAL hAH
      have q0c0 := q0.cell 0
      have q0f0 := q0.free 0
      have q0c1 := q0.cell 1
      have q0f1 := q0.free 1
      have q0c2 := q0.cell 2
      have q0f2 := q0.free 2
      have q0l := q0.lt
      simp at q0c0 q0c1 q0c2
      have q1c0 := q1.cell 0
      have q1f0 := q1.free 0
      have q1c1 := q1.cell 1
      have q1f1 := q1.free 1
      have q1l := q1.lt
      simp at q1c0 q1c1
      have qtc0 := qt.cell 0
      have qtf0 := qt.free 0
      have qtc1 := qt.cell 1
      have qtf1 := qt.free 1
      have qtl := qt.lt
      simp at qtc0 qtc1
      have out : ∀ (b1 b2 : Bool), decide (y < AL) = b1 → decide (AH < x) = b2 → leaksE h x y = if b1 || b2 then 6 else 0 := fun b1 b2 e1 e2 => by rw [HLE.out, HOB.out, e1, e2]
      have HOUT := Lib.hid out
      clear out
      cases d1 : decide (y < AL)
      · cases d2 : decide (AH < x)
        · have HE0 := Lib.hid (show leaksE h x y = 0 from HOUT.out _ _ d1 d2)
          have HIN := Lib.hid (show leaksL h x y = mixL h x y h.warm.length from leaks_in HE0.out)
          go_wp2
          clear q0c0 q0f0 q0c1 q0f1 q0c2 q0f2 q0l q1c0 q1f0 q1c1 q1f1 q1l qtc0 qtf0 qtc1 qtf1 qtl d1 d2
          go_loopw [70] (fun i wq => ∃ k : Nat, k ≤ h.warm.length ∧ i = .int .i64 k ∧ wq.ownsRow (w3.heap.size + 1 + 1) 23 2 (.slice (some ⟨g, 0, none⟩) h.warm.length cap) (mixL h x y k).length ((mixL h x y k).flatMap Sp.cells) ∧ Blk wq w.heap.size #[.slice s.aw h.warm.length s.cw, .slice s.ag h.gauges.length s.cg, .slice s.af h.flows.length s.cf] 85 ∧ Blk wq (w.heap.size + 1) #[.int .i64 x, .int .i64 y] 23 ∧ Blk wq (w3.heap.size + 1) #[.int .i64 AL, .int .i64 AH] 23 ∧ Kept w wq) (fun i _ => h.warm.length - (intOf i).toNat)
          case atStart => exact ⟨0, Nat.zero_le _, rfl, hown2, q0, q1, qt, hkr⟩
          case round =>
            clear hown2 q0 q1 qt hkr
            obtain ⟨k, hk, rfl, hown, q0, q1, qt, hkr⟩ := hrel
            by_cases hlt : k < h.warm.length
            · obtain ⟨ad, cp, hve, hrow, _, _⟩ := owns_row (enc := Sp.cells) (k := 2) (fun _ => rfl) hown
              simp only [Value.slice.injEq] at hve
              obtain ⟨rfl, _, rfl⟩ := hve
              obtain ⟨bg, og, hbo, hbl, c0, c1⟩ := Sp.row hrow k (by rw [mixL_len]; exact hlt)
              simp only [Option.some.injEq, Addr.mk.injEq, and_true] at hbo
              obtain ⟨rfl, rfl⟩ := hbo
              have hml := mixL_at h x y hlt
              rw [show (mixL h x y k)[k]'(by rw [mixL_len]; exact hlt) = ⟨lostLo h k, lostHi h k⟩ from by rw [List.getElem?_eq_getElem (by rw [mixL_len]; exact hlt)] at hml; exact Option.some.inj hml] at c0 c1
              obtain ⟨LL, hLL⟩ : ∃ n, n = lostLo h k := ⟨_, rfl⟩
              obtain ⟨LH, hLH⟩ : ∃ n, n = lostHi h k := ⟨_, rfl⟩
              have lb := HLB.out k hlt
              have K1 := HLKL.out k
              have K2 := HLKH.out k
              rw [← hLL, ← hLH] at lb c0 c1 hml K1 K2
              have HK1 := Lib.hid K1
              have HK2 := Lib.hid K2
              have HML := Lib.hid hml
              have HROW := Lib.hid hown
              clear hLL hLH K1 K2 hml hrow hown
              have w1_ := i64_inH (n := x - AH) (by omega)
              have w2_ := i64_inH (n := x - AH + LH) (by omega)
              have w3_ := i64_inH (n := y - AL) (by omega)
              have w4_ := i64_inH (n := y - AL + LL) (by omega)
              simp only [Nat.zero_add] at c0 c1
              have fg0 := Blk.free (owns_cur HROW.out).2 (k * 2)
              have fg1 := Blk.free (owns_cur HROW.out).2 (k * 2 + 1)
              have q0c0 := q0.cell 0
              have q0f0 := q0.free 0
              have q0c1 := q0.cell 1
              have q0f1 := q0.free 1
              have q0c2 := q0.cell 2
              have q0f2 := q0.free 2
              have q0l := q0.lt
              simp at q0c0 q0c1 q0c2
              have q1c0 := q1.cell 0
              have q1f0 := q1.free 0
              have q1c1 := q1.cell 1
              have q1f1 := q1.free 1
              have q1l := q1.lt
              simp at q1c0 q1c1
              have qtc0 := qt.cell 0
              have qtf0 := qt.free 0
              have qtc1 := qt.cell 1
              have qtf1 := qt.free 1
              have qtl := qt.lt
              simp at qtc0 qtc1
              have ng0 : g ≠ w.heap.size + 1 := by omega
              have ng1 : w.heap.size + 1 ≠ g := by omega
              have ng2 : g ≠ w3.heap.size + 1 := by omega
              have ng3 : w3.heap.size + 1 ≠ g := by omega
              have ng4 : g ≠ wr.heap.size := by omega
              have ng5 : wr.heap.size ≠ g := by omega
              go_wp2
              have hown6 := owns_put (enc := Sp.cells) (fun _ => rfl) (i := k) (j := 0) (u := .int .i64 (max LL (x - AH + LH))) ⟨max LL (x - AH + LH), LH⟩ HROW.out HML.out (by omega) rfl
              have hown7 := owns_put (enc := Sp.cells) (fun _ => rfl) (i := k) (j := 1) (c := ⟨max LL (x - AH + LH), LH⟩) (u := .int .i64 (min LH (y - AL + LL))) ⟨max LL (x - AH + LH), min LH (y - AL + LL)⟩ hown6 (by rw [List.getElem?_set_self (by rw [mixL_len]; exact hlt)]) (by omega) rfl
              rw [List.set_set, ← HK1.out, ← HK2.out, ← mixL_succ h x y hlt] at hown7
              rw [HK1.out, HK2.out] at hown7
              go_roundw
              case rel => exact ⟨k + 1, by omega, by go_num, owns_keep (by simpa using hown7) (by exact kpt), (Blk.other (Blk.other q0 (by simp; omega) _) (by simp; omega) _).alloc _, (Blk.other (Blk.other q1 (by simp; omega) _) (by simp; omega) _).alloc _, (Blk.other (Blk.other qt (by simp; omega) _) (by simp; omega) _).alloc _, by exact kpt⟩
              case measure => simp [intOf]; omega
            · obtain rfl : k = h.warm.length := by omega
              go_wp2
              exact bodyPost_ret (v := .tuple #[.slice (some ⟨g, 0, none⟩) h.warm.length cap, .int .i64 0]) (by simp [results, Try.results58, go_sem]) rfl ⟨.slice (some ⟨g, 0, none⟩) h.warm.length cap, by rw [HE0.out], by rw [HIN.out]; exact owns_base hown (by omega), by (exact kpt)⟩
        · have HE6 := Lib.hid (show leaksE h x y = 6 from HOUT.out _ _ d1 d2)
          go_wp2
          exact bodyPost_ret (v := .tuple #[.slice none 0 0, .int .i64 6]) (by simp [results, Try.results58, go_sem]) rfl ⟨.slice none 0 0, by rw [HE6.out], by rw [leaks_out (by rw [HE6.out]; decide)]; exact owns_nil (α := Sp) (enc := Sp.cells), by (exact kpt)⟩
      · have HE6 := Lib.hid (show leaksE h x y = 6 by rw [HLE.out, HOB.out, d1]; rfl)
        go_wp2
        exact bodyPost_ret (v := .tuple #[.slice none 0 0, .int .i64 6]) (by simp [results, Try.results58, go_sem]) rfl ⟨.slice none 0 0, by rw [HE6.out], by rw [leaks_out (by rw [HE6.out]; decide)]; exact owns_nil (α := Sp) (enc := Sp.cells), by (exact kpt)⟩
theorem f_Leaks (h : Hist) (s : Spot) (x y : Int) (w : World) (hh : HistAt h s w) :
    Calls Try.prog 58 #[.agg #[.slice s.aw h.warm.length s.cw, .slice s.ag h.gauges.length s.cg, .slice s.af h.flows.length s.cf], .agg #[.int .i64 x, .int .i64 y]] w fun e w' => ∃ v, e = .returned (.tuple #[v, .int .i64 (leaksE h x y)]) ∧ w'.ownsRow w.heap.size 23 2 (v) (leaksL h x y).length ((leaksL h x y).flatMap Sp.cells) ∧ Kept w w' := by
  cases hb : histB h
  · obtain ⟨h1, h2⟩ := leaks_bad (x := x) (y := y) hb
    rw [h1, h2]
    exact f_Leaks_bad h s x y w hh hb
  · cases hs : spanIn x y 0 1000000000000
    · obtain ⟨h1, h2⟩ := leaks_arg hb hs
      rw [h1, h2]
      exact f_Leaks_arg h s x y w hh hb hs
    · by_cases hc : confE h = 0
      · obtain ⟨h1, h2⟩ := leaks_conf hb hs hc
        rw [h1, h2]
        exact f_Leaks_conf h s x y w hh hb hs hc
      · exact f_Leaks_main h s x y w hh hb hs hc

end Go.Proofs.Ytemafanncejeiaa
