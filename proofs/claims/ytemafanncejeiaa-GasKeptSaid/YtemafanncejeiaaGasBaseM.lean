/-
  The contracts of chapter 3 that the outright statements lean on:
  o_alive f_VolumeC f_LiftC f_CeilingC f_ValvingC f_FitsC f_Volume_ok f_Lift_ok f_Ceiling_ok f_Valving_ok f_Fits_ok o_inside o_over f_OverC f_HoldsC f_BlowC f_RoofC f_CheckHull f_CheckAir f_CheckCell f_CheckHistory f_Check
  f_Do f_Play f_Leaks f_Named f_Conflict f_Amounts r_Great r_GreatH r_SamePlant r_SameSpans r_SameInts open_plant open_history open_agg open_typed wf_u16 wf_u8o wf_i64 wf_u8
  mayEnter_is liftsFinal_is make_is Row Own owns_put owns_row owns_block owns_cur owns_base wpAny_rel wpAny_dp0 tailIn regionIn held_vol held_lift held_ceil span_bd copyO copy wpList_copy wpList_copyO owns_made
  o_one o_cell o_still o_plant o_hull o_history int_of_leaves Deed Cell Air Hl Sp Flow of_leaves row Mine plantCells later_mix tail region at_world at_worldR blk blkc blk0 kpt kpt0 blkx kptx own thru wpSteps_want later_dies held_walk
  conf_none conf_some told_bd al_bd tt_mono come_bd come_split clash_told leaks_in leaks_out leaks_free leaks_cases lost_bd all_bd histB_ok amtE namedL plantB_iff cellB_iff airB_iff prod_bd mul_bd div_bd spanIn_iff ceil_bd pull_bd
-/
import Derived.Test.YtemafanncejeiaaProg
import Derived.JoinedOf
import Derived.WalkKit
import Derived.WalkSpells
import Derived.WalkLawsBesides
import Derived.Lib.Hide
import Derived.ProofKit
import Derived.OpenShut
import Derived.ChangeOld
import Derived.Below
import Derived.Deep.Slices
import Derived.Deep.Fields
import Derived.Deep.Quiet
import Derived.Laws.AppendOwn
import Derived.Laws.AppendOwnNone
import Derived.StillTail
import Derived.Deep.QuietTactic
import Derived.BigQuiet
import Derived.Deep.RegionHeld3
import Derived.Deep.DeepCutAuto
import Derived.RangeFuncNested
import Derived.RangeFuncCalls
import Derived.OrdersIn
import Derived.RangeFuncBound
import Derived.RangeFuncLeaves
import Derived.Shelf.Abstract
import Derived.Shelf.RegionOpen
import Derived.OwnWalkIn
import Derived.TacticsInMore
import Derived.LoopNIn
import Derived.LoopIn
import Derived.WalkSmall
import Derived.OwnWalk
import Derived.Deep.RegionWith
import Derived.Deep.DrawnRows
import Derived.OrdersHeld
import Derived.Recover
import Derived.Laws.EntriesVeiled
import Derived.WideShapes
import Derived.Test.YtemafanncejeiaaGasBaseMA
import Derived.Test.YtemafanncejeiaaGasBaseMB
import Derived.Test.YtemafanncejeiaaGasBaseMC
import Derived.Test.YtemafanncejeiaaGasBaseMD
set_option linter.unusedVariables false
set_option linter.unusedSimpArgs false
/-
  The program: acts played one behind the other.
-/
namespace Go.Proofs.Ytemafanncejeiaa
open Go.RowKit Bal Bal.Trim Bal.Gas
set_option linter.unusedVariables false
set_option linter.unusedSimpArgs false
set_option maxHeartbeats 8000000
set_option maxRecDepth 100000

theorem blkd {w : World} {b : Nat} {arr : Array Value} {t : TypeId} (h : Blk w b arr t := by (refine Blk.cast (arr := ?_) ?_ ?_; rotate_left 1; (focus (exact blk)); (first | with_reducible rfl | (simp; done) | rfl))) : Blk w b arr t := h
theorem f_Play_bad (p : Plant) (ds : List Deed) (a : Option Addr) (cap : Nat) (b : Option Addr) (cb : Nat) (w : World) (hx : Row Cell.cells 7 w.heap.size w a p.cells) (hc : p.cells.length ≤ cap) (hM : cap ≤ maxLen) (hz : a = none → cap = 0) (hd : Row Deed.cells 4 w.heap.size w b ds) (hdc : ds.length ≤ cb) (hdM : cb ≤ maxLen) (hp : plantB p = false) : Calls Try.prog 53 #[.agg #[.slice a p.cells.length cap, .int .i64 p.bottles, .int .i64 p.inH, .int .i64 p.inA, .int .i64 p.vH, .int .i64 p.vA, .int .i64 p.lH, .int .i64 p.lA, .int .i64 p.pH, .int .i64 p.pA], .slice b ds.length cb] w fun e w' => ∃ v, e = .returned (.tuple #[.agg #[v, .int .i64 noPlant.bottles, .int .i64 noPlant.inH, .int .i64 noPlant.inA, .int .i64 noPlant.vH, .int .i64 noPlant.vA, .int .i64 noPlant.lH, .int .i64 noPlant.lA, .int .i64 noPlant.pH, .int .i64 noPlant.pA], .int .i64 0, .int .i64 32]) ∧ Mine 25 w.heap.size w' v noPlant.cells ∧ Kept w w' := by
  have HP := Lib.hid (show plantE p = 32 by simp [plantE, hp])
  clear hp
  go_enter Try.func53, Try.ntmps53
  go_upto_region 2 with (go_at_call 50; (with_reducible refine (f_Check p a cap _ (hx.later (by (exact kpt)) (Nat.le_refl _)) hc hM).mono ?_); rw [HP.out]; rintro e w1 ⟨rfl, hb1⟩; refine Blk.thru (b := w.heap.size) (arr := ?_) (t := ?_) ?_ hb1 ?_; rotate_left 2; (focus (exact blk)); intro rr; have rrc0 := rr.cell 0; have rrf0 := rr.free 0; have rrc1 := rr.cell 1; have rrf1 := rr.free 1; have rrc2 := rr.cell 2; have rrf2 := rr.free 2; have rrc3 := rr.cell 3; have rrf3 := rr.free 3; have rrc4 := rr.cell 4; have rrf4 := rr.free 4; have rrc5 := rr.cell 5; have rrf5 := rr.free 5; have rrc6 := rr.cell 6; have rrf6 := rr.free 6; have rrc7 := rr.cell 7; have rrf7 := rr.free 7; have rrc8 := rr.cell 8; have rrf8 := rr.free 8; have rrc9 := rr.cell 9; have rrf9 := rr.free 9; have rrl := rr.lt; simp at rrc0 rrc1 rrc2 rrc3 rrc4 rrc5 rrc6 rrc7 rrc8 rrc9; refine Blk.thru (b := (w.heap.size + 1)) (arr := ?_) (t := ?_) ?_ hb1 ?_; rotate_left 2; (focus (exact blk)); intro rq; have rqc0 := rq.cell 0; have rqf0 := rq.free 0; have rqc1 := rq.cell 1; have rqf1 := rq.free 1; have rqc2 := rq.cell 2; have rqf2 := rq.free 2; have rqc3 := rq.cell 3; have rqf3 := rq.free 3; have rqc4 := rq.cell 4; have rqf4 := rq.free 4; have rqc5 := rq.cell 5; have rqf5 := rq.free 5; have rqc6 := rq.cell 6; have rqf6 := rq.free 6; have rqc7 := rq.cell 7; have rqf7 := rq.free 7; have rqc8 := rq.cell 8; have rqf8 := rq.free 8; have rqc9 := rq.cell 9; have rqf9 := rq.free 9; have rql := rq.lt; simp at rqc0 rqc1 rqc2 rqc3 rqc4 rqc5 rqc6 rqc7 rqc8 rqc9)
  clear rrc0 rrf0 rrc1 rrf1 rrc2 rrf2 rrc3 rrf3 rrc4 rrf4 rrc5 rrf5 rrc6 rrf6 rrc7 rrf7 rrc8 rrf8 rrc9 rrf9 rrl rqc0 rqf0 rqc1 rqf1 rqc2 rqf2 rqc3 rqf3 rqc4 rqf4 rqc5 rqf5 rqc6 rqf6 rqc7 rqf7 rqc8 rqf8 rqc9 rqf9 rql
  refine at_world (S := fun W => Blk W w.heap.size #[.slice a p.cells.length cap, .int .i64 p.bottles, .int .i64 p.inH, .int .i64 p.inA, .int .i64 p.vH, .int .i64 p.vA, .int .i64 p.lH, .int .i64 p.lA, .int .i64 p.pH, .int .i64 p.pA] 63 ∧ Blk W (w.heap.size + 1) #[.slice none 0 0, .int .i64 0, .int .i64 0, .int .i64 0, .int .i64 0, .int .i64 0, .int .i64 0, .int .i64 0, .int .i64 0, .int .i64 0] 63 ∧ Kept w W) ⟨by (exact blkc), by (exact blkc), by (exact kpt)⟩ ?_
  rintro W ⟨b0, b4, hk⟩
  have b4c0 := b4.cell 0
  have b4f0 := b4.free 0
  have b4c1 := b4.cell 1
  have b4f1 := b4.free 1
  have b4c2 := b4.cell 2
  have b4f2 := b4.free 2
  have b4c3 := b4.cell 3
  have b4f3 := b4.free 3
  have b4c4 := b4.cell 4
  have b4f4 := b4.free 4
  have b4c5 := b4.cell 5
  have b4f5 := b4.free 5
  have b4c6 := b4.cell 6
  have b4f6 := b4.free 6
  have b4c7 := b4.cell 7
  have b4f7 := b4.free 7
  have b4c8 := b4.cell 8
  have b4f8 := b4.free 8
  have b4c9 := b4.cell 9
  have b4f9 := b4.free 9
  have b4l := b4.lt
  simp at b4c0 b4c1 b4c2 b4c3 b4c4 b4c5 b4c6 b4c7 b4c8 b4c9
  go_wp2
  refine bodyPost_ret (v := .tuple #[.agg #[.slice none 0 0, .int .i64 0, .int .i64 0, .int .i64 0, .int .i64 0, .int .i64 0, .int .i64 0, .int .i64 0, .int .i64 0, .int .i64 0], .int .i64 0, .int .i64 32]) (by simp [results, Try.results53, go_sem, b4c0, b4f0, b4c1, b4f1, b4c2, b4f2, b4c3, b4f3, b4c4, b4f4, b4c5, b4f5, b4c6, b4f6, b4c7, b4f7, b4c8, b4f8, b4c9, b4f9]) rfl ⟨.slice none 0 0, rfl, Mine.zero, by (exact kpt)⟩
theorem f_Play_many (p : Plant) (ds : List Deed) (a : Option Addr) (cap : Nat) (b : Option Addr) (cb : Nat) (w : World) (hx : Row Cell.cells 7 w.heap.size w a p.cells) (hc : p.cells.length ≤ cap) (hM : cap ≤ maxLen) (hz : a = none → cap = 0) (hd : Row Deed.cells 4 w.heap.size w b ds) (hdc : ds.length ≤ cb) (hdM : cb ≤ maxLen) (hp : plantB p = true) (hl : 200 < ds.length) : Calls Try.prog 53 #[.agg #[.slice a p.cells.length cap, .int .i64 p.bottles, .int .i64 p.inH, .int .i64 p.inA, .int .i64 p.vH, .int .i64 p.vA, .int .i64 p.lH, .int .i64 p.lA, .int .i64 p.pH, .int .i64 p.pA], .slice b ds.length cb] w fun e w' => ∃ v, e = .returned (.tuple #[.agg #[v, .int .i64 noPlant.bottles, .int .i64 noPlant.inH, .int .i64 noPlant.inA, .int .i64 noPlant.vH, .int .i64 noPlant.vA, .int .i64 noPlant.lH, .int .i64 noPlant.lA, .int .i64 noPlant.pH, .int .i64 noPlant.pA], .int .i64 0, .int .i64 4]) ∧ Mine 25 w.heap.size w' v noPlant.cells ∧ Kept w w' := by
  have HP := Lib.hid (show plantE p = 0 by simp [plantE, hp])
  have hl2 : decide ((200 : Int) < (ds.length : Int)) = true := by simp; omega
  clear hp
  go_enter Try.func53, Try.ntmps53
  go_upto_region 2 with (go_at_call 50; (with_reducible refine (f_Check p a cap _ (hx.later (by (exact kpt)) (Nat.le_refl _)) hc hM).mono ?_); rw [HP.out]; rintro e w1 ⟨rfl, hb1⟩; refine Blk.thru (b := w.heap.size) (arr := ?_) (t := ?_) ?_ hb1 ?_; rotate_left 2; (focus (exact blk)); intro rr; have rrc0 := rr.cell 0; have rrf0 := rr.free 0; have rrc1 := rr.cell 1; have rrf1 := rr.free 1; have rrc2 := rr.cell 2; have rrf2 := rr.free 2; have rrc3 := rr.cell 3; have rrf3 := rr.free 3; have rrc4 := rr.cell 4; have rrf4 := rr.free 4; have rrc5 := rr.cell 5; have rrf5 := rr.free 5; have rrc6 := rr.cell 6; have rrf6 := rr.free 6; have rrc7 := rr.cell 7; have rrf7 := rr.free 7; have rrc8 := rr.cell 8; have rrf8 := rr.free 8; have rrc9 := rr.cell 9; have rrf9 := rr.free 9; have rrl := rr.lt; simp at rrc0 rrc1 rrc2 rrc3 rrc4 rrc5 rrc6 rrc7 rrc8 rrc9; refine Blk.thru (b := (w.heap.size + 1)) (arr := ?_) (t := ?_) ?_ hb1 ?_; rotate_left 2; (focus (exact blk)); intro rq; have rqc0 := rq.cell 0; have rqf0 := rq.free 0; have rqc1 := rq.cell 1; have rqf1 := rq.free 1; have rqc2 := rq.cell 2; have rqf2 := rq.free 2; have rqc3 := rq.cell 3; have rqf3 := rq.free 3; have rqc4 := rq.cell 4; have rqf4 := rq.free 4; have rqc5 := rq.cell 5; have rqf5 := rq.free 5; have rqc6 := rq.cell 6; have rqf6 := rq.free 6; have rqc7 := rq.cell 7; have rqf7 := rq.free 7; have rqc8 := rq.cell 8; have rqf8 := rq.free 8; have rqc9 := rq.cell 9; have rqf9 := rq.free 9; have rql := rq.lt; simp at rqc0 rqc1 rqc2 rqc3 rqc4 rqc5 rqc6 rqc7 rqc8 rqc9)
  clear rrc0 rrf0 rrc1 rrf1 rrc2 rrf2 rrc3 rrf3 rrc4 rrf4 rrc5 rrf5 rrc6 rrf6 rrc7 rrf7 rrc8 rrf8 rrc9 rrf9 rrl rqc0 rqf0 rqc1 rqf1 rqc2 rqf2 rqc3 rqf3 rqc4 rqf4 rqc5 rqf5 rqc6 rqf6 rqc7 rqf7 rqc8 rqf8 rqc9 rqf9 rql
  refine at_world (S := fun W => Blk W w.heap.size #[.slice a p.cells.length cap, .int .i64 p.bottles, .int .i64 p.inH, .int .i64 p.inA, .int .i64 p.vH, .int .i64 p.vA, .int .i64 p.lH, .int .i64 p.lA, .int .i64 p.pH, .int .i64 p.pA] 63 ∧ Blk W (w.heap.size + 1) #[.slice none 0 0, .int .i64 0, .int .i64 0, .int .i64 0, .int .i64 0, .int .i64 0, .int .i64 0, .int .i64 0, .int .i64 0, .int .i64 0] 63 ∧ Kept w W) ⟨by (exact blkc), by (exact blkc), by (exact kpt)⟩ ?_
  rintro W ⟨b0, b4, hk⟩
  have b4c0 := b4.cell 0
  have b4f0 := b4.free 0
  have b4c1 := b4.cell 1
  have b4f1 := b4.free 1
  have b4c2 := b4.cell 2
  have b4f2 := b4.free 2
  have b4c3 := b4.cell 3
  have b4f3 := b4.free 3
  have b4c4 := b4.cell 4
  have b4f4 := b4.free 4
  have b4c5 := b4.cell 5
  have b4f5 := b4.free 5
  have b4c6 := b4.cell 6
  have b4f6 := b4.free 6
  have b4c7 := b4.cell 7
  have b4f7 := b4.free 7
  have b4c8 := b4.cell 8
  have b4f8 := b4.free 8
  have b4c9 := b4.cell 9
  have b4f9 := b4.free 9
  have b4l := b4.lt
  simp at b4c0 b4c1 b4c2 b4c3 b4c4 b4c5 b4c6 b4c7 b4c8 b4c9
  go_wp2
  refine bodyPost_ret (v := .tuple #[.agg #[.slice none 0 0, .int .i64 0, .int .i64 0, .int .i64 0, .int .i64 0, .int .i64 0, .int .i64 0, .int .i64 0, .int .i64 0, .int .i64 0], .int .i64 0, .int .i64 4]) (by simp [results, Try.results53, go_sem, b4c0, b4f0, b4c1, b4f1, b4c2, b4f2, b4c3, b4f3, b4c4, b4f4, b4c5, b4f5, b4c6, b4f6, b4c7, b4f7, b4c8, b4f8, b4c9, b4f9]) rfl ⟨.slice none 0 0, rfl, Mine.zero, by (exact kpt)⟩

theorem f_Play_ok (p : Plant) (ds : List Deed) (a : Option Addr) (cap : Nat) (b : Option Addr) (cb : Nat) (w : World) (hx : Row Cell.cells 7 w.heap.size w a p.cells) (hc : p.cells.length ≤ cap) (hM : cap ≤ maxLen) (hz : a = none → cap = 0) (hd : Row Deed.cells 4 w.heap.size w b ds) (hdc : ds.length ≤ cb) (hdM : cb ≤ maxLen) (hku : ∀ d ∈ ds, 0 ≤ d.kind ∧ d.kind ≤ 255) (hp : plantB p = true) (hl : ds.length ≤ 200) (Q : Plant) (N E : Int) (hR : playGo p ds 0 = (Q, N, E)) : Calls Try.prog 53 #[.agg #[.slice a p.cells.length cap, .int .i64 p.bottles, .int .i64 p.inH, .int .i64 p.inA, .int .i64 p.vH, .int .i64 p.vA, .int .i64 p.lH, .int .i64 p.lA, .int .i64 p.pH, .int .i64 p.pA], .slice b ds.length cb] w fun e w' => ∃ v, e = .returned (.tuple #[.agg #[v, .int .i64 Q.bottles, .int .i64 Q.inH, .int .i64 Q.inA, .int .i64 Q.vH, .int .i64 Q.vA, .int .i64 Q.lH, .int .i64 Q.lA, .int .i64 Q.pH, .int .i64 Q.pA], .int .i64 N, .int .i64 E]) ∧ Mine 25 w.heap.size w' v Q.cells ∧ Kept w w' := by
  have HP := Lib.hid (show plantE p = 0 by simp [plantE, hp])
  have hn12 : p.cells.length ≤ 12 := (plantB_iff.1 hp).1
  have HR := Lib.hid hR
  have HU := Lib.hid hku
  clear hp hR hku
  go_enter Try.func53, Try.ntmps53
  go_upto_region 7 with (go_at_call 50; (with_reducible refine (f_Check p a cap _ (hx.later (by (exact kpt)) (Nat.le_refl _)) hc hM).mono ?_); rw [HP.out]; rintro e w1 ⟨rfl, hb1⟩; refine Blk.thru (b := w.heap.size) (arr := ?_) (t := ?_) ?_ hb1 ?_; rotate_left 2; (focus (exact blk)); intro rr; have rrc0 := rr.cell 0; have rrf0 := rr.free 0; have rrc1 := rr.cell 1; have rrf1 := rr.free 1; have rrc2 := rr.cell 2; have rrf2 := rr.free 2; have rrc3 := rr.cell 3; have rrf3 := rr.free 3; have rrc4 := rr.cell 4; have rrf4 := rr.free 4; have rrc5 := rr.cell 5; have rrf5 := rr.free 5; have rrc6 := rr.cell 6; have rrf6 := rr.free 6; have rrc7 := rr.cell 7; have rrf7 := rr.free 7; have rrc8 := rr.cell 8; have rrf8 := rr.free 8; have rrc9 := rr.cell 9; have rrf9 := rr.free 9; have rrl := rr.lt; simp at rrc0 rrc1 rrc2 rrc3 rrc4 rrc5 rrc6 rrc7 rrc8 rrc9; refine Blk.thru (b := (w.heap.size + 1)) (arr := ?_) (t := ?_) ?_ hb1 ?_; rotate_left 2; (focus (exact blk)); intro rq; have rqc0 := rq.cell 0; have rqf0 := rq.free 0; have rqc1 := rq.cell 1; have rqf1 := rq.free 1; have rqc2 := rq.cell 2; have rqf2 := rq.free 2; have rqc3 := rq.cell 3; have rqf3 := rq.free 3; have rqc4 := rq.cell 4; have rqf4 := rq.free 4; have rqc5 := rq.cell 5; have rqf5 := rq.free 5; have rqc6 := rq.cell 6; have rqf6 := rq.free 6; have rqc7 := rq.cell 7; have rqf7 := rq.free 7; have rqc8 := rq.cell 8; have rqf8 := rq.free 8; have rqc9 := rq.cell 9; have rqf9 := rq.free 9; have rql := rq.lt; simp at rqc0 rqc1 rqc2 rqc3 rqc4 rqc5 rqc6 rqc7 rqc8 rqc9)
  clear rrc0 rrf0 rrc1 rrf1 rrc2 rrf2 rrc3 rrf3 rrc4 rrf4 rrc5 rrf5 rrc6 rrf6 rrc7 rrf7 rrc8 rrf8 rrc9 rrf9 rrl rqc0 rqf0 rqc1 rqf1 rqc2 rqf2 rqc3 rqf3 rqc4 rqf4 rqc5 rqf5 rqc6 rqf6 rqc7 rqf7 rqc8 rqf8 rqc9 rqf9 rql
  refine at_world (S := fun W => Blk W w.heap.size #[.slice a p.cells.length cap, .int .i64 p.bottles, .int .i64 p.inH, .int .i64 p.inA, .int .i64 p.vH, .int .i64 p.vA, .int .i64 p.lH, .int .i64 p.lA, .int .i64 p.pH, .int .i64 p.pA] 63 ∧ Blk W (w.heap.size + 1) #[.slice a p.cells.length cap, .int .i64 p.bottles, .int .i64 p.inH, .int .i64 p.inA, .int .i64 p.vH, .int .i64 p.vA, .int .i64 p.lH, .int .i64 p.lA, .int .i64 p.pH, .int .i64 p.pA] 63 ∧ Kept w W) ⟨by (exact blkd), by (exact blkd), by (exact kpt)⟩ ?_
  rintro W ⟨b0, b4, hk⟩
  have b0c0 := b0.cell 0
  have b0f0 := b0.free 0
  have b0c1 := b0.cell 1
  have b0f1 := b0.free 1
  have b0c2 := b0.cell 2
  have b0f2 := b0.free 2
  have b0c3 := b0.cell 3
  have b0f3 := b0.free 3
  have b0c4 := b0.cell 4
  have b0f4 := b0.free 4
  have b0c5 := b0.cell 5
  have b0f5 := b0.free 5
  have b0c6 := b0.cell 6
  have b0f6 := b0.free 6
  have b0c7 := b0.cell 7
  have b0f7 := b0.free 7
  have b0c8 := b0.cell 8
  have b0f8 := b0.free 8
  have b0c9 := b0.cell 9
  have b0f9 := b0.free 9
  have b0l := b0.lt
  simp at b0c0 b0c1 b0c2 b0c3 b0c4 b0c5 b0c6 b0c7 b0c8 b0c9
  have b4c0 := b4.cell 0
  have b4f0 := b4.free 0
  have b4c1 := b4.cell 1
  have b4f1 := b4.free 1
  have b4c2 := b4.cell 2
  have b4f2 := b4.free 2
  have b4c3 := b4.cell 3
  have b4f3 := b4.free 3
  have b4c4 := b4.cell 4
  have b4f4 := b4.free 4
  have b4c5 := b4.cell 5
  have b4f5 := b4.free 5
  have b4c6 := b4.cell 6
  have b4f6 := b4.free 6
  have b4c7 := b4.cell 7
  have b4f7 := b4.free 7
  have b4c8 := b4.cell 8
  have b4f8 := b4.free 8
  have b4c9 := b4.cell 9
  have b4f9 := b4.free 9
  have b4l := b4.lt
  simp at b4c0 b4c1 b4c2 b4c3 b4c4 b4c5 b4c6 b4c7 b4c8 b4c9
  go_upto_region 8 with (go_at_call 114; (with_reducible refine (s_CloneC a cap p.cells _ (hx.later (by (exact kpt)) (Nat.le_refl _)) (by omega) hz).mono ?_); rintro e w2 ⟨v, rfl, hown, hb2⟩; obtain ⟨ad, cp, rfl, _⟩ := (Mine.of_owns hown).slice; refine Blk.thru (b := (w.heap.size + 1)) (arr := ?_) (t := ?_) ?_ hb2 ?_; rotate_left 2; (focus (exact blk)); intro rs; have rsc0 := rs.cell 0; have rsf0 := rs.free 0; have rsc1 := rs.cell 1; have rsf1 := rs.free 1; have rsc2 := rs.cell 2; have rsf2 := rs.free 2; have rsc3 := rs.cell 3; have rsf3 := rs.free 3; have rsc4 := rs.cell 4; have rsf4 := rs.free 4; have rsc5 := rs.cell 5; have rsf5 := rs.free 5; have rsc6 := rs.cell 6; have rsf6 := rs.free 6; have rsc7 := rs.cell 7; have rsf7 := rs.free 7; have rsc8 := rs.cell 8; have rsf8 := rs.free 8; have rsc9 := rs.cell 9; have rsf9 := rs.free 9; have rsl := rs.lt; simp at rsc0 rsc1 rsc2 rsc3 rsc4 rsc5 rsc6 rsc7 rsc8 rsc9)
  clear b0c0 b0f0 b0c1 b0f1 b0c2 b0f2 b0c3 b0f3 b0c4 b0f4 b0c5 b0f5 b0c6 b0f6 b0c7 b0f7 b0c8 b0f8 b0c9 b0f9 b0l b4c0 b4f0 b4c1 b4f1 b4c2 b4f2 b4c3 b4f3 b4c4 b4f4 b4c5 b4f5 b4c6 b4f6 b4c7 b4f7 b4c8 b4f8 b4c9 b4f9 b4l
  refine at_world (S := fun X => Blk X (w.heap.size + 1) #[.slice ad p.cells.length cp, .int .i64 p.bottles, .int .i64 p.inH, .int .i64 p.inA, .int .i64 p.vH, .int .i64 p.vA, .int .i64 p.lH, .int .i64 p.lA, .int .i64 p.pH, .int .i64 p.pA] 63 ∧ Mine 25 w.heap.size X (.slice ad p.cells.length cp) p.cells ∧ Kept w X) ⟨by (exact blkd), by exact (by have hmc := (Mine.of_owns hown).base (C := w.heap.size) (by have := hk.size; simp; omega); have hnc := hmc.ne rs (by decide); (repeat (with_reducible refine Mine.off ?_ hnc _)); exact hmc), by (exact kpt)⟩ ?_
  clear b0 b4 hk hown hb2 rsc0 rsf0 rsc1 rsf1 rsc2 rsf2 rsc3 rsf3 rsc4 rsf4 rsc5 rsf5 rsc6 rsf6 rsc7 rsf7 rsc8 rsf8 rsc9 rsf9 rsl
  rintro X ⟨b4, hm, hk⟩
  go_wp2
  go_loopw [29] (fun i wr => ∃ (k : Nat) (q : Plant) (ad : Option Addr) (cp : Nat), k ≤ ds.length ∧ i = .int .i64 k ∧ Blk wr (w.heap.size + 1) #[.slice ad q.cells.length cp, .int .i64 q.bottles, .int .i64 q.inH, .int .i64 q.inA, .int .i64 q.vH, .int .i64 q.vA, .int .i64 q.lH, .int .i64 q.lA, .int .i64 q.pH, .int .i64 q.pA] 63 ∧ Mine 25 w.heap.size wr (.slice ad q.cells.length cp) q.cells ∧ Kept w wr ∧ playGo p ds 0 = playGo q (ds.drop k) k) (fun i _ => ds.length - (intOf i).toNat)
  case atStart => exact ⟨0, p, ad, cp, Nat.zero_le _, rfl, b4, hm, hk, by simp⟩
  case round =>
    obtain ⟨k, q, ad, cp, hk0, rfl, b4, hm, hk, hpl⟩ := hrel
    have HPL := Lib.hid hpl
    clear hpl
    by_cases hlt : k < ds.length
    · obtain ⟨b1, o1, rfl, hb1, d0, d1, d2, d3⟩ := Deed.row (hd.later hk (Nat.le_refl _)) k hlt
      obtain ⟨x, hxx⟩ : ∃ x, x = ds[k] := ⟨_, rfl⟩
      rw [← hxx] at d0 d1 d2 d3
      have HXU := Lib.hid (show 0 ≤ x.kind ∧ x.kind ≤ 255 by rw [hxx]; exact HU.out _ (List.getElem_mem hlt))
      have HX := Lib.hid hxx
      clear hxx
      obtain ⟨Q1, hQ1⟩ : ∃ Q1, Q1 = doQ q x := ⟨_, rfl⟩
      obtain ⟨E1, hE1⟩ : ∃ E1, E1 = doE q x := ⟨_, rfl⟩
      have HQ1 := Lib.hid hQ1
      have HE1 := Lib.hid hE1
      clear hQ1 hE1
      go_upto_region 11 with fail
      clear d0 d1 d2 d3
      have hmx := hm.alloc (.cells #[.int .u8 0, .int .i64 0, .int .i64 0, .int .i64 0] 65)
      refine at_world (S := fun X => Blk X (w.heap.size + 1) #[.slice ad q.cells.length cp, .int .i64 q.bottles, .int .i64 q.inH, .int .i64 q.inA, .int .i64 q.vH, .int .i64 q.vA, .int .i64 q.lH, .int .i64 q.lA, .int .i64 q.pH, .int .i64 q.pA] 63 ∧ Blk X wr.heap.size #[.int .u8 x.kind, .int .i64 x.cell, .int .i64 x.to, .int .i64 x.n] 65 ∧ Mine 25 w.heap.size X (.slice ad q.cells.length cp) q.cells ∧ Kept w X) ⟨by (exact blkd), by (exact blkd), by exact (by have hnp := mine_past hm (Nat.le_refl _); (repeat (with_reducible refine Mine.off ?_ hnp _)); exact hm.alloc _), by (exact kpt)⟩ ?_
      clear b4 hm hk hmx
      rintro X ⟨b4, b9, hm, hk⟩
      generalize wr.heap.size = s9 at b9 ⊢
      have b4c0 := b4.cell 0
      have b4f0 := b4.free 0
      have b4c1 := b4.cell 1
      have b4f1 := b4.free 1
      have b4c2 := b4.cell 2
      have b4f2 := b4.free 2
      have b4c3 := b4.cell 3
      have b4f3 := b4.free 3
      have b4c4 := b4.cell 4
      have b4f4 := b4.free 4
      have b4c5 := b4.cell 5
      have b4f5 := b4.free 5
      have b4c6 := b4.cell 6
      have b4f6 := b4.free 6
      have b4c7 := b4.cell 7
      have b4f7 := b4.free 7
      have b4c8 := b4.cell 8
      have b4f8 := b4.free 8
      have b4c9 := b4.cell 9
      have b4f9 := b4.free 9
      have b4l := b4.lt
      simp at b4c0 b4c1 b4c2 b4c3 b4c4 b4c5 b4c6 b4c7 b4c8 b4c9
      have b9c0 := b9.cell 0
      have b9f0 := b9.free 0
      have b9c1 := b9.cell 1
      have b9f1 := b9.free 1
      have b9c2 := b9.cell 2
      have b9f2 := b9.free 2
      have b9c3 := b9.cell 3
      have b9f3 := b9.free 3
      have b9l := b9.lt
      simp at b9c0 b9c1 b9c2 b9c3
      go_upto_region 12 with (go_at_call 48; (with_reducible refine (f_DoK x hm HXU.out Q1 E1 HQ1.out HE1.out).mono ?_); rintro e w3 ⟨v3, rfl, hm3, hb3⟩; obtain ⟨ad3, cp3, rfl, hl3, hc3, hz3⟩ := hm3.slice)
      clear b4c0 b4f0 b4c1 b4f1 b4c2 b4f2 b4c3 b4f3 b4c4 b4f4 b4c5 b4f5 b4c6 b4f6 b4c7 b4f7 b4c8 b4f8 b4c9 b4f9 b4l b9c0 b9f0 b9c1 b9f1 b9c2 b9f2 b9c3 b9f3 b9l
      have hmk := hm.keep hb3
      have hm3k := hm3.base (C := w.heap.size) hk.size
      refine at_world (S := fun Y => Blk Y (w.heap.size + 1) #[.slice ad q.cells.length cp, .int .i64 q.bottles, .int .i64 q.inH, .int .i64 q.inA, .int .i64 q.vH, .int .i64 q.vA, .int .i64 q.lH, .int .i64 q.lA, .int .i64 q.pH, .int .i64 q.pA] 63 ∧ Blk Y w3.heap.size #[.slice ad3 Q1.cells.length cp3, .int .i64 Q1.bottles, .int .i64 Q1.inH, .int .i64 Q1.inA, .int .i64 Q1.vH, .int .i64 Q1.vA, .int .i64 Q1.lH, .int .i64 Q1.lA, .int .i64 Q1.pH, .int .i64 Q1.pA] 63 ∧ Mine 25 w.heap.size Y (.slice ad q.cells.length cp) q.cells ∧ Mine 25 w.heap.size Y (.slice ad3 Q1.cells.length cp3) Q1.cells ∧ Kept w Y) ⟨by (exact blkd), by (exact blkd), by exact (by have hnp := mine_past hmk (Nat.le_refl _); (repeat (with_reducible refine Mine.off ?_ hnp _)); exact hmk.alloc _), by exact (by have hnp := mine_past hm3k (Nat.le_refl _); (repeat (with_reducible refine Mine.off ?_ hnp _)); exact hm3k.alloc _), by (exact kpt)⟩ ?_
      clear b4 b9 hm hk hb3 hm3 hmk hm3k
      rintro Y ⟨b4, b10, hm, hm1, hk⟩
      generalize w3.heap.size = s10 at b10 ⊢
      have b4c0 := b4.cell 0
      have b4f0 := b4.free 0
      have b4c1 := b4.cell 1
      have b4f1 := b4.free 1
      have b4c2 := b4.cell 2
      have b4f2 := b4.free 2
      have b4c3 := b4.cell 3
      have b4f3 := b4.free 3
      have b4c4 := b4.cell 4
      have b4f4 := b4.free 4
      have b4c5 := b4.cell 5
      have b4f5 := b4.free 5
      have b4c6 := b4.cell 6
      have b4f6 := b4.free 6
      have b4c7 := b4.cell 7
      have b4f7 := b4.free 7
      have b4c8 := b4.cell 8
      have b4f8 := b4.free 8
      have b4c9 := b4.cell 9
      have b4f9 := b4.free 9
      have b4l := b4.lt
      simp at b4c0 b4c1 b4c2 b4c3 b4c4 b4c5 b4c6 b4c7 b4c8 b4c9
      have b10c0 := b10.cell 0
      have b10f0 := b10.free 0
      have b10c1 := b10.cell 1
      have b10f1 := b10.free 1
      have b10c2 := b10.cell 2
      have b10f2 := b10.free 2
      have b10c3 := b10.cell 3
      have b10f3 := b10.free 3
      have b10c4 := b10.cell 4
      have b10f4 := b10.free 4
      have b10c5 := b10.cell 5
      have b10f5 := b10.free 5
      have b10c6 := b10.cell 6
      have b10f6 := b10.free 6
      have b10c7 := b10.cell 7
      have b10f7 := b10.free 7
      have b10c8 := b10.cell 8
      have b10f8 := b10.free 8
      have b10c9 := b10.cell 9
      have b10f9 := b10.free 9
      have b10l := b10.lt
      simp at b10c0 b10c1 b10c2 b10c3 b10c4 b10c5 b10c6 b10c7 b10c8 b10c9
      by_cases he : E1 = 0
      · have e1 : (E1 == 0) = true := by simp [he]
        have e2 : decide (E1 = 0) = true := by simp [he]
        have e3 : (E1 != 0) = false := by simp [he]
        have HEE := Lib.hid he
        clear he
        go_wp2
        go_round
        case rel =>
          refine ⟨k + 1, Q1, ad3, cp3, by omega, by go_num, by (exact blkd), ?_, by (exact kpt), ?_⟩
          · have hn4 := hm1.ne b4 (by decide)
            (repeat (with_reducible refine Mine.off ?_ hn4 _))
            exact hm1
          · rw [HPL.out, HQ1.out]; exact playGo_ok hlt HX.out (by rw [← HE1.out]; exact HEE.out)
        case measure => simp [intOf]; omega
      · have e1 : (E1 == 0) = false := by simp [he]
        have e2 : decide (E1 = 0) = false := by simp [he]
        have e3 : (E1 != 0) = true := by simp [he]
        have HEE := Lib.hid he
        clear he
        go_wp2
        have hfin : (Q, N, E) = (q, (k : Int), E1) := by rw [← HR.out, HPL.out, HE1.out]; exact playGo_no hlt HX.out (by rw [← HE1.out]; exact HEE.out)
        obtain ⟨rfl, rfl, rfl⟩ : Q = q ∧ N = (k : Int) ∧ E = E1 := by simpa using hfin
        refine bodyPost_ret (v := .tuple #[.agg #[.slice ad Q.cells.length cp, .int .i64 Q.bottles, .int .i64 Q.inH, .int .i64 Q.inA, .int .i64 Q.vH, .int .i64 Q.vA, .int .i64 Q.lH, .int .i64 Q.lA, .int .i64 Q.pH, .int .i64 Q.pA], .int .i64 k, .int .i64 E]) (by simp [results, Try.results53, go_sem, b4c0, b4f0, b4c1, b4f1, b4c2, b4f2, b4c3, b4f3, b4c4, b4f4, b4c5, b4f5, b4c6, b4f6, b4c7, b4f7, b4c8, b4f8, b4c9, b4f9]) rfl ⟨_, rfl, ?_, by (exact kpt)⟩
        have hn4 := hm.ne b4 (by decide)
        (repeat (with_reducible refine Mine.off ?_ hn4 _))
        exact hm
    · obtain rfl : k = ds.length := by omega
      have b4c0 := b4.cell 0
      have b4f0 := b4.free 0
      have b4c1 := b4.cell 1
      have b4f1 := b4.free 1
      have b4c2 := b4.cell 2
      have b4f2 := b4.free 2
      have b4c3 := b4.cell 3
      have b4f3 := b4.free 3
      have b4c4 := b4.cell 4
      have b4f4 := b4.free 4
      have b4c5 := b4.cell 5
      have b4f5 := b4.free 5
      have b4c6 := b4.cell 6
      have b4f6 := b4.free 6
      have b4c7 := b4.cell 7
      have b4f7 := b4.free 7
      have b4c8 := b4.cell 8
      have b4f8 := b4.free 8
      have b4c9 := b4.cell 9
      have b4f9 := b4.free 9
      have b4l := b4.lt
      simp at b4c0 b4c1 b4c2 b4c3 b4c4 b4c5 b4c6 b4c7 b4c8 b4c9
      go_wp2
      have hfin : (Q, N, E) = (q, 0, 0) := by rw [← HR.out, HPL.out]; exact playGo_last q ds
      obtain ⟨rfl, rfl, rfl⟩ : Q = q ∧ N = 0 ∧ E = 0 := by simpa using hfin
      refine bodyPost_ret (v := .tuple #[.agg #[.slice ad Q.cells.length cp, .int .i64 Q.bottles, .int .i64 Q.inH, .int .i64 Q.inA, .int .i64 Q.vH, .int .i64 Q.vA, .int .i64 Q.lH, .int .i64 Q.lA, .int .i64 Q.pH, .int .i64 Q.pA], .int .i64 0, .int .i64 0]) (by simp [results, Try.results53, go_sem, b4c0, b4f0, b4c1, b4f1, b4c2, b4f2, b4c3, b4f3, b4c4, b4f4, b4c5, b4f5, b4c6, b4f6, b4c7, b4f7, b4c8, b4f8, b4c9, b4f9]) rfl ⟨_, rfl, ?_, by (exact kpt)⟩
      have hn4 := hm.ne b4 (by decide)
      (repeat (with_reducible refine Mine.off ?_ hn4 _))
      exact hm

theorem f_Play (p : Plant) (ds : List Deed) (a : Option Addr) (cap : Nat) (b : Option Addr) (cb : Nat) (w : World) (hx : Row Cell.cells 7 w.heap.size w a p.cells) (hc : p.cells.length ≤ cap) (hM : cap ≤ maxLen) (hz : a = none → cap = 0) (hd : Row Deed.cells 4 w.heap.size w b ds) (hdc : ds.length ≤ cb) (hdM : cb ≤ maxLen) (hku : ∀ d ∈ ds, 0 ≤ d.kind ∧ d.kind ≤ 255) (Q : Plant) (N E : Int) (hR : play p ds = (Q, N, E)) : Calls Try.prog 53 #[.agg #[.slice a p.cells.length cap, .int .i64 p.bottles, .int .i64 p.inH, .int .i64 p.inA, .int .i64 p.vH, .int .i64 p.vA, .int .i64 p.lH, .int .i64 p.lA, .int .i64 p.pH, .int .i64 p.pA], .slice b ds.length cb] w fun e w' => ∃ v, e = .returned (.tuple #[.agg #[v, .int .i64 Q.bottles, .int .i64 Q.inH, .int .i64 Q.inA, .int .i64 Q.vH, .int .i64 Q.vA, .int .i64 Q.lH, .int .i64 Q.lA, .int .i64 Q.pH, .int .i64 Q.pA], .int .i64 N, .int .i64 E]) ∧ Mine 25 w.heap.size w' v Q.cells ∧ Kept w w' := by
  unfold play at hR
  cases hp : plantB p
  · simp [hp] at hR
    obtain ⟨rfl, rfl, rfl⟩ := hR
    exact f_Play_bad p ds a cap b cb w hx hc hM hz hd hdc hdM hp
  · by_cases hl : ds.length ≤ 200
    · simp only [hp, hl, if_true] at hR
      exact f_Play_ok p ds a cap b cb w hx hc hM hz hd hdc hdM hku hp hl Q N E hR
    · simp [hp, hl] at hR
      obtain ⟨rfl, rfl, rfl⟩ := hR
      exact f_Play_many p ds a cap b cb w hx hc hM hz hd hdc hdM hp (by omega)

end Go.Proofs.Ytemafanncejeiaa

/-
  A plant that came in, opened: its cells, its numbers.
-/
namespace Go.Proofs.Ytemafanncejeiaa
open Go.RowKit Go.ChangeShapes Go.WideShapes Go.ChangeAt Bal Bal.Trim Bal.Gas
set_option linter.unusedVariables false
set_option maxRecDepth 100000
theorem trod_field {H : Type} {enc : TypeId × Value → H} {P : Program} {w : World} {base fuel : Nat} {spare : Nat → Bool} {held : Bool} {fs : Array Field} {cs : List Value} {xs : List (DataW H × List MemPlace)} (hxl : xs.length = fs.size)
    (hg : ∀ (i : Nat) (f : Field), fs[i]? = some f → DataW.trod enc P w base spare held fuel f.type ((cs.drop f.offset).take (P.cellsOf f.type)) = xs[i]?) (i : Nat) (f : Field) (hi : fs[i]? = some f) :
    ∃ x, DataW.trod enc P w base spare held fuel f.type ((cs.drop f.offset).take (P.cellsOf f.type)) = some x := by
  have hlt : i < fs.size := (Array.getElem?_eq_some_iff.1 hi).1
  refine ⟨xs[i]'(by omega), ?_⟩
  rw [hg i f hi]
  exact List.getElem?_eq_getElem (by omega)
theorem pair_leaves {H : Type} {enc : TypeId × Value → H} {w : World} {base fuel : Nat} {spare : Nat → Bool} {held : Bool} {cs : List Value} {x : DataW H × List MemPlace} (h : DataW.trod enc Try.prog w base spare held fuel 61 cs = some x) :
    ∃ a b : Int, cs = [.int .i64 a, .int .i64 b] := by
  have hl := leaves_ok (P := Try.prog) 4 61 [.int .i64, .int .i64] fuel cs x (by kernel_rfl) h
  obtain ⟨hl, h⟩ := hl
  match cs, hl with
  | [v0, v1], _ =>
    obtain ⟨_, e0, n0, rfl, w0⟩ := h 0 (.int .i64) rfl; simp at e0; subst e0
    obtain ⟨_, e1, n1, rfl, w1⟩ := h 1 (.int .i64) rfl; simp at e1; subst e1
    exact ⟨n0, n1, rfl⟩
theorem open_plant {H : Type} {enc : TypeId × Value → H} {w : World} {base : Nat} {spare : Nat → Bool} {held : Bool} {v : Value} {d : DataW H} {ps : List MemPlace} {r : Reach} {b0 : Nat}
    (hval : Value.okWide Try.prog w r b0 63 v) (hd : DataW.Trod enc Try.prog w base spare held 63 v d ps) :
    ∃ (a : Option Addr) (c : Nat) (p : Plant), v = .agg (plantCells (.slice a p.cells.length c) p) ∧
      Row Cell.cells 7 w.heap.size w a p.cells ∧ p.cells.length ≤ c ∧ c ≤ maxLen ∧ (a = none → c = 0) := by
  obtain ⟨cs, rfl, hsz⟩ := okWide_struct Try.underlying63 hval
  obtain ⟨fuel, hf⟩ := hd
  obtain ⟨zs, n, _, _, hcl, hxl, hg⟩ := DataW.trod_struct Try.underlying63 hf
  have hc5 : Try.prog.cellsOf 63 = 10 := by kernel_rfl
  have k1 : Try.prog.cellsOf 3 = 1 := by kernel_rfl
  have k2 : Try.prog.cellsOf 59 = 1 := by kernel_rfl
  have k3 : Try.prog.cellsOf 61 = 2 := by kernel_rfl
  obtain ⟨x0, h0⟩ := trod_field hxl hg 0 _ rfl
  obtain ⟨x1, h1⟩ := trod_field hxl hg 1 _ rfl
  obtain ⟨x2, h2⟩ := trod_field hxl hg 2 _ rfl
  obtain ⟨x3, h3⟩ := trod_field hxl hg 3 _ rfl
  obtain ⟨x4, h4⟩ := trod_field hxl hg 4 _ rfl
  obtain ⟨x5, h5⟩ := trod_field hxl hg 5 _ rfl
  have g0 : DataW.trod enc Try.prog w base spare held n 59 (((Value.agg cs).cells.toList.drop 0).take (Try.prog.cellsOf 59)) = some x0 := h0
  have g1 : DataW.trod enc Try.prog w base spare held n 3 (((Value.agg cs).cells.toList.drop 1).take (Try.prog.cellsOf 3)) = some x1 := h1
  have g2 : DataW.trod enc Try.prog w base spare held n 61 (((Value.agg cs).cells.toList.drop 2).take (Try.prog.cellsOf 61)) = some x2 := h2
  have g3 : DataW.trod enc Try.prog w base spare held n 61 (((Value.agg cs).cells.toList.drop 4).take (Try.prog.cellsOf 61)) = some x3 := h3
  have g4 : DataW.trod enc Try.prog w base spare held n 61 (((Value.agg cs).cells.toList.drop 6).take (Try.prog.cellsOf 61)) = some x4 := h4
  have g5 : DataW.trod enc Try.prog w base spare held n 61 (((Value.agg cs).cells.toList.drop 8).take (Try.prog.cellsOf 61)) = some x5 := h5
  clear h0 h1 h2 h3 h4 h5
  rw [k2] at g0
  rw [k1] at g1
  rw [k3] at g2 g3 g4 g5
  obtain ⟨a, c, xs, e0, hl0, hm0, row0, _, z0⟩ := open_typed (n := 4) (fun _ h => Cell.of_leaves h) Try.underlying59 (by kernel_rfl) (by kernel_rfl) (by decide) g0
  obtain ⟨q1, e1, _, _⟩ := DataW.trod_int Try.underlying3 g1
  obtain ⟨q2h, q2a, e2⟩ := pair_leaves g2
  obtain ⟨q3h, q3a, e3⟩ := pair_leaves g3
  obtain ⟨q4h, q4a, e4⟩ := pair_leaves g4
  obtain ⟨q5h, q5a, e5⟩ := pair_leaves g5
  refine ⟨a, c, ⟨xs, q1, q2h, q2a, q3h, q3a, q4h, q4a, q5h, q5a⟩, ?_, row0, hl0, hm0, z0⟩
  obtain ⟨l⟩ := cs
  rw [hc5] at hsz
  match l, hsz with
  | [c0, c1, c2, c3, c4, c5, c6, c7, c8, c9], _ =>
    simp [Value.cells] at e0 e1 e2 e3 e4 e5
    simp [plantCells, e0, e1, e2, e3, e4, e5]
end Go.Proofs.Ytemafanncejeiaa

/-
  The words of a string that is known sign by sign: for the facts on how a program was made. No program in sight.
-/
namespace Bal
open Go
theorem words_cons : ∀ (w r : List Char), w.all (fun c => c != Char.ofNat 32) = true → wordsSigns (w ++ Char.ofNat 32 :: r) = w :: wordsSigns r
  | [], r, _ => by simp [wordsSigns]
  | c :: w, r, h => by
    simp only [List.all_cons, Bool.and_eq_true, bne_iff_ne, ne_eq] at h
    obtain ⟨h1, h2⟩ := h
    have ih := words_cons w r h2
    rw [List.cons_append]
    simp [wordsSigns, ih]
theorem words_last : ∀ (w : List Char), w.all (fun c => c != Char.ofNat 32) = true → wordsSigns w = [w]
  | [], _ => by simp [wordsSigns]
  | c :: w, h => by
    simp only [List.all_cons, Bool.and_eq_true, bne_iff_ne, ne_eq] at h
    obtain ⟨h1, h2⟩ := h
    simp [wordsSigns, words_last w h2]
/-! A program that was cut, behind a harness. (With the program a variable the kernel never unfolds it.) -/
section
variable {P : Program} {w0 w1 : List Char} {r : List (List Char)}
theorem behind_cut (h : wordsSigns P.initOrder.toList = w0 :: w1 :: [Char.ofNat 99, Char.ofNat 117, Char.ofNat 116] :: r) (h0 : w0 = "harness".toList) (h1 : isSumSigns w1 = true) : behindMainWord (wordsSigns P.initOrder.toList) = [Char.ofNat 99, Char.ofNat 117, Char.ofNat 116] :: r := by
  rw [h]
  have e : (w0 == "harness".toList) = true := by rw [h0]; simp
  simp only [behindMainWord, e, h1, Bool.true_or, Bool.and_self, if_true]
theorem make_cut (h : wordsSigns P.initOrder.toList = w0 :: w1 :: [Char.ofNat 99, Char.ofNat 117, Char.ofNat 116] :: r) (h0 : w0 = "harness".toList) (h1 : isSumSigns w1 = true) : P.make = some .cut := by
  unfold Program.make
  rw [behind_cut h h0 h1]
  rfl
theorem lifts_cut (h : wordsSigns P.initOrder.toList = w0 :: w1 :: [Char.ofNat 99, Char.ofNat 117, Char.ofNat 116] :: r) (h0 : w0 = "harness".toList) (h1 : isSumSigns w1 = true) : P.liftsFinal = false := by
  unfold Program.liftsFinal Program.headLifts
  rw [behind_cut h h0 h1]
  rfl
theorem enter_cut (h : wordsSigns P.initOrder.toList = w0 :: w1 :: [Char.ofNat 99, Char.ofNat 117, Char.ofNat 116] :: r) (h0 : w0 = "harness".toList) (h1 : isSumSigns w1 = true) (l : P.laysLater = false) (b : P.bearsReflect = false) (d : P.doorFits [] = true) : P.mayEnter = true := by
  unfold Program.mayEnter
  rw [behind_cut h h0 h1]
  have e : stripLifts liftWords ([Char.ofNat 99, Char.ofNat 117, Char.ofNat 116] :: r) = ([], [Char.ofNat 99, Char.ofNat 117, Char.ofNat 116] :: r) := rfl
  simp only [e, l, b, d]
  rfl
end
end Bal

/-
  How the program was made: its words, and what follows for every row of the seat.
-/
namespace Go.Proofs.Ytemafanncejeiaa
open Bal
set_option maxRecDepth 100000
def initW0 : List Char := List.map Char.ofNat [104, 97, 114, 110, 101, 115, 115]
def initW1 : List Char := List.map Char.ofNat [97, 100, 52, 49, 56, 99, 52, 98, 97, 54, 50, 52, 52, 49, 56, 97, 100, 48, 100, 56, 56, 52, 55, 97, 56, 98, 97, 98, 49, 52, 54, 52, 48, 98, 101, 50, 97, 56, 99, 49, 52, 49, 53, 97, 54, 99, 57, 49, 100, 57, 101, 99, 49, 97, 50, 99, 99, 102, 99, 97, 102, 97, 49, 51]
def initW2 : List Char := List.map Char.ofNat [99, 117, 116]
def initW3 : List Char := List.map Char.ofNat [97, 116]
def initW4 : List Char := List.map Char.ofNat [98, 97, 108, 108, 111, 110, 101, 116, 47, 98, 97, 108, 108, 111, 110, 101, 116, 108, 97, 119, 48, 51, 46, 71, 97, 115, 86, 111, 108, 117, 109, 101, 115]
def initW5 : List Char := List.map Char.ofNat [98, 97, 108, 108, 111, 110, 101, 116, 47, 98, 97, 108, 108, 111, 110, 101, 116, 108, 97, 119, 48, 51, 46, 71, 97, 115, 76, 105, 102, 116, 115]
def initW6 : List Char := List.map Char.ofNat [98, 97, 108, 108, 111, 110, 101, 116, 47, 98, 97, 108, 108, 111, 110, 101, 116, 108, 97, 119, 48, 51, 46, 71, 97, 115, 72, 117, 108, 108, 115]
def initW7 : List Char := List.map Char.ofNat [98, 97, 108, 108, 111, 110, 101, 116, 47, 98, 97, 108, 108, 111, 110, 101, 116, 108, 97, 119, 48, 51, 46, 71, 97, 115, 68, 111, 101, 115]
def initW8 : List Char := List.map Char.ofNat [98, 97, 108, 108, 111, 110, 101, 116, 47, 98, 97, 108, 108, 111, 110, 101, 116, 108, 97, 119, 48, 51, 46, 71, 97, 115, 80, 108, 97, 121, 115]
def initW9 : List Char := List.map Char.ofNat [98, 97, 108, 108, 111, 110, 101, 116, 47, 98, 97, 108, 108, 111, 110, 101, 116, 108, 97, 119, 48, 51, 46, 71, 97, 115, 76, 101, 97, 107, 115]
def initW10 : List Char := List.map Char.ofNat [98, 97, 108, 108, 111, 110, 101, 116, 47, 98, 97, 108, 108, 111, 110, 101, 116, 108, 97, 119, 48, 51, 46, 71, 97, 115, 87, 97, 114, 109, 101, 114]
def initW11 : List Char := List.map Char.ofNat [98, 97, 108, 108, 111, 110, 101, 116, 47, 98, 97, 108, 108, 111, 110, 101, 116, 108, 97, 119, 48, 51, 46, 71, 97, 115, 75, 101, 112, 116]
def initW12 : List Char := List.map Char.ofNat [98, 97, 108, 108, 111, 110, 101, 116, 47, 98, 97, 108, 108, 111, 110, 101, 116, 108, 97, 119, 48, 51, 46, 71, 97, 115, 80, 117, 114, 101]
def initW13 : List Char := List.map Char.ofNat [98, 97, 108, 108, 111, 110, 101, 116, 47, 98, 97, 108, 108, 111, 110, 101, 116, 108, 97, 119, 48, 51, 46, 71, 97, 115, 72, 101, 108, 100]
def initW14 : List Char := List.map Char.ofNat [98, 97, 108, 108, 111, 110, 101, 116, 47, 98, 97, 108, 108, 111, 110, 101, 116, 108, 97, 119, 48, 51, 46, 71, 97, 115, 84, 105, 103, 104, 116]
def initW15 : List Char := List.map Char.ofNat [98, 97, 108, 108, 111, 110, 101, 116, 47, 98, 97, 108, 108, 111, 110, 101, 116, 108, 97, 119, 48, 51, 46, 71, 97, 115, 78, 97, 109, 101, 100]
def initW16 : List Char := List.map Char.ofNat [98, 97, 108, 108, 111, 110, 101, 116, 47, 98, 97, 108, 108, 111, 110, 101, 116, 108, 97, 119, 48, 51, 46, 71, 97, 115, 69, 120, 97, 99, 116]
def initW17 : List Char := List.map Char.ofNat [98, 97, 108, 108, 111, 110, 101, 116, 47, 98, 97, 108, 108, 111, 110, 101, 116, 108, 97, 119, 48, 51, 46, 71, 97, 115, 80, 114, 111, 118, 101, 100]
def initW18 : List Char := List.map Char.ofNat [98, 97, 108, 108, 111, 110, 101, 116, 47, 98, 97, 108, 108, 111, 110, 101, 116, 108, 97, 119, 48, 51, 46, 71, 97, 115, 66, 108, 111, 119, 110]
def initW19 : List Char := List.map Char.ofNat [98, 97, 108, 108, 111, 110, 101, 116, 47, 98, 97, 108, 108, 111, 110, 101, 116, 108, 97, 119, 48, 51, 46, 71, 97, 115, 82, 111, 111, 102]
def initW20 : List Char := List.map Char.ofNat [98, 97, 108, 108, 111, 110, 101, 116, 47, 98, 97, 108, 108, 111, 110, 101, 116, 108, 97, 119, 48, 51, 46, 71, 97, 115, 80, 108, 97, 121, 101, 100]
def initW21 : List Char := List.map Char.ofNat [98, 97, 108, 108, 111, 110, 101, 116, 47, 98, 97, 108, 108, 111, 110, 101, 116, 108, 97, 119, 48, 51, 46, 71, 97, 115, 70, 117, 108, 108]
def initW22 : List Char := List.map Char.ofNat [98, 97, 108, 108, 111, 110, 101, 116, 47, 98, 97, 108, 108, 111, 110, 101, 116, 108, 97, 119, 48, 51, 46, 71, 97, 115, 69, 120, 97, 109, 112, 108, 101, 115]
def initL : List Char := initW0 ++ Char.ofNat 32 :: (initW1 ++ Char.ofNat 32 :: (initW2 ++ Char.ofNat 32 :: (initW3 ++ Char.ofNat 32 :: (initW4 ++ Char.ofNat 32 :: (initW5 ++ Char.ofNat 32 :: (initW6 ++ Char.ofNat 32 :: (initW7 ++ Char.ofNat 32 :: (initW8 ++ Char.ofNat 32 :: (initW9 ++ Char.ofNat 32 :: (initW10 ++ Char.ofNat 32 :: (initW11 ++ Char.ofNat 32 :: (initW12 ++ Char.ofNat 32 :: (initW13 ++ Char.ofNat 32 :: (initW14 ++ Char.ofNat 32 :: (initW15 ++ Char.ofNat 32 :: (initW16 ++ Char.ofNat 32 :: (initW17 ++ Char.ofNat 32 :: (initW18 ++ Char.ofNat 32 :: (initW19 ++ Char.ofNat 32 :: (initW20 ++ Char.ofNat 32 :: (initW21 ++ Char.ofNat 32 :: initW22)))))))))))))))))))))
theorem init_is : Try.prog.initOrder = String.ofList initL := by kernel_rfl
theorem init_words : wordsSigns Try.prog.initOrder.toList = [initW0, initW1, initW2, initW3, initW4, initW5, initW6, initW7, initW8, initW9, initW10, initW11, initW12, initW13, initW14, initW15, initW16, initW17, initW18, initW19, initW20, initW21, initW22] := by
  rw [init_is, String.toList_ofList]
  unfold initL
  rw [words_cons _ _ (by decide), words_cons _ _ (by decide), words_cons _ _ (by decide), words_cons _ _ (by decide), words_cons _ _ (by decide), words_cons _ _ (by decide), words_cons _ _ (by decide), words_cons _ _ (by decide), words_cons _ _ (by decide), words_cons _ _ (by decide), words_cons _ _ (by decide), words_cons _ _ (by decide), words_cons _ _ (by decide), words_cons _ _ (by decide), words_cons _ _ (by decide), words_cons _ _ (by decide), words_cons _ _ (by decide), words_cons _ _ (by decide), words_cons _ _ (by decide), words_cons _ _ (by decide), words_cons _ _ (by decide), words_cons _ _ (by decide), words_last _ (by decide)]
theorem init_cut : wordsSigns Try.prog.initOrder.toList = initW0 :: initW1 :: [Char.ofNat 99, Char.ofNat 117, Char.ofNat 116] :: [initW3, initW4, initW5, initW6, initW7, initW8, initW9, initW10, initW11, initW12, initW13, initW14, initW15, initW16, initW17, initW18, initW19, initW20, initW21, initW22] := init_words
theorem init_sum : isSumSigns initW1 = true := by decide
theorem make_is : Try.prog.make = some .cut := make_cut init_cut rfl init_sum
theorem liftsFinal_is : Try.prog.liftsFinal = false := lifts_cut init_cut rfl init_sum
theorem mayEnter_is : Try.prog.mayEnter = true := enter_cut init_cut rfl init_sum (by kernel_rfl) (by kernel_rfl) (by kernel_rfl)
end Go.Proofs.Ytemafanncejeiaa

/-
  Bounds of numbers that came in.
-/
namespace Go.Proofs.Ytemafanncejeiaa
open Go Go.RowKit
theorem wf_u16 {n : Int} (h : (Lit.int .u16 n).wf = true) : 0 ≤ n ∧ n ≤ 65535 := by
  simp only [Lit.wf, Bool.and_eq_true, decide_eq_true_eq] at h
  have e1 : IntKind.min .u16 = 0 := by decide
  have e2 : IntKind.max .u16 = 65535 := by decide
  rw [e1, e2] at h
  exact h
theorem wf_u8o {n : Int} (h : (Lit.int .u8 n).wf = true) : 0 ≤ n ∧ n ≤ 255 := by
  simp only [Lit.wf, Bool.and_eq_true, decide_eq_true_eq] at h
  have e1 : IntKind.min .u8 = 0 := by decide
  have e2 : IntKind.max .u8 = 255 := by decide
  rw [e1, e2] at h
  exact h
theorem wf_i64 {n : Int} (h : (Lit.int .i64 n).wf = true) : -9223372036854775808 ≤ n ∧ n ≤ 9223372036854775807 := by
  simp only [Lit.wf, Bool.and_eq_true, decide_eq_true_eq] at h
  have e1 : IntKind.min .i64 = -9223372036854775808 := by decide
  have e2 : IntKind.max .i64 = 9223372036854775807 := by decide
  rw [e1, e2] at h
  exact h
end Go.Proofs.Ytemafanncejeiaa

/-
  The contracts of chapter 3 that the outright statements lean on:
  o_alive f_VolumeC f_LiftC f_CeilingC f_ValvingC f_FitsC f_Volume_ok f_Lift_ok f_Ceiling_ok f_Valving_ok f_Fits_ok o_inside o_over f_OverC f_HoldsC f_BlowC f_RoofC f_CheckHull f_CheckAir f_CheckCell f_CheckHistory f_Check
  f_Do f_Play f_Leaks f_Named f_Conflict f_Amounts r_Great r_GreatH r_SamePlant r_SameSpans r_SameInts open_plant open_history open_agg open_typed wf_u16 wf_u8o wf_i64 wf_u8
  mayEnter_is liftsFinal_is make_is Row Own owns_put owns_row owns_block owns_cur owns_base wpAny_rel wpAny_dp0 tailIn regionIn held_vol held_lift held_ceil span_bd copyO copy wpList_copy wpList_copyO owns_made
  o_one o_cell o_still o_plant o_hull o_history int_of_leaves Deed Cell Air Hl Sp Flow of_leaves row Mine plantCells later_mix tail region at_world at_worldR blk blkc blk0 kpt kpt0 blkx kptx own thru wpSteps_want later_dies held_walk
  conf_none conf_some told_bd al_bd tt_mono come_bd come_split clash_told leaks_in leaks_out leaks_free leaks_cases lost_bd all_bd histB_ok amtE namedL plantB_iff cellB_iff airB_iff prod_bd mul_bd div_bd spanIn_iff ceil_bd pull_bd
-/
namespace Go.Proofs.Ytemafanncejeiaa
open Go.RowKit Bal Bal.Trim Bal.Gas
end Go.Proofs.Ytemafanncejeiaa
