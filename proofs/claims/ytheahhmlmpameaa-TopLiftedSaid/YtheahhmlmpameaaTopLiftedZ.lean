/-
  TopLifted, the statement: for every input the call returns true and leaves the input alone.
-/
import Derived.Test.YtheahhmlmpameaaTopLiftedZA
import Derived.Test.YtheahhmlmpameaaTopLiftedZB
import Derived.Deep.RegionHeld3
import Derived.Deep.DeepCutAuto
import Derived.OwnWalk
import Derived.WalkSmall
import Derived.WideShapes
import Derived.JoinedOf
import Derived.Test.YtheahhmlmpameaaProg
import Derived.Test.YtheahhmlmpameaaRows
/-
  In trim whatever the air: small functions, the examples.
-/
namespace Go.Proofs.Ytheahhmlmpameaa
open Go.RowKit Bal Bal.Trim Bal.Gas Bal.Top
set_option linter.unusedVariables false
set_option linter.unusedSimpArgs false
set_option maxHeartbeats 4000000
set_option maxRecDepth 100000

theorem t_one (x : Int) (w : World) : Calls Try.prog 8 #[.int .i64 x] w fun e w' => e = .returned (.agg #[.int .i64 (x), .int .i64 (x)]) ∧ Kept w w' := by
  go_enter Try.func8, Try.ntmps8
  go_wp2
  exact bodyPost_ret (v := .agg #[.int .i64 (x), .int .i64 (x)]) (by simp [results, Try.results8, go_sem]) rfl ⟨rfl, by (exact kpt)⟩

theorem t_still (w : World) : Calls Try.prog 11 #[] w fun e w' => e = .returned (.agg #[.int .i64 10000, .int .i64 10000, .int .i64 2900, .int .i64 2900]) ∧ Kept w w' := by
  go_enter Try.func11, Try.ntmps11
  go_wp2_with (go_at_call 8; (with_reducible refine (t_one _ _).mono ?_); rintro e w1 ⟨rfl, hb1⟩; refine Blk.thru (b := w.heap.size) (arr := ?_) (t := ?_) ?_ hb1 ?_; rotate_left 2; (focus (exact blk)); intro qr; have qrc0 := qr.cell 0; have qrf0 := qr.free 0; have qrc1 := qr.cell 1; have qrf1 := qr.free 1; have qrc2 := qr.cell 2; have qrf2 := qr.free 2; have qrc3 := qr.cell 3; have qrf3 := qr.free 3; have qrl := qr.lt; simp at qrc0 qrc1 qrc2 qrc3)
  exact bodyPost_ret (v := .agg #[.int .i64 10000, .int .i64 10000, .int .i64 2900, .int .i64 2900]) (by simp [results, Try.results11, go_sem, qrc0, qrf0, qrc1, qrf1, qrc2, qrf2, qrc3, qrf3]) rfl ⟨rfl, by (exact kpt)⟩

theorem i64_inT {n : Int} (h : -9223372036854775808 ≤ n ∧ n ≤ 9223372036854775807) : IntKind.i64.wrap n = n := by rw [IntKind.wrap_i64]; have := w64_in n h; unfold wrap64 at this; omega
theorem t_inside (lo hi n : Int) (w : World) (h1 : -1000000000000 ≤ lo) (h2 : lo ≤ hi) (h3 : hi ≤ 1000000000000) (hn : 0 ≤ n ∧ n ≤ 65535) :
    Calls Try.prog 10 #[.agg #[.int .i64 (lo), .int .i64 (hi)], .int .u16 n] w fun e w' => e = .returned (.int .i64 (ins lo hi n)) ∧ Kept w w' := by
  have m1 := Int.emod_nonneg n (show hi - lo + 1 ≠ 0 by omega)
  have m2 := Int.emod_lt_of_pos n (show 0 < hi - lo + 1 by omega)
  have hw1 := i64_inT (n := hi - lo) (by omega)
  have hw2 := i64_inT (n := hi - lo + 1) (by omega)
  have hw3 := i64_inT (n := lo + n % (hi - lo + 1)) (by omega)
  have hw4 := i64_inT (n := n % (hi - lo + 1)) (by omega)
  have hw5 := i64_inT (n := n) (by omega)
  have hz1 : (hi - lo + 1 == 0) = false := by simp; omega
  have hz2 : ¬ hi - lo + 1 = 0 := by omega
  have ht : n.tmod (hi - lo + 1) = n % (hi - lo + 1) := Int.tmod_eq_emod_of_nonneg hn.1
  have h0 : 0 < hi - lo + 1 := by omega
  go_enter Try.func10, Try.ntmps10
  go_upto_region 1 with fail
  have q0 := (Blk.new (w := w) (arr := #[.int .i64 lo, .int .i64 hi]) (t := 25))
  have q0c0 := fun g : Later (w.alloc (.cells #[.int .i64 lo, .int .i64 hi] 25)) => (q0.later g).cell 0
  have q0f0 := fun g : Later (w.alloc (.cells #[.int .i64 lo, .int .i64 hi] 25)) => (q0.later g).free 0
  have q0c1 := fun g : Later (w.alloc (.cells #[.int .i64 lo, .int .i64 hi] 25)) => (q0.later g).cell 1
  have q0f1 := fun g : Later (w.alloc (.cells #[.int .i64 lo, .int .i64 hi] 25)) => (q0.later g).free 1
  have q0l := fun g : Later (w.alloc (.cells #[.int .i64 lo, .int .i64 hi] 25)) => (q0.later g).lt
  simp at q0c0 q0c1
  refine Later.region (by kernel_rfl) (by kernel_rfl) ?_
  repeat (first | go_big_quiet_skip | (go_big_quiet_want; go_big_quiet_op; first | go_big_quiet_on | (apply Exists.intro; refine ⟨fun g => ?_, ?_⟩; (focus (first | fail)); go_big_quiet_on)))
  refine wpQuiet_nil ?_
  intro gg
  have hkg := Kept.drop ((Below.refl _ _).alloc (Nat.le_refl _) _ : Kept w _) gg.ok
  go_wp2
  go_ret
  exact ⟨ret_int rfl, by (exact kpt)⟩

theorem t_LiftA (w : World) : Calls Try.prog 7 #[.agg #[.int .i64 300, .int .i64 900, .int .i64 100, .int .i64 0, .int .i64 0, .int .i64 0, .int .i64 0], .agg #[.int .i64 10000, .int .i64 10000, .int .i64 2900, .int .i64 2900]] w fun e w' => e = .returned (.tuple #[.agg #[.int .i64 (22500), .int .i64 (22500)], .int .i64 0]) ∧ Kept w w' := by
  have h := f_Lift_ok ⟨300, 900, 100, 0, 0, 0, 0⟩ ⟨10000, 10000, 2900, 2900⟩ w (by decide) (by decide)
  rw [show liftLo ⟨300, 900, 100, 0, 0, 0, 0⟩ ⟨10000, 10000, 2900, 2900⟩ = 22500 by decide, show liftHi ⟨300, 900, 100, 0, 0, 0, 0⟩ ⟨10000, 10000, 2900, 2900⟩ = 22500 by decide] at h
  exact h
theorem t_LiftB (w : World) : Calls Try.prog 7 #[.agg #[.int .i64 300, .int .i64 900, .int .i64 100, .int .i64 0, .int .i64 29, .int .i64 0, .int .i64 0], .agg #[.int .i64 10000, .int .i64 10000, .int .i64 2900, .int .i64 2900]] w fun e w' => e = .returned (.tuple #[.agg #[.int .i64 (22500), .int .i64 (22790)], .int .i64 0]) ∧ Kept w w' := by
  have h := f_Lift_ok ⟨300, 900, 100, 0, 29, 0, 0⟩ ⟨10000, 10000, 2900, 2900⟩ w (by decide) (by decide)
  rw [show liftLo ⟨300, 900, 100, 0, 29, 0, 0⟩ ⟨10000, 10000, 2900, 2900⟩ = 22500 by decide, show liftHi ⟨300, 900, 100, 0, 29, 0, 0⟩ ⟨10000, 10000, 2900, 2900⟩ = 22790 by decide] at h
  exact h
def liveL : List Load := [⟨-100, -100, -22790, -22500⟩, ⟨100, 100, -22500, -22500⟩, ⟨0, 0, 45000, 45000⟩]
theorem t_Bal (n : Nat) (w : World) (h : Blk w n #[.int .i64 (-100), .int .i64 (-100), .int .i64 (-22790), .int .i64 (-22500), .int .i64 (100), .int .i64 (100), .int .i64 (-22500), .int .i64 (-22500), .int .i64 (0), .int .i64 (0), .int .i64 (45000), .int .i64 (45000)] 43) : Calls Try.prog 12 #[.slice (some ⟨n, 0, none⟩) 3 3] w fun e w' => e = .returned (.tuple #[.agg #[.int .i64 (-290), .int .i64 (0)], .agg #[.int .i64 (0), .int .i64 (29000)], .int .i64 0]) ∧ Kept w w' := by
  have k := Trim04.f_Balance (some ⟨n, 0, none⟩) 3 liveL w (Row.block (fun _ => rfl) h rfl) (by decide) (by decide)
  rw [show checkLoads liveL = 0 by decide, show ifOk 0 (sumBy Load.wlo liveL) = -290 by decide, show ifOk 0 (sumBy Load.whi liveL) = 0 by decide, show ifOk 0 (sumBy mLo liveL) = 0 by decide, show ifOk 0 (sumBy mHi liveL) = 29000 by decide] at k
  exact k
theorem t_alive (w : World) : Calls Try.prog 4 #[] w fun e w' => e = .returned (.bool true) ∧ Kept w w' := by
  have g1 : IntKind.i64.wrap (-22790) = -22790 := by decide
  have g2 : IntKind.i64.wrap (-22500) = -22500 := by decide
  go_enter Try.func4, Try.ntmps4
  go_upto_region 4 with fail
  refine at_world (S := fun W => Blk W w.heap.size #[.int .i64 300, .int .i64 900, .int .i64 100, .int .i64 0, .int .i64 0, .int .i64 0, .int .i64 0] 38 ∧ Blk W (w.heap.size + 1) #[.int .i64 300, .int .i64 900, .int .i64 100, .int .i64 0, .int .i64 29, .int .i64 0, .int .i64 0] 38 ∧ Kept w W) ⟨by (exact blkc), by (exact blkc), by (exact kpt)⟩ ?_
  rintro W ⟨b1, b2, hk⟩
  go_cut [3, 4] (fun s3 s4 wx => ∃ g, s3 = .pointer (some ⟨g, 0, none⟩) ∧ s4 = .int .i64 0 ∧ Blk wx g #[.int .i64 22500, .int .i64 22500] 25 ∧ Blk wx w.heap.size #[.int .i64 300, .int .i64 900, .int .i64 100, .int .i64 0, .int .i64 0, .int .i64 0, .int .i64 0] 38 ∧ Blk wx (w.heap.size + 1) #[.int .i64 300, .int .i64 900, .int .i64 100, .int .i64 0, .int .i64 29, .int .i64 0, .int .i64 0] 38 ∧ Kept w wx)
  case first =>
    have b1k0 : ∀ w', Kept W w' → w'.cell? ⟨w.heap.size, 0, none⟩ = _ := fun w' h => (b1.keep h).cell 0
    have b1k1 : ∀ w', Kept W w' → w'.cell? ⟨w.heap.size, 1, none⟩ = _ := fun w' h => (b1.keep h).cell 1
    have b1k2 : ∀ w', Kept W w' → w'.cell? ⟨w.heap.size, 2, none⟩ = _ := fun w' h => (b1.keep h).cell 2
    have b1k3 : ∀ w', Kept W w' → w'.cell? ⟨w.heap.size, 3, none⟩ = _ := fun w' h => (b1.keep h).cell 3
    have b1k4 : ∀ w', Kept W w' → w'.cell? ⟨w.heap.size, 4, none⟩ = _ := fun w' h => (b1.keep h).cell 4
    have b1k5 : ∀ w', Kept W w' → w'.cell? ⟨w.heap.size, 5, none⟩ = _ := fun w' h => (b1.keep h).cell 5
    have b1k6 : ∀ w', Kept W w' → w'.cell? ⟨w.heap.size, 6, none⟩ = _ := fun w' h => (b1.keep h).cell 6
    simp at b1k0 b1k1 b1k2 b1k3 b1k4 b1k5 b1k6
    go_region_held3 (fun w' => Kept W w') (exact kpt) (first | (go_at_call 11; (with_reducible refine (t_still _).mono ?_); rintro e w1 ⟨rfl, hb1⟩; (first | (refine Blk.thru (b := W.heap.size) (arr := #[.int .i64 0, .int .i64 0]) (t := 25) ?_ hb1 ?_; (focus (first | with_reducible assumption | (refine Blk.new' ?_; (focus (simp; done))) | (refine Blk.drew (Blk.new' ?_); (focus (simp; done))) | (refine Blk.alloc (Blk.new' ?_) _; (focus (simp; done))) | (refine Blk.drew (Blk.alloc (Blk.new' ?_) _); (focus (simp; done))) | (refine Blk.alloc (Blk.drew (Blk.new' ?_)) _; (focus (simp; done))) | (refine Blk.alloc ?_ _; with_reducible assumption) | (refine Blk.drew ?_; with_reducible assumption) | (refine Blk.drew (Blk.alloc ?_ _); with_reducible assumption) | fail)); intro ta; have tac0 := ta.cell 0; have taf0 := ta.free 0; have tac1 := ta.cell 1; have taf1 := ta.free 1; have tal := ta.lt; simp at tac0 tac1) | skip)) | (go_at_call 7; (with_reducible refine (t_LiftA _).mono ?_); rintro e w2 ⟨rfl, hb2⟩; (first | (refine Blk.thru (b := W.heap.size) (arr := #[.int .i64 0, .int .i64 0]) (t := 25) ?_ hb2 ?_; (focus (first | with_reducible assumption | (refine Blk.new' ?_; (focus (simp; done))) | (refine Blk.drew (Blk.new' ?_); (focus (simp; done))) | (refine Blk.alloc (Blk.new' ?_) _; (focus (simp; done))) | (refine Blk.drew (Blk.alloc (Blk.new' ?_) _); (focus (simp; done))) | (refine Blk.alloc (Blk.drew (Blk.new' ?_)) _; (focus (simp; done))) | (refine Blk.alloc ?_ _; with_reducible assumption) | (refine Blk.drew ?_; with_reducible assumption) | (refine Blk.drew (Blk.alloc ?_ _); with_reducible assumption) | fail)); intro tb; have tbc0 := tb.cell 0; have tbf0 := tb.free 0; have tbc1 := tb.cell 1; have tbf1 := tb.free 1; have tbl := tb.lt; simp at tbc0 tbc1) | skip); (first | (refine Blk.thru (b := w1.heap.size) (arr := #[.int .i64 0, .int .i64 0]) (t := 25) ?_ hb2 ?_; (focus (first | with_reducible assumption | (refine Blk.new' ?_; (focus (simp; done))) | (refine Blk.drew (Blk.new' ?_); (focus (simp; done))) | (refine Blk.alloc (Blk.new' ?_) _; (focus (simp; done))) | (refine Blk.drew (Blk.alloc (Blk.new' ?_) _); (focus (simp; done))) | (refine Blk.alloc (Blk.drew (Blk.new' ?_)) _; (focus (simp; done))) | (refine Blk.alloc ?_ _; with_reducible assumption) | (refine Blk.drew ?_; with_reducible assumption) | (refine Blk.drew (Blk.alloc ?_ _); with_reducible assumption) | fail)); intro tc; have tcc0 := tc.cell 0; have tcf0 := tc.free 0; have tcc1 := tc.cell 1; have tcf1 := tc.free 1; have tcl := tc.lt; simp at tcc0 tcc1) | skip)) | fail)
    all_goals (go_wp2_with fail; go_meet)
    all_goals exact ⟨_, rfl, rfl, by (exact blkc), by (exact blkc), by (exact blkc), by (exact kpt)⟩
  case rest =>
    clear b1 b2 hk
    obtain ⟨s3, rfl, rfl, b3, b1, b2, hk⟩ := hcut
    go_upto_region 5 with fail
    refine at_world (S := fun X => Blk X s3 #[.int .i64 22500, .int .i64 22500] 25 ∧ Blk X w.heap.size #[.int .i64 300, .int .i64 900, .int .i64 100, .int .i64 0, .int .i64 0, .int .i64 0, .int .i64 0] 38 ∧ Blk X (w.heap.size + 1) #[.int .i64 300, .int .i64 900, .int .i64 100, .int .i64 0, .int .i64 29, .int .i64 0, .int .i64 0] 38 ∧ Kept w X) ⟨b3, b1, b2, hk⟩ ?_
    clear b3 b1 b2 hk
    rintro X ⟨b3, b1, b2, hk⟩
    go_cut [5, 6] (fun s5 s6 wx => ∃ g, s5 = .pointer (some ⟨g, 0, none⟩) ∧ s6 = .int .i64 0 ∧ Blk wx g #[.int .i64 22500, .int .i64 22790] 25 ∧ Blk wx s3 #[.int .i64 22500, .int .i64 22500] 25 ∧ Blk wx w.heap.size #[.int .i64 300, .int .i64 900, .int .i64 100, .int .i64 0, .int .i64 0, .int .i64 0, .int .i64 0] 38 ∧ Blk wx (w.heap.size + 1) #[.int .i64 300, .int .i64 900, .int .i64 100, .int .i64 0, .int .i64 29, .int .i64 0, .int .i64 0] 38 ∧ Kept w wx)
    case first =>
      have b2k0 : ∀ w', Kept X w' → w'.cell? ⟨(w.heap.size + 1), 0, none⟩ = _ := fun w' h => (b2.keep h).cell 0
      have b2k1 : ∀ w', Kept X w' → w'.cell? ⟨(w.heap.size + 1), 1, none⟩ = _ := fun w' h => (b2.keep h).cell 1
      have b2k2 : ∀ w', Kept X w' → w'.cell? ⟨(w.heap.size + 1), 2, none⟩ = _ := fun w' h => (b2.keep h).cell 2
      have b2k3 : ∀ w', Kept X w' → w'.cell? ⟨(w.heap.size + 1), 3, none⟩ = _ := fun w' h => (b2.keep h).cell 3
      have b2k4 : ∀ w', Kept X w' → w'.cell? ⟨(w.heap.size + 1), 4, none⟩ = _ := fun w' h => (b2.keep h).cell 4
      have b2k5 : ∀ w', Kept X w' → w'.cell? ⟨(w.heap.size + 1), 5, none⟩ = _ := fun w' h => (b2.keep h).cell 5
      have b2k6 : ∀ w', Kept X w' → w'.cell? ⟨(w.heap.size + 1), 6, none⟩ = _ := fun w' h => (b2.keep h).cell 6
      simp at b2k0 b2k1 b2k2 b2k3 b2k4 b2k5 b2k6
      have l1 := b1.lt
      have l3 := b3.lt
      go_region_held3 (fun w' => Kept X w') (exact kpt) (first | (go_at_call 11; (with_reducible refine (t_still _).mono ?_); rintro e w1 ⟨rfl, hb1⟩; (first | (refine Blk.thru (b := X.heap.size) (arr := #[.int .i64 0, .int .i64 0]) (t := 25) ?_ hb1 ?_; (focus (first | with_reducible assumption | (refine Blk.new' ?_; (focus (simp; done))) | (refine Blk.drew (Blk.new' ?_); (focus (simp; done))) | (refine Blk.alloc (Blk.new' ?_) _; (focus (simp; done))) | (refine Blk.drew (Blk.alloc (Blk.new' ?_) _); (focus (simp; done))) | (refine Blk.alloc (Blk.drew (Blk.new' ?_)) _; (focus (simp; done))) | (refine Blk.alloc ?_ _; with_reducible assumption) | (refine Blk.drew ?_; with_reducible assumption) | (refine Blk.drew (Blk.alloc ?_ _); with_reducible assumption) | fail)); intro ta; have tac0 := ta.cell 0; have taf0 := ta.free 0; have tac1 := ta.cell 1; have taf1 := ta.free 1; have tal := ta.lt; simp at tac0 tac1) | skip)) | (go_at_call 7; (with_reducible refine (t_LiftB _).mono ?_); rintro e w2 ⟨rfl, hb2⟩; (first | (refine Blk.thru (b := X.heap.size) (arr := #[.int .i64 0, .int .i64 0]) (t := 25) ?_ hb2 ?_; (focus (first | with_reducible assumption | (refine Blk.new' ?_; (focus (simp; done))) | (refine Blk.drew (Blk.new' ?_); (focus (simp; done))) | (refine Blk.alloc (Blk.new' ?_) _; (focus (simp; done))) | (refine Blk.drew (Blk.alloc (Blk.new' ?_) _); (focus (simp; done))) | (refine Blk.alloc (Blk.drew (Blk.new' ?_)) _; (focus (simp; done))) | (refine Blk.alloc ?_ _; with_reducible assumption) | (refine Blk.drew ?_; with_reducible assumption) | (refine Blk.drew (Blk.alloc ?_ _); with_reducible assumption) | fail)); intro tb; have tbc0 := tb.cell 0; have tbf0 := tb.free 0; have tbc1 := tb.cell 1; have tbf1 := tb.free 1; have tbl := tb.lt; simp at tbc0 tbc1) | skip); (first | (refine Blk.thru (b := w1.heap.size) (arr := #[.int .i64 0, .int .i64 0]) (t := 25) ?_ hb2 ?_; (focus (first | with_reducible assumption | (refine Blk.new' ?_; (focus (simp; done))) | (refine Blk.drew (Blk.new' ?_); (focus (simp; done))) | (refine Blk.alloc (Blk.new' ?_) _; (focus (simp; done))) | (refine Blk.drew (Blk.alloc (Blk.new' ?_) _); (focus (simp; done))) | (refine Blk.alloc (Blk.drew (Blk.new' ?_)) _; (focus (simp; done))) | (refine Blk.alloc ?_ _; with_reducible assumption) | (refine Blk.drew ?_; with_reducible assumption) | (refine Blk.drew (Blk.alloc ?_ _); with_reducible assumption) | fail)); intro tc; have tcc0 := tc.cell 0; have tcf0 := tc.free 0; have tcc1 := tc.cell 1; have tcf1 := tc.free 1; have tcl := tc.lt; simp at tcc0 tcc1) | skip)) | fail)
      all_goals (go_wp2_with fail; go_meet)
      all_goals exact ⟨_, rfl, rfl, by (exact blkc), by (exact blkc), by (exact blkc), by (exact blkc), by (exact kpt)⟩
    case rest =>
      clear b1 b2 b3 hk
      obtain ⟨s5, rfl, rfl, b5, b3, b1, b2, hk⟩ := hcut
      go_upto_region 6 with fail
      refine at_world (S := fun Y => Blk Y s5 #[.int .i64 22500, .int .i64 22790] 25 ∧ Blk Y s3 #[.int .i64 22500, .int .i64 22500] 25 ∧ Kept w Y) ⟨b5, b3, hk⟩ ?_
      clear b5 b3 b1 b2 hk
      rintro Y ⟨b5, b3, hk⟩
      have b5c0 := fun g : Later Y => (b5.later g).cell 0
      have b5f0 := fun g : Later Y => (b5.later g).free 0
      have b5c1 := fun g : Later Y => (b5.later g).cell 1
      have b5f1 := fun g : Later Y => (b5.later g).free 1
      have b5l := fun g : Later Y => (b5.later g).lt
      simp at b5c0 b5c1
      have b3c0 := fun g : Later Y => (b3.later g).cell 0
      have b3f0 := fun g : Later Y => (b3.later g).free 0
      have b3c1 := fun g : Later Y => (b3.later g).cell 1
      have b3f1 := fun g : Later Y => (b3.later g).free 1
      have b3l := fun g : Later Y => (b3.later g).lt
      simp at b3c0 b3c1
      refine Later.tail 20 (by kernel_rfl) (by kernel_rfl) ?_
      simp only [List.take_succ_cons, List.take_zero, List.drop_succ_cons, List.drop_zero]
      repeat (first | go_big_quiet_skip | (go_big_quiet_want; go_big_quiet_op; first | go_big_quiet_on | (apply Exists.intro; refine ⟨fun g_ => ?_, ?_⟩; (focus (first | (go_at_call 8; exact Later.call (t_one _ _)))); go_big_quiet_on)))
      refine wpQuiet_nil ?_
      intro gg
      refine wpList_plain rfl fun K1 hK1 => ?_
      have hkg := Kept.drop hk gg.ok
      go_wp2_with (go_at_call 12; (with_reducible refine (t_Bal _ _ (by (exact blk))).mono ?_); rintro e w4 ⟨rfl, hb4⟩)
      go_ret
      exact ⟨rfl, by (exact kpt)⟩

end Go.Proofs.Ytheahhmlmpameaa

/-
  In trim whatever the air: the walk.
-/
namespace Go.Proofs.Ytheahhmlmpameaa
open Go.RowKit Bal Bal.Trim Bal.Gas Bal.Top
set_option linter.unusedVariables false
set_option linter.unusedSimpArgs false
set_option maxHeartbeats 8000000
set_option maxRecDepth 100000

def ucell (n : Int) : List Value := [.int .u16 n]
theorem law_many (cs : List Cell) (ps : List Int) (a : Air) (ys : List Load) (x : Limit) (t0 : Int) (bs : List Int) (ac ap ay ab : Option Addr) (cc cp cy cb : Nat) (w : World) (hc : Row Cell.cells 7 w.heap.size w ac cs) (hlc : cs.length ≤ cc) (hmc : cc ≤ maxLen) (hp : Row icell 1 w.heap.size w ap ps) (hlp : ps.length ≤ cp) (hmp : cp ≤ maxLen) (hy : Row Load.cells 4 w.heap.size w ay ys) (hly : ys.length ≤ cy) (hmy : cy ≤ maxLen) (hzy : ay = none → cy = 0) (hb : Row ucell 1 w.heap.size w ab bs) (hlb : bs.length ≤ cb) (hmb : cb ≤ maxLen) (h : 12 < cs.length ∨ ps.length < cs.length ∨ 20 < ys.length ∨ checkAir a ≠ 0 ∨ checkLoads ys ≠ 0) : Calls Try.prog 3 #[.slice ac cs.length cc, .slice ap ps.length cp, .agg #[.int .i64 a.plo, .int .i64 a.phi, .int .i64 a.tlo, .int .i64 a.thi], .slice ay ys.length cy, .agg #[.int .i64 x.a, .int .i64 x.b, .int .i64 x.c], .int .u16 t0, .slice ab bs.length cb] w fun e w' => e = .returned (.bool true) ∧ Kept w w' := by
  have hmy_ : cy ≤ maxLen := hmy
  unfold maxLen at hmc hmp hmy hmb
  by_cases h1 : 12 < cs.length
  · have e1 : decide ((12 : Int) < (cs.length : Int)) = true := by simp; omega
    clear h
    go_enter Try.func3, Try.ntmps3
    go_wp2_with (first | (go_at_call 4; (with_reducible refine (t_alive _).mono ?_); rintro e w1 ⟨rfl, hb1⟩; refine Blk.thru (b := w.heap.size) (arr := ?_) (t := ?_) ?_ hb1 ?_; rotate_left 2; (focus (exact blk)); intro rr; have rrc0 := rr.cell 0; have rrf0 := rr.free 0; have rrc1 := rr.cell 1; have rrf1 := rr.free 1; have rrc2 := rr.cell 2; have rrf2 := rr.free 2; have rrc3 := rr.cell 3; have rrf3 := rr.free 3; have rrl := rr.lt; simp at rrc0 rrc1 rrc2 rrc3; refine Blk.thru (b := (w.heap.size + 1)) (arr := ?_) (t := ?_) ?_ hb1 ?_; rotate_left 2; (focus (exact blk)); intro rq; have rqc0 := rq.cell 0; have rqf0 := rq.free 0; have rqc1 := rq.cell 1; have rqf1 := rq.free 1; have rqc2 := rq.cell 2; have rqf2 := rq.free 2; have rql := rq.lt; simp at rqc0 rqc1 rqc2))
    go_ret
    exact ⟨rfl, by (exact kpt)⟩
  · have e1 : decide ((12 : Int) < (cs.length : Int)) = false := by simp; omega
    by_cases h2 : ps.length < cs.length
    · clear h
      go_enter Try.func3, Try.ntmps3
      go_wp2_with (first | (go_at_call 4; (with_reducible refine (t_alive _).mono ?_); rintro e w1 ⟨rfl, hb1⟩; refine Blk.thru (b := w.heap.size) (arr := ?_) (t := ?_) ?_ hb1 ?_; rotate_left 2; (focus (exact blk)); intro rr; have rrc0 := rr.cell 0; have rrf0 := rr.free 0; have rrc1 := rr.cell 1; have rrf1 := rr.free 1; have rrc2 := rr.cell 2; have rrf2 := rr.free 2; have rrc3 := rr.cell 3; have rrf3 := rr.free 3; have rrl := rr.lt; simp at rrc0 rrc1 rrc2 rrc3; refine Blk.thru (b := (w.heap.size + 1)) (arr := ?_) (t := ?_) ?_ hb1 ?_; rotate_left 2; (focus (exact blk)); intro rq; have rqc0 := rq.cell 0; have rqf0 := rq.free 0; have rqc1 := rq.cell 1; have rqf1 := rq.free 1; have rqc2 := rq.cell 2; have rqf2 := rq.free 2; have rql := rq.lt; simp at rqc0 rqc1 rqc2))
      go_ret
      exact ⟨rfl, by (exact kpt)⟩
    · by_cases h3 : 20 < ys.length
      · have e3 : decide ((20 : Int) < (ys.length : Int)) = true := by simp; omega
        clear h
        go_enter Try.func3, Try.ntmps3
        go_wp2_with (first | (go_at_call 4; (with_reducible refine (t_alive _).mono ?_); rintro e w1 ⟨rfl, hb1⟩; refine Blk.thru (b := w.heap.size) (arr := ?_) (t := ?_) ?_ hb1 ?_; rotate_left 2; (focus (exact blk)); intro rr; have rrc0 := rr.cell 0; have rrf0 := rr.free 0; have rrc1 := rr.cell 1; have rrf1 := rr.free 1; have rrc2 := rr.cell 2; have rrf2 := rr.free 2; have rrc3 := rr.cell 3; have rrf3 := rr.free 3; have rrl := rr.lt; simp at rrc0 rrc1 rrc2 rrc3; refine Blk.thru (b := (w.heap.size + 1)) (arr := ?_) (t := ?_) ?_ hb1 ?_; rotate_left 2; (focus (exact blk)); intro rq; have rqc0 := rq.cell 0; have rqf0 := rq.free 0; have rqc1 := rq.cell 1; have rqf1 := rq.free 1; have rqc2 := rq.cell 2; have rqf2 := rq.free 2; have rql := rq.lt; simp at rqc0 rqc1 rqc2))
        go_ret
        exact ⟨rfl, by (exact kpt)⟩
      · have e3 : decide ((20 : Int) < (ys.length : Int)) = false := by simp; omega
        by_cases h4 : checkAir a = 0
        · have HA := Lib.hid h4
          have h5 : checkLoads ys ≠ 0 := by omega
          obtain ⟨L, hL⟩ : ∃ L, L = checkLoads ys := ⟨_, rfl⟩
          have HL := Lib.hid hL.symm
          rw [← hL] at h5
          have g1 : (L != 0) = true := by simp [h5]
          have g2 : (L == 0) = false := by simp [h5]
          have g3 : decide (L = 0) = false := by simp [h5]
          clear h h4 hL h5
          go_enter Try.func3, Try.ntmps3
          go_wp2_with (first | (go_at_call 4; (with_reducible refine (t_alive _).mono ?_); rintro e w1 ⟨rfl, hb1⟩; refine Blk.thru (b := w.heap.size) (arr := ?_) (t := ?_) ?_ hb1 ?_; rotate_left 2; (focus (exact blk)); intro rr; have rrc0 := rr.cell 0; have rrf0 := rr.free 0; have rrc1 := rr.cell 1; have rrf1 := rr.free 1; have rrc2 := rr.cell 2; have rrf2 := rr.free 2; have rrc3 := rr.cell 3; have rrf3 := rr.free 3; have rrl := rr.lt; simp at rrc0 rrc1 rrc2 rrc3; refine Blk.thru (b := (w.heap.size + 1)) (arr := ?_) (t := ?_) ?_ hb1 ?_; rotate_left 2; (focus (exact blk)); intro rq; have rqc0 := rq.cell 0; have rqf0 := rq.free 0; have rqc1 := rq.cell 1; have rqf1 := rq.free 1; have rqc2 := rq.cell 2; have rqf2 := rq.free 2; have rql := rq.lt; simp at rqc0 rqc1 rqc2) | (go_at_call 5; (with_reducible refine (r_CheckAir a _).mono ?_); rw [HA.out]; rintro e w2 ⟨rfl, hb2⟩; refine Blk.thru (b := w.heap.size) (arr := ?_) (t := ?_) ?_ hb2 ?_; rotate_left 2; (focus (exact blk)); intro rr; have rrc0 := rr.cell 0; have rrf0 := rr.free 0; have rrc1 := rr.cell 1; have rrf1 := rr.free 1; have rrc2 := rr.cell 2; have rrf2 := rr.free 2; have rrc3 := rr.cell 3; have rrf3 := rr.free 3; have rrl := rr.lt; simp at rrc0 rrc1 rrc2 rrc3; refine Blk.thru (b := (w.heap.size + 1)) (arr := ?_) (t := ?_) ?_ hb2 ?_; rotate_left 2; (focus (exact blk)); intro rq; have rqc0 := rq.cell 0; have rqf0 := rq.free 0; have rqc1 := rq.cell 1; have rqf1 := rq.free 1; have rqc2 := rq.cell 2; have rqf2 := rq.free 2; have rql := rq.lt; simp at rqc0 rqc1 rqc2) | (go_at_call 6; (with_reducible refine (Trim04.f_CheckLoads ay cy ys _ (hy.later (by (exact kpt)) (Nat.le_refl _)) hly hmy_).mono ?_); rw [HL.out]; rintro e w3 ⟨rfl, hb3⟩; refine Blk.thru (b := w.heap.size) (arr := ?_) (t := ?_) ?_ hb3 ?_; rotate_left 2; (focus (exact blk)); intro rr; have rrc0 := rr.cell 0; have rrf0 := rr.free 0; have rrc1 := rr.cell 1; have rrf1 := rr.free 1; have rrc2 := rr.cell 2; have rrf2 := rr.free 2; have rrc3 := rr.cell 3; have rrf3 := rr.free 3; have rrl := rr.lt; simp at rrc0 rrc1 rrc2 rrc3; refine Blk.thru (b := (w.heap.size + 1)) (arr := ?_) (t := ?_) ?_ hb3 ?_; rotate_left 2; (focus (exact blk)); intro rq; have rqc0 := rq.cell 0; have rqf0 := rq.free 0; have rqc1 := rq.cell 1; have rqf1 := rq.free 1; have rqc2 := rq.cell 2; have rqf2 := rq.free 2; have rql := rq.lt; simp at rqc0 rqc1 rqc2))
          go_ret
          exact ⟨rfl, by (exact kpt)⟩
        · have HA := Lib.hid (show checkAir a = 30 by unfold checkAir at h4 ⊢; split <;> simp_all)
          clear h h4
          go_enter Try.func3, Try.ntmps3
          go_wp2_with (first | (go_at_call 4; (with_reducible refine (t_alive _).mono ?_); rintro e w1 ⟨rfl, hb1⟩; refine Blk.thru (b := w.heap.size) (arr := ?_) (t := ?_) ?_ hb1 ?_; rotate_left 2; (focus (exact blk)); intro rr; have rrc0 := rr.cell 0; have rrf0 := rr.free 0; have rrc1 := rr.cell 1; have rrf1 := rr.free 1; have rrc2 := rr.cell 2; have rrf2 := rr.free 2; have rrc3 := rr.cell 3; have rrf3 := rr.free 3; have rrl := rr.lt; simp at rrc0 rrc1 rrc2 rrc3; refine Blk.thru (b := (w.heap.size + 1)) (arr := ?_) (t := ?_) ?_ hb1 ?_; rotate_left 2; (focus (exact blk)); intro rq; have rqc0 := rq.cell 0; have rqf0 := rq.free 0; have rqc1 := rq.cell 1; have rqf1 := rq.free 1; have rqc2 := rq.cell 2; have rqf2 := rq.free 2; have rql := rq.lt; simp at rqc0 rqc1 rqc2) | (go_at_call 5; (with_reducible refine (r_CheckAir a _).mono ?_); rw [HA.out]; rintro e w2 ⟨rfl, hb2⟩; refine Blk.thru (b := w.heap.size) (arr := ?_) (t := ?_) ?_ hb2 ?_; rotate_left 2; (focus (exact blk)); intro rr; have rrc0 := rr.cell 0; have rrf0 := rr.free 0; have rrc1 := rr.cell 1; have rrf1 := rr.free 1; have rrc2 := rr.cell 2; have rrf2 := rr.free 2; have rrc3 := rr.cell 3; have rrf3 := rr.free 3; have rrl := rr.lt; simp at rrc0 rrc1 rrc2 rrc3; refine Blk.thru (b := (w.heap.size + 1)) (arr := ?_) (t := ?_) ?_ hb2 ?_; rotate_left 2; (focus (exact blk)); intro rq; have rqc0 := rq.cell 0; have rqf0 := rq.free 0; have rqc1 := rq.cell 1; have rqf1 := rq.free 1; have rqc2 := rq.cell 2; have rqf2 := rq.free 2; have rql := rq.lt; simp at rqc0 rqc1 rqc2))
          go_ret
          exact ⟨rfl, by (exact kpt)⟩

theorem max4 (P : Program) (ats : Array TypeId) (t : TypeId) (p q r s : Int) (w : World) : (Builtin.max_ ats t #[.int .i64 p, .int .i64 q, .int .i64 r, .int .i64 s]).run P w = .ok (.int .i64 (max (max (max p q) r) s)) w := by
  have h2 : ∀ (x y : Int) (w : World), (Builtin.max2 (.int .i64 x) (.int .i64 y)).run P w = .ok (.int .i64 (max x y)) w := by
    intro x y w
    simp [Builtin.max2, go_sem]
    split <;> omega
  simp [Builtin.max_, go_sem, h2]
theorem min2_ (P : Program) (ats : Array TypeId) (t : TypeId) (p q : Int) (w : World) : (Builtin.min_ ats t #[.int .i64 p, .int .i64 q]).run P w = .ok (.int .i64 (min p q)) w := by
  have h2 : ∀ (x y : Int) (w : World), (Builtin.min2 (.int .i64 x) (.int .i64 y)).run P w = .ok (.int .i64 (min x y)) w := by
    intro x y w
    simp [Builtin.min2, go_sem]
    split <;> omega
  simp [Builtin.min_, go_sem, h2]
attribute [local go_sem] max4 min2_ ite_min ite_max
theorem law_far (cs : List Cell) (ps : List Int) (a : Air) (ys : List Load) (x : Limit) (t0 : Int) (bs : List Int) (ac ap ay ab : Option Addr) (cc cp cy cb : Nat) (w : World) (hc : Row Cell.cells 7 w.heap.size w ac cs) (hlc : cs.length ≤ cc) (hmc : cc ≤ maxLen) (hp : Row icell 1 w.heap.size w ap ps) (hlp : ps.length ≤ cp) (hmp : cp ≤ maxLen) (hy : Row Load.cells 4 w.heap.size w ay ys) (hly : ys.length ≤ cy) (hmy : cy ≤ maxLen) (hzy : ay = none → cy = 0) (hb : Row ucell 1 w.heap.size w ab bs) (hlb : bs.length ≤ cb) (hmb : cb ≤ maxLen) (ht : 0 ≤ t0 ∧ t0 ≤ 65535) (hbw : ∀ n ∈ bs, 0 ≤ n ∧ n ≤ 65535) (hxw : (-9223372036854775808 ≤ x.a ∧ x.a ≤ 9223372036854775807) ∧ (-9223372036854775808 ≤ x.b ∧ x.b ≤ 9223372036854775807) ∧ -9223372036854775808 ≤ x.c ∧ x.c ≤ 9223372036854775807) (h1 : cs.length ≤ 12) (h2 : cs.length ≤ ps.length) (h3 : ys.length ≤ 20) (h4 : checkAir a = 0) (h5 : checkLoads ys = 0)
    (h6 : ¬ ((-30 ≤ x.a ∧ x.a ≤ 30) ∧ (-30 ≤ x.b ∧ x.b ≤ 30) ∧ -100000000000000 ≤ x.c ∧ x.c ≤ 100000000000000)) : Calls Try.prog 3 #[.slice ac cs.length cc, .slice ap ps.length cp, .agg #[.int .i64 a.plo, .int .i64 a.phi, .int .i64 a.tlo, .int .i64 a.thi], .slice ay ys.length cy, .agg #[.int .i64 x.a, .int .i64 x.b, .int .i64 x.c], .int .u16 t0, .slice ab bs.length cb] w fun e w' => e = .returned (.bool true) ∧ Kept w w' := by
  have hmy_ : cy ≤ maxLen := hmy
  unfold maxLen at hmc hmp hmy hmb
  have HA := Lib.hid h4
  have HL := Lib.hid h5
  have e1 : decide ((12 : Int) < (cs.length : Int)) = false := by simp; omega
  have e3 : decide ((20 : Int) < (ys.length : Int)) = false := by simp; omega
  have H6 := Lib.hid h6
  clear h4 h5 h6
  go_enter Try.func3, Try.ntmps3
  go_upto_region 6 with (first | (go_at_call 4; (with_reducible refine (t_alive _).mono ?_); rintro e w1 ⟨rfl, hb1⟩; refine Blk.thru (b := w.heap.size) (arr := ?_) (t := ?_) ?_ hb1 ?_; rotate_left 2; (focus (exact blk)); intro rr; have rrc0 := rr.cell 0; have rrf0 := rr.free 0; have rrc1 := rr.cell 1; have rrf1 := rr.free 1; have rrc2 := rr.cell 2; have rrf2 := rr.free 2; have rrc3 := rr.cell 3; have rrf3 := rr.free 3; have rrl := rr.lt; simp at rrc0 rrc1 rrc2 rrc3; refine Blk.thru (b := (w.heap.size + 1)) (arr := ?_) (t := ?_) ?_ hb1 ?_; rotate_left 2; (focus (exact blk)); intro rq; have rqc0 := rq.cell 0; have rqf0 := rq.free 0; have rqc1 := rq.cell 1; have rqf1 := rq.free 1; have rqc2 := rq.cell 2; have rqf2 := rq.free 2; have rql := rq.lt; simp at rqc0 rqc1 rqc2) | (go_at_call 5; (with_reducible refine (r_CheckAir a _).mono ?_); rw [HA.out]; rintro e w2 ⟨rfl, hb2⟩; refine Blk.thru (b := w.heap.size) (arr := ?_) (t := ?_) ?_ hb2 ?_; rotate_left 2; (focus (exact blk)); intro rr; have rrc0 := rr.cell 0; have rrf0 := rr.free 0; have rrc1 := rr.cell 1; have rrf1 := rr.free 1; have rrc2 := rr.cell 2; have rrf2 := rr.free 2; have rrc3 := rr.cell 3; have rrf3 := rr.free 3; have rrl := rr.lt; simp at rrc0 rrc1 rrc2 rrc3; refine Blk.thru (b := (w.heap.size + 1)) (arr := ?_) (t := ?_) ?_ hb2 ?_; rotate_left 2; (focus (exact blk)); intro rq; have rqc0 := rq.cell 0; have rqf0 := rq.free 0; have rqc1 := rq.cell 1; have rqf1 := rq.free 1; have rqc2 := rq.cell 2; have rqf2 := rq.free 2; have rql := rq.lt; simp at rqc0 rqc1 rqc2) | (go_at_call 6; (with_reducible refine (Trim04.f_CheckLoads ay cy ys _ (hy.later (by (exact kpt)) (Nat.le_refl _)) hly hmy_).mono ?_); rw [HL.out]; rintro e w3 ⟨rfl, hb3⟩; refine Blk.thru (b := w.heap.size) (arr := ?_) (t := ?_) ?_ hb3 ?_; rotate_left 2; (focus (exact blk)); intro rr; have rrc0 := rr.cell 0; have rrf0 := rr.free 0; have rrc1 := rr.cell 1; have rrf1 := rr.free 1; have rrc2 := rr.cell 2; have rrf2 := rr.free 2; have rrc3 := rr.cell 3; have rrf3 := rr.free 3; have rrl := rr.lt; simp at rrc0 rrc1 rrc2 rrc3; refine Blk.thru (b := (w.heap.size + 1)) (arr := ?_) (t := ?_) ?_ hb3 ?_; rotate_left 2; (focus (exact blk)); intro rq; have rqc0 := rq.cell 0; have rqf0 := rq.free 0; have rqc1 := rq.cell 1; have rqf1 := rq.free 1; have rqc2 := rq.cell 2; have rqf2 := rq.free 2; have rql := rq.lt; simp at rqc0 rqc1 rqc2))
  all_goals first | (go_ret; exact ⟨rfl, by (exact kpt)⟩) | (exfalso; have h6 := H6.out; omega)

end Go.Proofs.Ytheahhmlmpameaa

/-
  In trim whatever the air: the walk.
-/
namespace Go.Proofs.Ytheahhmlmpameaa
open Go.RowKit Bal Bal.Trim Bal.Gas Bal.Top
set_option linter.unusedVariables false
set_option linter.unusedSimpArgs false
set_option maxHeartbeats 8000000
set_option maxRecDepth 100000
attribute [local go_sem] max4 min2_ ite_min ite_max

theorem ucell_row {B : Nat} {w : World} {a : Option Addr} {xs : List Int} (h : Row ucell 1 B w a xs) (i : Nat) (hi : i < xs.length) :
    ∃ b off, a = some ⟨b, off, none⟩ ∧ b < B ∧ w.cell? ⟨b, off + i, none⟩ = some (.int .u16 xs[i]) := by
  obtain ⟨b, off, ha, hb, hc⟩ := h i xs[i] (by simp [hi])
  exact ⟨b, off, ha, hb, by simpa using hc 0 _ rfl⟩
theorem infoLoadT : (Try.prog.info? 43).map (fun i => (i.zero, i.size, i.bytes)) = some (some (.agg #[.int .i64 0, .int .i64 0, .int .i64 0, .int .i64 0]), 4, 32) := by kernel_rfl
theorem cells_fourT (w : World) (p q r s : Value) (t : TypeId) : ∀ j u, [p, q, r, s][j]? = some u → (w.alloc (.cells #[p, q, r, s] t)).cell? ((⟨w.heap.size, 0, none⟩ : Addr).add j) = some u := by
  intro j u h
  match j, h with
  | 0, h => simp at h; subst h; simp [Addr.add]
  | 1, h => simp at h; subst h; simp [Addr.add]
  | 2, h => simp at h; subst h; simp [Addr.add]
  | 3, h => simp at h; subst h; simp [Addr.add]
theorem t_Breach (x : Limit) (L : List Load) (ad : Option Addr) (cpl m : Nat) (w : World) (hrow : Row Load.cells 4 w.heap.size w ad L) (hcl : L.length ≤ cpl) (hcm : cpl ≤ maxLen) (hb : Blk w m #[.int .i64 x.a, .int .i64 x.b, .int .i64 x.c] 30) :
    Calls Try.prog 9 #[.slice ad L.length cpl, .slice (some ⟨m, 0, none⟩) 1 1] w fun e w' => ∃ (a' : Option Addr) (n' c' : Nat), e = .returned (.tuple #[.agg #[.int .i64 (breachN L [x]), .slice a' n' c'], .int .i64 (breachE L [x])]) ∧ Kept w w' := by
  refine (Trim04.f_Breach ad cpl L (some ⟨m, 0, none⟩) 1 [x] w hrow hcl hcm (Row.one hb rfl) (by simp) (by simp [maxLen])).mono ?_
  rintro e w' ⟨v, he, ho, hk⟩
  obtain ⟨a', c', rfl, _⟩ := owns_row (enc := Put.cells) (k := 2) (fun _ => rfl) ho
  exact ⟨a', _, c', he, hk⟩
theorem law_near (cs : List Cell) (ps : List Int) (a : Air) (ys : List Load) (x : Limit) (t0 : Int) (bs : List Int) (ac ap ay ab : Option Addr) (cc cp cy cb : Nat) (w : World) (hc : Row Cell.cells 7 w.heap.size w ac cs) (hlc : cs.length ≤ cc) (hmc : cc ≤ maxLen) (hp : Row icell 1 w.heap.size w ap ps) (hlp : ps.length ≤ cp) (hmp : cp ≤ maxLen) (hy : Row Load.cells 4 w.heap.size w ay ys) (hly : ys.length ≤ cy) (hmy : cy ≤ maxLen) (hzy : ay = none → cy = 0) (hb : Row ucell 1 w.heap.size w ab bs) (hlb : bs.length ≤ cb) (hmb : cb ≤ maxLen) (ht : 0 ≤ t0 ∧ t0 ≤ 65535) (hbw : ∀ n ∈ bs, 0 ≤ n ∧ n ≤ 65535) (hxw : (-9223372036854775808 ≤ x.a ∧ x.a ≤ 9223372036854775807) ∧ (-9223372036854775808 ≤ x.b ∧ x.b ≤ 9223372036854775807) ∧ -9223372036854775808 ≤ x.c ∧ x.c ≤ 9223372036854775807) (h1 : cs.length ≤ 12) (h2 : cs.length ≤ ps.length) (h3 : ys.length ≤ 20) (h4 : checkAir a = 0) (h5 : checkLoads ys = 0) (h6 : (-30 ≤ x.a ∧ x.a ≤ 30) ∧ (-30 ≤ x.b ∧ x.b ≤ 30) ∧ -100000000000000 ≤ x.c ∧ x.c ≤ 100000000000000) : Calls Try.prog 3 #[.slice ac cs.length cc, .slice ap ps.length cp, .agg #[.int .i64 a.plo, .int .i64 a.phi, .int .i64 a.tlo, .int .i64 a.thi], .slice ay ys.length cy, .agg #[.int .i64 x.a, .int .i64 x.b, .int .i64 x.c], .int .u16 t0, .slice ab bs.length cb] w fun e w' => e = .returned (.bool true) ∧ Kept w w' := by
  have hmy_ : cy ≤ maxLen := hmy
  unfold maxLen at hmc hmp hmy hmb
  have hair : airB a = true := by unfold checkAir at h4; split at h4 <;> simp_all
  have HA := Lib.hid h4
  have HL := Lib.hid h5
  have HAIR := Lib.hid hair
  have hab := airB_iff.1 hair
  have e1 : decide ((12 : Int) < (cs.length : Int)) = false := by simp; omega
  have e3 : decide ((20 : Int) < (ys.length : Int)) = false := by simp; omega
  obtain ⟨⟨xa0, xa1⟩, ⟨xb0, xb1⟩, xc0, xc1⟩ := h6
  clear h4 h5 hair hxw
  go_enter Try.func3, Try.ntmps3
  go_upto_region 6 with (first | (go_at_call 4; (with_reducible refine (t_alive _).mono ?_); rintro e w1 ⟨rfl, hb1⟩; refine Blk.thru (b := w.heap.size) (arr := ?_) (t := ?_) ?_ hb1 ?_; rotate_left 2; (focus (exact blk)); intro rr; have rrc0 := rr.cell 0; have rrf0 := rr.free 0; have rrc1 := rr.cell 1; have rrf1 := rr.free 1; have rrc2 := rr.cell 2; have rrf2 := rr.free 2; have rrc3 := rr.cell 3; have rrf3 := rr.free 3; have rrl := rr.lt; simp at rrc0 rrc1 rrc2 rrc3; refine Blk.thru (b := (w.heap.size + 1)) (arr := ?_) (t := ?_) ?_ hb1 ?_; rotate_left 2; (focus (exact blk)); intro rq; have rqc0 := rq.cell 0; have rqf0 := rq.free 0; have rqc1 := rq.cell 1; have rqf1 := rq.free 1; have rqc2 := rq.cell 2; have rqf2 := rq.free 2; have rql := rq.lt; simp at rqc0 rqc1 rqc2) | (go_at_call 5; (with_reducible refine (r_CheckAir a _).mono ?_); rw [HA.out]; rintro e w2 ⟨rfl, hb2⟩; refine Blk.thru (b := w.heap.size) (arr := ?_) (t := ?_) ?_ hb2 ?_; rotate_left 2; (focus (exact blk)); intro rr; have rrc0 := rr.cell 0; have rrf0 := rr.free 0; have rrc1 := rr.cell 1; have rrf1 := rr.free 1; have rrc2 := rr.cell 2; have rrf2 := rr.free 2; have rrc3 := rr.cell 3; have rrf3 := rr.free 3; have rrl := rr.lt; simp at rrc0 rrc1 rrc2 rrc3; refine Blk.thru (b := (w.heap.size + 1)) (arr := ?_) (t := ?_) ?_ hb2 ?_; rotate_left 2; (focus (exact blk)); intro rq; have rqc0 := rq.cell 0; have rqf0 := rq.free 0; have rqc1 := rq.cell 1; have rqf1 := rq.free 1; have rqc2 := rq.cell 2; have rqf2 := rq.free 2; have rql := rq.lt; simp at rqc0 rqc1 rqc2) | (go_at_call 6; (with_reducible refine (Trim04.f_CheckLoads ay cy ys _ (hy.later (by (exact kpt)) (Nat.le_refl _)) hly hmy_).mono ?_); rw [HL.out]; rintro e w3 ⟨rfl, hb3⟩; refine Blk.thru (b := w.heap.size) (arr := ?_) (t := ?_) ?_ hb3 ?_; rotate_left 2; (focus (exact blk)); intro rr; have rrc0 := rr.cell 0; have rrf0 := rr.free 0; have rrc1 := rr.cell 1; have rrf1 := rr.free 1; have rrc2 := rr.cell 2; have rrf2 := rr.free 2; have rrc3 := rr.cell 3; have rrf3 := rr.free 3; have rrl := rr.lt; simp at rrc0 rrc1 rrc2 rrc3; refine Blk.thru (b := (w.heap.size + 1)) (arr := ?_) (t := ?_) ?_ hb3 ?_; rotate_left 2; (focus (exact blk)); intro rq; have rqc0 := rq.cell 0; have rqf0 := rq.free 0; have rqc1 := rq.cell 1; have rqf1 := rq.free 1; have rqc2 := rq.cell 2; have rqf2 := rq.free 2; have rql := rq.lt; simp at rqc0 rqc1 rqc2))
  refine at_world (S := fun WB => Blk WB w.heap.size #[.int .i64 a.plo, .int .i64 a.phi, .int .i64 a.tlo, .int .i64 a.thi] 27 ∧ Blk WB (w.heap.size + 1) #[.int .i64 x.a, .int .i64 x.b, .int .i64 x.c] 30 ∧ Kept w WB) ⟨by (exact blkc), by (exact blkc), by (exact kpt)⟩ ?_
  rintro WB ⟨b0, b1, hkB⟩
  have HO := Lib.hid (owns_made (α := Load) (enc := Load.cells) (base := WB.heap.size) (k := 4) (n := WB.heap.size) (e := 43) (w := WB) rfl (Nat.le_refl _))
  go_wp2_with (at_builtin; obtain ⟨i0, hi, hz0, hz1, hz2⟩ := info_parts infoLoadT; refine wpList_append_list (enc := Load.cells) rfl _ _ 28 rfl WB.heap.size 43 i0 (.agg #[.int .i64 0, .int .i64 0, .int .i64 0, .int .i64 0]) 4 32 Try.underlying28 hi hz0 hz1 hz2 rfl (by decide) (fun _ => rfl) (fun x u hu => by simp [Load.cells] at hu; rcases hu with rfl | rfl | rfl | rfl <;> rfl) _ [] rfl HO.out ay cy ys rfl hzy (B := w.heap.size) (hy.keep (by (exact kpt)) (Nat.le_refl _)) (by simp [maxLen]; omega) (by simp; omega) (by simp) ?_; intro v9 w9 hown9 hgrow9; clear hi hz0 hz1 hz2)
  have hk9 : Kept WB w9 := Kept.grown (Kept.alloc (Below.refl _ _) _) HO.out (Nat.le_refl _) hgrow9
  rw [List.nil_append] at hown9
  clear hgrow9
  go_loopw [16, 100] (fun v0 i wq => ∃ (k : Nat) (v : Value), v = v0 ∧ k ≤ cs.length ∧ i = .int .i64 k ∧ wq.ownsRow WB.heap.size 43 4 v (ys ++ cellLoads a cs ps k).length ((ys ++ cellLoads a cs ps k).flatMap Load.cells) ∧ Kept WB wq ∧ (∀ j, j < k → cellB (cs.getD j default) = true ∧ -2000 ≤ ps.getD j 0 ∧ ps.getD j 0 ≤ 2000)) (fun _ i _ => cs.length - (intOf i).toNat)
  case atStart => exact ⟨0, _, rfl, Nat.zero_le _, rfl, by simpa [cellLoads] using hown9, hk9, fun j hj => by omega⟩
  case round =>
    clear hown9 hk9
    obtain ⟨k, v, rfl, hk, rfl, hown, hkq, hall⟩ := hrel
    have HALL := Lib.hid hall
    clear hall
    have hkw := Kept.drop hkB hkq
    have hzq := hkq.size
    have n0 := b0.keep hkq
    have n1 := b1.keep hkq
    have hlen : (ys ++ cellLoads a cs ps k).length ≤ 40 := by rw [List.length_append, cellLoads_len]; omega
    by_cases hlt : k < cs.length
    · obtain ⟨bc, oc, rfl, hbc, c0, c1, c2, c3, c4, c5, c6⟩ := Cell.row (hc.later hkw (Nat.le_refl _)) k hlt
      obtain ⟨bp, op, rfl, hbp, p0⟩ := int_row (hp.later hkw (Nat.le_refl _)) k (by omega)
      have hkp : k < ps.length := by omega
      obtain ⟨c, hcc⟩ : ∃ c, c = cs[k] := ⟨_, rfl⟩
      obtain ⟨PK, hpk⟩ : ∃ n, n = ps[k] := ⟨_, rfl⟩
      have HCK := Lib.hid (show cs.getD k default = c by rw [hcc]; simp [hlt])
      have HPK := Lib.hid (show ps.getD k 0 = PK by rw [hpk]; simp [hkp])
      rw [← hcc] at c0 c1 c2 c3 c4 c5 c6
      rw [← hpk] at p0
      clear hcc hpk
      have n0c0 := n0.cell 0
      have n0f0 := n0.free 0
      have n0c1 := n0.cell 1
      have n0f1 := n0.free 1
      have n0c2 := n0.cell 2
      have n0f2 := n0.free 2
      have n0c3 := n0.cell 3
      have n0f3 := n0.free 3
      have n0l := n0.lt
      simp at n0c0 n0c1 n0c2 n0c3
      cases hv : cellB c
      · have HV := Lib.hid hv
        clear hv
        go_wp2_with (go_at_call 7; (with_reducible refine (f_Lift_bad c a _ HV.out).mono ?_); rintro e w5 ⟨rfl, hb5⟩)
        go_ret
        exact ⟨rfl, by (exact kpt)⟩
      · have HV := Lib.hid hv
        have hlb := lift_bd hv HAIR.out
        clear hv
        obtain ⟨LO, hLO⟩ : ∃ n, n = liftLo c a := ⟨_, rfl⟩
        obtain ⟨HI, hHI⟩ : ∃ n, n = liftHi c a := ⟨_, rfl⟩
        have HLO := Lib.hid hLO.symm
        have HHI := Lib.hid hHI.symm
        rw [← hLO, ← hHI] at hlb
        clear hLO hHI
        by_cases hpl : -2000 ≤ PK ∧ PK ≤ 2000
        · obtain ⟨pl0, pl1⟩ := hpl
          have HCL := Lib.hid (show ys ++ cellLoads a cs ps (k + 1) = (ys ++ cellLoads a cs ps k) ++ [⟨PK, PK, -HI, -LO⟩] by rw [cellLoads_succ, HCK.out, HPK.out, ← List.append_assoc]; simp only [cellLoad, HLO.out, HHI.out])
          go_upto_region 13 with (go_at_call 7; (with_reducible refine (f_Lift_ok c a _ HV.out HAIR.out).mono ?_); rw [HLO.out, HHI.out]; rintro e w5 ⟨rfl, hb5⟩; have p5 := ((show Kept wr w5 by (exact kpt)).cell (p := ⟨bp, op + k, none⟩) hbp).trans p0; have l5 : bp < w5.heap.size := Nat.lt_of_lt_of_le hbp (show Kept wr w5 by (exact kpt)).size)
          refine at_world (S := fun V => Blk V w5.heap.size #[.int .i64 LO, .int .i64 HI] 25 ∧ V.ownsRow WB.heap.size 43 4 v (ys ++ cellLoads a cs ps k).length ((ys ++ cellLoads a cs ps k).flatMap Load.cells) ∧ Kept WB V) ⟨by (exact blkc), owns_keep hown (by (exact kpt)), by (exact kpt)⟩ ?_
          clear p5 l5 hown hkq hkw n0 n1 n0c0 n0f0 n0c1 n0f1 n0c2 n0f2 n0c3 n0f3 n0l c0 c1 c2 c3 c4 c5 c6
          rintro V ⟨b19, hown, hkV⟩
          have hzV := hkV.size
          clear p0
          obtain ⟨_, _, hge, _, p0⟩ := int_row (hp.later (Kept.drop hkB hkV) (Nat.le_refl _)) k hkp
          cases hge
          rw [show ps[k] = PK by rw [← HPK.out]; simp [hkp]] at p0
          have y0 := fun g : Later V => g.some p0
          have b19c0 := fun g : Later V => (b19.later g).cell 0
          have b19f0 := fun g : Later V => (b19.later g).free 0
          have b19c1 := fun g : Later V => (b19.later g).cell 1
          have b19f1 := fun g : Later V => (b19.later g).free 1
          have b19l := fun g : Later V => (b19.later g).lt
          simp at b19c0 b19c1
          have g1 := i64_inT (n := -HI) (by omega)
          have g2 := i64_inT (n := -LO) (by omega)
          have j0 : (0 : Int) ≤ (k : Int) := by omega
          have j1 : (k : Int) < (ps.length : Int) := by omega
          refine later_mix [(true, 0), (false, 1), (false, 2), (false, 3), (false, 4), (false, 5), (false, 6), (false, 7), (false, 8), (false, 9), (false, 10), (false, 11), (false, 12), (false, 13)] 14 [15, 16] (by kernel_rfl) (by kernel_rfl) ?_
          simp only [List.filterMap_cons, List.filterMap_nil, List.getElem?_cons_zero, List.getElem?_cons_succ, Option.map_some]
          refine wpSteps_any _ rfl (fun w => rfl) ?_
          simp only [Act.put, List.setIfInBounds_toArray, List.set_cons_zero, List.set_cons_succ]
          repeat (refine wpSteps_quiet ?_; (first | go_big_quiet_skip | (go_big_quiet_want; go_big_quiet_op; first | go_big_quiet_on | (apply Exists.intro; refine ⟨fun g => ?_, ?_⟩; (focus (first | (go_at_call 8; with_reducible exact Later.call (t_one PK _)))); go_big_quiet_on))); refine wpQuiet_nil ?_)
          refine wpSteps_nil ?_
          intro gg
          have hown1 := owns_keep hown gg.ok
          refine wpList_plain rfl fun K1 hK1 => ?_
          go_simp
          refine hK1 _ _ ?_
          (obtain ⟨i0, hi, hz0, hz1, hz2⟩ := info_parts infoLoadT; refine wpList_append_own _ rfl _ _ 28 rfl WB.heap.size 43 i0 (.agg #[.int .i64 0, .int .i64 0, .int .i64 0, .int .i64 0]) 4 32 Try.underlying28 hi hz0 hz1 hz2 rfl (by decide) _ _ _ rfl (hown1.alloc _) ⟨_, 0, none⟩ 1 1 [.int .i64 PK, .int .i64 PK, .int .i64 (-HI), .int .i64 (-LO)] rfl rfl (cells_fourT _ _ _ _ _ _) (by intro x hx; simp only [List.mem_cons, List.not_mem_nil, or_false] at hx; rcases hx with rfl | rfl | rfl | rfl <;> rfl) (by unfold maxLen; omega) (by omega) (by have := gg.ok.size; simp only [World.size_alloc] at this ⊢; omega) ?_; intro v9 w9 hown9 hgrow9 hnil9; clear hi hz0 hz1 hz2)
          have hK9 : Kept WB w9 := Kept.grown (Kept.alloc (Kept.drop hkV gg.ok) _) (hown1.alloc _) (Nat.le_refl _) hgrow9
          go_wp2
          refine NoPanic.normal ?_
          go_wp2
          go_roundw
          case rel =>
            refine ⟨k + 1, _, rfl, by omega, by go_num, by rw [HCL.out, List.flatMap_append, List.length_append]; exact hown9, hK9, fun j hj => ?_⟩
            by_cases hjk : j < k
            · exact HALL.out j hjk
            · obtain rfl : j = k := by omega
              rw [HCK.out, HPK.out]
              exact ⟨HV.out, pl0, pl1⟩
          case measure => simp [intOf]; omega
        · by_cases hp1 : 2000 < PK
          · go_wp2_with (go_at_call 7; (with_reducible refine (f_Lift_ok c a _ HV.out HAIR.out).mono ?_); rw [HLO.out, HHI.out]; rintro e w5 ⟨rfl, hb5⟩; have p5 := ((show Kept wr w5 by (exact kpt)).cell (p := ⟨bp, op + k, none⟩) hbp).trans p0; have l5 : bp < w5.heap.size := Nat.lt_of_lt_of_le hbp (show Kept wr w5 by (exact kpt)).size)
            go_ret
            exact ⟨rfl, by (exact kpt)⟩
          · have hp2 : PK < -2000 := by omega
            go_wp2_with (go_at_call 7; (with_reducible refine (f_Lift_ok c a _ HV.out HAIR.out).mono ?_); rw [HLO.out, HHI.out]; rintro e w5 ⟨rfl, hb5⟩; have p5 := ((show Kept wr w5 by (exact kpt)).cell (p := ⟨bp, op + k, none⟩) hbp).trans p0; have l5 : bp < w5.heap.size := Nat.lt_of_lt_of_le hbp (show Kept wr w5 by (exact kpt)).size)
            go_ret
            exact ⟨rfl, by (exact kpt)⟩
    · obtain rfl : k = cs.length := by omega
      have hok := HALL.out
      clear HALL
      have hlo := loads_ok HAIR.out HL.out h3 h1 hok
      have HOK := Lib.hid hok
      have HCB := Lib.hid (show ∀ c ∈ cs, cellB c = true from fun c hcm => by obtain ⟨j, hj, rfl⟩ := List.mem_iff_getElem.1 hcm; have := (hok j hj).1; rwa [show cs.getD j default = cs[j] by simp [hj]] at this)
      clear hok
      have hbo := both_one hlo (m := x) ⟨⟨xa0, xa1⟩, ⟨xb0, xb1⟩, xc0, xc1⟩
      obtain ⟨L, hLL⟩ : ∃ L, L = ys ++ cellLoads a cs ps cs.length := ⟨_, rfl⟩
      rw [← hLL] at hown hlen hlo hbo
      obtain ⟨ad, cpl, rfl, hrow, hcl, hcm⟩ := owns_row (enc := Load.cells) (k := 4) (fun _ => rfl) hown
      clear hown
      have n0c0 := n0.cell 0
      have n0f0 := n0.free 0
      have n0c1 := n0.cell 1
      have n0f1 := n0.free 1
      have n0c2 := n0.cell 2
      have n0f2 := n0.free 2
      have n0c3 := n0.cell 3
      have n0f3 := n0.free 3
      have n0l := n0.lt
      simp at n0c0 n0c1 n0c2 n0c3
      have n1c0 := n1.cell 0
      have n1f0 := n1.free 0
      have n1c1 := n1.cell 1
      have n1f1 := n1.free 1
      have n1c2 := n1.cell 2
      have n1f2 := n1.free 2
      have n1l := n1.lt
      simp at n1c0 n1c1 n1c2
      by_cases hbk : x.c < worstV x L
      · have HBE := Lib.hid (show breachE L [x] = 0 by unfold breachE; rw [if_pos hbo, broken_one, if_pos hbk])
        clear hbk hbo hlo hLL
        go_wp2_with (go_at_call 9; (with_reducible refine (t_Breach x L ad cpl _ _ (hrow.later (by (exact kpt)) (Nat.le_refl _)) hcl hcm (by (exact blk))).mono ?_); rw [HBE.out]; rintro e w6 ⟨a6, n6, c6, rfl, hb6⟩; refine Blk.thru (b := (w.heap.size + 1)) (arr := ?_) (t := ?_) ?_ hb6 ?_; rotate_left 2; (focus (exact blk)); intro rq; have rqc0 := rq.cell 0; have rqf0 := rq.free 0; have rqc1 := rq.cell 1; have rqf1 := rq.free 1; have rqc2 := rq.cell 2; have rqf2 := rq.free 2; have rql := rq.lt; simp at rqc0 rqc1 rqc2; refine Blk.thru (b := w.heap.size) (arr := ?_) (t := ?_) ?_ hb6 ?_; rotate_left 2; (focus (exact blk)); intro rr; have rrc0 := rr.cell 0; have rrf0 := rr.free 0; have rrc1 := rr.cell 1; have rrf1 := rr.free 1; have rrc2 := rr.cell 2; have rrf2 := rr.free 2; have rrc3 := rr.cell 3; have rrf3 := rr.free 3; have rrl := rr.lt; simp at rrc0 rrc1 rrc2 rrc3)
        go_ret
        exact ⟨rfl, by (exact kpt)⟩
      · have HBE := Lib.hid (show breachE L [x] = 6 by unfold breachE; rw [if_pos hbo, broken_one, if_neg hbk])
        have HWV := Lib.hid (show worstV x (ys ++ cellLoads a cs ps cs.length) ≤ x.c by rw [← hLL]; omega)
        clear hbk hbo hlo hLL
        have HYV := Lib.hid (checkLoads_ok HL.out).2
        obtain ⟨T, hT⟩ : ∃ T, T = ins a.tlo a.thi t0 := ⟨_, rfl⟩
        have hti := ins_in t0 (show a.tlo ≤ a.thi by omega)
        rw [← hT] at hti
        have HT := Lib.hid hT.symm
        clear hT
        obtain ⟨ht1, ht2⟩ := hti
        go_upto_region 19 with (first | (go_at_call 9; (with_reducible refine (t_Breach x L ad cpl _ _ (hrow.later (by (exact kpt)) (Nat.le_refl _)) hcl hcm (by (exact blk))).mono ?_); rw [HBE.out]; rintro e w6 ⟨a6, n6, c6, rfl, hb6⟩; refine Blk.thru (b := (w.heap.size + 1)) (arr := ?_) (t := ?_) ?_ hb6 ?_; rotate_left 2; (focus (exact blk)); intro rq; have rqc0 := rq.cell 0; have rqf0 := rq.free 0; have rqc1 := rq.cell 1; have rqf1 := rq.free 1; have rqc2 := rq.cell 2; have rqf2 := rq.free 2; have rql := rq.lt; simp at rqc0 rqc1 rqc2; refine Blk.thru (b := w.heap.size) (arr := ?_) (t := ?_) ?_ hb6 ?_; rotate_left 2; (focus (exact blk)); intro rr; have rrc0 := rr.cell 0; have rrf0 := rr.free 0; have rrc1 := rr.cell 1; have rrf1 := rr.free 1; have rrc2 := rr.cell 2; have rrf2 := rr.free 2; have rrc3 := rr.cell 3; have rrf3 := rr.free 3; have rrl := rr.lt; simp at rrc0 rrc1 rrc2 rrc3) | (go_at_call 10; (with_reducible refine (t_inside a.tlo a.thi t0 _ (by omega) (by omega) (by omega) ht).mono ?_); rw [HT.out]; rintro e w7 ⟨rfl, hb7⟩))
        refine at_world (S := fun W => Blk W w.heap.size #[.int .i64 a.plo, .int .i64 a.phi, .int .i64 a.tlo, .int .i64 a.thi] 27 ∧ Blk W (w.heap.size + 1) #[.int .i64 x.a, .int .i64 x.b, .int .i64 x.c] 30 ∧ Kept w W) ⟨by (exact blkc), by (exact blkc), by (exact kpt)⟩ ?_
        clear b0 b1 hkB n0 n1 n0c0 n0f0 n0c1 n0f1 n0c2 n0f2 n0c3 n0f3 n0l n1c0 n1f0 n1c1 n1f1 n1c2 n1f2 n1l rqc0 rqf0 rqc1 rqf1 rqc2 rqf2 rql rrc0 rrf0 rrc1 rrf1 rrc2 rrf2 rrc3 rrf3 rrl
        rintro W ⟨b0, b1, hkB⟩
        go_wp2
        go_loopw [24, 165] (fun v i wq => ∃ k : Nat, k ≤ ys.length ∧ i = .int .i64 k ∧ v = .int .i64 (moreV T x ys bs k) ∧ (∀ j, j < k → -2000 ≤ (ys.getD j default).alo ∧ (ys.getD j default).alo ≤ 2000) ∧ Kept W wq) (fun _ i _ => ys.length - (intOf i).toNat)
        case atStart => exact ⟨0, Nat.zero_le _, rfl, rfl, fun j hj => by omega, Below.refl _ _⟩
        case round =>
          obtain ⟨k, hk, rfl, rfl, hall, hkq⟩ := hrel
          have HALL := Lib.hid hall
          have hmb_ := more_bd (t := T) x ys bs (by omega) ⟨⟨xa0, xa1⟩, xb0, xb1⟩ HYV.out k hk hall
          have hkc : (k : Int) ≤ 20 := by omega
          have hmb1 : -4511970518630400000 ≤ moreV T x ys bs k ∧ moreV T x ys bs k ≤ 4511970518630400000 := by omega
          clear hall hmb_
          have hkw := Kept.drop hkB hkq
          have n1 := b1.keep hkq
          by_cases hlt : k < ys.length
          · obtain ⟨bl, ol, rfl, hbl, l0, l1, l2, l3⟩ := Load.row (hy.later hkw (Nat.le_refl _)) k hlt
            obtain ⟨y, hyy⟩ : ∃ y, y = ys[k] := ⟨_, rfl⟩
            have HYK := Lib.hid (show ys.getD k default = y by rw [hyy]; simp [hlt])
            have hyb := loadB_bd (HYV.out y (by rw [hyy]; exact List.getElem_mem hlt))
            rw [← hyy] at l0 l1 l2 l3
            clear hyy
            by_cases hN : (-2000 ≤ y.alo ∧ y.alo ≤ 2000) ∧ -1000000000 ≤ y.wlo ∧ y.wlo ≤ 1000000000
            · obtain ⟨⟨y0, y1⟩, y2, y3⟩ := hN
              by_cases hkb : k < bs.length
              · obtain ⟨bb, ob, rfl, hbb, u0⟩ := ucell_row (hb.later hkw (Nat.le_refl _)) k hkb
                obtain ⟨N, hN⟩ : ∃ n, n = bs[k] := ⟨_, rfl⟩
                have HBK := Lib.hid (show bs.getD k 0 = N by rw [hN]; simp [hkb])
                have hnb := hbw N (by rw [hN]; exact List.getElem_mem hkb)
                rw [← hN] at u0
                clear hN
                go_upto_region 28 with fail
                clear l0 l1 l2 l3 u0
                obtain ⟨IV, hIV⟩ : ∃ v, v = ins y.wlo y.whi N := ⟨_, rfl⟩
                have hiv := ins_in N (show y.wlo ≤ y.whi by omega)
                rw [← hIV] at hiv
                obtain ⟨hi1, hi2⟩ := hiv
                have HIN := fun (W : World) => t_inside y.wlo y.whi N W (by omega) (by omega) (by omega) (by omega)
                rw [← hIV] at HIN
                have HEQ := Lib.hid (show moreV T x ys bs (k + 1) = moreV T x ys bs k + T * IV * (x.a + x.b * y.alo) by rw [moreV, HYK.out, HBK.out, ← hIV])
                clear hIV
                refine at_world (S := fun V => Blk V wr.heap.size #[.int .i64 y.alo, .int .i64 y.ahi, .int .i64 y.wlo, .int .i64 y.whi] 43 ∧ Blk V (w.heap.size + 1) #[.int .i64 x.a, .int .i64 x.b, .int .i64 x.c] 30 ∧ Kept W V) ⟨by (exact blkc), by (exact blkc), by (exact kpt)⟩ ?_
                rintro V ⟨q0, q1, hkV⟩
                have q0c0 := fun g : Later V => (q0.later g).cell 0
                have q0f0 := fun g : Later V => (q0.later g).free 0
                have q0c1 := fun g : Later V => (q0.later g).cell 1
                have q0f1 := fun g : Later V => (q0.later g).free 1
                have q0c2 := fun g : Later V => (q0.later g).cell 2
                have q0f2 := fun g : Later V => (q0.later g).free 2
                have q0c3 := fun g : Later V => (q0.later g).cell 3
                have q0f3 := fun g : Later V => (q0.later g).free 3
                have q0l := fun g : Later V => (q0.later g).lt
                simp at q0c0 q0c1 q0c2 q0c3
                have q1c0 := fun g : Later V => (q1.later g).cell 0
                have q1f0 := fun g : Later V => (q1.later g).free 0
                have q1c1 := fun g : Later V => (q1.later g).cell 1
                have q1f1 := fun g : Later V => (q1.later g).free 1
                have q1c2 := fun g : Later V => (q1.later g).cell 2
                have q1f2 := fun g : Later V => (q1.later g).free 2
                have q1l := fun g : Later V => (q1.later g).lt
                simp at q1c0 q1c1 q1c2
                have p1 := mul_bd (A := 3500) (B := 1073741824) (x := T) (y := IV) (by omega) (by omega) (by omega) (by omega)
                have p2 := mul_bd (A := 30) (B := 2000) (x := x.b) (y := y.alo) (by omega) (by omega) (by omega) (by omega)
                have p3 := mul_bd (A := 3758096384000) (B := 60030) (x := T * IV) (y := x.a + x.b * y.alo) (by omega) (by omega) (by omega) (by omega)
                have g1 := i64_inT (n := T * IV) (by omega)
                have g2 := i64_inT (n := x.b * y.alo) (by omega)
                have g3 := i64_inT (n := x.a + x.b * y.alo) (by omega)
                have g4 := i64_inT (n := T * IV * (x.a + x.b * y.alo)) (by omega)
                have g5 := i64_inT (n := moreV T x ys bs k + T * IV * (x.a + x.b * y.alo)) (by omega)
                clear p1 p2 p3
                refine Later.region (by kernel_rfl) (by kernel_rfl) ?_
                repeat (first | go_big_quiet_skip | (go_big_quiet_want; go_big_quiet_op; first | go_big_quiet_on | (apply Exists.intro; refine ⟨fun g_ => ?_, ?_⟩; (focus (first | (go_at_call 10; with_reducible exact Later.call (HIN _)))); go_big_quiet_on)))
                refine wpQuiet_nil ?_
                intro gg
                have hkg := Kept.drop hkV gg.ok
                go_wp2
                go_round
                case rel =>
                  refine ⟨k + 1, by omega, by go_num, by rw [HEQ.out], fun j hj => ?_, hkg⟩
                  by_cases hjk : j < k
                  · exact HALL.out j hjk
                  · obtain rfl : j = k := by omega
                    rw [HYK.out]; exact ⟨y0, y1⟩
                case measure => simp [intOf]; omega
              · have HBK := Lib.hid (show bs.getD k 0 = 0 by rw [List.getD_eq_getElem?_getD, List.getElem?_eq_none (by omega)]; rfl)
                go_upto_region 28 with fail
                clear l0 l1 l2 l3
                obtain ⟨IV, hIV⟩ : ∃ v, v = ins y.wlo y.whi 0 := ⟨_, rfl⟩
                have hiv := ins_in 0 (show y.wlo ≤ y.whi by omega)
                rw [← hIV] at hiv
                obtain ⟨hi1, hi2⟩ := hiv
                have HIN := fun (W : World) => t_inside y.wlo y.whi 0 W (by omega) (by omega) (by omega) (by omega)
                rw [← hIV] at HIN
                have HEQ := Lib.hid (show moreV T x ys bs (k + 1) = moreV T x ys bs k + T * IV * (x.a + x.b * y.alo) by rw [moreV, HYK.out, HBK.out, ← hIV])
                clear hIV
                refine at_world (S := fun V => Blk V wr.heap.size #[.int .i64 y.alo, .int .i64 y.ahi, .int .i64 y.wlo, .int .i64 y.whi] 43 ∧ Blk V (w.heap.size + 1) #[.int .i64 x.a, .int .i64 x.b, .int .i64 x.c] 30 ∧ Kept W V) ⟨by (exact blkc), by (exact blkc), by (exact kpt)⟩ ?_
                rintro V ⟨q0, q1, hkV⟩
                have q0c0 := fun g : Later V => (q0.later g).cell 0
                have q0f0 := fun g : Later V => (q0.later g).free 0
                have q0c1 := fun g : Later V => (q0.later g).cell 1
                have q0f1 := fun g : Later V => (q0.later g).free 1
                have q0c2 := fun g : Later V => (q0.later g).cell 2
                have q0f2 := fun g : Later V => (q0.later g).free 2
                have q0c3 := fun g : Later V => (q0.later g).cell 3
                have q0f3 := fun g : Later V => (q0.later g).free 3
                have q0l := fun g : Later V => (q0.later g).lt
                simp at q0c0 q0c1 q0c2 q0c3
                have q1c0 := fun g : Later V => (q1.later g).cell 0
                have q1f0 := fun g : Later V => (q1.later g).free 0
                have q1c1 := fun g : Later V => (q1.later g).cell 1
                have q1f1 := fun g : Later V => (q1.later g).free 1
                have q1c2 := fun g : Later V => (q1.later g).cell 2
                have q1f2 := fun g : Later V => (q1.later g).free 2
                have q1l := fun g : Later V => (q1.later g).lt
                simp at q1c0 q1c1 q1c2
                have p1 := mul_bd (A := 3500) (B := 1073741824) (x := T) (y := IV) (by omega) (by omega) (by omega) (by omega)
                have p2 := mul_bd (A := 30) (B := 2000) (x := x.b) (y := y.alo) (by omega) (by omega) (by omega) (by omega)
                have p3 := mul_bd (A := 3758096384000) (B := 60030) (x := T * IV) (y := x.a + x.b * y.alo) (by omega) (by omega) (by omega) (by omega)
                have g1 := i64_inT (n := T * IV) (by omega)
                have g2 := i64_inT (n := x.b * y.alo) (by omega)
                have g3 := i64_inT (n := x.a + x.b * y.alo) (by omega)
                have g4 := i64_inT (n := T * IV * (x.a + x.b * y.alo)) (by omega)
                have g5 := i64_inT (n := moreV T x ys bs k + T * IV * (x.a + x.b * y.alo)) (by omega)
                clear p1 p2 p3
                refine Later.region (by kernel_rfl) (by kernel_rfl) ?_
                repeat (first | go_big_quiet_skip | (go_big_quiet_want; go_big_quiet_op; first | go_big_quiet_on | (apply Exists.intro; refine ⟨fun g_ => ?_, ?_⟩; (focus (first | (go_at_call 10; with_reducible exact Later.call (HIN _)))); go_big_quiet_on)))
                refine wpQuiet_nil ?_
                intro gg
                have hkg := Kept.drop hkV gg.ok
                go_wp2
                go_round
                case rel =>
                  refine ⟨k + 1, by omega, by go_num, by rw [HEQ.out], fun j hj => ?_, hkg⟩
                  by_cases hjk : j < k
                  · exact HALL.out j hjk
                  · obtain rfl : j = k := by omega
                    rw [HYK.out]; exact ⟨y0, y1⟩
                case measure => simp [intOf]; omega
            · have HN := Lib.hid hN
              clear hN
              go_wp2
              all_goals first | (go_ret; exact ⟨rfl, by (exact kpt)⟩) | (exfalso; have hn := HN.out; omega)
          · obtain rfl : k = ys.length := by omega
            obtain ⟨Z, rfl⟩ : ∃ Z : World, Z = wr := ⟨_, rfl⟩
            clear hkq b1 hkB
            have hkz := hkw
            clear hkw
            have hmm := hmb1
            have n1c0 := n1.cell 0
            have n1f0 := n1.free 0
            have n1c1 := n1.cell 1
            have n1f1 := n1.free 1
            have n1c2 := n1.cell 2
            have n1f2 := n1.free 2
            have n1l := n1.lt
            simp at n1c0 n1c1 n1c2
            go_wp2
            go_loopw [24, 222] (fun v i wq => ∃ k : Nat, k ≤ cs.length ∧ i = .int .i64 k ∧ v = .int .i64 (cellV T x cs ps bs ys.length (moreV T x ys bs ys.length) k) ∧ Kept Z wq) (fun _ i _ => cs.length - (intOf i).toNat)
            case atStart => exact ⟨0, Nat.zero_le _, rfl, rfl, Below.refl _ _⟩
            case round =>
              clear n1c0 n1f0 n1c1 n1f1 n1c2 n1f2 n1l
              obtain ⟨k, hk, rfl, rfl, hkq⟩ := hrel
              have hcb_ := cell_bd (t := T) x cs ps bs ys.length (moreV T x ys bs ys.length) (by omega) ⟨⟨xa0, xa1⟩, xb0, xb1⟩ HCB.out k hk (fun i hi => (HOK.out i (by omega)).2)
              have hkc : (k : Int) ≤ 12 := by omega
              have hcb1 : -5304366518630400000 ≤ cellV T x cs ps bs ys.length (moreV T x ys bs ys.length) k ∧ cellV T x cs ps bs ys.length (moreV T x ys bs ys.length) k ≤ 5304366518630400000 := by omega
              clear hcb_
              have hkw := Kept.drop hkz hkq
              have m1 := n1.keep hkq
              by_cases hlt : k < cs.length
              · obtain ⟨bc, oc, rfl, hbc, c0, c1, c2, c3, c4, c5, c6⟩ := Cell.row (hc.later hkw (Nat.le_refl _)) k hlt
                obtain ⟨bp, op, rfl, hbp, _⟩ := int_row (hp.later hkw (Nat.le_refl _)) k (by omega)
                have hkp : k < ps.length := by omega
                obtain ⟨c, hcc⟩ : ∃ c, c = cs[k] := ⟨_, rfl⟩
                obtain ⟨PK, hpk⟩ : ∃ n, n = ps[k] := ⟨_, rfl⟩
                have HCK := Lib.hid (show cs.getD k default = c by rw [hcc]; simp [hlt])
                have HPK := Lib.hid (show ps.getD k 0 = PK by rw [hpk]; simp [hkp])
                rw [← hcc] at c0 c1 c2 c3 c4 c5 c6
                have hcv := (HOK.out k hlt)
                rw [HCK.out, HPK.out] at hcv
                obtain ⟨hcv, pk0, pk1⟩ := hcv
                have HCV := Lib.hid hcv
                obtain ⟨⟨v1, v2⟩, ⟨u1, u2⟩, ⟨u6, u7⟩, _, _, u3, u4, u5⟩ := cellB_iff.1 hcv
                clear hcc hpk hcv
                by_cases hkb : k + ys.length < bs.length
                · obtain ⟨bb, ob, rfl, hbb, u0⟩ := ucell_row (hb.later hkw (Nat.le_refl _)) (k + ys.length) hkb
                  obtain ⟨N, hN⟩ : ∃ n, n = bs[k + ys.length] := ⟨_, rfl⟩
                  have HBK := Lib.hid (show bs.getD (k + ys.length) 0 = N by rw [hN]; simp [hkb])
                  have hnb := hbw N (by rw [hN]; exact List.getElem_mem hkb)
                  rw [← hN] at u0
                  clear hN
                  have k1 : ((k : Int) + (ys.length : Int)).toNat = k + ys.length := by omega
                  have k2 : (0 : Int) ≤ (k : Int) + (ys.length : Int) := by omega
                  have k3 : (k : Int) + (ys.length : Int) < (bs.length : Int) := by omega
                  go_upto_region 38 with fail
                  clear c0 c1 c2 c3 c4 c5 c6 u0 k1 k2 k3
                  obtain ⟨IV, hIV⟩ : ∃ v, v = ins c.wlo c.whi N := ⟨_, rfl⟩
                  have hiv := ins_in N (show c.wlo ≤ c.whi by omega)
                  rw [← hIV] at hiv
                  obtain ⟨hi1, hi2⟩ := hiv
                  have HIN := fun (W : World) => t_inside c.wlo c.whi N W (by omega) (by omega) (by omega) (by omega)
                  rw [← hIV] at HIN
                  have HEQ := Lib.hid (show cellV T x cs ps bs ys.length (moreV T x ys bs ys.length) (k + 1) = cellV T x cs ps bs ys.length (moreV T x ys bs ys.length) k - (29 * (c.helium + c.air) * (T + IV) - T * (4 * c.helium + 29 * c.air)) * (x.a + x.b * PK) by rw [cellV, HCK.out, HPK.out, HBK.out, ← hIV]; rfl)
                  clear hIV
                  refine at_world (S := fun V => Blk V wr.heap.size #[.int .i64 c.room, .int .i64 c.helium, .int .i64 c.air, .int .i64 c.wlo, .int .i64 c.whi, .int .i64 c.leak, .int .i64 c.owed] 38 ∧ Blk V (w.heap.size + 1) #[.int .i64 x.a, .int .i64 x.b, .int .i64 x.c] 30 ∧ Kept Z V) ⟨by (exact blkc), by (exact blkc), by (exact kpt)⟩ ?_
                  rintro V ⟨q0, q1, hkV⟩
                  have q0c0 := fun g : Later V => (q0.later g).cell 0
                  have q0f0 := fun g : Later V => (q0.later g).free 0
                  have q0c1 := fun g : Later V => (q0.later g).cell 1
                  have q0f1 := fun g : Later V => (q0.later g).free 1
                  have q0c2 := fun g : Later V => (q0.later g).cell 2
                  have q0f2 := fun g : Later V => (q0.later g).free 2
                  have q0c3 := fun g : Later V => (q0.later g).cell 3
                  have q0f3 := fun g : Later V => (q0.later g).free 3
                  have q0c4 := fun g : Later V => (q0.later g).cell 4
                  have q0f4 := fun g : Later V => (q0.later g).free 4
                  have q0c5 := fun g : Later V => (q0.later g).cell 5
                  have q0f5 := fun g : Later V => (q0.later g).free 5
                  have q0c6 := fun g : Later V => (q0.later g).cell 6
                  have q0f6 := fun g : Later V => (q0.later g).free 6
                  have q0l := fun g : Later V => (q0.later g).lt
                  simp at q0c0 q0c1 q0c2 q0c3 q0c4 q0c5 q0c6
                  have hlt_ := liftT_bd HCV.out (t := T) (u := IV) (by omega) (by omega)
                  unfold liftT at hlt_
                  obtain ⟨⟨e1_, e2_⟩, ⟨e3_, e4_⟩, e5_, e6_⟩ := hlt_
                  have p2 := mul_bd (A := 30) (B := 2000) (x := x.b) (y := PK) (by omega) (by omega) (by omega) (by omega)
                  have p3 := mul_bd (A := 1100000000000) (B := 60030) (x := 29 * (c.helium + c.air) * (T + IV) - T * (4 * c.helium + 29 * c.air)) (y := (x.a + x.b * PK)) (by omega) (by omega) (by omega) (by omega)
                  have g0 := i64_inT (n := 29 * (c.helium + c.air)) (by omega)
                  have g1 := i64_inT (n := T + IV) (by omega)
                  have g2 := i64_inT (n := 29 * (c.helium + c.air) * (T + IV)) (by omega)
                  have g3 := i64_inT (n := 4 * c.helium) (by omega)
                  have g4 := i64_inT (n := 29 * c.air) (by omega)
                  have g5 := i64_inT (n := 4 * c.helium + 29 * c.air) (by omega)
                  have g6 := i64_inT (n := T * (4 * c.helium + 29 * c.air)) (by omega)
                  have g7 := i64_inT (n := 29 * (c.helium + c.air) * (T + IV) - T * (4 * c.helium + 29 * c.air)) (by omega)
                  have g8 := i64_inT (n := x.b * PK) (by omega)
                  have g9 := i64_inT (n := x.a + x.b * PK) (by omega)
                  have g10 := i64_inT (n := (29 * (c.helium + c.air) * (T + IV) - T * (4 * c.helium + 29 * c.air)) * (x.a + x.b * PK)) (by omega)
                  have g11 := i64_inT (n := cellV T x cs ps bs ys.length (moreV T x ys bs ys.length) k - (29 * (c.helium + c.air) * (T + IV) - T * (4 * c.helium + 29 * c.air)) * (x.a + x.b * PK)) (by omega)
                  clear p2 p3 e1_ e2_ e3_ e4_ e5_ e6_
                  refine Later.region (by kernel_rfl) (by kernel_rfl) ?_
                  repeat (first | go_big_quiet_skip | (go_big_quiet_want; go_big_quiet_op; first | go_big_quiet_on | (apply Exists.intro; refine ⟨fun g_ => ?_, ?_⟩; (focus (first | (go_at_call 10; with_reducible exact Later.call (HIN _)))); go_big_quiet_on)))
                  refine wpQuiet_nil ?_
                  intro gg
                  clear q0c0 q0f0 q0c1 q0f1 q0c2 q0f2 q0c3 q0f3 q0c4 q0f4 q0c5 q0f5 q0c6 q0f6 q0l
                  go_upto_region 39 with fail
                  refine at_world (S := fun U => Blk U (w.heap.size + 1) #[.int .i64 x.a, .int .i64 x.b, .int .i64 x.c] 30 ∧ Kept Z U) ⟨q1.later gg, Kept.drop hkV gg.ok⟩ ?_
                  clear q1 q0 hkV
                  rintro U ⟨q1, hkU⟩
                  obtain ⟨_, _, hge, _, p0⟩ := int_row (hp.later (Kept.drop hkz hkU) (Nat.le_refl _)) k hkp
                  cases hge
                  rw [show ps[k] = PK by rw [← HPK.out]; simp [hkp]] at p0
                  have x0 := fun g : Later U => g.some p0
                  have q1c0 := fun g : Later U => (q1.later g).cell 0
                  have q1f0 := fun g : Later U => (q1.later g).free 0
                  have q1c1 := fun g : Later U => (q1.later g).cell 1
                  have q1f1 := fun g : Later U => (q1.later g).free 1
                  have q1c2 := fun g : Later U => (q1.later g).cell 2
                  have q1f2 := fun g : Later U => (q1.later g).free 2
                  have q1l := fun g : Later U => (q1.later g).lt
                  simp at q1c0 q1c1 q1c2
                  have j0 : (0 : Int) ≤ (k : Int) := by omega
                  have j1 : (k : Int) < (ps.length : Int) := by omega
                  refine Later.region (by kernel_rfl) (by kernel_rfl) ?_
                  repeat (first | go_big_quiet_skip | (go_big_quiet_want; go_big_quiet_op; first | go_big_quiet_on | (apply Exists.intro; refine ⟨fun g_ => ?_, ?_⟩; (focus (first | fail)); go_big_quiet_on)))
                  refine wpQuiet_nil ?_
                  intro gh
                  have hkg := Kept.drop hkU gh.ok
                  go_wp2
                  go_round
                  case rel => exact ⟨k + 1, by omega, by go_num, by rw [HEQ.out], hkg⟩
                  case measure => simp [intOf]; omega
                · have HBK := Lib.hid (show bs.getD (k + ys.length) 0 = 0 by rw [List.getD_eq_getElem?_getD, List.getElem?_eq_none (by omega)]; rfl)
                  have k3 : ¬ (k : Int) + (ys.length : Int) < (bs.length : Int) := by omega
                  go_upto_region 38 with fail
                  clear c0 c1 c2 c3 c4 c5 c6 k3
                  obtain ⟨IV, hIV⟩ : ∃ v, v = ins c.wlo c.whi 0 := ⟨_, rfl⟩
                  have hiv := ins_in 0 (show c.wlo ≤ c.whi by omega)
                  rw [← hIV] at hiv
                  obtain ⟨hi1, hi2⟩ := hiv
                  have HIN := fun (W : World) => t_inside c.wlo c.whi 0 W (by omega) (by omega) (by omega) (by omega)
                  rw [← hIV] at HIN
                  have HEQ := Lib.hid (show cellV T x cs ps bs ys.length (moreV T x ys bs ys.length) (k + 1) = cellV T x cs ps bs ys.length (moreV T x ys bs ys.length) k - (29 * (c.helium + c.air) * (T + IV) - T * (4 * c.helium + 29 * c.air)) * (x.a + x.b * PK) by rw [cellV, HCK.out, HPK.out, HBK.out, ← hIV]; rfl)
                  clear hIV
                  refine at_world (S := fun V => Blk V wr.heap.size #[.int .i64 c.room, .int .i64 c.helium, .int .i64 c.air, .int .i64 c.wlo, .int .i64 c.whi, .int .i64 c.leak, .int .i64 c.owed] 38 ∧ Blk V (w.heap.size + 1) #[.int .i64 x.a, .int .i64 x.b, .int .i64 x.c] 30 ∧ Kept Z V) ⟨by (exact blkc), by (exact blkc), by (exact kpt)⟩ ?_
                  rintro V ⟨q0, q1, hkV⟩
                  have q0c0 := fun g : Later V => (q0.later g).cell 0
                  have q0f0 := fun g : Later V => (q0.later g).free 0
                  have q0c1 := fun g : Later V => (q0.later g).cell 1
                  have q0f1 := fun g : Later V => (q0.later g).free 1
                  have q0c2 := fun g : Later V => (q0.later g).cell 2
                  have q0f2 := fun g : Later V => (q0.later g).free 2
                  have q0c3 := fun g : Later V => (q0.later g).cell 3
                  have q0f3 := fun g : Later V => (q0.later g).free 3
                  have q0c4 := fun g : Later V => (q0.later g).cell 4
                  have q0f4 := fun g : Later V => (q0.later g).free 4
                  have q0c5 := fun g : Later V => (q0.later g).cell 5
                  have q0f5 := fun g : Later V => (q0.later g).free 5
                  have q0c6 := fun g : Later V => (q0.later g).cell 6
                  have q0f6 := fun g : Later V => (q0.later g).free 6
                  have q0l := fun g : Later V => (q0.later g).lt
                  simp at q0c0 q0c1 q0c2 q0c3 q0c4 q0c5 q0c6
                  have hlt_ := liftT_bd HCV.out (t := T) (u := IV) (by omega) (by omega)
                  unfold liftT at hlt_
                  obtain ⟨⟨e1_, e2_⟩, ⟨e3_, e4_⟩, e5_, e6_⟩ := hlt_
                  have p2 := mul_bd (A := 30) (B := 2000) (x := x.b) (y := PK) (by omega) (by omega) (by omega) (by omega)
                  have p3 := mul_bd (A := 1100000000000) (B := 60030) (x := 29 * (c.helium + c.air) * (T + IV) - T * (4 * c.helium + 29 * c.air)) (y := (x.a + x.b * PK)) (by omega) (by omega) (by omega) (by omega)
                  have g0 := i64_inT (n := 29 * (c.helium + c.air)) (by omega)
                  have g1 := i64_inT (n := T + IV) (by omega)
                  have g2 := i64_inT (n := 29 * (c.helium + c.air) * (T + IV)) (by omega)
                  have g3 := i64_inT (n := 4 * c.helium) (by omega)
                  have g4 := i64_inT (n := 29 * c.air) (by omega)
                  have g5 := i64_inT (n := 4 * c.helium + 29 * c.air) (by omega)
                  have g6 := i64_inT (n := T * (4 * c.helium + 29 * c.air)) (by omega)
                  have g7 := i64_inT (n := 29 * (c.helium + c.air) * (T + IV) - T * (4 * c.helium + 29 * c.air)) (by omega)
                  have g8 := i64_inT (n := x.b * PK) (by omega)
                  have g9 := i64_inT (n := x.a + x.b * PK) (by omega)
                  have g10 := i64_inT (n := (29 * (c.helium + c.air) * (T + IV) - T * (4 * c.helium + 29 * c.air)) * (x.a + x.b * PK)) (by omega)
                  have g11 := i64_inT (n := cellV T x cs ps bs ys.length (moreV T x ys bs ys.length) k - (29 * (c.helium + c.air) * (T + IV) - T * (4 * c.helium + 29 * c.air)) * (x.a + x.b * PK)) (by omega)
                  clear p2 p3 e1_ e2_ e3_ e4_ e5_ e6_
                  refine Later.region (by kernel_rfl) (by kernel_rfl) ?_
                  repeat (first | go_big_quiet_skip | (go_big_quiet_want; go_big_quiet_op; first | go_big_quiet_on | (apply Exists.intro; refine ⟨fun g_ => ?_, ?_⟩; (focus (first | (go_at_call 10; with_reducible exact Later.call (HIN _)))); go_big_quiet_on)))
                  refine wpQuiet_nil ?_
                  intro gg
                  clear q0c0 q0f0 q0c1 q0f1 q0c2 q0f2 q0c3 q0f3 q0c4 q0f4 q0c5 q0f5 q0c6 q0f6 q0l
                  go_upto_region 39 with fail
                  refine at_world (S := fun U => Blk U (w.heap.size + 1) #[.int .i64 x.a, .int .i64 x.b, .int .i64 x.c] 30 ∧ Kept Z U) ⟨q1.later gg, Kept.drop hkV gg.ok⟩ ?_
                  clear q1 q0 hkV
                  rintro U ⟨q1, hkU⟩
                  obtain ⟨_, _, hge, _, p0⟩ := int_row (hp.later (Kept.drop hkz hkU) (Nat.le_refl _)) k hkp
                  cases hge
                  rw [show ps[k] = PK by rw [← HPK.out]; simp [hkp]] at p0
                  have x0 := fun g : Later U => g.some p0
                  have q1c0 := fun g : Later U => (q1.later g).cell 0
                  have q1f0 := fun g : Later U => (q1.later g).free 0
                  have q1c1 := fun g : Later U => (q1.later g).cell 1
                  have q1f1 := fun g : Later U => (q1.later g).free 1
                  have q1c2 := fun g : Later U => (q1.later g).cell 2
                  have q1f2 := fun g : Later U => (q1.later g).free 2
                  have q1l := fun g : Later U => (q1.later g).lt
                  simp at q1c0 q1c1 q1c2
                  have j0 : (0 : Int) ≤ (k : Int) := by omega
                  have j1 : (k : Int) < (ps.length : Int) := by omega
                  refine Later.region (by kernel_rfl) (by kernel_rfl) ?_
                  repeat (first | go_big_quiet_skip | (go_big_quiet_want; go_big_quiet_op; first | go_big_quiet_on | (apply Exists.intro; refine ⟨fun g_ => ?_, ?_⟩; (focus (first | fail)); go_big_quiet_on)))
                  refine wpQuiet_nil ?_
                  intro gh
                  have hkg := Kept.drop hkU gh.ok
                  go_wp2
                  go_round
                  case rel => exact ⟨k + 1, by omega, by go_num, by rw [HEQ.out], hkg⟩
                  case measure => simp [intOf]; omega
              · obtain rfl : k = cs.length := by omega
                have hfin := trim_le (t := T) x a ys cs ps bs (by omega) HAIR.out HYV.out HCB.out ht1 ht2 HWV.out
                have hd : decide (cellV T x cs ps bs ys.length (moreV T x ys bs ys.length) cs.length ≤ x.c * T) = true := decide_eq_true hfin
                have p2 := mul_bd (A := 100000000000000) (B := 3500) (x := x.c) (y := T) (by omega) (by omega) (by omega) (by omega)
                have m1c0 := m1.cell 0
                have m1f0 := m1.free 0
                have m1c1 := m1.cell 1
                have m1f1 := m1.free 1
                have m1c2 := m1.cell 2
                have m1f2 := m1.free 2
                have m1l := m1.lt
                simp at m1c0 m1c1 m1c2
                go_wp2
                go_ret
                exact ⟨rfl, by (exact kpt)⟩

end Go.Proofs.Ytheahhmlmpameaa

/-
  In trim whatever the air: all cases.
-/
namespace Go.Proofs.Ytheahhmlmpameaa
open Go.RowKit Bal Bal.Trim Bal.Gas Bal.Top
set_option linter.unusedVariables false
set_option linter.unusedSimpArgs false
set_option maxHeartbeats 800000

theorem law_TopLifted (cs : List Cell) (ps : List Int) (a : Air) (ys : List Load) (x : Limit) (t0 : Int) (bs : List Int) (ac ap ay ab : Option Addr) (cc cp cy cb : Nat) (w : World) (hc : Row Cell.cells 7 w.heap.size w ac cs) (hlc : cs.length ≤ cc) (hmc : cc ≤ maxLen) (hp : Row icell 1 w.heap.size w ap ps) (hlp : ps.length ≤ cp) (hmp : cp ≤ maxLen) (hy : Row Load.cells 4 w.heap.size w ay ys) (hly : ys.length ≤ cy) (hmy : cy ≤ maxLen) (hzy : ay = none → cy = 0) (hb : Row ucell 1 w.heap.size w ab bs) (hlb : bs.length ≤ cb) (hmb : cb ≤ maxLen) (ht : 0 ≤ t0 ∧ t0 ≤ 65535) (hbw : ∀ n ∈ bs, 0 ≤ n ∧ n ≤ 65535) (hxw : (-9223372036854775808 ≤ x.a ∧ x.a ≤ 9223372036854775807) ∧ (-9223372036854775808 ≤ x.b ∧ x.b ≤ 9223372036854775807) ∧ -9223372036854775808 ≤ x.c ∧ x.c ≤ 9223372036854775807) : Calls Try.prog 3 #[.slice ac cs.length cc, .slice ap ps.length cp, .agg #[.int .i64 a.plo, .int .i64 a.phi, .int .i64 a.tlo, .int .i64 a.thi], .slice ay ys.length cy, .agg #[.int .i64 x.a, .int .i64 x.b, .int .i64 x.c], .int .u16 t0, .slice ab bs.length cb] w fun e w' => e = .returned (.bool true) ∧ Kept w w' := by
  by_cases h : 12 < cs.length ∨ ps.length < cs.length ∨ 20 < ys.length ∨ checkAir a ≠ 0 ∨ checkLoads ys ≠ 0
  · exact law_many cs ps a ys x t0 bs ac ap ay ab cc cp cy cb w hc hlc hmc hp hlp hmp hy hly hmy hzy hb hlb hmb h
  · by_cases h6 : (-30 ≤ x.a ∧ x.a ≤ 30) ∧ (-30 ≤ x.b ∧ x.b ≤ 30) ∧ -100000000000000 ≤ x.c ∧ x.c ≤ 100000000000000
    · exact law_near cs ps a ys x t0 bs ac ap ay ab cc cp cy cb w hc hlc hmc hp hlp hmp hy hly hmy hzy hb hlb hmb ht hbw hxw (by omega) (by omega) (by omega) (by omega) (by omega) h6
    · exact law_far cs ps a ys x t0 bs ac ap ay ab cc cp cy cb w hc hlc hmc hp hlp hmp hy hly hmy hzy hb hlb hmb ht hbw hxw (by omega) (by omega) (by omega) (by omega) (by omega) h6
theorem int_of_leaves {cs : List Value} (h : LeavesOk [.int .i64] cs) : ∃ x : Int, cs = icell x ∧ (Lit.int .i64 x).wf = true := by
  obtain ⟨hl, h⟩ := h
  match cs, hl with
  | [v0], _ =>
    obtain ⟨_, e0, n0, rfl, w0⟩ := h 0 (.int .i64) rfl; simp at e0; subst e0
    exact ⟨n0, rfl, w0⟩
theorem u16_of_leaves {cs : List Value} (h : LeavesOk [.int .u16] cs) : ∃ x : Int, cs = ucell x ∧ (Lit.int .u16 x).wf = true := by
  obtain ⟨hl, h⟩ := h
  match cs, hl with
  | [v0], _ =>
    obtain ⟨_, e0, n0, rfl, w0⟩ := h 0 (.int .u16) rfl; simp at e0; subst e0
    exact ⟨n0, rfl, w0⟩
theorem wf_u16 {n : Int} (h : (Lit.int .u16 n).wf = true) : 0 ≤ n ∧ n ≤ 65535 := by
  simp only [Lit.wf, Bool.and_eq_true, decide_eq_true_eq] at h
  have e1 : IntKind.min .u16 = 0 := by decide
  have e2 : IntKind.max .u16 = 65535 := by decide
  rw [e1, e2] at h
  exact h
theorem wf_i64 {n : Int} (h : (Lit.int .i64 n).wf = true) : -9223372036854775808 ≤ n ∧ n ≤ 9223372036854775807 := by
  simp only [Lit.wf, Bool.and_eq_true, decide_eq_true_eq] at h
  have e1 : IntKind.min .i64 = -9223372036854775808 := by decide
  have e2 : IntKind.max .i64 = 9223372036854775807 := by decide
  rw [e1, e2] at h
  exact h

end Go.Proofs.Ytheahhmlmpameaa

/-
  An argument that is a struct of numbers, opened. No program in sight.
-/
namespace Bal
open Go Go.RowKit Go.WideShapes
section
variable {H : Type} {enc : TypeId × Value → H} {P : Program} {w : World} {base : Nat} {spare : Nat → Bool} {held : Bool}
theorem open_agg {α : Type} {enc' : α → List Value} {wf : α → Prop} {ls : List Leaf} (hdec : ∀ cs, LeavesOk ls cs → ∃ x : α, cs = enc' x ∧ wf x) {t : TypeId} {fs : Array Field} {n : Nat} {v : Value} {d : DataW H} {ps : List MemPlace} {r : Reach} {b0 : Nat}
    (ht : P.underlying t = some (.struct fs)) (hls : leaves P n t = some ls) (hval : Value.okWide P w r b0 t v) (hd : DataW.Trod enc P w base spare held t v d ps) :
    ∃ x : α, v = .agg (enc' x).toArray ∧ wf x := by
  obtain ⟨cs, rfl, _⟩ := okWide_struct ht hval
  obtain ⟨fuel, hf⟩ := hd
  obtain ⟨x, e, hw⟩ := hdec _ (leaves_ok n _ _ _ _ _ hls hf)
  refine ⟨x, ?_, hw⟩
  rw [← e]
  simp [Value.cells]
end
end Bal

/-
  The words of a string that is known sign by sign: for the facts on how a program was made. No program in sight.
-/
namespace Bal
open Go
theorem words_cons : ∀ (w r : List Char), w.all (fun c => c != Char.ofNat 32) = true → wordsSigns (w ++ Char.ofNat 32 :: r) = w :: wordsSigns r
  | [], r, _ => by simp [wordsSigns]
  | c :: w, r, h => by
    simp only [List.all_cons, Bool.and_eq_true, bne_iff_ne, ne_eq] at h
    obtain ⟨h1, h2⟩ := h
    have ih := words_cons w r h2
    rw [List.cons_append]
    simp [wordsSigns, ih]
theorem words_last : ∀ (w : List Char), w.all (fun c => c != Char.ofNat 32) = true → wordsSigns w = [w]
  | [], _ => by simp [wordsSigns]
  | c :: w, h => by
    simp only [List.all_cons, Bool.and_eq_true, bne_iff_ne, ne_eq] at h
    obtain ⟨h1, h2⟩ := h
    simp [wordsSigns, words_last w h2]
/-! A program that was cut, behind a harness. (With the program a variable the kernel never unfolds it.) -/
section
variable {P : Program} {w0 w1 : List Char} {r : List (List Char)}
theorem behind_cut (h : wordsSigns P.initOrder.toList = w0 :: w1 :: [Char.ofNat 99, Char.ofNat 117, Char.ofNat 116] :: r) (h0 : w0 = "harness".toList) (h1 : isSumSigns w1 = true) : behindMainWord (wordsSigns P.initOrder.toList) = [Char.ofNat 99, Char.ofNat 117, Char.ofNat 116] :: r := by
  rw [h]
  have e : (w0 == "harness".toList) = true := by rw [h0]; simp
  simp only [behindMainWord, e, h1, Bool.true_or, Bool.and_self, if_true]
theorem make_cut (h : wordsSigns P.initOrder.toList = w0 :: w1 :: [Char.ofNat 99, Char.ofNat 117, Char.ofNat 116] :: r) (h0 : w0 = "harness".toList) (h1 : isSumSigns w1 = true) : P.make = some .cut := by
  unfold Program.make
  rw [behind_cut h h0 h1]
  rfl
theorem lifts_cut (h : wordsSigns P.initOrder.toList = w0 :: w1 :: [Char.ofNat 99, Char.ofNat 117, Char.ofNat 116] :: r) (h0 : w0 = "harness".toList) (h1 : isSumSigns w1 = true) : P.liftsFinal = false := by
  unfold Program.liftsFinal Program.headLifts
  rw [behind_cut h h0 h1]
  rfl
theorem enter_cut (h : wordsSigns P.initOrder.toList = w0 :: w1 :: [Char.ofNat 99, Char.ofNat 117, Char.ofNat 116] :: r) (h0 : w0 = "harness".toList) (h1 : isSumSigns w1 = true) (l : P.laysLater = false) (b : P.bearsReflect = false) (d : P.doorFits [] = true) : P.mayEnter = true := by
  unfold Program.mayEnter
  rw [behind_cut h h0 h1]
  have e : stripLifts liftWords ([Char.ofNat 99, Char.ofNat 117, Char.ofNat 116] :: r) = ([], [Char.ofNat 99, Char.ofNat 117, Char.ofNat 116] :: r) := rfl
  simp only [e, l, b, d]
  rfl
end
end Bal

/-
  How the program was made: its words, and what follows for every row of the seat.
-/
namespace Go.Proofs.Ytheahhmlmpameaa
open Bal
set_option maxRecDepth 100000
def initW0 : List Char := List.map Char.ofNat [104, 97, 114, 110, 101, 115, 115]
def initW1 : List Char := List.map Char.ofNat [49, 56, 54, 52, 57, 57, 97, 51, 51, 98, 102, 98, 54, 54, 100, 54, 49, 101, 57, 51, 50, 53, 50, 50, 97, 53, 55, 54, 101, 51, 48, 49, 102, 100, 55, 54, 100, 98, 52, 99, 100, 49, 100, 49, 100, 52, 49, 56, 53, 53, 50, 98, 53, 98, 57, 55, 52, 48, 98, 98, 97, 54, 97, 52]
def initW2 : List Char := List.map Char.ofNat [99, 117, 116]
def initW3 : List Char := List.map Char.ofNat [97, 116]
def initW4 : List Char := List.map Char.ofNat [98, 97, 108, 108, 111, 110, 101, 116, 47, 98, 97, 108, 108, 111, 110, 101, 116, 116, 111, 112, 46, 84, 111, 112, 76, 105, 102, 116, 101, 100]
def initL : List Char := initW0 ++ Char.ofNat 32 :: (initW1 ++ Char.ofNat 32 :: (initW2 ++ Char.ofNat 32 :: (initW3 ++ Char.ofNat 32 :: initW4)))
theorem init_is : Try.prog.initOrder = String.ofList initL := by kernel_rfl
theorem init_words : wordsSigns Try.prog.initOrder.toList = [initW0, initW1, initW2, initW3, initW4] := by
  rw [init_is, String.toList_ofList]
  unfold initL
  rw [words_cons _ _ (by decide), words_cons _ _ (by decide), words_cons _ _ (by decide), words_cons _ _ (by decide), words_last _ (by decide)]
theorem init_cut : wordsSigns Try.prog.initOrder.toList = initW0 :: initW1 :: [Char.ofNat 99, Char.ofNat 117, Char.ofNat 116] :: [initW3, initW4] := init_words
theorem init_sum : isSumSigns initW1 = true := by decide
theorem make_is : Try.prog.make = some .cut := make_cut init_cut rfl init_sum
theorem liftsFinal_is : Try.prog.liftsFinal = false := lifts_cut init_cut rfl init_sum
theorem mayEnter_is : Try.prog.mayEnter = true := enter_cut init_cut rfl init_sum (by kernel_rfl) (by kernel_rfl) (by kernel_rfl)
end Go.Proofs.Ytheahhmlmpameaa

/-
  TopLifted, the statement: for every input the call returns true and leaves the input alone.
-/
namespace Go.Proofs.Ytheahhmlmpameaa.topLifted
open Go.ChangeShapes Go.WideShapes Go.ChangeAt Go.RowKit Bal Bal.Trim Bal.Gas Bal.Top
open Go.ChangeMaps (open_string shut_string)
set_option linter.unusedVariables false

theorem own : ownKnob Try.prog.godebug = none := by kernel_rfl
theorem laidOut : laidOutB Try.prog = true := by kernel_rfl

set_option maxRecDepth 100000 in
theorem lifted (os : Os) (started : os.Started) (H : Type) (enc : TypeId × Value → H) :
    ReturnsInHanded {} Try.checked os 3 .any (Rows.topLiftedSpec.pre6 enc Try.prog Try.f3 Rows.topLiftedRow.domain false) (Rows.topLiftedSpec.post enc Try.prog Try.f3 false true false false) := by
  refine returnsInHanded_of_change (C := Try.checked) own started (by kernel_rfl) Try.func3
    (ChangeSpec.witness6 (enc := enc) (C := Try.checked) false ⟨#[], #[.slice none 0 0, .slice none 0 0, .agg #[.int .i64 0, .int .i64 0, .int .i64 0, .int .i64 0], .slice none 0 0, .agg #[.int .i64 0, .int .i64 0, .int .i64 0], .int .u16 0, .slice none 0 0], []⟩ 8 (by kernel_rfl) (by kernel_rfl) (by kernel_rfl) (by kernel_rfl)) ?_
  intro W base args ds gs before hval0 hW hcnd _
  have hval : ∀ (j : Nat) t v, Try.f3.params[j]? = some t → args[j]? = some v → Value.okWide Try.prog W .any base t v := hval0
  have hW' := hW
  obtain ⟨p, q, hA0, hV, rfl, hfz, hnd⟩ := hW
  have hA : DataW.TrodAll enc Try.prog W 0 (fun _ => true) true Try.f3.params.toList args.toList ds p := hA0
  rw [Try.params3] at hA hval
  obtain ⟨v0, vs0, d0, ds0, p0, q0, hargs, rfl, rfl, h0, r0⟩ := trodAll_cons hA
  obtain ⟨v1, vs1, d1, ds1, p1, q1, rfl, rfl, rfl, h1, r1⟩ := trodAll_cons r0
  obtain ⟨v2, vs2, d2, ds2, p2, q2, rfl, rfl, rfl, h2, r2⟩ := trodAll_cons r1
  obtain ⟨v3, vs3, d3, ds3, p3, q3, rfl, rfl, rfl, h3, r3⟩ := trodAll_cons r2
  obtain ⟨v4, vs4, d4, ds4, p4, q4, rfl, rfl, rfl, h4, r4⟩ := trodAll_cons r3
  obtain ⟨v5, vs5, d5, ds5, p5, q5, rfl, rfl, rfl, h5, r5⟩ := trodAll_cons r4
  obtain ⟨v6, vs6, d6, ds6, p6, q6, rfl, rfl, rfl, h6, r6⟩ := trodAll_cons r5
  obtain ⟨rfl, rfl, rfl⟩ := trodAll_nil r6
  obtain rfl : args = #[v0, v1, v2, v3, v4, v5, v6] := by cases args; simp_all
  obtain ⟨rfl, rfl⟩ := trodVars_none hV
  have k0 := h0
  have lt0 : ∀ x ∈ p0, x.block < W.heap.size := by obtain ⟨m, hm⟩ := k0; exact DataW.trod_lt m _ _ _ hm
  obtain ⟨a0, len0, cap0, rfl⟩ := okWide_slice Try.underlying22 (hval 0 22 v0 rfl rfl)
  obtain ⟨fuel0, hf0⟩ := h0
  obtain ⟨b0, c0, xs0, e0, hl0, hm0, row0, wf0, z0⟩ := open_typed (n := 4) (fun _ h => Cell.of_leaves h) Try.underlying22 (by kernel_rfl) (by kernel_rfl) (by decide) hf0
  simp [Value.cells] at e0
  obtain ⟨rfl, rfl, rfl⟩ := e0
  have k1 := h1
  have lt1 : ∀ x ∈ p1, x.block < W.heap.size := by obtain ⟨m, hm⟩ := k1; exact DataW.trod_lt m _ _ _ hm
  obtain ⟨a1, len1, cap1, rfl⟩ := okWide_slice Try.underlying23 (hval 1 23 v1 rfl rfl)
  obtain ⟨fuel1, hf1⟩ := h1
  obtain ⟨b1, c1, xs1, e1, hl1, hm1, row1, wf1, z1⟩ := open_typed (n := 4) (fun _ h => int_of_leaves h) Try.underlying23 (by kernel_rfl) (by kernel_rfl) (by decide) hf1
  simp [Value.cells] at e1
  obtain ⟨rfl, rfl, rfl⟩ := e1
  have k2 := h2
  have lt2 : ∀ x ∈ p2, x.block < W.heap.size := by obtain ⟨m, hm⟩ := k2; exact DataW.trod_lt m _ _ _ hm
  obtain ⟨a2, rfl, wf2⟩ := open_agg (n := 5) (fun _ h => Air.of_leaves h) Try.underlying27 (by kernel_rfl) (hval 2 27 v2 rfl rfl) h2
  have k3 := h3
  have lt3 : ∀ x ∈ p3, x.block < W.heap.size := by obtain ⟨m, hm⟩ := k3; exact DataW.trod_lt m _ _ _ hm
  obtain ⟨a3, len3, cap3, rfl⟩ := okWide_slice Try.underlying28 (hval 3 28 v3 rfl rfl)
  obtain ⟨fuel3, hf3⟩ := h3
  obtain ⟨b3, c3, xs3, e3, hl3, hm3, row3, wf3, z3⟩ := open_typed (n := 4) (fun _ h => Load.of_leaves h) Try.underlying28 (by kernel_rfl) (by kernel_rfl) (by decide) hf3
  simp [Value.cells] at e3
  obtain ⟨rfl, rfl, rfl⟩ := e3
  have k4 := h4
  have lt4 : ∀ x ∈ p4, x.block < W.heap.size := by obtain ⟨m, hm⟩ := k4; exact DataW.trod_lt m _ _ _ hm
  obtain ⟨a4, rfl, wf4⟩ := open_agg (n := 5) (fun _ h => Limit.of_leaves h) Try.underlying30 (by kernel_rfl) (hval 4 30 v4 rfl rfl) h4
  obtain ⟨a5, rfl, rfl, rfl, w5⟩ := open_int Try.underlying31 (hval 5 31 v5 rfl rfl) h5
  have k6 := h6
  have lt6 : ∀ x ∈ p6, x.block < W.heap.size := by obtain ⟨m, hm⟩ := k6; exact DataW.trod_lt m _ _ _ hm
  obtain ⟨a6, len6, cap6, rfl⟩ := okWide_slice Try.underlying32 (hval 6 32 v6 rfl rfl)
  obtain ⟨fuel6, hf6⟩ := h6
  obtain ⟨b6, c6, xs6, e6, hl6, hm6, row6, wf6, z6⟩ := open_typed (n := 4) (fun _ h => u16_of_leaves h) Try.underlying32 (by kernel_rfl) (by kernel_rfl) (by decide) hf6
  simp [Value.cells] at e6
  obtain ⟨rfl, rfl, rfl⟩ := e6
  clear hA0 hval0
  refine (law_TopLifted xs0 xs1 a2 xs3 a4 a5 xs6 _ _ _ _ _ _ _ _ W row0 hl0 hm0 row1 hl1 hm1 row3 hl3 hm3 z3 row6 hl6 hm6 (wf_u16 w5) (fun n hn => wf_u16 (wf6 n hn)) ⟨wf_i64 wf4.1, wf_i64 wf4.2.1, wf_i64 wf4.2.2⟩).mono fun e W' ⟨he, bel⟩ => ?_
  subst he
  exact ⟨_, rfl, _, _, _, [], _, [], hW', trodAll_mk1 (shut_bool Try.underlying4 _), (trodAll_cons_mk (Below.trod laidOut (by kernel_rfl) (of_decide_eq_true (by kernel_rfl)) k0 bel lt0) (trodAll_cons_mk (Below.trod laidOut (by kernel_rfl) (of_decide_eq_true (by kernel_rfl)) k1 bel lt1) (trodAll_cons_mk (Below.trod laidOut (by kernel_rfl) (of_decide_eq_true (by kernel_rfl)) k2 bel lt2) (trodAll_cons_mk (Below.trod laidOut (by kernel_rfl) (of_decide_eq_true (by kernel_rfl)) k3 bel lt3) (trodAll_cons_mk (Below.trod laidOut (by kernel_rfl) (of_decide_eq_true (by kernel_rfl)) k4 bel lt4) (trodAll_cons_mk (shut_int Try.underlying31 w5) (trodAll_cons_mk (Below.trod laidOut (by kernel_rfl) (of_decide_eq_true (by kernel_rfl)) k6 bel lt6) trodAll_mk0))))))), rfl, bel.frame _, fun h => by cases h⟩

theorem joined : joinedFacts Try.prog 3 Try.f3 Rows.topLiftedSpec Rows.topLiftedRow = true := by
  unfold joinedFacts
  rw [mayEnter_is, liftsFinal_is, make_is]
  kernel_rfl
theorem over : Rows.topLiftedRow.holds Try.pinned (OpenSpec.ofChange Rows.topLiftedSpec) :=
  OpenClaim.holds_of_wide 3 Try.f3 rfl rfl rfl rfl rfl rfl rfl ⟨rfl, rfl, rfl, rfl, rfl⟩ rfl rfl rfl rfl rfl (by kernel_rfl) Try.func3 joined
    (of_decide_eq_true (by kernel_rfl)) (by unfold Func.isWrapper; first | (rw [if_pos (by decide +kernel)]; kernel_rfl) | (rw [if_neg (by decide +kernel)]; exact ⟨rfl, rfl⟩))
    (fun os started H enc _ => lifted os started H enc)
end Go.Proofs.Ytheahhmlmpameaa.topLifted

namespace Go.Proofs.Ytheahhmlmpameaa
theorem topLifted_holds : Rows.TopLiftedSaid := topLifted.over
#print axioms topLifted_holds
end Go.Proofs.Ytheahhmlmpameaa
