/-
  Ports, checked; needs.
-/
import Derived.Scope
import Derived.Deep.DeepCutAuto
import Derived.Deep.RegionLaw
import Derived.Laws.AppendOwnNone
import Derived.WalkKit
import Derived.WalkSpells
import Derived.WalkLawsBesides
import Derived.Lib.Hide
import Derived.ProofKit
import Derived.OpenShut
import Derived.ChangeOld
import Derived.Below
import Derived.Deep.Slices
import Derived.Deep.Fields
import Derived.Deep.Quiet
import Derived.Laws.AppendOwn
import Derived.StillTail
import Derived.Test.YtacbkbilbmkjnaaProg
import Derived.Deep.QuietTactic
import Derived.BigQuiet
import Derived.Deep.RegionHeld3
import Derived.WalkSmall
import Derived.OrdersHeld
import Derived.Maps.OwnSet
import Derived.Laws.EntriesVeiled
import Derived.Test.YtacbkbilbmkjnaaMastBaseMA
import Derived.Test.YtacbkbilbmkjnaaMastBaseMB
set_option linter.unusedVariables false
set_option linter.unusedSimpArgs false
/-
  Ports, checked; needs.
-/
namespace Go.Proofs.Ytacbkbilbmkjnaa
open Go.RowKit Bal Bal.Trim Bal.Mast
set_option linter.unusedVariables false
set_option linter.unusedSimpArgs false
set_option maxHeartbeats 2000000
set_option maxRecDepth 10000
attribute [local go_sem] ite_max ite_min

theorem f_CheckPort (a : Option Addr) (c : Nat) (e : Option Addr) (d : Nat) (p : Port) (w : World) (hx : Row Axis.cells 2 w.heap.size w a p.axes) (hc : p.axes.length ≤ c) (hM : c ≤ maxLen) (hy : Row Span.cells 2 w.heap.size w e p.pulls) (hd : p.pulls.length ≤ d) (hN : d ≤ maxLen) (h1 : p.axes.length ≤ 1000000) (h2 : p.pulls.length ≤ 1000000) :
    Calls Try.prog 25 #[.agg #[.slice a p.axes.length c, .int .i64 p.people, .int .i64 p.most, .slice e p.pulls.length d, .int .i64 p.cross]] w fun z w' => z = .returned (.int .i64 (checkPort p)) ∧ Kept w w' := by
  unfold maxLen at hM hN
  cases hHT : turnable p.axes
  · have HT := Lib.hid hHT
    rw [show checkPort p = 72 by simp [checkPort, portB, hHT]]
    clear hHT
    go_enter Try.func25, Try.ntmps25
    go_wp2_with (first | (go_at_call 56; (with_reducible refine (f_turnable _ _ _ _ (hx.later (by (exact kpt)) (Nat.le_refl _)) h1).mono ?_); rw [HT.out]; rintro z w1 ⟨rfl, hb1⟩; refine Blk.thru (b := w.heap.size) (arr := ?_) (t := ?_) ?_ hb1 ?_; rotate_left 2; (focus (exact blk)); intro r0; have r0c0 := r0.cell 0; have r0f0 := r0.free 0; have r0c1 := r0.cell 1; have r0f1 := r0.free 1; have r0c2 := r0.cell 2; have r0f2 := r0.free 2; have r0c3 := r0.cell 3; have r0f3 := r0.free 3; have r0c4 := r0.cell 4; have r0f4 := r0.free 4; have r0l := r0.lt; simp at r0c0 r0c1 r0c2 r0c3 r0c4) | (go_at_call 58; (with_reducible refine (f_lines _ _ _ _ (hy.later (by (exact kpt)) (Nat.le_refl _)) h2).mono ?_); rw [HL.out]; rintro z w1 ⟨rfl, hb1⟩; refine Blk.thru (b := w.heap.size) (arr := ?_) (t := ?_) ?_ hb1 ?_; rotate_left 2; (focus (exact blk)); intro r0; have r0c0 := r0.cell 0; have r0f0 := r0.free 0; have r0c1 := r0.cell 1; have r0f1 := r0.free 1; have r0c2 := r0.cell 2; have r0f2 := r0.free 2; have r0c3 := r0.cell 3; have r0f3 := r0.free 3; have r0c4 := r0.cell 4; have r0f4 := r0.free 4; have r0l := r0.lt; simp at r0c0 r0c1 r0c2 r0c3 r0c4) | (go_at_call 51; (with_reducible refine (f_rangedB 0 200 p.people _ 3 _ ?_).mono ?_); (focus (exact blk)); rw [HP.out]; rintro z w1 ⟨rfl, hb1⟩; refine Blk.thru (b := w.heap.size) (arr := ?_) (t := ?_) ?_ hb1 ?_; rotate_left 2; (focus (exact blk)); intro r0; have r0c0 := r0.cell 0; have r0f0 := r0.free 0; have r0c1 := r0.cell 1; have r0f1 := r0.free 1; have r0c2 := r0.cell 2; have r0f2 := r0.free 2; have r0c3 := r0.cell 3; have r0f3 := r0.free 3; have r0c4 := r0.cell 4; have r0f4 := r0.free 4; have r0l := r0.lt; simp at r0c0 r0c1 r0c2 r0c3 r0c4) | (go_at_call 51; (with_reducible refine (f_rangedB 1 1000000 p.most _ 3 _ ?_).mono ?_); (focus (exact blk)); rw [HO.out]; rintro z w1 ⟨rfl, hb1⟩; refine Blk.thru (b := w.heap.size) (arr := ?_) (t := ?_) ?_ hb1 ?_; rotate_left 2; (focus (exact blk)); intro r0; have r0c0 := r0.cell 0; have r0f0 := r0.free 0; have r0c1 := r0.cell 1; have r0f1 := r0.free 1; have r0c2 := r0.cell 2; have r0f2 := r0.free 2; have r0c3 := r0.cell 3; have r0f3 := r0.free 3; have r0c4 := r0.cell 4; have r0f4 := r0.free 4; have r0l := r0.lt; simp at r0c0 r0c1 r0c2 r0c3 r0c4) | (go_at_call 51; (with_reducible refine (f_rangedB 0 2000 p.cross _ 3 _ ?_).mono ?_); (focus (exact blk)); rw [HC.out]; rintro z w1 ⟨rfl, hb1⟩; refine Blk.thru (b := w.heap.size) (arr := ?_) (t := ?_) ?_ hb1 ?_; rotate_left 2; (focus (exact blk)); intro r0; have r0c0 := r0.cell 0; have r0f0 := r0.free 0; have r0c1 := r0.cell 1; have r0f1 := r0.free 1; have r0c2 := r0.cell 2; have r0f2 := r0.free 2; have r0c3 := r0.cell 3; have r0f3 := r0.free 3; have r0c4 := r0.cell 4; have r0f4 := r0.free 4; have r0l := r0.lt; simp at r0c0 r0c1 r0c2 r0c3 r0c4))
    exact bodyPost_ret (v := .int .i64 72) (by simp [results, Try.results25, go_sem]) rfl ⟨rfl, by (exact kpt)⟩
  · skip
    cases hHL : linesB p.pulls
    · have HT := Lib.hid hHT
      have HL := Lib.hid hHL
      rw [show checkPort p = 72 by simp [checkPort, portB, hHT, hHL]]
      clear hHT hHL
      go_enter Try.func25, Try.ntmps25
      go_wp2_with (first | (go_at_call 56; (with_reducible refine (f_turnable _ _ _ _ (hx.later (by (exact kpt)) (Nat.le_refl _)) h1).mono ?_); rw [HT.out]; rintro z w1 ⟨rfl, hb1⟩; refine Blk.thru (b := w.heap.size) (arr := ?_) (t := ?_) ?_ hb1 ?_; rotate_left 2; (focus (exact blk)); intro r0; have r0c0 := r0.cell 0; have r0f0 := r0.free 0; have r0c1 := r0.cell 1; have r0f1 := r0.free 1; have r0c2 := r0.cell 2; have r0f2 := r0.free 2; have r0c3 := r0.cell 3; have r0f3 := r0.free 3; have r0c4 := r0.cell 4; have r0f4 := r0.free 4; have r0l := r0.lt; simp at r0c0 r0c1 r0c2 r0c3 r0c4) | (go_at_call 58; (with_reducible refine (f_lines _ _ _ _ (hy.later (by (exact kpt)) (Nat.le_refl _)) h2).mono ?_); rw [HL.out]; rintro z w1 ⟨rfl, hb1⟩; refine Blk.thru (b := w.heap.size) (arr := ?_) (t := ?_) ?_ hb1 ?_; rotate_left 2; (focus (exact blk)); intro r0; have r0c0 := r0.cell 0; have r0f0 := r0.free 0; have r0c1 := r0.cell 1; have r0f1 := r0.free 1; have r0c2 := r0.cell 2; have r0f2 := r0.free 2; have r0c3 := r0.cell 3; have r0f3 := r0.free 3; have r0c4 := r0.cell 4; have r0f4 := r0.free 4; have r0l := r0.lt; simp at r0c0 r0c1 r0c2 r0c3 r0c4) | (go_at_call 51; (with_reducible refine (f_rangedB 0 200 p.people _ 3 _ ?_).mono ?_); (focus (exact blk)); rw [HP.out]; rintro z w1 ⟨rfl, hb1⟩; refine Blk.thru (b := w.heap.size) (arr := ?_) (t := ?_) ?_ hb1 ?_; rotate_left 2; (focus (exact blk)); intro r0; have r0c0 := r0.cell 0; have r0f0 := r0.free 0; have r0c1 := r0.cell 1; have r0f1 := r0.free 1; have r0c2 := r0.cell 2; have r0f2 := r0.free 2; have r0c3 := r0.cell 3; have r0f3 := r0.free 3; have r0c4 := r0.cell 4; have r0f4 := r0.free 4; have r0l := r0.lt; simp at r0c0 r0c1 r0c2 r0c3 r0c4) | (go_at_call 51; (with_reducible refine (f_rangedB 1 1000000 p.most _ 3 _ ?_).mono ?_); (focus (exact blk)); rw [HO.out]; rintro z w1 ⟨rfl, hb1⟩; refine Blk.thru (b := w.heap.size) (arr := ?_) (t := ?_) ?_ hb1 ?_; rotate_left 2; (focus (exact blk)); intro r0; have r0c0 := r0.cell 0; have r0f0 := r0.free 0; have r0c1 := r0.cell 1; have r0f1 := r0.free 1; have r0c2 := r0.cell 2; have r0f2 := r0.free 2; have r0c3 := r0.cell 3; have r0f3 := r0.free 3; have r0c4 := r0.cell 4; have r0f4 := r0.free 4; have r0l := r0.lt; simp at r0c0 r0c1 r0c2 r0c3 r0c4) | (go_at_call 51; (with_reducible refine (f_rangedB 0 2000 p.cross _ 3 _ ?_).mono ?_); (focus (exact blk)); rw [HC.out]; rintro z w1 ⟨rfl, hb1⟩; refine Blk.thru (b := w.heap.size) (arr := ?_) (t := ?_) ?_ hb1 ?_; rotate_left 2; (focus (exact blk)); intro r0; have r0c0 := r0.cell 0; have r0f0 := r0.free 0; have r0c1 := r0.cell 1; have r0f1 := r0.free 1; have r0c2 := r0.cell 2; have r0f2 := r0.free 2; have r0c3 := r0.cell 3; have r0f3 := r0.free 3; have r0c4 := r0.cell 4; have r0f4 := r0.free 4; have r0l := r0.lt; simp at r0c0 r0c1 r0c2 r0c3 r0c4))
      exact bodyPost_ret (v := .int .i64 72) (by simp [results, Try.results25, go_sem]) rfl ⟨rfl, by (exact kpt)⟩
    · skip
      cases hHP : inB p.people 0 200
      · have HT := Lib.hid hHT
        have HL := Lib.hid hHL
        have HP := Lib.hid hHP
        rw [show checkPort p = 72 by simp [checkPort, portB, hHT, hHL, hHP]]
        clear hHT hHL hHP
        go_enter Try.func25, Try.ntmps25
        go_wp2_with (first | (go_at_call 56; (with_reducible refine (f_turnable _ _ _ _ (hx.later (by (exact kpt)) (Nat.le_refl _)) h1).mono ?_); rw [HT.out]; rintro z w1 ⟨rfl, hb1⟩; refine Blk.thru (b := w.heap.size) (arr := ?_) (t := ?_) ?_ hb1 ?_; rotate_left 2; (focus (exact blk)); intro r0; have r0c0 := r0.cell 0; have r0f0 := r0.free 0; have r0c1 := r0.cell 1; have r0f1 := r0.free 1; have r0c2 := r0.cell 2; have r0f2 := r0.free 2; have r0c3 := r0.cell 3; have r0f3 := r0.free 3; have r0c4 := r0.cell 4; have r0f4 := r0.free 4; have r0l := r0.lt; simp at r0c0 r0c1 r0c2 r0c3 r0c4) | (go_at_call 58; (with_reducible refine (f_lines _ _ _ _ (hy.later (by (exact kpt)) (Nat.le_refl _)) h2).mono ?_); rw [HL.out]; rintro z w1 ⟨rfl, hb1⟩; refine Blk.thru (b := w.heap.size) (arr := ?_) (t := ?_) ?_ hb1 ?_; rotate_left 2; (focus (exact blk)); intro r0; have r0c0 := r0.cell 0; have r0f0 := r0.free 0; have r0c1 := r0.cell 1; have r0f1 := r0.free 1; have r0c2 := r0.cell 2; have r0f2 := r0.free 2; have r0c3 := r0.cell 3; have r0f3 := r0.free 3; have r0c4 := r0.cell 4; have r0f4 := r0.free 4; have r0l := r0.lt; simp at r0c0 r0c1 r0c2 r0c3 r0c4) | (go_at_call 51; (with_reducible refine (f_rangedB 0 200 p.people _ 3 _ ?_).mono ?_); (focus (exact blk)); rw [HP.out]; rintro z w1 ⟨rfl, hb1⟩; refine Blk.thru (b := w.heap.size) (arr := ?_) (t := ?_) ?_ hb1 ?_; rotate_left 2; (focus (exact blk)); intro r0; have r0c0 := r0.cell 0; have r0f0 := r0.free 0; have r0c1 := r0.cell 1; have r0f1 := r0.free 1; have r0c2 := r0.cell 2; have r0f2 := r0.free 2; have r0c3 := r0.cell 3; have r0f3 := r0.free 3; have r0c4 := r0.cell 4; have r0f4 := r0.free 4; have r0l := r0.lt; simp at r0c0 r0c1 r0c2 r0c3 r0c4) | (go_at_call 51; (with_reducible refine (f_rangedB 1 1000000 p.most _ 3 _ ?_).mono ?_); (focus (exact blk)); rw [HO.out]; rintro z w1 ⟨rfl, hb1⟩; refine Blk.thru (b := w.heap.size) (arr := ?_) (t := ?_) ?_ hb1 ?_; rotate_left 2; (focus (exact blk)); intro r0; have r0c0 := r0.cell 0; have r0f0 := r0.free 0; have r0c1 := r0.cell 1; have r0f1 := r0.free 1; have r0c2 := r0.cell 2; have r0f2 := r0.free 2; have r0c3 := r0.cell 3; have r0f3 := r0.free 3; have r0c4 := r0.cell 4; have r0f4 := r0.free 4; have r0l := r0.lt; simp at r0c0 r0c1 r0c2 r0c3 r0c4) | (go_at_call 51; (with_reducible refine (f_rangedB 0 2000 p.cross _ 3 _ ?_).mono ?_); (focus (exact blk)); rw [HC.out]; rintro z w1 ⟨rfl, hb1⟩; refine Blk.thru (b := w.heap.size) (arr := ?_) (t := ?_) ?_ hb1 ?_; rotate_left 2; (focus (exact blk)); intro r0; have r0c0 := r0.cell 0; have r0f0 := r0.free 0; have r0c1 := r0.cell 1; have r0f1 := r0.free 1; have r0c2 := r0.cell 2; have r0f2 := r0.free 2; have r0c3 := r0.cell 3; have r0f3 := r0.free 3; have r0c4 := r0.cell 4; have r0f4 := r0.free 4; have r0l := r0.lt; simp at r0c0 r0c1 r0c2 r0c3 r0c4))
        exact bodyPost_ret (v := .int .i64 72) (by simp [results, Try.results25, go_sem]) rfl ⟨rfl, by (exact kpt)⟩
      · skip
        cases hHO : inB p.most 1 1000000
        · have HT := Lib.hid hHT
          have HL := Lib.hid hHL
          have HP := Lib.hid hHP
          have HO := Lib.hid hHO
          rw [show checkPort p = 72 by simp [checkPort, portB, hHT, hHL, hHP, hHO]]
          clear hHT hHL hHP hHO
          go_enter Try.func25, Try.ntmps25
          go_wp2_with (first | (go_at_call 56; (with_reducible refine (f_turnable _ _ _ _ (hx.later (by (exact kpt)) (Nat.le_refl _)) h1).mono ?_); rw [HT.out]; rintro z w1 ⟨rfl, hb1⟩; refine Blk.thru (b := w.heap.size) (arr := ?_) (t := ?_) ?_ hb1 ?_; rotate_left 2; (focus (exact blk)); intro r0; have r0c0 := r0.cell 0; have r0f0 := r0.free 0; have r0c1 := r0.cell 1; have r0f1 := r0.free 1; have r0c2 := r0.cell 2; have r0f2 := r0.free 2; have r0c3 := r0.cell 3; have r0f3 := r0.free 3; have r0c4 := r0.cell 4; have r0f4 := r0.free 4; have r0l := r0.lt; simp at r0c0 r0c1 r0c2 r0c3 r0c4) | (go_at_call 58; (with_reducible refine (f_lines _ _ _ _ (hy.later (by (exact kpt)) (Nat.le_refl _)) h2).mono ?_); rw [HL.out]; rintro z w1 ⟨rfl, hb1⟩; refine Blk.thru (b := w.heap.size) (arr := ?_) (t := ?_) ?_ hb1 ?_; rotate_left 2; (focus (exact blk)); intro r0; have r0c0 := r0.cell 0; have r0f0 := r0.free 0; have r0c1 := r0.cell 1; have r0f1 := r0.free 1; have r0c2 := r0.cell 2; have r0f2 := r0.free 2; have r0c3 := r0.cell 3; have r0f3 := r0.free 3; have r0c4 := r0.cell 4; have r0f4 := r0.free 4; have r0l := r0.lt; simp at r0c0 r0c1 r0c2 r0c3 r0c4) | (go_at_call 51; (with_reducible refine (f_rangedB 0 200 p.people _ 3 _ ?_).mono ?_); (focus (exact blk)); rw [HP.out]; rintro z w1 ⟨rfl, hb1⟩; refine Blk.thru (b := w.heap.size) (arr := ?_) (t := ?_) ?_ hb1 ?_; rotate_left 2; (focus (exact blk)); intro r0; have r0c0 := r0.cell 0; have r0f0 := r0.free 0; have r0c1 := r0.cell 1; have r0f1 := r0.free 1; have r0c2 := r0.cell 2; have r0f2 := r0.free 2; have r0c3 := r0.cell 3; have r0f3 := r0.free 3; have r0c4 := r0.cell 4; have r0f4 := r0.free 4; have r0l := r0.lt; simp at r0c0 r0c1 r0c2 r0c3 r0c4) | (go_at_call 51; (with_reducible refine (f_rangedB 1 1000000 p.most _ 3 _ ?_).mono ?_); (focus (exact blk)); rw [HO.out]; rintro z w1 ⟨rfl, hb1⟩; refine Blk.thru (b := w.heap.size) (arr := ?_) (t := ?_) ?_ hb1 ?_; rotate_left 2; (focus (exact blk)); intro r0; have r0c0 := r0.cell 0; have r0f0 := r0.free 0; have r0c1 := r0.cell 1; have r0f1 := r0.free 1; have r0c2 := r0.cell 2; have r0f2 := r0.free 2; have r0c3 := r0.cell 3; have r0f3 := r0.free 3; have r0c4 := r0.cell 4; have r0f4 := r0.free 4; have r0l := r0.lt; simp at r0c0 r0c1 r0c2 r0c3 r0c4) | (go_at_call 51; (with_reducible refine (f_rangedB 0 2000 p.cross _ 3 _ ?_).mono ?_); (focus (exact blk)); rw [HC.out]; rintro z w1 ⟨rfl, hb1⟩; refine Blk.thru (b := w.heap.size) (arr := ?_) (t := ?_) ?_ hb1 ?_; rotate_left 2; (focus (exact blk)); intro r0; have r0c0 := r0.cell 0; have r0f0 := r0.free 0; have r0c1 := r0.cell 1; have r0f1 := r0.free 1; have r0c2 := r0.cell 2; have r0f2 := r0.free 2; have r0c3 := r0.cell 3; have r0f3 := r0.free 3; have r0c4 := r0.cell 4; have r0f4 := r0.free 4; have r0l := r0.lt; simp at r0c0 r0c1 r0c2 r0c3 r0c4))
          exact bodyPost_ret (v := .int .i64 72) (by simp [results, Try.results25, go_sem]) rfl ⟨rfl, by (exact kpt)⟩
        · skip
          cases hHC : inB p.cross 0 2000
          · have HT := Lib.hid hHT
            have HL := Lib.hid hHL
            have HP := Lib.hid hHP
            have HO := Lib.hid hHO
            have HC := Lib.hid hHC
            rw [show checkPort p = 72 by simp [checkPort, portB, hHT, hHL, hHP, hHO, hHC]]
            clear hHT hHL hHP hHO hHC
            go_enter Try.func25, Try.ntmps25
            go_wp2_with (first | (go_at_call 56; (with_reducible refine (f_turnable _ _ _ _ (hx.later (by (exact kpt)) (Nat.le_refl _)) h1).mono ?_); rw [HT.out]; rintro z w1 ⟨rfl, hb1⟩; refine Blk.thru (b := w.heap.size) (arr := ?_) (t := ?_) ?_ hb1 ?_; rotate_left 2; (focus (exact blk)); intro r0; have r0c0 := r0.cell 0; have r0f0 := r0.free 0; have r0c1 := r0.cell 1; have r0f1 := r0.free 1; have r0c2 := r0.cell 2; have r0f2 := r0.free 2; have r0c3 := r0.cell 3; have r0f3 := r0.free 3; have r0c4 := r0.cell 4; have r0f4 := r0.free 4; have r0l := r0.lt; simp at r0c0 r0c1 r0c2 r0c3 r0c4) | (go_at_call 58; (with_reducible refine (f_lines _ _ _ _ (hy.later (by (exact kpt)) (Nat.le_refl _)) h2).mono ?_); rw [HL.out]; rintro z w1 ⟨rfl, hb1⟩; refine Blk.thru (b := w.heap.size) (arr := ?_) (t := ?_) ?_ hb1 ?_; rotate_left 2; (focus (exact blk)); intro r0; have r0c0 := r0.cell 0; have r0f0 := r0.free 0; have r0c1 := r0.cell 1; have r0f1 := r0.free 1; have r0c2 := r0.cell 2; have r0f2 := r0.free 2; have r0c3 := r0.cell 3; have r0f3 := r0.free 3; have r0c4 := r0.cell 4; have r0f4 := r0.free 4; have r0l := r0.lt; simp at r0c0 r0c1 r0c2 r0c3 r0c4) | (go_at_call 51; (with_reducible refine (f_rangedB 0 200 p.people _ 3 _ ?_).mono ?_); (focus (exact blk)); rw [HP.out]; rintro z w1 ⟨rfl, hb1⟩; refine Blk.thru (b := w.heap.size) (arr := ?_) (t := ?_) ?_ hb1 ?_; rotate_left 2; (focus (exact blk)); intro r0; have r0c0 := r0.cell 0; have r0f0 := r0.free 0; have r0c1 := r0.cell 1; have r0f1 := r0.free 1; have r0c2 := r0.cell 2; have r0f2 := r0.free 2; have r0c3 := r0.cell 3; have r0f3 := r0.free 3; have r0c4 := r0.cell 4; have r0f4 := r0.free 4; have r0l := r0.lt; simp at r0c0 r0c1 r0c2 r0c3 r0c4) | (go_at_call 51; (with_reducible refine (f_rangedB 1 1000000 p.most _ 3 _ ?_).mono ?_); (focus (exact blk)); rw [HO.out]; rintro z w1 ⟨rfl, hb1⟩; refine Blk.thru (b := w.heap.size) (arr := ?_) (t := ?_) ?_ hb1 ?_; rotate_left 2; (focus (exact blk)); intro r0; have r0c0 := r0.cell 0; have r0f0 := r0.free 0; have r0c1 := r0.cell 1; have r0f1 := r0.free 1; have r0c2 := r0.cell 2; have r0f2 := r0.free 2; have r0c3 := r0.cell 3; have r0f3 := r0.free 3; have r0c4 := r0.cell 4; have r0f4 := r0.free 4; have r0l := r0.lt; simp at r0c0 r0c1 r0c2 r0c3 r0c4) | (go_at_call 51; (with_reducible refine (f_rangedB 0 2000 p.cross _ 3 _ ?_).mono ?_); (focus (exact blk)); rw [HC.out]; rintro z w1 ⟨rfl, hb1⟩; refine Blk.thru (b := w.heap.size) (arr := ?_) (t := ?_) ?_ hb1 ?_; rotate_left 2; (focus (exact blk)); intro r0; have r0c0 := r0.cell 0; have r0f0 := r0.free 0; have r0c1 := r0.cell 1; have r0f1 := r0.free 1; have r0c2 := r0.cell 2; have r0f2 := r0.free 2; have r0c3 := r0.cell 3; have r0f3 := r0.free 3; have r0c4 := r0.cell 4; have r0f4 := r0.free 4; have r0l := r0.lt; simp at r0c0 r0c1 r0c2 r0c3 r0c4))
            exact bodyPost_ret (v := .int .i64 72) (by simp [results, Try.results25, go_sem]) rfl ⟨rfl, by (exact kpt)⟩
          · have HT := Lib.hid hHT
            have HL := Lib.hid hHL
            have HP := Lib.hid hHP
            have HO := Lib.hid hHO
            have HC := Lib.hid hHC
            rw [show checkPort p = 0 by simp [checkPort, portB, hHT, hHL, hHP, hHO, hHC]]
            clear hHT hHL hHP hHO hHC
            go_enter Try.func25, Try.ntmps25
            go_wp2_with (first | (go_at_call 56; (with_reducible refine (f_turnable _ _ _ _ (hx.later (by (exact kpt)) (Nat.le_refl _)) h1).mono ?_); rw [HT.out]; rintro z w1 ⟨rfl, hb1⟩; refine Blk.thru (b := w.heap.size) (arr := ?_) (t := ?_) ?_ hb1 ?_; rotate_left 2; (focus (exact blk)); intro r0; have r0c0 := r0.cell 0; have r0f0 := r0.free 0; have r0c1 := r0.cell 1; have r0f1 := r0.free 1; have r0c2 := r0.cell 2; have r0f2 := r0.free 2; have r0c3 := r0.cell 3; have r0f3 := r0.free 3; have r0c4 := r0.cell 4; have r0f4 := r0.free 4; have r0l := r0.lt; simp at r0c0 r0c1 r0c2 r0c3 r0c4) | (go_at_call 58; (with_reducible refine (f_lines _ _ _ _ (hy.later (by (exact kpt)) (Nat.le_refl _)) h2).mono ?_); rw [HL.out]; rintro z w1 ⟨rfl, hb1⟩; refine Blk.thru (b := w.heap.size) (arr := ?_) (t := ?_) ?_ hb1 ?_; rotate_left 2; (focus (exact blk)); intro r0; have r0c0 := r0.cell 0; have r0f0 := r0.free 0; have r0c1 := r0.cell 1; have r0f1 := r0.free 1; have r0c2 := r0.cell 2; have r0f2 := r0.free 2; have r0c3 := r0.cell 3; have r0f3 := r0.free 3; have r0c4 := r0.cell 4; have r0f4 := r0.free 4; have r0l := r0.lt; simp at r0c0 r0c1 r0c2 r0c3 r0c4) | (go_at_call 51; (with_reducible refine (f_rangedB 0 200 p.people _ 3 _ ?_).mono ?_); (focus (exact blk)); rw [HP.out]; rintro z w1 ⟨rfl, hb1⟩; refine Blk.thru (b := w.heap.size) (arr := ?_) (t := ?_) ?_ hb1 ?_; rotate_left 2; (focus (exact blk)); intro r0; have r0c0 := r0.cell 0; have r0f0 := r0.free 0; have r0c1 := r0.cell 1; have r0f1 := r0.free 1; have r0c2 := r0.cell 2; have r0f2 := r0.free 2; have r0c3 := r0.cell 3; have r0f3 := r0.free 3; have r0c4 := r0.cell 4; have r0f4 := r0.free 4; have r0l := r0.lt; simp at r0c0 r0c1 r0c2 r0c3 r0c4) | (go_at_call 51; (with_reducible refine (f_rangedB 1 1000000 p.most _ 3 _ ?_).mono ?_); (focus (exact blk)); rw [HO.out]; rintro z w1 ⟨rfl, hb1⟩; refine Blk.thru (b := w.heap.size) (arr := ?_) (t := ?_) ?_ hb1 ?_; rotate_left 2; (focus (exact blk)); intro r0; have r0c0 := r0.cell 0; have r0f0 := r0.free 0; have r0c1 := r0.cell 1; have r0f1 := r0.free 1; have r0c2 := r0.cell 2; have r0f2 := r0.free 2; have r0c3 := r0.cell 3; have r0f3 := r0.free 3; have r0c4 := r0.cell 4; have r0f4 := r0.free 4; have r0l := r0.lt; simp at r0c0 r0c1 r0c2 r0c3 r0c4) | (go_at_call 51; (with_reducible refine (f_rangedB 0 2000 p.cross _ 3 _ ?_).mono ?_); (focus (exact blk)); rw [HC.out]; rintro z w1 ⟨rfl, hb1⟩; refine Blk.thru (b := w.heap.size) (arr := ?_) (t := ?_) ?_ hb1 ?_; rotate_left 2; (focus (exact blk)); intro r0; have r0c0 := r0.cell 0; have r0f0 := r0.free 0; have r0c1 := r0.cell 1; have r0f1 := r0.free 1; have r0c2 := r0.cell 2; have r0f2 := r0.free 2; have r0c3 := r0.cell 3; have r0f3 := r0.free 3; have r0c4 := r0.cell 4; have r0f4 := r0.free 4; have r0l := r0.lt; simp at r0c0 r0c1 r0c2 r0c3 r0c4))
            exact bodyPost_ret (v := .int .i64 0) (by simp [results, Try.results25, go_sem]) rfl ⟨rfl, by (exact kpt)⟩

theorem r_Port (a : Option Addr) (c : Nat) (e : Option Addr) (d : Nat) (p : Port) (w : World) (hx : Row Axis.cells 2 w.heap.size w a p.axes) (hc : p.axes.length ≤ c) (hM : c ≤ maxLen) (hy : Row Span.cells 2 w.heap.size w e p.pulls) (hd : p.pulls.length ≤ d) (hN : d ≤ maxLen) (h1 : p.axes.length ≤ 1000000) (h2 : p.pulls.length ≤ 1000000) :
    Calls Try.prog 68 #[.agg #[.slice a p.axes.length c, .int .i64 p.people, .int .i64 p.most, .slice e p.pulls.length d, .int .i64 p.cross]] w fun z w' => z = .returned (.bool (portB p)) ∧ Kept w w' := by
  unfold maxLen at hM hN
  cases hHT : turnable p.axes
  · have HT := Lib.hid hHT
    rw [show portB p = false by simp [checkPort, portB, hHT]]
    clear hHT
    go_enter Try.func68, Try.ntmps68
    go_wp2_with (first | (go_at_call 57; (with_reducible refine (r_axes _ _ _ _ (hx.later (by (exact kpt)) (Nat.le_refl _)) h1).mono ?_); rw [HT.out]; rintro z w1 ⟨rfl, hb1⟩; refine Blk.thru (b := w.heap.size) (arr := ?_) (t := ?_) ?_ hb1 ?_; rotate_left 2; (focus (exact blk)); intro r0; have r0c0 := r0.cell 0; have r0f0 := r0.free 0; have r0c1 := r0.cell 1; have r0f1 := r0.free 1; have r0c2 := r0.cell 2; have r0f2 := r0.free 2; have r0c3 := r0.cell 3; have r0f3 := r0.free 3; have r0c4 := r0.cell 4; have r0f4 := r0.free 4; have r0l := r0.lt; simp at r0c0 r0c1 r0c2 r0c3 r0c4) | (go_at_call 60; (with_reducible refine (r_pulls _ _ _ _ (hy.later (by (exact kpt)) (Nat.le_refl _)) h2).mono ?_); rw [HL.out]; rintro z w1 ⟨rfl, hb1⟩; refine Blk.thru (b := w.heap.size) (arr := ?_) (t := ?_) ?_ hb1 ?_; rotate_left 2; (focus (exact blk)); intro r0; have r0c0 := r0.cell 0; have r0f0 := r0.free 0; have r0c1 := r0.cell 1; have r0f1 := r0.free 1; have r0c2 := r0.cell 2; have r0f2 := r0.free 2; have r0c3 := r0.cell 3; have r0f3 := r0.free 3; have r0c4 := r0.cell 4; have r0f4 := r0.free 4; have r0l := r0.lt; simp at r0c0 r0c1 r0c2 r0c3 r0c4) | (go_at_call 53; (with_reducible refine (r_within p.people 0 200 _).mono ?_); rw [HP.out]; rintro z w1 ⟨rfl, rfl⟩) | (go_at_call 53; (with_reducible refine (r_within p.most 1 1000000 _).mono ?_); rw [HO.out]; rintro z w1 ⟨rfl, rfl⟩) | (go_at_call 53; (with_reducible refine (r_within p.cross 0 2000 _).mono ?_); rw [HC.out]; rintro z w1 ⟨rfl, rfl⟩))
    exact bodyPost_ret (v := .bool false) (by simp [results, Try.results68, go_sem]) rfl ⟨rfl, by (exact kpt)⟩
  · skip
    cases hHP : inB p.people 0 200
    · have HT := Lib.hid hHT
      have HP := Lib.hid hHP
      rw [show portB p = false by simp [checkPort, portB, hHT, hHP]]
      clear hHT hHP
      go_enter Try.func68, Try.ntmps68
      go_wp2_with (first | (go_at_call 57; (with_reducible refine (r_axes _ _ _ _ (hx.later (by (exact kpt)) (Nat.le_refl _)) h1).mono ?_); rw [HT.out]; rintro z w1 ⟨rfl, hb1⟩; refine Blk.thru (b := w.heap.size) (arr := ?_) (t := ?_) ?_ hb1 ?_; rotate_left 2; (focus (exact blk)); intro r0; have r0c0 := r0.cell 0; have r0f0 := r0.free 0; have r0c1 := r0.cell 1; have r0f1 := r0.free 1; have r0c2 := r0.cell 2; have r0f2 := r0.free 2; have r0c3 := r0.cell 3; have r0f3 := r0.free 3; have r0c4 := r0.cell 4; have r0f4 := r0.free 4; have r0l := r0.lt; simp at r0c0 r0c1 r0c2 r0c3 r0c4) | (go_at_call 60; (with_reducible refine (r_pulls _ _ _ _ (hy.later (by (exact kpt)) (Nat.le_refl _)) h2).mono ?_); rw [HL.out]; rintro z w1 ⟨rfl, hb1⟩; refine Blk.thru (b := w.heap.size) (arr := ?_) (t := ?_) ?_ hb1 ?_; rotate_left 2; (focus (exact blk)); intro r0; have r0c0 := r0.cell 0; have r0f0 := r0.free 0; have r0c1 := r0.cell 1; have r0f1 := r0.free 1; have r0c2 := r0.cell 2; have r0f2 := r0.free 2; have r0c3 := r0.cell 3; have r0f3 := r0.free 3; have r0c4 := r0.cell 4; have r0f4 := r0.free 4; have r0l := r0.lt; simp at r0c0 r0c1 r0c2 r0c3 r0c4) | (go_at_call 53; (with_reducible refine (r_within p.people 0 200 _).mono ?_); rw [HP.out]; rintro z w1 ⟨rfl, rfl⟩) | (go_at_call 53; (with_reducible refine (r_within p.most 1 1000000 _).mono ?_); rw [HO.out]; rintro z w1 ⟨rfl, rfl⟩) | (go_at_call 53; (with_reducible refine (r_within p.cross 0 2000 _).mono ?_); rw [HC.out]; rintro z w1 ⟨rfl, rfl⟩))
      exact bodyPost_ret (v := .bool false) (by simp [results, Try.results68, go_sem]) rfl ⟨rfl, by (exact kpt)⟩
    · skip
      cases hHO : inB p.most 1 1000000
      · have HT := Lib.hid hHT
        have HP := Lib.hid hHP
        have HO := Lib.hid hHO
        rw [show portB p = false by simp [checkPort, portB, hHT, hHP, hHO]]
        clear hHT hHP hHO
        go_enter Try.func68, Try.ntmps68
        go_wp2_with (first | (go_at_call 57; (with_reducible refine (r_axes _ _ _ _ (hx.later (by (exact kpt)) (Nat.le_refl _)) h1).mono ?_); rw [HT.out]; rintro z w1 ⟨rfl, hb1⟩; refine Blk.thru (b := w.heap.size) (arr := ?_) (t := ?_) ?_ hb1 ?_; rotate_left 2; (focus (exact blk)); intro r0; have r0c0 := r0.cell 0; have r0f0 := r0.free 0; have r0c1 := r0.cell 1; have r0f1 := r0.free 1; have r0c2 := r0.cell 2; have r0f2 := r0.free 2; have r0c3 := r0.cell 3; have r0f3 := r0.free 3; have r0c4 := r0.cell 4; have r0f4 := r0.free 4; have r0l := r0.lt; simp at r0c0 r0c1 r0c2 r0c3 r0c4) | (go_at_call 60; (with_reducible refine (r_pulls _ _ _ _ (hy.later (by (exact kpt)) (Nat.le_refl _)) h2).mono ?_); rw [HL.out]; rintro z w1 ⟨rfl, hb1⟩; refine Blk.thru (b := w.heap.size) (arr := ?_) (t := ?_) ?_ hb1 ?_; rotate_left 2; (focus (exact blk)); intro r0; have r0c0 := r0.cell 0; have r0f0 := r0.free 0; have r0c1 := r0.cell 1; have r0f1 := r0.free 1; have r0c2 := r0.cell 2; have r0f2 := r0.free 2; have r0c3 := r0.cell 3; have r0f3 := r0.free 3; have r0c4 := r0.cell 4; have r0f4 := r0.free 4; have r0l := r0.lt; simp at r0c0 r0c1 r0c2 r0c3 r0c4) | (go_at_call 53; (with_reducible refine (r_within p.people 0 200 _).mono ?_); rw [HP.out]; rintro z w1 ⟨rfl, rfl⟩) | (go_at_call 53; (with_reducible refine (r_within p.most 1 1000000 _).mono ?_); rw [HO.out]; rintro z w1 ⟨rfl, rfl⟩) | (go_at_call 53; (with_reducible refine (r_within p.cross 0 2000 _).mono ?_); rw [HC.out]; rintro z w1 ⟨rfl, rfl⟩))
        exact bodyPost_ret (v := .bool false) (by simp [results, Try.results68, go_sem]) rfl ⟨rfl, by (exact kpt)⟩
      · skip
        cases hHL : linesB p.pulls
        · have HT := Lib.hid hHT
          have HP := Lib.hid hHP
          have HO := Lib.hid hHO
          have HL := Lib.hid hHL
          rw [show portB p = false by simp [checkPort, portB, hHT, hHP, hHO, hHL]]
          clear hHT hHP hHO hHL
          go_enter Try.func68, Try.ntmps68
          go_wp2_with (first | (go_at_call 57; (with_reducible refine (r_axes _ _ _ _ (hx.later (by (exact kpt)) (Nat.le_refl _)) h1).mono ?_); rw [HT.out]; rintro z w1 ⟨rfl, hb1⟩; refine Blk.thru (b := w.heap.size) (arr := ?_) (t := ?_) ?_ hb1 ?_; rotate_left 2; (focus (exact blk)); intro r0; have r0c0 := r0.cell 0; have r0f0 := r0.free 0; have r0c1 := r0.cell 1; have r0f1 := r0.free 1; have r0c2 := r0.cell 2; have r0f2 := r0.free 2; have r0c3 := r0.cell 3; have r0f3 := r0.free 3; have r0c4 := r0.cell 4; have r0f4 := r0.free 4; have r0l := r0.lt; simp at r0c0 r0c1 r0c2 r0c3 r0c4) | (go_at_call 60; (with_reducible refine (r_pulls _ _ _ _ (hy.later (by (exact kpt)) (Nat.le_refl _)) h2).mono ?_); rw [HL.out]; rintro z w1 ⟨rfl, hb1⟩; refine Blk.thru (b := w.heap.size) (arr := ?_) (t := ?_) ?_ hb1 ?_; rotate_left 2; (focus (exact blk)); intro r0; have r0c0 := r0.cell 0; have r0f0 := r0.free 0; have r0c1 := r0.cell 1; have r0f1 := r0.free 1; have r0c2 := r0.cell 2; have r0f2 := r0.free 2; have r0c3 := r0.cell 3; have r0f3 := r0.free 3; have r0c4 := r0.cell 4; have r0f4 := r0.free 4; have r0l := r0.lt; simp at r0c0 r0c1 r0c2 r0c3 r0c4) | (go_at_call 53; (with_reducible refine (r_within p.people 0 200 _).mono ?_); rw [HP.out]; rintro z w1 ⟨rfl, rfl⟩) | (go_at_call 53; (with_reducible refine (r_within p.most 1 1000000 _).mono ?_); rw [HO.out]; rintro z w1 ⟨rfl, rfl⟩) | (go_at_call 53; (with_reducible refine (r_within p.cross 0 2000 _).mono ?_); rw [HC.out]; rintro z w1 ⟨rfl, rfl⟩))
          exact bodyPost_ret (v := .bool false) (by simp [results, Try.results68, go_sem]) rfl ⟨rfl, by (exact kpt)⟩
        · skip
          cases hHC : inB p.cross 0 2000
          · have HT := Lib.hid hHT
            have HP := Lib.hid hHP
            have HO := Lib.hid hHO
            have HL := Lib.hid hHL
            have HC := Lib.hid hHC
            rw [show portB p = false by simp [checkPort, portB, hHT, hHP, hHO, hHL, hHC]]
            clear hHT hHP hHO hHL hHC
            go_enter Try.func68, Try.ntmps68
            go_wp2_with (first | (go_at_call 57; (with_reducible refine (r_axes _ _ _ _ (hx.later (by (exact kpt)) (Nat.le_refl _)) h1).mono ?_); rw [HT.out]; rintro z w1 ⟨rfl, hb1⟩; refine Blk.thru (b := w.heap.size) (arr := ?_) (t := ?_) ?_ hb1 ?_; rotate_left 2; (focus (exact blk)); intro r0; have r0c0 := r0.cell 0; have r0f0 := r0.free 0; have r0c1 := r0.cell 1; have r0f1 := r0.free 1; have r0c2 := r0.cell 2; have r0f2 := r0.free 2; have r0c3 := r0.cell 3; have r0f3 := r0.free 3; have r0c4 := r0.cell 4; have r0f4 := r0.free 4; have r0l := r0.lt; simp at r0c0 r0c1 r0c2 r0c3 r0c4) | (go_at_call 60; (with_reducible refine (r_pulls _ _ _ _ (hy.later (by (exact kpt)) (Nat.le_refl _)) h2).mono ?_); rw [HL.out]; rintro z w1 ⟨rfl, hb1⟩; refine Blk.thru (b := w.heap.size) (arr := ?_) (t := ?_) ?_ hb1 ?_; rotate_left 2; (focus (exact blk)); intro r0; have r0c0 := r0.cell 0; have r0f0 := r0.free 0; have r0c1 := r0.cell 1; have r0f1 := r0.free 1; have r0c2 := r0.cell 2; have r0f2 := r0.free 2; have r0c3 := r0.cell 3; have r0f3 := r0.free 3; have r0c4 := r0.cell 4; have r0f4 := r0.free 4; have r0l := r0.lt; simp at r0c0 r0c1 r0c2 r0c3 r0c4) | (go_at_call 53; (with_reducible refine (r_within p.people 0 200 _).mono ?_); rw [HP.out]; rintro z w1 ⟨rfl, rfl⟩) | (go_at_call 53; (with_reducible refine (r_within p.most 1 1000000 _).mono ?_); rw [HO.out]; rintro z w1 ⟨rfl, rfl⟩) | (go_at_call 53; (with_reducible refine (r_within p.cross 0 2000 _).mono ?_); rw [HC.out]; rintro z w1 ⟨rfl, rfl⟩))
            exact bodyPost_ret (v := .bool false) (by simp [results, Try.results68, go_sem]) rfl ⟨rfl, by (exact kpt)⟩
          · have HT := Lib.hid hHT
            have HP := Lib.hid hHP
            have HO := Lib.hid hHO
            have HL := Lib.hid hHL
            have HC := Lib.hid hHC
            rw [show portB p = true by simp [checkPort, portB, hHT, hHP, hHO, hHL, hHC]]
            clear hHT hHP hHO hHL hHC
            go_enter Try.func68, Try.ntmps68
            go_wp2_with (first | (go_at_call 57; (with_reducible refine (r_axes _ _ _ _ (hx.later (by (exact kpt)) (Nat.le_refl _)) h1).mono ?_); rw [HT.out]; rintro z w1 ⟨rfl, hb1⟩; refine Blk.thru (b := w.heap.size) (arr := ?_) (t := ?_) ?_ hb1 ?_; rotate_left 2; (focus (exact blk)); intro r0; have r0c0 := r0.cell 0; have r0f0 := r0.free 0; have r0c1 := r0.cell 1; have r0f1 := r0.free 1; have r0c2 := r0.cell 2; have r0f2 := r0.free 2; have r0c3 := r0.cell 3; have r0f3 := r0.free 3; have r0c4 := r0.cell 4; have r0f4 := r0.free 4; have r0l := r0.lt; simp at r0c0 r0c1 r0c2 r0c3 r0c4) | (go_at_call 60; (with_reducible refine (r_pulls _ _ _ _ (hy.later (by (exact kpt)) (Nat.le_refl _)) h2).mono ?_); rw [HL.out]; rintro z w1 ⟨rfl, hb1⟩; refine Blk.thru (b := w.heap.size) (arr := ?_) (t := ?_) ?_ hb1 ?_; rotate_left 2; (focus (exact blk)); intro r0; have r0c0 := r0.cell 0; have r0f0 := r0.free 0; have r0c1 := r0.cell 1; have r0f1 := r0.free 1; have r0c2 := r0.cell 2; have r0f2 := r0.free 2; have r0c3 := r0.cell 3; have r0f3 := r0.free 3; have r0c4 := r0.cell 4; have r0f4 := r0.free 4; have r0l := r0.lt; simp at r0c0 r0c1 r0c2 r0c3 r0c4) | (go_at_call 53; (with_reducible refine (r_within p.people 0 200 _).mono ?_); rw [HP.out]; rintro z w1 ⟨rfl, rfl⟩) | (go_at_call 53; (with_reducible refine (r_within p.most 1 1000000 _).mono ?_); rw [HO.out]; rintro z w1 ⟨rfl, rfl⟩) | (go_at_call 53; (with_reducible refine (r_within p.cross 0 2000 _).mono ?_); rw [HC.out]; rintro z w1 ⟨rfl, rfl⟩))
            exact bodyPost_ret (v := .bool true) (by simp [results, Try.results68, go_sem]) rfl ⟨rfl, by (exact kpt)⟩

theorem r_CheckPort (a : Option Addr) (c : Nat) (e : Option Addr) (d : Nat) (p : Port) (w : World) (hx : Row Axis.cells 2 w.heap.size w a p.axes) (hc : p.axes.length ≤ c) (hM : c ≤ maxLen) (hy : Row Span.cells 2 w.heap.size w e p.pulls) (hd : p.pulls.length ≤ d) (hN : d ≤ maxLen) (h1 : p.axes.length ≤ 1000000) (h2 : p.pulls.length ≤ 1000000) :
    Calls Try.prog 26 #[.agg #[.slice a p.axes.length c, .int .i64 p.people, .int .i64 p.most, .slice e p.pulls.length d, .int .i64 p.cross]] w fun z w' => z = .returned (.int .i64 (checkPort p)) ∧ Kept w w' := by
  cases hp : portB p
  all_goals
    have HPB := Lib.hid hp
    unfold checkPort
    rw [hp]
    clear hp
    go_enter Try.func26, Try.ntmps26
    go_wp2_with (go_at_call 68; (with_reducible refine (r_Port a c e d p _ (hx.later (by (exact kpt)) (Nat.le_refl _)) hc hM (hy.later (by (exact kpt)) (Nat.le_refl _)) hd hN h1 h2).mono ?_); rw [HPB.out]; rintro z w1 ⟨rfl, hb1⟩)
    exact bodyPost_ret (v := .int .i64 _) (by simp [results, Try.results26, go_sem]) rfl ⟨rfl, by (exact kpt)⟩

theorem f_need (a : Option Addr) (c : Nat) (e : Option Addr) (d : Nat) (p : Port) (w : World) (hx : Row Axis.cells 2 w.heap.size w a p.axes) (hc : p.axes.length ≤ c) (hM : c ≤ maxLen) (hy : Row Span.cells 2 w.heap.size w e p.pulls) (hd : p.pulls.length ≤ d) (hN : d ≤ maxLen) (h1 : p.axes.length ≤ 1000000) (h2 : p.pulls.length ≤ 1000000) (hp : portB p = true) :
    Calls Try.prog 64 #[.agg #[.slice a p.axes.length c, .int .i64 p.people, .int .i64 p.most, .slice e p.pulls.length d, .int .i64 p.cross]] w fun z w' => z = .returned (.int .i64 (needP p)) ∧ Kept w w' := by
  obtain ⟨_, hl, _, ho, _⟩ := portB_parts hp
  obtain ⟨h8, hv⟩ := linesB_parts hl
  obtain ⟨hm1, hm2⟩ := inB_iff.1 ho
  have HV := Lib.hid (show ∀ s ∈ p.pulls, lineB s = true from hv)
  clear hv hp hl ho
  unfold maxLen at hN
  go_enter Try.func64, Try.ntmps64
  go_wp2_with (go_at_call 59; (with_reducible refine (f_needed e d p.pulls p.most _ (hy.later (by (exact kpt)) (Nat.le_refl _)) h8 HV.out hm1 hm2).mono ?_); rintro z w1 ⟨v, rfl, hv, hb1⟩)
  exact bodyPost_ret (v := .int .i64 (needP p)) (by simp [results, Try.results64, go_sem, needP]) rfl ⟨rfl, by (exact kpt)⟩
theorem r_Need (a : Option Addr) (c : Nat) (e : Option Addr) (d : Nat) (p : Port) (w : World) (hx : Row Axis.cells 2 w.heap.size w a p.axes) (hc : p.axes.length ≤ c) (hM : c ≤ maxLen) (hy : Row Span.cells 2 w.heap.size w e p.pulls) (hd : p.pulls.length ≤ d) (hN : d ≤ maxLen) (h1 : p.axes.length ≤ 1000000) (h2 : p.pulls.length ≤ 1000000) (hp : portB p = true) :
    Calls Try.prog 77 #[.agg #[.slice a p.axes.length c, .int .i64 p.people, .int .i64 p.most, .slice e p.pulls.length d, .int .i64 p.cross]] w fun z w' => z = .returned (.int .i64 (needP p)) ∧ Kept w w' := by
  obtain ⟨_, hl, _, ho, _⟩ := portB_parts hp
  obtain ⟨h8, hv⟩ := linesB_parts hl
  obtain ⟨hm1, hm2⟩ := inB_iff.1 ho
  have HV := Lib.hid (show ∀ s ∈ p.pulls, lineB s = true from hv)
  have HNL := Lib.hid (show (needs p.most p.pulls).length ≤ 8 by rw [needs_len]; exact h8)
  have HNB := Lib.hid (needs_bd hm1 hv)
  clear hv hp hl ho
  unfold maxLen at hN
  go_enter Try.func77, Try.ntmps77
  go_wp2_with (first | (go_at_call 61; (with_reducible refine (r_needs e d p.pulls p.most _ (hy.later (by (exact kpt)) (Nat.le_refl _)) h8 HV.out hm1 hm2).mono ?_); rintro z w1 ⟨v, rfl, hv, hb1⟩; obtain ⟨an, cn, rfl, hn1, hn2, hn3⟩ := owns_row (enc := icell) (k := 1) (fun _ => rfl) hv) | (go_at_call 62; (with_reducible refine (r_total _ _ _ _ hn1 HNL.out HNB.out).mono ?_); rintro z w2 ⟨rfl, rfl⟩))
  exact bodyPost_ret (v := .int .i64 (needP p)) (by first | (simp [results, Try.results77, go_sem, needP]; done) | (simp [results, Try.results77, go_sem, needP]; omega)) rfl ⟨rfl, by (exact kpt)⟩

end Go.Proofs.Ytacbkbilbmkjnaa

/-
  Berths, checked in the reference.
-/
namespace Go.Proofs.Ytacbkbilbmkjnaa
open Go.RowKit Bal Bal.Trim Bal.Mast
set_option linter.unusedVariables false
set_option linter.unusedSimpArgs false
set_option maxHeartbeats 4000000
set_option maxRecDepth 10000

theorem r_withinK (n lo hi : Int) (w : World) (V : Bool) (h : inB n lo hi = V) :
    Calls Try.prog 53 #[.int .i64 n, .int .i64 lo, .int .i64 hi] w fun z w' => z = .returned (.bool V) ∧ Kept w w' := by
  subst h
  exact (r_within n lo hi w).mono fun z w' ⟨h1, h2⟩ => ⟨h1, h2 ▸ Below.refl _ _⟩
theorem r_Berth (a : Option Addr) (c : Nat) (e : Option Addr) (d : Nat) (p : Port) (w : World) (hx : Row Axis.cells 2 w.heap.size w a p.axes) (hc : p.axes.length ≤ c) (hM : c ≤ maxLen) (hy : Row Span.cells 2 w.heap.size w e p.pulls) (hd : p.pulls.length ≤ d) (hN : d ≤ maxLen) (h1 : p.axes.length ≤ 1000000) (h2 : p.pulls.length ≤ 1000000) (b : Berth) (hs0 : 0 ≤ b.ship) (hp : portB p = true) :
    Calls Try.prog 76 #[.agg #[.slice a p.axes.length c, .int .i64 p.people, .int .i64 p.most, .slice e p.pulls.length d, .int .i64 p.cross], .agg #[.int .u8 b.ship, .int .i64 b.axis, .int .i64 b.held, .bool b.wire, .bool b.opn]] w fun z w' => z = .returned (.bool (berthB p b)) ∧ Kept w w' := by
  have hM' := hM
  have hN' := hN
  unfold maxLen at hM' hN'
  have hbd := portB_bd hp
  have hnd := needP_bd hp
  have u1 : IntKind.i64.wrap ((p.axes.length : Int) - 1) = (p.axes.length : Int) - 1 := by rw [IntKind.wrap_i64]; omega
  go_enter Try.func76, Try.ntmps76
  go_upto_region 1 with fail
  refine at_world (S := fun V => Blk V w.heap.size #[.slice a p.axes.length c, .int .i64 p.people, .int .i64 p.most, .slice e p.pulls.length d, .int .i64 p.cross] 45 ∧ Blk V (w.heap.size + 1) #[.int .u8 b.ship, .int .i64 b.axis, .int .i64 b.held, .bool b.wire, .bool b.opn] 59 ∧ Kept w V) ⟨by (exact blk), by (exact blk), by (exact kpt)⟩ ?_
  rintro W ⟨rp, rb, hk⟩
  have rpc0 := fun g : Later W => (rp.later g).cell 0
  have rpc1 := fun g : Later W => (rp.later g).cell 1
  have rpc2 := fun g : Later W => (rp.later g).cell 2
  have rpc3 := fun g : Later W => (rp.later g).cell 3
  have rpc4 := fun g : Later W => (rp.later g).cell 4
  have rpf0 := fun g : Later W => (rp.later g).free 0
  have rpf1 := fun g : Later W => (rp.later g).free 1
  have rpf2 := fun g : Later W => (rp.later g).free 2
  have rpf3 := fun g : Later W => (rp.later g).free 3
  have rpf4 := fun g : Later W => (rp.later g).free 4
  have rpl := fun g : Later W => (rp.later g).lt
  simp at rpc0 rpc1 rpc2 rpc3 rpc4
  have rbc0 := fun g : Later W => (rb.later g).cell 0
  have rbc1 := fun g : Later W => (rb.later g).cell 1
  have rbc2 := fun g : Later W => (rb.later g).cell 2
  have rbc3 := fun g : Later W => (rb.later g).cell 3
  have rbc4 := fun g : Later W => (rb.later g).cell 4
  have rbf0 := fun g : Later W => (rb.later g).free 0
  have rbf1 := fun g : Later W => (rb.later g).free 1
  have rbf2 := fun g : Later W => (rb.later g).free 2
  have rbf3 := fun g : Later W => (rb.later g).free 3
  have rbf4 := fun g : Later W => (rb.later g).free 4
  have rbl := fun g : Later W => (rb.later g).lt
  simp at rbc0 rbc1 rbc2 rbc3 rbc4
  by_cases v1 : 5 < b.ship
  · have hfit : fitsB p b = false := by simp [fitsB]; omega
    refine Later.region (by kernel_rfl) (by kernel_rfl) ?_
    repeat (first | go_big_quiet_skip | (go_big_quiet_want; go_big_quiet_op; first | go_big_quiet_on | (apply Exists.intro; refine ⟨fun g => ?_, ?_⟩; (focus (first | (go_at_call 53; with_reducible exact Later.call (r_withinK b.axis 0 (p.axes.length - 1) _ _ HV2.out)) | (go_at_call 77; with_reducible exact Later.call (r_Need a c e d p _ (hx.later (Kept.drop hk g.ok) (Nat.le_refl _)) hc hM (hy.later (Kept.drop hk g.ok) (Nat.le_refl _)) hd hN h1 h2 hp)) | (go_at_call 53; with_reducible exact Later.call (r_withinK b.held (needP p) p.people _ _ HV4.out)))); go_big_quiet_on)))
    refine wpQuiet_nil ?_
    intro gg
    have rb2 := rb.later gg
    have hkg := Kept.drop hk gg.ok
    clear rb hk rpc0 rpf0 rpc1 rpf1 rpc2 rpf2 rpc3 rpf3 rpc4 rpf4 rbc0 rbf0 rbc1 rbf1 rbc2 rbf2 rbc3 rbf3 rbc4 rbf4 rpl rbl
    have HE := Lib.hid (show berthB p b = false by simp [berthB, hfit])
    go_wp2
    exact bodyPost_ret (v := .bool (berthB p b)) (by rw [HE.out]; simp [results, Try.results76, go_sem]) rfl ⟨rfl, by (exact kpt)⟩
  · have v1' : b.ship ≤ 5 := by omega
    cases v2 : inB b.axis 0 (p.axes.length - 1)
    · have hfit : fitsB p b = false := by simp [fitsB, v2]
      have HV2 := Lib.hid v2
      clear v2
      refine Later.region (by kernel_rfl) (by kernel_rfl) ?_
      repeat (first | go_big_quiet_skip | (go_big_quiet_want; go_big_quiet_op; first | go_big_quiet_on | (apply Exists.intro; refine ⟨fun g => ?_, ?_⟩; (focus (first | (go_at_call 53; with_reducible exact Later.call (r_withinK b.axis 0 (p.axes.length - 1) _ _ HV2.out)) | (go_at_call 77; with_reducible exact Later.call (r_Need a c e d p _ (hx.later (Kept.drop hk g.ok) (Nat.le_refl _)) hc hM (hy.later (Kept.drop hk g.ok) (Nat.le_refl _)) hd hN h1 h2 hp)) | (go_at_call 53; with_reducible exact Later.call (r_withinK b.held (needP p) p.people _ _ HV4.out)))); go_big_quiet_on)))
      refine wpQuiet_nil ?_
      intro gg
      have rb2 := rb.later gg
      have hkg := Kept.drop hk gg.ok
      clear rb hk rpc0 rpf0 rpc1 rpf1 rpc2 rpf2 rpc3 rpf3 rpc4 rpf4 rbc0 rbf0 rbc1 rbf1 rbc2 rbf2 rbc3 rbf3 rbc4 rbf4 rpl rbl
      have HE := Lib.hid (show berthB p b = false by simp [berthB, hfit])
      go_wp2
      exact bodyPost_ret (v := .bool (berthB p b)) (by rw [HE.out]; simp [results, Try.results76, go_sem]) rfl ⟨rfl, by (exact kpt)⟩
    · have HV2 := Lib.hid v2
      by_cases v3 : b.held = 0
      · have hfit : fitsB p b = true := by simp [fitsB, v1', v2, v3]
        clear v2
        refine Later.region (by kernel_rfl) (by kernel_rfl) ?_
        repeat (first | go_big_quiet_skip | (go_big_quiet_want; go_big_quiet_op; first | go_big_quiet_on | (apply Exists.intro; refine ⟨fun g => ?_, ?_⟩; (focus (first | (go_at_call 53; with_reducible exact Later.call (r_withinK b.axis 0 (p.axes.length - 1) _ _ HV2.out)) | (go_at_call 77; with_reducible exact Later.call (r_Need a c e d p _ (hx.later (Kept.drop hk g.ok) (Nat.le_refl _)) hc hM (hy.later (Kept.drop hk g.ok) (Nat.le_refl _)) hd hN h1 h2 hp)) | (go_at_call 53; with_reducible exact Later.call (r_withinK b.held (needP p) p.people _ _ HV4.out)))); go_big_quiet_on)))
        refine wpQuiet_nil ?_
        intro gg
        have rb2 := rb.later gg
        have hkg := Kept.drop hk gg.ok
        clear rb hk rpc0 rpf0 rpc1 rpf1 rpc2 rpf2 rpc3 rpf3 rpc4 rpf4 rbc0 rbf0 rbc1 rbf1 rbc2 rbf2 rbc3 rbf3 rbc4 rbf4 rpl rbl
        go_upto_region 3 with fail
        refine at_world (S := fun V => Blk V (w.heap.size + 1) #[.int .u8 b.ship, .int .i64 b.axis, .int .i64 b.held, .bool b.wire, .bool b.opn] 59 ∧ Kept w V) ⟨by (exact blk), by (exact kpt)⟩ ?_
        clear rb2 hkg
        rintro W6 ⟨rb, hk⟩
        cases hw : b.wire <;> cases ho : b.opn <;> rcases (by omega : b.ship = 0 ∨ b.ship = 1 ∨ b.ship = 2 ∨ b.ship = 3 ∨ b.ship = 4 ∨ b.ship = 5) with he | he | he | he | he | he
        all_goals
          obtain ⟨E, hE⟩ : ∃ E, berthB p b = E := ⟨_, rfl⟩
          have GE := hE
          simp [berthB, hfit, shipB, he, hw, ho, v3] at GE
          subst GE
          have HE := Lib.hid hE
          rw [hw, ho, he] at rb
          have rbc0 := rb.cell 0
          have rbc1 := rb.cell 1
          have rbc2 := rb.cell 2
          have rbc3 := rb.cell 3
          have rbc4 := rb.cell 4
          have rbf0 := rb.free 0
          have rbf1 := rb.free 1
          have rbf2 := rb.free 2
          have rbf3 := rb.free 3
          have rbf4 := rb.free 4
          have rbl := rb.lt
          simp at rbc0 rbc1 rbc2 rbc3 rbc4
          clear hE hw ho he
          go_wp2
          exact bodyPost_ret (v := .bool (berthB p b)) (by rw [HE.out]; simp [results, Try.results76, go_sem]) rfl ⟨rfl, by (exact kpt)⟩
      · have v5 : (b.held == 0) = false := beq_eq_false_iff_ne.2 v3
        have v6 : (b.held != 0) = true := by simp [v3]
        cases v4 : inB b.held (needP p) p.people
        · have hfit : fitsB p b = false := by simp [fitsB, v3, v4]
          have HV4 := Lib.hid v4
          clear v2 v4
          refine Later.region (by kernel_rfl) (by kernel_rfl) ?_
          repeat (first | go_big_quiet_skip | (go_big_quiet_want; go_big_quiet_op; first | go_big_quiet_on | (apply Exists.intro; refine ⟨fun g => ?_, ?_⟩; (focus (first | (go_at_call 53; with_reducible exact Later.call (r_withinK b.axis 0 (p.axes.length - 1) _ _ HV2.out)) | (go_at_call 77; with_reducible exact Later.call (r_Need a c e d p _ (hx.later (Kept.drop hk g.ok) (Nat.le_refl _)) hc hM (hy.later (Kept.drop hk g.ok) (Nat.le_refl _)) hd hN h1 h2 hp)) | (go_at_call 53; with_reducible exact Later.call (r_withinK b.held (needP p) p.people _ _ HV4.out)))); go_big_quiet_on)))
          refine wpQuiet_nil ?_
          intro gg
          have rb2 := rb.later gg
          have hkg := Kept.drop hk gg.ok
          clear rb hk rpc0 rpf0 rpc1 rpf1 rpc2 rpf2 rpc3 rpf3 rpc4 rpf4 rbc0 rbf0 rbc1 rbf1 rbc2 rbf2 rbc3 rbf3 rbc4 rbf4 rpl rbl
          have HE := Lib.hid (show berthB p b = false by simp [berthB, hfit])
          go_wp2
          exact bodyPost_ret (v := .bool (berthB p b)) (by rw [HE.out]; simp [results, Try.results76, go_sem]) rfl ⟨rfl, by (exact kpt)⟩
        · have hfit : fitsB p b = true := by simp [fitsB, v1', v2, v3, v4]
          have hpos : 0 < b.held := by have := inB_iff.1 v4; omega
          have HV4 := Lib.hid v4
          clear v2 v4
          refine Later.region (by kernel_rfl) (by kernel_rfl) ?_
          repeat (first | go_big_quiet_skip | (go_big_quiet_want; go_big_quiet_op; first | go_big_quiet_on | (apply Exists.intro; refine ⟨fun g => ?_, ?_⟩; (focus (first | (go_at_call 53; with_reducible exact Later.call (r_withinK b.axis 0 (p.axes.length - 1) _ _ HV2.out)) | (go_at_call 77; with_reducible exact Later.call (r_Need a c e d p _ (hx.later (Kept.drop hk g.ok) (Nat.le_refl _)) hc hM (hy.later (Kept.drop hk g.ok) (Nat.le_refl _)) hd hN h1 h2 hp)) | (go_at_call 53; with_reducible exact Later.call (r_withinK b.held (needP p) p.people _ _ HV4.out)))); go_big_quiet_on)))
          refine wpQuiet_nil ?_
          intro gg
          have rb2 := rb.later gg
          have hkg := Kept.drop hk gg.ok
          clear rb hk rpc0 rpf0 rpc1 rpf1 rpc2 rpf2 rpc3 rpf3 rpc4 rpf4 rbc0 rbf0 rbc1 rbf1 rbc2 rbf2 rbc3 rbf3 rbc4 rbf4 rpl rbl
          go_upto_region 3 with fail
          refine at_world (S := fun V => Blk V (w.heap.size + 1) #[.int .u8 b.ship, .int .i64 b.axis, .int .i64 b.held, .bool b.wire, .bool b.opn] 59 ∧ Kept w V) ⟨by (exact blk), by (exact kpt)⟩ ?_
          clear rb2 hkg
          rintro W6 ⟨rb, hk⟩
          cases hw : b.wire <;> cases ho : b.opn <;> rcases (by omega : b.ship = 0 ∨ b.ship = 1 ∨ b.ship = 2 ∨ b.ship = 3 ∨ b.ship = 4 ∨ b.ship = 5) with he | he | he | he | he | he
          all_goals
            obtain ⟨E, hE⟩ : ∃ E, berthB p b = E := ⟨_, rfl⟩
            have GE := hE
            simp [berthB, hfit, shipB, he, hw, ho, v3, hpos] at GE
            subst GE
            have HE := Lib.hid hE
            rw [hw, ho, he] at rb
            have rbc0 := rb.cell 0
            have rbc1 := rb.cell 1
            have rbc2 := rb.cell 2
            have rbc3 := rb.cell 3
            have rbc4 := rb.cell 4
            have rbf0 := rb.free 0
            have rbf1 := rb.free 1
            have rbf2 := rb.free 2
            have rbf3 := rb.free 3
            have rbf4 := rb.free 4
            have rbl := rb.lt
            simp at rbc0 rbc1 rbc2 rbc3 rbc4
            clear hE hw ho he
            go_wp2
            exact bodyPost_ret (v := .bool (berthB p b)) (by rw [HE.out]; simp [results, Try.results76, go_sem]) rfl ⟨rfl, by (exact kpt)⟩

theorem r_CheckBerth (a : Option Addr) (c : Nat) (e : Option Addr) (d : Nat) (p : Port) (w : World) (hx : Row Axis.cells 2 w.heap.size w a p.axes) (hc : p.axes.length ≤ c) (hM : c ≤ maxLen) (hy : Row Span.cells 2 w.heap.size w e p.pulls) (hd : p.pulls.length ≤ d) (hN : d ≤ maxLen) (h1 : p.axes.length ≤ 1000000) (h2 : p.pulls.length ≤ 1000000) (b : Berth) (hs0 : 0 ≤ b.ship) :
    Calls Try.prog 28 #[.agg #[.slice a p.axes.length c, .int .i64 p.people, .int .i64 p.most, .slice e p.pulls.length d, .int .i64 p.cross], .agg #[.int .u8 b.ship, .int .i64 b.axis, .int .i64 b.held, .bool b.wire, .bool b.opn]] w fun z w' => z = .returned (.int .i64 (checkBerth p b)) ∧ Kept w w' := by
  unfold checkBerth
  cases hp : portB p
  · have HPB := Lib.hid hp
    clear hp
    go_enter Try.func28, Try.ntmps28
    go_wp2_with (go_at_call 68; (with_reducible refine (r_Port a c e d p _ (hx.later (by (exact kpt)) (Nat.le_refl _)) hc hM (hy.later (by (exact kpt)) (Nat.le_refl _)) hd hN h1 h2).mono ?_); rw [HPB.out]; rintro z w1 ⟨rfl, hb1⟩; refine Blk.thru (b := w.heap.size) (arr := ?_) (t := ?_) ?_ hb1 ?_; rotate_left 2; (focus (exact blk)); intro r0; have r0c0 := r0.cell 0; have r0f0 := r0.free 0; have r0c1 := r0.cell 1; have r0f1 := r0.free 1; have r0c2 := r0.cell 2; have r0f2 := r0.free 2; have r0c3 := r0.cell 3; have r0f3 := r0.free 3; have r0c4 := r0.cell 4; have r0f4 := r0.free 4; have r0l := r0.lt; simp at r0c0 r0c1 r0c2 r0c3 r0c4; refine Blk.thru (b := (w.heap.size + 1)) (arr := ?_) (t := ?_) ?_ hb1 ?_; rotate_left 2; (focus (exact blk)); intro r1; have r1c0 := r1.cell 0; have r1f0 := r1.free 0; have r1c1 := r1.cell 1; have r1f1 := r1.free 1; have r1c2 := r1.cell 2; have r1f2 := r1.free 2; have r1c3 := r1.cell 3; have r1f3 := r1.free 3; have r1c4 := r1.cell 4; have r1f4 := r1.free 4; have r1l := r1.lt; simp at r1c0 r1c1 r1c2 r1c3 r1c4)
    exact bodyPost_ret (v := .int .i64 72) (by simp [results, Try.results28, go_sem]) rfl ⟨rfl, by (exact kpt)⟩
  · have HPB := Lib.hid hp
    cases hb : berthB p b
    all_goals
      have HBB := Lib.hid hb
      clear hp hb
      go_enter Try.func28, Try.ntmps28
      go_wp2_with (first | (go_at_call 68; (with_reducible refine (r_Port a c e d p _ (hx.later (by (exact kpt)) (Nat.le_refl _)) hc hM (hy.later (by (exact kpt)) (Nat.le_refl _)) hd hN h1 h2).mono ?_); rw [HPB.out]; rintro z w1 ⟨rfl, hb1⟩; refine Blk.thru (b := w.heap.size) (arr := ?_) (t := ?_) ?_ hb1 ?_; rotate_left 2; (focus (exact blk)); intro r0; have r0c0 := r0.cell 0; have r0f0 := r0.free 0; have r0c1 := r0.cell 1; have r0f1 := r0.free 1; have r0c2 := r0.cell 2; have r0f2 := r0.free 2; have r0c3 := r0.cell 3; have r0f3 := r0.free 3; have r0c4 := r0.cell 4; have r0f4 := r0.free 4; have r0l := r0.lt; simp at r0c0 r0c1 r0c2 r0c3 r0c4; refine Blk.thru (b := (w.heap.size + 1)) (arr := ?_) (t := ?_) ?_ hb1 ?_; rotate_left 2; (focus (exact blk)); intro r1; have r1c0 := r1.cell 0; have r1f0 := r1.free 0; have r1c1 := r1.cell 1; have r1f1 := r1.free 1; have r1c2 := r1.cell 2; have r1f2 := r1.free 2; have r1c3 := r1.cell 3; have r1f3 := r1.free 3; have r1c4 := r1.cell 4; have r1f4 := r1.free 4; have r1l := r1.lt; simp at r1c0 r1c1 r1c2 r1c3 r1c4) | (go_at_call 76; (with_reducible refine (r_Berth a c e d p _ (hx.later (by (exact kpt)) (Nat.le_refl _)) hc hM (hy.later (by (exact kpt)) (Nat.le_refl _)) hd hN h1 h2 b hs0 HPB.out).mono ?_); rw [HBB.out]; rintro z w1 ⟨rfl, hb1⟩))
      exact bodyPost_ret (v := .int .i64 _) (by simp [results, Try.results28, go_sem]) rfl ⟨rfl, by (exact kpt)⟩

end Go.Proofs.Ytacbkbilbmkjnaa

/-
  Berths, checked.
-/
namespace Go.Proofs.Ytacbkbilbmkjnaa
open Go.RowKit Bal Bal.Trim Bal.Mast
set_option linter.unusedVariables false
set_option linter.unusedSimpArgs false
set_option maxHeartbeats 4000000
set_option maxRecDepth 10000

theorem f_CheckBerth (a : Option Addr) (c : Nat) (e : Option Addr) (d : Nat) (p : Port) (w : World) (hx : Row Axis.cells 2 w.heap.size w a p.axes) (hc : p.axes.length ≤ c) (hM : c ≤ maxLen) (hy : Row Span.cells 2 w.heap.size w e p.pulls) (hd : p.pulls.length ≤ d) (hN : d ≤ maxLen) (h1 : p.axes.length ≤ 1000000) (h2 : p.pulls.length ≤ 1000000) (b : Berth) (hs0 : 0 ≤ b.ship) :
    Calls Try.prog 27 #[.agg #[.slice a p.axes.length c, .int .i64 p.people, .int .i64 p.most, .slice e p.pulls.length d, .int .i64 p.cross], .agg #[.int .u8 b.ship, .int .i64 b.axis, .int .i64 b.held, .bool b.wire, .bool b.opn]] w fun z w' => z = .returned (.int .i64 (checkBerth p b)) ∧ Kept w w' := by
  have hM' := hM
  have hN' := hN
  unfold maxLen at hM' hN'
  cases hp : portB p
  · have HPC := Lib.hid (show checkPort p = 72 by simp [checkPort, hp])
    rw [show checkBerth p b = 72 by simp [checkBerth, hp]]
    clear hp
    go_enter Try.func27, Try.ntmps27
    go_wp2_with (go_at_call 25; (with_reducible refine (f_CheckPort a c e d p _ (hx.later (by (exact kpt)) (Nat.le_refl _)) hc hM (hy.later (by (exact kpt)) (Nat.le_refl _)) hd hN h1 h2).mono ?_); rw [show checkPort p = 72 from HPC.out]; rintro z w1 ⟨rfl, hb1⟩; refine Blk.thru (b := w.heap.size) (arr := ?_) (t := ?_) ?_ hb1 ?_; rotate_left 2; (focus (exact blk)); intro r0; have r0c0 := r0.cell 0; have r0f0 := r0.free 0; have r0c1 := r0.cell 1; have r0f1 := r0.free 1; have r0c2 := r0.cell 2; have r0f2 := r0.free 2; have r0c3 := r0.cell 3; have r0f3 := r0.free 3; have r0c4 := r0.cell 4; have r0f4 := r0.free 4; have r0l := r0.lt; simp at r0c0 r0c1 r0c2 r0c3 r0c4; refine Blk.thru (b := (w.heap.size + 1)) (arr := ?_) (t := ?_) ?_ hb1 ?_; rotate_left 2; (focus (exact blk)); intro r1; have r1c0 := r1.cell 0; have r1f0 := r1.free 0; have r1c1 := r1.cell 1; have r1f1 := r1.free 1; have r1c2 := r1.cell 2; have r1f2 := r1.free 2; have r1c3 := r1.cell 3; have r1f3 := r1.free 3; have r1c4 := r1.cell 4; have r1f4 := r1.free 4; have r1l := r1.lt; simp at r1c0 r1c1 r1c2 r1c3 r1c4)
    exact bodyPost_ret (v := .int .i64 72) (by simp [results, Try.results27, go_sem]) rfl ⟨rfl, by (exact kpt)⟩
  have HPC := Lib.hid (show checkPort p = 0 by simp [checkPort, hp])
  have hbd := portB_bd hp
  have hnd := needP_bd hp
  have u1 : IntKind.i64.wrap ((p.axes.length : Int) - 1) = (p.axes.length : Int) - 1 := by rw [IntKind.wrap_i64]; omega
  go_enter Try.func27, Try.ntmps27
  go_upto_region 4 with (go_at_call 25; (with_reducible refine (f_CheckPort a c e d p _ (hx.later (by (exact kpt)) (Nat.le_refl _)) hc hM (hy.later (by (exact kpt)) (Nat.le_refl _)) hd hN h1 h2).mono ?_); rw [show checkPort p = 0 from HPC.out]; rintro z w1 ⟨rfl, hb1⟩; refine Blk.thru (b := w.heap.size) (arr := ?_) (t := ?_) ?_ hb1 ?_; rotate_left 2; (focus (exact blk)); intro r0; have r0c0 := r0.cell 0; have r0f0 := r0.free 0; have r0c1 := r0.cell 1; have r0f1 := r0.free 1; have r0c2 := r0.cell 2; have r0f2 := r0.free 2; have r0c3 := r0.cell 3; have r0f3 := r0.free 3; have r0c4 := r0.cell 4; have r0f4 := r0.free 4; have r0l := r0.lt; simp at r0c0 r0c1 r0c2 r0c3 r0c4; refine Blk.thru (b := (w.heap.size + 1)) (arr := ?_) (t := ?_) ?_ hb1 ?_; rotate_left 2; (focus (exact blk)); intro r1; have r1c0 := r1.cell 0; have r1f0 := r1.free 0; have r1c1 := r1.cell 1; have r1f1 := r1.free 1; have r1c2 := r1.cell 2; have r1f2 := r1.free 2; have r1c3 := r1.cell 3; have r1f3 := r1.free 3; have r1c4 := r1.cell 4; have r1f4 := r1.free 4; have r1l := r1.lt; simp at r1c0 r1c1 r1c2 r1c3 r1c4)
  refine at_world (S := fun V => Blk V w.heap.size #[.slice a p.axes.length c, .int .i64 p.people, .int .i64 p.most, .slice e p.pulls.length d, .int .i64 p.cross] 45 ∧ Blk V (w.heap.size + 1) #[.int .u8 b.ship, .int .i64 b.axis, .int .i64 b.held, .bool b.wire, .bool b.opn] 59 ∧ Kept w V) ⟨by (exact blk), by (exact blk), by (exact kpt)⟩ ?_
  rintro W4 ⟨rp, rb, hk⟩
  have rpc0 := fun g : Later W4 => (rp.later g).cell 0
  have rpc1 := fun g : Later W4 => (rp.later g).cell 1
  have rpc2 := fun g : Later W4 => (rp.later g).cell 2
  have rpc3 := fun g : Later W4 => (rp.later g).cell 3
  have rpc4 := fun g : Later W4 => (rp.later g).cell 4
  have rpf0 := fun g : Later W4 => (rp.later g).free 0
  have rpf1 := fun g : Later W4 => (rp.later g).free 1
  have rpf2 := fun g : Later W4 => (rp.later g).free 2
  have rpf3 := fun g : Later W4 => (rp.later g).free 3
  have rpf4 := fun g : Later W4 => (rp.later g).free 4
  have rpl := fun g : Later W4 => (rp.later g).lt
  simp at rpc0 rpc1 rpc2 rpc3 rpc4
  have rbc0 := fun g : Later W4 => (rb.later g).cell 0
  have rbc1 := fun g : Later W4 => (rb.later g).cell 1
  have rbc2 := fun g : Later W4 => (rb.later g).cell 2
  have rbc3 := fun g : Later W4 => (rb.later g).cell 3
  have rbc4 := fun g : Later W4 => (rb.later g).cell 4
  have rbf0 := fun g : Later W4 => (rb.later g).free 0
  have rbf1 := fun g : Later W4 => (rb.later g).free 1
  have rbf2 := fun g : Later W4 => (rb.later g).free 2
  have rbf3 := fun g : Later W4 => (rb.later g).free 3
  have rbf4 := fun g : Later W4 => (rb.later g).free 4
  have rbl := fun g : Later W4 => (rb.later g).lt
  simp at rbc0 rbc1 rbc2 rbc3 rbc4
  refine Later.tail 5 (by kernel_rfl) (by kernel_rfl) ?_
  simp only [List.take_succ_cons, List.take_zero, List.drop_succ_cons, List.drop_zero]
  repeat (first | go_big_quiet_skip | (go_big_quiet_want; go_big_quiet_op; first | go_big_quiet_on | (apply Exists.intro; refine ⟨fun g => ?_, ?_⟩; (focus (first | (go_at_call 64; with_reducible exact Later.call (f_need a c e d p _ (hx.later (Kept.drop hk g.ok) (Nat.le_refl _)) hc hM (hy.later (Kept.drop hk g.ok) (Nat.le_refl _)) hd hN h1 h2 hp)))); go_big_quiet_on)))
  refine wpQuiet_nil ?_
  intro gg
  have rp2 := rp.later gg
  have rb2 := rb.later gg
  have hkg := Kept.drop hk gg.ok
  clear rpc0 rpf0 rpc1 rpf1 rpc2 rpf2 rpc3 rpf3 rpc4 rpf4 rpl rbc0 rbf0 rbc1 rbf1 rbc2 rbf2 rbc3 rbf3 rbc4 rbf4 rbl
  refine wpList_plain rfl fun K1 hK1 => ?_
  go_simp
  refine hK1 _ _ ?_
  go_upto_region 5 with fail
  refine at_world (S := fun V => Blk V w.heap.size #[.slice a p.axes.length c, .int .i64 p.people, .int .i64 p.most, .slice e p.pulls.length d, .int .i64 p.cross] 45 ∧ Blk V (w.heap.size + 1) #[.int .u8 b.ship, .int .i64 b.axis, .int .i64 b.held, .bool b.wire, .bool b.opn] 59 ∧ Blk V gg.val.heap.size (dockCells a c e d p (⟨b, needP p, ⟨0, 0, 0, 0⟩, 0⟩ : Dock)) 126 ∧ Kept w V) ⟨by (exact blk), by (exact blk), by (exact blkc), by (exact kpt)⟩ ?_
  obtain ⟨nD, hnD⟩ : ∃ n, n = gg.val.heap.size := ⟨_, rfl⟩
  rw [← hnD]
  clear hnD rp rb rp2 rb2 hk hkg gg
  rintro W ⟨rp, rb, rd, hk⟩
  have hqd := fun (w' : World) (h : Blk w' nD (dockCells a c e d p (⟨b, needP p, ⟨0, 0, 0, 0⟩, 0⟩ : Dock)) 126) => (show Blk w' nD #[.int .u8 b.ship, .int .i64 b.axis, .int .i64 b.held, .bool b.wire, .bool b.opn, .slice a p.axes.length c, .int .i64 p.people, .int .i64 p.most, .slice e p.pulls.length d, .int .i64 p.cross, .int .i64 (needP p), .int .i64 0, .int .i64 0, .int .i64 0, .int .i64 0, .int .i64 0] 126 from h)
  by_cases v1 : b.ship ≤ 5
  · cases v2 : inB b.axis 0 (p.axes.length - 1)
    · have hfit : fitsB p b = false := by simp [fitsB, v2]
      have HV2 := Lib.hid v2
      clear v2
      refine held_walk (fun w' => Blk w' w.heap.size #[.slice a p.axes.length c, .int .i64 p.people, .int .i64 p.most, .slice e p.pulls.length d, .int .i64 p.cross] 45 ∧ Blk w' (w.heap.size + 1) #[.int .u8 b.ship, .int .i64 b.axis, .int .i64 b.held, .bool b.wire, .bool b.opn] 59 ∧ Blk w' nD (dockCells a c e d p (⟨b, needP p, ⟨0, 0, 0, 0⟩, 0⟩ : Dock)) 126 ∧ Kept W w') [(true, 0), (true, 1), (true, 2), (true, 3), (true, 4), (true, 5), (true, 6), (true, 7), (true, 8), (true, 9), (false, 10), (false, 11), (true, 12), (true, 13), (true, 14), (true, 15), (true, 16), (true, 17), (true, 18), (true, 19), (true, 20), (true, 21), (true, 22), (true, 23), (true, 24), (true, 25), (true, 26), (true, 27), (true, 28), (false, 29)] 29 (by kernel_rfl) (by kernel_rfl) (fun c a d v w h => by cases d <;> exact h) ⟨rp.drew, rb.drew, rd.drew, (Below.refl _ _).drew⟩ ?_
      simp only [List.filterMap_cons, List.filterMap_nil, List.getElem?_cons_zero, List.getElem?_cons_succ, Option.map_some]
      iterate 10 ((first | (refine held_take ?_ ?_ (fun w' hS => ?_) ?_; rotate_left 1; (focus rfl); (focus (first | (go_simp; done) | (go_simp; with_reducible rfl) | (obtain ⟨S1, S2, S3, S4⟩ := hS; have q3 := hqd _ S3; have qp0 := S1.cell 0; have qp1 := S1.cell 1; have qb0 := S2.cell 0; have qb1 := S2.cell 1; have qb2 := S2.cell 2; have qd10 := q3.cell 10; simp at qp0 qp1 qb0 qb1 qb2 qd10; first | (go_simp; done) | (go_simp; with_reducible rfl))))) | (refine held_pass ?_ ?_; (focus rfl))); simp only [Act.put, List.setIfInBounds_toArray, List.set_cons_zero, List.set_cons_succ])
      refine held_one ?_
      go_wp2
      refine held_on ⟨by (exact blk), by (exact blk), by (exact blk), by (exact kpt)⟩ ?_
      refine held_one ?_
      go_wp2_with (go_at_call 51; (with_reducible refine (f_rangedB 0 (p.axes.length - 1) b.axis _ 3 _ ?_).mono ?_); (focus (first | exact Blk.drew (Blk.new' rfl) | exact Blk.new' rfl | exact Blk.drew (Blk.new' (by simp)) | (exact blk))); rw [HV2.out]; rintro z w9 ⟨rfl, hb11⟩)
      refine held_on ⟨by (exact blk), by (exact blk), by (exact blk), by (exact kpt)⟩ ?_
      iterate 17 ((first | (refine held_take ?_ ?_ (fun w' hS => ?_) ?_; rotate_left 1; (focus rfl); (focus (first | (go_simp; done) | (go_simp; with_reducible rfl) | (obtain ⟨S1, S2, S3, S4⟩ := hS; have q3 := hqd _ S3; have qp0 := S1.cell 0; have qp1 := S1.cell 1; have qb0 := S2.cell 0; have qb1 := S2.cell 1; have qb2 := S2.cell 2; have qd10 := q3.cell 10; simp at qp0 qp1 qb0 qb1 qb2 qd10; first | (go_simp; done) | (go_simp; with_reducible rfl))))) | (refine held_pass ?_ ?_; (focus rfl))); simp only [Act.put, List.setIfInBounds_toArray, List.set_cons_zero, List.set_cons_succ])
      refine held_one ?_
      refine wpList_plain rfl fun K1 hK1 => ?_
      go_wp2
      (first | refine held_end ?_ | (refine onward_on ?_; first | refine held_nil ?_ | refine ⟨.inl trivial, held_nil ?_⟩ | refine ⟨.inl rfl, held_nil ?_⟩))
      go_wp2
      exact bodyPost_ret (v := .int .i64 (checkBerth p b)) (by rw [show checkBerth p b = 73 by simp [checkBerth, hp, berthB, hfit]]; simp [results, Try.results27, go_sem]) rfl ⟨rfl, by (exact kpt)⟩
    · have HV2 := Lib.hid v2
      by_cases v3 : b.held = 0
      · have hfit : fitsB p b = true := by simp [fitsB, v1, v2, v3]
        have HV3 := Lib.hid (show loose (⟨b, needP p, ⟨0, 0, 0, 0⟩, 0⟩ : Dock) = true by simp [loose, v3])
        clear v2
        refine held_walk (fun w' => Blk w' w.heap.size #[.slice a p.axes.length c, .int .i64 p.people, .int .i64 p.most, .slice e p.pulls.length d, .int .i64 p.cross] 45 ∧ Blk w' (w.heap.size + 1) #[.int .u8 b.ship, .int .i64 b.axis, .int .i64 b.held, .bool b.wire, .bool b.opn] 59 ∧ Blk w' nD (dockCells a c e d p (⟨b, needP p, ⟨0, 0, 0, 0⟩, 0⟩ : Dock)) 126 ∧ Kept W w') [(true, 0), (true, 1), (true, 2), (true, 3), (true, 4), (true, 5), (true, 6), (true, 7), (true, 8), (true, 9), (false, 10), (false, 11), (true, 12), (true, 13), (true, 14), (false, 15), (true, 16), (true, 17), (true, 18), (true, 19), (true, 20), (true, 21), (true, 22), (true, 23), (true, 24), (true, 25), (true, 26), (true, 27), (true, 28), (false, 29)] 29 (by kernel_rfl) (by kernel_rfl) (fun c a d v w h => by cases d <;> exact h) ⟨rp.drew, rb.drew, rd.drew, (Below.refl _ _).drew⟩ ?_
        simp only [List.filterMap_cons, List.filterMap_nil, List.getElem?_cons_zero, List.getElem?_cons_succ, Option.map_some]
        iterate 10 ((first | (refine held_take ?_ ?_ (fun w' hS => ?_) ?_; rotate_left 1; (focus rfl); (focus (first | (go_simp; done) | (go_simp; with_reducible rfl) | (obtain ⟨S1, S2, S3, S4⟩ := hS; have q3 := hqd _ S3; have qp0 := S1.cell 0; have qp1 := S1.cell 1; have qb0 := S2.cell 0; have qb1 := S2.cell 1; have qb2 := S2.cell 2; have qd10 := q3.cell 10; simp at qp0 qp1 qb0 qb1 qb2 qd10; first | (go_simp; done) | (go_simp; with_reducible rfl))))) | (refine held_pass ?_ ?_; (focus rfl))); simp only [Act.put, List.setIfInBounds_toArray, List.set_cons_zero, List.set_cons_succ])
        refine held_one ?_
        go_wp2
        refine held_on ⟨by (exact blk), by (exact blk), by (exact blk), by (exact kpt)⟩ ?_
        refine held_one ?_
        go_wp2_with (go_at_call 51; (with_reducible refine (f_rangedB 0 (p.axes.length - 1) b.axis _ 3 _ ?_).mono ?_); (focus (first | exact Blk.drew (Blk.new' rfl) | exact Blk.new' rfl | exact Blk.drew (Blk.new' (by simp)) | (exact blk))); rw [HV2.out]; rintro z w9 ⟨rfl, hb11⟩)
        refine held_on ⟨by (exact blk), by (exact blk), by (exact blk), by (exact kpt)⟩ ?_
        iterate 3 ((first | (refine held_take ?_ ?_ (fun w' hS => ?_) ?_; rotate_left 1; (focus rfl); (focus (first | (go_simp; done) | (go_simp; with_reducible rfl) | (obtain ⟨S1, S2, S3, S4⟩ := hS; have q3 := hqd _ S3; have qp0 := S1.cell 0; have qp1 := S1.cell 1; have qb0 := S2.cell 0; have qb1 := S2.cell 1; have qb2 := S2.cell 2; have qd10 := q3.cell 10; simp at qp0 qp1 qb0 qb1 qb2 qd10; first | (go_simp; done) | (go_simp; with_reducible rfl))))) | (refine held_pass ?_ ?_; (focus rfl))); simp only [Act.put, List.setIfInBounds_toArray, List.set_cons_zero, List.set_cons_succ])
        refine held_one ?_
        go_wp2_with (go_at_call 69; (with_reducible refine (m_loose a c e d p (⟨b, needP p, ⟨0, 0, 0, 0⟩, 0⟩ : Dock) nD _ ?_).mono ?_); (focus (exact blk)); rw [HV3.out]; rintro z w8 ⟨rfl, hb15⟩)
        refine held_on ⟨by (exact blk), by (exact blk), by (exact blk), by (exact kpt)⟩ ?_
        iterate 13 ((first | (refine held_take ?_ ?_ (fun w' hS => ?_) ?_; rotate_left 1; (focus rfl); (focus (first | (go_simp; done) | (go_simp; with_reducible rfl) | (obtain ⟨S1, S2, S3, S4⟩ := hS; have q3 := hqd _ S3; have qp0 := S1.cell 0; have qp1 := S1.cell 1; have qb0 := S2.cell 0; have qb1 := S2.cell 1; have qb2 := S2.cell 2; have qd10 := q3.cell 10; simp at qp0 qp1 qb0 qb1 qb2 qd10; first | (go_simp; done) | (go_simp; with_reducible rfl))))) | (refine held_pass ?_ ?_; (focus rfl))); simp only [Act.put, List.setIfInBounds_toArray, List.set_cons_zero, List.set_cons_succ])
        refine held_one ?_
        refine wpList_plain rfl fun K1 hK1 => ?_
        go_wp2
        (first | refine held_end ?_ | (refine onward_on ?_; first | refine held_nil ?_ | refine ⟨.inl trivial, held_nil ?_⟩ | refine ⟨.inl rfl, held_nil ?_⟩))
        go_upto_region 6 with fail
        refine at_world (S := fun V => Blk V nD (dockCells a c e d p (⟨b, needP p, ⟨0, 0, 0, 0⟩, 0⟩ : Dock)) 126 ∧ Kept w V) ⟨by (exact blk), by (exact kpt)⟩ ?_
        clear rp rb rd hk 
        rintro W6 ⟨rd, hk⟩
        cases hw : b.wire <;> cases ho : b.opn <;> rcases (by omega : b.ship = 0 ∨ b.ship = 1 ∨ b.ship = 2 ∨ b.ship = 3 ∨ b.ship = 4 ∨ b.ship = 5) with he | he | he | he | he | he
        all_goals
          obtain ⟨B1, hB1⟩ : ∃ L, wired (⟨b, needP p, ⟨0, 0, 0, 0⟩, 0⟩ : Dock) = L := ⟨_, rfl⟩
          obtain ⟨B2, hB2⟩ : ∃ L, lined (⟨b, needP p, ⟨0, 0, 0, 0⟩, 0⟩ : Dock) = L := ⟨_, rfl⟩
          obtain ⟨B3, hB3⟩ : ∃ L, walking (⟨b, needP p, ⟨0, 0, 0, 0⟩, 0⟩ : Dock) = L := ⟨_, rfl⟩
          obtain ⟨B4, hB4⟩ : ∃ L, shut (⟨b, needP p, ⟨0, 0, 0, 0⟩, 0⟩ : Dock) = L := ⟨_, rfl⟩
          obtain ⟨B5, hB5⟩ : ∃ L, tied (⟨b, needP p, ⟨0, 0, 0, 0⟩, 0⟩ : Dock) = L := ⟨_, rfl⟩
          obtain ⟨B6, hB6⟩ : ∃ L, still (⟨b, needP p, ⟨0, 0, 0, 0⟩, 0⟩ : Dock) = L := ⟨_, rfl⟩
          obtain ⟨B7, hB7⟩ : ∃ L, loose (⟨b, needP p, ⟨0, 0, 0, 0⟩, 0⟩ : Dock) = L := ⟨_, rfl⟩
          obtain ⟨E, hE⟩ : ∃ E, checkBerth p b = E := ⟨_, rfl⟩
          have G1 := hB1
          have G2 := hB2
          have G3 := hB3
          have G4 := hB4
          have G5 := hB5
          have G6 := hB6
          have G7 := hB7
          have GE := hE
          simp [wired, hw] at G1
          simp [lined, he] at G2
          simp [walking, he] at G3
          simp [shut, ho] at G4
          simp [tied, lined, fast, masted, housed, he] at G5
          simp [still, walking, he] at G6
          simp [loose, v3] at G7
          simp [checkBerth, hp, berthB, hfit, shipB, he, hw, ho, v3] at GE
          subst G1 G2 G3 G4 G5 G6 G7 GE
          have H1 := Lib.hid hB1
          have H2 := Lib.hid hB2
          have H3 := Lib.hid hB3
          have H4 := Lib.hid hB4
          have H5 := Lib.hid hB5
          have H6 := Lib.hid hB6
          have H7 := Lib.hid hB7
          have HE := Lib.hid hE
          clear hB1 hB2 hB3 hB4 hB5 hB6 hB7 hE hw ho he
          go_wp2_with (first | (go_at_call 70; (with_reducible refine (m_wired a c e d p (⟨b, needP p, ⟨0, 0, 0, 0⟩, 0⟩ : Dock) nD _ ?_).mono ?_); (focus (exact blk)); rw [H1.out]; rintro z w8 ⟨rfl, hb8⟩) | (go_at_call 71; (with_reducible refine (m_lined a c e d p (⟨b, needP p, ⟨0, 0, 0, 0⟩, 0⟩ : Dock) nD _ ?_).mono ?_); (focus (exact blk)); rw [H2.out]; rintro z w8 ⟨rfl, hb8⟩) | (go_at_call 72; (with_reducible refine (m_walking a c e d p (⟨b, needP p, ⟨0, 0, 0, 0⟩, 0⟩ : Dock) nD _ ?_).mono ?_); (focus (exact blk)); rw [H3.out]; rintro z w8 ⟨rfl, hb8⟩) | (go_at_call 73; (with_reducible refine (m_shut a c e d p (⟨b, needP p, ⟨0, 0, 0, 0⟩, 0⟩ : Dock) nD _ ?_).mono ?_); (focus (exact blk)); rw [H4.out]; rintro z w8 ⟨rfl, hb8⟩) | (go_at_call 74; (with_reducible refine (m_tied a c e d p (⟨b, needP p, ⟨0, 0, 0, 0⟩, 0⟩ : Dock) nD _ ?_).mono ?_); (focus (exact blk)); rw [H5.out]; rintro z w8 ⟨rfl, hb8⟩) | (go_at_call 75; (with_reducible refine (m_still a c e d p (⟨b, needP p, ⟨0, 0, 0, 0⟩, 0⟩ : Dock) nD _ ?_).mono ?_); (focus (exact blk)); rw [H6.out]; rintro z w8 ⟨rfl, hb8⟩) | (go_at_call 69; (with_reducible refine (m_loose a c e d p (⟨b, needP p, ⟨0, 0, 0, 0⟩, 0⟩ : Dock) nD _ ?_).mono ?_); (focus (exact blk)); rw [H7.out]; rintro z w8 ⟨rfl, hb8⟩))
          exact bodyPost_ret (v := .int .i64 (checkBerth p b)) (by rw [HE.out]; simp [results, Try.results27, go_sem]) rfl ⟨rfl, by (exact kpt)⟩
      · have HV3 := Lib.hid (show loose (⟨b, needP p, ⟨0, 0, 0, 0⟩, 0⟩ : Dock) = false by simp [loose, v3])
        cases v4 : inB b.held (needP p) p.people
        · have hfit : fitsB p b = false := by simp [fitsB, v3, v4]
          have HV4 := Lib.hid v4
          clear v2 v4
          refine held_walk (fun w' => Blk w' w.heap.size #[.slice a p.axes.length c, .int .i64 p.people, .int .i64 p.most, .slice e p.pulls.length d, .int .i64 p.cross] 45 ∧ Blk w' (w.heap.size + 1) #[.int .u8 b.ship, .int .i64 b.axis, .int .i64 b.held, .bool b.wire, .bool b.opn] 59 ∧ Blk w' nD (dockCells a c e d p (⟨b, needP p, ⟨0, 0, 0, 0⟩, 0⟩ : Dock)) 126 ∧ Kept W w') [(true, 0), (true, 1), (true, 2), (true, 3), (true, 4), (true, 5), (true, 6), (true, 7), (true, 8), (true, 9), (false, 10), (false, 11), (true, 12), (true, 13), (true, 14), (false, 15), (true, 16), (true, 17), (true, 18), (true, 19), (true, 20), (true, 21), (true, 22), (true, 23), (true, 24), (false, 25), (false, 26), (true, 27), (true, 28), (false, 29)] 29 (by kernel_rfl) (by kernel_rfl) (fun c a d v w h => by cases d <;> exact h) ⟨rp.drew, rb.drew, rd.drew, (Below.refl _ _).drew⟩ ?_
          simp only [List.filterMap_cons, List.filterMap_nil, List.getElem?_cons_zero, List.getElem?_cons_succ, Option.map_some]
          iterate 10 ((first | (refine held_take ?_ ?_ (fun w' hS => ?_) ?_; rotate_left 1; (focus rfl); (focus (first | (go_simp; done) | (go_simp; with_reducible rfl) | (obtain ⟨S1, S2, S3, S4⟩ := hS; have q3 := hqd _ S3; have qp0 := S1.cell 0; have qp1 := S1.cell 1; have qb0 := S2.cell 0; have qb1 := S2.cell 1; have qb2 := S2.cell 2; have qd10 := q3.cell 10; simp at qp0 qp1 qb0 qb1 qb2 qd10; first | (go_simp; done) | (go_simp; with_reducible rfl))))) | (refine held_pass ?_ ?_; (focus rfl))); simp only [Act.put, List.setIfInBounds_toArray, List.set_cons_zero, List.set_cons_succ])
          refine held_one ?_
          go_wp2
          refine held_on ⟨by (exact blk), by (exact blk), by (exact blk), by (exact kpt)⟩ ?_
          refine held_one ?_
          go_wp2_with (go_at_call 51; (with_reducible refine (f_rangedB 0 (p.axes.length - 1) b.axis _ 3 _ ?_).mono ?_); (focus (first | exact Blk.drew (Blk.new' rfl) | exact Blk.new' rfl | exact Blk.drew (Blk.new' (by simp)) | (exact blk))); rw [HV2.out]; rintro z w9 ⟨rfl, hb11⟩)
          refine held_on ⟨by (exact blk), by (exact blk), by (exact blk), by (exact kpt)⟩ ?_
          iterate 3 ((first | (refine held_take ?_ ?_ (fun w' hS => ?_) ?_; rotate_left 1; (focus rfl); (focus (first | (go_simp; done) | (go_simp; with_reducible rfl) | (obtain ⟨S1, S2, S3, S4⟩ := hS; have q3 := hqd _ S3; have qp0 := S1.cell 0; have qp1 := S1.cell 1; have qb0 := S2.cell 0; have qb1 := S2.cell 1; have qb2 := S2.cell 2; have qd10 := q3.cell 10; simp at qp0 qp1 qb0 qb1 qb2 qd10; first | (go_simp; done) | (go_simp; with_reducible rfl))))) | (refine held_pass ?_ ?_; (focus rfl))); simp only [Act.put, List.setIfInBounds_toArray, List.set_cons_zero, List.set_cons_succ])
          refine held_one ?_
          go_wp2_with (go_at_call 69; (with_reducible refine (m_loose a c e d p (⟨b, needP p, ⟨0, 0, 0, 0⟩, 0⟩ : Dock) nD _ ?_).mono ?_); (focus (exact blk)); rw [HV3.out]; rintro z w8 ⟨rfl, hb15⟩)
          refine held_on ⟨by (exact blk), by (exact blk), by (exact blk), by (exact kpt)⟩ ?_
          iterate 9 ((first | (refine held_take ?_ ?_ (fun w' hS => ?_) ?_; rotate_left 1; (focus rfl); (focus (first | (go_simp; done) | (go_simp; with_reducible rfl) | (obtain ⟨S1, S2, S3, S4⟩ := hS; have q3 := hqd _ S3; have qp0 := S1.cell 0; have qp1 := S1.cell 1; have qb0 := S2.cell 0; have qb1 := S2.cell 1; have qb2 := S2.cell 2; have qd10 := q3.cell 10; simp at qp0 qp1 qb0 qb1 qb2 qd10; first | (go_simp; done) | (go_simp; with_reducible rfl))))) | (refine held_pass ?_ ?_; (focus rfl))); simp only [Act.put, List.setIfInBounds_toArray, List.set_cons_zero, List.set_cons_succ])
          refine held_one ?_
          go_wp2
          refine held_on ⟨by (exact blk), by (exact blk), by (exact blk), by (exact kpt)⟩ ?_
          refine held_one ?_
          go_wp2_with (go_at_call 51; (with_reducible refine (f_rangedB (needP p) p.people b.held _ 3 _ ?_).mono ?_); (focus (first | exact Blk.drew (Blk.new' rfl) | exact Blk.new' rfl | exact Blk.drew (Blk.new' (by simp)) | (exact blk))); rw [HV4.out]; rintro z w9 ⟨rfl, hb26⟩)
          refine held_on ⟨by (exact blk), by (exact blk), by (exact blk), by (exact kpt)⟩ ?_
          iterate 2 ((first | (refine held_take ?_ ?_ (fun w' hS => ?_) ?_; rotate_left 1; (focus rfl); (focus (first | (go_simp; done) | (go_simp; with_reducible rfl) | (obtain ⟨S1, S2, S3, S4⟩ := hS; have q3 := hqd _ S3; have qp0 := S1.cell 0; have qp1 := S1.cell 1; have qb0 := S2.cell 0; have qb1 := S2.cell 1; have qb2 := S2.cell 2; have qd10 := q3.cell 10; simp at qp0 qp1 qb0 qb1 qb2 qd10; first | (go_simp; done) | (go_simp; with_reducible rfl))))) | (refine held_pass ?_ ?_; (focus rfl))); simp only [Act.put, List.setIfInBounds_toArray, List.set_cons_zero, List.set_cons_succ])
          refine held_one ?_
          refine wpList_plain rfl fun K1 hK1 => ?_
          go_wp2
          (first | refine held_end ?_ | (refine onward_on ?_; first | refine held_nil ?_ | refine ⟨.inl trivial, held_nil ?_⟩ | refine ⟨.inl rfl, held_nil ?_⟩))
          go_wp2
          exact bodyPost_ret (v := .int .i64 (checkBerth p b)) (by rw [show checkBerth p b = 73 by simp [checkBerth, hp, berthB, hfit]]; simp [results, Try.results27, go_sem]) rfl ⟨rfl, by (exact kpt)⟩
        · have hfit : fitsB p b = true := by simp [fitsB, v1, v2, v3, v4]
          have hpos : 0 < b.held := by have := inB_iff.1 v4; omega
          have HV4 := Lib.hid v4
          clear v2 v4
          refine held_walk (fun w' => Blk w' w.heap.size #[.slice a p.axes.length c, .int .i64 p.people, .int .i64 p.most, .slice e p.pulls.length d, .int .i64 p.cross] 45 ∧ Blk w' (w.heap.size + 1) #[.int .u8 b.ship, .int .i64 b.axis, .int .i64 b.held, .bool b.wire, .bool b.opn] 59 ∧ Blk w' nD (dockCells a c e d p (⟨b, needP p, ⟨0, 0, 0, 0⟩, 0⟩ : Dock)) 126 ∧ Kept W w') [(true, 0), (true, 1), (true, 2), (true, 3), (true, 4), (true, 5), (true, 6), (true, 7), (true, 8), (true, 9), (false, 10), (false, 11), (true, 12), (true, 13), (true, 14), (false, 15), (true, 16), (true, 17), (true, 18), (true, 19), (true, 20), (true, 21), (true, 22), (true, 23), (true, 24), (false, 25), (false, 26), (true, 27), (true, 28), (false, 29)] 29 (by kernel_rfl) (by kernel_rfl) (fun c a d v w h => by cases d <;> exact h) ⟨rp.drew, rb.drew, rd.drew, (Below.refl _ _).drew⟩ ?_
          simp only [List.filterMap_cons, List.filterMap_nil, List.getElem?_cons_zero, List.getElem?_cons_succ, Option.map_some]
          iterate 10 ((first | (refine held_take ?_ ?_ (fun w' hS => ?_) ?_; rotate_left 1; (focus rfl); (focus (first | (go_simp; done) | (go_simp; with_reducible rfl) | (obtain ⟨S1, S2, S3, S4⟩ := hS; have q3 := hqd _ S3; have qp0 := S1.cell 0; have qp1 := S1.cell 1; have qb0 := S2.cell 0; have qb1 := S2.cell 1; have qb2 := S2.cell 2; have qd10 := q3.cell 10; simp at qp0 qp1 qb0 qb1 qb2 qd10; first | (go_simp; done) | (go_simp; with_reducible rfl))))) | (refine held_pass ?_ ?_; (focus rfl))); simp only [Act.put, List.setIfInBounds_toArray, List.set_cons_zero, List.set_cons_succ])
          refine held_one ?_
          go_wp2
          refine held_on ⟨by (exact blk), by (exact blk), by (exact blk), by (exact kpt)⟩ ?_
          refine held_one ?_
          go_wp2_with (go_at_call 51; (with_reducible refine (f_rangedB 0 (p.axes.length - 1) b.axis _ 3 _ ?_).mono ?_); (focus (first | exact Blk.drew (Blk.new' rfl) | exact Blk.new' rfl | exact Blk.drew (Blk.new' (by simp)) | (exact blk))); rw [HV2.out]; rintro z w9 ⟨rfl, hb11⟩)
          refine held_on ⟨by (exact blk), by (exact blk), by (exact blk), by (exact kpt)⟩ ?_
          iterate 3 ((first | (refine held_take ?_ ?_ (fun w' hS => ?_) ?_; rotate_left 1; (focus rfl); (focus (first | (go_simp; done) | (go_simp; with_reducible rfl) | (obtain ⟨S1, S2, S3, S4⟩ := hS; have q3 := hqd _ S3; have qp0 := S1.cell 0; have qp1 := S1.cell 1; have qb0 := S2.cell 0; have qb1 := S2.cell 1; have qb2 := S2.cell 2; have qd10 := q3.cell 10; simp at qp0 qp1 qb0 qb1 qb2 qd10; first | (go_simp; done) | (go_simp; with_reducible rfl))))) | (refine held_pass ?_ ?_; (focus rfl))); simp only [Act.put, List.setIfInBounds_toArray, List.set_cons_zero, List.set_cons_succ])
          refine held_one ?_
          go_wp2_with (go_at_call 69; (with_reducible refine (m_loose a c e d p (⟨b, needP p, ⟨0, 0, 0, 0⟩, 0⟩ : Dock) nD _ ?_).mono ?_); (focus (exact blk)); rw [HV3.out]; rintro z w8 ⟨rfl, hb15⟩)
          refine held_on ⟨by (exact blk), by (exact blk), by (exact blk), by (exact kpt)⟩ ?_
          iterate 9 ((first | (refine held_take ?_ ?_ (fun w' hS => ?_) ?_; rotate_left 1; (focus rfl); (focus (first | (go_simp; done) | (go_simp; with_reducible rfl) | (obtain ⟨S1, S2, S3, S4⟩ := hS; have q3 := hqd _ S3; have qp0 := S1.cell 0; have qp1 := S1.cell 1; have qb0 := S2.cell 0; have qb1 := S2.cell 1; have qb2 := S2.cell 2; have qd10 := q3.cell 10; simp at qp0 qp1 qb0 qb1 qb2 qd10; first | (go_simp; done) | (go_simp; with_reducible rfl))))) | (refine held_pass ?_ ?_; (focus rfl))); simp only [Act.put, List.setIfInBounds_toArray, List.set_cons_zero, List.set_cons_succ])
          refine held_one ?_
          go_wp2
          refine held_on ⟨by (exact blk), by (exact blk), by (exact blk), by (exact kpt)⟩ ?_
          refine held_one ?_
          go_wp2_with (go_at_call 51; (with_reducible refine (f_rangedB (needP p) p.people b.held _ 3 _ ?_).mono ?_); (focus (first | exact Blk.drew (Blk.new' rfl) | exact Blk.new' rfl | exact Blk.drew (Blk.new' (by simp)) | (exact blk))); rw [HV4.out]; rintro z w9 ⟨rfl, hb26⟩)
          refine held_on ⟨by (exact blk), by (exact blk), by (exact blk), by (exact kpt)⟩ ?_
          iterate 2 ((first | (refine held_take ?_ ?_ (fun w' hS => ?_) ?_; rotate_left 1; (focus rfl); (focus (first | (go_simp; done) | (go_simp; with_reducible rfl) | (obtain ⟨S1, S2, S3, S4⟩ := hS; have q3 := hqd _ S3; have qp0 := S1.cell 0; have qp1 := S1.cell 1; have qb0 := S2.cell 0; have qb1 := S2.cell 1; have qb2 := S2.cell 2; have qd10 := q3.cell 10; simp at qp0 qp1 qb0 qb1 qb2 qd10; first | (go_simp; done) | (go_simp; with_reducible rfl))))) | (refine held_pass ?_ ?_; (focus rfl))); simp only [Act.put, List.setIfInBounds_toArray, List.set_cons_zero, List.set_cons_succ])
          refine held_one ?_
          refine wpList_plain rfl fun K1 hK1 => ?_
          go_wp2
          (first | refine held_end ?_ | (refine onward_on ?_; first | refine held_nil ?_ | refine ⟨.inl trivial, held_nil ?_⟩ | refine ⟨.inl rfl, held_nil ?_⟩))
          go_upto_region 6 with fail
          refine at_world (S := fun V => Blk V nD (dockCells a c e d p (⟨b, needP p, ⟨0, 0, 0, 0⟩, 0⟩ : Dock)) 126 ∧ Kept w V) ⟨by (exact blk), by (exact kpt)⟩ ?_
          clear rp rb rd hk 
          rintro W6 ⟨rd, hk⟩
          cases hw : b.wire <;> cases ho : b.opn <;> rcases (by omega : b.ship = 0 ∨ b.ship = 1 ∨ b.ship = 2 ∨ b.ship = 3 ∨ b.ship = 4 ∨ b.ship = 5) with he | he | he | he | he | he
          all_goals
            obtain ⟨B1, hB1⟩ : ∃ L, wired (⟨b, needP p, ⟨0, 0, 0, 0⟩, 0⟩ : Dock) = L := ⟨_, rfl⟩
            obtain ⟨B2, hB2⟩ : ∃ L, lined (⟨b, needP p, ⟨0, 0, 0, 0⟩, 0⟩ : Dock) = L := ⟨_, rfl⟩
            obtain ⟨B3, hB3⟩ : ∃ L, walking (⟨b, needP p, ⟨0, 0, 0, 0⟩, 0⟩ : Dock) = L := ⟨_, rfl⟩
            obtain ⟨B4, hB4⟩ : ∃ L, shut (⟨b, needP p, ⟨0, 0, 0, 0⟩, 0⟩ : Dock) = L := ⟨_, rfl⟩
            obtain ⟨B5, hB5⟩ : ∃ L, tied (⟨b, needP p, ⟨0, 0, 0, 0⟩, 0⟩ : Dock) = L := ⟨_, rfl⟩
            obtain ⟨B6, hB6⟩ : ∃ L, still (⟨b, needP p, ⟨0, 0, 0, 0⟩, 0⟩ : Dock) = L := ⟨_, rfl⟩
            obtain ⟨B7, hB7⟩ : ∃ L, loose (⟨b, needP p, ⟨0, 0, 0, 0⟩, 0⟩ : Dock) = L := ⟨_, rfl⟩
            obtain ⟨E, hE⟩ : ∃ E, checkBerth p b = E := ⟨_, rfl⟩
            have G1 := hB1
            have G2 := hB2
            have G3 := hB3
            have G4 := hB4
            have G5 := hB5
            have G6 := hB6
            have G7 := hB7
            have GE := hE
            simp [wired, hw] at G1
            simp [lined, he] at G2
            simp [walking, he] at G3
            simp [shut, ho] at G4
            simp [tied, lined, fast, masted, housed, he] at G5
            simp [still, walking, he] at G6
            simp [loose, v3] at G7
            simp [checkBerth, hp, berthB, hfit, shipB, he, hw, ho, v3, hpos] at GE
            subst G1 G2 G3 G4 G5 G6 G7 GE
            have H1 := Lib.hid hB1
            have H2 := Lib.hid hB2
            have H3 := Lib.hid hB3
            have H4 := Lib.hid hB4
            have H5 := Lib.hid hB5
            have H6 := Lib.hid hB6
            have H7 := Lib.hid hB7
            have HE := Lib.hid hE
            clear hB1 hB2 hB3 hB4 hB5 hB6 hB7 hE hw ho he
            go_wp2_with (first | (go_at_call 70; (with_reducible refine (m_wired a c e d p (⟨b, needP p, ⟨0, 0, 0, 0⟩, 0⟩ : Dock) nD _ ?_).mono ?_); (focus (exact blk)); rw [H1.out]; rintro z w8 ⟨rfl, hb8⟩) | (go_at_call 71; (with_reducible refine (m_lined a c e d p (⟨b, needP p, ⟨0, 0, 0, 0⟩, 0⟩ : Dock) nD _ ?_).mono ?_); (focus (exact blk)); rw [H2.out]; rintro z w8 ⟨rfl, hb8⟩) | (go_at_call 72; (with_reducible refine (m_walking a c e d p (⟨b, needP p, ⟨0, 0, 0, 0⟩, 0⟩ : Dock) nD _ ?_).mono ?_); (focus (exact blk)); rw [H3.out]; rintro z w8 ⟨rfl, hb8⟩) | (go_at_call 73; (with_reducible refine (m_shut a c e d p (⟨b, needP p, ⟨0, 0, 0, 0⟩, 0⟩ : Dock) nD _ ?_).mono ?_); (focus (exact blk)); rw [H4.out]; rintro z w8 ⟨rfl, hb8⟩) | (go_at_call 74; (with_reducible refine (m_tied a c e d p (⟨b, needP p, ⟨0, 0, 0, 0⟩, 0⟩ : Dock) nD _ ?_).mono ?_); (focus (exact blk)); rw [H5.out]; rintro z w8 ⟨rfl, hb8⟩) | (go_at_call 75; (with_reducible refine (m_still a c e d p (⟨b, needP p, ⟨0, 0, 0, 0⟩, 0⟩ : Dock) nD _ ?_).mono ?_); (focus (exact blk)); rw [H6.out]; rintro z w8 ⟨rfl, hb8⟩) | (go_at_call 69; (with_reducible refine (m_loose a c e d p (⟨b, needP p, ⟨0, 0, 0, 0⟩, 0⟩ : Dock) nD _ ?_).mono ?_); (focus (exact blk)); rw [H7.out]; rintro z w8 ⟨rfl, hb8⟩))
            exact bodyPost_ret (v := .int .i64 (checkBerth p b)) (by rw [HE.out]; simp [results, Try.results27, go_sem]) rfl ⟨rfl, by (exact kpt)⟩
  · have hfit : fitsB p b = false := by simp [fitsB, v1]
    refine held_walk (fun w' => Blk w' w.heap.size #[.slice a p.axes.length c, .int .i64 p.people, .int .i64 p.most, .slice e p.pulls.length d, .int .i64 p.cross] 45 ∧ Blk w' (w.heap.size + 1) #[.int .u8 b.ship, .int .i64 b.axis, .int .i64 b.held, .bool b.wire, .bool b.opn] 59 ∧ Blk w' nD (dockCells a c e d p (⟨b, needP p, ⟨0, 0, 0, 0⟩, 0⟩ : Dock)) 126 ∧ Kept W w') [(true, 0), (true, 1), (true, 2), (true, 3), (true, 4), (true, 5), (true, 6), (true, 7), (true, 8), (true, 9), (true, 10), (true, 11), (true, 12), (true, 13), (true, 14), (true, 15), (true, 16), (true, 17), (true, 18), (true, 19), (true, 20), (true, 21), (true, 22), (true, 23), (true, 24), (true, 25), (true, 26), (true, 27), (true, 28), (false, 29)] 29 (by kernel_rfl) (by kernel_rfl) (fun c a d v w h => by cases d <;> exact h) ⟨rp.drew, rb.drew, rd.drew, (Below.refl _ _).drew⟩ ?_
    simp only [List.filterMap_cons, List.filterMap_nil, List.getElem?_cons_zero, List.getElem?_cons_succ, Option.map_some]
    iterate 29 ((first | (refine held_take ?_ ?_ (fun w' hS => ?_) ?_; rotate_left 1; (focus rfl); (focus (first | (go_simp; done) | (go_simp; with_reducible rfl) | (obtain ⟨S1, S2, S3, S4⟩ := hS; have q3 := hqd _ S3; have qp0 := S1.cell 0; have qp1 := S1.cell 1; have qb0 := S2.cell 0; have qb1 := S2.cell 1; have qb2 := S2.cell 2; have qd10 := q3.cell 10; simp at qp0 qp1 qb0 qb1 qb2 qd10; first | (go_simp; done) | (go_simp; with_reducible rfl))))) | (refine held_pass ?_ ?_; (focus rfl))); simp only [Act.put, List.setIfInBounds_toArray, List.set_cons_zero, List.set_cons_succ])
    refine held_one ?_
    refine wpList_plain rfl fun K1 hK1 => ?_
    go_wp2
    (first | refine held_end ?_ | (refine onward_on ?_; first | refine held_nil ?_ | refine ⟨.inl trivial, held_nil ?_⟩ | refine ⟨.inl rfl, held_nil ?_⟩))
    go_wp2
    exact bodyPost_ret (v := .int .i64 (checkBerth p b)) (by rw [show checkBerth p b = 73 by simp [checkBerth, hp, berthB, hfit]]; simp [results, Try.results27, go_sem]) rfl ⟨rfl, by (exact kpt)⟩

end Go.Proofs.Ytacbkbilbmkjnaa

/-
  Do.
-/
namespace Go.Proofs.Ytacbkbilbmkjnaa
open Go.RowKit Bal Bal.Trim Bal.Mast
set_option linter.unusedVariables false
set_option linter.unusedSimpArgs false
set_option maxHeartbeats 4000000
set_option maxRecDepth 10000

theorem f_Do_bad (a : Option Addr) (c : Nat) (e : Option Addr) (d : Nat) (p : Port) (w : World) (hx : Row Axis.cells 2 w.heap.size w a p.axes) (hc : p.axes.length ≤ c) (hM : c ≤ maxLen) (hy : Row Span.cells 2 w.heap.size w e p.pulls) (hd : p.pulls.length ≤ d) (hN : d ≤ maxLen) (h1 : p.axes.length ≤ 1000000) (h2 : p.pulls.length ≤ 1000000) (b : Berth) (hs0 : 0 ≤ b.ship) (s : Step) (hk0 : 0 ≤ s.act.kind ∧ s.act.kind ≤ 255) (h : doErr p b s ≠ 0) :
    Calls Try.prog 23 #[.agg #[.slice a p.axes.length c, .int .i64 p.people, .int .i64 p.most, .slice e p.pulls.length d, .int .i64 p.cross], .agg #[.int .u8 b.ship, .int .i64 b.axis, .int .i64 b.held, .bool b.wire, .bool b.opn], .agg #[.int .u8 s.act.kind, .int .i64 s.act.n, .int .i64 s.wind.xlo, .int .i64 s.wind.xhi, .int .i64 s.wind.ylo, .int .i64 s.wind.yhi]] w fun z w' => z = .returned (.tuple #[.agg #[.int .u8 (doB p b s).ship, .int .i64 (doB p b s).axis, .int .i64 (doB p b s).held, .bool (doB p b s).wire, .bool (doB p b s).opn], .int .i64 (doRule p b s), .int .i64 (doE p b s)]) ∧ Kept w w' := by
  obtain ⟨E, hE⟩ : ∃ E, doErr p b s = E := ⟨_, rfl⟩
  have e1 : doE p b s = E := by unfold doE; rw [if_neg h, hE]
  have e2 : doRule p b s = 0 := by unfold doRule; rw [if_neg h]
  have e3 : doB p b s = noBerth := by unfold doB; rw [e1, if_neg (by rw [← hE]; exact h)]
  rw [e1, e2, e3]
  clear e1 e2 e3
  unfold doErr at hE h
  by_cases c1 : checkBerth p b = 0
  · rw [if_pos c1] at hE h
    have HCB := Lib.hid c1
    cases c2 : windB s.wind
    · rw [c2] at hE
      simp at hE
      subst hE
      have HCW := Lib.hid (show checkWind s.wind = 71 by simp [checkWind, c2])
      clear h c1 c2
      go_enter Try.func23, Try.ntmps23
      go_wp2_with (first | (go_at_call 27; (with_reducible refine (f_CheckBerth a c e d p _ (hx.later (by (exact kpt)) (Nat.le_refl _)) hc hM (hy.later (by (exact kpt)) (Nat.le_refl _)) hd hN h1 h2 b hs0).mono ?_); rw [HCB.out]; rintro z w1 ⟨rfl, hb1⟩; refine Blk.thru (b := w.heap.size) (arr := ?_) (t := ?_) ?_ hb1 ?_; rotate_left 2; (focus (exact blk)); intro r0; have r0c0 := r0.cell 0; have r0f0 := r0.free 0; have r0c1 := r0.cell 1; have r0f1 := r0.free 1; have r0c2 := r0.cell 2; have r0f2 := r0.free 2; have r0c3 := r0.cell 3; have r0f3 := r0.free 3; have r0c4 := r0.cell 4; have r0f4 := r0.free 4; have r0l := r0.lt; simp at r0c0 r0c1 r0c2 r0c3 r0c4; refine Blk.thru (b := (w.heap.size + 1)) (arr := ?_) (t := ?_) ?_ hb1 ?_; rotate_left 2; (focus (exact blk)); intro r1; have r1c0 := r1.cell 0; have r1f0 := r1.free 0; have r1c1 := r1.cell 1; have r1f1 := r1.free 1; have r1c2 := r1.cell 2; have r1f2 := r1.free 2; have r1c3 := r1.cell 3; have r1f3 := r1.free 3; have r1c4 := r1.cell 4; have r1f4 := r1.free 4; have r1l := r1.lt; simp at r1c0 r1c1 r1c2 r1c3 r1c4; refine Blk.thru (b := (w.heap.size + 1 + 1)) (arr := ?_) (t := ?_) ?_ hb1 ?_; rotate_left 2; (focus (exact blk)); intro r2; have r2c0 := r2.cell 0; have r2f0 := r2.free 0; have r2c1 := r2.cell 1; have r2f1 := r2.free 1; have r2c2 := r2.cell 2; have r2f2 := r2.free 2; have r2c3 := r2.cell 3; have r2f3 := r2.free 3; have r2c4 := r2.cell 4; have r2f4 := r2.free 4; have r2c5 := r2.cell 5; have r2f5 := r2.free 5; have r2l := r2.lt; simp at r2c0 r2c1 r2c2 r2c3 r2c4 r2c5; refine Blk.thru (b := (w.heap.size + 1 + 1 + 1)) (arr := ?_) (t := ?_) ?_ hb1 ?_; rotate_left 2; (focus (exact blk)); intro r3; have r3c0 := r3.cell 0; have r3f0 := r3.free 0; have r3c1 := r3.cell 1; have r3f1 := r3.free 1; have r3c2 := r3.cell 2; have r3f2 := r3.free 2; have r3c3 := r3.cell 3; have r3f3 := r3.free 3; have r3c4 := r3.cell 4; have r3f4 := r3.free 4; have r3l := r3.lt; simp at r3c0 r3c1 r3c2 r3c3 r3c4) | (go_at_call 15; (with_reducible refine (f_CheckWind s.wind _).mono ?_); rw [HCW.out]; rintro z w2 ⟨rfl, hb2⟩; refine Blk.thru (b := w.heap.size) (arr := ?_) (t := ?_) ?_ hb2 ?_; rotate_left 2; (focus (exact blk)); intro r0; have r0c0 := r0.cell 0; have r0f0 := r0.free 0; have r0c1 := r0.cell 1; have r0f1 := r0.free 1; have r0c2 := r0.cell 2; have r0f2 := r0.free 2; have r0c3 := r0.cell 3; have r0f3 := r0.free 3; have r0c4 := r0.cell 4; have r0f4 := r0.free 4; have r0l := r0.lt; simp at r0c0 r0c1 r0c2 r0c3 r0c4; refine Blk.thru (b := (w.heap.size + 1)) (arr := ?_) (t := ?_) ?_ hb2 ?_; rotate_left 2; (focus (exact blk)); intro r1; have r1c0 := r1.cell 0; have r1f0 := r1.free 0; have r1c1 := r1.cell 1; have r1f1 := r1.free 1; have r1c2 := r1.cell 2; have r1f2 := r1.free 2; have r1c3 := r1.cell 3; have r1f3 := r1.free 3; have r1c4 := r1.cell 4; have r1f4 := r1.free 4; have r1l := r1.lt; simp at r1c0 r1c1 r1c2 r1c3 r1c4; refine Blk.thru (b := (w.heap.size + 1 + 1)) (arr := ?_) (t := ?_) ?_ hb2 ?_; rotate_left 2; (focus (exact blk)); intro r2; have r2c0 := r2.cell 0; have r2f0 := r2.free 0; have r2c1 := r2.cell 1; have r2f1 := r2.free 1; have r2c2 := r2.cell 2; have r2f2 := r2.free 2; have r2c3 := r2.cell 3; have r2f3 := r2.free 3; have r2c4 := r2.cell 4; have r2f4 := r2.free 4; have r2c5 := r2.cell 5; have r2f5 := r2.free 5; have r2l := r2.lt; simp at r2c0 r2c1 r2c2 r2c3 r2c4 r2c5; refine Blk.thru (b := (w.heap.size + 1 + 1 + 1)) (arr := ?_) (t := ?_) ?_ hb2 ?_; rotate_left 2; (focus (exact blk)); intro r3; have r3c0 := r3.cell 0; have r3f0 := r3.free 0; have r3c1 := r3.cell 1; have r3f1 := r3.free 1; have r3c2 := r3.cell 2; have r3f2 := r3.free 2; have r3c3 := r3.cell 3; have r3f3 := r3.free 3; have r3c4 := r3.cell 4; have r3f4 := r3.free 4; have r3l := r3.lt; simp at r3c0 r3c1 r3c2 r3c3 r3c4))
      exact bodyPost_ret (v := .tuple #[.agg #[.int .u8 noBerth.ship, .int .i64 noBerth.axis, .int .i64 noBerth.held, .bool noBerth.wire, .bool noBerth.opn], .int .i64 0, .int .i64 71]) (by first | (simp [results, Try.results23, go_sem, noBerth, r3c0, r3c1, r3c2, r3c3, r3c4, r3l]; done) | (simp [results, Try.results23, go_sem, noBerth, r3c0, r3c1, r3c2, r3c3, r3c4, r3l]; rfl)) rfl ⟨rfl, by (exact kpt)⟩
    · rw [c2] at hE h
      have hkn : ¬ (1 ≤ s.act.kind ∧ s.act.kind ≤ 13) := fun hq => h (by rw [if_pos rfl, if_pos (inB_iff.2 hq)])
      rw [if_pos rfl, if_neg (by rw [inB_iff]; exact hkn)] at hE
      subst hE
      have HCW := Lib.hid (show checkWind s.wind = 0 by simp [checkWind, c2])
      clear h c1 c2
      go_enter Try.func23, Try.ntmps23
      go_upto_region 8 with (first | (go_at_call 27; (with_reducible refine (f_CheckBerth a c e d p _ (hx.later (by (exact kpt)) (Nat.le_refl _)) hc hM (hy.later (by (exact kpt)) (Nat.le_refl _)) hd hN h1 h2 b hs0).mono ?_); rw [HCB.out]; rintro z w1 ⟨rfl, hb1⟩; refine Blk.thru (b := w.heap.size) (arr := ?_) (t := ?_) ?_ hb1 ?_; rotate_left 2; (focus (exact blk)); intro r0; have r0c0 := r0.cell 0; have r0f0 := r0.free 0; have r0c1 := r0.cell 1; have r0f1 := r0.free 1; have r0c2 := r0.cell 2; have r0f2 := r0.free 2; have r0c3 := r0.cell 3; have r0f3 := r0.free 3; have r0c4 := r0.cell 4; have r0f4 := r0.free 4; have r0l := r0.lt; simp at r0c0 r0c1 r0c2 r0c3 r0c4; refine Blk.thru (b := (w.heap.size + 1)) (arr := ?_) (t := ?_) ?_ hb1 ?_; rotate_left 2; (focus (exact blk)); intro r1; have r1c0 := r1.cell 0; have r1f0 := r1.free 0; have r1c1 := r1.cell 1; have r1f1 := r1.free 1; have r1c2 := r1.cell 2; have r1f2 := r1.free 2; have r1c3 := r1.cell 3; have r1f3 := r1.free 3; have r1c4 := r1.cell 4; have r1f4 := r1.free 4; have r1l := r1.lt; simp at r1c0 r1c1 r1c2 r1c3 r1c4; refine Blk.thru (b := (w.heap.size + 1 + 1)) (arr := ?_) (t := ?_) ?_ hb1 ?_; rotate_left 2; (focus (exact blk)); intro r2; have r2c0 := r2.cell 0; have r2f0 := r2.free 0; have r2c1 := r2.cell 1; have r2f1 := r2.free 1; have r2c2 := r2.cell 2; have r2f2 := r2.free 2; have r2c3 := r2.cell 3; have r2f3 := r2.free 3; have r2c4 := r2.cell 4; have r2f4 := r2.free 4; have r2c5 := r2.cell 5; have r2f5 := r2.free 5; have r2l := r2.lt; simp at r2c0 r2c1 r2c2 r2c3 r2c4 r2c5; refine Blk.thru (b := (w.heap.size + 1 + 1 + 1)) (arr := ?_) (t := ?_) ?_ hb1 ?_; rotate_left 2; (focus (exact blk)); intro r3; have r3c0 := r3.cell 0; have r3f0 := r3.free 0; have r3c1 := r3.cell 1; have r3f1 := r3.free 1; have r3c2 := r3.cell 2; have r3f2 := r3.free 2; have r3c3 := r3.cell 3; have r3f3 := r3.free 3; have r3c4 := r3.cell 4; have r3f4 := r3.free 4; have r3l := r3.lt; simp at r3c0 r3c1 r3c2 r3c3 r3c4) | (go_at_call 15; (with_reducible refine (f_CheckWind s.wind _).mono ?_); rw [HCW.out]; rintro z w2 ⟨rfl, hb2⟩; refine Blk.thru (b := w.heap.size) (arr := ?_) (t := ?_) ?_ hb2 ?_; rotate_left 2; (focus (exact blk)); intro r0; have r0c0 := r0.cell 0; have r0f0 := r0.free 0; have r0c1 := r0.cell 1; have r0f1 := r0.free 1; have r0c2 := r0.cell 2; have r0f2 := r0.free 2; have r0c3 := r0.cell 3; have r0f3 := r0.free 3; have r0c4 := r0.cell 4; have r0f4 := r0.free 4; have r0l := r0.lt; simp at r0c0 r0c1 r0c2 r0c3 r0c4; refine Blk.thru (b := (w.heap.size + 1)) (arr := ?_) (t := ?_) ?_ hb2 ?_; rotate_left 2; (focus (exact blk)); intro r1; have r1c0 := r1.cell 0; have r1f0 := r1.free 0; have r1c1 := r1.cell 1; have r1f1 := r1.free 1; have r1c2 := r1.cell 2; have r1f2 := r1.free 2; have r1c3 := r1.cell 3; have r1f3 := r1.free 3; have r1c4 := r1.cell 4; have r1f4 := r1.free 4; have r1l := r1.lt; simp at r1c0 r1c1 r1c2 r1c3 r1c4; refine Blk.thru (b := (w.heap.size + 1 + 1)) (arr := ?_) (t := ?_) ?_ hb2 ?_; rotate_left 2; (focus (exact blk)); intro r2; have r2c0 := r2.cell 0; have r2f0 := r2.free 0; have r2c1 := r2.cell 1; have r2f1 := r2.free 1; have r2c2 := r2.cell 2; have r2f2 := r2.free 2; have r2c3 := r2.cell 3; have r2f3 := r2.free 3; have r2c4 := r2.cell 4; have r2f4 := r2.free 4; have r2c5 := r2.cell 5; have r2f5 := r2.free 5; have r2l := r2.lt; simp at r2c0 r2c1 r2c2 r2c3 r2c4 r2c5; refine Blk.thru (b := (w.heap.size + 1 + 1 + 1)) (arr := ?_) (t := ?_) ?_ hb2 ?_; rotate_left 2; (focus (exact blk)); intro r3; have r3c0 := r3.cell 0; have r3f0 := r3.free 0; have r3c1 := r3.cell 1; have r3f1 := r3.free 1; have r3c2 := r3.cell 2; have r3f2 := r3.free 2; have r3c3 := r3.cell 3; have r3f3 := r3.free 3; have r3c4 := r3.cell 4; have r3f4 := r3.free 4; have r3l := r3.lt; simp at r3c0 r3c1 r3c2 r3c3 r3c4) | (go_at_call 63; (with_reducible refine (f_deeds _).mono ?_); rintro z w3 ⟨rfl, hT, hb3⟩))
      obtain ⟨M, hMe⟩ : ∃ n, n = w2.heap.size := ⟨_, rfl⟩
      obtain ⟨B, hBe⟩ : ∃ n, n = w3.heap.size := ⟨_, rfl⟩
      rw [← hMe, ← hBe] at hT
      rw [← hMe]
      have hB0 : w.heap.size + 1 + 1 + 1 < B := by rw [hBe]; have := hb3.size; have := r3l; have q := hb2.size; simp at *; omega
      refine at_world (S := fun V => B ≤ V.heap.size ∧ Table V B M ∧ Blk V w.heap.size #[.slice a p.axes.length c, .int .i64 p.people, .int .i64 p.most, .slice e p.pulls.length d, .int .i64 p.cross] 45 ∧ Blk V (w.heap.size + 1) #[.int .u8 b.ship, .int .i64 b.axis, .int .i64 b.held, .bool b.wire, .bool b.opn] 59 ∧ Blk V (w.heap.size + 1 + 1) #[.int .u8 s.act.kind, .int .i64 s.act.n, .int .i64 s.wind.xlo, .int .i64 s.wind.xhi, .int .i64 s.wind.ylo, .int .i64 s.wind.yhi] 63 ∧ Blk V (w.heap.size + 1 + 1 + 1) #[.int .u8 0, .int .i64 0, .int .i64 0, .bool false, .bool false] 59 ∧ Kept w V) ⟨Nat.le_of_eq hBe, hT, by (exact blk), by (exact blk), by (exact blk), by (exact blk), by (exact kpt)⟩ ?_
      clear r0 r1 r2 r3 hT hMe hBe r0c0 r0f0 r0c1 r0f1 r0c2 r0f2 r0c3 r0f3 r0c4 r0f4 r1c0 r1f0 r1c1 r1f1 r1c2 r1f2 r1c3 r1f3 r1c4 r1f4 r2c0 r2f0 r2c1 r2f1 r2c2 r2f2 r2c3 r2f3 r2c4 r2f4 r2c5 r2f5 r3c0 r3f0 r3c1 r3f1 r3c2 r3f2 r3c3 r3f3 r3c4 r3f4 r0l r1l r2l r3l
      rintro W ⟨hBW, hT, rp, rb, rs, rc, hk⟩
      obtain ⟨hMB, g, hI, hno, h4⟩ := hT
      have hgn : g s.act.kind = none := hno _ hkn
      have rpc0 := rp.cell 0
      have rpc1 := rp.cell 1
      have rpc2 := rp.cell 2
      have rpc3 := rp.cell 3
      have rpc4 := rp.cell 4
      have rpf0 := rp.free 0
      have rpf1 := rp.free 1
      have rpf2 := rp.free 2
      have rpf3 := rp.free 3
      have rpf4 := rp.free 4
      have rpl := rp.lt
      simp at rpc0 rpc1 rpc2 rpc3 rpc4
      have rbc0 := rb.cell 0
      have rbc1 := rb.cell 1
      have rbc2 := rb.cell 2
      have rbc3 := rb.cell 3
      have rbc4 := rb.cell 4
      have rbf0 := rb.free 0
      have rbf1 := rb.free 1
      have rbf2 := rb.free 2
      have rbf3 := rb.free 3
      have rbf4 := rb.free 4
      have rbl := rb.lt
      simp at rbc0 rbc1 rbc2 rbc3 rbc4
      have rsc0 := rs.cell 0
      have rsc1 := rs.cell 1
      have rsc2 := rs.cell 2
      have rsc3 := rs.cell 3
      have rsc4 := rs.cell 4
      have rsc5 := rs.cell 5
      have rsf0 := rs.free 0
      have rsf1 := rs.free 1
      have rsf2 := rs.free 2
      have rsf3 := rs.free 3
      have rsf4 := rs.free 4
      have rsf5 := rs.free 5
      have rsl := rs.lt
      simp at rsc0 rsc1 rsc2 rsc3 rsc4 rsc5
      have rcc0 := rc.cell 0
      have rcc1 := rc.cell 1
      have rcc2 := rc.cell 2
      have rcc3 := rc.cell 3
      have rcc4 := rc.cell 4
      have rcf0 := rc.free 0
      have rcf1 := rc.free 1
      have rcf2 := rc.free 2
      have rcf3 := rc.free 3
      have rcf4 := rc.free 4
      have rcl := rc.lt
      simp at rcc0 rcc1 rcc2 rcc3 rcc4
      go_wp2_with (at_lookup; refine wpList_look_ok _ rfl _ _ 117 rfl 5 122 keyedU8 Try.underlying117 _ (zeroDeed _) M _ (litF g) rfl hI _ (.int .u8 s.act.kind) rfl (keyU8 hk0) (.agg #[.slice none 0 0, .nilFunc]) (by show (g s.act.kind).getD _ = _; rw [hgn]; rfl) false (by show (g s.act.kind).isSome = _; rw [hgn]; rfl) ?_)
      exact bodyPost_ret (v := .tuple #[.agg #[.int .u8 noBerth.ship, .int .i64 noBerth.axis, .int .i64 noBerth.held, .bool noBerth.wire, .bool noBerth.opn], .int .i64 0, .int .i64 2]) (by first | (simp [results, Try.results23, go_sem, noBerth, rcc0, rcc1, rcc2, rcc3, rcc4, rcl]; done) | (simp [results, Try.results23, go_sem, noBerth, rcc0, rcc1, rcc2, rcc3, rcc4, rcl]; rfl)) rfl ⟨rfl, by (exact kpt)⟩
  · rw [if_neg c1] at hE
    have HCB := Lib.hid hE
    have hE0 : ¬ E = 0 := by rw [← hE]; exact c1
    have hEb : (E == 0) = false := beq_eq_false_iff_ne.2 hE0
    clear h c1 hE
    go_enter Try.func23, Try.ntmps23
    go_wp2_with (go_at_call 27; (with_reducible refine (f_CheckBerth a c e d p _ (hx.later (by (exact kpt)) (Nat.le_refl _)) hc hM (hy.later (by (exact kpt)) (Nat.le_refl _)) hd hN h1 h2 b hs0).mono ?_); rw [HCB.out]; rintro z w1 ⟨rfl, hb1⟩; refine Blk.thru (b := w.heap.size) (arr := ?_) (t := ?_) ?_ hb1 ?_; rotate_left 2; (focus (exact blk)); intro r0; have r0c0 := r0.cell 0; have r0f0 := r0.free 0; have r0c1 := r0.cell 1; have r0f1 := r0.free 1; have r0c2 := r0.cell 2; have r0f2 := r0.free 2; have r0c3 := r0.cell 3; have r0f3 := r0.free 3; have r0c4 := r0.cell 4; have r0f4 := r0.free 4; have r0l := r0.lt; simp at r0c0 r0c1 r0c2 r0c3 r0c4; refine Blk.thru (b := (w.heap.size + 1)) (arr := ?_) (t := ?_) ?_ hb1 ?_; rotate_left 2; (focus (exact blk)); intro r1; have r1c0 := r1.cell 0; have r1f0 := r1.free 0; have r1c1 := r1.cell 1; have r1f1 := r1.free 1; have r1c2 := r1.cell 2; have r1f2 := r1.free 2; have r1c3 := r1.cell 3; have r1f3 := r1.free 3; have r1c4 := r1.cell 4; have r1f4 := r1.free 4; have r1l := r1.lt; simp at r1c0 r1c1 r1c2 r1c3 r1c4; refine Blk.thru (b := (w.heap.size + 1 + 1)) (arr := ?_) (t := ?_) ?_ hb1 ?_; rotate_left 2; (focus (exact blk)); intro r2; have r2c0 := r2.cell 0; have r2f0 := r2.free 0; have r2c1 := r2.cell 1; have r2f1 := r2.free 1; have r2c2 := r2.cell 2; have r2f2 := r2.free 2; have r2c3 := r2.cell 3; have r2f3 := r2.free 3; have r2c4 := r2.cell 4; have r2f4 := r2.free 4; have r2c5 := r2.cell 5; have r2f5 := r2.free 5; have r2l := r2.lt; simp at r2c0 r2c1 r2c2 r2c3 r2c4 r2c5; refine Blk.thru (b := (w.heap.size + 1 + 1 + 1)) (arr := ?_) (t := ?_) ?_ hb1 ?_; rotate_left 2; (focus (exact blk)); intro r3; have r3c0 := r3.cell 0; have r3f0 := r3.free 0; have r3c1 := r3.cell 1; have r3f1 := r3.free 1; have r3c2 := r3.cell 2; have r3f2 := r3.free 2; have r3c3 := r3.cell 3; have r3f3 := r3.free 3; have r3c4 := r3.cell 4; have r3f4 := r3.free 4; have r3l := r3.lt; simp at r3c0 r3c1 r3c2 r3c3 r3c4)
    exact bodyPost_ret (v := .tuple #[.agg #[.int .u8 noBerth.ship, .int .i64 noBerth.axis, .int .i64 noBerth.held, .bool noBerth.wire, .bool noBerth.opn], .int .i64 0, .int .i64 E]) (by first | (simp [results, Try.results23, go_sem, noBerth, r3c0, r3c1, r3c2, r3c3, r3c4, r3l]; done) | (simp [results, Try.results23, go_sem, noBerth, r3c0, r3c1, r3c2, r3c3, r3c4, r3l]; rfl)) rfl ⟨rfl, by (exact kpt)⟩

theorem deed_form (b s : Nat) (k : Int) (h1 : 1 ≤ k) (h2 : k ≤ 13) : ∃ (m : Nat) (G : FuncId) (cs : Array Value), deedV b s k = .agg #[.slice (some ⟨b, 0, none⟩) m m, .func (.func G) #[] cs] := by
  rcases (by omega : k = 1 ∨ k = 2 ∨ k = 3 ∨ k = 4 ∨ k = 5 ∨ k = 6 ∨ k = 7 ∨ k = 8 ∨ k = 9 ∨ k = 10 ∨ k = 11 ∨ k = 12 ∨ k = 13) with rfl | rfl | rfl | rfl | rfl | rfl | rfl | rfl | rfl | rfl | rfl | rfl | rfl
  all_goals exact ⟨_, _, _, rfl⟩
theorem doErr_ok {p : Port} {b : Berth} {s : Step} (h : doErr p b s = 0) : portB p = true ∧ berthB p b = true ∧ windB s.wind = true ∧ 1 ≤ s.act.kind ∧ s.act.kind ≤ 13 := by
  unfold doErr at h
  by_cases c1 : checkBerth p b = 0
  · rw [if_pos c1] at h
    unfold checkBerth at c1
    cases c2 : windB s.wind
    · rw [c2] at h; simp at h
    · rw [c2] at h
      cases c3 : inB s.act.kind 1 13
      · rw [c3] at h; simp at h
      · have := inB_iff.1 c3
        cases c4 : portB p
        · rw [c4] at c1; simp at c1
        · cases c5 : berthB p b
          · rw [c4, c5] at c1; simp at c1
          · exact ⟨rfl, rfl, rfl, this.1, this.2⟩
  · rw [if_neg c1] at h; exact absurd h c1
theorem f_Do_ok (a : Option Addr) (c : Nat) (e : Option Addr) (d : Nat) (p : Port) (w : World) (hx : Row Axis.cells 2 w.heap.size w a p.axes) (hc : p.axes.length ≤ c) (hM : c ≤ maxLen) (hy : Row Span.cells 2 w.heap.size w e p.pulls) (hd : p.pulls.length ≤ d) (hN : d ≤ maxLen) (h1 : p.axes.length ≤ 1000000) (h2 : p.pulls.length ≤ 1000000) (b : Berth) (hs0 : 0 ≤ b.ship) (s : Step) (hk0 : 0 ≤ s.act.kind ∧ s.act.kind ≤ 255) (h : doErr p b s = 0) :
    Calls Try.prog 23 #[.agg #[.slice a p.axes.length c, .int .i64 p.people, .int .i64 p.most, .slice e p.pulls.length d, .int .i64 p.cross], .agg #[.int .u8 b.ship, .int .i64 b.axis, .int .i64 b.held, .bool b.wire, .bool b.opn], .agg #[.int .u8 s.act.kind, .int .i64 s.act.n, .int .i64 s.wind.xlo, .int .i64 s.wind.xhi, .int .i64 s.wind.ylo, .int .i64 s.wind.yhi]] w fun z w' => z = .returned (.tuple #[.agg #[.int .u8 (doB p b s).ship, .int .i64 (doB p b s).axis, .int .i64 (doB p b s).held, .bool (doB p b s).wire, .bool (doB p b s).opn], .int .i64 (doRule p b s), .int .i64 (doE p b s)]) ∧ Kept w w' := by
  have hM' := hM
  have hN' := hN
  unfold maxLen at hM' hN'
  obtain ⟨hp, hbb, c2, t1, t2⟩ := doErr_ok h
  have ht : 1 ≤ s.act.kind ∧ s.act.kind ≤ 13 := ⟨t1, t2⟩
  obtain ⟨_, ⟨ha1, ha2⟩, _⟩ := berth_parts hbb
  have hax : 0 ≤ b.axis ∧ b.axis < p.axes.length := by omega
  have HCB := Lib.hid (show checkBerth p b = 0 by simp [checkBerth, hp, hbb])
  have HCW := Lib.hid (show checkWind s.wind = 0 by simp [checkWind, c2])
  obtain ⟨R, hR⟩ : ∃ R, tryR p (dockOf p b s) s.act.kind = R := ⟨_, rfl⟩
  have hR0 : 0 ≤ R := by rw [← hR]; exact firstNot_pos
  have e2 : doRule p b s = R := by unfold doRule; rw [if_pos h, hR]
  have e1 : doE p b s = if R = 0 then 0 else 74 := by unfold doE; rw [if_pos h, e2]
  have HR := Lib.hid (show tryR p { (⟨b, needP p, s.wind, 0⟩ : Dock) with n := s.act.n } s.act.kind = R from hR)
  by_cases hz : R = 0
  · subst hz
    have e3 : doB p b s = doneB (dockOf p b s) s.act.kind := by unfold doB; rw [e1]; rfl
    rw [e2, e1, e3, if_pos rfl]
    clear hR hR0 e1 e2 e3 h
    go_enter Try.func23, Try.ntmps23
    go_upto_region 8 with (first | (go_at_call 27; (with_reducible refine (f_CheckBerth a c e d p _ (hx.later (by (exact kpt)) (Nat.le_refl _)) hc hM (hy.later (by (exact kpt)) (Nat.le_refl _)) hd hN h1 h2 b hs0).mono ?_); rw [HCB.out]; rintro z w1 ⟨rfl, hb1⟩; refine Blk.thru (b := w.heap.size) (arr := ?_) (t := ?_) ?_ hb1 ?_; rotate_left 2; (focus (exact blk)); intro r0; have r0c0 := r0.cell 0; have r0f0 := r0.free 0; have r0c1 := r0.cell 1; have r0f1 := r0.free 1; have r0c2 := r0.cell 2; have r0f2 := r0.free 2; have r0c3 := r0.cell 3; have r0f3 := r0.free 3; have r0c4 := r0.cell 4; have r0f4 := r0.free 4; have r0l := r0.lt; simp at r0c0 r0c1 r0c2 r0c3 r0c4; refine Blk.thru (b := (w.heap.size + 1)) (arr := ?_) (t := ?_) ?_ hb1 ?_; rotate_left 2; (focus (exact blk)); intro r1; have r1c0 := r1.cell 0; have r1f0 := r1.free 0; have r1c1 := r1.cell 1; have r1f1 := r1.free 1; have r1c2 := r1.cell 2; have r1f2 := r1.free 2; have r1c3 := r1.cell 3; have r1f3 := r1.free 3; have r1c4 := r1.cell 4; have r1f4 := r1.free 4; have r1l := r1.lt; simp at r1c0 r1c1 r1c2 r1c3 r1c4; refine Blk.thru (b := (w.heap.size + 1 + 1)) (arr := ?_) (t := ?_) ?_ hb1 ?_; rotate_left 2; (focus (exact blk)); intro r2; have r2c0 := r2.cell 0; have r2f0 := r2.free 0; have r2c1 := r2.cell 1; have r2f1 := r2.free 1; have r2c2 := r2.cell 2; have r2f2 := r2.free 2; have r2c3 := r2.cell 3; have r2f3 := r2.free 3; have r2c4 := r2.cell 4; have r2f4 := r2.free 4; have r2c5 := r2.cell 5; have r2f5 := r2.free 5; have r2l := r2.lt; simp at r2c0 r2c1 r2c2 r2c3 r2c4 r2c5; refine Blk.thru (b := (w.heap.size + 1 + 1 + 1)) (arr := ?_) (t := ?_) ?_ hb1 ?_; rotate_left 2; (focus (exact blk)); intro r3; have r3c0 := r3.cell 0; have r3f0 := r3.free 0; have r3c1 := r3.cell 1; have r3f1 := r3.free 1; have r3c2 := r3.cell 2; have r3f2 := r3.free 2; have r3c3 := r3.cell 3; have r3f3 := r3.free 3; have r3c4 := r3.cell 4; have r3f4 := r3.free 4; have r3l := r3.lt; simp at r3c0 r3c1 r3c2 r3c3 r3c4) | (go_at_call 15; (with_reducible refine (f_CheckWind s.wind _).mono ?_); rw [HCW.out]; rintro z w2 ⟨rfl, hb2⟩; refine Blk.thru (b := w.heap.size) (arr := ?_) (t := ?_) ?_ hb2 ?_; rotate_left 2; (focus (exact blk)); intro r0; have r0c0 := r0.cell 0; have r0f0 := r0.free 0; have r0c1 := r0.cell 1; have r0f1 := r0.free 1; have r0c2 := r0.cell 2; have r0f2 := r0.free 2; have r0c3 := r0.cell 3; have r0f3 := r0.free 3; have r0c4 := r0.cell 4; have r0f4 := r0.free 4; have r0l := r0.lt; simp at r0c0 r0c1 r0c2 r0c3 r0c4; refine Blk.thru (b := (w.heap.size + 1)) (arr := ?_) (t := ?_) ?_ hb2 ?_; rotate_left 2; (focus (exact blk)); intro r1; have r1c0 := r1.cell 0; have r1f0 := r1.free 0; have r1c1 := r1.cell 1; have r1f1 := r1.free 1; have r1c2 := r1.cell 2; have r1f2 := r1.free 2; have r1c3 := r1.cell 3; have r1f3 := r1.free 3; have r1c4 := r1.cell 4; have r1f4 := r1.free 4; have r1l := r1.lt; simp at r1c0 r1c1 r1c2 r1c3 r1c4; refine Blk.thru (b := (w.heap.size + 1 + 1)) (arr := ?_) (t := ?_) ?_ hb2 ?_; rotate_left 2; (focus (exact blk)); intro r2; have r2c0 := r2.cell 0; have r2f0 := r2.free 0; have r2c1 := r2.cell 1; have r2f1 := r2.free 1; have r2c2 := r2.cell 2; have r2f2 := r2.free 2; have r2c3 := r2.cell 3; have r2f3 := r2.free 3; have r2c4 := r2.cell 4; have r2f4 := r2.free 4; have r2c5 := r2.cell 5; have r2f5 := r2.free 5; have r2l := r2.lt; simp at r2c0 r2c1 r2c2 r2c3 r2c4 r2c5; refine Blk.thru (b := (w.heap.size + 1 + 1 + 1)) (arr := ?_) (t := ?_) ?_ hb2 ?_; rotate_left 2; (focus (exact blk)); intro r3; have r3c0 := r3.cell 0; have r3f0 := r3.free 0; have r3c1 := r3.cell 1; have r3f1 := r3.free 1; have r3c2 := r3.cell 2; have r3f2 := r3.free 2; have r3c3 := r3.cell 3; have r3f3 := r3.free 3; have r3c4 := r3.cell 4; have r3f4 := r3.free 4; have r3l := r3.lt; simp at r3c0 r3c1 r3c2 r3c3 r3c4) | (go_at_call 63; (with_reducible refine (f_deeds _).mono ?_); rintro z w3 ⟨rfl, hT, hb3⟩))
    obtain ⟨M, hMe⟩ : ∃ n, n = w2.heap.size := ⟨_, rfl⟩
    obtain ⟨B, hBe⟩ : ∃ n, n = w3.heap.size := ⟨_, rfl⟩
    rw [← hMe, ← hBe] at hT
    rw [← hMe]
    have hB0 : w.heap.size + 1 + 1 + 1 < B := by rw [hBe]; have := hb3.size; have := r3l; have q := hb2.size; simp at *; omega
    refine at_world (S := fun V => B ≤ V.heap.size ∧ Table V B M ∧ Blk V w.heap.size #[.slice a p.axes.length c, .int .i64 p.people, .int .i64 p.most, .slice e p.pulls.length d, .int .i64 p.cross] 45 ∧ Blk V (w.heap.size + 1) #[.int .u8 b.ship, .int .i64 b.axis, .int .i64 b.held, .bool b.wire, .bool b.opn] 59 ∧ Blk V (w.heap.size + 1 + 1) #[.int .u8 s.act.kind, .int .i64 s.act.n, .int .i64 s.wind.xlo, .int .i64 s.wind.xhi, .int .i64 s.wind.ylo, .int .i64 s.wind.yhi] 63 ∧ Blk V (w.heap.size + 1 + 1 + 1) #[.int .u8 0, .int .i64 0, .int .i64 0, .bool false, .bool false] 59 ∧ Kept w V) ⟨Nat.le_of_eq hBe, hT, by (exact blk), by (exact blk), by (exact blk), by (exact blk), by (exact kpt)⟩ ?_
    clear r0 r1 r2 r3 hT hMe hBe r0c0 r0f0 r0c1 r0f1 r0c2 r0f2 r0c3 r0f3 r0c4 r0f4 r1c0 r1f0 r1c1 r1f1 r1c2 r1f2 r1c3 r1f3 r1c4 r1f4 r2c0 r2f0 r2c1 r2f1 r2c2 r2f2 r2c3 r2f3 r2c4 r2f4 r2c5 r2f5 r3c0 r3f0 r3c1 r3f1 r3c2 r3f2 r3c3 r3f3 r3c4 r3f4 r0l r1l r2l r3l
    rintro W ⟨hBW, hT, rp, rb, rs, rc, hk⟩
    obtain ⟨hMB, g, hI, hno, h4⟩ := hT
    obtain ⟨b', s', hb', hs', hg, hr, hsh⟩ := h4 _ t1 t2
    obtain ⟨m, G, cs, hdf⟩ := deed_form b' s' s.act.kind t1 t2
    have HG := Lib.hid (show (g s.act.kind).getD (.agg #[.slice none 0 0, .nilFunc]) = .agg #[.slice (some ⟨b', 0, none⟩) m m, .func (.func G) #[] cs] by rw [hg, hdf]; rfl)
    have HGS := Lib.hid (show (g s.act.kind).isSome = true by rw [hg]; rfl)
    have hT : Table W B M := ⟨hMB, g, hI, hno, h4⟩
    clear hg hdf hr hsh h4
    have rpc0 := rp.cell 0
    have rpc1 := rp.cell 1
    have rpc2 := rp.cell 2
    have rpc3 := rp.cell 3
    have rpc4 := rp.cell 4
    have rpf0 := rp.free 0
    have rpf1 := rp.free 1
    have rpf2 := rp.free 2
    have rpf3 := rp.free 3
    have rpf4 := rp.free 4
    have rpl := rp.lt
    simp at rpc0 rpc1 rpc2 rpc3 rpc4
    have rbc0 := rb.cell 0
    have rbc1 := rb.cell 1
    have rbc2 := rb.cell 2
    have rbc3 := rb.cell 3
    have rbc4 := rb.cell 4
    have rbf0 := rb.free 0
    have rbf1 := rb.free 1
    have rbf2 := rb.free 2
    have rbf3 := rb.free 3
    have rbf4 := rb.free 4
    have rbl := rb.lt
    simp at rbc0 rbc1 rbc2 rbc3 rbc4
    have rsc0 := rs.cell 0
    have rsc1 := rs.cell 1
    have rsc2 := rs.cell 2
    have rsc3 := rs.cell 3
    have rsc4 := rs.cell 4
    have rsc5 := rs.cell 5
    have rsf0 := rs.free 0
    have rsf1 := rs.free 1
    have rsf2 := rs.free 2
    have rsf3 := rs.free 3
    have rsf4 := rs.free 4
    have rsf5 := rs.free 5
    have rsl := rs.lt
    simp at rsc0 rsc1 rsc2 rsc3 rsc4 rsc5
    have rcc0 := rc.cell 0
    have rcc1 := rc.cell 1
    have rcc2 := rc.cell 2
    have rcc3 := rc.cell 3
    have rcc4 := rc.cell 4
    have rcf0 := rc.free 0
    have rcf1 := rc.free 1
    have rcf2 := rc.free 2
    have rcf3 := rc.free 3
    have rcf4 := rc.free 4
    have rcl := rc.lt
    simp at rcc0 rcc1 rcc2 rcc3 rcc4
    go_upto_region 11 with (at_lookup; refine wpList_look_ok _ rfl _ _ 117 rfl 5 122 keyedU8 Try.underlying117 _ (zeroDeed _) M _ (litF g) rfl hI _ (.int .u8 s.act.kind) rfl (keyU8 hk0) _ HG.out true HGS.out ?_)
    refine at_world (S := fun V => B ≤ V.heap.size ∧ Table V B M ∧ Blk V w.heap.size #[.slice a p.axes.length c, .int .i64 p.people, .int .i64 p.most, .slice e p.pulls.length d, .int .i64 p.cross] 45 ∧ Blk V (w.heap.size + 1) #[.int .u8 b.ship, .int .i64 b.axis, .int .i64 b.held, .bool b.wire, .bool b.opn] 59 ∧ Blk V (w.heap.size + 1 + 1) #[.int .u8 s.act.kind, .int .i64 s.act.n, .int .i64 s.wind.xlo, .int .i64 s.wind.xhi, .int .i64 s.wind.ylo, .int .i64 s.wind.yhi] 63 ∧ Blk V (w.heap.size + 1 + 1 + 1) #[.int .u8 0, .int .i64 0, .int .i64 0, .bool false, .bool false] 59 ∧ Kept w V) ⟨by have := hBW; simp; omega, hT.below (Below.alloc (Below.refl _ _) hBW _), by (exact blk), by (exact blk), by (exact blk), by (exact blk), by (exact kpt)⟩ ?_
    clear rpc0 rpf0 rpc1 rpf1 rpc2 rpf2 rpc3 rpf3 rpc4 rpf4 rbc0 rbf0 rbc1 rbf1 rbc2 rbf2 rbc3 rbf3 rbc4 rbf4 rsc0 rsf0 rsc1 rsf1 rsc2 rsf2 rsc3 rsf3 rsc4 rsf4 rsc5 rsf5 rcc0 rcf0 rcc1 rcf1 rcc2 rcf2 rcc3 rcf3 rcc4 rcf4 rpl rbl rsl rcl hI hno hT rp rb rs rc hk hBW HG HGS
    rintro W2 ⟨hBW, hT, rp, rb, rs, rc, hk⟩
    have rpc0 := fun g : Later W2 => (rp.later g).cell 0
    have rpc1 := fun g : Later W2 => (rp.later g).cell 1
    have rpc2 := fun g : Later W2 => (rp.later g).cell 2
    have rpc3 := fun g : Later W2 => (rp.later g).cell 3
    have rpc4 := fun g : Later W2 => (rp.later g).cell 4
    have rpf0 := fun g : Later W2 => (rp.later g).free 0
    have rpf1 := fun g : Later W2 => (rp.later g).free 1
    have rpf2 := fun g : Later W2 => (rp.later g).free 2
    have rpf3 := fun g : Later W2 => (rp.later g).free 3
    have rpf4 := fun g : Later W2 => (rp.later g).free 4
    have rpl := fun g : Later W2 => (rp.later g).lt
    simp at rpc0 rpc1 rpc2 rpc3 rpc4
    have rbc0 := fun g : Later W2 => (rb.later g).cell 0
    have rbc1 := fun g : Later W2 => (rb.later g).cell 1
    have rbc2 := fun g : Later W2 => (rb.later g).cell 2
    have rbc3 := fun g : Later W2 => (rb.later g).cell 3
    have rbc4 := fun g : Later W2 => (rb.later g).cell 4
    have rbf0 := fun g : Later W2 => (rb.later g).free 0
    have rbf1 := fun g : Later W2 => (rb.later g).free 1
    have rbf2 := fun g : Later W2 => (rb.later g).free 2
    have rbf3 := fun g : Later W2 => (rb.later g).free 3
    have rbf4 := fun g : Later W2 => (rb.later g).free 4
    have rbl := fun g : Later W2 => (rb.later g).lt
    simp at rbc0 rbc1 rbc2 rbc3 rbc4
    have rsc0 := fun g : Later W2 => (rs.later g).cell 0
    have rsc1 := fun g : Later W2 => (rs.later g).cell 1
    have rsc2 := fun g : Later W2 => (rs.later g).cell 2
    have rsc3 := fun g : Later W2 => (rs.later g).cell 3
    have rsc4 := fun g : Later W2 => (rs.later g).cell 4
    have rsc5 := fun g : Later W2 => (rs.later g).cell 5
    have rsf0 := fun g : Later W2 => (rs.later g).free 0
    have rsf1 := fun g : Later W2 => (rs.later g).free 1
    have rsf2 := fun g : Later W2 => (rs.later g).free 2
    have rsf3 := fun g : Later W2 => (rs.later g).free 3
    have rsf4 := fun g : Later W2 => (rs.later g).free 4
    have rsf5 := fun g : Later W2 => (rs.later g).free 5
    have rsl := fun g : Later W2 => (rs.later g).lt
    simp at rsc0 rsc1 rsc2 rsc3 rsc4 rsc5
    have rcc0 := fun g : Later W2 => (rc.later g).cell 0
    have rcc1 := fun g : Later W2 => (rc.later g).cell 1
    have rcc2 := fun g : Later W2 => (rc.later g).cell 2
    have rcc3 := fun g : Later W2 => (rc.later g).cell 3
    have rcc4 := fun g : Later W2 => (rc.later g).cell 4
    have rcf0 := fun g : Later W2 => (rc.later g).free 0
    have rcf1 := fun g : Later W2 => (rc.later g).free 1
    have rcf2 := fun g : Later W2 => (rc.later g).free 2
    have rcf3 := fun g : Later W2 => (rc.later g).free 3
    have rcf4 := fun g : Later W2 => (rc.later g).free 4
    have rcl := fun g : Later W2 => (rc.later g).lt
    simp at rcc0 rcc1 rcc2 rcc3 rcc4
    refine Later.tail 7 (by kernel_rfl) (by kernel_rfl) ?_
    simp only [List.take_succ_cons, List.take_zero, List.drop_succ_cons, List.drop_zero]
    repeat (first | go_big_quiet_skip | (go_big_quiet_want; go_big_quiet_op; first | go_big_quiet_on | (apply Exists.intro; refine ⟨fun g_ => ?_, ?_⟩; (focus (first | (go_at_call 64; with_reducible exact Later.call (f_need a c e d p _ (hx.later (Kept.drop hk g_.ok) (Nat.le_refl _)) hc hM (hy.later (Kept.drop hk g_.ok) (Nat.le_refl _)) hd hN h1 h2 hp)))); go_big_quiet_on)))
    refine wpQuiet_nil ?_
    intro gg
    have rp2 := rp.later gg
    have rb2 := rb.later gg
    have rs2 := rs.later gg
    have rc2 := rc.later gg
    have hkg := Kept.drop hk gg.ok
    have hT2 := hT.below (gg.ok.mono hBW)
    clear rpc0 rpf0 rpc1 rpf1 rpc2 rpf2 rpc3 rpf3 rpc4 rpf4 rbc0 rbf0 rbc1 rbf1 rbc2 rbf2 rbc3 rbf3 rbc4 rbf4 rsc0 rsf0 rsc1 rsf1 rsc2 rsf2 rsc3 rsf3 rsc4 rsf4 rsc5 rsf5 rcc0 rcf0 rcc1 rcf1 rcc2 rcf2 rcc3 rcf3 rcc4 rcf4 rpl rbl rsl rcl
    refine wpList_plain rfl fun K1 hK1 => ?_
    go_simp
    refine hK1 _ _ ?_
    go_upto_region 12 with fail
    have hgs := gg.ok.size
    refine at_world (S := fun V => Table V B M ∧ Blk V w.heap.size #[.slice a p.axes.length c, .int .i64 p.people, .int .i64 p.most, .slice e p.pulls.length d, .int .i64 p.cross] 45 ∧ Blk V (w.heap.size + 1) #[.int .u8 b.ship, .int .i64 b.axis, .int .i64 b.held, .bool b.wire, .bool b.opn] 59 ∧ Blk V (w.heap.size + 1 + 1) #[.int .u8 s.act.kind, .int .i64 s.act.n, .int .i64 s.wind.xlo, .int .i64 s.wind.xhi, .int .i64 s.wind.ylo, .int .i64 s.wind.yhi] 63 ∧ Blk V (w.heap.size + 1 + 1 + 1) #[.int .u8 0, .int .i64 0, .int .i64 0, .bool false, .bool false] 59 ∧ Blk V gg.val.heap.size (dockCells a c e d p (⟨b, needP p, s.wind, 0⟩ : Dock)) 126 ∧ Row Axis.cells 2 gg.val.heap.size V a p.axes ∧ Kept w V) ⟨hT2.below (Below.alloc (Below.refl _ _) (Nat.le_trans hBW hgs) _), by (exact blk), by (exact blk), by (exact blk), by (exact blk), by (exact blkc), ((hx.keep hkg (Nat.le_refl _)).up hkg.size).keep (Below.alloc (Below.refl _ _) (Nat.le_refl _) _) (Nat.le_refl _), by (exact kpt)⟩ ?_
    have hBn0 : B ≤ gg.val.heap.size := Nat.le_trans hBW hgs
    have hcn0 : (w.heap.size + 1 + 1 + 1) < gg.val.heap.size := rc2.lt
    obtain ⟨nD, hnD⟩ : ∃ n, n = gg.val.heap.size := ⟨_, rfl⟩
    rw [← hnD] at hBn0 hcn0 ⊢
    have hwn : w.heap.size ≤ nD := by rw [hnD]; exact hkg.size
    clear hnD rp rb rs rc rp2 rb2 rs2 rc2 hT hT2 hkg hk gg hgs
    rintro W3 ⟨hT, rp, rb, rs, rc, rd, hxn, hk⟩
    have hBn := hBn0
    have rpc0 := rp.cell 0
    have rpc1 := rp.cell 1
    have rpc2 := rp.cell 2
    have rpc3 := rp.cell 3
    have rpc4 := rp.cell 4
    have rpf0 := rp.free 0
    have rpf1 := rp.free 1
    have rpf2 := rp.free 2
    have rpf3 := rp.free 3
    have rpf4 := rp.free 4
    have rpl := rp.lt
    simp at rpc0 rpc1 rpc2 rpc3 rpc4
    have rbc0 := rb.cell 0
    have rbc1 := rb.cell 1
    have rbc2 := rb.cell 2
    have rbc3 := rb.cell 3
    have rbc4 := rb.cell 4
    have rbf0 := rb.free 0
    have rbf1 := rb.free 1
    have rbf2 := rb.free 2
    have rbf3 := rb.free 3
    have rbf4 := rb.free 4
    have rbl := rb.lt
    simp at rbc0 rbc1 rbc2 rbc3 rbc4
    have rsc0 := rs.cell 0
    have rsc1 := rs.cell 1
    have rsc2 := rs.cell 2
    have rsc3 := rs.cell 3
    have rsc4 := rs.cell 4
    have rsc5 := rs.cell 5
    have rsf0 := rs.free 0
    have rsf1 := rs.free 1
    have rsf2 := rs.free 2
    have rsf3 := rs.free 3
    have rsf4 := rs.free 4
    have rsf5 := rs.free 5
    have rsl := rs.lt
    simp at rsc0 rsc1 rsc2 rsc3 rsc4 rsc5
    have rcc0 := rc.cell 0
    have rcc1 := rc.cell 1
    have rcc2 := rc.cell 2
    have rcc3 := rc.cell 3
    have rcc4 := rc.cell 4
    have rcf0 := rc.free 0
    have rcf1 := rc.free 1
    have rcf2 := rc.free 2
    have rcf3 := rc.free 3
    have rcf4 := rc.free 4
    have rcl := rc.lt
    simp at rcc0 rcc1 rcc2 rcc3 rcc4
    go_wp2_with (go_at_call 65; (with_reducible refine (f_try a c e d p (⟨b, needP p, s.wind, 0⟩ : Dock) nD s.act.kind s.act.n _ rd M B hT hBn hxn hp c2 hax ht).mono ?_); rw [show tryR p { (⟨b, needP p, s.wind, 0⟩ : Dock) with n := s.act.n } s.act.kind = 0 from HR.out]; rintro z w9 ⟨rfl, hyes, hnot, hb9⟩; have hk9 : Kept w w9 := Below.trans hk (hb9.mono hwn); have rc9 := rc.lower hb9 hcn0; have rc9c0 := rc9.cell 0; have rc9c1 := rc9.cell 1; have rc9c2 := rc9.cell 2; have rc9c3 := rc9.cell 3; have rc9c4 := rc9.cell 4; have rc9f0 := rc9.free 0; have rc9f1 := rc9.free 1; have rc9f2 := rc9.free 2; have rc9f3 := rc9.free 3; have rc9f4 := rc9.free 4; have rc9l := rc9.lt; simp at rc9c0 rc9c1 rc9c2 rc9c3 rc9c4; have rd9 := hyes rfl; unfold dockCells at rd9; have rd9c0 := rd9.cell 0; have rd9c1 := rd9.cell 1; have rd9c2 := rd9.cell 2; have rd9c3 := rd9.cell 3; have rd9c4 := rd9.cell 4; have rd9f0 := rd9.free 0; have rd9f1 := rd9.free 1; have rd9f2 := rd9.free 2; have rd9f3 := rd9.free 3; have rd9f4 := rd9.free 4; have rd9l := rd9.lt; simp at rd9c0 rd9c1 rd9c2 rd9c3 rd9c4)
    exact bodyPost_ret (v := .tuple #[.agg #[.int .u8 (doneB (dockOf p b s) s.act.kind).ship, .int .i64 (doneB (dockOf p b s) s.act.kind).axis, .int .i64 (doneB (dockOf p b s) s.act.kind).held, .bool (doneB (dockOf p b s) s.act.kind).wire, .bool (doneB (dockOf p b s) s.act.kind).opn], .int .i64 0, .int .i64 0]) (by first | (simp [results, Try.results23, go_sem, noBerth, rc9c0, rc9c1, rc9c2, rc9c3, rc9c4, rc9l, rd9c0, rd9c1, rd9c2, rd9c3, rd9c4, dockOf]; done) | (simp [results, Try.results23, go_sem, noBerth, rc9c0, rc9c1, rc9c2, rc9c3, rc9c4, rc9l, rd9c0, rd9c1, rd9c2, rd9c3, rd9c4, dockOf]; rfl)) rfl ⟨rfl, by (exact kpt)⟩
  · have hR1 : 0 < R := by omega
    have e3 : doB p b s = noBerth := by unfold doB; rw [e1, if_neg hz]; rfl
    rw [e2, e1, e3, if_neg hz]
    clear hR hR0 e1 e2 e3 h
    go_enter Try.func23, Try.ntmps23
    go_upto_region 8 with (first | (go_at_call 27; (with_reducible refine (f_CheckBerth a c e d p _ (hx.later (by (exact kpt)) (Nat.le_refl _)) hc hM (hy.later (by (exact kpt)) (Nat.le_refl _)) hd hN h1 h2 b hs0).mono ?_); rw [HCB.out]; rintro z w1 ⟨rfl, hb1⟩; refine Blk.thru (b := w.heap.size) (arr := ?_) (t := ?_) ?_ hb1 ?_; rotate_left 2; (focus (exact blk)); intro r0; have r0c0 := r0.cell 0; have r0f0 := r0.free 0; have r0c1 := r0.cell 1; have r0f1 := r0.free 1; have r0c2 := r0.cell 2; have r0f2 := r0.free 2; have r0c3 := r0.cell 3; have r0f3 := r0.free 3; have r0c4 := r0.cell 4; have r0f4 := r0.free 4; have r0l := r0.lt; simp at r0c0 r0c1 r0c2 r0c3 r0c4; refine Blk.thru (b := (w.heap.size + 1)) (arr := ?_) (t := ?_) ?_ hb1 ?_; rotate_left 2; (focus (exact blk)); intro r1; have r1c0 := r1.cell 0; have r1f0 := r1.free 0; have r1c1 := r1.cell 1; have r1f1 := r1.free 1; have r1c2 := r1.cell 2; have r1f2 := r1.free 2; have r1c3 := r1.cell 3; have r1f3 := r1.free 3; have r1c4 := r1.cell 4; have r1f4 := r1.free 4; have r1l := r1.lt; simp at r1c0 r1c1 r1c2 r1c3 r1c4; refine Blk.thru (b := (w.heap.size + 1 + 1)) (arr := ?_) (t := ?_) ?_ hb1 ?_; rotate_left 2; (focus (exact blk)); intro r2; have r2c0 := r2.cell 0; have r2f0 := r2.free 0; have r2c1 := r2.cell 1; have r2f1 := r2.free 1; have r2c2 := r2.cell 2; have r2f2 := r2.free 2; have r2c3 := r2.cell 3; have r2f3 := r2.free 3; have r2c4 := r2.cell 4; have r2f4 := r2.free 4; have r2c5 := r2.cell 5; have r2f5 := r2.free 5; have r2l := r2.lt; simp at r2c0 r2c1 r2c2 r2c3 r2c4 r2c5; refine Blk.thru (b := (w.heap.size + 1 + 1 + 1)) (arr := ?_) (t := ?_) ?_ hb1 ?_; rotate_left 2; (focus (exact blk)); intro r3; have r3c0 := r3.cell 0; have r3f0 := r3.free 0; have r3c1 := r3.cell 1; have r3f1 := r3.free 1; have r3c2 := r3.cell 2; have r3f2 := r3.free 2; have r3c3 := r3.cell 3; have r3f3 := r3.free 3; have r3c4 := r3.cell 4; have r3f4 := r3.free 4; have r3l := r3.lt; simp at r3c0 r3c1 r3c2 r3c3 r3c4) | (go_at_call 15; (with_reducible refine (f_CheckWind s.wind _).mono ?_); rw [HCW.out]; rintro z w2 ⟨rfl, hb2⟩; refine Blk.thru (b := w.heap.size) (arr := ?_) (t := ?_) ?_ hb2 ?_; rotate_left 2; (focus (exact blk)); intro r0; have r0c0 := r0.cell 0; have r0f0 := r0.free 0; have r0c1 := r0.cell 1; have r0f1 := r0.free 1; have r0c2 := r0.cell 2; have r0f2 := r0.free 2; have r0c3 := r0.cell 3; have r0f3 := r0.free 3; have r0c4 := r0.cell 4; have r0f4 := r0.free 4; have r0l := r0.lt; simp at r0c0 r0c1 r0c2 r0c3 r0c4; refine Blk.thru (b := (w.heap.size + 1)) (arr := ?_) (t := ?_) ?_ hb2 ?_; rotate_left 2; (focus (exact blk)); intro r1; have r1c0 := r1.cell 0; have r1f0 := r1.free 0; have r1c1 := r1.cell 1; have r1f1 := r1.free 1; have r1c2 := r1.cell 2; have r1f2 := r1.free 2; have r1c3 := r1.cell 3; have r1f3 := r1.free 3; have r1c4 := r1.cell 4; have r1f4 := r1.free 4; have r1l := r1.lt; simp at r1c0 r1c1 r1c2 r1c3 r1c4; refine Blk.thru (b := (w.heap.size + 1 + 1)) (arr := ?_) (t := ?_) ?_ hb2 ?_; rotate_left 2; (focus (exact blk)); intro r2; have r2c0 := r2.cell 0; have r2f0 := r2.free 0; have r2c1 := r2.cell 1; have r2f1 := r2.free 1; have r2c2 := r2.cell 2; have r2f2 := r2.free 2; have r2c3 := r2.cell 3; have r2f3 := r2.free 3; have r2c4 := r2.cell 4; have r2f4 := r2.free 4; have r2c5 := r2.cell 5; have r2f5 := r2.free 5; have r2l := r2.lt; simp at r2c0 r2c1 r2c2 r2c3 r2c4 r2c5; refine Blk.thru (b := (w.heap.size + 1 + 1 + 1)) (arr := ?_) (t := ?_) ?_ hb2 ?_; rotate_left 2; (focus (exact blk)); intro r3; have r3c0 := r3.cell 0; have r3f0 := r3.free 0; have r3c1 := r3.cell 1; have r3f1 := r3.free 1; have r3c2 := r3.cell 2; have r3f2 := r3.free 2; have r3c3 := r3.cell 3; have r3f3 := r3.free 3; have r3c4 := r3.cell 4; have r3f4 := r3.free 4; have r3l := r3.lt; simp at r3c0 r3c1 r3c2 r3c3 r3c4) | (go_at_call 63; (with_reducible refine (f_deeds _).mono ?_); rintro z w3 ⟨rfl, hT, hb3⟩))
    obtain ⟨M, hMe⟩ : ∃ n, n = w2.heap.size := ⟨_, rfl⟩
    obtain ⟨B, hBe⟩ : ∃ n, n = w3.heap.size := ⟨_, rfl⟩
    rw [← hMe, ← hBe] at hT
    rw [← hMe]
    have hB0 : w.heap.size + 1 + 1 + 1 < B := by rw [hBe]; have := hb3.size; have := r3l; have q := hb2.size; simp at *; omega
    refine at_world (S := fun V => B ≤ V.heap.size ∧ Table V B M ∧ Blk V w.heap.size #[.slice a p.axes.length c, .int .i64 p.people, .int .i64 p.most, .slice e p.pulls.length d, .int .i64 p.cross] 45 ∧ Blk V (w.heap.size + 1) #[.int .u8 b.ship, .int .i64 b.axis, .int .i64 b.held, .bool b.wire, .bool b.opn] 59 ∧ Blk V (w.heap.size + 1 + 1) #[.int .u8 s.act.kind, .int .i64 s.act.n, .int .i64 s.wind.xlo, .int .i64 s.wind.xhi, .int .i64 s.wind.ylo, .int .i64 s.wind.yhi] 63 ∧ Blk V (w.heap.size + 1 + 1 + 1) #[.int .u8 0, .int .i64 0, .int .i64 0, .bool false, .bool false] 59 ∧ Kept w V) ⟨Nat.le_of_eq hBe, hT, by (exact blk), by (exact blk), by (exact blk), by (exact blk), by (exact kpt)⟩ ?_
    clear r0 r1 r2 r3 hT hMe hBe r0c0 r0f0 r0c1 r0f1 r0c2 r0f2 r0c3 r0f3 r0c4 r0f4 r1c0 r1f0 r1c1 r1f1 r1c2 r1f2 r1c3 r1f3 r1c4 r1f4 r2c0 r2f0 r2c1 r2f1 r2c2 r2f2 r2c3 r2f3 r2c4 r2f4 r2c5 r2f5 r3c0 r3f0 r3c1 r3f1 r3c2 r3f2 r3c3 r3f3 r3c4 r3f4 r0l r1l r2l r3l
    rintro W ⟨hBW, hT, rp, rb, rs, rc, hk⟩
    obtain ⟨hMB, g, hI, hno, h4⟩ := hT
    obtain ⟨b', s', hb', hs', hg, hr, hsh⟩ := h4 _ t1 t2
    obtain ⟨m, G, cs, hdf⟩ := deed_form b' s' s.act.kind t1 t2
    have HG := Lib.hid (show (g s.act.kind).getD (.agg #[.slice none 0 0, .nilFunc]) = .agg #[.slice (some ⟨b', 0, none⟩) m m, .func (.func G) #[] cs] by rw [hg, hdf]; rfl)
    have HGS := Lib.hid (show (g s.act.kind).isSome = true by rw [hg]; rfl)
    have hT : Table W B M := ⟨hMB, g, hI, hno, h4⟩
    clear hg hdf hr hsh h4
    have rpc0 := rp.cell 0
    have rpc1 := rp.cell 1
    have rpc2 := rp.cell 2
    have rpc3 := rp.cell 3
    have rpc4 := rp.cell 4
    have rpf0 := rp.free 0
    have rpf1 := rp.free 1
    have rpf2 := rp.free 2
    have rpf3 := rp.free 3
    have rpf4 := rp.free 4
    have rpl := rp.lt
    simp at rpc0 rpc1 rpc2 rpc3 rpc4
    have rbc0 := rb.cell 0
    have rbc1 := rb.cell 1
    have rbc2 := rb.cell 2
    have rbc3 := rb.cell 3
    have rbc4 := rb.cell 4
    have rbf0 := rb.free 0
    have rbf1 := rb.free 1
    have rbf2 := rb.free 2
    have rbf3 := rb.free 3
    have rbf4 := rb.free 4
    have rbl := rb.lt
    simp at rbc0 rbc1 rbc2 rbc3 rbc4
    have rsc0 := rs.cell 0
    have rsc1 := rs.cell 1
    have rsc2 := rs.cell 2
    have rsc3 := rs.cell 3
    have rsc4 := rs.cell 4
    have rsc5 := rs.cell 5
    have rsf0 := rs.free 0
    have rsf1 := rs.free 1
    have rsf2 := rs.free 2
    have rsf3 := rs.free 3
    have rsf4 := rs.free 4
    have rsf5 := rs.free 5
    have rsl := rs.lt
    simp at rsc0 rsc1 rsc2 rsc3 rsc4 rsc5
    have rcc0 := rc.cell 0
    have rcc1 := rc.cell 1
    have rcc2 := rc.cell 2
    have rcc3 := rc.cell 3
    have rcc4 := rc.cell 4
    have rcf0 := rc.free 0
    have rcf1 := rc.free 1
    have rcf2 := rc.free 2
    have rcf3 := rc.free 3
    have rcf4 := rc.free 4
    have rcl := rc.lt
    simp at rcc0 rcc1 rcc2 rcc3 rcc4
    go_upto_region 11 with (at_lookup; refine wpList_look_ok _ rfl _ _ 117 rfl 5 122 keyedU8 Try.underlying117 _ (zeroDeed _) M _ (litF g) rfl hI _ (.int .u8 s.act.kind) rfl (keyU8 hk0) _ HG.out true HGS.out ?_)
    refine at_world (S := fun V => B ≤ V.heap.size ∧ Table V B M ∧ Blk V w.heap.size #[.slice a p.axes.length c, .int .i64 p.people, .int .i64 p.most, .slice e p.pulls.length d, .int .i64 p.cross] 45 ∧ Blk V (w.heap.size + 1) #[.int .u8 b.ship, .int .i64 b.axis, .int .i64 b.held, .bool b.wire, .bool b.opn] 59 ∧ Blk V (w.heap.size + 1 + 1) #[.int .u8 s.act.kind, .int .i64 s.act.n, .int .i64 s.wind.xlo, .int .i64 s.wind.xhi, .int .i64 s.wind.ylo, .int .i64 s.wind.yhi] 63 ∧ Blk V (w.heap.size + 1 + 1 + 1) #[.int .u8 0, .int .i64 0, .int .i64 0, .bool false, .bool false] 59 ∧ Kept w V) ⟨by have := hBW; simp; omega, hT.below (Below.alloc (Below.refl _ _) hBW _), by (exact blk), by (exact blk), by (exact blk), by (exact blk), by (exact kpt)⟩ ?_
    clear rpc0 rpf0 rpc1 rpf1 rpc2 rpf2 rpc3 rpf3 rpc4 rpf4 rbc0 rbf0 rbc1 rbf1 rbc2 rbf2 rbc3 rbf3 rbc4 rbf4 rsc0 rsf0 rsc1 rsf1 rsc2 rsf2 rsc3 rsf3 rsc4 rsf4 rsc5 rsf5 rcc0 rcf0 rcc1 rcf1 rcc2 rcf2 rcc3 rcf3 rcc4 rcf4 rpl rbl rsl rcl hI hno hT rp rb rs rc hk hBW HG HGS
    rintro W2 ⟨hBW, hT, rp, rb, rs, rc, hk⟩
    have rpc0 := fun g : Later W2 => (rp.later g).cell 0
    have rpc1 := fun g : Later W2 => (rp.later g).cell 1
    have rpc2 := fun g : Later W2 => (rp.later g).cell 2
    have rpc3 := fun g : Later W2 => (rp.later g).cell 3
    have rpc4 := fun g : Later W2 => (rp.later g).cell 4
    have rpf0 := fun g : Later W2 => (rp.later g).free 0
    have rpf1 := fun g : Later W2 => (rp.later g).free 1
    have rpf2 := fun g : Later W2 => (rp.later g).free 2
    have rpf3 := fun g : Later W2 => (rp.later g).free 3
    have rpf4 := fun g : Later W2 => (rp.later g).free 4
    have rpl := fun g : Later W2 => (rp.later g).lt
    simp at rpc0 rpc1 rpc2 rpc3 rpc4
    have rbc0 := fun g : Later W2 => (rb.later g).cell 0
    have rbc1 := fun g : Later W2 => (rb.later g).cell 1
    have rbc2 := fun g : Later W2 => (rb.later g).cell 2
    have rbc3 := fun g : Later W2 => (rb.later g).cell 3
    have rbc4 := fun g : Later W2 => (rb.later g).cell 4
    have rbf0 := fun g : Later W2 => (rb.later g).free 0
    have rbf1 := fun g : Later W2 => (rb.later g).free 1
    have rbf2 := fun g : Later W2 => (rb.later g).free 2
    have rbf3 := fun g : Later W2 => (rb.later g).free 3
    have rbf4 := fun g : Later W2 => (rb.later g).free 4
    have rbl := fun g : Later W2 => (rb.later g).lt
    simp at rbc0 rbc1 rbc2 rbc3 rbc4
    have rsc0 := fun g : Later W2 => (rs.later g).cell 0
    have rsc1 := fun g : Later W2 => (rs.later g).cell 1
    have rsc2 := fun g : Later W2 => (rs.later g).cell 2
    have rsc3 := fun g : Later W2 => (rs.later g).cell 3
    have rsc4 := fun g : Later W2 => (rs.later g).cell 4
    have rsc5 := fun g : Later W2 => (rs.later g).cell 5
    have rsf0 := fun g : Later W2 => (rs.later g).free 0
    have rsf1 := fun g : Later W2 => (rs.later g).free 1
    have rsf2 := fun g : Later W2 => (rs.later g).free 2
    have rsf3 := fun g : Later W2 => (rs.later g).free 3
    have rsf4 := fun g : Later W2 => (rs.later g).free 4
    have rsf5 := fun g : Later W2 => (rs.later g).free 5
    have rsl := fun g : Later W2 => (rs.later g).lt
    simp at rsc0 rsc1 rsc2 rsc3 rsc4 rsc5
    have rcc0 := fun g : Later W2 => (rc.later g).cell 0
    have rcc1 := fun g : Later W2 => (rc.later g).cell 1
    have rcc2 := fun g : Later W2 => (rc.later g).cell 2
    have rcc3 := fun g : Later W2 => (rc.later g).cell 3
    have rcc4 := fun g : Later W2 => (rc.later g).cell 4
    have rcf0 := fun g : Later W2 => (rc.later g).free 0
    have rcf1 := fun g : Later W2 => (rc.later g).free 1
    have rcf2 := fun g : Later W2 => (rc.later g).free 2
    have rcf3 := fun g : Later W2 => (rc.later g).free 3
    have rcf4 := fun g : Later W2 => (rc.later g).free 4
    have rcl := fun g : Later W2 => (rc.later g).lt
    simp at rcc0 rcc1 rcc2 rcc3 rcc4
    refine Later.tail 7 (by kernel_rfl) (by kernel_rfl) ?_
    simp only [List.take_succ_cons, List.take_zero, List.drop_succ_cons, List.drop_zero]
    repeat (first | go_big_quiet_skip | (go_big_quiet_want; go_big_quiet_op; first | go_big_quiet_on | (apply Exists.intro; refine ⟨fun g_ => ?_, ?_⟩; (focus (first | (go_at_call 64; with_reducible exact Later.call (f_need a c e d p _ (hx.later (Kept.drop hk g_.ok) (Nat.le_refl _)) hc hM (hy.later (Kept.drop hk g_.ok) (Nat.le_refl _)) hd hN h1 h2 hp)))); go_big_quiet_on)))
    refine wpQuiet_nil ?_
    intro gg
    have rp2 := rp.later gg
    have rb2 := rb.later gg
    have rs2 := rs.later gg
    have rc2 := rc.later gg
    have hkg := Kept.drop hk gg.ok
    have hT2 := hT.below (gg.ok.mono hBW)
    clear rpc0 rpf0 rpc1 rpf1 rpc2 rpf2 rpc3 rpf3 rpc4 rpf4 rbc0 rbf0 rbc1 rbf1 rbc2 rbf2 rbc3 rbf3 rbc4 rbf4 rsc0 rsf0 rsc1 rsf1 rsc2 rsf2 rsc3 rsf3 rsc4 rsf4 rsc5 rsf5 rcc0 rcf0 rcc1 rcf1 rcc2 rcf2 rcc3 rcf3 rcc4 rcf4 rpl rbl rsl rcl
    refine wpList_plain rfl fun K1 hK1 => ?_
    go_simp
    refine hK1 _ _ ?_
    go_upto_region 12 with fail
    have hgs := gg.ok.size
    refine at_world (S := fun V => Table V B M ∧ Blk V w.heap.size #[.slice a p.axes.length c, .int .i64 p.people, .int .i64 p.most, .slice e p.pulls.length d, .int .i64 p.cross] 45 ∧ Blk V (w.heap.size + 1) #[.int .u8 b.ship, .int .i64 b.axis, .int .i64 b.held, .bool b.wire, .bool b.opn] 59 ∧ Blk V (w.heap.size + 1 + 1) #[.int .u8 s.act.kind, .int .i64 s.act.n, .int .i64 s.wind.xlo, .int .i64 s.wind.xhi, .int .i64 s.wind.ylo, .int .i64 s.wind.yhi] 63 ∧ Blk V (w.heap.size + 1 + 1 + 1) #[.int .u8 0, .int .i64 0, .int .i64 0, .bool false, .bool false] 59 ∧ Blk V gg.val.heap.size (dockCells a c e d p (⟨b, needP p, s.wind, 0⟩ : Dock)) 126 ∧ Row Axis.cells 2 gg.val.heap.size V a p.axes ∧ Kept w V) ⟨hT2.below (Below.alloc (Below.refl _ _) (Nat.le_trans hBW hgs) _), by (exact blk), by (exact blk), by (exact blk), by (exact blk), by (exact blkc), ((hx.keep hkg (Nat.le_refl _)).up hkg.size).keep (Below.alloc (Below.refl _ _) (Nat.le_refl _) _) (Nat.le_refl _), by (exact kpt)⟩ ?_
    have hBn0 : B ≤ gg.val.heap.size := Nat.le_trans hBW hgs
    have hcn0 : (w.heap.size + 1 + 1 + 1) < gg.val.heap.size := rc2.lt
    obtain ⟨nD, hnD⟩ : ∃ n, n = gg.val.heap.size := ⟨_, rfl⟩
    rw [← hnD] at hBn0 hcn0 ⊢
    have hwn : w.heap.size ≤ nD := by rw [hnD]; exact hkg.size
    clear hnD rp rb rs rc rp2 rb2 rs2 rc2 hT hT2 hkg hk gg hgs
    rintro W3 ⟨hT, rp, rb, rs, rc, rd, hxn, hk⟩
    have hBn := hBn0
    have rpc0 := rp.cell 0
    have rpc1 := rp.cell 1
    have rpc2 := rp.cell 2
    have rpc3 := rp.cell 3
    have rpc4 := rp.cell 4
    have rpf0 := rp.free 0
    have rpf1 := rp.free 1
    have rpf2 := rp.free 2
    have rpf3 := rp.free 3
    have rpf4 := rp.free 4
    have rpl := rp.lt
    simp at rpc0 rpc1 rpc2 rpc3 rpc4
    have rbc0 := rb.cell 0
    have rbc1 := rb.cell 1
    have rbc2 := rb.cell 2
    have rbc3 := rb.cell 3
    have rbc4 := rb.cell 4
    have rbf0 := rb.free 0
    have rbf1 := rb.free 1
    have rbf2 := rb.free 2
    have rbf3 := rb.free 3
    have rbf4 := rb.free 4
    have rbl := rb.lt
    simp at rbc0 rbc1 rbc2 rbc3 rbc4
    have rsc0 := rs.cell 0
    have rsc1 := rs.cell 1
    have rsc2 := rs.cell 2
    have rsc3 := rs.cell 3
    have rsc4 := rs.cell 4
    have rsc5 := rs.cell 5
    have rsf0 := rs.free 0
    have rsf1 := rs.free 1
    have rsf2 := rs.free 2
    have rsf3 := rs.free 3
    have rsf4 := rs.free 4
    have rsf5 := rs.free 5
    have rsl := rs.lt
    simp at rsc0 rsc1 rsc2 rsc3 rsc4 rsc5
    have rcc0 := rc.cell 0
    have rcc1 := rc.cell 1
    have rcc2 := rc.cell 2
    have rcc3 := rc.cell 3
    have rcc4 := rc.cell 4
    have rcf0 := rc.free 0
    have rcf1 := rc.free 1
    have rcf2 := rc.free 2
    have rcf3 := rc.free 3
    have rcf4 := rc.free 4
    have rcl := rc.lt
    simp at rcc0 rcc1 rcc2 rcc3 rcc4
    go_wp2_with (go_at_call 65; (with_reducible refine (f_try a c e d p (⟨b, needP p, s.wind, 0⟩ : Dock) nD s.act.kind s.act.n _ rd M B hT hBn hxn hp c2 hax ht).mono ?_); rw [show tryR p { (⟨b, needP p, s.wind, 0⟩ : Dock) with n := s.act.n } s.act.kind = R from HR.out]; rintro z w9 ⟨rfl, hyes, hnot, hb9⟩; have hk9 : Kept w w9 := Below.trans hk (hb9.mono hwn); have rc9 := rc.lower hb9 hcn0; have rc9c0 := rc9.cell 0; have rc9c1 := rc9.cell 1; have rc9c2 := rc9.cell 2; have rc9c3 := rc9.cell 3; have rc9c4 := rc9.cell 4; have rc9f0 := rc9.free 0; have rc9f1 := rc9.free 1; have rc9f2 := rc9.free 2; have rc9f3 := rc9.free 3; have rc9f4 := rc9.free 4; have rc9l := rc9.lt; simp at rc9c0 rc9c1 rc9c2 rc9c3 rc9c4)
    exact bodyPost_ret (v := .tuple #[.agg #[.int .u8 noBerth.ship, .int .i64 noBerth.axis, .int .i64 noBerth.held, .bool noBerth.wire, .bool noBerth.opn], .int .i64 R, .int .i64 74]) (by first | (simp [results, Try.results23, go_sem, noBerth, rc9c0, rc9c1, rc9c2, rc9c3, rc9c4, rc9l]; done) | (simp [results, Try.results23, go_sem, noBerth, rc9c0, rc9c1, rc9c2, rc9c3, rc9c4, rc9l]; rfl)) rfl ⟨rfl, by (exact kpt)⟩
theorem f_Do (a : Option Addr) (c : Nat) (e : Option Addr) (d : Nat) (p : Port) (w : World) (hx : Row Axis.cells 2 w.heap.size w a p.axes) (hc : p.axes.length ≤ c) (hM : c ≤ maxLen) (hy : Row Span.cells 2 w.heap.size w e p.pulls) (hd : p.pulls.length ≤ d) (hN : d ≤ maxLen) (h1 : p.axes.length ≤ 1000000) (h2 : p.pulls.length ≤ 1000000) (b : Berth) (hs0 : 0 ≤ b.ship) (s : Step) (hk0 : 0 ≤ s.act.kind ∧ s.act.kind ≤ 255) :
    Calls Try.prog 23 #[.agg #[.slice a p.axes.length c, .int .i64 p.people, .int .i64 p.most, .slice e p.pulls.length d, .int .i64 p.cross], .agg #[.int .u8 b.ship, .int .i64 b.axis, .int .i64 b.held, .bool b.wire, .bool b.opn], .agg #[.int .u8 s.act.kind, .int .i64 s.act.n, .int .i64 s.wind.xlo, .int .i64 s.wind.xhi, .int .i64 s.wind.ylo, .int .i64 s.wind.yhi]] w fun z w' => z = .returned (.tuple #[.agg #[.int .u8 (doB p b s).ship, .int .i64 (doB p b s).axis, .int .i64 (doB p b s).held, .bool (doB p b s).wire, .bool (doB p b s).opn], .int .i64 (doRule p b s), .int .i64 (doE p b s)]) ∧ Kept w w' := by
  by_cases h : doErr p b s = 0
  · exact f_Do_ok a c e d p w hx hc hM hy hd hN h1 h2 b hs0 s hk0 h
  · exact f_Do_bad a c e d p w hx hc hM hy hd hN h1 h2 b hs0 s hk0 h

end Go.Proofs.Ytacbkbilbmkjnaa

/-
  Rules, in the reference.
-/
namespace Go.Proofs.Ytacbkbilbmkjnaa
open Go.RowKit Bal Bal.Trim Bal.Mast
set_option linter.unusedVariables false
set_option linter.unusedSimpArgs false
set_option maxHeartbeats 4000000
set_option maxRecDepth 10000

theorem beq_dec (x y : Int) : (x == y) = decide (x = y) := rfl
theorem bne_dec (x y : Int) : (x != y) = decide (¬ x = y) := by unfold bne; rw [beq_dec]; simp
theorem r_rules (a : Option Addr) (c : Nat) (e : Option Addr) (d : Nat) (p : Port) (w : World) (hx : Row Axis.cells 2 w.heap.size w a p.axes) (hc : p.axes.length ≤ c) (hM : c ≤ maxLen) (hy : Row Span.cells 2 w.heap.size w e p.pulls) (hd : p.pulls.length ≤ d) (hN : d ≤ maxLen) (h1 : p.axes.length ≤ 1000000) (h2 : p.pulls.length ≤ 1000000) (b : Berth) (hs0 : 0 ≤ b.ship) (s : Step) (hk0 : 0 ≤ s.act.kind ∧ s.act.kind ≤ 255) (hp : portB p = true) (hb : berthB p b = true) (hw : windB s.wind = true) (ht : 1 ≤ s.act.kind ∧ s.act.kind ≤ 13) :
    Calls Try.prog 66 #[.agg #[.slice a p.axes.length c, .int .i64 p.people, .int .i64 p.most, .slice e p.pulls.length d, .int .i64 p.cross], .agg #[.int .u8 b.ship, .int .i64 b.axis, .int .i64 b.held, .bool b.wire, .bool b.opn], .agg #[.int .u8 s.act.kind, .int .i64 s.act.n, .int .i64 s.wind.xlo, .int .i64 s.wind.xhi, .int .i64 s.wind.ylo, .int .i64 s.wind.yhi]] w fun z w' => ∃ g, z = .returned (.slice (some ⟨g, 0, none⟩) (rulesOf p (dockOf p b s) s.act.kind).length (rulesOf p (dockOf p b s) s.act.kind).length) ∧ Blk w' g ((rulesOf p (dockOf p b s) s.act.kind).map Value.bool).toArray 4 ∧ Kept w w' := by
  have hM' := hM
  have hN' := hN
  unfold maxLen at hM' hN'
  have hbd := portB_bd hp
  have hnd := needP_bd hp
  have u1 : IntKind.i64.wrap ((p.axes.length : Int) - 1) = (p.axes.length : Int) - 1 := by rw [IntKind.wrap_i64]; omega
  obtain ⟨hs5, ⟨ha1, ha2⟩, _⟩ := berth_parts hb
  go_enter Try.func66, Try.ntmps66
  go_upto_region 1 with fail
  refine at_world (S := fun V => Blk V w.heap.size #[.slice a p.axes.length c, .int .i64 p.people, .int .i64 p.most, .slice e p.pulls.length d, .int .i64 p.cross] 45 ∧ Blk V (w.heap.size + 1) #[.int .u8 b.ship, .int .i64 b.axis, .int .i64 b.held, .bool b.wire, .bool b.opn] 59 ∧ Blk V (w.heap.size + 1 + 1) #[.int .u8 s.act.kind, .int .i64 s.act.n, .int .i64 s.wind.xlo, .int .i64 s.wind.xhi, .int .i64 s.wind.ylo, .int .i64 s.wind.yhi] 63 ∧ Kept w V) ⟨by (exact blk), by (exact blk), by (exact blk), by (exact kpt)⟩ ?_
  rintro W ⟨rp, rb, rs, hk⟩
  obtain ⟨i, hi⟩ := Int.eq_ofNat_of_zero_le ha1
  have hil : i < p.axes.length := by omega
  have hqt : calmS s.wind p.axes[i] p.cross = quiet p (dockOf p b s) := by unfold quiet dockOf; simp only; rw [hi]; simp [hil]
  obtain ⟨_, _, hax⟩ := turnable_parts (portB_parts hp).1
  have hab := hax _ (List.getElem_mem hil)
  obtain ⟨bb, off, hae, hbb, g0, g1⟩ := Axis.row (hx.later hk (Nat.le_refl _)) i hil
  obtain ⟨X, hX⟩ : ∃ X, X = p.axes[i] := ⟨_, rfl⟩
  rw [← hX] at hab g0 g1 hqt
  have HW := Lib.hid hw
  have HA := Lib.hid hab
  have HM := Lib.hid (portB_parts hp).2.2.2.2
  have hrb := rb
  have hrp := rp
  rw [hi] at rb
  rw [hae] at rp
  have x0 := fun g : Later W => g.some g0
  have x1 := fun g : Later W => g.some g1
  have i0 : (0 : Int) ≤ (i : Int) := by omega
  have i1 : (i : Int) < (p.axes.length : Int) := by omega
  have rpc0 := fun g : Later W => (rp.later g).cell 0
  have rpc1 := fun g : Later W => (rp.later g).cell 1
  have rpc2 := fun g : Later W => (rp.later g).cell 2
  have rpc3 := fun g : Later W => (rp.later g).cell 3
  have rpc4 := fun g : Later W => (rp.later g).cell 4
  have rpf0 := fun g : Later W => (rp.later g).free 0
  have rpf1 := fun g : Later W => (rp.later g).free 1
  have rpf2 := fun g : Later W => (rp.later g).free 2
  have rpf3 := fun g : Later W => (rp.later g).free 3
  have rpf4 := fun g : Later W => (rp.later g).free 4
  have rpl := fun g : Later W => (rp.later g).lt
  simp at rpc0 rpc1 rpc2 rpc3 rpc4
  have rbc0 := fun g : Later W => (rb.later g).cell 0
  have rbc1 := fun g : Later W => (rb.later g).cell 1
  have rbc2 := fun g : Later W => (rb.later g).cell 2
  have rbc3 := fun g : Later W => (rb.later g).cell 3
  have rbc4 := fun g : Later W => (rb.later g).cell 4
  have rbf0 := fun g : Later W => (rb.later g).free 0
  have rbf1 := fun g : Later W => (rb.later g).free 1
  have rbf2 := fun g : Later W => (rb.later g).free 2
  have rbf3 := fun g : Later W => (rb.later g).free 3
  have rbf4 := fun g : Later W => (rb.later g).free 4
  have rbl := fun g : Later W => (rb.later g).lt
  simp at rbc0 rbc1 rbc2 rbc3 rbc4
  have rsc0 := fun g : Later W => (rs.later g).cell 0
  have rsc1 := fun g : Later W => (rs.later g).cell 1
  have rsc2 := fun g : Later W => (rs.later g).cell 2
  have rsc3 := fun g : Later W => (rs.later g).cell 3
  have rsc4 := fun g : Later W => (rs.later g).cell 4
  have rsc5 := fun g : Later W => (rs.later g).cell 5
  have rsf0 := fun g : Later W => (rs.later g).free 0
  have rsf1 := fun g : Later W => (rs.later g).free 1
  have rsf2 := fun g : Later W => (rs.later g).free 2
  have rsf3 := fun g : Later W => (rs.later g).free 3
  have rsf4 := fun g : Later W => (rs.later g).free 4
  have rsf5 := fun g : Later W => (rs.later g).free 5
  have rsl := fun g : Later W => (rs.later g).lt
  simp at rsc0 rsc1 rsc2 rsc3 rsc4 rsc5
  have HI := Lib.hid hi
  have HAE := Lib.hid hae
  clear hX hi hae hax hab
  refine Later.region (by kernel_rfl) (by kernel_rfl) ?_
  repeat (first | go_big_quiet_skip | (go_big_quiet_want; go_big_quiet_op; first | go_big_quiet_on | (apply Exists.intro; refine ⟨fun g => ?_, ?_⟩; (focus (first | (go_at_call 54; with_reducible exact Later.call (r_calm s.wind X p.cross _ HW.out HA.out HM.out)))); go_big_quiet_on)))
  refine wpQuiet_nil ?_
  intro gg
  rw [hqt]
  have rs2 := rs.later gg
  have rp2 := hrp.later gg
  have rb2 := hrb.later gg
  have hkg := Kept.drop hk gg.ok
  obtain ⟨Q, hQ⟩ : ∃ Q, Q = quiet p (dockOf p b s) := ⟨_, rfl⟩
  rw [← hQ]
  clear rp rb rs hk hrb hrp hqt rpc0 rpf0 rpc1 rpf1 rpc2 rpf2 rpc3 rpf3 rpc4 rpf4 rbc0 rbf0 rbc1 rbf1 rbc2 rbf2 rbc3 rbf3 rbc4 rbf4 rsc0 rsf0 rsc1 rsf1 rsc2 rsf2 rsc3 rsf3 rsc4 rsf4 rsc5 rsf5 rpl rbl rsl x0 x1 g0 g1 hbb i0 i1 HI HAE HA
  go_upto_region 2 with fail
  refine at_world (S := fun V => Blk V w.heap.size #[.slice a p.axes.length c, .int .i64 p.people, .int .i64 p.most, .slice e p.pulls.length d, .int .i64 p.cross] 45 ∧ Blk V (w.heap.size + 1) #[.int .u8 b.ship, .int .i64 b.axis, .int .i64 b.held, .bool b.wire, .bool b.opn] 59 ∧ Blk V (w.heap.size + 1 + 1) #[.int .u8 s.act.kind, .int .i64 s.act.n, .int .i64 s.wind.xlo, .int .i64 s.wind.xhi, .int .i64 s.wind.ylo, .int .i64 s.wind.yhi] 63 ∧ Kept w V) ⟨by (exact blk), by (exact blk), by (exact blk), by (exact kpt)⟩ ?_
  clear rp2 rb2 rs2 hkg gg
  rintro W2 ⟨rp, rb, rs, hk⟩
  have HQ := Lib.hid hQ
  rcases (by omega : s.act.kind = 1 ∨ s.act.kind = 2 ∨ s.act.kind = 3 ∨ s.act.kind = 4 ∨ s.act.kind = 5 ∨ s.act.kind = 6 ∨ s.act.kind = 7 ∨ s.act.kind = 8 ∨ s.act.kind = 9 ∨ s.act.kind = 10 ∨ s.act.kind = 11 ∨ s.act.kind = 12 ∨ s.act.kind = 13) with hkd | hkd | hkd | hkd | hkd | hkd | hkd | hkd | hkd | hkd | hkd | hkd | hkd
  all_goals
    rw [hkd] at rs
    have rpc0 := rp.cell 0
    have rpc1 := rp.cell 1
    have rpc2 := rp.cell 2
    have rpc3 := rp.cell 3
    have rpc4 := rp.cell 4
    have rpf0 := rp.free 0
    have rpf1 := rp.free 1
    have rpf2 := rp.free 2
    have rpf3 := rp.free 3
    have rpf4 := rp.free 4
    have rpl := rp.lt
    simp at rpc0 rpc1 rpc2 rpc3 rpc4
    have rbc0 := rb.cell 0
    have rbc1 := rb.cell 1
    have rbc2 := rb.cell 2
    have rbc3 := rb.cell 3
    have rbc4 := rb.cell 4
    have rbf0 := rb.free 0
    have rbf1 := rb.free 1
    have rbf2 := rb.free 2
    have rbf3 := rb.free 3
    have rbf4 := rb.free 4
    have rbl := rb.lt
    simp at rbc0 rbc1 rbc2 rbc3 rbc4
    have rsc0 := rs.cell 0
    have rsc1 := rs.cell 1
    have rsc2 := rs.cell 2
    have rsc3 := rs.cell 3
    have rsc4 := rs.cell 4
    have rsc5 := rs.cell 5
    have rsf0 := rs.free 0
    have rsf1 := rs.free 1
    have rsf2 := rs.free 2
    have rsf3 := rs.free 3
    have rsf4 := rs.free 4
    have rsf5 := rs.free 5
    have rsl := rs.lt
    simp at rsc0 rsc1 rsc2 rsc3 rsc4 rsc5
  · go_wp2
    refine bodyPost_ret (v := .slice (some ⟨W2.heap.size, 0, none⟩) (rulesOf p (dockOf p b s) s.act.kind).length (rulesOf p (dockOf p b s) s.act.kind).length) (by simp [results, Try.results66, go_sem, hkd, rulesOf]) rfl ⟨W2.heap.size, rfl, ?_, by (exact kpt)⟩
    (refine Blk.cast (arr := ?_) ?_ ?_; rotate_left 1; (focus (exact blk)); (first | rfl | (simp [hkd, rulesOf, away, lined, masted, walking, housed, fast, reached, tied, gripped, loose, wired, bare, opened, shut, still, crew, elsewhere, dockOf, beq_dec, bne_dec]; done) | (simp [hkd, rulesOf, away, lined, masted, walking, housed, fast, reached, tied, gripped, loose, wired, bare, opened, shut, still, crew, elsewhere, dockOf, beq_dec, bne_dec]; rfl) | (simp [hkd, rulesOf, away, lined, masted, walking, housed, fast, reached, tied, gripped, loose, wired, bare, opened, shut, still, crew, elsewhere, dockOf, beq_dec, bne_dec, *]; done) | (simp [hkd, rulesOf, away, lined, masted, walking, housed, fast, reached, tied, gripped, loose, wired, bare, opened, shut, still, crew, elsewhere, dockOf, beq_dec, bne_dec, *]; rfl) | (simp [hkd, rulesOf, away, lined, masted, walking, housed, fast, reached, tied, gripped, loose, wired, bare, opened, shut, still, crew, elsewhere, dockOf, beq_dec, bne_dec]; (repeat (refine ⟨?_, ?_⟩)); all_goals rfl) | (by_cases hq : s.act.n = b.axis <;> (simp [rulesOf, elsewhere, shut, dockOf, hkd, hq, *]; done))))
  · go_upto_region 6 with fail
    refine at_world (S := fun V => Blk V w.heap.size #[.slice a p.axes.length c, .int .i64 p.people, .int .i64 p.most, .slice e p.pulls.length d, .int .i64 p.cross] 45 ∧ Blk V (w.heap.size + 1) #[.int .u8 b.ship, .int .i64 b.axis, .int .i64 b.held, .bool b.wire, .bool b.opn] 59 ∧ Blk V (w.heap.size + 1 + 1) #[.int .u8 2, .int .i64 s.act.n, .int .i64 s.wind.xlo, .int .i64 s.wind.xhi, .int .i64 s.wind.ylo, .int .i64 s.wind.yhi] 63 ∧ Kept w V) ⟨by (exact blk), by (exact blk), by (exact blk), by (exact kpt)⟩ ?_
    clear rp rb rs hk rpc0 rpf0 rpc1 rpf1 rpc2 rpf2 rpc3 rpf3 rpc4 rpf4 rbc0 rbf0 rbc1 rbf1 rbc2 rbf2 rbc3 rbf3 rbc4 rbf4 rsc0 rsf0 rsc1 rsf1 rsc2 rsf2 rsc3 rsf3 rsc4 rsf4 rsc5 rsf5 rpl rbl rsl
    rintro W ⟨rp, rb, rs, hk⟩
    obtain ⟨V, hV⟩ : ∃ V, inB s.act.n (needP p) p.people = V := ⟨_, rfl⟩
    have HV4 := Lib.hid hV
    rcases (by omega : b.ship = 0 ∨ b.ship = 1 ∨ b.ship = 2 ∨ b.ship = 3 ∨ b.ship = 4 ∨ b.ship = 5) with he | he | he | he | he | he
    all_goals
      rw [he] at rb
      have rpc0 := fun g : Later W => (rp.later g).cell 0
      have rpc1 := fun g : Later W => (rp.later g).cell 1
      have rpc2 := fun g : Later W => (rp.later g).cell 2
      have rpc3 := fun g : Later W => (rp.later g).cell 3
      have rpc4 := fun g : Later W => (rp.later g).cell 4
      have rpf0 := fun g : Later W => (rp.later g).free 0
      have rpf1 := fun g : Later W => (rp.later g).free 1
      have rpf2 := fun g : Later W => (rp.later g).free 2
      have rpf3 := fun g : Later W => (rp.later g).free 3
      have rpf4 := fun g : Later W => (rp.later g).free 4
      have rpl := fun g : Later W => (rp.later g).lt
      simp at rpc0 rpc1 rpc2 rpc3 rpc4
      have rbc0 := fun g : Later W => (rb.later g).cell 0
      have rbc1 := fun g : Later W => (rb.later g).cell 1
      have rbc2 := fun g : Later W => (rb.later g).cell 2
      have rbc3 := fun g : Later W => (rb.later g).cell 3
      have rbc4 := fun g : Later W => (rb.later g).cell 4
      have rbf0 := fun g : Later W => (rb.later g).free 0
      have rbf1 := fun g : Later W => (rb.later g).free 1
      have rbf2 := fun g : Later W => (rb.later g).free 2
      have rbf3 := fun g : Later W => (rb.later g).free 3
      have rbf4 := fun g : Later W => (rb.later g).free 4
      have rbl := fun g : Later W => (rb.later g).lt
      simp at rbc0 rbc1 rbc2 rbc3 rbc4
      have rsc0 := fun g : Later W => (rs.later g).cell 0
      have rsc1 := fun g : Later W => (rs.later g).cell 1
      have rsc2 := fun g : Later W => (rs.later g).cell 2
      have rsc3 := fun g : Later W => (rs.later g).cell 3
      have rsc4 := fun g : Later W => (rs.later g).cell 4
      have rsc5 := fun g : Later W => (rs.later g).cell 5
      have rsf0 := fun g : Later W => (rs.later g).free 0
      have rsf1 := fun g : Later W => (rs.later g).free 1
      have rsf2 := fun g : Later W => (rs.later g).free 2
      have rsf3 := fun g : Later W => (rs.later g).free 3
      have rsf4 := fun g : Later W => (rs.later g).free 4
      have rsf5 := fun g : Later W => (rs.later g).free 5
      have rsl := fun g : Later W => (rs.later g).lt
      simp at rsc0 rsc1 rsc2 rsc3 rsc4 rsc5
      refine Later.tail 24 (by kernel_rfl) (by kernel_rfl) ?_
      simp only [List.take_succ_cons, List.take_zero, List.drop_succ_cons, List.drop_zero]
      repeat (first | go_big_quiet_skip | (go_big_quiet_want; go_big_quiet_op; first | go_big_quiet_on | (apply Exists.intro; refine ⟨fun g => ?_, ?_⟩; (focus (first | (go_at_call 77; with_reducible exact Later.call (r_Need a c e d p _ (hx.later (Kept.drop hk g.ok) (Nat.le_refl _)) hc hM (hy.later (Kept.drop hk g.ok) (Nat.le_refl _)) hd hN h1 h2 hp)) | (go_at_call 53; with_reducible exact Later.call (r_withinK s.act.n (needP p) p.people _ _ HV4.out)))); go_big_quiet_on)))
      refine wpQuiet_nil ?_
      intro gg
      have hkg := Kept.drop hk gg.ok
      clear rp rb rs rpc0 rpf0 rpc1 rpf1 rpc2 rpf2 rpc3 rpf3 rpc4 rpf4 rbc0 rbf0 rbc1 rbf1 rbc2 rbf2 rbc3 rbf3 rbc4 rbf4 rsc0 rsf0 rsc1 rsf1 rsc2 rsf2 rsc3 rsf3 rsc4 rsf4 rsc5 rsf5 rpl rbl rsl
      go_wp2
      refine bodyPost_ret (v := .slice (some ⟨gg.val.heap.size, 0, none⟩) (rulesOf p (dockOf p b s) s.act.kind).length (rulesOf p (dockOf p b s) s.act.kind).length) (by simp [results, Try.results66, go_sem, hkd, rulesOf]) rfl ⟨gg.val.heap.size, rfl, ?_, by (exact kpt)⟩
      (refine Blk.cast (arr := ?_) ?_ ?_; rotate_left 1; (focus (exact blk)); (first | rfl | (simp [hkd, rulesOf, away, lined, masted, walking, housed, fast, reached, tied, gripped, loose, wired, bare, opened, shut, still, crew, elsewhere, dockOf, beq_dec, bne_dec]; done) | (simp [hkd, rulesOf, away, lined, masted, walking, housed, fast, reached, tied, gripped, loose, wired, bare, opened, shut, still, crew, elsewhere, dockOf, beq_dec, bne_dec]; rfl) | (simp [hkd, rulesOf, away, lined, masted, walking, housed, fast, reached, tied, gripped, loose, wired, bare, opened, shut, still, crew, elsewhere, dockOf, beq_dec, bne_dec, *]; done) | (simp [hkd, rulesOf, away, lined, masted, walking, housed, fast, reached, tied, gripped, loose, wired, bare, opened, shut, still, crew, elsewhere, dockOf, beq_dec, bne_dec, *]; rfl) | (simp [hkd, rulesOf, away, lined, masted, walking, housed, fast, reached, tied, gripped, loose, wired, bare, opened, shut, still, crew, elsewhere, dockOf, beq_dec, bne_dec]; (repeat (refine ⟨?_, ?_⟩)); all_goals rfl) | (by_cases hq : s.act.n = b.axis <;> (simp [rulesOf, elsewhere, shut, dockOf, hkd, hq, *]; done))))
  · refine at_world (S := fun V => Blk V w.heap.size #[.slice a p.axes.length c, .int .i64 p.people, .int .i64 p.most, .slice e p.pulls.length d, .int .i64 p.cross] 45 ∧ Blk V (w.heap.size + 1) #[.int .u8 b.ship, .int .i64 b.axis, .int .i64 b.held, .bool b.wire, .bool b.opn] 59 ∧ Blk V (w.heap.size + 1 + 1) #[.int .u8 3, .int .i64 s.act.n, .int .i64 s.wind.xlo, .int .i64 s.wind.xhi, .int .i64 s.wind.ylo, .int .i64 s.wind.yhi] 63 ∧ Kept w V) ⟨by (exact blk), by (exact blk), by (exact blk), by (exact kpt)⟩ ?_
    clear rp rb rs hk rpc0 rpf0 rpc1 rpf1 rpc2 rpf2 rpc3 rpf3 rpc4 rpf4 rbc0 rbf0 rbc1 rbf1 rbc2 rbf2 rbc3 rbf3 rbc4 rbf4 rsc0 rsf0 rsc1 rsf1 rsc2 rsf2 rsc3 rsf3 rsc4 rsf4 rsc5 rsf5 rpl rbl rsl
    rintro W ⟨rp, rb, rs, hk⟩
    rcases (by omega : b.ship = 0 ∨ b.ship = 1 ∨ b.ship = 2 ∨ b.ship = 3 ∨ b.ship = 4 ∨ b.ship = 5) with he | he | he | he | he | he
    all_goals
      rw [he] at rb
      have rpc0 := rp.cell 0
      have rpc1 := rp.cell 1
      have rpc2 := rp.cell 2
      have rpc3 := rp.cell 3
      have rpc4 := rp.cell 4
      have rpf0 := rp.free 0
      have rpf1 := rp.free 1
      have rpf2 := rp.free 2
      have rpf3 := rp.free 3
      have rpf4 := rp.free 4
      have rpl := rp.lt
      simp at rpc0 rpc1 rpc2 rpc3 rpc4
      have rbc0 := rb.cell 0
      have rbc1 := rb.cell 1
      have rbc2 := rb.cell 2
      have rbc3 := rb.cell 3
      have rbc4 := rb.cell 4
      have rbf0 := rb.free 0
      have rbf1 := rb.free 1
      have rbf2 := rb.free 2
      have rbf3 := rb.free 3
      have rbf4 := rb.free 4
      have rbl := rb.lt
      simp at rbc0 rbc1 rbc2 rbc3 rbc4
      have rsc0 := rs.cell 0
      have rsc1 := rs.cell 1
      have rsc2 := rs.cell 2
      have rsc3 := rs.cell 3
      have rsc4 := rs.cell 4
      have rsc5 := rs.cell 5
      have rsf0 := rs.free 0
      have rsf1 := rs.free 1
      have rsf2 := rs.free 2
      have rsf3 := rs.free 3
      have rsf4 := rs.free 4
      have rsf5 := rs.free 5
      have rsl := rs.lt
      simp at rsc0 rsc1 rsc2 rsc3 rsc4 rsc5
      go_wp2
      refine bodyPost_ret (v := .slice (some ⟨W.heap.size, 0, none⟩) (rulesOf p (dockOf p b s) s.act.kind).length (rulesOf p (dockOf p b s) s.act.kind).length) (by simp [results, Try.results66, go_sem, hkd, rulesOf]) rfl ⟨W.heap.size, rfl, ?_, by (exact kpt)⟩
      (refine Blk.cast (arr := ?_) ?_ ?_; rotate_left 1; (focus (exact blk)); (first | rfl | (simp [hkd, rulesOf, away, lined, masted, walking, housed, fast, reached, tied, gripped, loose, wired, bare, opened, shut, still, crew, elsewhere, dockOf, beq_dec, bne_dec]; done) | (simp [hkd, rulesOf, away, lined, masted, walking, housed, fast, reached, tied, gripped, loose, wired, bare, opened, shut, still, crew, elsewhere, dockOf, beq_dec, bne_dec]; rfl) | (simp [hkd, rulesOf, away, lined, masted, walking, housed, fast, reached, tied, gripped, loose, wired, bare, opened, shut, still, crew, elsewhere, dockOf, beq_dec, bne_dec, *]; done) | (simp [hkd, rulesOf, away, lined, masted, walking, housed, fast, reached, tied, gripped, loose, wired, bare, opened, shut, still, crew, elsewhere, dockOf, beq_dec, bne_dec, *]; rfl) | (simp [hkd, rulesOf, away, lined, masted, walking, housed, fast, reached, tied, gripped, loose, wired, bare, opened, shut, still, crew, elsewhere, dockOf, beq_dec, bne_dec]; (repeat (refine ⟨?_, ?_⟩)); all_goals rfl) | (by_cases hq : s.act.n = b.axis <;> (simp [rulesOf, elsewhere, shut, dockOf, hkd, hq, *]; done))))
  · go_wp2
    refine bodyPost_ret (v := .slice (some ⟨W2.heap.size, 0, none⟩) (rulesOf p (dockOf p b s) s.act.kind).length (rulesOf p (dockOf p b s) s.act.kind).length) (by simp [results, Try.results66, go_sem, hkd, rulesOf]) rfl ⟨W2.heap.size, rfl, ?_, by (exact kpt)⟩
    (refine Blk.cast (arr := ?_) ?_ ?_; rotate_left 1; (focus (exact blk)); (first | rfl | (simp [hkd, rulesOf, away, lined, masted, walking, housed, fast, reached, tied, gripped, loose, wired, bare, opened, shut, still, crew, elsewhere, dockOf, beq_dec, bne_dec]; done) | (simp [hkd, rulesOf, away, lined, masted, walking, housed, fast, reached, tied, gripped, loose, wired, bare, opened, shut, still, crew, elsewhere, dockOf, beq_dec, bne_dec]; rfl) | (simp [hkd, rulesOf, away, lined, masted, walking, housed, fast, reached, tied, gripped, loose, wired, bare, opened, shut, still, crew, elsewhere, dockOf, beq_dec, bne_dec, *]; done) | (simp [hkd, rulesOf, away, lined, masted, walking, housed, fast, reached, tied, gripped, loose, wired, bare, opened, shut, still, crew, elsewhere, dockOf, beq_dec, bne_dec, *]; rfl) | (simp [hkd, rulesOf, away, lined, masted, walking, housed, fast, reached, tied, gripped, loose, wired, bare, opened, shut, still, crew, elsewhere, dockOf, beq_dec, bne_dec]; (repeat (refine ⟨?_, ?_⟩)); all_goals rfl) | (by_cases hq : s.act.n = b.axis <;> (simp [rulesOf, elsewhere, shut, dockOf, hkd, hq, *]; done))))
  · go_wp2
    refine bodyPost_ret (v := .slice (some ⟨W2.heap.size, 0, none⟩) (rulesOf p (dockOf p b s) s.act.kind).length (rulesOf p (dockOf p b s) s.act.kind).length) (by simp [results, Try.results66, go_sem, hkd, rulesOf]) rfl ⟨W2.heap.size, rfl, ?_, by (exact kpt)⟩
    (refine Blk.cast (arr := ?_) ?_ ?_; rotate_left 1; (focus (exact blk)); (first | rfl | (simp [hkd, rulesOf, away, lined, masted, walking, housed, fast, reached, tied, gripped, loose, wired, bare, opened, shut, still, crew, elsewhere, dockOf, beq_dec, bne_dec]; done) | (simp [hkd, rulesOf, away, lined, masted, walking, housed, fast, reached, tied, gripped, loose, wired, bare, opened, shut, still, crew, elsewhere, dockOf, beq_dec, bne_dec]; rfl) | (simp [hkd, rulesOf, away, lined, masted, walking, housed, fast, reached, tied, gripped, loose, wired, bare, opened, shut, still, crew, elsewhere, dockOf, beq_dec, bne_dec, *]; done) | (simp [hkd, rulesOf, away, lined, masted, walking, housed, fast, reached, tied, gripped, loose, wired, bare, opened, shut, still, crew, elsewhere, dockOf, beq_dec, bne_dec, *]; rfl) | (simp [hkd, rulesOf, away, lined, masted, walking, housed, fast, reached, tied, gripped, loose, wired, bare, opened, shut, still, crew, elsewhere, dockOf, beq_dec, bne_dec]; (repeat (refine ⟨?_, ?_⟩)); all_goals rfl) | (by_cases hq : s.act.n = b.axis <;> (simp [rulesOf, elsewhere, shut, dockOf, hkd, hq, *]; done))))
  · go_wp2
    refine bodyPost_ret (v := .slice (some ⟨W2.heap.size, 0, none⟩) (rulesOf p (dockOf p b s) s.act.kind).length (rulesOf p (dockOf p b s) s.act.kind).length) (by simp [results, Try.results66, go_sem, hkd, rulesOf]) rfl ⟨W2.heap.size, rfl, ?_, by (exact kpt)⟩
    (refine Blk.cast (arr := ?_) ?_ ?_; rotate_left 1; (focus (exact blk)); (first | rfl | (simp [hkd, rulesOf, away, lined, masted, walking, housed, fast, reached, tied, gripped, loose, wired, bare, opened, shut, still, crew, elsewhere, dockOf, beq_dec, bne_dec]; done) | (simp [hkd, rulesOf, away, lined, masted, walking, housed, fast, reached, tied, gripped, loose, wired, bare, opened, shut, still, crew, elsewhere, dockOf, beq_dec, bne_dec]; rfl) | (simp [hkd, rulesOf, away, lined, masted, walking, housed, fast, reached, tied, gripped, loose, wired, bare, opened, shut, still, crew, elsewhere, dockOf, beq_dec, bne_dec, *]; done) | (simp [hkd, rulesOf, away, lined, masted, walking, housed, fast, reached, tied, gripped, loose, wired, bare, opened, shut, still, crew, elsewhere, dockOf, beq_dec, bne_dec, *]; rfl) | (simp [hkd, rulesOf, away, lined, masted, walking, housed, fast, reached, tied, gripped, loose, wired, bare, opened, shut, still, crew, elsewhere, dockOf, beq_dec, bne_dec]; (repeat (refine ⟨?_, ?_⟩)); all_goals rfl) | (by_cases hq : s.act.n = b.axis <;> (simp [rulesOf, elsewhere, shut, dockOf, hkd, hq, *]; done))))
  · go_wp2
    refine bodyPost_ret (v := .slice (some ⟨W2.heap.size, 0, none⟩) (rulesOf p (dockOf p b s) s.act.kind).length (rulesOf p (dockOf p b s) s.act.kind).length) (by simp [results, Try.results66, go_sem, hkd, rulesOf]) rfl ⟨W2.heap.size, rfl, ?_, by (exact kpt)⟩
    (refine Blk.cast (arr := ?_) ?_ ?_; rotate_left 1; (focus (exact blk)); (first | rfl | (simp [hkd, rulesOf, away, lined, masted, walking, housed, fast, reached, tied, gripped, loose, wired, bare, opened, shut, still, crew, elsewhere, dockOf, beq_dec, bne_dec]; done) | (simp [hkd, rulesOf, away, lined, masted, walking, housed, fast, reached, tied, gripped, loose, wired, bare, opened, shut, still, crew, elsewhere, dockOf, beq_dec, bne_dec]; rfl) | (simp [hkd, rulesOf, away, lined, masted, walking, housed, fast, reached, tied, gripped, loose, wired, bare, opened, shut, still, crew, elsewhere, dockOf, beq_dec, bne_dec, *]; done) | (simp [hkd, rulesOf, away, lined, masted, walking, housed, fast, reached, tied, gripped, loose, wired, bare, opened, shut, still, crew, elsewhere, dockOf, beq_dec, bne_dec, *]; rfl) | (simp [hkd, rulesOf, away, lined, masted, walking, housed, fast, reached, tied, gripped, loose, wired, bare, opened, shut, still, crew, elsewhere, dockOf, beq_dec, bne_dec]; (repeat (refine ⟨?_, ?_⟩)); all_goals rfl) | (by_cases hq : s.act.n = b.axis <;> (simp [rulesOf, elsewhere, shut, dockOf, hkd, hq, *]; done))))
  · go_wp2
    refine bodyPost_ret (v := .slice (some ⟨W2.heap.size, 0, none⟩) (rulesOf p (dockOf p b s) s.act.kind).length (rulesOf p (dockOf p b s) s.act.kind).length) (by simp [results, Try.results66, go_sem, hkd, rulesOf]) rfl ⟨W2.heap.size, rfl, ?_, by (exact kpt)⟩
    (refine Blk.cast (arr := ?_) ?_ ?_; rotate_left 1; (focus (exact blk)); (first | rfl | (simp [hkd, rulesOf, away, lined, masted, walking, housed, fast, reached, tied, gripped, loose, wired, bare, opened, shut, still, crew, elsewhere, dockOf, beq_dec, bne_dec]; done) | (simp [hkd, rulesOf, away, lined, masted, walking, housed, fast, reached, tied, gripped, loose, wired, bare, opened, shut, still, crew, elsewhere, dockOf, beq_dec, bne_dec]; rfl) | (simp [hkd, rulesOf, away, lined, masted, walking, housed, fast, reached, tied, gripped, loose, wired, bare, opened, shut, still, crew, elsewhere, dockOf, beq_dec, bne_dec, *]; done) | (simp [hkd, rulesOf, away, lined, masted, walking, housed, fast, reached, tied, gripped, loose, wired, bare, opened, shut, still, crew, elsewhere, dockOf, beq_dec, bne_dec, *]; rfl) | (simp [hkd, rulesOf, away, lined, masted, walking, housed, fast, reached, tied, gripped, loose, wired, bare, opened, shut, still, crew, elsewhere, dockOf, beq_dec, bne_dec]; (repeat (refine ⟨?_, ?_⟩)); all_goals rfl) | (by_cases hq : s.act.n = b.axis <;> (simp [rulesOf, elsewhere, shut, dockOf, hkd, hq, *]; done))))
  · go_upto_region 20 with fail
    refine at_world (S := fun V => Blk V w.heap.size #[.slice a p.axes.length c, .int .i64 p.people, .int .i64 p.most, .slice e p.pulls.length d, .int .i64 p.cross] 45 ∧ Blk V (w.heap.size + 1) #[.int .u8 b.ship, .int .i64 b.axis, .int .i64 b.held, .bool b.wire, .bool b.opn] 59 ∧ Blk V (w.heap.size + 1 + 1) #[.int .u8 9, .int .i64 s.act.n, .int .i64 s.wind.xlo, .int .i64 s.wind.xhi, .int .i64 s.wind.ylo, .int .i64 s.wind.yhi] 63 ∧ Kept w V) ⟨by (exact blk), by (exact blk), by (exact blk), by (exact kpt)⟩ ?_
    clear rp rb rs hk rpc0 rpf0 rpc1 rpf1 rpc2 rpf2 rpc3 rpf3 rpc4 rpf4 rbc0 rbf0 rbc1 rbf1 rbc2 rbf2 rbc3 rbf3 rbc4 rbf4 rsc0 rsf0 rsc1 rsf1 rsc2 rsf2 rsc3 rsf3 rsc4 rsf4 rsc5 rsf5 rpl rbl rsl
    rintro W ⟨rp, rb, rs, hk⟩
    cases hV : inB s.act.n 0 (p.axes.length - 1)
    all_goals
      have HV2 := Lib.hid hV
      have rpc0 := fun g : Later W => (rp.later g).cell 0
      have rpc1 := fun g : Later W => (rp.later g).cell 1
      have rpc2 := fun g : Later W => (rp.later g).cell 2
      have rpc3 := fun g : Later W => (rp.later g).cell 3
      have rpc4 := fun g : Later W => (rp.later g).cell 4
      have rpf0 := fun g : Later W => (rp.later g).free 0
      have rpf1 := fun g : Later W => (rp.later g).free 1
      have rpf2 := fun g : Later W => (rp.later g).free 2
      have rpf3 := fun g : Later W => (rp.later g).free 3
      have rpf4 := fun g : Later W => (rp.later g).free 4
      have rpl := fun g : Later W => (rp.later g).lt
      simp at rpc0 rpc1 rpc2 rpc3 rpc4
      have rbc0 := fun g : Later W => (rb.later g).cell 0
      have rbc1 := fun g : Later W => (rb.later g).cell 1
      have rbc2 := fun g : Later W => (rb.later g).cell 2
      have rbc3 := fun g : Later W => (rb.later g).cell 3
      have rbc4 := fun g : Later W => (rb.later g).cell 4
      have rbf0 := fun g : Later W => (rb.later g).free 0
      have rbf1 := fun g : Later W => (rb.later g).free 1
      have rbf2 := fun g : Later W => (rb.later g).free 2
      have rbf3 := fun g : Later W => (rb.later g).free 3
      have rbf4 := fun g : Later W => (rb.later g).free 4
      have rbl := fun g : Later W => (rb.later g).lt
      simp at rbc0 rbc1 rbc2 rbc3 rbc4
      have rsc0 := fun g : Later W => (rs.later g).cell 0
      have rsc1 := fun g : Later W => (rs.later g).cell 1
      have rsc2 := fun g : Later W => (rs.later g).cell 2
      have rsc3 := fun g : Later W => (rs.later g).cell 3
      have rsc4 := fun g : Later W => (rs.later g).cell 4
      have rsc5 := fun g : Later W => (rs.later g).cell 5
      have rsf0 := fun g : Later W => (rs.later g).free 0
      have rsf1 := fun g : Later W => (rs.later g).free 1
      have rsf2 := fun g : Later W => (rs.later g).free 2
      have rsf3 := fun g : Later W => (rs.later g).free 3
      have rsf4 := fun g : Later W => (rs.later g).free 4
      have rsf5 := fun g : Later W => (rs.later g).free 5
      have rsl := fun g : Later W => (rs.later g).lt
      simp at rsc0 rsc1 rsc2 rsc3 rsc4 rsc5
      refine Later.tail 19 (by kernel_rfl) (by kernel_rfl) ?_
      simp only [List.take_succ_cons, List.take_zero, List.drop_succ_cons, List.drop_zero]
      repeat (first | go_big_quiet_skip | (go_big_quiet_want; go_big_quiet_op; first | go_big_quiet_on | (apply Exists.intro; refine ⟨fun g => ?_, ?_⟩; (focus (first | (go_at_call 53; with_reducible exact Later.call (r_withinK s.act.n 0 (p.axes.length - 1) _ _ HV2.out)))); go_big_quiet_on)))
      refine wpQuiet_nil ?_
      intro gg
      have hkg := Kept.drop hk gg.ok
      clear rp rb rs rpc0 rpf0 rpc1 rpf1 rpc2 rpf2 rpc3 rpf3 rpc4 rpf4 rbc0 rbf0 rbc1 rbf1 rbc2 rbf2 rbc3 rbf3 rbc4 rbf4 rsc0 rsf0 rsc1 rsf1 rsc2 rsf2 rsc3 rsf3 rsc4 rsf4 rsc5 rsf5 rpl rbl rsl
      go_wp2
      refine bodyPost_ret (v := .slice (some ⟨gg.val.heap.size, 0, none⟩) (rulesOf p (dockOf p b s) s.act.kind).length (rulesOf p (dockOf p b s) s.act.kind).length) (by simp [results, Try.results66, go_sem, hkd, rulesOf]) rfl ⟨gg.val.heap.size, rfl, ?_, by (exact kpt)⟩
      (refine Blk.cast (arr := ?_) ?_ ?_; rotate_left 1; (focus (exact blk)); (first | rfl | (simp [hkd, rulesOf, away, lined, masted, walking, housed, fast, reached, tied, gripped, loose, wired, bare, opened, shut, still, crew, elsewhere, dockOf, beq_dec, bne_dec]; done) | (simp [hkd, rulesOf, away, lined, masted, walking, housed, fast, reached, tied, gripped, loose, wired, bare, opened, shut, still, crew, elsewhere, dockOf, beq_dec, bne_dec]; rfl) | (simp [hkd, rulesOf, away, lined, masted, walking, housed, fast, reached, tied, gripped, loose, wired, bare, opened, shut, still, crew, elsewhere, dockOf, beq_dec, bne_dec, *]; done) | (simp [hkd, rulesOf, away, lined, masted, walking, housed, fast, reached, tied, gripped, loose, wired, bare, opened, shut, still, crew, elsewhere, dockOf, beq_dec, bne_dec, *]; rfl) | (simp [hkd, rulesOf, away, lined, masted, walking, housed, fast, reached, tied, gripped, loose, wired, bare, opened, shut, still, crew, elsewhere, dockOf, beq_dec, bne_dec]; (repeat (refine ⟨?_, ?_⟩)); all_goals rfl) | (by_cases hq : s.act.n = b.axis <;> (simp [rulesOf, elsewhere, shut, dockOf, hkd, hq, *]; done))))
  · go_wp2
    refine bodyPost_ret (v := .slice (some ⟨W2.heap.size, 0, none⟩) (rulesOf p (dockOf p b s) s.act.kind).length (rulesOf p (dockOf p b s) s.act.kind).length) (by simp [results, Try.results66, go_sem, hkd, rulesOf]) rfl ⟨W2.heap.size, rfl, ?_, by (exact kpt)⟩
    (refine Blk.cast (arr := ?_) ?_ ?_; rotate_left 1; (focus (exact blk)); (first | rfl | (simp [hkd, rulesOf, away, lined, masted, walking, housed, fast, reached, tied, gripped, loose, wired, bare, opened, shut, still, crew, elsewhere, dockOf, beq_dec, bne_dec]; done) | (simp [hkd, rulesOf, away, lined, masted, walking, housed, fast, reached, tied, gripped, loose, wired, bare, opened, shut, still, crew, elsewhere, dockOf, beq_dec, bne_dec]; rfl) | (simp [hkd, rulesOf, away, lined, masted, walking, housed, fast, reached, tied, gripped, loose, wired, bare, opened, shut, still, crew, elsewhere, dockOf, beq_dec, bne_dec, *]; done) | (simp [hkd, rulesOf, away, lined, masted, walking, housed, fast, reached, tied, gripped, loose, wired, bare, opened, shut, still, crew, elsewhere, dockOf, beq_dec, bne_dec, *]; rfl) | (simp [hkd, rulesOf, away, lined, masted, walking, housed, fast, reached, tied, gripped, loose, wired, bare, opened, shut, still, crew, elsewhere, dockOf, beq_dec, bne_dec]; (repeat (refine ⟨?_, ?_⟩)); all_goals rfl) | (by_cases hq : s.act.n = b.axis <;> (simp [rulesOf, elsewhere, shut, dockOf, hkd, hq, *]; done))))
  · go_wp2
    refine bodyPost_ret (v := .slice (some ⟨W2.heap.size, 0, none⟩) (rulesOf p (dockOf p b s) s.act.kind).length (rulesOf p (dockOf p b s) s.act.kind).length) (by simp [results, Try.results66, go_sem, hkd, rulesOf]) rfl ⟨W2.heap.size, rfl, ?_, by (exact kpt)⟩
    (refine Blk.cast (arr := ?_) ?_ ?_; rotate_left 1; (focus (exact blk)); (first | rfl | (simp [hkd, rulesOf, away, lined, masted, walking, housed, fast, reached, tied, gripped, loose, wired, bare, opened, shut, still, crew, elsewhere, dockOf, beq_dec, bne_dec]; done) | (simp [hkd, rulesOf, away, lined, masted, walking, housed, fast, reached, tied, gripped, loose, wired, bare, opened, shut, still, crew, elsewhere, dockOf, beq_dec, bne_dec]; rfl) | (simp [hkd, rulesOf, away, lined, masted, walking, housed, fast, reached, tied, gripped, loose, wired, bare, opened, shut, still, crew, elsewhere, dockOf, beq_dec, bne_dec, *]; done) | (simp [hkd, rulesOf, away, lined, masted, walking, housed, fast, reached, tied, gripped, loose, wired, bare, opened, shut, still, crew, elsewhere, dockOf, beq_dec, bne_dec, *]; rfl) | (simp [hkd, rulesOf, away, lined, masted, walking, housed, fast, reached, tied, gripped, loose, wired, bare, opened, shut, still, crew, elsewhere, dockOf, beq_dec, bne_dec]; (repeat (refine ⟨?_, ?_⟩)); all_goals rfl) | (by_cases hq : s.act.n = b.axis <;> (simp [rulesOf, elsewhere, shut, dockOf, hkd, hq, *]; done))))
  · go_wp2
    refine bodyPost_ret (v := .slice (some ⟨W2.heap.size, 0, none⟩) (rulesOf p (dockOf p b s) s.act.kind).length (rulesOf p (dockOf p b s) s.act.kind).length) (by simp [results, Try.results66, go_sem, hkd, rulesOf]) rfl ⟨W2.heap.size, rfl, ?_, by (exact kpt)⟩
    (refine Blk.cast (arr := ?_) ?_ ?_; rotate_left 1; (focus (exact blk)); (first | rfl | (simp [hkd, rulesOf, away, lined, masted, walking, housed, fast, reached, tied, gripped, loose, wired, bare, opened, shut, still, crew, elsewhere, dockOf, beq_dec, bne_dec]; done) | (simp [hkd, rulesOf, away, lined, masted, walking, housed, fast, reached, tied, gripped, loose, wired, bare, opened, shut, still, crew, elsewhere, dockOf, beq_dec, bne_dec]; rfl) | (simp [hkd, rulesOf, away, lined, masted, walking, housed, fast, reached, tied, gripped, loose, wired, bare, opened, shut, still, crew, elsewhere, dockOf, beq_dec, bne_dec, *]; done) | (simp [hkd, rulesOf, away, lined, masted, walking, housed, fast, reached, tied, gripped, loose, wired, bare, opened, shut, still, crew, elsewhere, dockOf, beq_dec, bne_dec, *]; rfl) | (simp [hkd, rulesOf, away, lined, masted, walking, housed, fast, reached, tied, gripped, loose, wired, bare, opened, shut, still, crew, elsewhere, dockOf, beq_dec, bne_dec]; (repeat (refine ⟨?_, ?_⟩)); all_goals rfl) | (by_cases hq : s.act.n = b.axis <;> (simp [rulesOf, elsewhere, shut, dockOf, hkd, hq, *]; done))))
  · go_wp2
    refine bodyPost_ret (v := .slice (some ⟨W2.heap.size, 0, none⟩) (rulesOf p (dockOf p b s) s.act.kind).length (rulesOf p (dockOf p b s) s.act.kind).length) (by simp [results, Try.results66, go_sem, hkd, rulesOf]) rfl ⟨W2.heap.size, rfl, ?_, by (exact kpt)⟩
    (refine Blk.cast (arr := ?_) ?_ ?_; rotate_left 1; (focus (exact blk)); (first | rfl | (simp [hkd, rulesOf, away, lined, masted, walking, housed, fast, reached, tied, gripped, loose, wired, bare, opened, shut, still, crew, elsewhere, dockOf, beq_dec, bne_dec]; done) | (simp [hkd, rulesOf, away, lined, masted, walking, housed, fast, reached, tied, gripped, loose, wired, bare, opened, shut, still, crew, elsewhere, dockOf, beq_dec, bne_dec]; rfl) | (simp [hkd, rulesOf, away, lined, masted, walking, housed, fast, reached, tied, gripped, loose, wired, bare, opened, shut, still, crew, elsewhere, dockOf, beq_dec, bne_dec, *]; done) | (simp [hkd, rulesOf, away, lined, masted, walking, housed, fast, reached, tied, gripped, loose, wired, bare, opened, shut, still, crew, elsewhere, dockOf, beq_dec, bne_dec, *]; rfl) | (simp [hkd, rulesOf, away, lined, masted, walking, housed, fast, reached, tied, gripped, loose, wired, bare, opened, shut, still, crew, elsewhere, dockOf, beq_dec, bne_dec]; (repeat (refine ⟨?_, ?_⟩)); all_goals rfl) | (by_cases hq : s.act.n = b.axis <;> (simp [rulesOf, elsewhere, shut, dockOf, hkd, hq, *]; done))))

end Go.Proofs.Ytacbkbilbmkjnaa

/-
  What acts do, and Do, in the reference.
-/
namespace Go.Proofs.Ytacbkbilbmkjnaa
open Go.RowKit Bal Bal.Trim Bal.Mast
set_option linter.unusedVariables false
set_option linter.unusedSimpArgs false
set_option maxHeartbeats 4000000
set_option maxRecDepth 10000

theorem r_done (b : Berth) (t n : Int) (w : World) (ht : 1 ≤ t ∧ t ≤ 13) :
    Calls Try.prog 67 #[.agg #[.int .u8 b.ship, .int .i64 b.axis, .int .i64 b.held, .bool b.wire, .bool b.opn], .agg #[.int .u8 t, .int .i64 n]] w fun z w' => z = .returned (.agg #[.int .u8 (doneR b n t).ship, .int .i64 (doneR b n t).axis, .int .i64 (doneR b n t).held, .bool (doneR b n t).wire, .bool (doneR b n t).opn]) ∧ Kept w w' := by
  rcases (by omega : t = 1 ∨ t = 2 ∨ t = 3 ∨ t = 4 ∨ t = 5 ∨ t = 6 ∨ t = 7 ∨ t = 8 ∨ t = 9 ∨ t = 10 ∨ t = 11 ∨ t = 12 ∨ t = 13) with rfl | rfl | rfl | rfl | rfl | rfl | rfl | rfl | rfl | rfl | rfl | rfl | rfl
  all_goals
    go_enter Try.func67, Try.ntmps67
    go_upto_region 1 with fail
    refine at_world (S := fun V => Blk V w.heap.size #[.int .u8 b.ship, .int .i64 b.axis, .int .i64 b.held, .bool b.wire, .bool b.opn] 59 ∧ Blk V (w.heap.size + 1) _ 61 ∧ Blk V (w.heap.size + 1 + 1) #[.int .u8 0, .int .i64 0, .int .i64 0, .bool false, .bool false] 59 ∧ Kept w V) ⟨by (exact blk), by (exact blk), by (exact blk), by (exact kpt)⟩ ?_
    rintro W1 ⟨rb, ra, rc, hk⟩
    have rbc0 := rb.cell 0
    have rbc1 := rb.cell 1
    have rbc2 := rb.cell 2
    have rbc3 := rb.cell 3
    have rbc4 := rb.cell 4
    have rbf0 := rb.free 0
    have rbf1 := rb.free 1
    have rbf2 := rb.free 2
    have rbf3 := rb.free 3
    have rbf4 := rb.free 4
    have rbl := rb.lt
    simp at rbc0 rbc1 rbc2 rbc3 rbc4
    have rac0 := ra.cell 0
    have rac1 := ra.cell 1
    have raf0 := ra.free 0
    have raf1 := ra.free 1
    have ral := ra.lt
    simp at rac0 rac1
    have rcc0 := rc.cell 0
    have rcc1 := rc.cell 1
    have rcc2 := rc.cell 2
    have rcc3 := rc.cell 3
    have rcc4 := rc.cell 4
    have rcf0 := rc.free 0
    have rcf1 := rc.free 1
    have rcf2 := rc.free 2
    have rcf3 := rc.free 3
    have rcf4 := rc.free 4
    have rcl := rc.lt
    simp at rcc0 rcc1 rcc2 rcc3 rcc4
  · go_upto_region 31 with fail
    refine at_world (S := fun V => Blk V w.heap.size #[.int .u8 (doneR b n 1).ship, .int .i64 (doneR b n 1).axis, .int .i64 (doneR b n 1).held, .bool (doneR b n 1).wire, .bool (doneR b n 1).opn] 59 ∧ Blk V (w.heap.size + 1 + 1) #[.int .u8 0, .int .i64 0, .int .i64 0, .bool false, .bool false] 59 ∧ Kept w V) ⟨(by refine Blk.cast (arr := ?_) ?_ ?_; rotate_left 1; (focus (exact blk)); first | (simp [doneR]; done) | (simp [doneR, *]; done) | rfl), by (exact blk), by (exact kpt)⟩ ?_
    clear rb ra rc rbc0 rbf0 rbc1 rbf1 rbc2 rbf2 rbc3 rbf3 rbc4 rbf4 rac0 raf0 rac1 raf1 rcc0 rcf0 rcc1 rcf1 rcc2 rcf2 rcc3 rcf3 rcc4 rcf4 rbl ral rcl
    rintro W2 ⟨rb, rc, hk2⟩
    have rbc0 := rb.cell 0
    have rbc1 := rb.cell 1
    have rbc2 := rb.cell 2
    have rbc3 := rb.cell 3
    have rbc4 := rb.cell 4
    have rbf0 := rb.free 0
    have rbf1 := rb.free 1
    have rbf2 := rb.free 2
    have rbf3 := rb.free 3
    have rbf4 := rb.free 4
    have rbl := rb.lt
    simp at rbc0 rbc1 rbc2 rbc3 rbc4
    have rcc0 := rc.cell 0
    have rcc1 := rc.cell 1
    have rcc2 := rc.cell 2
    have rcc3 := rc.cell 3
    have rcc4 := rc.cell 4
    have rcf0 := rc.free 0
    have rcf1 := rc.free 1
    have rcf2 := rc.free 2
    have rcf3 := rc.free 3
    have rcf4 := rc.free 4
    have rcl := rc.lt
    simp at rcc0 rcc1 rcc2 rcc3 rcc4
    go_wp2
    exact bodyPost_ret (v := .agg #[.int .u8 (doneR b n 1).ship, .int .i64 (doneR b n 1).axis, .int .i64 (doneR b n 1).held, .bool (doneR b n 1).wire, .bool (doneR b n 1).opn]) (by simp [results, Try.results67, go_sem, rbc0, rbc1, rbc2, rbc3, rbc4, rcc0, rcc1, rcc2, rcc3, rcc4, rcl, rbl]) rfl ⟨rfl, by (exact kpt)⟩
  · by_cases hs : b.ship = 1
    all_goals
      go_upto_region 31 with fail
      refine at_world (S := fun V => Blk V w.heap.size #[.int .u8 (doneR b n 2).ship, .int .i64 (doneR b n 2).axis, .int .i64 (doneR b n 2).held, .bool (doneR b n 2).wire, .bool (doneR b n 2).opn] 59 ∧ Blk V (w.heap.size + 1 + 1) #[.int .u8 0, .int .i64 0, .int .i64 0, .bool false, .bool false] 59 ∧ Kept w V) ⟨(by refine Blk.cast (arr := ?_) ?_ ?_; rotate_left 1; (focus (exact blk)); first | (simp [doneR]; done) | (simp [doneR, *]; done) | rfl), by (exact blk), by (exact kpt)⟩ ?_
      clear rb ra rc rbc0 rbf0 rbc1 rbf1 rbc2 rbf2 rbc3 rbf3 rbc4 rbf4 rac0 raf0 rac1 raf1 rcc0 rcf0 rcc1 rcf1 rcc2 rcf2 rcc3 rcf3 rcc4 rcf4 rbl ral rcl
      rintro W2 ⟨rb, rc, hk2⟩
      have rbc0 := rb.cell 0
      have rbc1 := rb.cell 1
      have rbc2 := rb.cell 2
      have rbc3 := rb.cell 3
      have rbc4 := rb.cell 4
      have rbf0 := rb.free 0
      have rbf1 := rb.free 1
      have rbf2 := rb.free 2
      have rbf3 := rb.free 3
      have rbf4 := rb.free 4
      have rbl := rb.lt
      simp at rbc0 rbc1 rbc2 rbc3 rbc4
      have rcc0 := rc.cell 0
      have rcc1 := rc.cell 1
      have rcc2 := rc.cell 2
      have rcc3 := rc.cell 3
      have rcc4 := rc.cell 4
      have rcf0 := rc.free 0
      have rcf1 := rc.free 1
      have rcf2 := rc.free 2
      have rcf3 := rc.free 3
      have rcf4 := rc.free 4
      have rcl := rc.lt
      simp at rcc0 rcc1 rcc2 rcc3 rcc4
      go_wp2
      exact bodyPost_ret (v := .agg #[.int .u8 (doneR b n 2).ship, .int .i64 (doneR b n 2).axis, .int .i64 (doneR b n 2).held, .bool (doneR b n 2).wire, .bool (doneR b n 2).opn]) (by simp [results, Try.results67, go_sem, rbc0, rbc1, rbc2, rbc3, rbc4, rcc0, rcc1, rcc2, rcc3, rcc4, rcl, rbl]) rfl ⟨rfl, by (exact kpt)⟩
  · by_cases hs : b.ship = 2
    all_goals
      go_upto_region 31 with fail
      refine at_world (S := fun V => Blk V w.heap.size #[.int .u8 (doneR b n 3).ship, .int .i64 (doneR b n 3).axis, .int .i64 (doneR b n 3).held, .bool (doneR b n 3).wire, .bool (doneR b n 3).opn] 59 ∧ Blk V (w.heap.size + 1 + 1) #[.int .u8 0, .int .i64 0, .int .i64 0, .bool false, .bool false] 59 ∧ Kept w V) ⟨(by refine Blk.cast (arr := ?_) ?_ ?_; rotate_left 1; (focus (exact blk)); first | (simp [doneR]; done) | (simp [doneR, *]; done) | rfl), by (exact blk), by (exact kpt)⟩ ?_
      clear rb ra rc rbc0 rbf0 rbc1 rbf1 rbc2 rbf2 rbc3 rbf3 rbc4 rbf4 rac0 raf0 rac1 raf1 rcc0 rcf0 rcc1 rcf1 rcc2 rcf2 rcc3 rcf3 rcc4 rcf4 rbl ral rcl
      rintro W2 ⟨rb, rc, hk2⟩
      have rbc0 := rb.cell 0
      have rbc1 := rb.cell 1
      have rbc2 := rb.cell 2
      have rbc3 := rb.cell 3
      have rbc4 := rb.cell 4
      have rbf0 := rb.free 0
      have rbf1 := rb.free 1
      have rbf2 := rb.free 2
      have rbf3 := rb.free 3
      have rbf4 := rb.free 4
      have rbl := rb.lt
      simp at rbc0 rbc1 rbc2 rbc3 rbc4
      have rcc0 := rc.cell 0
      have rcc1 := rc.cell 1
      have rcc2 := rc.cell 2
      have rcc3 := rc.cell 3
      have rcc4 := rc.cell 4
      have rcf0 := rc.free 0
      have rcf1 := rc.free 1
      have rcf2 := rc.free 2
      have rcf3 := rc.free 3
      have rcf4 := rc.free 4
      have rcl := rc.lt
      simp at rcc0 rcc1 rcc2 rcc3 rcc4
      go_wp2
      exact bodyPost_ret (v := .agg #[.int .u8 (doneR b n 3).ship, .int .i64 (doneR b n 3).axis, .int .i64 (doneR b n 3).held, .bool (doneR b n 3).wire, .bool (doneR b n 3).opn]) (by simp [results, Try.results67, go_sem, rbc0, rbc1, rbc2, rbc3, rbc4, rcc0, rcc1, rcc2, rcc3, rcc4, rcl, rbl]) rfl ⟨rfl, by (exact kpt)⟩
  · go_upto_region 31 with fail
    refine at_world (S := fun V => Blk V w.heap.size #[.int .u8 (doneR b n 4).ship, .int .i64 (doneR b n 4).axis, .int .i64 (doneR b n 4).held, .bool (doneR b n 4).wire, .bool (doneR b n 4).opn] 59 ∧ Blk V (w.heap.size + 1 + 1) #[.int .u8 0, .int .i64 0, .int .i64 0, .bool false, .bool false] 59 ∧ Kept w V) ⟨(by refine Blk.cast (arr := ?_) ?_ ?_; rotate_left 1; (focus (exact blk)); first | (simp [doneR]; done) | (simp [doneR, *]; done) | rfl), by (exact blk), by (exact kpt)⟩ ?_
    clear rb ra rc rbc0 rbf0 rbc1 rbf1 rbc2 rbf2 rbc3 rbf3 rbc4 rbf4 rac0 raf0 rac1 raf1 rcc0 rcf0 rcc1 rcf1 rcc2 rcf2 rcc3 rcf3 rcc4 rcf4 rbl ral rcl
    rintro W2 ⟨rb, rc, hk2⟩
    have rbc0 := rb.cell 0
    have rbc1 := rb.cell 1
    have rbc2 := rb.cell 2
    have rbc3 := rb.cell 3
    have rbc4 := rb.cell 4
    have rbf0 := rb.free 0
    have rbf1 := rb.free 1
    have rbf2 := rb.free 2
    have rbf3 := rb.free 3
    have rbf4 := rb.free 4
    have rbl := rb.lt
    simp at rbc0 rbc1 rbc2 rbc3 rbc4
    have rcc0 := rc.cell 0
    have rcc1 := rc.cell 1
    have rcc2 := rc.cell 2
    have rcc3 := rc.cell 3
    have rcc4 := rc.cell 4
    have rcf0 := rc.free 0
    have rcf1 := rc.free 1
    have rcf2 := rc.free 2
    have rcf3 := rc.free 3
    have rcf4 := rc.free 4
    have rcl := rc.lt
    simp at rcc0 rcc1 rcc2 rcc3 rcc4
    go_wp2
    exact bodyPost_ret (v := .agg #[.int .u8 (doneR b n 4).ship, .int .i64 (doneR b n 4).axis, .int .i64 (doneR b n 4).held, .bool (doneR b n 4).wire, .bool (doneR b n 4).opn]) (by simp [results, Try.results67, go_sem, rbc0, rbc1, rbc2, rbc3, rbc4, rcc0, rcc1, rcc2, rcc3, rcc4, rcl, rbl]) rfl ⟨rfl, by (exact kpt)⟩
  · go_upto_region 31 with fail
    refine at_world (S := fun V => Blk V w.heap.size #[.int .u8 (doneR b n 5).ship, .int .i64 (doneR b n 5).axis, .int .i64 (doneR b n 5).held, .bool (doneR b n 5).wire, .bool (doneR b n 5).opn] 59 ∧ Blk V (w.heap.size + 1 + 1) #[.int .u8 0, .int .i64 0, .int .i64 0, .bool false, .bool false] 59 ∧ Kept w V) ⟨(by refine Blk.cast (arr := ?_) ?_ ?_; rotate_left 1; (focus (exact blk)); first | (simp [doneR]; done) | (simp [doneR, *]; done) | rfl), by (exact blk), by (exact kpt)⟩ ?_
    clear rb ra rc rbc0 rbf0 rbc1 rbf1 rbc2 rbf2 rbc3 rbf3 rbc4 rbf4 rac0 raf0 rac1 raf1 rcc0 rcf0 rcc1 rcf1 rcc2 rcf2 rcc3 rcf3 rcc4 rcf4 rbl ral rcl
    rintro W2 ⟨rb, rc, hk2⟩
    have rbc0 := rb.cell 0
    have rbc1 := rb.cell 1
    have rbc2 := rb.cell 2
    have rbc3 := rb.cell 3
    have rbc4 := rb.cell 4
    have rbf0 := rb.free 0
    have rbf1 := rb.free 1
    have rbf2 := rb.free 2
    have rbf3 := rb.free 3
    have rbf4 := rb.free 4
    have rbl := rb.lt
    simp at rbc0 rbc1 rbc2 rbc3 rbc4
    have rcc0 := rc.cell 0
    have rcc1 := rc.cell 1
    have rcc2 := rc.cell 2
    have rcc3 := rc.cell 3
    have rcc4 := rc.cell 4
    have rcf0 := rc.free 0
    have rcf1 := rc.free 1
    have rcf2 := rc.free 2
    have rcf3 := rc.free 3
    have rcf4 := rc.free 4
    have rcl := rc.lt
    simp at rcc0 rcc1 rcc2 rcc3 rcc4
    go_wp2
    exact bodyPost_ret (v := .agg #[.int .u8 (doneR b n 5).ship, .int .i64 (doneR b n 5).axis, .int .i64 (doneR b n 5).held, .bool (doneR b n 5).wire, .bool (doneR b n 5).opn]) (by simp [results, Try.results67, go_sem, rbc0, rbc1, rbc2, rbc3, rbc4, rcc0, rcc1, rcc2, rcc3, rcc4, rcl, rbl]) rfl ⟨rfl, by (exact kpt)⟩
  · go_upto_region 31 with fail
    refine at_world (S := fun V => Blk V w.heap.size #[.int .u8 (doneR b n 6).ship, .int .i64 (doneR b n 6).axis, .int .i64 (doneR b n 6).held, .bool (doneR b n 6).wire, .bool (doneR b n 6).opn] 59 ∧ Blk V (w.heap.size + 1 + 1) #[.int .u8 0, .int .i64 0, .int .i64 0, .bool false, .bool false] 59 ∧ Kept w V) ⟨(by refine Blk.cast (arr := ?_) ?_ ?_; rotate_left 1; (focus (exact blk)); first | (simp [doneR]; done) | (simp [doneR, *]; done) | rfl), by (exact blk), by (exact kpt)⟩ ?_
    clear rb ra rc rbc0 rbf0 rbc1 rbf1 rbc2 rbf2 rbc3 rbf3 rbc4 rbf4 rac0 raf0 rac1 raf1 rcc0 rcf0 rcc1 rcf1 rcc2 rcf2 rcc3 rcf3 rcc4 rcf4 rbl ral rcl
    rintro W2 ⟨rb, rc, hk2⟩
    have rbc0 := rb.cell 0
    have rbc1 := rb.cell 1
    have rbc2 := rb.cell 2
    have rbc3 := rb.cell 3
    have rbc4 := rb.cell 4
    have rbf0 := rb.free 0
    have rbf1 := rb.free 1
    have rbf2 := rb.free 2
    have rbf3 := rb.free 3
    have rbf4 := rb.free 4
    have rbl := rb.lt
    simp at rbc0 rbc1 rbc2 rbc3 rbc4
    have rcc0 := rc.cell 0
    have rcc1 := rc.cell 1
    have rcc2 := rc.cell 2
    have rcc3 := rc.cell 3
    have rcc4 := rc.cell 4
    have rcf0 := rc.free 0
    have rcf1 := rc.free 1
    have rcf2 := rc.free 2
    have rcf3 := rc.free 3
    have rcf4 := rc.free 4
    have rcl := rc.lt
    simp at rcc0 rcc1 rcc2 rcc3 rcc4
    go_wp2
    exact bodyPost_ret (v := .agg #[.int .u8 (doneR b n 6).ship, .int .i64 (doneR b n 6).axis, .int .i64 (doneR b n 6).held, .bool (doneR b n 6).wire, .bool (doneR b n 6).opn]) (by simp [results, Try.results67, go_sem, rbc0, rbc1, rbc2, rbc3, rbc4, rcc0, rcc1, rcc2, rcc3, rcc4, rcl, rbl]) rfl ⟨rfl, by (exact kpt)⟩
  · go_upto_region 31 with fail
    refine at_world (S := fun V => Blk V w.heap.size #[.int .u8 (doneR b n 7).ship, .int .i64 (doneR b n 7).axis, .int .i64 (doneR b n 7).held, .bool (doneR b n 7).wire, .bool (doneR b n 7).opn] 59 ∧ Blk V (w.heap.size + 1 + 1) #[.int .u8 0, .int .i64 0, .int .i64 0, .bool false, .bool false] 59 ∧ Kept w V) ⟨(by refine Blk.cast (arr := ?_) ?_ ?_; rotate_left 1; (focus (exact blk)); first | (simp [doneR]; done) | (simp [doneR, *]; done) | rfl), by (exact blk), by (exact kpt)⟩ ?_
    clear rb ra rc rbc0 rbf0 rbc1 rbf1 rbc2 rbf2 rbc3 rbf3 rbc4 rbf4 rac0 raf0 rac1 raf1 rcc0 rcf0 rcc1 rcf1 rcc2 rcf2 rcc3 rcf3 rcc4 rcf4 rbl ral rcl
    rintro W2 ⟨rb, rc, hk2⟩
    have rbc0 := rb.cell 0
    have rbc1 := rb.cell 1
    have rbc2 := rb.cell 2
    have rbc3 := rb.cell 3
    have rbc4 := rb.cell 4
    have rbf0 := rb.free 0
    have rbf1 := rb.free 1
    have rbf2 := rb.free 2
    have rbf3 := rb.free 3
    have rbf4 := rb.free 4
    have rbl := rb.lt
    simp at rbc0 rbc1 rbc2 rbc3 rbc4
    have rcc0 := rc.cell 0
    have rcc1 := rc.cell 1
    have rcc2 := rc.cell 2
    have rcc3 := rc.cell 3
    have rcc4 := rc.cell 4
    have rcf0 := rc.free 0
    have rcf1 := rc.free 1
    have rcf2 := rc.free 2
    have rcf3 := rc.free 3
    have rcf4 := rc.free 4
    have rcl := rc.lt
    simp at rcc0 rcc1 rcc2 rcc3 rcc4
    go_wp2
    exact bodyPost_ret (v := .agg #[.int .u8 (doneR b n 7).ship, .int .i64 (doneR b n 7).axis, .int .i64 (doneR b n 7).held, .bool (doneR b n 7).wire, .bool (doneR b n 7).opn]) (by simp [results, Try.results67, go_sem, rbc0, rbc1, rbc2, rbc3, rbc4, rcc0, rcc1, rcc2, rcc3, rcc4, rcl, rbl]) rfl ⟨rfl, by (exact kpt)⟩
  · go_upto_region 31 with fail
    refine at_world (S := fun V => Blk V w.heap.size #[.int .u8 (doneR b n 8).ship, .int .i64 (doneR b n 8).axis, .int .i64 (doneR b n 8).held, .bool (doneR b n 8).wire, .bool (doneR b n 8).opn] 59 ∧ Blk V (w.heap.size + 1 + 1) #[.int .u8 0, .int .i64 0, .int .i64 0, .bool false, .bool false] 59 ∧ Kept w V) ⟨(by refine Blk.cast (arr := ?_) ?_ ?_; rotate_left 1; (focus (exact blk)); first | (simp [doneR]; done) | (simp [doneR, *]; done) | rfl), by (exact blk), by (exact kpt)⟩ ?_
    clear rb ra rc rbc0 rbf0 rbc1 rbf1 rbc2 rbf2 rbc3 rbf3 rbc4 rbf4 rac0 raf0 rac1 raf1 rcc0 rcf0 rcc1 rcf1 rcc2 rcf2 rcc3 rcf3 rcc4 rcf4 rbl ral rcl
    rintro W2 ⟨rb, rc, hk2⟩
    have rbc0 := rb.cell 0
    have rbc1 := rb.cell 1
    have rbc2 := rb.cell 2
    have rbc3 := rb.cell 3
    have rbc4 := rb.cell 4
    have rbf0 := rb.free 0
    have rbf1 := rb.free 1
    have rbf2 := rb.free 2
    have rbf3 := rb.free 3
    have rbf4 := rb.free 4
    have rbl := rb.lt
    simp at rbc0 rbc1 rbc2 rbc3 rbc4
    have rcc0 := rc.cell 0
    have rcc1 := rc.cell 1
    have rcc2 := rc.cell 2
    have rcc3 := rc.cell 3
    have rcc4 := rc.cell 4
    have rcf0 := rc.free 0
    have rcf1 := rc.free 1
    have rcf2 := rc.free 2
    have rcf3 := rc.free 3
    have rcf4 := rc.free 4
    have rcl := rc.lt
    simp at rcc0 rcc1 rcc2 rcc3 rcc4
    go_wp2
    exact bodyPost_ret (v := .agg #[.int .u8 (doneR b n 8).ship, .int .i64 (doneR b n 8).axis, .int .i64 (doneR b n 8).held, .bool (doneR b n 8).wire, .bool (doneR b n 8).opn]) (by simp [results, Try.results67, go_sem, rbc0, rbc1, rbc2, rbc3, rbc4, rcc0, rcc1, rcc2, rcc3, rcc4, rcl, rbl]) rfl ⟨rfl, by (exact kpt)⟩
  · go_upto_region 31 with fail
    refine at_world (S := fun V => Blk V w.heap.size #[.int .u8 (doneR b n 9).ship, .int .i64 (doneR b n 9).axis, .int .i64 (doneR b n 9).held, .bool (doneR b n 9).wire, .bool (doneR b n 9).opn] 59 ∧ Blk V (w.heap.size + 1 + 1) #[.int .u8 0, .int .i64 0, .int .i64 0, .bool false, .bool false] 59 ∧ Kept w V) ⟨(by refine Blk.cast (arr := ?_) ?_ ?_; rotate_left 1; (focus (exact blk)); first | (simp [doneR]; done) | (simp [doneR, *]; done) | rfl), by (exact blk), by (exact kpt)⟩ ?_
    clear rb ra rc rbc0 rbf0 rbc1 rbf1 rbc2 rbf2 rbc3 rbf3 rbc4 rbf4 rac0 raf0 rac1 raf1 rcc0 rcf0 rcc1 rcf1 rcc2 rcf2 rcc3 rcf3 rcc4 rcf4 rbl ral rcl
    rintro W2 ⟨rb, rc, hk2⟩
    have rbc0 := rb.cell 0
    have rbc1 := rb.cell 1
    have rbc2 := rb.cell 2
    have rbc3 := rb.cell 3
    have rbc4 := rb.cell 4
    have rbf0 := rb.free 0
    have rbf1 := rb.free 1
    have rbf2 := rb.free 2
    have rbf3 := rb.free 3
    have rbf4 := rb.free 4
    have rbl := rb.lt
    simp at rbc0 rbc1 rbc2 rbc3 rbc4
    have rcc0 := rc.cell 0
    have rcc1 := rc.cell 1
    have rcc2 := rc.cell 2
    have rcc3 := rc.cell 3
    have rcc4 := rc.cell 4
    have rcf0 := rc.free 0
    have rcf1 := rc.free 1
    have rcf2 := rc.free 2
    have rcf3 := rc.free 3
    have rcf4 := rc.free 4
    have rcl := rc.lt
    simp at rcc0 rcc1 rcc2 rcc3 rcc4
    go_wp2
    exact bodyPost_ret (v := .agg #[.int .u8 (doneR b n 9).ship, .int .i64 (doneR b n 9).axis, .int .i64 (doneR b n 9).held, .bool (doneR b n 9).wire, .bool (doneR b n 9).opn]) (by simp [results, Try.results67, go_sem, rbc0, rbc1, rbc2, rbc3, rbc4, rcc0, rcc1, rcc2, rcc3, rcc4, rcl, rbl]) rfl ⟨rfl, by (exact kpt)⟩
  · go_upto_region 31 with fail
    refine at_world (S := fun V => Blk V w.heap.size #[.int .u8 (doneR b n 10).ship, .int .i64 (doneR b n 10).axis, .int .i64 (doneR b n 10).held, .bool (doneR b n 10).wire, .bool (doneR b n 10).opn] 59 ∧ Blk V (w.heap.size + 1 + 1) #[.int .u8 0, .int .i64 0, .int .i64 0, .bool false, .bool false] 59 ∧ Kept w V) ⟨(by refine Blk.cast (arr := ?_) ?_ ?_; rotate_left 1; (focus (exact blk)); first | (simp [doneR]; done) | (simp [doneR, *]; done) | rfl), by (exact blk), by (exact kpt)⟩ ?_
    clear rb ra rc rbc0 rbf0 rbc1 rbf1 rbc2 rbf2 rbc3 rbf3 rbc4 rbf4 rac0 raf0 rac1 raf1 rcc0 rcf0 rcc1 rcf1 rcc2 rcf2 rcc3 rcf3 rcc4 rcf4 rbl ral rcl
    rintro W2 ⟨rb, rc, hk2⟩
    have rbc0 := rb.cell 0
    have rbc1 := rb.cell 1
    have rbc2 := rb.cell 2
    have rbc3 := rb.cell 3
    have rbc4 := rb.cell 4
    have rbf0 := rb.free 0
    have rbf1 := rb.free 1
    have rbf2 := rb.free 2
    have rbf3 := rb.free 3
    have rbf4 := rb.free 4
    have rbl := rb.lt
    simp at rbc0 rbc1 rbc2 rbc3 rbc4
    have rcc0 := rc.cell 0
    have rcc1 := rc.cell 1
    have rcc2 := rc.cell 2
    have rcc3 := rc.cell 3
    have rcc4 := rc.cell 4
    have rcf0 := rc.free 0
    have rcf1 := rc.free 1
    have rcf2 := rc.free 2
    have rcf3 := rc.free 3
    have rcf4 := rc.free 4
    have rcl := rc.lt
    simp at rcc0 rcc1 rcc2 rcc3 rcc4
    go_wp2
    exact bodyPost_ret (v := .agg #[.int .u8 (doneR b n 10).ship, .int .i64 (doneR b n 10).axis, .int .i64 (doneR b n 10).held, .bool (doneR b n 10).wire, .bool (doneR b n 10).opn]) (by simp [results, Try.results67, go_sem, rbc0, rbc1, rbc2, rbc3, rbc4, rcc0, rcc1, rcc2, rcc3, rcc4, rcl, rbl]) rfl ⟨rfl, by (exact kpt)⟩
  · go_upto_region 31 with fail
    refine at_world (S := fun V => Blk V w.heap.size #[.int .u8 (doneR b n 11).ship, .int .i64 (doneR b n 11).axis, .int .i64 (doneR b n 11).held, .bool (doneR b n 11).wire, .bool (doneR b n 11).opn] 59 ∧ Blk V (w.heap.size + 1 + 1) #[.int .u8 0, .int .i64 0, .int .i64 0, .bool false, .bool false] 59 ∧ Kept w V) ⟨(by refine Blk.cast (arr := ?_) ?_ ?_; rotate_left 1; (focus (exact blk)); first | (simp [doneR]; done) | (simp [doneR, *]; done) | rfl), by (exact blk), by (exact kpt)⟩ ?_
    clear rb ra rc rbc0 rbf0 rbc1 rbf1 rbc2 rbf2 rbc3 rbf3 rbc4 rbf4 rac0 raf0 rac1 raf1 rcc0 rcf0 rcc1 rcf1 rcc2 rcf2 rcc3 rcf3 rcc4 rcf4 rbl ral rcl
    rintro W2 ⟨rb, rc, hk2⟩
    have rbc0 := rb.cell 0
    have rbc1 := rb.cell 1
    have rbc2 := rb.cell 2
    have rbc3 := rb.cell 3
    have rbc4 := rb.cell 4
    have rbf0 := rb.free 0
    have rbf1 := rb.free 1
    have rbf2 := rb.free 2
    have rbf3 := rb.free 3
    have rbf4 := rb.free 4
    have rbl := rb.lt
    simp at rbc0 rbc1 rbc2 rbc3 rbc4
    have rcc0 := rc.cell 0
    have rcc1 := rc.cell 1
    have rcc2 := rc.cell 2
    have rcc3 := rc.cell 3
    have rcc4 := rc.cell 4
    have rcf0 := rc.free 0
    have rcf1 := rc.free 1
    have rcf2 := rc.free 2
    have rcf3 := rc.free 3
    have rcf4 := rc.free 4
    have rcl := rc.lt
    simp at rcc0 rcc1 rcc2 rcc3 rcc4
    go_wp2
    exact bodyPost_ret (v := .agg #[.int .u8 (doneR b n 11).ship, .int .i64 (doneR b n 11).axis, .int .i64 (doneR b n 11).held, .bool (doneR b n 11).wire, .bool (doneR b n 11).opn]) (by simp [results, Try.results67, go_sem, rbc0, rbc1, rbc2, rbc3, rbc4, rcc0, rcc1, rcc2, rcc3, rcc4, rcl, rbl]) rfl ⟨rfl, by (exact kpt)⟩
  · go_upto_region 31 with fail
    refine at_world (S := fun V => Blk V w.heap.size #[.int .u8 (doneR b n 12).ship, .int .i64 (doneR b n 12).axis, .int .i64 (doneR b n 12).held, .bool (doneR b n 12).wire, .bool (doneR b n 12).opn] 59 ∧ Blk V (w.heap.size + 1 + 1) #[.int .u8 0, .int .i64 0, .int .i64 0, .bool false, .bool false] 59 ∧ Kept w V) ⟨(by refine Blk.cast (arr := ?_) ?_ ?_; rotate_left 1; (focus (exact blk)); first | (simp [doneR]; done) | (simp [doneR, *]; done) | rfl), by (exact blk), by (exact kpt)⟩ ?_
    clear rb ra rc rbc0 rbf0 rbc1 rbf1 rbc2 rbf2 rbc3 rbf3 rbc4 rbf4 rac0 raf0 rac1 raf1 rcc0 rcf0 rcc1 rcf1 rcc2 rcf2 rcc3 rcf3 rcc4 rcf4 rbl ral rcl
    rintro W2 ⟨rb, rc, hk2⟩
    have rbc0 := rb.cell 0
    have rbc1 := rb.cell 1
    have rbc2 := rb.cell 2
    have rbc3 := rb.cell 3
    have rbc4 := rb.cell 4
    have rbf0 := rb.free 0
    have rbf1 := rb.free 1
    have rbf2 := rb.free 2
    have rbf3 := rb.free 3
    have rbf4 := rb.free 4
    have rbl := rb.lt
    simp at rbc0 rbc1 rbc2 rbc3 rbc4
    have rcc0 := rc.cell 0
    have rcc1 := rc.cell 1
    have rcc2 := rc.cell 2
    have rcc3 := rc.cell 3
    have rcc4 := rc.cell 4
    have rcf0 := rc.free 0
    have rcf1 := rc.free 1
    have rcf2 := rc.free 2
    have rcf3 := rc.free 3
    have rcf4 := rc.free 4
    have rcl := rc.lt
    simp at rcc0 rcc1 rcc2 rcc3 rcc4
    go_wp2
    exact bodyPost_ret (v := .agg #[.int .u8 (doneR b n 12).ship, .int .i64 (doneR b n 12).axis, .int .i64 (doneR b n 12).held, .bool (doneR b n 12).wire, .bool (doneR b n 12).opn]) (by simp [results, Try.results67, go_sem, rbc0, rbc1, rbc2, rbc3, rbc4, rcc0, rcc1, rcc2, rcc3, rcc4, rcl, rbl]) rfl ⟨rfl, by (exact kpt)⟩
  · go_upto_region 31 with fail
    refine at_world (S := fun V => Blk V w.heap.size #[.int .u8 (doneR b n 13).ship, .int .i64 (doneR b n 13).axis, .int .i64 (doneR b n 13).held, .bool (doneR b n 13).wire, .bool (doneR b n 13).opn] 59 ∧ Blk V (w.heap.size + 1 + 1) #[.int .u8 0, .int .i64 0, .int .i64 0, .bool false, .bool false] 59 ∧ Kept w V) ⟨(by refine Blk.cast (arr := ?_) ?_ ?_; rotate_left 1; (focus (exact blk)); first | (simp [doneR]; done) | (simp [doneR, *]; done) | rfl), by (exact blk), by (exact kpt)⟩ ?_
    clear rb ra rc rbc0 rbf0 rbc1 rbf1 rbc2 rbf2 rbc3 rbf3 rbc4 rbf4 rac0 raf0 rac1 raf1 rcc0 rcf0 rcc1 rcf1 rcc2 rcf2 rcc3 rcf3 rcc4 rcf4 rbl ral rcl
    rintro W2 ⟨rb, rc, hk2⟩
    have rbc0 := rb.cell 0
    have rbc1 := rb.cell 1
    have rbc2 := rb.cell 2
    have rbc3 := rb.cell 3
    have rbc4 := rb.cell 4
    have rbf0 := rb.free 0
    have rbf1 := rb.free 1
    have rbf2 := rb.free 2
    have rbf3 := rb.free 3
    have rbf4 := rb.free 4
    have rbl := rb.lt
    simp at rbc0 rbc1 rbc2 rbc3 rbc4
    have rcc0 := rc.cell 0
    have rcc1 := rc.cell 1
    have rcc2 := rc.cell 2
    have rcc3 := rc.cell 3
    have rcc4 := rc.cell 4
    have rcf0 := rc.free 0
    have rcf1 := rc.free 1
    have rcf2 := rc.free 2
    have rcf3 := rc.free 3
    have rcf4 := rc.free 4
    have rcl := rc.lt
    simp at rcc0 rcc1 rcc2 rcc3 rcc4
    go_wp2
    exact bodyPost_ret (v := .agg #[.int .u8 (doneR b n 13).ship, .int .i64 (doneR b n 13).axis, .int .i64 (doneR b n 13).held, .bool (doneR b n 13).wire, .bool (doneR b n 13).opn]) (by simp [results, Try.results67, go_sem, rbc0, rbc1, rbc2, rbc3, rbc4, rcc0, rcc1, rcc2, rcc3, rcc4, rcl, rbl]) rfl ⟨rfl, by (exact kpt)⟩

theorem r_Do (a : Option Addr) (c : Nat) (e : Option Addr) (d : Nat) (p : Port) (w : World) (hx : Row Axis.cells 2 w.heap.size w a p.axes) (hc : p.axes.length ≤ c) (hM : c ≤ maxLen) (hy : Row Span.cells 2 w.heap.size w e p.pulls) (hd : p.pulls.length ≤ d) (hN : d ≤ maxLen) (h1 : p.axes.length ≤ 1000000) (h2 : p.pulls.length ≤ 1000000) (b : Berth) (hs0 : 0 ≤ b.ship) (s : Step) (hk0 : 0 ≤ s.act.kind ∧ s.act.kind ≤ 255) :
    Calls Try.prog 24 #[.agg #[.slice a p.axes.length c, .int .i64 p.people, .int .i64 p.most, .slice e p.pulls.length d, .int .i64 p.cross], .agg #[.int .u8 b.ship, .int .i64 b.axis, .int .i64 b.held, .bool b.wire, .bool b.opn], .agg #[.int .u8 s.act.kind, .int .i64 s.act.n, .int .i64 s.wind.xlo, .int .i64 s.wind.xhi, .int .i64 s.wind.ylo, .int .i64 s.wind.yhi]] w fun z w' => z = .returned (.tuple #[.agg #[.int .u8 (doB p b s).ship, .int .i64 (doB p b s).axis, .int .i64 (doB p b s).held, .bool (doB p b s).wire, .bool (doB p b s).opn], .int .i64 (doRule p b s), .int .i64 (doE p b s)]) ∧ Kept w w' := by
  have hM' := hM
  have hN' := hN
  unfold maxLen at hM' hN'
  by_cases h : doErr p b s = 0
  · obtain ⟨hp, hbb, c2, t1, t2⟩ := doErr_ok h
    have ht : 1 ≤ s.act.kind ∧ s.act.kind ≤ 13 := ⟨t1, t2⟩
    have HCB := Lib.hid (show checkBerth p b = 0 by simp [checkBerth, hp, hbb])
    have HCW := Lib.hid (show windB s.wind = true from c2)
    obtain ⟨L, hL⟩ : ∃ L, rulesOf p (dockOf p b s) s.act.kind = L := ⟨_, rfl⟩
    have HL := Lib.hid hL
    have hL4 : L.length ≤ 4 := by
      rw [← hL]
      rcases (by omega : s.act.kind = 1 ∨ s.act.kind = 2 ∨ s.act.kind = 3 ∨ s.act.kind = 4 ∨ s.act.kind = 5 ∨ s.act.kind = 6 ∨ s.act.kind = 7 ∨ s.act.kind = 8 ∨ s.act.kind = 9 ∨ s.act.kind = 10 ∨ s.act.kind = 11 ∨ s.act.kind = 12 ∨ s.act.kind = 13) with hks | hks | hks | hks | hks | hks | hks | hks | hks | hks | hks | hks | hks <;> rw [hks] <;> simp [rulesOf]
    have htr : tryR p (dockOf p b s) s.act.kind = firstNot L 0 := by unfold tryR; rw [hL]
    have e2 : doRule p b s = firstNot L 0 := by unfold doRule; rw [if_pos h, htr]
    have e1 : doE p b s = if firstNot L 0 = 0 then 0 else 74 := by unfold doE; rw [if_pos h, e2]
    have e3 : doB p b s = if firstNot L 0 = 0 then doneB (dockOf p b s) s.act.kind else noBerth := by
      unfold doB; rw [e1]
      by_cases hz : firstNot L 0 = 0 <;> simp [hz]
    obtain ⟨D, hD⟩ : ∃ D, doneR b s.act.n s.act.kind = D := ⟨_, rfl⟩
    have HD := Lib.hid hD
    have HDS := Lib.hid (show firstNot L 0 = 0 → doneB (dockOf p b s) s.act.kind = D from fun hz => by
      rw [← hD]; exact (done_same (p := p) (k := dockOf p b s) hbb hs0 ht (by rw [htr, hz])).symm)
    obtain ⟨xE, hxE⟩ : ∃ x, doE p b s = x := ⟨_, rfl⟩
    obtain ⟨xR, hxR⟩ : ∃ x, doRule p b s = x := ⟨_, rfl⟩
    obtain ⟨xB, hxB⟩ : ∃ x, doB p b s = x := ⟨_, rfl⟩
    rw [hxE] at e1 ⊢
    rw [hxR] at e2 ⊢
    rw [hxB] at e3 ⊢
    have HXE := Lib.hid e1
    have HXR := Lib.hid e2
    have HXB := Lib.hid e3
    clear e1 e2 e3 htr hL hD h hxE hxR hxB
    have n1 : ¬ s.act.kind < 1 := by omega
    have n2 : ¬ 13 < s.act.kind := by omega
    go_enter Try.func24, Try.ntmps24
    go_upto_region 9 with (first | (go_at_call 28; (with_reducible refine (r_CheckBerth a c e d p _ (hx.later (by (exact kpt)) (Nat.le_refl _)) hc hM (hy.later (by (exact kpt)) (Nat.le_refl _)) hd hN h1 h2 b hs0).mono ?_); rw [HCB.out]; rintro z w1 ⟨rfl, hb1⟩; refine Blk.thru (b := w.heap.size) (arr := ?_) (t := ?_) ?_ hb1 ?_; rotate_left 2; (focus (exact blk)); intro r0; have r0c0 := r0.cell 0; have r0f0 := r0.free 0; have r0c1 := r0.cell 1; have r0f1 := r0.free 1; have r0c2 := r0.cell 2; have r0f2 := r0.free 2; have r0c3 := r0.cell 3; have r0f3 := r0.free 3; have r0c4 := r0.cell 4; have r0f4 := r0.free 4; have r0l := r0.lt; simp at r0c0 r0c1 r0c2 r0c3 r0c4; refine Blk.thru (b := (w.heap.size + 1)) (arr := ?_) (t := ?_) ?_ hb1 ?_; rotate_left 2; (focus (exact blk)); intro r1; have r1c0 := r1.cell 0; have r1f0 := r1.free 0; have r1c1 := r1.cell 1; have r1f1 := r1.free 1; have r1c2 := r1.cell 2; have r1f2 := r1.free 2; have r1c3 := r1.cell 3; have r1f3 := r1.free 3; have r1c4 := r1.cell 4; have r1f4 := r1.free 4; have r1l := r1.lt; simp at r1c0 r1c1 r1c2 r1c3 r1c4; refine Blk.thru (b := (w.heap.size + 1 + 1)) (arr := ?_) (t := ?_) ?_ hb1 ?_; rotate_left 2; (focus (exact blk)); intro r2; have r2c0 := r2.cell 0; have r2f0 := r2.free 0; have r2c1 := r2.cell 1; have r2f1 := r2.free 1; have r2c2 := r2.cell 2; have r2f2 := r2.free 2; have r2c3 := r2.cell 3; have r2f3 := r2.free 3; have r2c4 := r2.cell 4; have r2f4 := r2.free 4; have r2c5 := r2.cell 5; have r2f5 := r2.free 5; have r2l := r2.lt; simp at r2c0 r2c1 r2c2 r2c3 r2c4 r2c5; refine Blk.thru (b := (w.heap.size + 1 + 1 + 1)) (arr := ?_) (t := ?_) ?_ hb1 ?_; rotate_left 2; (focus (exact blk)); intro r3; have r3c0 := r3.cell 0; have r3f0 := r3.free 0; have r3c1 := r3.cell 1; have r3f1 := r3.free 1; have r3c2 := r3.cell 2; have r3f2 := r3.free 2; have r3c3 := r3.cell 3; have r3f3 := r3.free 3; have r3c4 := r3.cell 4; have r3f4 := r3.free 4; have r3l := r3.lt; simp at r3c0 r3c1 r3c2 r3c3 r3c4) | (go_at_call 46; (with_reducible refine (r_Wind s.wind _).mono ?_); rw [HCW.out]; rintro z w2 ⟨rfl, hb2⟩; refine Blk.thru (b := w.heap.size) (arr := ?_) (t := ?_) ?_ hb2 ?_; rotate_left 2; (focus (exact blk)); intro r0; have r0c0 := r0.cell 0; have r0f0 := r0.free 0; have r0c1 := r0.cell 1; have r0f1 := r0.free 1; have r0c2 := r0.cell 2; have r0f2 := r0.free 2; have r0c3 := r0.cell 3; have r0f3 := r0.free 3; have r0c4 := r0.cell 4; have r0f4 := r0.free 4; have r0l := r0.lt; simp at r0c0 r0c1 r0c2 r0c3 r0c4; refine Blk.thru (b := (w.heap.size + 1)) (arr := ?_) (t := ?_) ?_ hb2 ?_; rotate_left 2; (focus (exact blk)); intro r1; have r1c0 := r1.cell 0; have r1f0 := r1.free 0; have r1c1 := r1.cell 1; have r1f1 := r1.free 1; have r1c2 := r1.cell 2; have r1f2 := r1.free 2; have r1c3 := r1.cell 3; have r1f3 := r1.free 3; have r1c4 := r1.cell 4; have r1f4 := r1.free 4; have r1l := r1.lt; simp at r1c0 r1c1 r1c2 r1c3 r1c4; refine Blk.thru (b := (w.heap.size + 1 + 1)) (arr := ?_) (t := ?_) ?_ hb2 ?_; rotate_left 2; (focus (exact blk)); intro r2; have r2c0 := r2.cell 0; have r2f0 := r2.free 0; have r2c1 := r2.cell 1; have r2f1 := r2.free 1; have r2c2 := r2.cell 2; have r2f2 := r2.free 2; have r2c3 := r2.cell 3; have r2f3 := r2.free 3; have r2c4 := r2.cell 4; have r2f4 := r2.free 4; have r2c5 := r2.cell 5; have r2f5 := r2.free 5; have r2l := r2.lt; simp at r2c0 r2c1 r2c2 r2c3 r2c4 r2c5; refine Blk.thru (b := (w.heap.size + 1 + 1 + 1)) (arr := ?_) (t := ?_) ?_ hb2 ?_; rotate_left 2; (focus (exact blk)); intro r3; have r3c0 := r3.cell 0; have r3f0 := r3.free 0; have r3c1 := r3.cell 1; have r3f1 := r3.free 1; have r3c2 := r3.cell 2; have r3f2 := r3.free 2; have r3c3 := r3.cell 3; have r3f3 := r3.free 3; have r3c4 := r3.cell 4; have r3f4 := r3.free 4; have r3l := r3.lt; simp at r3c0 r3c1 r3c2 r3c3 r3c4) | (go_at_call 66; (with_reducible refine (r_rules a c e d p _ (hx.later (by (exact kpt)) (Nat.le_refl _)) hc hM (hy.later (by (exact kpt)) (Nat.le_refl _)) hd hN h1 h2 b hs0 s hk0 hp hbb c2 ht).mono ?_); rw [show rulesOf p (dockOf p b s) s.act.kind = L from HL.out]; rintro z w4 ⟨gR, rfl, hg, hb4⟩))
    refine at_world (S := fun V => Blk V w.heap.size #[.slice a p.axes.length c, .int .i64 p.people, .int .i64 p.most, .slice e p.pulls.length d, .int .i64 p.cross] 45 ∧ Blk V (w.heap.size + 1) #[.int .u8 b.ship, .int .i64 b.axis, .int .i64 b.held, .bool b.wire, .bool b.opn] 59 ∧ Blk V (w.heap.size + 1 + 1) #[.int .u8 s.act.kind, .int .i64 s.act.n, .int .i64 s.wind.xlo, .int .i64 s.wind.xhi, .int .i64 s.wind.ylo, .int .i64 s.wind.yhi] 63 ∧ Blk V (w.heap.size + 1 + 1 + 1) #[.int .u8 0, .int .i64 0, .int .i64 0, .bool false, .bool false] 59 ∧ Blk V gR (L.map Value.bool).toArray 4 ∧ Kept w V) ⟨by (exact blk), by (exact blk), by (exact blk), by (exact blk), hg, by (exact kpt)⟩ ?_
    clear r0 r1 r2 r3 hg r0c0 r0f0 r0c1 r0f1 r0c2 r0f2 r0c3 r0f3 r0c4 r0f4 r1c0 r1f0 r1c1 r1f1 r1c2 r1f2 r1c3 r1f3 r1c4 r1f4 r2c0 r2f0 r2c1 r2f1 r2c2 r2f2 r2c3 r2f3 r2c4 r2f4 r2c5 r2f5 r3c0 r3f0 r3c1 r3f1 r3c2 r3f2 r3c3 r3f3 r3c4 r3f4 r0l r1l r2l r3l
    rintro W ⟨r0, r1, r2, r3, hg, hk⟩
    go_wp2
    go_loopw [11] (fun i wr => ∃ j : Nat, j ≤ L.length ∧ i = .int .i64 j ∧ (∀ q (hq : q < j) (hq2 : q < L.length), L[q] = true) ∧ Blk wr w.heap.size #[.slice a p.axes.length c, .int .i64 p.people, .int .i64 p.most, .slice e p.pulls.length d, .int .i64 p.cross] 45 ∧ Blk wr (w.heap.size + 1) #[.int .u8 b.ship, .int .i64 b.axis, .int .i64 b.held, .bool b.wire, .bool b.opn] 59 ∧ Blk wr (w.heap.size + 1 + 1) #[.int .u8 s.act.kind, .int .i64 s.act.n, .int .i64 s.wind.xlo, .int .i64 s.wind.xhi, .int .i64 s.wind.ylo, .int .i64 s.wind.yhi] 63 ∧ Blk wr (w.heap.size + 1 + 1 + 1) #[.int .u8 0, .int .i64 0, .int .i64 0, .bool false, .bool false] 59 ∧ Blk wr gR (L.map Value.bool).toArray 4 ∧ Kept w wr) (fun i _ => L.length - (intOf i).toNat)
    case atStart => exact ⟨0, Nat.zero_le _, rfl, fun q hq => by omega, r0, r1, r2, r3, hg, hk⟩
    case round =>
      clear r0 r1 r2 r3 hg hk
      obtain ⟨j, hj, rfl, hall, r0, r1, r2, r3, hg, hk⟩ := hrel
      have r0c0 := r0.cell 0
      have r0c1 := r0.cell 1
      have r0c2 := r0.cell 2
      have r0c3 := r0.cell 3
      have r0c4 := r0.cell 4
      have r0f0 := r0.free 0
      have r0f1 := r0.free 1
      have r0f2 := r0.free 2
      have r0f3 := r0.free 3
      have r0f4 := r0.free 4
      have r0l := r0.lt
      simp at r0c0 r0c1 r0c2 r0c3 r0c4
      have r1c0 := r1.cell 0
      have r1c1 := r1.cell 1
      have r1c2 := r1.cell 2
      have r1c3 := r1.cell 3
      have r1c4 := r1.cell 4
      have r1f0 := r1.free 0
      have r1f1 := r1.free 1
      have r1f2 := r1.free 2
      have r1f3 := r1.free 3
      have r1f4 := r1.free 4
      have r1l := r1.lt
      simp at r1c0 r1c1 r1c2 r1c3 r1c4
      have r2c0 := r2.cell 0
      have r2c1 := r2.cell 1
      have r2c2 := r2.cell 2
      have r2c3 := r2.cell 3
      have r2c4 := r2.cell 4
      have r2c5 := r2.cell 5
      have r2f0 := r2.free 0
      have r2f1 := r2.free 1
      have r2f2 := r2.free 2
      have r2f3 := r2.free 3
      have r2f4 := r2.free 4
      have r2f5 := r2.free 5
      have r2l := r2.lt
      simp at r2c0 r2c1 r2c2 r2c3 r2c4 r2c5
      have r3c0 := r3.cell 0
      have r3c1 := r3.cell 1
      have r3c2 := r3.cell 2
      have r3c3 := r3.cell 3
      have r3c4 := r3.cell 4
      have r3f0 := r3.free 0
      have r3f1 := r3.free 1
      have r3f2 := r3.free 2
      have r3f3 := r3.free 3
      have r3f4 := r3.free 4
      have r3l := r3.lt
      simp at r3c0 r3c1 r3c2 r3c3 r3c4
      by_cases hlt : j < L.length
      · have gc := hg.cell j
        have gl := hg.lt
        have gc2 : wr.cell? ⟨gR, j, none⟩ = some (.bool L[j]) := by rw [gc]; simp [hlt]
        clear gc
        have HALL := Lib.hid hall
        clear hall
        have j0 : (0 : Int) ≤ (j : Int) := by omega
        have j1 : (j : Int) < (L.length : Int) := by omega
        obtain ⟨V, hV⟩ : ∃ V, V = L[j] := ⟨_, rfl⟩
        have HV := Lib.hid hV
        rw [← hV] at gc2
        clear hV
        cases V with
        | false =>
          have HRES := Lib.hid (show firstNot L 0 = ((j + 1 : Nat) : Int) by rw [firstNot_at hlt (fun q hq => HALL.out q hq (by omega)) HV.out.symm]; simp)
          go_wp2
          exact bodyPost_ret (v := .tuple #[.agg #[.int .u8 xB.ship, .int .i64 xB.axis, .int .i64 xB.held, .bool xB.wire, .bool xB.opn], .int .i64 xR, .int .i64 xE]) (by rw [show xR = ((j + 1 : Nat) : Int) from HXR.out.trans HRES.out, show xE = 74 by (rw [HXE.out, HRES.out, if_neg (by omega)]), show xB = noBerth by (rw [HXB.out, HRES.out, if_neg (by omega)])]; first | (simp [results, Try.results24, go_sem, noBerth, r3c0, r3c1, r3c2, r3c3, r3c4, r3l]; done) | (simp [results, Try.results24, go_sem, noBerth, r3c0, r3c1, r3c2, r3c3, r3c4, r3l]; omega)) rfl ⟨rfl, by (exact kpt)⟩
        | true =>
          go_wp2
          go_roundw
          case rel => exact ⟨j + 1, by omega, by go_num, fun q hq hq2 => (Nat.lt_or_ge q j).elim (fun h => HALL.out q h hq2) (fun h => (by obtain rfl : q = j := (by omega); exact HV.out.symm)), r0, r1, r2, r3, hg, hk⟩
          case measure => simp [intOf]; omega
      · obtain rfl : L.length = j := by omega
        have HRES := Lib.hid (show firstNot L 0 = 0 from firstNot_all (fun x hx => by
          obtain ⟨i, hi, rfl⟩ := List.mem_iff_getElem.1 hx
          exact hall i (by omega) hi))
        clear hall
        go_wp2_with (go_at_call 67; (with_reducible refine (r_done b s.act.kind s.act.n _ ht).mono ?_); rw [show doneR b s.act.n s.act.kind = D from HD.out]; rintro z w5 ⟨rfl, hb5⟩; refine Blk.thru (b := (w.heap.size + 1 + 1 + 1)) (arr := ?_) (t := ?_) ?_ hb5 ?_; rotate_left 2; (focus (exact blk)); intro r3; have r3c0 := r3.cell 0; have r3f0 := r3.free 0; have r3c1 := r3.cell 1; have r3f1 := r3.free 1; have r3c2 := r3.cell 2; have r3f2 := r3.free 2; have r3c3 := r3.cell 3; have r3f3 := r3.free 3; have r3c4 := r3.cell 4; have r3f4 := r3.free 4; have r3l := r3.lt; simp at r3c0 r3c1 r3c2 r3c3 r3c4)
        exact bodyPost_ret (v := .tuple #[.agg #[.int .u8 xB.ship, .int .i64 xB.axis, .int .i64 xB.held, .bool xB.wire, .bool xB.opn], .int .i64 xR, .int .i64 xE]) (by rw [show xR = 0 from HXR.out.trans HRES.out, show xE = 0 by (rw [HXE.out, HRES.out, if_pos rfl]), show xB = D by (rw [HXB.out, HRES.out, if_pos rfl]; exact HDS.out HRES.out)]; first | (simp [results, Try.results24, go_sem, noBerth, r3c0, r3c1, r3c2, r3c3, r3c4, r3l]; done) | (simp [results, Try.results24, go_sem, noBerth, r3c0, r3c1, r3c2, r3c3, r3c4, r3l]; omega)) rfl ⟨rfl, by (exact kpt)⟩
  · obtain ⟨E, hE⟩ : ∃ E, doErr p b s = E := ⟨_, rfl⟩
    have e1 : doE p b s = E := by unfold doE; rw [if_neg h, hE]
    have e2 : doRule p b s = 0 := by unfold doRule; rw [if_neg h]
    have e3 : doB p b s = noBerth := by unfold doB; rw [e1, if_neg (by rw [← hE]; exact h)]
    rw [e1, e2, e3]
    clear e1 e2 e3
    unfold doErr at hE h
    by_cases c1 : checkBerth p b = 0
    · rw [if_pos c1] at hE h
      have HCB := Lib.hid c1
      cases c2 : windB s.wind
      · rw [c2] at hE
        simp at hE
        subst hE
        have HCW := Lib.hid c2
        clear h c1 c2
        go_enter Try.func24, Try.ntmps24
        go_wp2_with (first | (go_at_call 28; (with_reducible refine (r_CheckBerth a c e d p _ (hx.later (by (exact kpt)) (Nat.le_refl _)) hc hM (hy.later (by (exact kpt)) (Nat.le_refl _)) hd hN h1 h2 b hs0).mono ?_); rw [HCB.out]; rintro z w1 ⟨rfl, hb1⟩; refine Blk.thru (b := w.heap.size) (arr := ?_) (t := ?_) ?_ hb1 ?_; rotate_left 2; (focus (exact blk)); intro r0; have r0c0 := r0.cell 0; have r0f0 := r0.free 0; have r0c1 := r0.cell 1; have r0f1 := r0.free 1; have r0c2 := r0.cell 2; have r0f2 := r0.free 2; have r0c3 := r0.cell 3; have r0f3 := r0.free 3; have r0c4 := r0.cell 4; have r0f4 := r0.free 4; have r0l := r0.lt; simp at r0c0 r0c1 r0c2 r0c3 r0c4; refine Blk.thru (b := (w.heap.size + 1)) (arr := ?_) (t := ?_) ?_ hb1 ?_; rotate_left 2; (focus (exact blk)); intro r1; have r1c0 := r1.cell 0; have r1f0 := r1.free 0; have r1c1 := r1.cell 1; have r1f1 := r1.free 1; have r1c2 := r1.cell 2; have r1f2 := r1.free 2; have r1c3 := r1.cell 3; have r1f3 := r1.free 3; have r1c4 := r1.cell 4; have r1f4 := r1.free 4; have r1l := r1.lt; simp at r1c0 r1c1 r1c2 r1c3 r1c4; refine Blk.thru (b := (w.heap.size + 1 + 1)) (arr := ?_) (t := ?_) ?_ hb1 ?_; rotate_left 2; (focus (exact blk)); intro r2; have r2c0 := r2.cell 0; have r2f0 := r2.free 0; have r2c1 := r2.cell 1; have r2f1 := r2.free 1; have r2c2 := r2.cell 2; have r2f2 := r2.free 2; have r2c3 := r2.cell 3; have r2f3 := r2.free 3; have r2c4 := r2.cell 4; have r2f4 := r2.free 4; have r2c5 := r2.cell 5; have r2f5 := r2.free 5; have r2l := r2.lt; simp at r2c0 r2c1 r2c2 r2c3 r2c4 r2c5; refine Blk.thru (b := (w.heap.size + 1 + 1 + 1)) (arr := ?_) (t := ?_) ?_ hb1 ?_; rotate_left 2; (focus (exact blk)); intro r3; have r3c0 := r3.cell 0; have r3f0 := r3.free 0; have r3c1 := r3.cell 1; have r3f1 := r3.free 1; have r3c2 := r3.cell 2; have r3f2 := r3.free 2; have r3c3 := r3.cell 3; have r3f3 := r3.free 3; have r3c4 := r3.cell 4; have r3f4 := r3.free 4; have r3l := r3.lt; simp at r3c0 r3c1 r3c2 r3c3 r3c4) | (go_at_call 46; (with_reducible refine (r_Wind s.wind _).mono ?_); rw [HCW.out]; rintro z w2 ⟨rfl, hb2⟩; refine Blk.thru (b := w.heap.size) (arr := ?_) (t := ?_) ?_ hb2 ?_; rotate_left 2; (focus (exact blk)); intro r0; have r0c0 := r0.cell 0; have r0f0 := r0.free 0; have r0c1 := r0.cell 1; have r0f1 := r0.free 1; have r0c2 := r0.cell 2; have r0f2 := r0.free 2; have r0c3 := r0.cell 3; have r0f3 := r0.free 3; have r0c4 := r0.cell 4; have r0f4 := r0.free 4; have r0l := r0.lt; simp at r0c0 r0c1 r0c2 r0c3 r0c4; refine Blk.thru (b := (w.heap.size + 1)) (arr := ?_) (t := ?_) ?_ hb2 ?_; rotate_left 2; (focus (exact blk)); intro r1; have r1c0 := r1.cell 0; have r1f0 := r1.free 0; have r1c1 := r1.cell 1; have r1f1 := r1.free 1; have r1c2 := r1.cell 2; have r1f2 := r1.free 2; have r1c3 := r1.cell 3; have r1f3 := r1.free 3; have r1c4 := r1.cell 4; have r1f4 := r1.free 4; have r1l := r1.lt; simp at r1c0 r1c1 r1c2 r1c3 r1c4; refine Blk.thru (b := (w.heap.size + 1 + 1)) (arr := ?_) (t := ?_) ?_ hb2 ?_; rotate_left 2; (focus (exact blk)); intro r2; have r2c0 := r2.cell 0; have r2f0 := r2.free 0; have r2c1 := r2.cell 1; have r2f1 := r2.free 1; have r2c2 := r2.cell 2; have r2f2 := r2.free 2; have r2c3 := r2.cell 3; have r2f3 := r2.free 3; have r2c4 := r2.cell 4; have r2f4 := r2.free 4; have r2c5 := r2.cell 5; have r2f5 := r2.free 5; have r2l := r2.lt; simp at r2c0 r2c1 r2c2 r2c3 r2c4 r2c5; refine Blk.thru (b := (w.heap.size + 1 + 1 + 1)) (arr := ?_) (t := ?_) ?_ hb2 ?_; rotate_left 2; (focus (exact blk)); intro r3; have r3c0 := r3.cell 0; have r3f0 := r3.free 0; have r3c1 := r3.cell 1; have r3f1 := r3.free 1; have r3c2 := r3.cell 2; have r3f2 := r3.free 2; have r3c3 := r3.cell 3; have r3f3 := r3.free 3; have r3c4 := r3.cell 4; have r3f4 := r3.free 4; have r3l := r3.lt; simp at r3c0 r3c1 r3c2 r3c3 r3c4))
        exact bodyPost_ret (v := .tuple #[.agg #[.int .u8 noBerth.ship, .int .i64 noBerth.axis, .int .i64 noBerth.held, .bool noBerth.wire, .bool noBerth.opn], .int .i64 0, .int .i64 71]) (by first | (simp [results, Try.results24, go_sem, noBerth, r3c0, r3c1, r3c2, r3c3, r3c4, r3l]; done) | (simp [results, Try.results24, go_sem, noBerth, r3c0, r3c1, r3c2, r3c3, r3c4, r3l]; omega)) rfl ⟨rfl, by (exact kpt)⟩
      · rw [c2] at hE h
        have hkn : ¬ (1 ≤ s.act.kind ∧ s.act.kind ≤ 13) := fun hq => h (by rw [if_pos rfl, if_pos (inB_iff.2 hq)])
        rw [if_pos rfl, if_neg (by rw [inB_iff]; exact hkn)] at hE
        subst hE
        have HCW := Lib.hid c2
        clear h c1 c2
        by_cases n1 : s.act.kind < 1
        · clear hkn
          go_enter Try.func24, Try.ntmps24
          go_wp2_with (first | (go_at_call 28; (with_reducible refine (r_CheckBerth a c e d p _ (hx.later (by (exact kpt)) (Nat.le_refl _)) hc hM (hy.later (by (exact kpt)) (Nat.le_refl _)) hd hN h1 h2 b hs0).mono ?_); rw [HCB.out]; rintro z w1 ⟨rfl, hb1⟩; refine Blk.thru (b := w.heap.size) (arr := ?_) (t := ?_) ?_ hb1 ?_; rotate_left 2; (focus (exact blk)); intro r0; have r0c0 := r0.cell 0; have r0f0 := r0.free 0; have r0c1 := r0.cell 1; have r0f1 := r0.free 1; have r0c2 := r0.cell 2; have r0f2 := r0.free 2; have r0c3 := r0.cell 3; have r0f3 := r0.free 3; have r0c4 := r0.cell 4; have r0f4 := r0.free 4; have r0l := r0.lt; simp at r0c0 r0c1 r0c2 r0c3 r0c4; refine Blk.thru (b := (w.heap.size + 1)) (arr := ?_) (t := ?_) ?_ hb1 ?_; rotate_left 2; (focus (exact blk)); intro r1; have r1c0 := r1.cell 0; have r1f0 := r1.free 0; have r1c1 := r1.cell 1; have r1f1 := r1.free 1; have r1c2 := r1.cell 2; have r1f2 := r1.free 2; have r1c3 := r1.cell 3; have r1f3 := r1.free 3; have r1c4 := r1.cell 4; have r1f4 := r1.free 4; have r1l := r1.lt; simp at r1c0 r1c1 r1c2 r1c3 r1c4; refine Blk.thru (b := (w.heap.size + 1 + 1)) (arr := ?_) (t := ?_) ?_ hb1 ?_; rotate_left 2; (focus (exact blk)); intro r2; have r2c0 := r2.cell 0; have r2f0 := r2.free 0; have r2c1 := r2.cell 1; have r2f1 := r2.free 1; have r2c2 := r2.cell 2; have r2f2 := r2.free 2; have r2c3 := r2.cell 3; have r2f3 := r2.free 3; have r2c4 := r2.cell 4; have r2f4 := r2.free 4; have r2c5 := r2.cell 5; have r2f5 := r2.free 5; have r2l := r2.lt; simp at r2c0 r2c1 r2c2 r2c3 r2c4 r2c5; refine Blk.thru (b := (w.heap.size + 1 + 1 + 1)) (arr := ?_) (t := ?_) ?_ hb1 ?_; rotate_left 2; (focus (exact blk)); intro r3; have r3c0 := r3.cell 0; have r3f0 := r3.free 0; have r3c1 := r3.cell 1; have r3f1 := r3.free 1; have r3c2 := r3.cell 2; have r3f2 := r3.free 2; have r3c3 := r3.cell 3; have r3f3 := r3.free 3; have r3c4 := r3.cell 4; have r3f4 := r3.free 4; have r3l := r3.lt; simp at r3c0 r3c1 r3c2 r3c3 r3c4) | (go_at_call 46; (with_reducible refine (r_Wind s.wind _).mono ?_); rw [HCW.out]; rintro z w2 ⟨rfl, hb2⟩; refine Blk.thru (b := w.heap.size) (arr := ?_) (t := ?_) ?_ hb2 ?_; rotate_left 2; (focus (exact blk)); intro r0; have r0c0 := r0.cell 0; have r0f0 := r0.free 0; have r0c1 := r0.cell 1; have r0f1 := r0.free 1; have r0c2 := r0.cell 2; have r0f2 := r0.free 2; have r0c3 := r0.cell 3; have r0f3 := r0.free 3; have r0c4 := r0.cell 4; have r0f4 := r0.free 4; have r0l := r0.lt; simp at r0c0 r0c1 r0c2 r0c3 r0c4; refine Blk.thru (b := (w.heap.size + 1)) (arr := ?_) (t := ?_) ?_ hb2 ?_; rotate_left 2; (focus (exact blk)); intro r1; have r1c0 := r1.cell 0; have r1f0 := r1.free 0; have r1c1 := r1.cell 1; have r1f1 := r1.free 1; have r1c2 := r1.cell 2; have r1f2 := r1.free 2; have r1c3 := r1.cell 3; have r1f3 := r1.free 3; have r1c4 := r1.cell 4; have r1f4 := r1.free 4; have r1l := r1.lt; simp at r1c0 r1c1 r1c2 r1c3 r1c4; refine Blk.thru (b := (w.heap.size + 1 + 1)) (arr := ?_) (t := ?_) ?_ hb2 ?_; rotate_left 2; (focus (exact blk)); intro r2; have r2c0 := r2.cell 0; have r2f0 := r2.free 0; have r2c1 := r2.cell 1; have r2f1 := r2.free 1; have r2c2 := r2.cell 2; have r2f2 := r2.free 2; have r2c3 := r2.cell 3; have r2f3 := r2.free 3; have r2c4 := r2.cell 4; have r2f4 := r2.free 4; have r2c5 := r2.cell 5; have r2f5 := r2.free 5; have r2l := r2.lt; simp at r2c0 r2c1 r2c2 r2c3 r2c4 r2c5; refine Blk.thru (b := (w.heap.size + 1 + 1 + 1)) (arr := ?_) (t := ?_) ?_ hb2 ?_; rotate_left 2; (focus (exact blk)); intro r3; have r3c0 := r3.cell 0; have r3f0 := r3.free 0; have r3c1 := r3.cell 1; have r3f1 := r3.free 1; have r3c2 := r3.cell 2; have r3f2 := r3.free 2; have r3c3 := r3.cell 3; have r3f3 := r3.free 3; have r3c4 := r3.cell 4; have r3f4 := r3.free 4; have r3l := r3.lt; simp at r3c0 r3c1 r3c2 r3c3 r3c4))
          exact bodyPost_ret (v := .tuple #[.agg #[.int .u8 noBerth.ship, .int .i64 noBerth.axis, .int .i64 noBerth.held, .bool noBerth.wire, .bool noBerth.opn], .int .i64 0, .int .i64 2]) (by first | (simp [results, Try.results24, go_sem, noBerth, r3c0, r3c1, r3c2, r3c3, r3c4, r3l]; done) | (simp [results, Try.results24, go_sem, noBerth, r3c0, r3c1, r3c2, r3c3, r3c4, r3l]; omega)) rfl ⟨rfl, by (exact kpt)⟩
        · have n2 : 13 < s.act.kind := by omega
          clear hkn
          go_enter Try.func24, Try.ntmps24
          go_wp2_with (first | (go_at_call 28; (with_reducible refine (r_CheckBerth a c e d p _ (hx.later (by (exact kpt)) (Nat.le_refl _)) hc hM (hy.later (by (exact kpt)) (Nat.le_refl _)) hd hN h1 h2 b hs0).mono ?_); rw [HCB.out]; rintro z w1 ⟨rfl, hb1⟩; refine Blk.thru (b := w.heap.size) (arr := ?_) (t := ?_) ?_ hb1 ?_; rotate_left 2; (focus (exact blk)); intro r0; have r0c0 := r0.cell 0; have r0f0 := r0.free 0; have r0c1 := r0.cell 1; have r0f1 := r0.free 1; have r0c2 := r0.cell 2; have r0f2 := r0.free 2; have r0c3 := r0.cell 3; have r0f3 := r0.free 3; have r0c4 := r0.cell 4; have r0f4 := r0.free 4; have r0l := r0.lt; simp at r0c0 r0c1 r0c2 r0c3 r0c4; refine Blk.thru (b := (w.heap.size + 1)) (arr := ?_) (t := ?_) ?_ hb1 ?_; rotate_left 2; (focus (exact blk)); intro r1; have r1c0 := r1.cell 0; have r1f0 := r1.free 0; have r1c1 := r1.cell 1; have r1f1 := r1.free 1; have r1c2 := r1.cell 2; have r1f2 := r1.free 2; have r1c3 := r1.cell 3; have r1f3 := r1.free 3; have r1c4 := r1.cell 4; have r1f4 := r1.free 4; have r1l := r1.lt; simp at r1c0 r1c1 r1c2 r1c3 r1c4; refine Blk.thru (b := (w.heap.size + 1 + 1)) (arr := ?_) (t := ?_) ?_ hb1 ?_; rotate_left 2; (focus (exact blk)); intro r2; have r2c0 := r2.cell 0; have r2f0 := r2.free 0; have r2c1 := r2.cell 1; have r2f1 := r2.free 1; have r2c2 := r2.cell 2; have r2f2 := r2.free 2; have r2c3 := r2.cell 3; have r2f3 := r2.free 3; have r2c4 := r2.cell 4; have r2f4 := r2.free 4; have r2c5 := r2.cell 5; have r2f5 := r2.free 5; have r2l := r2.lt; simp at r2c0 r2c1 r2c2 r2c3 r2c4 r2c5; refine Blk.thru (b := (w.heap.size + 1 + 1 + 1)) (arr := ?_) (t := ?_) ?_ hb1 ?_; rotate_left 2; (focus (exact blk)); intro r3; have r3c0 := r3.cell 0; have r3f0 := r3.free 0; have r3c1 := r3.cell 1; have r3f1 := r3.free 1; have r3c2 := r3.cell 2; have r3f2 := r3.free 2; have r3c3 := r3.cell 3; have r3f3 := r3.free 3; have r3c4 := r3.cell 4; have r3f4 := r3.free 4; have r3l := r3.lt; simp at r3c0 r3c1 r3c2 r3c3 r3c4) | (go_at_call 46; (with_reducible refine (r_Wind s.wind _).mono ?_); rw [HCW.out]; rintro z w2 ⟨rfl, hb2⟩; refine Blk.thru (b := w.heap.size) (arr := ?_) (t := ?_) ?_ hb2 ?_; rotate_left 2; (focus (exact blk)); intro r0; have r0c0 := r0.cell 0; have r0f0 := r0.free 0; have r0c1 := r0.cell 1; have r0f1 := r0.free 1; have r0c2 := r0.cell 2; have r0f2 := r0.free 2; have r0c3 := r0.cell 3; have r0f3 := r0.free 3; have r0c4 := r0.cell 4; have r0f4 := r0.free 4; have r0l := r0.lt; simp at r0c0 r0c1 r0c2 r0c3 r0c4; refine Blk.thru (b := (w.heap.size + 1)) (arr := ?_) (t := ?_) ?_ hb2 ?_; rotate_left 2; (focus (exact blk)); intro r1; have r1c0 := r1.cell 0; have r1f0 := r1.free 0; have r1c1 := r1.cell 1; have r1f1 := r1.free 1; have r1c2 := r1.cell 2; have r1f2 := r1.free 2; have r1c3 := r1.cell 3; have r1f3 := r1.free 3; have r1c4 := r1.cell 4; have r1f4 := r1.free 4; have r1l := r1.lt; simp at r1c0 r1c1 r1c2 r1c3 r1c4; refine Blk.thru (b := (w.heap.size + 1 + 1)) (arr := ?_) (t := ?_) ?_ hb2 ?_; rotate_left 2; (focus (exact blk)); intro r2; have r2c0 := r2.cell 0; have r2f0 := r2.free 0; have r2c1 := r2.cell 1; have r2f1 := r2.free 1; have r2c2 := r2.cell 2; have r2f2 := r2.free 2; have r2c3 := r2.cell 3; have r2f3 := r2.free 3; have r2c4 := r2.cell 4; have r2f4 := r2.free 4; have r2c5 := r2.cell 5; have r2f5 := r2.free 5; have r2l := r2.lt; simp at r2c0 r2c1 r2c2 r2c3 r2c4 r2c5; refine Blk.thru (b := (w.heap.size + 1 + 1 + 1)) (arr := ?_) (t := ?_) ?_ hb2 ?_; rotate_left 2; (focus (exact blk)); intro r3; have r3c0 := r3.cell 0; have r3f0 := r3.free 0; have r3c1 := r3.cell 1; have r3f1 := r3.free 1; have r3c2 := r3.cell 2; have r3f2 := r3.free 2; have r3c3 := r3.cell 3; have r3f3 := r3.free 3; have r3c4 := r3.cell 4; have r3f4 := r3.free 4; have r3l := r3.lt; simp at r3c0 r3c1 r3c2 r3c3 r3c4))
          exact bodyPost_ret (v := .tuple #[.agg #[.int .u8 noBerth.ship, .int .i64 noBerth.axis, .int .i64 noBerth.held, .bool noBerth.wire, .bool noBerth.opn], .int .i64 0, .int .i64 2]) (by first | (simp [results, Try.results24, go_sem, noBerth, r3c0, r3c1, r3c2, r3c3, r3c4, r3l]; done) | (simp [results, Try.results24, go_sem, noBerth, r3c0, r3c1, r3c2, r3c3, r3c4, r3l]; omega)) rfl ⟨rfl, by (exact kpt)⟩
    · rw [if_neg c1] at hE
      have HCB := Lib.hid hE
      have hE0 : ¬ E = 0 := by rw [← hE]; exact c1
      have hEb : (E == 0) = false := beq_eq_false_iff_ne.2 hE0
      clear h c1 hE
      go_enter Try.func24, Try.ntmps24
      go_wp2_with (go_at_call 28; (with_reducible refine (r_CheckBerth a c e d p _ (hx.later (by (exact kpt)) (Nat.le_refl _)) hc hM (hy.later (by (exact kpt)) (Nat.le_refl _)) hd hN h1 h2 b hs0).mono ?_); rw [HCB.out]; rintro z w1 ⟨rfl, hb1⟩; refine Blk.thru (b := w.heap.size) (arr := ?_) (t := ?_) ?_ hb1 ?_; rotate_left 2; (focus (exact blk)); intro r0; have r0c0 := r0.cell 0; have r0f0 := r0.free 0; have r0c1 := r0.cell 1; have r0f1 := r0.free 1; have r0c2 := r0.cell 2; have r0f2 := r0.free 2; have r0c3 := r0.cell 3; have r0f3 := r0.free 3; have r0c4 := r0.cell 4; have r0f4 := r0.free 4; have r0l := r0.lt; simp at r0c0 r0c1 r0c2 r0c3 r0c4; refine Blk.thru (b := (w.heap.size + 1)) (arr := ?_) (t := ?_) ?_ hb1 ?_; rotate_left 2; (focus (exact blk)); intro r1; have r1c0 := r1.cell 0; have r1f0 := r1.free 0; have r1c1 := r1.cell 1; have r1f1 := r1.free 1; have r1c2 := r1.cell 2; have r1f2 := r1.free 2; have r1c3 := r1.cell 3; have r1f3 := r1.free 3; have r1c4 := r1.cell 4; have r1f4 := r1.free 4; have r1l := r1.lt; simp at r1c0 r1c1 r1c2 r1c3 r1c4; refine Blk.thru (b := (w.heap.size + 1 + 1)) (arr := ?_) (t := ?_) ?_ hb1 ?_; rotate_left 2; (focus (exact blk)); intro r2; have r2c0 := r2.cell 0; have r2f0 := r2.free 0; have r2c1 := r2.cell 1; have r2f1 := r2.free 1; have r2c2 := r2.cell 2; have r2f2 := r2.free 2; have r2c3 := r2.cell 3; have r2f3 := r2.free 3; have r2c4 := r2.cell 4; have r2f4 := r2.free 4; have r2c5 := r2.cell 5; have r2f5 := r2.free 5; have r2l := r2.lt; simp at r2c0 r2c1 r2c2 r2c3 r2c4 r2c5; refine Blk.thru (b := (w.heap.size + 1 + 1 + 1)) (arr := ?_) (t := ?_) ?_ hb1 ?_; rotate_left 2; (focus (exact blk)); intro r3; have r3c0 := r3.cell 0; have r3f0 := r3.free 0; have r3c1 := r3.cell 1; have r3f1 := r3.free 1; have r3c2 := r3.cell 2; have r3f2 := r3.free 2; have r3c3 := r3.cell 3; have r3f3 := r3.free 3; have r3c4 := r3.cell 4; have r3f4 := r3.free 4; have r3l := r3.lt; simp at r3c0 r3c1 r3c2 r3c3 r3c4)
      exact bodyPost_ret (v := .tuple #[.agg #[.int .u8 noBerth.ship, .int .i64 noBerth.axis, .int .i64 noBerth.held, .bool noBerth.wire, .bool noBerth.opn], .int .i64 0, .int .i64 E]) (by first | (simp [results, Try.results24, go_sem, noBerth, r3c0, r3c1, r3c2, r3c3, r3c4, r3l]; done) | (simp [results, Try.results24, go_sem, noBerth, r3c0, r3c1, r3c2, r3c3, r3c4, r3l]; omega)) rfl ⟨rfl, by (exact kpt)⟩

end Go.Proofs.Ytacbkbilbmkjnaa

/-
  Manned lines, in the program and in the reference.
-/
namespace Go.Proofs.Ytacbkbilbmkjnaa
open Go.RowKit Bal Bal.Trim Bal.Mast
set_option linter.unusedVariables false
set_option linter.unusedSimpArgs false
set_option maxHeartbeats 4000000
set_option maxRecDepth 10000

theorem fm_icell (ls : List Int) : ls.flatMap icell = ls.map fun y => Value.int .i64 y := by
  induction ls with
  | nil => rfl
  | cons y ys ih => simp [icell, List.flatMap_cons] at *; exact ih
theorem own_blk {W : World} {base n cp g : Nat} {e : TypeId} {ls : List Int} (h : W.ownsRow base e 1 (.slice (some ⟨g, 0, none⟩) n cp) ls.length (ls.flatMap icell)) : base ≤ g ∧ ∃ cur, Blk W g cur e := by
  obtain ⟨h1, ⟨hv, _⟩ | ⟨g', cap, cur, hv, hb, hh, hn, hc, hs, ht⟩⟩ := h
  · cases hv
  · cases hv
    exact ⟨hb, cur, hh⟩
theorem own_put {W : World} {base n cp g q : Nat} {e : TypeId} {ls : List Int} (h : W.ownsRow base e 1 (.slice (some ⟨g, 0, none⟩) n cp) ls.length (ls.flatMap icell)) (y : Int) :
    (W.setCell ⟨g, q, none⟩ (.int .i64 y)).ownsRow base e 1 (.slice (some ⟨g, 0, none⟩) n cp) (ls.set q y).length ((ls.set q y).flatMap icell) := by
  obtain ⟨h1, ⟨hv, _⟩ | ⟨g', cap, cur, hv, hb, hh, hn, hc, hs, ht⟩⟩ := h
  · cases hv
  · have hn2 : n = ls.length := by cases hv; rfl
    have hg : g' = g := by cases hv; rfl
    subst hg
    refine ⟨by rw [fm_icell]; simp, .inr ⟨g', cap, cur.setIfInBounds q (.int .i64 y), by rw [hv]; simp, hb, Blk.set (show Blk W g' cur e from hh) q _, by simpa using hn, hc, by simpa using hs, ?_⟩⟩
    rw [fm_icell] at ht ⊢
    simp only [Array.toList_setIfInBounds, List.length_set, List.take_set, ht, List.map_set]
theorem own_at {W : World} {base n cp : Nat} {ad : Option Addr} {e : TypeId} {ls : List Int} (h : W.ownsRow base e 1 (.slice ad n cp) ls.length (ls.flatMap icell)) : n = ls.length ∧ Row icell 1 W.heap.size W ad ls ∧ ls.length ≤ cp ∧ cp ≤ maxLen := by
  obtain ⟨a, c, hv, h1, h2, h3⟩ := owns_row (enc := icell) (k := 1) (fun _ => rfl) h
  cases hv
  exact ⟨rfl, h1, h2, h3⟩
theorem pick_succ {xs : List Span} {ls : List Int} {k : Nat} (hk : k < xs.length) (hk' : k < ls.length) :
    (xs[k].hi = 0 → pick xs ls (k + 1) = pick xs ls k) ∧ (xs[k].hi ≠ 0 → pick xs ls k < 0 → pick xs ls (k + 1) = k) ∧
    (∀ q : Nat, (hq : q < xs.length) → (hq' : q < ls.length) → pick xs ls k = q → xs[k].hi ≠ 0 → pick xs ls (k + 1) = if xs[q].hi * ls[k] < xs[k].hi * ls[q] then (k : Int) else q) := by
  have e1 : xs.getD k default = xs[k] := by simp [hk]
  have e2 : ls.getD k 0 = ls[k] := by simp [hk']
  refine ⟨fun h => ?_, fun h h' => ?_, fun q hq hq' hp h => ?_⟩
  · simp only [pick, e1, h, if_true]
  · simp only [pick, e1, h, if_false, h', true_or, if_true]
  · have e3 : xs.getD q default = xs[q] := by simp [hq]
    have e4 : ls.getD q 0 = ls[q] := by simp [hq']
    have hneg : ¬ ((q : Nat) : Int) < 0 := by omega
    simp only [pick, e1, e2, h, if_false, hp, hneg, false_or, Int.toNat_natCast, e3, e4]

theorem f_Man_bad (a : Option Addr) (cap : Nat) (xs : List Span) (p m : Int) (w : World) (hx : Row Span.cells 2 w.heap.size w a xs) (hc : xs.length ≤ cap) (hM : cap ≤ maxLen) (hn : xs.length ≤ 1000000) (h : manOk xs p m = false) :
    Calls Try.prog 20 #[.slice a xs.length cap, .int .i64 p, .int .i64 m] w fun e w' => e = .returned (.tuple #[.slice none 0 0, .int .i64 2]) ∧ Kept w w' := by
  unfold maxLen at hM
  unfold manOk at h
  cases hl : linesB xs
  · have HL := Lib.hid hl
    clear hl h
    go_enter Try.func20, Try.ntmps20
    go_wp2
    refine wp_scope_straight ?_
    go_wp2_with (first | (go_at_call 58; (with_reducible refine (f_lines _ _ _ _ (hx.later (by (exact kpt)) (Nat.le_refl _)) hn).mono ?_); rw [HL.out]; rintro e w1 ⟨rfl, hb1⟩) | fail)
    simp only [Exit.noGoto]
    exact bodyPost_ret (v := .tuple #[.slice none 0 0, .int .i64 2]) (by simp [results, Try.results20, go_sem]) rfl ⟨rfl, by (exact kpt)⟩
  · cases hp : inB p 0 200
    · have HL := Lib.hid hl
      have HP := Lib.hid (show rng [p] 0 200 = false by simpa [rng] using hp)
      clear hl h hp
      go_enter Try.func20, Try.ntmps20
      go_wp2
      refine wp_scope_straight ?_
      go_wp2_with (first | (go_at_call 58; (with_reducible refine (f_lines _ _ _ _ (hx.later (by (exact kpt)) (Nat.le_refl _)) hn).mono ?_); rw [HL.out]; rintro e w1 ⟨rfl, hb1⟩) | (go_at_call 51; (with_reducible refine (f_ranged_1 _ _ p _ _ _ (by simp)).mono ?_); rw [HP.out]; rintro e w1 ⟨rfl, hb1⟩))
      simp only [Exit.noGoto]
      exact bodyPost_ret (v := .tuple #[.slice none 0 0, .int .i64 2]) (by simp [results, Try.results20, go_sem]) rfl ⟨rfl, by (exact kpt)⟩
    · cases hm : inB m 1 1000000
      · have HL := Lib.hid hl
        have HP := Lib.hid (show rng [p] 0 200 = true by simpa [rng] using hp)
        have HMM := Lib.hid (show rng [m] 1 1000000 = false by simpa [rng] using hm)
        clear hl h hp hm
        go_enter Try.func20, Try.ntmps20
        go_wp2
        refine wp_scope_straight ?_
        go_wp2_with (first | (go_at_call 58; (with_reducible refine (f_lines _ _ _ _ (hx.later (by (exact kpt)) (Nat.le_refl _)) hn).mono ?_); rw [HL.out]; rintro e w1 ⟨rfl, hb1⟩) | (go_at_call 51; (with_reducible refine (f_ranged_1 _ _ p _ _ _ (by simp)).mono ?_); rw [HP.out]; rintro e w1 ⟨rfl, hb1⟩) | (go_at_call 51; (with_reducible refine (f_ranged_1 _ _ m _ _ _ (by simp)).mono ?_); rw [HMM.out]; rintro e w1 ⟨rfl, hb1⟩))
        simp only [Exit.noGoto]
        exact bodyPost_ret (v := .tuple #[.slice none 0 0, .int .i64 2]) (by simp [results, Try.results20, go_sem]) rfl ⟨rfl, by (exact kpt)⟩
      · rw [hl, hp, hm] at h
        cases h

end Go.Proofs.Ytacbkbilbmkjnaa

/-
  Manned lines: the crowd.
-/
namespace Go.Proofs.Ytacbkbilbmkjnaa
open Go.RowKit Bal Bal.Trim Bal.Mast
set_option linter.unusedVariables false
set_option linter.unusedSimpArgs false
set_option maxHeartbeats 4000000
set_option maxRecDepth 10000

theorem own_some {W : World} {base n cp : Nat} {ad : Option Addr} {e : TypeId} {ls : List Int} (h : W.ownsRow base e 1 (.slice ad n cp) ls.length (ls.flatMap icell)) (hl : 0 < ls.length) : ∃ g, ad = some ⟨g, 0, none⟩ := by
  obtain ⟨h1, ⟨hv, h0⟩ | ⟨g', cap, cur, hv, _⟩⟩ := h
  · omega
  · cases hv; exact ⟨g', rfl⟩
theorem man_ok {xs : List Span} {p m : Int} (h : manOk xs p m = true) : linesB xs = true ∧ inB p 0 200 = true ∧ inB m 1 1000000 = true := by
  unfold manOk at h
  simp only [Bool.and_eq_true] at h
  exact ⟨h.1.1, h.1.2, h.2⟩
theorem man_few {xs : List Span} {p m : Int} (h : manOk xs p m = true) (hs : p < total (needs m xs)) : manE xs p m = 75 ∧ manL xs p m = [] := by
  have h1 : manE xs p m = 75 := by unfold manE; rw [if_pos h, if_pos hs]
  exact ⟨h1, by unfold manL; rw [h1]; rfl⟩
theorem man_all {xs : List Span} {p m : Int} (h : manOk xs p m = true) (hs : ¬ p < total (needs m xs)) : manE xs p m = 0 ∧ manL xs p m = after xs (needs m xs) (p - total (needs m xs)).toNat := by
  have h1 : manE xs p m = 0 := by unfold manE; rw [if_pos h, if_neg hs]
  exact ⟨h1, by unfold manL; rw [h1]; rfl⟩
theorem after_stop {xs : List Span} {L0 : List Int} {j : Nat} (h : pick xs (after xs L0 j) xs.length < 0) (i : Nat) : after xs L0 j = after xs L0 i := by
  have h0 : pick xs L0 xs.length < 0 := pick_none xs.length |>.2 ((pick_none xs.length).1 h)
  rw [after_none h0, after_none h0]
theorem after_one {xs : List Span} {L0 ls : List Int} {j q : Nat} (h : ls = after xs L0 j) (hp : pick xs ls xs.length = q) (hq : q < ls.length) : after xs L0 (j + 1) = ls.set q (ls[q] + 1) := by
  rw [after, ← h]
  unfold one
  have hn : ¬ ((q : Nat) : Int) < 0 := by omega
  rw [hp, if_neg hn, Int.toNat_natCast]
  simp [hq]

theorem cell_lt {w : World} {b o : Nat} {v : Value} (h : w.cell? ⟨b, o, none⟩ = some v) : b < w.heap.size := by
  rcases Nat.lt_or_ge b w.heap.size with h' | h'
  · exact h'
  · simp [World.cell?, Array.getElem?_eq_none h'] at h

theorem f_Man_main (a : Option Addr) (cap : Nat) (xs : List Span) (p m : Int) (w : World) (hx : Row Span.cells 2 w.heap.size w a xs) (hc : xs.length ≤ cap) (hM : cap ≤ maxLen) (hn : xs.length ≤ 1000000) (h : manOk xs p m = true) :
    Calls Try.prog 20 #[.slice a xs.length cap, .int .i64 p, .int .i64 m] w fun e w' => ∃ v, e = .returned (.tuple #[v, .int .i64 (manE xs p m)]) ∧ w'.ownsRow w.heap.size 3 1 v (manL xs p m).length ((manL xs p m).flatMap icell) ∧ Kept w w' := by
  unfold maxLen at hM
  obtain ⟨hl, hp, hm⟩ := man_ok h
  have hl' := hl
  unfold linesB at hl'
  simp only [Bool.and_eq_true, decide_eq_true_eq, List.all_eq_true] at hl'
  obtain ⟨hn8, hv⟩ := hl'
  have hp' : 0 ≤ p ∧ p ≤ 200 := by simpa [inB] using hp
  have hm' : 1 ≤ m ∧ m ≤ 1000000 := by simpa [inB] using hm
  obtain ⟨hm1, hm2⟩ := hm'
  have hnb := needs_bd hm1 hv
  have htb := total_bd hnb
  have htm := total_mem fun x hx => (hnb x hx).1
  rw [needs_len] at htb
  have HV := Lib.hid (show ∀ s ∈ xs, lineB s = true from hv)
  have HNB := Lib.hid hnb
  obtain ⟨S, hS⟩ : ∃ S, S = total (needs m xs) := ⟨_, rfl⟩
  have hSS : 0 ≤ S ∧ S ≤ 8000000 := by omega
  have HL := Lib.hid hl
  have HP := Lib.hid (show rng [p] 0 200 = true by simpa [rng] using hp)
  have HMM := Lib.hid (show rng [m] 1 1000000 = true by simpa [rng] using hm)
  have HNE := fun (W : World) (hk : Kept w W) => f_needed a cap xs m W (hx.later hk (Nat.le_refl _)) hn8 HV.out hm1 hm2
  by_cases hlt : p < total (needs m xs)
  · obtain ⟨e1, e2⟩ := man_few h hlt
    rw [e1, e2]
    rw [← hS] at hlt HNE
    clear h hl hp hm hv hnb htb htm hS e1 e2
    have hln := needs_len m xs
    go_enter Try.func20, Try.ntmps20
    go_wp2
    refine wp_scope_straight ?_
    go_wp2_with (first | (go_at_call 58; (with_reducible refine (f_lines _ _ _ _ (hx.later (by (exact kpt)) (Nat.le_refl _)) hn).mono ?_); rw [HL.out]; rintro e w1 ⟨rfl, hb1⟩) | (go_at_call 51; (with_reducible refine (f_ranged_1 _ _ p _ _ _ (by simp)).mono ?_); rw [HP.out]; rintro e w1 ⟨rfl, hb1⟩) | (go_at_call 51; (with_reducible refine (f_ranged_1 _ _ m _ _ _ (by simp)).mono ?_); rw [HMM.out]; rintro e w1 ⟨rfl, hb1⟩) | (go_at_call 59; (with_reducible refine (HNE _ (by (exact kpt))).mono ?_); rintro e wN ⟨vN, rfl, hoN, hbN⟩; obtain ⟨ad, cp, rfl, hrN, hcN, hmN⟩ := owns_row (enc := icell) (k := 1) (fun _ => rfl) hoN; have hzN := Below.size hbN; unfold maxLen at hmN))
    simp only [Exit.noGoto]
    exact bodyPost_ret (v := .tuple #[.slice none 0 0, .int .i64 75]) (by simp [results, Try.results20, go_sem]) rfl ⟨_, rfl, owns_nil (α := Int) (enc := icell), by (exact kpt)⟩
  · obtain ⟨e1, e2⟩ := man_all h hlt
    rw [e1, e2]
    obtain ⟨J, hJ⟩ : ∃ J, J = (p - total (needs m xs)).toNat := ⟨_, rfl⟩
    rw [← hJ]
    have HB := Lib.hid (fun (j : Nat) (hj : j ≤ 200) (x : Int) (hx : x ∈ after xs (needs m xs) j) => show 0 ≤ x ∧ x ≤ 400 by
      have := after_bd (hs := xs) (ls := needs m xs) (fun x hx => ⟨(hnb x hx).1, by have := htm.2 x hx; omega⟩) j x hx
      omega)
    have hJS : (J : Int) = p - S := by rw [hJ, hS]; omega
    have hJ2 : J ≤ 200 := by omega
    rw [← hS] at hlt HNE
    have hln := needs_len m xs
    have HLEN := Lib.hid (fun j => (after_len xs (needs m xs) j).trans (needs_len m xs))
    obtain ⟨L0, hL0⟩ : ∃ L0, L0 = needs m xs := ⟨_, rfl⟩
    rw [← hL0] at HB HLEN hln HNE ⊢
    clear h hl hp hm hv hnb htb htm hS e1 e2 hJ hL0
    go_enter Try.func20, Try.ntmps20
    go_wp2
    refine wp_scope_straight ?_
    go_wp2_with (first | (go_at_call 58; (with_reducible refine (f_lines _ _ _ _ (hx.later (by (exact kpt)) (Nat.le_refl _)) hn).mono ?_); rw [HL.out]; rintro e w1 ⟨rfl, hb1⟩) | (go_at_call 51; (with_reducible refine (f_ranged_1 _ _ p _ _ _ (by simp)).mono ?_); rw [HP.out]; rintro e w1 ⟨rfl, hb1⟩) | (go_at_call 51; (with_reducible refine (f_ranged_1 _ _ m _ _ _ (by simp)).mono ?_); rw [HMM.out]; rintro e w1 ⟨rfl, hb1⟩) | (go_at_call 59; (with_reducible refine (HNE _ (by (exact kpt))).mono ?_); rintro e wN ⟨vN, rfl, hoN, hbN⟩; obtain ⟨ad, cp, rfl, hrN, hcN, hmN⟩ := owns_row (enc := icell) (k := 1) (fun _ => rfl) hoN; have hzN := Below.size hbN; unfold maxLen at hmN))
    refine wp_label ?_
    go_wp2
    go_loopw [40] (fun i wr => ∃ j : Nat, j ≤ J ∧ i = .int .i64 j ∧ wr.ownsRow w.heap.size 3 1 (.slice ad L0.length cp) (after xs L0 j).length ((after xs L0 j).flatMap icell) ∧ Kept w wr) (fun i _ => J - (intOf i).toNat)
    case atStart => exact ⟨0, Nat.zero_le _, rfl, owns_base hoN (Kept.size (by (exact kpt))), by (exact kpt)⟩
    case round =>
      obtain ⟨j, hj, rfl, hown, hkk⟩ := hrel
      obtain ⟨ls, hls⟩ : ∃ ls, ls = after xs L0 j := ⟨_, rfl⟩
      have hlen : ls.length = xs.length := by rw [hls]; exact HLEN.out j
      have HBL := Lib.hid (show ∀ x ∈ ls, 0 ≤ x ∧ x ≤ 400 by rw [hls]; exact HB.out j (by omega))
      rw [← hls] at hown
      by_cases hlt2 : j < J
      · have HLS := Lib.hid hls
        clear hls
        go_wp2
        go_loopw [10, 44] (fun b i wq => ∃ k : Nat, k ≤ xs.length ∧ i = .int .i64 k ∧ b = .int .i64 (pick xs ls k) ∧ wq.ownsRow w.heap.size 3 1 (.slice ad L0.length cp) ls.length (ls.flatMap icell) ∧ Kept w wq) (fun _ i _ => xs.length - (intOf i).toNat)
        case atStart => exact ⟨0, Nat.zero_le _, rfl, rfl, hown, hkk⟩
        case round =>
          clear hown hkk
          obtain ⟨k, hk, rfl, rfl, hown, hkk⟩ := hrel
          have hpb := pick_bd xs ls k
          by_cases hlt3 : k < xs.length
          · obtain ⟨hp1, hp2, hp3⟩ := pick_succ hlt3 (show k < ls.length by omega)
            obtain ⟨bb, off, rfl, hbl, h0, h1⟩ := Span.row (hx.later hkk (Nat.le_refl _)) k hlt3
            have hyb := line_bd (HV.out _ (List.getElem_mem hlt3))
            obtain ⟨g, rfl⟩ := own_some hown (by omega)
            obtain ⟨hnl, hrow, hcl, hml⟩ := own_at hown
            unfold maxLen at hml
            have hlb := HBL.out ls[k] (List.getElem_mem (by omega))
            obtain ⟨b2, o2, hb2, _, c0⟩ := int_row hrow k (by omega)
            cases hb2
            simp only [Nat.zero_add] at c0
            obtain ⟨y, hy0⟩ : ∃ y, y = xs[k] := ⟨_, rfl⟩
            obtain ⟨z, hz0⟩ : ∃ z, z = ls[k] := ⟨_, rfl⟩
            rw [← hy0] at hp1 hp2 hp3 hyb h0 h1
            rw [← hz0] at hp3 hlb c0
            clear hy0 hz0
            by_cases hyz : y.hi = 0
            · have HPK := Lib.hid (hp1 hyz)
              clear hp1 hp2 hp3
              go_wp2
              go_roundw
              case rel => exact ⟨k + 1, by omega, by go_num, by rw [HPK.out], hown.alloc _, by (exact kpt)⟩
              case measure => simp [intOf]; omega
            · have HP2 := Lib.hid (hp2 hyz)
              have HP3 := Lib.hid hp3
              clear hp1 hp2 hp3
              have HYZ := Lib.hid hyz
              have hpos : (0 : Int) < y.hi := by omega
              obtain ⟨P, hP⟩ : ∃ P, P = pick xs ls k := ⟨_, rfl⟩
              rw [← hP] at HP2 HP3 hpb ⊢
              have HPP := Lib.hid hP
              clear hP
              go_upto_region 13 with fail
              refine at_world (S := fun W5 => Blk W5 wr.heap.size #[.int .i64 y.lo, .int .i64 y.hi] 23 ∧ W5.ownsRow w.heap.size 3 1 (.slice (some ⟨g, 0, none⟩) L0.length cp) ls.length (ls.flatMap icell) ∧ Kept wr W5 ∧ Kept w W5) ⟨by (exact blkc), hown.alloc _, by (exact kpt), by (exact kpt)⟩ ?_
              clear hown hrow
              rintro W5 ⟨r0, hown, hkr, hkk⟩
              have r0c0 := fun g : Later W5 => (r0.later g).cell 0
              have r0f0 := fun g : Later W5 => (r0.later g).free 0
              have r0c1 := fun g : Later W5 => (r0.later g).cell 1
              have r0f1 := fun g : Later W5 => (r0.later g).free 1
              have r0l := fun g : Later W5 => (r0.later g).lt
              simp at r0c0 r0c1
              have c5 : W5.cell? ⟨g, k, none⟩ = some (.int .i64 z) := by rw [hkr.cell (p := ⟨g, k, none⟩) (cell_lt c0)]; exact c0
              have x1 := fun g : Later W5 => g.some c5
              have k0 : (0 : Int) ≤ (k : Int) := by omega
              have k1 : (k : Int) < (L0.length : Int) := by omega
              have k2 : (k : Int) < (xs.length : Int) := by omega
              by_cases hneg : P < 0
              · have HPK := Lib.hid (HP2.out hneg)
                refine Later.region (by kernel_rfl) (by kernel_rfl) ?_
                repeat (first | go_big_quiet_skip | (go_big_quiet_want; go_big_quiet_op; first | go_big_quiet_on | (apply Exists.intro; refine ⟨fun g => ?_, ?_⟩; (focus (first | fail)); go_big_quiet_on)))
                refine wpQuiet_nil ?_
                intro gg
                have hkg := Kept.drop hkk gg.ok
                have hog := owns_keep hown gg.ok
                go_wp2
                go_roundw
                case rel => exact ⟨k + 1, by omega, by go_num, by rw [HPK.out], hog, hkg⟩
                case measure => simp [intOf]; omega
              · obtain ⟨q, rfl⟩ : ∃ q : Nat, P = q := ⟨P.toNat, by omega⟩
                have hq : q < xs.length := by omega
                have HPK := Lib.hid (HP3.out q hq (by omega) rfl HYZ.out)
                obtain ⟨bb2, off2, hab, _, g0, g1⟩ := Span.row (hx.later hkk (Nat.le_refl _)) q hq
                simp only [Option.some.injEq, Addr.mk.injEq, and_true] at hab
                obtain ⟨rfl, rfl⟩ := hab
                obtain ⟨_, hrow5, _, _⟩ := own_at hown
                obtain ⟨b4, o4, hb4, _, d0⟩ := int_row hrow5 q (by omega)
                cases hb4
                simp only [Nat.zero_add] at d0
                have hyb2 := line_bd (HV.out _ (List.getElem_mem hq))
                have hlb2 := HBL.out ls[q] (List.getElem_mem (by omega))
                obtain ⟨y2, hy2⟩ : ∃ y, y = xs[q] := ⟨_, rfl⟩
                obtain ⟨z2, hz2⟩ : ∃ z, z = ls[q] := ⟨_, rfl⟩
                rw [← hy2] at HPK g0 g1 hyb2
                rw [← hz2] at HPK d0 hlb2
                clear hy2 hz2 hrow5
                have m1 := mul_bd (A := 1000000) (B := 400) (x := y.hi) (y := z2) (by omega) (by omega) (by omega) (by omega)
                have m2 := mul_bd (A := 1000000) (B := 400) (x := y2.hi) (y := z) (by omega) (by omega) (by omega) (by omega)
                have V1 := i64_in (n := y.hi * z2) (by omega)
                have V2 := i64_in (n := y2.hi * z) (by omega)
                have x2 := fun g : Later W5 => g.some g1
                have x3 := fun g : Later W5 => g.some d0
                have q0 : (0 : Int) ≤ (q : Int) := by omega
                have q1 : (q : Int) < (xs.length : Int) := by omega
                have q2 : (q : Int) < (L0.length : Int) := by omega
                by_cases hcmp : y2.hi * z < y.hi * z2
                · have HCM := Lib.hid hcmp
                  refine Later.region (by kernel_rfl) (by kernel_rfl) ?_
                  repeat (first | go_big_quiet_skip | (go_big_quiet_want; go_big_quiet_op; first | go_big_quiet_on | (apply Exists.intro; refine ⟨fun g => ?_, ?_⟩; (focus (first | fail)); go_big_quiet_on)))
                  refine wpQuiet_nil ?_
                  intro gg
                  have hkg := Kept.drop hkk gg.ok
                  have hog := owns_keep hown gg.ok
                  go_wp2
                  go_roundw
                  case rel => exact ⟨k + 1, by omega, by go_num, by rw [HPK.out, if_pos HCM.out], hog, hkg⟩
                  case measure => simp [intOf]; omega
                · have HCM := Lib.hid hcmp
                  refine Later.region (by kernel_rfl) (by kernel_rfl) ?_
                  repeat (first | go_big_quiet_skip | (go_big_quiet_want; go_big_quiet_op; first | go_big_quiet_on | (apply Exists.intro; refine ⟨fun g => ?_, ?_⟩; (focus (first | fail)); go_big_quiet_on)))
                  refine wpQuiet_nil ?_
                  intro gg
                  have hkg := Kept.drop hkk gg.ok
                  have hog := owns_keep hown gg.ok
                  go_wp2
                  go_roundw
                  case rel => exact ⟨k + 1, by omega, by go_num, by rw [HPK.out, if_neg HCM.out], hog, hkg⟩
                  case measure => simp [intOf]; omega
          · obtain rfl : xs.length = k := by omega
            obtain ⟨P, hP⟩ : ∃ P, P = pick xs ls xs.length := ⟨_, rfl⟩
            rw [← hP] at hpb ⊢
            by_cases hneg : P < 0
            · have HST := Lib.hid (after_stop (xs := xs) (L0 := L0) (j := j) (by rw [← HLS.out, ← hP]; exact hneg))
              clear hP
              go_wp2
              simp only [Exit.noGoto]
              exact bodyPost_ret (v := .tuple #[.slice ad xs.length cp, .int .i64 0]) (by simp [results, Try.results20, go_sem]) rfl ⟨_, rfl, by rw [← hln, ← HST.out J, ← HLS.out]; exact hown, by (exact kpt)⟩
            · obtain ⟨q, rfl⟩ : ∃ q : Nat, P = q := ⟨P.toNat, by omega⟩
              have hql : q < ls.length := by omega
              have HON := Lib.hid (after_one HLS.out hP.symm hql)
              clear hP
              obtain ⟨g, rfl⟩ := own_some hown (by omega)
              obtain ⟨_, hrow5, hcl5, hml5⟩ := own_at hown
              unfold maxLen at hml5
              obtain ⟨hg5, cur, hcur⟩ := own_blk hown
              obtain ⟨b4, o4, hb4, _, d0⟩ := int_row hrow5 q hql
              cases hb4
              simp only [Nat.zero_add] at d0
              have hlb2 := HBL.out ls[q] (List.getElem_mem hql)
              have hfr := hcur.free q
              have hown6 := own_put (q := q) hown (ls[q] + 1)
              rw [← HON.out] at hown6
              obtain ⟨z2, hz2⟩ : ∃ z, z = ls[q] := ⟨_, rfl⟩
              rw [← hz2] at d0 hlb2 hown6
              clear hz2 hrow5 hcur
              have q0 : (0 : Int) ≤ (q : Int) := by omega
              have q2 : (q : Int) < (L0.length : Int) := by omega
              go_wp2
              go_roundw
              case rel => exact ⟨j + 1, by omega, by go_num, hown6, Below.setCell hkk (p := ⟨g, q, none⟩) hg5 _⟩
              case measure => simp [intOf]; omega
      · obtain rfl : J = j := by omega
        go_wp2
        simp only [Exit.noGoto]
        exact bodyPost_ret (v := .tuple #[.slice ad xs.length cp, .int .i64 0]) (by simp [results, Try.results20, go_sem]) rfl ⟨_, rfl, by rw [← hln, ← hls]; exact hown, by (exact kpt)⟩


end Go.Proofs.Ytacbkbilbmkjnaa

/-
  Manned lines: the crowd of the reference.
-/
namespace Go.Proofs.Ytacbkbilbmkjnaa
open Go.RowKit Bal Bal.Trim Bal.Mast
set_option linter.unusedVariables false
set_option linter.unusedSimpArgs false
set_option maxHeartbeats 4000000
set_option maxRecDepth 10000

theorem f_Man (a : Option Addr) (cap : Nat) (xs : List Span) (p m : Int) (w : World) (hx : Row Span.cells 2 w.heap.size w a xs) (hc : xs.length ≤ cap) (hM : cap ≤ maxLen) (hn : xs.length ≤ 1000000) :
    Calls Try.prog 20 #[.slice a xs.length cap, .int .i64 p, .int .i64 m] w fun e w' => ∃ v, e = .returned (.tuple #[v, .int .i64 (manE xs p m)]) ∧ w'.ownsRow w.heap.size 3 1 v (manL xs p m).length ((manL xs p m).flatMap icell) ∧ Kept w w' := by
  cases h : manOk xs p m
  · have h1 : manE xs p m = 2 := by unfold manE; rw [h]; rfl
    have h2 : manL xs p m = [] := by unfold manL; rw [h1]; rfl
    rw [h1, h2]
    exact (f_Man_bad a cap xs p m w hx hc hM hn h).mono fun e w' q => ⟨.slice none 0 0, q.1, owns_nil (α := Int) (enc := icell), q.2⟩
  · exact f_Man_main a cap xs p m w hx hc hM hn h

end Go.Proofs.Ytacbkbilbmkjnaa

/-
  Turned sheds, in the program and in the reference.
-/
namespace Go.Proofs.Ytacbkbilbmkjnaa
open Go.RowKit Bal Bal.Trim Bal.Mast
set_option linter.unusedVariables false
set_option linter.unusedSimpArgs false
set_option maxHeartbeats 2000000
set_option maxRecDepth 10000

theorem f_Turn_bad (a : Option Addr) (cap : Nat) (xs : List Axis) (p : Int) (v : Wind) (m : Int) (w : World) (hx : Row Axis.cells 2 w.heap.size w a xs) (hc : xs.length ≤ cap) (hM : cap ≤ maxLen) (hn : xs.length ≤ 1000000) (h : turnOk xs p v m ≠ 0) :
    Calls Try.prog 18 #[.slice a xs.length cap, .int .i64 p, .agg #[.int .i64 v.xlo, .int .i64 v.xhi, .int .i64 v.ylo, .int .i64 v.yhi], .int .i64 m] w fun e w' => e = .returned (.tuple #[.int .i64 0, .int .i64 0, .int .i64 (turnOk xs p v m)]) ∧ Kept w w' := by
  unfold maxLen at hM
  cases ht : turnable xs
  · have hE : turnOk xs p v m = 72 := by unfold turnOk; rw [ht]; rfl
    rw [hE]
    have HT := Lib.hid ht
    clear ht hE h
    go_enter Try.func18, Try.ntmps18
    go_wp2_with (go_at_call 56; (with_reducible refine (f_turnable _ _ _ _ (hx.later (by (exact kpt)) (Nat.le_refl _)) hn).mono ?_); rw [HT.out]; rintro e w1 ⟨rfl, hb1⟩; refine Blk.thru (b := w.heap.size) (arr := ?_) (t := ?_) ?_ hb1 ?_; rotate_left 2; (focus (exact blk)); intro r0; have r0c0 := r0.cell 0; have r0f0 := r0.free 0; have r0c1 := r0.cell 1; have r0f1 := r0.free 1; have r0c2 := r0.cell 2; have r0f2 := r0.free 2; have r0c3 := r0.cell 3; have r0f3 := r0.free 3; have r0l := r0.lt; simp at r0c0 r0c1 r0c2 r0c3)
    exact bodyPost_ret (v := .tuple #[.int .i64 0, .int .i64 0, .int .i64 72]) (by simp [results, Try.results18, go_sem]) rfl ⟨rfl, by (exact kpt)⟩
  · cases hw : windB v
    · have hE : turnOk xs p v m = 71 := by unfold turnOk; rw [ht, hw]; rfl
      rw [hE]
      have HT := Lib.hid ht
      have HW := Lib.hid (show checkWind v = 71 by unfold checkWind; rw [hw]; rfl)
      clear ht hE h hw
      go_enter Try.func18, Try.ntmps18
      go_wp2_with (first | (go_at_call 56; (with_reducible refine (f_turnable _ _ _ _ (hx.later (by (exact kpt)) (Nat.le_refl _)) hn).mono ?_); rw [HT.out]; rintro e w1 ⟨rfl, hb1⟩; refine Blk.thru (b := w.heap.size) (arr := ?_) (t := ?_) ?_ hb1 ?_; rotate_left 2; (focus (exact blk)); intro r0; have r0c0 := r0.cell 0; have r0f0 := r0.free 0; have r0c1 := r0.cell 1; have r0f1 := r0.free 1; have r0c2 := r0.cell 2; have r0f2 := r0.free 2; have r0c3 := r0.cell 3; have r0f3 := r0.free 3; have r0l := r0.lt; simp at r0c0 r0c1 r0c2 r0c3) | (go_at_call 15; (with_reducible refine (f_CheckWind v _).mono ?_); rw [HW.out]; rintro e w1 ⟨rfl, hb1⟩; refine Blk.thru (b := w.heap.size) (arr := ?_) (t := ?_) ?_ hb1 ?_; rotate_left 2; (focus (exact blk)); intro r0; have r0c0 := r0.cell 0; have r0f0 := r0.free 0; have r0c1 := r0.cell 1; have r0f1 := r0.free 1; have r0c2 := r0.cell 2; have r0f2 := r0.free 2; have r0c3 := r0.cell 3; have r0f3 := r0.free 3; have r0l := r0.lt; simp at r0c0 r0c1 r0c2 r0c3))
      exact bodyPost_ret (v := .tuple #[.int .i64 0, .int .i64 0, .int .i64 71]) (by simp [results, Try.results18, go_sem]) rfl ⟨rfl, by (exact kpt)⟩
    · cases hp : inB p 0 (xs.length - 1)
      · have hE : turnOk xs p v m = 2 := by unfold turnOk; rw [ht, hw, hp]; rfl
        rw [hE]
        have HT := Lib.hid ht
        have HW := Lib.hid (show checkWind v = 0 by unfold checkWind; rw [hw]; rfl)
        have HP := Lib.hid (show rng [p] 0 (xs.length - 1) = _ from (show rng [p] 0 (xs.length - 1) = inB p 0 (xs.length - 1) by simp [rng]).trans hp)
        clear ht hE h hw hp
        go_enter Try.func18, Try.ntmps18
        go_wp2_with (first | (go_at_call 56; (with_reducible refine (f_turnable _ _ _ _ (hx.later (by (exact kpt)) (Nat.le_refl _)) hn).mono ?_); rw [HT.out]; rintro e w1 ⟨rfl, hb1⟩; refine Blk.thru (b := w.heap.size) (arr := ?_) (t := ?_) ?_ hb1 ?_; rotate_left 2; (focus (exact blk)); intro r0; have r0c0 := r0.cell 0; have r0f0 := r0.free 0; have r0c1 := r0.cell 1; have r0f1 := r0.free 1; have r0c2 := r0.cell 2; have r0f2 := r0.free 2; have r0c3 := r0.cell 3; have r0f3 := r0.free 3; have r0l := r0.lt; simp at r0c0 r0c1 r0c2 r0c3) | (go_at_call 15; (with_reducible refine (f_CheckWind v _).mono ?_); rw [HW.out]; rintro e w1 ⟨rfl, hb1⟩; refine Blk.thru (b := w.heap.size) (arr := ?_) (t := ?_) ?_ hb1 ?_; rotate_left 2; (focus (exact blk)); intro r0; have r0c0 := r0.cell 0; have r0f0 := r0.free 0; have r0c1 := r0.cell 1; have r0f1 := r0.free 1; have r0c2 := r0.cell 2; have r0f2 := r0.free 2; have r0c3 := r0.cell 3; have r0f3 := r0.free 3; have r0l := r0.lt; simp at r0c0 r0c1 r0c2 r0c3) | (go_at_call 51; (with_reducible refine (f_ranged_1 _ _ _ _ _ _ (by simp)).mono ?_); rw [HP.out]; rintro e w1 ⟨rfl, hb1⟩; refine Blk.thru (b := w.heap.size) (arr := ?_) (t := ?_) ?_ hb1 ?_; rotate_left 2; (focus (exact blk)); intro r0; have r0c0 := r0.cell 0; have r0f0 := r0.free 0; have r0c1 := r0.cell 1; have r0f1 := r0.free 1; have r0c2 := r0.cell 2; have r0f2 := r0.free 2; have r0c3 := r0.cell 3; have r0f3 := r0.free 3; have r0l := r0.lt; simp at r0c0 r0c1 r0c2 r0c3))
        exact bodyPost_ret (v := .tuple #[.int .i64 0, .int .i64 0, .int .i64 2]) (by simp [results, Try.results18, go_sem]) rfl ⟨rfl, by (exact kpt)⟩
      · cases hm : inB m 0 2000
        · have hE : turnOk xs p v m = 2 := by unfold turnOk; rw [ht, hw, hp, hm]; rfl
          rw [hE]
          have HT := Lib.hid ht
          have HW := Lib.hid (show checkWind v = 0 by unfold checkWind; rw [hw]; rfl)
          have HP := Lib.hid (show rng [p] 0 (xs.length - 1) = _ from (show rng [p] 0 (xs.length - 1) = inB p 0 (xs.length - 1) by simp [rng]).trans hp)
          have HMM := Lib.hid (show rng [m] 0 2000 = _ from (show rng [m] 0 2000 = inB m 0 2000 by simp [rng]).trans hm)
          clear ht hE h hw hp hm
          go_enter Try.func18, Try.ntmps18
          go_wp2_with (first | (go_at_call 56; (with_reducible refine (f_turnable _ _ _ _ (hx.later (by (exact kpt)) (Nat.le_refl _)) hn).mono ?_); rw [HT.out]; rintro e w1 ⟨rfl, hb1⟩; refine Blk.thru (b := w.heap.size) (arr := ?_) (t := ?_) ?_ hb1 ?_; rotate_left 2; (focus (exact blk)); intro r0; have r0c0 := r0.cell 0; have r0f0 := r0.free 0; have r0c1 := r0.cell 1; have r0f1 := r0.free 1; have r0c2 := r0.cell 2; have r0f2 := r0.free 2; have r0c3 := r0.cell 3; have r0f3 := r0.free 3; have r0l := r0.lt; simp at r0c0 r0c1 r0c2 r0c3) | (go_at_call 15; (with_reducible refine (f_CheckWind v _).mono ?_); rw [HW.out]; rintro e w1 ⟨rfl, hb1⟩; refine Blk.thru (b := w.heap.size) (arr := ?_) (t := ?_) ?_ hb1 ?_; rotate_left 2; (focus (exact blk)); intro r0; have r0c0 := r0.cell 0; have r0f0 := r0.free 0; have r0c1 := r0.cell 1; have r0f1 := r0.free 1; have r0c2 := r0.cell 2; have r0f2 := r0.free 2; have r0c3 := r0.cell 3; have r0f3 := r0.free 3; have r0l := r0.lt; simp at r0c0 r0c1 r0c2 r0c3) | (go_at_call 51; (with_reducible refine (f_ranged_1 _ _ _ _ _ _ (by simp)).mono ?_); rw [HP.out]; rintro e w1 ⟨rfl, hb1⟩; refine Blk.thru (b := w.heap.size) (arr := ?_) (t := ?_) ?_ hb1 ?_; rotate_left 2; (focus (exact blk)); intro r0; have r0c0 := r0.cell 0; have r0f0 := r0.free 0; have r0c1 := r0.cell 1; have r0f1 := r0.free 1; have r0c2 := r0.cell 2; have r0f2 := r0.free 2; have r0c3 := r0.cell 3; have r0f3 := r0.free 3; have r0l := r0.lt; simp at r0c0 r0c1 r0c2 r0c3) | (go_at_call 51; (with_reducible refine (f_ranged_1 _ _ _ _ _ _ (by simp)).mono ?_); rw [HMM.out]; rintro e w1 ⟨rfl, hb1⟩; refine Blk.thru (b := w.heap.size) (arr := ?_) (t := ?_) ?_ hb1 ?_; rotate_left 2; (focus (exact blk)); intro r0; have r0c0 := r0.cell 0; have r0f0 := r0.free 0; have r0c1 := r0.cell 1; have r0f1 := r0.free 1; have r0c2 := r0.cell 2; have r0f2 := r0.free 2; have r0c3 := r0.cell 3; have r0f3 := r0.free 3; have r0l := r0.lt; simp at r0c0 r0c1 r0c2 r0c3))
          exact bodyPost_ret (v := .tuple #[.int .i64 0, .int .i64 0, .int .i64 2]) (by simp [results, Try.results18, go_sem]) rfl ⟨rfl, by (exact kpt)⟩
        · exact absurd (by unfold turnOk; rw [ht, hw, hp, hm]; rfl) h
theorem f_turn_ok {xs : List Axis} {p : Int} {v : Wind} {m : Int} (h : turnOk xs p v m = 0) : turnable xs = true ∧ windB v = true ∧ inB p 0 (xs.length - 1) = true ∧ inB m 0 2000 = true := by
  unfold turnOk at h
  cases ht : turnable xs
  · rw [ht] at h; cases h
  · cases hw : windB v
    · rw [ht, hw] at h; cases h
    · cases hp : inB p 0 (xs.length - 1)
      · rw [ht, hw, hp] at h; cases h
      · cases hm : inB m 0 2000
        · rw [ht, hw, hp, hm] at h; cases h
        · exact ⟨rfl, rfl, rfl, rfl⟩

end Go.Proofs.Ytacbkbilbmkjnaa

/-
  Turned sheds: the search.
-/
namespace Go.Proofs.Ytacbkbilbmkjnaa
open Go.RowKit Bal Bal.Trim Bal.Mast
set_option linter.unusedVariables false
set_option linter.unusedSimpArgs false
set_option maxHeartbeats 4000000
set_option maxRecDepth 10000

theorem turn_found {xs : List Axis} {p : Nat} {v : Wind} {m : Int} (h : turnOk xs p v m = 0) {s : Nat} (hs : s < xs.length) (h1 : ∀ j, j < s → turnAt v m xs p j = false) (h2 : turnAt v m xs p s = true) :
    turnI xs p v m = turnTo v m xs p s ∧ turnN xs p v m = s ∧ turnE xs p v m = 0 := by
  have hf : turnS v m xs ((p : Nat) : Int).toNat = some s := firstOf_some hs h1 h2
  have e : ((p : Nat) : Int).toNat = p := by simp
  unfold turnI turnN turnE
  rw [if_pos h, if_pos h, if_pos h, hf, e]
  exact ⟨rfl, rfl, rfl⟩
theorem turn_lost {xs : List Axis} {p : Nat} {v : Wind} {m : Int} (h : turnOk xs p v m = 0) (hf : turnS v m xs p = none) :
    turnI xs p v m = 0 ∧ turnN xs p v m = 0 ∧ turnE xs p v m = 6 := by
  have e : ((p : Nat) : Int).toNat = p := by simp
  unfold turnI turnN turnE
  rw [if_pos h, if_pos h, if_pos h, e, hf]
  exact ⟨rfl, rfl, rfl⟩

theorem f_Turn_main (a : Option Addr) (cap : Nat) (xs : List Axis) (p : Int) (v : Wind) (m : Int) (w : World) (hx : Row Axis.cells 2 w.heap.size w a xs) (hc : xs.length ≤ cap) (hM : cap ≤ maxLen) (hn : xs.length ≤ 1000000) (h : turnOk xs p v m = 0) :
    Calls Try.prog 18 #[.slice a xs.length cap, .int .i64 p, .agg #[.int .i64 v.xlo, .int .i64 v.xhi, .int .i64 v.ylo, .int .i64 v.yhi], .int .i64 m] w fun e w' => e = .returned (.tuple #[.int .i64 (turnI xs p v m), .int .i64 (turnN xs p v m), .int .i64 (turnE xs p v m)]) ∧ Kept w w' := by
  unfold maxLen at hM
  obtain ⟨ht, hw, hp, hm⟩ := f_turn_ok h
  obtain ⟨I, hI⟩ : ∃ I, I = turnI xs p v m := ⟨_, rfl⟩
  obtain ⟨N, hN⟩ : ∃ N, N = turnN xs p v m := ⟨_, rfl⟩
  obtain ⟨E, hE⟩ : ∃ E, E = turnE xs p v m := ⟨_, rfl⟩
  have htb : 1 ≤ xs.length ∧ xs.length ≤ 32 ∧ ∀ x ∈ xs, axisB x = true := by
    unfold turnable at ht
    simp only [Bool.and_eq_true, decide_eq_true_eq, List.all_eq_true] at ht
    exact ⟨ht.1.1, ht.1.2, ht.2⟩
  obtain ⟨hl1, hl2, hax⟩ := htb
  obtain ⟨pn, rfl⟩ : ∃ pn : Nat, p = pn := ⟨p.toNat, by simp [inB] at hp; omega⟩
  have hpn : pn < xs.length := by simp [inB] at hp; omega
  have HSOME := Lib.hid (fun (s : Nat) (hs : s < xs.length / 2 + 1) (h1 : ∀ j, j < s → turnAt v m xs pn j = false) (h2 : turnAt v m xs pn s = true) => turn_found (xs := xs) (p := pn) (v := v) (m := m) h (by omega) h1 h2)
  have HNONE := Lib.hid (fun (h1 : ∀ j, j < xs.length / 2 + 1 → turnAt v m xs pn j = false) => turn_lost (xs := xs) (p := pn) (v := v) (m := m) h (by have := turnS_half (v := v) (m := m) (l := xs) (p := pn) (by omega); rw [this]; exact firstOf_none h1))
  rw [← hI, ← hN, ← hE] at HSOME HNONE
  rw [← hI, ← hN, ← hE]
  have HAX := Lib.hid hax
  have HT := Lib.hid ht
  have HW := Lib.hid (show checkWind v = 0 by unfold checkWind; rw [hw]; rfl)
  have HP := Lib.hid (show rng [(pn : Int)] 0 (xs.length - 1) = true by simpa [rng] using hp)
  have HMM := Lib.hid (show rng [m] 0 2000 = true by simpa [rng] using hm)
  have hw' := hw
  have hm' := hm
  clear h hI hN hE ht hp hax
  go_enter Try.func18, Try.ntmps18
  go_wp2_with (first | (go_at_call 56; (with_reducible refine (f_turnable _ _ _ _ (hx.later (by (exact kpt)) (Nat.le_refl _)) hn).mono ?_); rw [HT.out]; rintro e w1 ⟨rfl, hb1⟩; refine Blk.thru (b := w.heap.size) (arr := ?_) (t := ?_) ?_ hb1 ?_; rotate_left 2; (focus (exact blk)); intro r0; have r0c0 := r0.cell 0; have r0f0 := r0.free 0; have r0c1 := r0.cell 1; have r0f1 := r0.free 1; have r0c2 := r0.cell 2; have r0f2 := r0.free 2; have r0c3 := r0.cell 3; have r0f3 := r0.free 3; have r0l := r0.lt; simp at r0c0 r0c1 r0c2 r0c3) | (go_at_call 15; (with_reducible refine (f_CheckWind v _).mono ?_); rw [HW.out]; rintro e w1 ⟨rfl, hb1⟩; refine Blk.thru (b := w.heap.size) (arr := ?_) (t := ?_) ?_ hb1 ?_; rotate_left 2; (focus (exact blk)); intro r0; have r0c0 := r0.cell 0; have r0f0 := r0.free 0; have r0c1 := r0.cell 1; have r0f1 := r0.free 1; have r0c2 := r0.cell 2; have r0f2 := r0.free 2; have r0c3 := r0.cell 3; have r0f3 := r0.free 3; have r0l := r0.lt; simp at r0c0 r0c1 r0c2 r0c3) | (go_at_call 51; (with_reducible refine (f_ranged_1 _ _ _ _ _ _ (by simp)).mono ?_); rw [HP.out]; rintro e w1 ⟨rfl, hb1⟩; refine Blk.thru (b := w.heap.size) (arr := ?_) (t := ?_) ?_ hb1 ?_; rotate_left 2; (focus (exact blk)); intro r0; have r0c0 := r0.cell 0; have r0f0 := r0.free 0; have r0c1 := r0.cell 1; have r0f1 := r0.free 1; have r0c2 := r0.cell 2; have r0f2 := r0.free 2; have r0c3 := r0.cell 3; have r0f3 := r0.free 3; have r0l := r0.lt; simp at r0c0 r0c1 r0c2 r0c3) | (go_at_call 51; (with_reducible refine (f_ranged_1 _ _ _ _ _ _ (by simp)).mono ?_); rw [HMM.out]; rintro e w1 ⟨rfl, hb1⟩; refine Blk.thru (b := w.heap.size) (arr := ?_) (t := ?_) ?_ hb1 ?_; rotate_left 2; (focus (exact blk)); intro r0; have r0c0 := r0.cell 0; have r0f0 := r0.free 0; have r0c1 := r0.cell 1; have r0f1 := r0.free 1; have r0c2 := r0.cell 2; have r0f2 := r0.free 2; have r0c3 := r0.cell 3; have r0f3 := r0.free 3; have r0l := r0.lt; simp at r0c0 r0c1 r0c2 r0c3))
  go_loopw [41] (fun i wr => ∃ s : Nat, s ≤ xs.length / 2 + 1 ∧ i = .int .i64 s ∧ (∀ j, j < s → turnAt v m xs pn j = false) ∧ Blk wr w.heap.size #[.int .i64 v.xlo, .int .i64 v.xhi, .int .i64 v.ylo, .int .i64 v.yhi] 25 ∧ Kept w wr) (fun i _ => xs.length / 2 + 1 - (intOf i).toNat)
  case atStart => exact ⟨0, Nat.zero_le _, rfl, fun j h => absurd h (Nat.not_lt_zero _), by (exact blkc), by (exact kpt)⟩
  case round =>
    clear r0 r0c0 r0f0 r0c1 r0f1 r0c2 r0f2 r0c3 r0f3 r0l
    obtain ⟨s, hs, rfl, hno, r0, hk⟩ := hrel
    by_cases hlt : s < xs.length / 2 + 1
    · have hlt' : (s : Int) < (xs.length : Int) / 2 + 1 := by omega
      have HR1 : ((pn : Int) + (s : Int)) % (xs.length : Int) = ((onBy xs.length pn s : Nat) : Int) := by unfold onBy; simp
      have HR2 : ((pn : Int) + (xs.length : Int) - (s : Int)) % (xs.length : Int) = ((backBy xs.length pn s : Nat) : Int) := by unfold backBy; rw [show (pn : Int) + (xs.length : Int) - (s : Int) = ((pn + xs.length - s : Nat) : Int) by omega]; simp
      have HR4 : ((pn : Int) - (s : Int) + (xs.length : Int)) % (xs.length : Int) = ((backBy xs.length pn s : Nat) : Int) := by rw [← HR2]; congr 1; omega
      have HT1 : ((pn : Int) + (s : Int)).tmod (xs.length : Int) = ((onBy xs.length pn s : Nat) : Int) := by rw [Int.tmod_eq_emod_of_nonneg (by omega)]; exact HR1
      have HT2 : ((pn : Int) + (xs.length : Int) - (s : Int)).tmod (xs.length : Int) = ((backBy xs.length pn s : Nat) : Int) := by rw [Int.tmod_eq_emod_of_nonneg (by omega)]; exact HR2
      have HT4 : ((pn : Int) - (s : Int) + (xs.length : Int)).tmod (xs.length : Int) = ((backBy xs.length pn s : Nat) : Int) := by rw [Int.tmod_eq_emod_of_nonneg (by omega)]; exact HR4
      have onL0 : onBy xs.length pn s < xs.length := Nat.mod_lt _ (by omega)
      have bkL0 : backBy xs.length pn s < xs.length := Nat.mod_lt _ (by omega)
      have HAT := Lib.hid (show turnAt v m xs pn s = (calmAt v m xs (onBy xs.length pn s) || calmAt v m xs (backBy xs.length pn s)) from rfl)
      have HTO := Lib.hid (show turnTo v m xs pn s = if calmAt v m xs (onBy xs.length pn s) then onBy xs.length pn s else backBy xs.length pn s from rfl)
      obtain ⟨on, hon⟩ : ∃ on, on = onBy xs.length pn s := ⟨_, rfl⟩
      obtain ⟨bk, hbk⟩ : ∃ bk, bk = backBy xs.length pn s := ⟨_, rfl⟩
      rw [← hon] at HR1 HT1 onL0 HAT HTO
      rw [← hbk] at HR2 HR4 HT2 HT4 bkL0 HAT HTO
      clear hon hbk
      have onL := onL0
      have bkL := bkL0
      have hz0 : ¬ (xs.length : Int) = 0 := by omega
      have hz1 : ¬ xs = [] := by intro e; rw [e] at hl1; simp at hl1
      go_upto_region 12 with fail
      have W1 := i64_in (n := (pn : Int) + (s : Int)) (by omega)
      have W2 := i64_in (n := (pn : Int) + (xs.length : Int)) (by omega)
      have W3 := i64_in (n := (pn : Int) + (xs.length : Int) - (s : Int)) (by omega)
      have W5 := i64_in (n := (on : Int)) (by omega)
      have W6 := i64_in (n := (bk : Int)) (by omega)
      go_cut [56, 57, 58] (fun s6 s7 s8 wx => ∃ g, s6 = .slice (some ⟨g, 0, none⟩) 2 2 ∧ s7 = .int .i64 2 ∧ s8 = .int .i64 0 ∧ w.heap.size < g ∧ Blk wx g #[.int .i64 on, .int .i64 bk] 3 ∧ Blk wx w.heap.size #[.int .i64 v.xlo, .int .i64 v.xhi, .int .i64 v.ylo, .int .i64 v.yhi] 25 ∧ Kept w wx)
      case first =>
        go_region_held3 (fun w' => Kept wr w') (exact kpt) (fail)
        all_goals (go_wp2_with fail; go_meet)
        all_goals
          refine ⟨_, rfl, rfl, rfl, r0.lt, ?_, ?_, ?_⟩
          · first | exact Blk.drew (Blk.new' rfl) | exact Blk.new' rfl | exact Blk.drew (Blk.new' (by simp))
          · (exact blkc)
          · (exact kpt)
      case rest =>
       clear r0
       obtain ⟨g, rfl, rfl, rfl, hgw, q0, r0, hkq⟩ := hcut
       clear W1 W2 W3 W5 W6 HR1 HR2 HR4 HT1 HT2 HT4
       go_wp2
       go_loopw [58] (fun i wq => ∃ t : Nat, t ≤ 2 ∧ i = .int .i64 t ∧ (0 < t → calmAt v m xs on = false) ∧ (1 < t → calmAt v m xs bk = false) ∧ Blk wq g #[.int .i64 on, .int .i64 bk] 3 ∧ Blk wq w.heap.size #[.int .i64 v.xlo, .int .i64 v.xhi, .int .i64 v.ylo, .int .i64 v.yhi] 25 ∧ Kept w wq) (fun i _ => 2 - (intOf i).toNat)
       case atStart => exact ⟨0, by omega, rfl, fun h => by omega, fun h => by omega, q0, r0, hkq⟩
       case round =>
         clear r0 q0 hkq
         obtain ⟨t, ht, rfl, hf1, hf2, q0, r0, hkq⟩ := hrel
         have q0c0 := q0.cell 0
         have q0f0 := q0.free 0
         have q0c1 := q0.cell 1
         have q0f1 := q0.free 1
         have q0l := q0.lt
         simp at q0c0 q0c1
         have h012 : t = 0 ∨ t = 1 ∨ t = 2 := by omega
         rcases h012 with rfl | rfl | rfl
         · have hix : on < xs.length := onL
           obtain ⟨bb, off, rfl, hbl, h0, h1⟩ := Axis.row (hx.later hkq (Nat.le_refl _)) on hix
           have HCA := Lib.hid (show calmAt v m xs on = calmS v xs[on] m by unfold calmAt; rw [List.getD_eq_getElem?_getD, List.getElem?_eq_getElem hix]; rfl)
           have HCC := fun w => f_calm v xs[on] m w hw (HAX.out _ (List.getElem_mem hix)) hm
           obtain ⟨x, hx0⟩ : ∃ x, x = xs[on] := ⟨_, rfl⟩
           rw [← hx0] at HCC HCA h0 h1
           clear hx0
           obtain ⟨V, hV⟩ : ∃ V, V = calmS v x m := ⟨_, rfl⟩
           rw [← hV] at HCC HCA
           clear hV
           have x0 := fun g : Later wr => g.some h0
           have x1 := fun g : Later wr => g.some h1
           have r0c0 := fun g : Later wr => (r0.later g).cell 0
           have r0f0 := fun g : Later wr => (r0.later g).free 0
           have r0c1 := fun g : Later wr => (r0.later g).cell 1
           have r0f1 := fun g : Later wr => (r0.later g).free 1
           have r0c2 := fun g : Later wr => (r0.later g).cell 2
           have r0f2 := fun g : Later wr => (r0.later g).free 2
           have r0c3 := fun g : Later wr => (r0.later g).cell 3
           have r0f3 := fun g : Later wr => (r0.later g).free 3
           have r0l := fun g : Later wr => (r0.later g).lt
           simp at r0c0 r0c1 r0c2 r0c3
           have i0 : (0 : Int) ≤ (on : Int) := by omega
           have i1 : (on : Int) < (xs.length : Int) := by omega
           cases V with
           | true =>
             go_upto_region 15 with fail
             refine Later.region (by kernel_rfl) (by kernel_rfl) ?_
             repeat (first | go_big_quiet_skip | (go_big_quiet_want; go_big_quiet_op; first | go_big_quiet_on | (apply Exists.intro; refine ⟨fun g => ?_, ?_⟩; (focus (first | (go_at_call 52; with_reducible exact Later.call (HCC _)))); go_big_quiet_on)))
             refine wpQuiet_nil ?_
             intro g2
             have hkg := Kept.drop hkq g2.ok
             obtain ⟨e1, e2, e3⟩ := HSOME.out s (by omega) hno (by rw [HAT.out, HCA.out]; rfl)
             have e4 : turnTo v m xs pn s = on := by rw [HTO.out, HCA.out]; rfl
             go_wp2
             exact bodyPost_ret (v := .tuple #[.int .i64 on, .int .i64 s, .int .i64 0]) (by simp [results, Try.results18, go_sem]) rfl ⟨by first | rfl | rw [e1, e2, e3, e4], by (exact kpt)⟩
           | false =>
             go_upto_region 15 with fail
             refine Later.region (by kernel_rfl) (by kernel_rfl) ?_
             repeat (first | go_big_quiet_skip | (go_big_quiet_want; go_big_quiet_op; first | go_big_quiet_on | (apply Exists.intro; refine ⟨fun g => ?_, ?_⟩; (focus (first | (go_at_call 52; with_reducible exact Later.call (HCC _)))); go_big_quiet_on)))
             refine wpQuiet_nil ?_
             intro g2
             have hkg := Kept.drop hkq g2.ok
             go_wp2
             go_roundw
             case rel => exact ⟨1, by omega, rfl, fun _ => HCA.out, fun h => by omega, q0.later g2, r0.later g2, hkg⟩
             case measure => decide
         · have hf1 := hf1 (by omega)
           have hix : bk < xs.length := bkL
           obtain ⟨bb, off, rfl, hbl, h0, h1⟩ := Axis.row (hx.later hkq (Nat.le_refl _)) bk hix
           have HCA := Lib.hid (show calmAt v m xs bk = calmS v xs[bk] m by unfold calmAt; rw [List.getD_eq_getElem?_getD, List.getElem?_eq_getElem hix]; rfl)
           have HCC := fun w => f_calm v xs[bk] m w hw (HAX.out _ (List.getElem_mem hix)) hm
           obtain ⟨x, hx0⟩ : ∃ x, x = xs[bk] := ⟨_, rfl⟩
           rw [← hx0] at HCC HCA h0 h1
           clear hx0
           obtain ⟨V, hV⟩ : ∃ V, V = calmS v x m := ⟨_, rfl⟩
           rw [← hV] at HCC HCA
           clear hV
           have x0 := fun g : Later wr => g.some h0
           have x1 := fun g : Later wr => g.some h1
           have r0c0 := fun g : Later wr => (r0.later g).cell 0
           have r0f0 := fun g : Later wr => (r0.later g).free 0
           have r0c1 := fun g : Later wr => (r0.later g).cell 1
           have r0f1 := fun g : Later wr => (r0.later g).free 1
           have r0c2 := fun g : Later wr => (r0.later g).cell 2
           have r0f2 := fun g : Later wr => (r0.later g).free 2
           have r0c3 := fun g : Later wr => (r0.later g).cell 3
           have r0f3 := fun g : Later wr => (r0.later g).free 3
           have r0l := fun g : Later wr => (r0.later g).lt
           simp at r0c0 r0c1 r0c2 r0c3
           have i0 : (0 : Int) ≤ (bk : Int) := by omega
           have i1 : (bk : Int) < (xs.length : Int) := by omega
           cases V with
           | true =>
             go_upto_region 15 with fail
             refine Later.region (by kernel_rfl) (by kernel_rfl) ?_
             repeat (first | go_big_quiet_skip | (go_big_quiet_want; go_big_quiet_op; first | go_big_quiet_on | (apply Exists.intro; refine ⟨fun g => ?_, ?_⟩; (focus (first | (go_at_call 52; with_reducible exact Later.call (HCC _)))); go_big_quiet_on)))
             refine wpQuiet_nil ?_
             intro g2
             have hkg := Kept.drop hkq g2.ok
             obtain ⟨e1, e2, e3⟩ := HSOME.out s (by omega) hno (by rw [HAT.out, HCA.out, hf1]; rfl)
             have e4 : turnTo v m xs pn s = bk := by rw [HTO.out, hf1]; rfl
             go_wp2
             exact bodyPost_ret (v := .tuple #[.int .i64 bk, .int .i64 s, .int .i64 0]) (by simp [results, Try.results18, go_sem]) rfl ⟨by first | rfl | rw [e1, e2, e3, e4], by (exact kpt)⟩
           | false =>
             go_upto_region 15 with fail
             refine Later.region (by kernel_rfl) (by kernel_rfl) ?_
             repeat (first | go_big_quiet_skip | (go_big_quiet_want; go_big_quiet_op; first | go_big_quiet_on | (apply Exists.intro; refine ⟨fun g => ?_, ?_⟩; (focus (first | (go_at_call 52; with_reducible exact Later.call (HCC _)))); go_big_quiet_on)))
             refine wpQuiet_nil ?_
             intro g2
             have hkg := Kept.drop hkq g2.ok
             go_wp2
             go_roundw
             case rel => exact ⟨2, by omega, rfl, fun _ => hf1, fun _ => HCA.out, q0.later g2, r0.later g2, hkg⟩
             case measure => decide
         · have HF := Lib.hid (show turnAt v m xs pn s = false by rw [HAT.out, hf1 (by omega), hf2 (by omega)]; rfl)
           go_wp2
           go_roundw
           case rel =>
             refine ⟨s + 1, by omega, by go_num, fun j hj => ?_, r0, hkq⟩
             rcases Nat.lt_or_ge j s with h | h
             · exact hno j h
             · obtain rfl : j = s := by omega
               exact HF.out
           case measure => simp [intOf]; omega
    · obtain ⟨e1, e2, e3⟩ := HNONE.out (fun j hj => hno j (by omega))
      have hlt' : ¬ (s : Int) < (xs.length : Int) / 2 + 1 := by omega
      go_wp2
      exact bodyPost_ret (v := .tuple #[.int .i64 0, .int .i64 0, .int .i64 6]) (by simp [results, Try.results18, go_sem]) rfl ⟨by first | rfl | rw [e1, e2, e3], by (exact kpt)⟩

end Go.Proofs.Ytacbkbilbmkjnaa

/-
  Turned sheds: the search of the reference.
-/
namespace Go.Proofs.Ytacbkbilbmkjnaa
open Go.RowKit Bal Bal.Trim Bal.Mast
set_option linter.unusedVariables false
set_option linter.unusedSimpArgs false
set_option maxHeartbeats 4000000
set_option maxRecDepth 10000

theorem f_Turn (a : Option Addr) (cap : Nat) (xs : List Axis) (p : Int) (v : Wind) (m : Int) (w : World) (hx : Row Axis.cells 2 w.heap.size w a xs) (hc : xs.length ≤ cap) (hM : cap ≤ maxLen) (hn : xs.length ≤ 1000000) :
    Calls Try.prog 18 #[.slice a xs.length cap, .int .i64 p, .agg #[.int .i64 v.xlo, .int .i64 v.xhi, .int .i64 v.ylo, .int .i64 v.yhi], .int .i64 m] w fun e w' => e = .returned (.tuple #[.int .i64 (turnI xs p v m), .int .i64 (turnN xs p v m), .int .i64 (turnE xs p v m)]) ∧ Kept w w' := by
  by_cases h : turnOk xs p v m = 0
  · exact f_Turn_main a cap xs p v m w hx hc hM hn h
  · have e1 : turnI xs p v m = 0 := by unfold turnI; rw [if_neg h]
    have e2 : turnN xs p v m = 0 := by unfold turnN; rw [if_neg h]
    have e3 : turnE xs p v m = turnOk xs p v m := by unfold turnE; rw [if_neg h]
    rw [e1, e2, e3]
    exact f_Turn_bad a cap xs p v m w hx hc hM hn h
end Go.Proofs.Ytacbkbilbmkjnaa

/-
  MastTurns: turned sheds and manned lines are the same in the program and in the reference: for every input.
-/
namespace Go.Proofs.Ytacbkbilbmkjnaa
open Go.RowKit Bal Bal.Trim Bal.Mast
set_option linter.unusedVariables false
set_option linter.unusedSimpArgs false
set_option maxHeartbeats 4000000
set_option maxRecDepth 10000

theorem r_Great (a : Option Addr) (c : Nat) (xs : List Axis) (pe mo : Int) (b : Option Addr) (d : Nat) (ys : List Span) (cr : Int) (w : World) (h1 : c ≤ maxLen) (h2 : d ≤ maxLen) (h3 : xs.length ≤ c) (h4 : ys.length ≤ d) :
    Calls Try.prog 17 #[.agg #[.slice a xs.length c, .int .i64 pe, .int .i64 mo, .slice b ys.length d, .int .i64 cr]] w fun e w' => e = .returned (.bool (decide (40 < xs.length) || decide (20 < ys.length))) ∧ Kept w w' := by
  unfold maxLen at h1 h2
  by_cases k1 : 40 < xs.length <;> by_cases k2 : 20 < ys.length
  all_goals
    go_enter Try.func17, Try.ntmps17
    go_wp2
    all_goals (go_ret; exact ⟨ret_bool (by first | (simp [k1, k2]; done) | (simp [k1, k2]; omega)), by (exact kpt)⟩)

theorem r_SameInts (a b : Option Addr) (c d : Nat) (xs : List Int) (w : World) (hx : Row icell 1 w.heap.size w a xs) (hy : Row icell 1 w.heap.size w b xs) (hc : xs.length ≤ c) (hd : xs.length ≤ d) (hM : c ≤ maxLen) (hN : d ≤ maxLen) :
    Calls Try.prog 22 #[.slice a xs.length c, .slice b xs.length d] w fun e w' => e = .returned (.bool true) ∧ Kept w w' := by
  unfold maxLen at hM hN
  go_enter Try.func22, Try.ntmps22
  go_wp2
  go_loopw [5] (fun i wr => ∃ k : Nat, k ≤ xs.length ∧ i = .int .i64 k ∧ Kept w wr) (fun i _ => xs.length - (intOf i).toNat)
  case atStart => exact ⟨0, Nat.zero_le _, rfl, Below.refl _ _⟩
  case round =>
    obtain ⟨k, hk, rfl, hkk⟩ := hrel
    by_cases hlt : k < xs.length
    · obtain ⟨b1, o1, rfl, hb1, h0⟩ := int_row (hx.later hkk (Nat.le_refl _)) k hlt
      obtain ⟨b2, o2, rfl, hb2, j0⟩ := int_row (hy.later hkk (Nat.le_refl _)) k hlt
      obtain ⟨x, hx0⟩ : ∃ x, x = xs[k] := ⟨_, rfl⟩
      rw [← hx0] at h0 j0
      clear hx0
      have x0 := fun g : Later wr => g.some h0
      have x1 := fun g : Later wr => g.some j0
      go_upto_region 6 with fail
      refine Later.region (by kernel_rfl) (by kernel_rfl) ?_
      repeat (first | go_big_quiet_skip | (go_big_quiet_want; go_big_quiet_op; first | go_big_quiet_on | (apply Exists.intro; refine ⟨fun g => ?_, ?_⟩; (focus (first | fail)); go_big_quiet_on)))
      refine wpQuiet_nil ?_
      intro gg
      have hkgg := Kept.drop hkk gg.ok
      go_wp2
      go_roundw
      case rel => exact ⟨k + 1, by omega, by go_num, hkgg⟩
      case measure => simp [intOf]; omega
    · obtain rfl : k = xs.length := by omega
      go_wp2
      go_ret
      exact ⟨rfl, hkk⟩

end Go.Proofs.Ytacbkbilbmkjnaa

/-
  Berths and steps that came in as cells. No program in sight.
-/
namespace Bal.Mast
open Go Go.RowKit Bal
def Berth.cells (b : Berth) : List Value := [.int .u8 b.ship, .int .i64 b.axis, .int .i64 b.held, .bool b.wire, .bool b.opn]
def Step.cells (s : Step) : List Value := [.int .u8 s.act.kind, .int .i64 s.act.n, .int .i64 s.wind.xlo, .int .i64 s.wind.xhi, .int .i64 s.wind.ylo, .int .i64 s.wind.yhi]
theorem u8_bd {n : Int} (h : (Lit.int .u8 n).wf = true) : 0 ≤ n ∧ n ≤ 255 := by
  simp only [Lit.wf, Bool.and_eq_true, decide_eq_true_eq] at h
  have e1 : IntKind.min .u8 = 0 := by decide
  have e2 : IntKind.max .u8 = 255 := by decide
  rw [e1, e2] at h
  exact h
theorem Berth.of_leaves {cs : List Value} (h : LeavesOk [.int .u8, .int .i64, .int .i64, .bool, .bool] cs) : ∃ x : Berth, cs = x.cells ∧ 0 ≤ x.ship ∧ x.ship ≤ 255 := by
  obtain ⟨hl, h⟩ := h
  match cs, hl with
  | [v0, v1, v2, v3, v4], _ =>
    obtain ⟨_, e0, n0, rfl, w0⟩ := h 0 (.int .u8) rfl; simp at e0; subst e0
    obtain ⟨_, e1, n1, rfl, w1⟩ := h 1 (.int .i64) rfl; simp at e1; subst e1
    obtain ⟨_, e2, n2, rfl, w2⟩ := h 2 (.int .i64) rfl; simp at e2; subst e2
    obtain ⟨_, e3, n3, rfl⟩ := h 3 .bool rfl; simp at e3; subst e3
    obtain ⟨_, e4, n4, rfl⟩ := h 4 .bool rfl; simp at e4; subst e4
    exact ⟨⟨n0, n1, n2, n3, n4⟩, rfl, (u8_bd w0).1, (u8_bd w0).2⟩
theorem Step.of_leaves {cs : List Value} (h : LeavesOk [.int .u8, .int .i64, .int .i64, .int .i64, .int .i64, .int .i64] cs) : ∃ x : Step, cs = x.cells ∧ 0 ≤ x.act.kind ∧ x.act.kind ≤ 255 := by
  obtain ⟨hl, h⟩ := h
  match cs, hl with
  | [v0, v1, v2, v3, v4, v5], _ =>
    obtain ⟨_, e0, n0, rfl, w0⟩ := h 0 (.int .u8) rfl; simp at e0; subst e0
    obtain ⟨_, e1, n1, rfl, w1⟩ := h 1 (.int .i64) rfl; simp at e1; subst e1
    obtain ⟨_, e2, n2, rfl, w2⟩ := h 2 (.int .i64) rfl; simp at e2; subst e2
    obtain ⟨_, e3, n3, rfl, w3⟩ := h 3 (.int .i64) rfl; simp at e3; subst e3
    obtain ⟨_, e4, n4, rfl, w4⟩ := h 4 (.int .i64) rfl; simp at e4; subst e4
    obtain ⟨_, e5, n5, rfl, w5⟩ := h 5 (.int .i64) rfl; simp at e5; subst e5
    exact ⟨⟨⟨n0, n1⟩, ⟨n2, n3, n4, n5⟩⟩, rfl, (u8_bd w0).1, (u8_bd w0).2⟩
end Bal.Mast
