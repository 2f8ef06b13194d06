/-
  Acts that take a share out of a cell: valve, purify.
-/
import Derived.Recover
import Derived.Laws.EntriesVeiled
import Derived.Deep.RegionHeld3
import Derived.Deep.DeepCutAuto
import Derived.WideShapes
import Derived.Test.YtemafanncejeiaaProg
import Derived.WalkKit
import Derived.WalkSpells
import Derived.WalkLawsBesides
import Derived.Lib.Hide
import Derived.ProofKit
import Derived.OpenShut
import Derived.ChangeOld
import Derived.Below
import Derived.Deep.Slices
import Derived.Deep.Fields
import Derived.Deep.Quiet
import Derived.Laws.AppendOwn
import Derived.Laws.AppendOwnNone
import Derived.StillTail
import Derived.Deep.QuietTactic
import Derived.BigQuiet
import Derived.RangeFuncNested
import Derived.RangeFuncCalls
import Derived.OrdersIn
import Derived.RangeFuncBound
import Derived.RangeFuncLeaves
import Derived.Shelf.Abstract
import Derived.Shelf.RegionOpen
import Derived.OwnWalkIn
import Derived.TacticsInMore
import Derived.LoopNIn
import Derived.LoopIn
import Derived.WalkSmall
import Derived.OwnWalk
import Derived.Deep.RegionWith
import Derived.Deep.DrawnRows
import Derived.OrdersHeld
import Derived.Test.YtemafanncejeiaaGasBaseMA
import Derived.Test.YtemafanncejeiaaGasBaseMB
import Derived.Test.YtemafanncejeiaaGasBaseMC
set_option linter.unusedVariables false
set_option linter.unusedSimpArgs false
/-
  Acts that take a share out of a cell: valve, purify.
-/
namespace Go.Proofs.Ytemafanncejeiaa
open Go.RowKit Bal Bal.Trim Bal.Gas
set_option linter.unusedVariables false
set_option linter.unusedSimpArgs false
set_option maxHeartbeats 4000000
set_option maxRecDepth 10000

theorem f_outX_none {B cp g : Nat} {xs : List Cell} {w : World} (h : Mine 25 B w (.slice (some ⟨g, 0, none⟩) xs.length cp) xs) {i : Nat} {x : Cell} (hx : xs[i]? = some x) (hc : okC x) (n : Int) (h1 : x.helium + x.air < n) :
    Calls Try.prog 136 #[.pointer (some ⟨g, i * 7, none⟩), .int .i64 n] w fun e w' => e = .panicked [{ v := refusal 6, recovered := false }] ∧ Kept w w' := by
  obtain ⟨hi, rfl⟩ := List.getElem?_eq_some_iff.1 hx
  exact f_out_none h hi hc n h1
theorem f_outX {B cp g : Nat} {xs : List Cell} {w : World} (h : Mine 25 B w (.slice (some ⟨g, 0, none⟩) xs.length cp) xs) {i : Nat} {x : Cell} (hx : xs[i]? = some x) (hc : okC x) (n : Int) (h0 : 1 ≤ n) (h1 : n ≤ x.helium + x.air) :
    Calls Try.prog 136 #[.pointer (some ⟨g, i * 7, none⟩), .int .i64 n] w fun e w' => e = .returned (.agg #[.int .i64 (shareH x n), .int .i64 (n - shareH x n)]) ∧
      Mine 25 B w' (.slice (some ⟨g, 0, none⟩) xs.length cp) (xs.set i (less x n)) ∧ Below B w w' ∧ Besides 25 w w' := by
  obtain ⟨hi, rfl⟩ := List.getElem?_eq_some_iff.1 hx
  exact f_out_ok h hi hc n h0 h1
theorem Besides.thru {T : TypeId} {w w' : World} {b : Nat} {arr : Array Value} {t : TypeId} {G : Prop} (hb : Blk w b arr t) (h : Besides T w w') (hne : t ≠ T) (k : Blk w' b arr t → G) : G := k (h b arr t hne hb)
theorem alloc_pair (ρ : Operand → Value) (o : Oper) (ho : o.op = .alloc 61) (w : World) : (execOp ρ o).run Try.prog w = .ok (.value (.pointer (some ⟨w.heap.size, 0, none⟩))) (w.alloc (.cells #[.int .i64 0, .int .i64 0] 61)) := by
  obtain ⟨_, op, _, _, _, _⟩ := o
  simp only at ho
  subst ho
  simp [execOp, go_sem]
theorem makes_pair {W : World} {ops : Array Oper} {q : Nat} {oq : Oper} (h : ops[q]? = some oq) (hg : oq.guard = none) (ho : oq.op = .alloc 61) : makesB Try.prog ops (fun w' => ∃ g : Later W, w' = g.val) (some q) :=
  ⟨oq, h, hg, fun a w ⟨g, hw⟩ => ⟨_, _, ⟨⟨w.alloc _, by subst hw; exact (g.ok).alloc g.ok.size _⟩, rfl⟩, alloc_pair _ _ ho w⟩⟩

theorem f_valve_no1 {B s cp : Nat} {ad : Option Addr} {p : Plant} {w : World} (d : Deed) (h : Shop 25 174 B w s ad cp p) (hp : plantB p = true) (ha : argB p d = false) : Calls Try.prog 108 #[.pointer (some ⟨s, 0, none⟩), .agg #[.int .u8 d.kind, .int .i64 d.cell, .int .i64 d.to, .int .i64 d.n]] w fun e w' => e = .panicked [{ v := refusal 2, recovered := false }] ∧ Kept w w' := by
  have hn12 : p.cells.length ≤ 12 := (plantB_iff.1 hp).1
  have HA := Lib.hid ha
  obtain ⟨hB, hs, hm⟩ := h
  clear ha hp
  go_enter Try.func108, Try.ntmps108
  go_upto_region 1 with fail
  refine at_world (S := fun W => Blk W w.heap.size #[.int .u8 d.kind, .int .i64 d.cell, .int .i64 d.to, .int .i64 d.n] 65 ∧ Blk W s #[.slice ad p.cells.length cp, .int .i64 (p.bottles), .int .i64 (p.inH), .int .i64 (p.inA), .int .i64 (p.vH), .int .i64 (p.vA), .int .i64 (p.lH), .int .i64 (p.lA), .int .i64 (p.pH), .int .i64 (p.pA)] 174 ∧ Kept w W) ⟨by (exact blkc), hs.keep (by (exact kpt)), by (exact kpt)⟩ ?_
  rintro W ⟨r0, hsW, hk⟩
  have r0c0 := fun g : Later W => (r0.later g).cell 0
  have r0f0 := fun g : Later W => (r0.later g).free 0
  have r0c1 := fun g : Later W => (r0.later g).cell 1
  have r0f1 := fun g : Later W => (r0.later g).free 1
  have r0c2 := fun g : Later W => (r0.later g).cell 2
  have r0f2 := fun g : Later W => (r0.later g).free 2
  have r0c3 := fun g : Later W => (r0.later g).cell 3
  have r0f3 := fun g : Later W => (r0.later g).free 3
  have r0l := fun g : Later W => (r0.later g).lt
  simp at r0c0 r0c1 r0c2 r0c3
  have hsWc0 := fun g : Later W => (hsW.later g).cell 0
  have hsWf0 := fun g : Later W => (hsW.later g).free 0
  have hsWc1 := fun g : Later W => (hsW.later g).cell 1
  have hsWf1 := fun g : Later W => (hsW.later g).free 1
  have hsWc2 := fun g : Later W => (hsW.later g).cell 2
  have hsWf2 := fun g : Later W => (hsW.later g).free 2
  have hsWc3 := fun g : Later W => (hsW.later g).cell 3
  have hsWf3 := fun g : Later W => (hsW.later g).free 3
  have hsWc4 := fun g : Later W => (hsW.later g).cell 4
  have hsWf4 := fun g : Later W => (hsW.later g).free 4
  have hsWc5 := fun g : Later W => (hsW.later g).cell 5
  have hsWf5 := fun g : Later W => (hsW.later g).free 5
  have hsWc6 := fun g : Later W => (hsW.later g).cell 6
  have hsWf6 := fun g : Later W => (hsW.later g).free 6
  have hsWc7 := fun g : Later W => (hsW.later g).cell 7
  have hsWf7 := fun g : Later W => (hsW.later g).free 7
  have hsWc8 := fun g : Later W => (hsW.later g).cell 8
  have hsWf8 := fun g : Later W => (hsW.later g).free 8
  have hsWc9 := fun g : Later W => (hsW.later g).cell 9
  have hsWf9 := fun g : Later W => (hsW.later g).free 9
  have hsWl := fun g : Later W => (hsW.later g).lt
  simp at hsWc0 hsWc1 hsWc2 hsWc3 hsWc4 hsWc5 hsWc6 hsWc7 hsWc8 hsWc9
  refine later_dies [0, 1, 2, 3, 4, 5, 6, 7, 9, 10] 8 none (by kernel_rfl) (by kernel_rfl) (fun c a d v w h => by cases d <;> exact h) trivial ?_
  simp only [List.filterMap_cons, List.filterMap_nil, List.getElem?_cons_zero, List.getElem?_cons_succ, List.map_cons, List.map_nil]
  repeat (refine wpSteps_quiet ?_; (first | go_big_quiet_skip | (go_big_quiet_want; go_big_quiet_op; first | go_big_quiet_on | (apply Exists.intro; refine ⟨fun g_ => ?_, ?_⟩; (focus (first | fail)); go_big_quiet_on))); refine wpQuiet_nil ?_)
  refine wpSteps_nil ?_
  refine ⟨DiesAt.of rfl rfl (fun w' hw' => ?_), fun _ _ h => by cases h⟩
  obtain ⟨gg, rfl⟩ := hw'
  simp only [Go.wp_at_succ, Go.wp_at_zero]
  go_simp
  (with_reducible refine (f_cell_no s ad cp p d _ (hsW.later gg) hn12 HA.out).mono ?_)
  rintro e w1 ⟨rfl, hb1⟩
  have hkg := Kept.drop hk gg.ok
  exact ⟨rfl, rfl, by (exact kpt)⟩
theorem f_valve_no2 {B s cp : Nat} {ad : Option Addr} {p : Plant} {w : World} (d : Deed) (h : Shop 25 174 B w s ad cp p) (hp : plantB p = true) (ha : argB p d = true) (hl : amount (at_ p d) < d.n) : Calls Try.prog 108 #[.pointer (some ⟨s, 0, none⟩), .agg #[.int .u8 d.kind, .int .i64 d.cell, .int .i64 d.to, .int .i64 d.n]] w fun e w' => e = .panicked [{ v := refusal 6, recovered := false }] ∧ Kept w w' := by
  have hn12 : p.cells.length ≤ 12 := (plantB_iff.1 hp).1
  have hb := plantB_iff.1 hp
  have hi : d.cell.toNat < p.cells.length := by
    have h1 : rng [d.cell] 0 (p.cells.length - 1) = true := by unfold argB at ha; simp only [Bool.and_eq_true] at ha; exact ha.1
    have : 0 ≤ d.cell ∧ d.cell ≤ p.cells.length - 1 := by simpa [rng, inB] using h1
    omega
  have hn : 1 ≤ d.n ∧ d.n ≤ 10000000 := by
    have h1 : rng [d.n] 1 10000000 = true := by unfold argB at ha; simp only [Bool.and_eq_true] at ha; exact ha.2
    simpa [rng, inB] using h1
  have hcv : cellB p.cells[d.cell.toNat] = true := hb.2.2.2.2.2.2.1 _ (List.getElem_mem hi)
  have hat : at_ p d = p.cells[d.cell.toNat] := cellAt_get hi
  have HA := Lib.hid ha
  obtain ⟨hB, hs, hm⟩ := h
  have hBw : B ≤ w.heap.size := by have := hs.lt; omega
  obtain ⟨g, _, rfl, hBg, hbg, _⟩ := hm.at hi
  have hgl := hbg.lt
  clear hbg
  obtain ⟨x, hx⟩ : ∃ x, x = p.cells[d.cell.toNat] := ⟨_, rfl⟩
  have HX := Lib.hid (show p.cells[d.cell.toNat]? = some x by rw [hx]; simp [hi])
  rw [← hx] at hcv hat
  have hxb := cellB_iff.1 hcv
  have HAT := Lib.hid hat
  have HXX := Lib.hid hx
  clear ha hat hx
  have hlt : x.helium + x.air < d.n := by rw [HAT.out] at hl; exact hl
  have HOK := Lib.hid (okC_of hcv)
  clear hp hb hl
  go_enter Try.func108, Try.ntmps108
  go_upto_region 1 with fail
  refine at_world (S := fun W => Blk W w.heap.size #[.int .u8 d.kind, .int .i64 d.cell, .int .i64 d.to, .int .i64 d.n] 65 ∧ Blk W s #[.slice (some ⟨g, 0, none⟩) p.cells.length cp, .int .i64 (p.bottles), .int .i64 (p.inH), .int .i64 (p.inA), .int .i64 (p.vH), .int .i64 (p.vA), .int .i64 (p.lH), .int .i64 (p.lA), .int .i64 (p.pH), .int .i64 (p.pA)] 174 ∧ Mine 25 B W (.slice (some ⟨g, 0, none⟩) p.cells.length cp) p.cells ∧ Kept w W) ⟨by (exact blkc), hs.keep (by (exact kpt)), hm.keep (by (exact kpt)), by (exact kpt)⟩ ?_
  rintro W ⟨r0, hsW, hmW, hk⟩
  have r0c0 := fun g : Later W => (r0.later g).cell 0
  have r0f0 := fun g : Later W => (r0.later g).free 0
  have r0c1 := fun g : Later W => (r0.later g).cell 1
  have r0f1 := fun g : Later W => (r0.later g).free 1
  have r0c2 := fun g : Later W => (r0.later g).cell 2
  have r0f2 := fun g : Later W => (r0.later g).free 2
  have r0c3 := fun g : Later W => (r0.later g).cell 3
  have r0f3 := fun g : Later W => (r0.later g).free 3
  have r0l := fun g : Later W => (r0.later g).lt
  simp at r0c0 r0c1 r0c2 r0c3
  have hsWc0 := fun g : Later W => (hsW.later g).cell 0
  have hsWf0 := fun g : Later W => (hsW.later g).free 0
  have hsWc1 := fun g : Later W => (hsW.later g).cell 1
  have hsWf1 := fun g : Later W => (hsW.later g).free 1
  have hsWc2 := fun g : Later W => (hsW.later g).cell 2
  have hsWf2 := fun g : Later W => (hsW.later g).free 2
  have hsWc3 := fun g : Later W => (hsW.later g).cell 3
  have hsWf3 := fun g : Later W => (hsW.later g).free 3
  have hsWc4 := fun g : Later W => (hsW.later g).cell 4
  have hsWf4 := fun g : Later W => (hsW.later g).free 4
  have hsWc5 := fun g : Later W => (hsW.later g).cell 5
  have hsWf5 := fun g : Later W => (hsW.later g).free 5
  have hsWc6 := fun g : Later W => (hsW.later g).cell 6
  have hsWf6 := fun g : Later W => (hsW.later g).free 6
  have hsWc7 := fun g : Later W => (hsW.later g).cell 7
  have hsWf7 := fun g : Later W => (hsW.later g).free 7
  have hsWc8 := fun g : Later W => (hsW.later g).cell 8
  have hsWf8 := fun g : Later W => (hsW.later g).free 8
  have hsWc9 := fun g : Later W => (hsW.later g).cell 9
  have hsWf9 := fun g : Later W => (hsW.later g).free 9
  have hsWl := fun g : Later W => (hsW.later g).lt
  simp at hsWc0 hsWc1 hsWc2 hsWc3 hsWc4 hsWc5 hsWc6 hsWc7 hsWc8 hsWc9
  refine later_dies [0, 1, 2, 3, 4, 5, 6, 7, 8, 9, 10] 11 none (by kernel_rfl) (by kernel_rfl) (fun c a d v w h => by cases d <;> exact h) trivial ?_
  simp only [List.filterMap_cons, List.filterMap_nil, List.getElem?_cons_zero, List.getElem?_cons_succ, List.map_cons, List.map_nil]
  repeat (refine wpSteps_quiet ?_; (first | go_big_quiet_skip | (go_big_quiet_want; go_big_quiet_op; first | go_big_quiet_on | (apply Exists.intro; refine ⟨fun g_ => ?_, ?_⟩; (focus (first | (go_at_call 135; exact Later.call (f_cell_ok s g cp p d _ (hsW.later g_) hn12 HA.out)))); go_big_quiet_on))); refine wpQuiet_nil ?_)
  refine wpSteps_nil ?_
  refine ⟨DiesAt.of rfl rfl (fun w' hw' => ?_), fun _ _ h => by cases h⟩
  obtain ⟨gg, rfl⟩ := hw'
  simp only [Go.wp_at_succ, Go.wp_at_zero]
  go_simp
  (with_reducible refine (f_outX_none (hmW.keep gg.ok) HX.out HOK.out d.n hlt).mono ?_)
  rintro e w1 ⟨rfl, hb1⟩
  have hkg := Kept.drop hk gg.ok
  exact ⟨rfl, rfl, by (exact kpt)⟩
theorem f_valve_ok {B s cp : Nat} {ad : Option Addr} {p : Plant} {w : World} (d : Deed) (h : Shop 25 174 B w s ad cp p) (hp : plantB p = true) (ha : argB p d = true) (hl : ¬ amount (at_ p d) < d.n) : Calls Try.prog 108 #[.pointer (some ⟨s, 0, none⟩), .agg #[.int .u8 d.kind, .int .i64 d.cell, .int .i64 d.to, .int .i64 d.n]] w fun e w' => e = .returned (.tuple #[]) ∧ Shop 25 174 B w' s ad cp (valveP p d) ∧ Below B w w' := by
  have hn12 : p.cells.length ≤ 12 := (plantB_iff.1 hp).1
  have hb := plantB_iff.1 hp
  have hi : d.cell.toNat < p.cells.length := by
    have h1 : rng [d.cell] 0 (p.cells.length - 1) = true := by unfold argB at ha; simp only [Bool.and_eq_true] at ha; exact ha.1
    have : 0 ≤ d.cell ∧ d.cell ≤ p.cells.length - 1 := by simpa [rng, inB] using h1
    omega
  have hn : 1 ≤ d.n ∧ d.n ≤ 10000000 := by
    have h1 : rng [d.n] 1 10000000 = true := by unfold argB at ha; simp only [Bool.and_eq_true] at ha; exact ha.2
    simpa [rng, inB] using h1
  have hcv : cellB p.cells[d.cell.toNat] = true := hb.2.2.2.2.2.2.1 _ (List.getElem_mem hi)
  have hat : at_ p d = p.cells[d.cell.toNat] := cellAt_get hi
  have HA := Lib.hid ha
  obtain ⟨hB, hs, hm⟩ := h
  have hBw : B ≤ w.heap.size := by have := hs.lt; omega
  obtain ⟨g, _, rfl, hBg, hbg, _⟩ := hm.at hi
  have hgl := hbg.lt
  clear hbg
  obtain ⟨x, hx⟩ : ∃ x, x = p.cells[d.cell.toNat] := ⟨_, rfl⟩
  have HX := Lib.hid (show p.cells[d.cell.toNat]? = some x by rw [hx]; simp [hi])
  rw [← hx] at hcv hat
  have hxb := cellB_iff.1 hcv
  have HAT := Lib.hid hat
  have HXX := Lib.hid hx
  clear ha hat hx
  have hle : d.n ≤ x.helium + x.air := by rw [HAT.out] at hl; unfold amount at hl; omega
  have HOK := Lib.hid (okC_of hcv)
  obtain ⟨s0, s1, s2, s3⟩ := share_bd HOK.out (show 0 ≤ d.n by omega) hle
  obtain ⟨S, hS⟩ : ∃ S, S = shareH x d.n := ⟨_, rfl⟩
  have HSS := Lib.hid (show shareH x d.n = S from hS.symm)
  have HOUT := fun (W : World) (q : Mine 25 B W (.slice (some ⟨g, 0, none⟩) p.cells.length cp) p.cells) => f_outX q HX.out HOK.out d.n hn.1 hle
  rw [← hS] at s0 s1 s2 s3 HOUT
  obtain ⟨_, hb1, ⟨hb2, hb3⟩, ⟨hb4, hb5⟩, ⟨hb6, hb7⟩, ⟨hb8, hb9⟩, _⟩ := hb
  clear hS hl
  clear hp
  go_enter Try.func108, Try.ntmps108
  go_upto_region 1 with fail
  refine at_world (S := fun W => Blk W w.heap.size #[.int .u8 d.kind, .int .i64 d.cell, .int .i64 d.to, .int .i64 d.n] 65 ∧ Blk W s #[.slice (some ⟨g, 0, none⟩) p.cells.length cp, .int .i64 (p.bottles), .int .i64 (p.inH), .int .i64 (p.inA), .int .i64 (p.vH), .int .i64 (p.vA), .int .i64 (p.lH), .int .i64 (p.lA), .int .i64 (p.pH), .int .i64 (p.pA)] 174 ∧ Mine 25 B W (.slice (some ⟨g, 0, none⟩) p.cells.length cp) p.cells ∧ Kept w W) ⟨by (exact blkc), hs.keep (by (exact kpt)), hm.keep (by (exact kpt)), by (exact kpt)⟩ ?_
  rintro W ⟨r0, hsW, hmW, hk⟩
  refine held_walk (fun w' => Blk w' s #[.slice (some ⟨g, 0, none⟩) p.cells.length cp, .int .i64 (p.bottles), .int .i64 (p.inH), .int .i64 (p.inA), .int .i64 (p.vH), .int .i64 (p.vA), .int .i64 (p.lH), .int .i64 (p.lA), .int .i64 (p.pH), .int .i64 (p.pA)] 174 ∧ Blk w' w.heap.size #[.int .u8 d.kind, .int .i64 d.cell, .int .i64 d.to, .int .i64 d.n] 65) [(true, 0), (true, 1), (true, 2), (true, 3), (true, 4), (true, 5), (true, 6), (true, 7), (true, 9), (true, 10), (false, 8), (false, 11), (false, 12), (true, 13), (true, 14), (true, 15), (false, 16)] 16 (by kernel_rfl) (by kernel_rfl) (fun c a d v w h => by cases d <;> exact h) ⟨hsW.drew, r0.drew⟩ ?_
  simp only [List.filterMap_cons, List.filterMap_nil, List.getElem?_cons_zero, List.getElem?_cons_succ, Option.map_some]
  iterate 10 ((first | (refine held_take ?_ ?_ (fun w' hS => ?_) ?_; rotate_left 1; (focus rfl); (focus (first | (go_simp; done) | (go_simp; with_reducible rfl) | (obtain ⟨S1, S2⟩ := hS; have k0 := S1.cell 0; have k1 := S1.cell 1; have k2 := S1.cell 2; have k3 := S1.cell 3; have k4 := S1.cell 4; have k5 := S1.cell 5; have k6 := S1.cell 6; have k7 := S1.cell 7; have k8 := S1.cell 8; have k9 := S1.cell 9; have j0 := S2.cell 0; have j1 := S2.cell 1; have j2 := S2.cell 2; have j3 := S2.cell 3; simp at k0 k1 k2 k3 k4 k5 k6 k7 k8 k9 j0 j1 j2 j3; first | (go_simp; done) | (go_simp; with_reducible rfl))))) | (refine held_pass ?_ ?_; (focus rfl))); simp only [Act.put, List.setIfInBounds_toArray, List.set_cons_zero, List.set_cons_succ])
  refine held_one ?_
  refine wpList_plain rfl fun K1 hK1 => ?_
  go_wp2_with (go_at_call 135; (with_reducible refine (f_cell_ok s g cp p d _ hsW.drew hn12 HA.out).mono ?_); rintro e w1 ⟨rfl, hb1⟩)
  refine held_on ⟨hsW.drew.keep hb1, r0.drew.keep hb1⟩ ?_
  refine held_one ?_
  refine wpList_plain rfl fun K1 hK1 => ?_
  go_wp2_with (go_at_call 136; (with_reducible refine (HOUT _ (hmW.drew.keep hb1)).mono ?_); rintro e w2 ⟨rfl, hm2, hw2, hbes2⟩)
  refine held_on ⟨(hsW.drew.keep hb1 |> hbes2.blk (by decide)), (r0.drew.keep hb1 |> hbes2.blk (by decide))⟩ ?_
  refine held_one ?_
  refine wpList_plain rfl fun K1 hK1 => ?_
  go_wp2_with (go_at_call 123; (with_reducible refine (f_plus _ _ _ _ _ (by omega) (by omega) (by omega) (by omega)).mono ?_); rintro e w3 ⟨rfl, hb3⟩)
  refine held_on ⟨(hbes2.blk (by decide) (hsW.drew.keep hb1)).keep hb3, (hbes2.blk (by decide) (r0.drew.keep hb1)).keep hb3⟩ ?_
  iterate 3 ((first | (refine held_take ?_ ?_ (fun w' hS => ?_) ?_; rotate_left 1; (focus rfl); (focus (first | (go_simp; done) | (go_simp; with_reducible rfl) | (obtain ⟨S1, S2⟩ := hS; have k0 := S1.cell 0; have k1 := S1.cell 1; have k2 := S1.cell 2; have k3 := S1.cell 3; have k4 := S1.cell 4; have k5 := S1.cell 5; have k6 := S1.cell 6; have k7 := S1.cell 7; have k8 := S1.cell 8; have k9 := S1.cell 9; have j0 := S2.cell 0; have j1 := S2.cell 1; have j2 := S2.cell 2; have j3 := S2.cell 3; simp at k0 k1 k2 k3 k4 k5 k6 k7 k8 k9 j0 j1 j2 j3; first | (go_simp; done) | (go_simp; with_reducible rfl))))) | (refine held_pass ?_ ?_; (focus rfl))); simp only [Act.put, List.setIfInBounds_toArray, List.set_cons_zero, List.set_cons_succ])
  refine held_one ?_
  refine wpList_plain rfl fun K1 hK1 => ?_
  have z1 : Blk w3 s #[.slice (some ⟨g, 0, none⟩) p.cells.length cp, .int .i64 (p.bottles), .int .i64 (p.inH), .int .i64 (p.inA), .int .i64 (p.vH), .int .i64 (p.vA), .int .i64 (p.lH), .int .i64 (p.lA), .int .i64 (p.pH), .int .i64 (p.pA)] 174 := (hbes2.blk (by decide) (hsW.drew.keep hb1)).keep hb3
  have z1c0 := z1.cell 0
  have z1f0 := z1.free 0
  have z1c1 := z1.cell 1
  have z1f1 := z1.free 1
  have z1c2 := z1.cell 2
  have z1f2 := z1.free 2
  have z1c3 := z1.cell 3
  have z1f3 := z1.free 3
  have z1c4 := z1.cell 4
  have z1f4 := z1.free 4
  have z1c5 := z1.cell 5
  have z1f5 := z1.free 5
  have z1c6 := z1.cell 6
  have z1f6 := z1.free 6
  have z1c7 := z1.cell 7
  have z1f7 := z1.free 7
  have z1c8 := z1.cell 8
  have z1f8 := z1.free 8
  have z1c9 := z1.cell 9
  have z1f9 := z1.free 9
  have z1l := z1.lt
  simp at z1c0 z1c1 z1c2 z1c3 z1c4 z1c5 z1c6 z1c7 z1c8 z1c9
  go_wp2
  (first | refine held_end ?_ | (refine onward_on ?_; refine held_nil ?_))
  go_wp2
  go_end0
  refine ⟨rfl, ⟨hB, ?_, ?_⟩, ?_⟩
  · exact ((z1.set 4 (.int .i64 (p.vH + S))).set 5 (.int .i64 (p.vA + (d.n - S)))).cast (by simp [plantCells, valveP, lessP, HAT.out, HSS.out])
  · have q := ((hm2.keep hb3).other z1 (by decide) (o := 4) (.int .i64 (p.vH + S))).other (z1.set 4 (.int .i64 (p.vH + S))) (by decide) (o := 5) (.int .i64 (p.vA + (d.n - S)))
    simpa [valveP, lessP, HAT.out] using q
  · have e0 := hk.size
    have e1 : W.heap.size ≤ w1.heap.size := hb1.size
    have e2 := hw2.size
    have q := ((((hk.mono hBw).drew).trans (hb1.mono (show B ≤ W.heap.size by omega))).trans hw2).trans (hb3.mono (by omega))
    exact (q.setCell hB _).setCell hB _

theorem f_purify_no1 {B s cp : Nat} {ad : Option Addr} {p : Plant} {w : World} (d : Deed) (h : Shop 25 174 B w s ad cp p) (hp : plantB p = true) (ha : argB p d = false) : Calls Try.prog 110 #[.pointer (some ⟨s, 0, none⟩), .agg #[.int .u8 d.kind, .int .i64 d.cell, .int .i64 d.to, .int .i64 d.n]] w fun e w' => e = .panicked [{ v := refusal 2, recovered := false }] ∧ Kept w w' := by
  have hn12 : p.cells.length ≤ 12 := (plantB_iff.1 hp).1
  have HA := Lib.hid ha
  obtain ⟨hB, hs, hm⟩ := h
  clear ha hp
  go_enter Try.func110, Try.ntmps110
  go_upto_region 1 with fail
  refine at_world (S := fun W => Blk W w.heap.size #[.int .u8 d.kind, .int .i64 d.cell, .int .i64 d.to, .int .i64 d.n] 65 ∧ Blk W s #[.slice ad p.cells.length cp, .int .i64 (p.bottles), .int .i64 (p.inH), .int .i64 (p.inA), .int .i64 (p.vH), .int .i64 (p.vA), .int .i64 (p.lH), .int .i64 (p.lA), .int .i64 (p.pH), .int .i64 (p.pA)] 174 ∧ Kept w W) ⟨by (exact blkc), hs.keep (by (exact kpt)), by (exact kpt)⟩ ?_
  rintro W ⟨r0, hsW, hk⟩
  have r0c0 := fun g : Later W => (r0.later g).cell 0
  have r0f0 := fun g : Later W => (r0.later g).free 0
  have r0c1 := fun g : Later W => (r0.later g).cell 1
  have r0f1 := fun g : Later W => (r0.later g).free 1
  have r0c2 := fun g : Later W => (r0.later g).cell 2
  have r0f2 := fun g : Later W => (r0.later g).free 2
  have r0c3 := fun g : Later W => (r0.later g).cell 3
  have r0f3 := fun g : Later W => (r0.later g).free 3
  have r0l := fun g : Later W => (r0.later g).lt
  simp at r0c0 r0c1 r0c2 r0c3
  have hsWc0 := fun g : Later W => (hsW.later g).cell 0
  have hsWf0 := fun g : Later W => (hsW.later g).free 0
  have hsWc1 := fun g : Later W => (hsW.later g).cell 1
  have hsWf1 := fun g : Later W => (hsW.later g).free 1
  have hsWc2 := fun g : Later W => (hsW.later g).cell 2
  have hsWf2 := fun g : Later W => (hsW.later g).free 2
  have hsWc3 := fun g : Later W => (hsW.later g).cell 3
  have hsWf3 := fun g : Later W => (hsW.later g).free 3
  have hsWc4 := fun g : Later W => (hsW.later g).cell 4
  have hsWf4 := fun g : Later W => (hsW.later g).free 4
  have hsWc5 := fun g : Later W => (hsW.later g).cell 5
  have hsWf5 := fun g : Later W => (hsW.later g).free 5
  have hsWc6 := fun g : Later W => (hsW.later g).cell 6
  have hsWf6 := fun g : Later W => (hsW.later g).free 6
  have hsWc7 := fun g : Later W => (hsW.later g).cell 7
  have hsWf7 := fun g : Later W => (hsW.later g).free 7
  have hsWc8 := fun g : Later W => (hsW.later g).cell 8
  have hsWf8 := fun g : Later W => (hsW.later g).free 8
  have hsWc9 := fun g : Later W => (hsW.later g).cell 9
  have hsWf9 := fun g : Later W => (hsW.later g).free 9
  have hsWl := fun g : Later W => (hsW.later g).lt
  simp at hsWc0 hsWc1 hsWc2 hsWc3 hsWc4 hsWc5 hsWc6 hsWc7 hsWc8 hsWc9
  refine later_dies [0, 1, 3, 4] 2 (some 6) (by kernel_rfl) (by kernel_rfl) (fun c a d v w h => by cases d <;> exact h) (makes_pair rfl rfl rfl) ?_
  simp only [List.filterMap_cons, List.filterMap_nil, List.getElem?_cons_zero, List.getElem?_cons_succ, List.map_cons, List.map_nil]
  repeat (refine wpSteps_quiet ?_; (first | go_big_quiet_skip | (go_big_quiet_want; go_big_quiet_op; first | go_big_quiet_on | (apply Exists.intro; refine ⟨fun g_ => ?_, ?_⟩; (focus (first | fail)); go_big_quiet_on))); refine wpQuiet_nil ?_)
  refine wpSteps_nil ?_
  refine ⟨DiesAt.of rfl rfl (fun w' hw' => ?_), fun _ oq hq ho v => ?_⟩
  · obtain ⟨gg, rfl⟩ := hw'
    simp only [Go.wp_at_succ, Go.wp_at_zero]
    go_simp
    (with_reducible refine (f_cell_no s ad cp p d _ (hsW.later gg) hn12 HA.out).mono ?_)
    rintro e w1 ⟨rfl, hb1⟩
    have hkg := Kept.drop hk gg.ok
    exact ⟨rfl, rfl, by (exact kpt)⟩
  · cases hq
    obtain rfl : _ = oq := Option.some.inj ho
    simp only [Act.put, List.setIfInBounds_toArray, List.set_cons_zero, List.set_cons_succ]
    refine DiesAt.of rfl rfl (fun w' hw' => ?_)
    obtain ⟨gg, rfl⟩ := hw'
    simp only [Go.wp_at_succ, Go.wp_at_zero]
    go_simp
    (with_reducible refine (f_cell_no s ad cp p d _ (hsW.later gg) hn12 HA.out).mono ?_)
    rintro e w1 ⟨rfl, hb1⟩
    have hkg := Kept.drop hk gg.ok
    exact ⟨rfl, rfl, by (exact kpt)⟩
theorem f_purify_no2 {B s cp : Nat} {ad : Option Addr} {p : Plant} {w : World} (d : Deed) (h : Shop 25 174 B w s ad cp p) (hp : plantB p = true) (ha : argB p d = true) (hl : amount (at_ p d) < d.n) : Calls Try.prog 110 #[.pointer (some ⟨s, 0, none⟩), .agg #[.int .u8 d.kind, .int .i64 d.cell, .int .i64 d.to, .int .i64 d.n]] w fun e w' => e = .panicked [{ v := refusal 6, recovered := false }] ∧ Kept w w' := by
  have hn12 : p.cells.length ≤ 12 := (plantB_iff.1 hp).1
  have hb := plantB_iff.1 hp
  have hi : d.cell.toNat < p.cells.length := by
    have h1 : rng [d.cell] 0 (p.cells.length - 1) = true := by unfold argB at ha; simp only [Bool.and_eq_true] at ha; exact ha.1
    have : 0 ≤ d.cell ∧ d.cell ≤ p.cells.length - 1 := by simpa [rng, inB] using h1
    omega
  have hn : 1 ≤ d.n ∧ d.n ≤ 10000000 := by
    have h1 : rng [d.n] 1 10000000 = true := by unfold argB at ha; simp only [Bool.and_eq_true] at ha; exact ha.2
    simpa [rng, inB] using h1
  have hcv : cellB p.cells[d.cell.toNat] = true := hb.2.2.2.2.2.2.1 _ (List.getElem_mem hi)
  have hat : at_ p d = p.cells[d.cell.toNat] := cellAt_get hi
  have HA := Lib.hid ha
  obtain ⟨hB, hs, hm⟩ := h
  have hBw : B ≤ w.heap.size := by have := hs.lt; omega
  obtain ⟨g, _, rfl, hBg, hbg, _⟩ := hm.at hi
  have hgl := hbg.lt
  clear hbg
  obtain ⟨x, hx⟩ : ∃ x, x = p.cells[d.cell.toNat] := ⟨_, rfl⟩
  have HX := Lib.hid (show p.cells[d.cell.toNat]? = some x by rw [hx]; simp [hi])
  rw [← hx] at hcv hat
  have hxb := cellB_iff.1 hcv
  have HAT := Lib.hid hat
  have HXX := Lib.hid hx
  clear ha hat hx
  have hlt : x.helium + x.air < d.n := by rw [HAT.out] at hl; exact hl
  have HOK := Lib.hid (okC_of hcv)
  clear hp hb hl
  go_enter Try.func110, Try.ntmps110
  go_upto_region 1 with fail
  refine at_world (S := fun W => Blk W w.heap.size #[.int .u8 d.kind, .int .i64 d.cell, .int .i64 d.to, .int .i64 d.n] 65 ∧ Blk W s #[.slice (some ⟨g, 0, none⟩) p.cells.length cp, .int .i64 (p.bottles), .int .i64 (p.inH), .int .i64 (p.inA), .int .i64 (p.vH), .int .i64 (p.vA), .int .i64 (p.lH), .int .i64 (p.lA), .int .i64 (p.pH), .int .i64 (p.pA)] 174 ∧ Mine 25 B W (.slice (some ⟨g, 0, none⟩) p.cells.length cp) p.cells ∧ Kept w W) ⟨by (exact blkc), hs.keep (by (exact kpt)), hm.keep (by (exact kpt)), by (exact kpt)⟩ ?_
  rintro W ⟨r0, hsW, hmW, hk⟩
  have r0c0 := fun g : Later W => (r0.later g).cell 0
  have r0f0 := fun g : Later W => (r0.later g).free 0
  have r0c1 := fun g : Later W => (r0.later g).cell 1
  have r0f1 := fun g : Later W => (r0.later g).free 1
  have r0c2 := fun g : Later W => (r0.later g).cell 2
  have r0f2 := fun g : Later W => (r0.later g).free 2
  have r0c3 := fun g : Later W => (r0.later g).cell 3
  have r0f3 := fun g : Later W => (r0.later g).free 3
  have r0l := fun g : Later W => (r0.later g).lt
  simp at r0c0 r0c1 r0c2 r0c3
  have hsWc0 := fun g : Later W => (hsW.later g).cell 0
  have hsWf0 := fun g : Later W => (hsW.later g).free 0
  have hsWc1 := fun g : Later W => (hsW.later g).cell 1
  have hsWf1 := fun g : Later W => (hsW.later g).free 1
  have hsWc2 := fun g : Later W => (hsW.later g).cell 2
  have hsWf2 := fun g : Later W => (hsW.later g).free 2
  have hsWc3 := fun g : Later W => (hsW.later g).cell 3
  have hsWf3 := fun g : Later W => (hsW.later g).free 3
  have hsWc4 := fun g : Later W => (hsW.later g).cell 4
  have hsWf4 := fun g : Later W => (hsW.later g).free 4
  have hsWc5 := fun g : Later W => (hsW.later g).cell 5
  have hsWf5 := fun g : Later W => (hsW.later g).free 5
  have hsWc6 := fun g : Later W => (hsW.later g).cell 6
  have hsWf6 := fun g : Later W => (hsW.later g).free 6
  have hsWc7 := fun g : Later W => (hsW.later g).cell 7
  have hsWf7 := fun g : Later W => (hsW.later g).free 7
  have hsWc8 := fun g : Later W => (hsW.later g).cell 8
  have hsWf8 := fun g : Later W => (hsW.later g).free 8
  have hsWc9 := fun g : Later W => (hsW.later g).cell 9
  have hsWf9 := fun g : Later W => (hsW.later g).free 9
  have hsWl := fun g : Later W => (hsW.later g).lt
  simp at hsWc0 hsWc1 hsWc2 hsWc3 hsWc4 hsWc5 hsWc6 hsWc7 hsWc8 hsWc9
  refine later_dies [0, 1, 2, 3, 4] 5 (some 6) (by kernel_rfl) (by kernel_rfl) (fun c a d v w h => by cases d <;> exact h) (makes_pair rfl rfl rfl) ?_
  simp only [List.filterMap_cons, List.filterMap_nil, List.getElem?_cons_zero, List.getElem?_cons_succ, List.map_cons, List.map_nil]
  repeat (refine wpSteps_quiet ?_; (first | go_big_quiet_skip | (go_big_quiet_want; go_big_quiet_op; first | go_big_quiet_on | (apply Exists.intro; refine ⟨fun g_ => ?_, ?_⟩; (focus (first | (go_at_call 135; exact Later.call (f_cell_ok s g cp p d _ (hsW.later g_) hn12 HA.out)))); go_big_quiet_on))); refine wpQuiet_nil ?_)
  refine wpSteps_nil ?_
  refine ⟨DiesAt.of rfl rfl (fun w' hw' => ?_), fun _ oq hq ho v => ?_⟩
  · obtain ⟨gg, rfl⟩ := hw'
    simp only [Go.wp_at_succ, Go.wp_at_zero]
    go_simp
    (with_reducible refine (f_outX_none (hmW.keep gg.ok) HX.out HOK.out d.n hlt).mono ?_)
    rintro e w1 ⟨rfl, hb1⟩
    have hkg := Kept.drop hk gg.ok
    exact ⟨rfl, rfl, by (exact kpt)⟩
  · cases hq
    obtain rfl : _ = oq := Option.some.inj ho
    simp only [Act.put, List.setIfInBounds_toArray, List.set_cons_zero, List.set_cons_succ]
    refine DiesAt.of rfl rfl (fun w' hw' => ?_)
    obtain ⟨gg, rfl⟩ := hw'
    simp only [Go.wp_at_succ, Go.wp_at_zero]
    go_simp
    (with_reducible refine (f_outX_none (hmW.keep gg.ok) HX.out HOK.out d.n hlt).mono ?_)
    rintro e w1 ⟨rfl, hb1⟩
    have hkg := Kept.drop hk gg.ok
    exact ⟨rfl, rfl, by (exact kpt)⟩
theorem f_purify_ok {B s cp : Nat} {ad : Option Addr} {p : Plant} {w : World} (d : Deed) (h : Shop 25 174 B w s ad cp p) (hp : plantB p = true) (ha : argB p d = true) (hl : ¬ amount (at_ p d) < d.n) : Calls Try.prog 110 #[.pointer (some ⟨s, 0, none⟩), .agg #[.int .u8 d.kind, .int .i64 d.cell, .int .i64 d.to, .int .i64 d.n]] w fun e w' => e = .returned (.tuple #[]) ∧ Shop 25 174 B w' s ad cp (purifyP p d) ∧ Below B w w' := by
  have hn12 : p.cells.length ≤ 12 := (plantB_iff.1 hp).1
  have hb := plantB_iff.1 hp
  have hi : d.cell.toNat < p.cells.length := by
    have h1 : rng [d.cell] 0 (p.cells.length - 1) = true := by unfold argB at ha; simp only [Bool.and_eq_true] at ha; exact ha.1
    have : 0 ≤ d.cell ∧ d.cell ≤ p.cells.length - 1 := by simpa [rng, inB] using h1
    omega
  have hn : 1 ≤ d.n ∧ d.n ≤ 10000000 := by
    have h1 : rng [d.n] 1 10000000 = true := by unfold argB at ha; simp only [Bool.and_eq_true] at ha; exact ha.2
    simpa [rng, inB] using h1
  have hcv : cellB p.cells[d.cell.toNat] = true := hb.2.2.2.2.2.2.1 _ (List.getElem_mem hi)
  have hat : at_ p d = p.cells[d.cell.toNat] := cellAt_get hi
  have HA := Lib.hid ha
  obtain ⟨hB, hs, hm⟩ := h
  have hBw : B ≤ w.heap.size := by have := hs.lt; omega
  obtain ⟨g, _, rfl, hBg, hbg, _⟩ := hm.at hi
  have hgl := hbg.lt
  clear hbg
  obtain ⟨x, hx⟩ : ∃ x, x = p.cells[d.cell.toNat] := ⟨_, rfl⟩
  have HX := Lib.hid (show p.cells[d.cell.toNat]? = some x by rw [hx]; simp [hi])
  rw [← hx] at hcv hat
  have hxb := cellB_iff.1 hcv
  have HAT := Lib.hid hat
  have HXX := Lib.hid hx
  clear ha hat hx
  have hle : d.n ≤ x.helium + x.air := by rw [HAT.out] at hl; unfold amount at hl; omega
  have HOK := Lib.hid (okC_of hcv)
  obtain ⟨s0, s1, s2, s3⟩ := share_bd HOK.out (show 0 ≤ d.n by omega) hle
  obtain ⟨S, hS⟩ : ∃ S, S = shareH x d.n := ⟨_, rfl⟩
  have HSS := Lib.hid (show shareH x d.n = S from hS.symm)
  have HOUT := fun (W : World) (q : Mine 25 B W (.slice (some ⟨g, 0, none⟩) p.cells.length cp) p.cells) => f_outX q HX.out HOK.out d.n hn.1 hle
  rw [← hS] at s0 s1 s2 s3 HOUT
  obtain ⟨_, hb1, ⟨hb2, hb3⟩, ⟨hb4, hb5⟩, ⟨hb6, hb7⟩, ⟨hb8, hb9⟩, _⟩ := hb
  clear hS hl
  clear hp
  go_enter Try.func110, Try.ntmps110
  go_upto_region 1 with fail
  refine at_world (S := fun W => Blk W w.heap.size #[.int .u8 d.kind, .int .i64 d.cell, .int .i64 d.to, .int .i64 d.n] 65 ∧ Blk W s #[.slice (some ⟨g, 0, none⟩) p.cells.length cp, .int .i64 (p.bottles), .int .i64 (p.inH), .int .i64 (p.inA), .int .i64 (p.vH), .int .i64 (p.vA), .int .i64 (p.lH), .int .i64 (p.lA), .int .i64 (p.pH), .int .i64 (p.pA)] 174 ∧ Mine 25 B W (.slice (some ⟨g, 0, none⟩) p.cells.length cp) p.cells ∧ Kept w W) ⟨by (exact blkc), hs.keep (by (exact kpt)), hm.keep (by (exact kpt)), by (exact kpt)⟩ ?_
  rintro W ⟨r0, hsW, hmW, hk⟩
  have hdk0 : ∀ w', Blk w' w.heap.size #[.int .u8 d.kind, .int .i64 d.cell, .int .i64 d.to, .int .i64 d.n] 65 → w'.cell? ⟨w.heap.size, 0, none⟩ = _ := fun w' h => h.cell 0
  have hdk1 : ∀ w', Blk w' w.heap.size #[.int .u8 d.kind, .int .i64 d.cell, .int .i64 d.to, .int .i64 d.n] 65 → w'.cell? ⟨w.heap.size, 1, none⟩ = _ := fun w' h => h.cell 1
  have hdk2 : ∀ w', Blk w' w.heap.size #[.int .u8 d.kind, .int .i64 d.cell, .int .i64 d.to, .int .i64 d.n] 65 → w'.cell? ⟨w.heap.size, 2, none⟩ = _ := fun w' h => h.cell 2
  have hdk3 : ∀ w', Blk w' w.heap.size #[.int .u8 d.kind, .int .i64 d.cell, .int .i64 d.to, .int .i64 d.n] 65 → w'.cell? ⟨w.heap.size, 3, none⟩ = _ := fun w' h => h.cell 3
  have hdf0 : ∀ w', Blk w' w.heap.size #[.int .u8 d.kind, .int .i64 d.cell, .int .i64 d.to, .int .i64 d.n] 65 → w'.frozen? ⟨w.heap.size, 0, none⟩ = _ := fun w' h => h.free 0
  have hdf1 : ∀ w', Blk w' w.heap.size #[.int .u8 d.kind, .int .i64 d.cell, .int .i64 d.to, .int .i64 d.n] 65 → w'.frozen? ⟨w.heap.size, 1, none⟩ = _ := fun w' h => h.free 1
  have hdf2 : ∀ w', Blk w' w.heap.size #[.int .u8 d.kind, .int .i64 d.cell, .int .i64 d.to, .int .i64 d.n] 65 → w'.frozen? ⟨w.heap.size, 2, none⟩ = _ := fun w' h => h.free 2
  have hdf3 : ∀ w', Blk w' w.heap.size #[.int .u8 d.kind, .int .i64 d.cell, .int .i64 d.to, .int .i64 d.n] 65 → w'.frozen? ⟨w.heap.size, 3, none⟩ = _ := fun w' h => h.free 3
  simp at hdk0 hdk1 hdk2 hdk3
  go_cut [4] (fun s4 wx => ∃ gx, s4 = .pointer (some ⟨gx, 0, none⟩) ∧ Blk wx gx #[.int .i64 S, .int .i64 (d.n - S)] 61 ∧ Blk wx s #[.slice (some ⟨g, 0, none⟩) p.cells.length cp, .int .i64 (p.bottles), .int .i64 (p.inH), .int .i64 (p.inA), .int .i64 (p.vH), .int .i64 (p.vA), .int .i64 (p.lH), .int .i64 (p.lA), .int .i64 (p.pH), .int .i64 (p.pA)] 174 ∧ Blk wx w.heap.size #[.int .u8 d.kind, .int .i64 d.cell, .int .i64 d.to, .int .i64 d.n] 65 ∧ Mine 25 B wx (.slice (some ⟨g, 0, none⟩) p.cells.length cp) (p.cells.set d.cell.toNat (less x d.n)) ∧ Below B w wx ∧ w.heap.size ≤ wx.heap.size ∧ w.heap.size < gx)
  case first =>
    go_region_held3 (fun w' => Blk w' w.heap.size #[.int .u8 d.kind, .int .i64 d.cell, .int .i64 d.to, .int .i64 d.n] 65) (((repeat (first | with_reducible assumption | with_reducible refine Blk.drew ?_ | with_reducible refine Blk.alloc ?_ _ | ((with_reducible refine Blk.other ?_ ?_ _); rotate_left 1; (focus (have e0 := r0.lt; have e2 := Kept.size hb1; have e3 := Below.size hw2; simp at e2 e3; first | (simp; omega) | (simp at *; omega)))) | (with_reducible refine Besides.blk hbes2 (by decide) ?_) | with_reducible refine Blk.keep ?_ (by with_reducible assumption))); done)) (first | (go_at_call 135; (with_reducible refine (f_cell_ok s g cp p d _ (hs.keep (by (exact kpt))) hn12 HA.out).mono ?_); rintro e w1 ⟨rfl, hb1⟩; have hbA : Below B W w1 := (by first | exact ((Below.refl B W).drew).trans (hb1.mono (by simp; have e0 := hk.size; omega)) | exact (((Below.refl B W).alloc (by have e0 := hk.size; omega) _).drew).trans (hb1.mono (by simp; have e0 := hk.size; omega))); (try (refine Blk.thru (b := W.heap.size) (arr := ?_) (t := ?_) ?_ hb1 ?_; rotate_left 2; (focus ((repeat with_reducible refine Blk.drew ?_); exact Blk.new' (by first | rfl | (simp; done)))); intro x1; have x1c0 := x1.cell 0; have x1f0 := x1.free 0; have x1c1 := x1.cell 1; have x1f1 := x1.free 1; have x1l := x1.lt; simp at x1c0 x1c1))) | (go_at_call 136; (with_reducible refine (HOUT _ ?_).mono ?_); (focus (repeat (first | with_reducible assumption | with_reducible refine Mine.drew ?_ | with_reducible refine Mine.alloc ?_ _ | with_reducible refine Mine.keep ?_ (by with_reducible assumption)))); rintro e w2 ⟨rfl, hm2, hw2, hbes2⟩; have hbB : Below B W w2 := (by first | exact hbA.trans hw2 | exact (hbA.alloc (by have e0 := hk.size; have e1 := hbA.size; omega) _).trans hw2); have hsB : Blk w2 s #[.slice (some ⟨g, 0, none⟩) p.cells.length cp, .int .i64 (p.bottles), .int .i64 (p.inH), .int .i64 (p.inA), .int .i64 (p.vH), .int .i64 (p.vA), .int .i64 (p.lH), .int .i64 (p.lA), .int .i64 (p.pH), .int .i64 (p.pA)] 174 := (by have hsW1 := hsW; (repeat (first | with_reducible assumption | with_reducible refine Blk.drew ?_ | with_reducible refine Blk.alloc ?_ _ | (with_reducible refine Besides.blk hbes2 (by decide) ?_) | with_reducible refine Blk.keep ?_ (by with_reducible assumption)))); have r0B : Blk w2 w.heap.size #[.int .u8 d.kind, .int .i64 d.cell, .int .i64 d.to, .int .i64 d.n] 65 := (by (repeat (first | with_reducible assumption | with_reducible refine Blk.drew ?_ | with_reducible refine Blk.alloc ?_ _ | (with_reducible refine Besides.blk hbes2 (by decide) ?_) | with_reducible refine Blk.keep ?_ (by with_reducible assumption)))); have hzB := hbB.size; (first | (refine Besides.thru x1 hbes2 (by decide) ?_; intro x2; have x2c0 := x2.cell 0; have x2f0 := x2.free 0; have x2c1 := x2.cell 1; have x2f1 := x2.free 1; have x2l := x2.lt; simp at x2c0 x2c1) | (refine Besides.thru (b := w1.heap.size) (arr := ?_) (t := ?_) ?_ hbes2 ?_ ?_; rotate_left 2; (focus ((repeat with_reducible refine Blk.drew ?_); exact Blk.new' (by first | rfl | (simp; done)))); (focus decide); intro x2; have x2c0 := x2.cell 0; have x2f0 := x2.free 0; have x2c1 := x2.cell 1; have x2f1 := x2.free 1; have x2l := x2.lt; simp at x2c0 x2c1) | skip)) | fail)
    all_goals (go_wp2_with fail; go_meet)
    all_goals
      have e9 := r0.lt
      have e8 := hs.lt
      have ez := hbA.size
      have ey := hw2.size
    · refine ⟨_, rfl, Blk.new, hsB.alloc _, r0B.alloc _, hm2.alloc _, ((hk.mono hBw).trans hbB).alloc (by have := hk.size; omega) _, by simp; have := hk.size; omega, by omega⟩
    all_goals
      try simp at ey
      refine ⟨_, rfl, (x2.set 0 _).set 1 _, (hsB.other (by simp; omega) _).other (by simp; omega) _, (r0B.other (by simp; omega) _).other (by simp; omega) _, (hm2.other x2 (by decide) _).other (x2.set 0 _) (by decide) _, (((hk.mono hBw).trans hbB).setCell (by simp; omega) _).setCell (by simp; omega) _, by simp [World.setCell]; omega, by omega⟩
  case rest =>
    clear hk r0 hsW hmW hdk0 hdf0 hdk1 hdf1 hdk2 hdf2 hdk3 hdf3
    obtain ⟨gx, rfl, x0, hsW, r0, hmW, hbW, hzW, hgx⟩ := hcut
    have x0c0 := x0.cell 0
    have x0f0 := x0.free 0
    have x0c1 := x0.cell 1
    have x0f1 := x0.free 1
    have x0l := x0.lt
    simp at x0c0 x0c1
    go_upto_region 3 with fail
    clear x0c0 x0f0 x0c1 x0f1 x0l
    refine at_world (S := fun X => Blk X gx #[.int .i64 S, .int .i64 (d.n - S)] 61 ∧ Blk X s #[.slice (some ⟨g, 0, none⟩) p.cells.length cp, .int .i64 (p.bottles), .int .i64 (p.inH), .int .i64 (p.inA), .int .i64 (p.vH), .int .i64 (p.vA), .int .i64 (p.lH), .int .i64 (p.lA), .int .i64 (p.pH), .int .i64 (p.pA)] 174 ∧ Blk X w.heap.size #[.int .u8 d.kind, .int .i64 d.cell, .int .i64 d.to, .int .i64 d.n] 65 ∧ Mine 25 B X (.slice (some ⟨g, 0, none⟩) p.cells.length cp) (p.cells.set d.cell.toNat (less x d.n)) ∧ Below B w X ∧ w.heap.size ≤ X.heap.size) ⟨x0, hsW, r0, hmW, hbW, hzW⟩ ?_
    rintro X ⟨x0, hsX, r0, hmX, hbX, hzX⟩
    have x0c0 := fun g : Later X => (x0.later g).cell 0
    have x0f0 := fun g : Later X => (x0.later g).free 0
    have x0c1 := fun g : Later X => (x0.later g).cell 1
    have x0f1 := fun g : Later X => (x0.later g).free 1
    have x0l := fun g : Later X => (x0.later g).lt
    simp at x0c0 x0c1
    have r0c0 := fun g : Later X => (r0.later g).cell 0
    have r0f0 := fun g : Later X => (r0.later g).free 0
    have r0c1 := fun g : Later X => (r0.later g).cell 1
    have r0f1 := fun g : Later X => (r0.later g).free 1
    have r0c2 := fun g : Later X => (r0.later g).cell 2
    have r0f2 := fun g : Later X => (r0.later g).free 2
    have r0c3 := fun g : Later X => (r0.later g).cell 3
    have r0f3 := fun g : Later X => (r0.later g).free 3
    have r0l := fun g : Later X => (r0.later g).lt
    simp at r0c0 r0c1 r0c2 r0c3
    have hsXc0 := fun g : Later X => (hsX.later g).cell 0
    have hsXf0 := fun g : Later X => (hsX.later g).free 0
    have hsXc1 := fun g : Later X => (hsX.later g).cell 1
    have hsXf1 := fun g : Later X => (hsX.later g).free 1
    have hsXc2 := fun g : Later X => (hsX.later g).cell 2
    have hsXf2 := fun g : Later X => (hsX.later g).free 2
    have hsXc3 := fun g : Later X => (hsX.later g).cell 3
    have hsXf3 := fun g : Later X => (hsX.later g).free 3
    have hsXc4 := fun g : Later X => (hsX.later g).cell 4
    have hsXf4 := fun g : Later X => (hsX.later g).free 4
    have hsXc5 := fun g : Later X => (hsX.later g).cell 5
    have hsXf5 := fun g : Later X => (hsX.later g).free 5
    have hsXc6 := fun g : Later X => (hsX.later g).cell 6
    have hsXf6 := fun g : Later X => (hsX.later g).free 6
    have hsXc7 := fun g : Later X => (hsX.later g).cell 7
    have hsXf7 := fun g : Later X => (hsX.later g).free 7
    have hsXc8 := fun g : Later X => (hsX.later g).cell 8
    have hsXf8 := fun g : Later X => (hsX.later g).free 8
    have hsXc9 := fun g : Later X => (hsX.later g).cell 9
    have hsXf9 := fun g : Later X => (hsX.later g).free 9
    have hsXl := fun g : Later X => (hsX.later g).lt
    simp at hsXc0 hsXc1 hsXc2 hsXc3 hsXc4 hsXc5 hsXc6 hsXc7 hsXc8 hsXc9
    have L0 : 0 ≤ S / 50 ∧ S / 50 ≤ S := by omega
    refine Later.tail 13 (by kernel_rfl) (by kernel_rfl) ?_
    simp only [List.take_succ_cons, List.take_zero, List.drop_succ_cons, List.drop_zero]
    repeat (first | go_big_quiet_skip | (go_big_quiet_want; go_big_quiet_op; first | go_big_quiet_on | (apply Exists.intro; refine ⟨fun g_ => ?_, ?_⟩; (focus (first | fail)); go_big_quiet_on)))
    refine wpQuiet_nil ?_
    intro gh
    refine wpList_plain rfl fun K1 hK1 => ?_
    have q0 := r0.later gh
    have q1 := hsX.later gh
    have q2 := x0.later gh
    clear x0c0 x0f0 x0c1 x0f1 x0l r0c0 r0f0 r0c1 r0f1 r0c2 r0f2 r0c3 r0f3 r0l hsXc0 hsXf0 hsXc1 hsXf1 hsXc2 hsXf2 hsXc3 hsXf3 hsXc4 hsXf4 hsXc5 hsXf5 hsXc6 hsXf6 hsXc7 hsXf7 hsXc8 hsXf8 hsXc9 hsXf9 hsXl
    have q1c0 := q1.cell 0
    have q1f0 := q1.free 0
    have q1c1 := q1.cell 1
    have q1f1 := q1.free 1
    have q1c2 := q1.cell 2
    have q1f2 := q1.free 2
    have q1c3 := q1.cell 3
    have q1f3 := q1.free 3
    have q1c4 := q1.cell 4
    have q1f4 := q1.free 4
    have q1c5 := q1.cell 5
    have q1f5 := q1.free 5
    have q1c6 := q1.cell 6
    have q1f6 := q1.free 6
    have q1c7 := q1.cell 7
    have q1f7 := q1.free 7
    have q1c8 := q1.cell 8
    have q1f8 := q1.free 8
    have q1c9 := q1.cell 9
    have q1f9 := q1.free 9
    have q1l := q1.lt
    simp at q1c0 q1c1 q1c2 q1c3 q1c4 q1c5 q1c6 q1c7 q1c8 q1c9
    go_wp2
    refine at_world (S := fun Y => Blk Y gx #[.int .i64 S, .int .i64 (d.n - S)] 61 ∧ Blk Y s #[.slice (some ⟨g, 0, none⟩) p.cells.length cp, .int .i64 (p.bottles + (S - S / 50)), .int .i64 (p.inH), .int .i64 (p.inA), .int .i64 (p.vH), .int .i64 (p.vA), .int .i64 (p.lH), .int .i64 (p.lA), .int .i64 (p.pH), .int .i64 (p.pA)] 174 ∧ Blk Y w.heap.size #[.int .u8 d.kind, .int .i64 d.cell, .int .i64 d.to, .int .i64 d.n] 65 ∧ Mine 25 B Y (.slice (some ⟨g, 0, none⟩) p.cells.length cp) (p.cells.set d.cell.toNat (less x d.n)) ∧ Below B w Y ∧ w.heap.size ≤ Y.heap.size) ⟨q2.other (by simp; have := hs.lt; omega) _, q1.set 1 _, q0.other (by simp; have := hs.lt; omega) _, (hmX.keep gh.ok).other q1 (by decide) _, (hbX.trans (gh.ok.mono (by omega))).setCell hB _, Nat.le_trans hzX (Nat.le_trans gh.ok.size (by simp))⟩ ?_
    rintro Y ⟨x0, hsY, r0, hmY, hbY, hzY⟩
    clear q1c0 q1f0 q1c1 q1f1 q1c2 q1f2 q1c3 q1f3 q1c4 q1f4 q1c5 q1f5 q1c6 q1f6 q1c7 q1f7 q1c8 q1f8 q1c9 q1f9 q1l q0 q1 q2
    have x0c0 := fun g : Later Y => (x0.later g).cell 0
    have x0f0 := fun g : Later Y => (x0.later g).free 0
    have x0c1 := fun g : Later Y => (x0.later g).cell 1
    have x0f1 := fun g : Later Y => (x0.later g).free 1
    have x0l := fun g : Later Y => (x0.later g).lt
    simp at x0c0 x0c1
    have r0c0 := fun g : Later Y => (r0.later g).cell 0
    have r0f0 := fun g : Later Y => (r0.later g).free 0
    have r0c1 := fun g : Later Y => (r0.later g).cell 1
    have r0f1 := fun g : Later Y => (r0.later g).free 1
    have r0c2 := fun g : Later Y => (r0.later g).cell 2
    have r0f2 := fun g : Later Y => (r0.later g).free 2
    have r0c3 := fun g : Later Y => (r0.later g).cell 3
    have r0f3 := fun g : Later Y => (r0.later g).free 3
    have r0l := fun g : Later Y => (r0.later g).lt
    simp at r0c0 r0c1 r0c2 r0c3
    have hsYc0 := fun g : Later Y => (hsY.later g).cell 0
    have hsYf0 := fun g : Later Y => (hsY.later g).free 0
    have hsYc1 := fun g : Later Y => (hsY.later g).cell 1
    have hsYf1 := fun g : Later Y => (hsY.later g).free 1
    have hsYc2 := fun g : Later Y => (hsY.later g).cell 2
    have hsYf2 := fun g : Later Y => (hsY.later g).free 2
    have hsYc3 := fun g : Later Y => (hsY.later g).cell 3
    have hsYf3 := fun g : Later Y => (hsY.later g).free 3
    have hsYc4 := fun g : Later Y => (hsY.later g).cell 4
    have hsYf4 := fun g : Later Y => (hsY.later g).free 4
    have hsYc5 := fun g : Later Y => (hsY.later g).cell 5
    have hsYf5 := fun g : Later Y => (hsY.later g).free 5
    have hsYc6 := fun g : Later Y => (hsY.later g).cell 6
    have hsYf6 := fun g : Later Y => (hsY.later g).free 6
    have hsYc7 := fun g : Later Y => (hsY.later g).cell 7
    have hsYf7 := fun g : Later Y => (hsY.later g).free 7
    have hsYc8 := fun g : Later Y => (hsY.later g).cell 8
    have hsYf8 := fun g : Later Y => (hsY.later g).free 8
    have hsYc9 := fun g : Later Y => (hsY.later g).cell 9
    have hsYf9 := fun g : Later Y => (hsY.later g).free 9
    have hsYl := fun g : Later Y => (hsY.later g).lt
    simp at hsYc0 hsYc1 hsYc2 hsYc3 hsYc4 hsYc5 hsYc6 hsYc7 hsYc8 hsYc9
    refine Later.tail 14 (by kernel_rfl) (by kernel_rfl) ?_
    simp only [List.take_succ_cons, List.take_zero, List.drop_succ_cons, List.drop_zero]
    repeat (first | go_big_quiet_skip | (go_big_quiet_want; go_big_quiet_op; first | go_big_quiet_on | (apply Exists.intro; refine ⟨fun g_ => ?_, ?_⟩; (focus (first | (go_at_call 123; exact Later.call (f_plus _ _ _ _ _ (by omega) (by omega) (by omega) (by omega))))); go_big_quiet_on)))
    refine wpQuiet_nil ?_
    intro gi
    refine wpList_plain rfl fun K1 hK1 => ?_
    have q1 := hsY.later gi
    clear x0c0 x0f0 x0c1 x0f1 x0l r0c0 r0f0 r0c1 r0f1 r0c2 r0f2 r0c3 r0f3 r0l hsYc0 hsYf0 hsYc1 hsYf1 hsYc2 hsYf2 hsYc3 hsYf3 hsYc4 hsYf4 hsYc5 hsYf5 hsYc6 hsYf6 hsYc7 hsYf7 hsYc8 hsYf8 hsYc9 hsYf9 hsYl
    have q1c0 := q1.cell 0
    have q1f0 := q1.free 0
    have q1c1 := q1.cell 1
    have q1f1 := q1.free 1
    have q1c2 := q1.cell 2
    have q1f2 := q1.free 2
    have q1c3 := q1.cell 3
    have q1f3 := q1.free 3
    have q1c4 := q1.cell 4
    have q1f4 := q1.free 4
    have q1c5 := q1.cell 5
    have q1f5 := q1.free 5
    have q1c6 := q1.cell 6
    have q1f6 := q1.free 6
    have q1c7 := q1.cell 7
    have q1f7 := q1.free 7
    have q1c8 := q1.cell 8
    have q1f8 := q1.free 8
    have q1c9 := q1.cell 9
    have q1f9 := q1.free 9
    have q1l := q1.lt
    simp at q1c0 q1c1 q1c2 q1c3 q1c4 q1c5 q1c6 q1c7 q1c8 q1c9
    go_wp2
    go_end0
    refine ⟨rfl, ⟨hB, ?_, ?_⟩, ?_⟩
    · exact ((q1.set 8 (.int .i64 (p.pH + S / 50))).set 9 (.int .i64 (p.pA + (d.n - S)))).cast (by simp [plantCells, purifyP, lessP, HAT.out, HSS.out])
    · have q := ((hmY.keep gi.ok).other q1 (by decide) (o := 8) (.int .i64 (p.pH + S / 50))).other (q1.set 8 (.int .i64 (p.pH + S / 50))) (by decide) (o := 9) (.int .i64 (p.pA + (d.n - S)))
      simpa [purifyP, lessP, HAT.out] using q
    · exact ((hbY.trans (gi.ok.mono (by omega))).setCell hB _).setCell hB _

end Go.Proofs.Ytemafanncejeiaa

/-
  Moving gas from a cell to another one.
-/
namespace Go.Proofs.Ytemafanncejeiaa
open Go.RowKit Bal Bal.Trim Bal.Gas
set_option linter.unusedVariables false
set_option linter.unusedSimpArgs false
set_option maxHeartbeats 4000000
set_option maxRecDepth 10000

theorem f_move_no1 {B s cp : Nat} {ad : Option Addr} {p : Plant} {w : World} (d : Deed) (h : Shop 25 174 B w s ad cp p) (hp : plantB p = true) (ha : argB p d = false) : Calls Try.prog 109 #[.pointer (some ⟨s, 0, none⟩), .agg #[.int .u8 d.kind, .int .i64 d.cell, .int .i64 d.to, .int .i64 d.n]] w fun e w' => e = .panicked [{ v := refusal 2, recovered := false }] ∧ Kept w w' := by
  have hn12 : p.cells.length ≤ 12 := (plantB_iff.1 hp).1
  have HA := Lib.hid ha
  obtain ⟨hB, hs, hm⟩ := h
  clear ha hp
  go_enter Try.func109, Try.ntmps109
  go_wp2_with (first | (go_at_call 135; (with_reducible refine (f_cell_no s ad cp p d _ (hs.keep (by (exact kpt))) hn12 HA.out).mono ?_); rintro e w1 ⟨rfl, hb1⟩))
  exact ⟨rfl, rfl, by (exact kpt)⟩
theorem f_move_no2 {B s cp : Nat} {ad : Option Addr} {p : Plant} {w : World} (d : Deed) (h : Shop 25 174 B w s ad cp p) (hp : plantB p = true) (ha : argB p d = true) (ht : rng [d.to] 0 (p.cells.length - 1) = false) : Calls Try.prog 109 #[.pointer (some ⟨s, 0, none⟩), .agg #[.int .u8 d.kind, .int .i64 d.cell, .int .i64 d.to, .int .i64 d.n]] w fun e w' => e = .panicked [{ v := refusal 2, recovered := false }] ∧ Kept w w' := by
  have hn12 : p.cells.length ≤ 12 := (plantB_iff.1 hp).1
  have hb := plantB_iff.1 hp
  have hi : d.cell.toNat < p.cells.length := by
    have h1 : rng [d.cell] 0 (p.cells.length - 1) = true := by unfold argB at ha; simp only [Bool.and_eq_true] at ha; exact ha.1
    have : 0 ≤ d.cell ∧ d.cell ≤ p.cells.length - 1 := by simpa [rng, inB] using h1
    omega
  have hn : 1 ≤ d.n ∧ d.n ≤ 10000000 := by
    have h1 : rng [d.n] 1 10000000 = true := by unfold argB at ha; simp only [Bool.and_eq_true] at ha; exact ha.2
    simpa [rng, inB] using h1
  have hcv : cellB p.cells[d.cell.toNat] = true := hb.2.2.2.2.2.2.1 _ (List.getElem_mem hi)
  have hat : at_ p d = p.cells[d.cell.toNat] := cellAt_get hi
  have HA := Lib.hid ha
  obtain ⟨hB, hs, hm⟩ := h
  have hBw : B ≤ w.heap.size := by have := hs.lt; omega
  obtain ⟨g, _, rfl, hBg, hbg, _⟩ := hm.at hi
  have hgl := hbg.lt
  clear hbg
  obtain ⟨x, hx⟩ : ∃ x, x = p.cells[d.cell.toNat] := ⟨_, rfl⟩
  have HX := Lib.hid (show p.cells[d.cell.toNat]? = some x by rw [hx]; simp [hi])
  rw [← hx] at hcv hat
  have hxb := cellB_iff.1 hcv
  have HAT := Lib.hid hat
  have HXX := Lib.hid hx
  clear ha hat hx
  have HT := Lib.hid ht
  clear hp hb ht
  have hwl := i64_inx (n := (p.cells.length : Int) - 1) (by omega)
  go_enter Try.func109, Try.ntmps109
  go_upto_region 2 with (first | (go_at_call 135; (with_reducible refine (f_cell_ok s g cp p d _ (hs.keep (by (exact kpt))) hn12 HA.out).mono ?_); rintro e w1 ⟨rfl, hb1⟩; refine Blk.thru (b := w.heap.size) (arr := ?_) (t := ?_) ?_ hb1 ?_; rotate_left 2; (focus (exact blk)); intro rr; have rrc0 := rr.cell 0; have rrf0 := rr.free 0; have rrc1 := rr.cell 1; have rrf1 := rr.free 1; have rrc2 := rr.cell 2; have rrf2 := rr.free 2; have rrc3 := rr.cell 3; have rrf3 := rr.free 3; have rrl := rr.lt; simp at rrc0 rrc1 rrc2 rrc3; obtain ⟨hc1, hf1, hl1⟩ := bcell3 hb1))
  refine at_world (S := fun W => Blk W w.heap.size #[.int .u8 d.kind, .int .i64 d.cell, .int .i64 d.to, .int .i64 d.n] 65 ∧ Blk W s #[.slice (some ⟨g, 0, none⟩) p.cells.length cp, .int .i64 (p.bottles), .int .i64 (p.inH), .int .i64 (p.inA), .int .i64 (p.vH), .int .i64 (p.vA), .int .i64 (p.lH), .int .i64 (p.lA), .int .i64 (p.pH), .int .i64 (p.pA)] 174 ∧ Mine 25 B W (.slice (some ⟨g, 0, none⟩) p.cells.length cp) p.cells ∧ Kept w W) ⟨by (exact blkc), hs.keep (by (exact kpt)), hm.keep (by (exact kpt)), by (exact kpt)⟩ ?_
  rintro W ⟨r0, hsW, hmW, hk⟩
  clear hc1 hf1 hl1
  refine held_walk (fun w' => Blk w' s #[.slice (some ⟨g, 0, none⟩) p.cells.length cp, .int .i64 (p.bottles), .int .i64 (p.inH), .int .i64 (p.inA), .int .i64 (p.vH), .int .i64 (p.vA), .int .i64 (p.lH), .int .i64 (p.lA), .int .i64 (p.pH), .int .i64 (p.pA)] 174 ∧ Blk w' w.heap.size #[.int .u8 d.kind, .int .i64 d.cell, .int .i64 d.to, .int .i64 d.n] 65) [(true, 0), (true, 1), (true, 2), (true, 3), (true, 4), (true, 5), (true, 6), (true, 7), (true, 8), (false, 9), (false, 10), (true, 11), (true, 12), (true, 13), (true, 14), (true, 15), (true, 16), (true, 17), (false, 18)] 18 (by kernel_rfl) (by kernel_rfl) (fun c a d v w h => by cases d <;> exact h) ⟨hsW.drew, r0.drew⟩ ?_
  simp only [List.filterMap_cons, List.filterMap_nil, List.getElem?_cons_zero, List.getElem?_cons_succ, Option.map_some]
  iterate 9 ((first | (refine held_take ?_ ?_ (fun w' hS => ?_) ?_; rotate_left 1; (focus rfl); (focus (first | (go_simp; done) | (go_simp; with_reducible rfl) | (obtain ⟨S1, S2⟩ := hS; have k0 := S1.cell 0; have k1 := S1.cell 1; have k2 := S1.cell 2; have k3 := S1.cell 3; have k4 := S1.cell 4; have k5 := S1.cell 5; have k6 := S1.cell 6; have k7 := S1.cell 7; have k8 := S1.cell 8; have k9 := S1.cell 9; have j0 := S2.cell 0; have j1 := S2.cell 1; have j2 := S2.cell 2; have j3 := S2.cell 3; simp at k0 k1 k2 k3 k4 k5 k6 k7 k8 k9 j0 j1 j2 j3; first | (go_simp; done) | (go_simp; with_reducible rfl))))) | (refine held_pass ?_ ?_; (focus rfl))); simp only [Act.put, List.setIfInBounds_toArray, List.set_cons_zero, List.set_cons_succ])
  refine held_one ?_
  refine wpList_plain rfl fun K1 hK1 => ?_
  go_wp2
  refine held_on ⟨by (repeat (first | with_reducible assumption | with_reducible refine Blk.drew ?_ | with_reducible refine Blk.alloc ?_ _ | (with_reducible refine Besides.blk hbes2 (by decide) ?_) | with_reducible refine Blk.keep ?_ (by with_reducible assumption))), by (repeat (first | with_reducible assumption | with_reducible refine Blk.drew ?_ | with_reducible refine Blk.alloc ?_ _ | (with_reducible refine Besides.blk hbes2 (by decide) ?_) | with_reducible refine Blk.keep ?_ (by with_reducible assumption)))⟩ ?_
  refine held_one ?_
  refine wpList_plain rfl fun K1 hK1 => ?_
  go_wp2_with (go_at_call 91; (with_reducible refine (f_ranged1B _ _ d.to _ _ ?_).mono ?_); (focus ((repeat with_reducible refine Blk.drew ?_); exact Blk.new' (by first | rfl | (simp; done)))); rw [HT.out]; rintro e w1 ⟨rfl, rfl⟩)
  refine held_on ⟨by (repeat (first | with_reducible assumption | with_reducible refine Blk.drew ?_ | with_reducible refine Blk.alloc ?_ _ | (with_reducible refine Besides.blk hbes2 (by decide) ?_) | with_reducible refine Blk.keep ?_ (by with_reducible assumption))), by (repeat (first | with_reducible assumption | with_reducible refine Blk.drew ?_ | with_reducible refine Blk.alloc ?_ _ | (with_reducible refine Besides.blk hbes2 (by decide) ?_) | with_reducible refine Blk.keep ?_ (by with_reducible assumption)))⟩ ?_
  iterate 7 ((first | (refine held_take ?_ ?_ (fun w' hS => ?_) ?_; rotate_left 1; (focus rfl); (focus (first | (go_simp; done) | (go_simp; with_reducible rfl) | (obtain ⟨S1, S2⟩ := hS; have k0 := S1.cell 0; have k1 := S1.cell 1; have k2 := S1.cell 2; have k3 := S1.cell 3; have k4 := S1.cell 4; have k5 := S1.cell 5; have k6 := S1.cell 6; have k7 := S1.cell 7; have k8 := S1.cell 8; have k9 := S1.cell 9; have j0 := S2.cell 0; have j1 := S2.cell 1; have j2 := S2.cell 2; have j3 := S2.cell 3; simp at k0 k1 k2 k3 k4 k5 k6 k7 k8 k9 j0 j1 j2 j3; first | (go_simp; done) | (go_simp; with_reducible rfl))))) | (refine held_pass ?_ ?_; (focus rfl))); simp only [Act.put, List.setIfInBounds_toArray, List.set_cons_zero, List.set_cons_succ])
  refine held_one ?_
  refine wpList_plain rfl fun K1 hK1 => ?_
  go_wp2_with (first | (go_at_call 113; (with_reducible refine (f_need_no _ _).mono ?_); rintro e w1 ⟨rfl, rfl⟩))
  (first | refine onward_panic ?_ | skip)
  exact ⟨rfl, rfl, by (exact kpt)⟩
theorem f_move_no3 {B s cp : Nat} {ad : Option Addr} {p : Plant} {w : World} (d : Deed) (h : Shop 25 174 B w s ad cp p) (hp : plantB p = true) (ha : argB p d = true) (ht : rng [d.to] 0 (p.cells.length - 1) = true) (he : d.to = d.cell) : Calls Try.prog 109 #[.pointer (some ⟨s, 0, none⟩), .agg #[.int .u8 d.kind, .int .i64 d.cell, .int .i64 d.to, .int .i64 d.n]] w fun e w' => e = .panicked [{ v := refusal 2, recovered := false }] ∧ Kept w w' := by
  have hn12 : p.cells.length ≤ 12 := (plantB_iff.1 hp).1
  have hb := plantB_iff.1 hp
  have hi : d.cell.toNat < p.cells.length := by
    have h1 : rng [d.cell] 0 (p.cells.length - 1) = true := by unfold argB at ha; simp only [Bool.and_eq_true] at ha; exact ha.1
    have : 0 ≤ d.cell ∧ d.cell ≤ p.cells.length - 1 := by simpa [rng, inB] using h1
    omega
  have hn : 1 ≤ d.n ∧ d.n ≤ 10000000 := by
    have h1 : rng [d.n] 1 10000000 = true := by unfold argB at ha; simp only [Bool.and_eq_true] at ha; exact ha.2
    simpa [rng, inB] using h1
  have hcv : cellB p.cells[d.cell.toNat] = true := hb.2.2.2.2.2.2.1 _ (List.getElem_mem hi)
  have hat : at_ p d = p.cells[d.cell.toNat] := cellAt_get hi
  have HA := Lib.hid ha
  obtain ⟨hB, hs, hm⟩ := h
  have hBw : B ≤ w.heap.size := by have := hs.lt; omega
  obtain ⟨g, _, rfl, hBg, hbg, _⟩ := hm.at hi
  have hgl := hbg.lt
  clear hbg
  obtain ⟨x, hx⟩ : ∃ x, x = p.cells[d.cell.toNat] := ⟨_, rfl⟩
  have HX := Lib.hid (show p.cells[d.cell.toNat]? = some x by rw [hx]; simp [hi])
  rw [← hx] at hcv hat
  have hxb := cellB_iff.1 hcv
  have HAT := Lib.hid hat
  have HXX := Lib.hid hx
  clear ha hat hx
  have hto : 0 ≤ d.to ∧ d.to ≤ p.cells.length - 1 := by simpa [rng, inB] using ht
  have HT := Lib.hid ht
  have hne : (d.to == d.cell) = true := by simp [he]
  have hne' : (d.to != d.cell) = false := by simp [he]
  have hne'' : decide (d.to = d.cell) = true := by simp [he]
  clear hp hb ht he
  have hwl := i64_inx (n := (p.cells.length : Int) - 1) (by omega)
  go_enter Try.func109, Try.ntmps109
  go_upto_region 2 with (first | (go_at_call 135; (with_reducible refine (f_cell_ok s g cp p d _ (hs.keep (by (exact kpt))) hn12 HA.out).mono ?_); rintro e w1 ⟨rfl, hb1⟩; refine Blk.thru (b := w.heap.size) (arr := ?_) (t := ?_) ?_ hb1 ?_; rotate_left 2; (focus (exact blk)); intro rr; have rrc0 := rr.cell 0; have rrf0 := rr.free 0; have rrc1 := rr.cell 1; have rrf1 := rr.free 1; have rrc2 := rr.cell 2; have rrf2 := rr.free 2; have rrc3 := rr.cell 3; have rrf3 := rr.free 3; have rrl := rr.lt; simp at rrc0 rrc1 rrc2 rrc3; obtain ⟨hc1, hf1, hl1⟩ := bcell3 hb1))
  refine at_world (S := fun W => Blk W w.heap.size #[.int .u8 d.kind, .int .i64 d.cell, .int .i64 d.to, .int .i64 d.n] 65 ∧ Blk W s #[.slice (some ⟨g, 0, none⟩) p.cells.length cp, .int .i64 (p.bottles), .int .i64 (p.inH), .int .i64 (p.inA), .int .i64 (p.vH), .int .i64 (p.vA), .int .i64 (p.lH), .int .i64 (p.lA), .int .i64 (p.pH), .int .i64 (p.pA)] 174 ∧ Mine 25 B W (.slice (some ⟨g, 0, none⟩) p.cells.length cp) p.cells ∧ Kept w W) ⟨by (exact blkc), hs.keep (by (exact kpt)), hm.keep (by (exact kpt)), by (exact kpt)⟩ ?_
  rintro W ⟨r0, hsW, hmW, hk⟩
  clear hc1 hf1 hl1
  refine held_walk (fun w' => Blk w' s #[.slice (some ⟨g, 0, none⟩) p.cells.length cp, .int .i64 (p.bottles), .int .i64 (p.inH), .int .i64 (p.inA), .int .i64 (p.vH), .int .i64 (p.vA), .int .i64 (p.lH), .int .i64 (p.lA), .int .i64 (p.pH), .int .i64 (p.pA)] 174 ∧ Blk w' w.heap.size #[.int .u8 d.kind, .int .i64 d.cell, .int .i64 d.to, .int .i64 d.n] 65) [(true, 0), (true, 1), (true, 2), (true, 3), (true, 4), (true, 5), (true, 6), (true, 7), (true, 8), (false, 9), (false, 10), (true, 11), (true, 12), (true, 13), (true, 14), (true, 15), (true, 16), (true, 17), (false, 18)] 18 (by kernel_rfl) (by kernel_rfl) (fun c a d v w h => by cases d <;> exact h) ⟨hsW.drew, r0.drew⟩ ?_
  simp only [List.filterMap_cons, List.filterMap_nil, List.getElem?_cons_zero, List.getElem?_cons_succ, Option.map_some]
  iterate 9 ((first | (refine held_take ?_ ?_ (fun w' hS => ?_) ?_; rotate_left 1; (focus rfl); (focus (first | (go_simp; done) | (go_simp; with_reducible rfl) | (obtain ⟨S1, S2⟩ := hS; have k0 := S1.cell 0; have k1 := S1.cell 1; have k2 := S1.cell 2; have k3 := S1.cell 3; have k4 := S1.cell 4; have k5 := S1.cell 5; have k6 := S1.cell 6; have k7 := S1.cell 7; have k8 := S1.cell 8; have k9 := S1.cell 9; have j0 := S2.cell 0; have j1 := S2.cell 1; have j2 := S2.cell 2; have j3 := S2.cell 3; simp at k0 k1 k2 k3 k4 k5 k6 k7 k8 k9 j0 j1 j2 j3; first | (go_simp; done) | (go_simp; with_reducible rfl))))) | (refine held_pass ?_ ?_; (focus rfl))); simp only [Act.put, List.setIfInBounds_toArray, List.set_cons_zero, List.set_cons_succ])
  refine held_one ?_
  refine wpList_plain rfl fun K1 hK1 => ?_
  go_wp2
  refine held_on ⟨by (repeat (first | with_reducible assumption | with_reducible refine Blk.drew ?_ | with_reducible refine Blk.alloc ?_ _ | (with_reducible refine Besides.blk hbes2 (by decide) ?_) | with_reducible refine Blk.keep ?_ (by with_reducible assumption))), by (repeat (first | with_reducible assumption | with_reducible refine Blk.drew ?_ | with_reducible refine Blk.alloc ?_ _ | (with_reducible refine Besides.blk hbes2 (by decide) ?_) | with_reducible refine Blk.keep ?_ (by with_reducible assumption)))⟩ ?_
  refine held_one ?_
  refine wpList_plain rfl fun K1 hK1 => ?_
  go_wp2_with (go_at_call 91; (with_reducible refine (f_ranged1B _ _ d.to _ _ ?_).mono ?_); (focus ((repeat with_reducible refine Blk.drew ?_); exact Blk.new' (by first | rfl | (simp; done)))); rw [HT.out]; rintro e w1 ⟨rfl, rfl⟩)
  refine held_on ⟨by (repeat (first | with_reducible assumption | with_reducible refine Blk.drew ?_ | with_reducible refine Blk.alloc ?_ _ | (with_reducible refine Besides.blk hbes2 (by decide) ?_) | with_reducible refine Blk.keep ?_ (by with_reducible assumption))), by (repeat (first | with_reducible assumption | with_reducible refine Blk.drew ?_ | with_reducible refine Blk.alloc ?_ _ | (with_reducible refine Besides.blk hbes2 (by decide) ?_) | with_reducible refine Blk.keep ?_ (by with_reducible assumption)))⟩ ?_
  iterate 7 ((first | (refine held_take ?_ ?_ (fun w' hS => ?_) ?_; rotate_left 1; (focus rfl); (focus (first | (go_simp; done) | (go_simp; with_reducible rfl) | (obtain ⟨S1, S2⟩ := hS; have k0 := S1.cell 0; have k1 := S1.cell 1; have k2 := S1.cell 2; have k3 := S1.cell 3; have k4 := S1.cell 4; have k5 := S1.cell 5; have k6 := S1.cell 6; have k7 := S1.cell 7; have k8 := S1.cell 8; have k9 := S1.cell 9; have j0 := S2.cell 0; have j1 := S2.cell 1; have j2 := S2.cell 2; have j3 := S2.cell 3; simp at k0 k1 k2 k3 k4 k5 k6 k7 k8 k9 j0 j1 j2 j3; first | (go_simp; done) | (go_simp; with_reducible rfl))))) | (refine held_pass ?_ ?_; (focus rfl))); simp only [Act.put, List.setIfInBounds_toArray, List.set_cons_zero, List.set_cons_succ])
  refine held_one ?_
  refine wpList_plain rfl fun K1 hK1 => ?_
  go_wp2_with (first | (go_at_call 113; (with_reducible refine (f_need_no _ _).mono ?_); rintro e w1 ⟨rfl, rfl⟩))
  (first | refine onward_panic ?_ | skip)
  exact ⟨rfl, rfl, by (exact kpt)⟩

theorem f_move_no4 {B s cp : Nat} {ad : Option Addr} {p : Plant} {w : World} (d : Deed) (h : Shop 25 174 B w s ad cp p) (hp : plantB p = true) (ha : argB p d = true) (ht : rng [d.to] 0 (p.cells.length - 1) = true) (he : d.to ≠ d.cell) (hl : amount (at_ p d) < d.n) : Calls Try.prog 109 #[.pointer (some ⟨s, 0, none⟩), .agg #[.int .u8 d.kind, .int .i64 d.cell, .int .i64 d.to, .int .i64 d.n]] w fun e w' => e = .panicked [{ v := refusal 6, recovered := false }] ∧ Kept w w' := by
  have hn12 : p.cells.length ≤ 12 := (plantB_iff.1 hp).1
  have hb := plantB_iff.1 hp
  have hi : d.cell.toNat < p.cells.length := by
    have h1 : rng [d.cell] 0 (p.cells.length - 1) = true := by unfold argB at ha; simp only [Bool.and_eq_true] at ha; exact ha.1
    have : 0 ≤ d.cell ∧ d.cell ≤ p.cells.length - 1 := by simpa [rng, inB] using h1
    omega
  have hn : 1 ≤ d.n ∧ d.n ≤ 10000000 := by
    have h1 : rng [d.n] 1 10000000 = true := by unfold argB at ha; simp only [Bool.and_eq_true] at ha; exact ha.2
    simpa [rng, inB] using h1
  have hcv : cellB p.cells[d.cell.toNat] = true := hb.2.2.2.2.2.2.1 _ (List.getElem_mem hi)
  have hat : at_ p d = p.cells[d.cell.toNat] := cellAt_get hi
  have HA := Lib.hid ha
  obtain ⟨hB, hs, hm⟩ := h
  have hBw : B ≤ w.heap.size := by have := hs.lt; omega
  obtain ⟨g, _, rfl, hBg, hbg, _⟩ := hm.at hi
  have hgl := hbg.lt
  clear hbg
  obtain ⟨x, hx⟩ : ∃ x, x = p.cells[d.cell.toNat] := ⟨_, rfl⟩
  have HX := Lib.hid (show p.cells[d.cell.toNat]? = some x by rw [hx]; simp [hi])
  rw [← hx] at hcv hat
  have hxb := cellB_iff.1 hcv
  have HAT := Lib.hid hat
  have HXX := Lib.hid hx
  clear ha hat hx
  have hto : 0 ≤ d.to ∧ d.to ≤ p.cells.length - 1 := by simpa [rng, inB] using ht
  have HT := Lib.hid ht
  have hlt : x.helium + x.air < d.n := by rw [HAT.out] at hl; exact hl
  have HOK := Lib.hid (okC_of hcv)
  clear hp hb hl
  have hne0 : (d.to == d.cell) = false := by simp [he]
  have hne' : (d.to != d.cell) = true := by simp [he]
  have hne'' : decide (d.to = d.cell) = false := by simp [he]
  clear ht he
  have hwl := i64_inx (n := (p.cells.length : Int) - 1) (by omega)
  go_enter Try.func109, Try.ntmps109
  go_upto_region 2 with (first | (go_at_call 135; (with_reducible refine (f_cell_ok s g cp p d _ (hs.keep (by (exact kpt))) hn12 HA.out).mono ?_); rintro e w1 ⟨rfl, hb1⟩; refine Blk.thru (b := w.heap.size) (arr := ?_) (t := ?_) ?_ hb1 ?_; rotate_left 2; (focus (exact blk)); intro rr; have rrc0 := rr.cell 0; have rrf0 := rr.free 0; have rrc1 := rr.cell 1; have rrf1 := rr.free 1; have rrc2 := rr.cell 2; have rrf2 := rr.free 2; have rrc3 := rr.cell 3; have rrf3 := rr.free 3; have rrl := rr.lt; simp at rrc0 rrc1 rrc2 rrc3; obtain ⟨hc1, hf1, hl1⟩ := bcell3 hb1))
  refine at_world (S := fun W => Blk W w.heap.size #[.int .u8 d.kind, .int .i64 d.cell, .int .i64 d.to, .int .i64 d.n] 65 ∧ Blk W s #[.slice (some ⟨g, 0, none⟩) p.cells.length cp, .int .i64 (p.bottles), .int .i64 (p.inH), .int .i64 (p.inA), .int .i64 (p.vH), .int .i64 (p.vA), .int .i64 (p.lH), .int .i64 (p.lA), .int .i64 (p.pH), .int .i64 (p.pA)] 174 ∧ Mine 25 B W (.slice (some ⟨g, 0, none⟩) p.cells.length cp) p.cells ∧ Kept w W) ⟨by (exact blkc), hs.keep (by (exact kpt)), hm.keep (by (exact kpt)), by (exact kpt)⟩ ?_
  rintro W ⟨r0, hsW, hmW, hk⟩
  clear hc1 hf1 hl1
  refine held_walk (fun w' => Blk w' s #[.slice (some ⟨g, 0, none⟩) p.cells.length cp, .int .i64 (p.bottles), .int .i64 (p.inH), .int .i64 (p.inA), .int .i64 (p.vH), .int .i64 (p.vA), .int .i64 (p.lH), .int .i64 (p.lA), .int .i64 (p.pH), .int .i64 (p.pA)] 174 ∧ Blk w' w.heap.size #[.int .u8 d.kind, .int .i64 d.cell, .int .i64 d.to, .int .i64 d.n] 65) [(true, 0), (true, 1), (true, 2), (true, 3), (true, 4), (true, 5), (true, 6), (true, 7), (true, 8), (false, 9), (false, 10), (true, 11), (true, 12), (true, 13), (true, 14), (true, 15), (true, 16), (true, 17), (false, 18)] 18 (by kernel_rfl) (by kernel_rfl) (fun c a d v w h => by cases d <;> exact h) ⟨hsW.drew, r0.drew⟩ ?_
  simp only [List.filterMap_cons, List.filterMap_nil, List.getElem?_cons_zero, List.getElem?_cons_succ, Option.map_some]
  iterate 9 ((first | (refine held_take ?_ ?_ (fun w' hS => ?_) ?_; rotate_left 1; (focus rfl); (focus (first | (go_simp; done) | (go_simp; with_reducible rfl) | (obtain ⟨S1, S2⟩ := hS; have k0 := S1.cell 0; have k1 := S1.cell 1; have k2 := S1.cell 2; have k3 := S1.cell 3; have k4 := S1.cell 4; have k5 := S1.cell 5; have k6 := S1.cell 6; have k7 := S1.cell 7; have k8 := S1.cell 8; have k9 := S1.cell 9; have j0 := S2.cell 0; have j1 := S2.cell 1; have j2 := S2.cell 2; have j3 := S2.cell 3; simp at k0 k1 k2 k3 k4 k5 k6 k7 k8 k9 j0 j1 j2 j3; first | (go_simp; done) | (go_simp; with_reducible rfl))))) | (refine held_pass ?_ ?_; (focus rfl))); simp only [Act.put, List.setIfInBounds_toArray, List.set_cons_zero, List.set_cons_succ])
  refine held_one ?_
  refine wpList_plain rfl fun K1 hK1 => ?_
  go_wp2
  refine held_on ⟨by (repeat (first | with_reducible assumption | with_reducible refine Blk.drew ?_ | with_reducible refine Blk.alloc ?_ _ | (with_reducible refine Besides.blk hbes2 (by decide) ?_) | with_reducible refine Blk.keep ?_ (by with_reducible assumption))), by (repeat (first | with_reducible assumption | with_reducible refine Blk.drew ?_ | with_reducible refine Blk.alloc ?_ _ | (with_reducible refine Besides.blk hbes2 (by decide) ?_) | with_reducible refine Blk.keep ?_ (by with_reducible assumption)))⟩ ?_
  refine held_one ?_
  refine wpList_plain rfl fun K1 hK1 => ?_
  go_wp2_with (go_at_call 91; (with_reducible refine (f_ranged1B _ _ d.to _ _ ?_).mono ?_); (focus ((repeat with_reducible refine Blk.drew ?_); exact Blk.new' (by first | rfl | (simp; done)))); rw [HT.out]; rintro e w1 ⟨rfl, rfl⟩)
  refine held_on ⟨by (repeat (first | with_reducible assumption | with_reducible refine Blk.drew ?_ | with_reducible refine Blk.alloc ?_ _ | (with_reducible refine Besides.blk hbes2 (by decide) ?_) | with_reducible refine Blk.keep ?_ (by with_reducible assumption))), by (repeat (first | with_reducible assumption | with_reducible refine Blk.drew ?_ | with_reducible refine Blk.alloc ?_ _ | (with_reducible refine Besides.blk hbes2 (by decide) ?_) | with_reducible refine Blk.keep ?_ (by with_reducible assumption)))⟩ ?_
  iterate 7 ((first | (refine held_take ?_ ?_ (fun w' hS => ?_) ?_; rotate_left 1; (focus rfl); (focus (first | (go_simp; done) | (go_simp; with_reducible rfl) | (obtain ⟨S1, S2⟩ := hS; have k0 := S1.cell 0; have k1 := S1.cell 1; have k2 := S1.cell 2; have k3 := S1.cell 3; have k4 := S1.cell 4; have k5 := S1.cell 5; have k6 := S1.cell 6; have k7 := S1.cell 7; have k8 := S1.cell 8; have k9 := S1.cell 9; have j0 := S2.cell 0; have j1 := S2.cell 1; have j2 := S2.cell 2; have j3 := S2.cell 3; simp at k0 k1 k2 k3 k4 k5 k6 k7 k8 k9 j0 j1 j2 j3; first | (go_simp; done) | (go_simp; with_reducible rfl))))) | (refine held_pass ?_ ?_; (focus rfl))); simp only [Act.put, List.setIfInBounds_toArray, List.set_cons_zero, List.set_cons_succ])
  refine held_one ?_
  refine wpList_plain rfl fun K1 hK1 => ?_
  go_wp2_with (first | (go_at_call 113; (with_reducible refine (f_need_ok _ _).mono ?_); rintro e w1 ⟨rfl, rfl⟩))
  (first | refine held_end ?_ | (refine onward_on ?_; first | refine held_nil ?_ | refine ⟨.inl trivial, held_nil ?_⟩ | refine ⟨.inl rfl, held_nil ?_⟩))
  go_wp2
  refine at_world (S := fun X => Blk X w.heap.size #[.int .u8 d.kind, .int .i64 d.cell, .int .i64 d.to, .int .i64 d.n] 65 ∧ Blk X s #[.slice (some ⟨g, 0, none⟩) p.cells.length cp, .int .i64 (p.bottles), .int .i64 (p.inH), .int .i64 (p.inA), .int .i64 (p.vH), .int .i64 (p.vA), .int .i64 (p.lH), .int .i64 (p.lA), .int .i64 (p.pH), .int .i64 (p.pA)] 174 ∧ Mine 25 B X (.slice (some ⟨g, 0, none⟩) p.cells.length cp) p.cells ∧ Kept w X) ⟨by (repeat (first | with_reducible assumption | with_reducible refine Blk.drew ?_ | with_reducible refine Blk.alloc ?_ _ | (with_reducible refine Besides.blk hbes2 (by decide) ?_) | with_reducible refine Blk.keep ?_ (by with_reducible assumption))), by (repeat (first | with_reducible assumption | with_reducible refine Blk.drew ?_ | with_reducible refine Blk.alloc ?_ _ | (with_reducible refine Besides.blk hbes2 (by decide) ?_) | with_reducible refine Blk.keep ?_ (by with_reducible assumption))), by (repeat (first | with_reducible assumption | with_reducible refine Mine.drew ?_ | with_reducible refine Mine.alloc ?_ _)), by (exact kpt)⟩ ?_
  rintro X ⟨r0, hsX, hmX, hkX⟩
  have hi0 : (0 : Int) ≤ d.to := hto.1
  have hi1 : d.to < (p.cells.length : Int) := by omega
  have r0c0 := fun g : Later X => (r0.later g).cell 0
  have r0f0 := fun g : Later X => (r0.later g).free 0
  have r0c1 := fun g : Later X => (r0.later g).cell 1
  have r0f1 := fun g : Later X => (r0.later g).free 1
  have r0c2 := fun g : Later X => (r0.later g).cell 2
  have r0f2 := fun g : Later X => (r0.later g).free 2
  have r0c3 := fun g : Later X => (r0.later g).cell 3
  have r0f3 := fun g : Later X => (r0.later g).free 3
  have r0l := fun g : Later X => (r0.later g).lt
  simp at r0c0 r0c1 r0c2 r0c3
  have hsXc0 := fun g : Later X => (hsX.later g).cell 0
  have hsXf0 := fun g : Later X => (hsX.later g).free 0
  have hsXc1 := fun g : Later X => (hsX.later g).cell 1
  have hsXf1 := fun g : Later X => (hsX.later g).free 1
  have hsXc2 := fun g : Later X => (hsX.later g).cell 2
  have hsXf2 := fun g : Later X => (hsX.later g).free 2
  have hsXc3 := fun g : Later X => (hsX.later g).cell 3
  have hsXf3 := fun g : Later X => (hsX.later g).free 3
  have hsXc4 := fun g : Later X => (hsX.later g).cell 4
  have hsXf4 := fun g : Later X => (hsX.later g).free 4
  have hsXc5 := fun g : Later X => (hsX.later g).cell 5
  have hsXf5 := fun g : Later X => (hsX.later g).free 5
  have hsXc6 := fun g : Later X => (hsX.later g).cell 6
  have hsXf6 := fun g : Later X => (hsX.later g).free 6
  have hsXc7 := fun g : Later X => (hsX.later g).cell 7
  have hsXf7 := fun g : Later X => (hsX.later g).free 7
  have hsXc8 := fun g : Later X => (hsX.later g).cell 8
  have hsXf8 := fun g : Later X => (hsX.later g).free 8
  have hsXc9 := fun g : Later X => (hsX.later g).cell 9
  have hsXf9 := fun g : Later X => (hsX.later g).free 9
  have hsXl := fun g : Later X => (hsX.later g).lt
  simp at hsXc0 hsXc1 hsXc2 hsXc3 hsXc4 hsXc5 hsXc6 hsXc7 hsXc8 hsXc9
  refine later_dies [0, 1, 2, 4, 5, 6, 7, 8, 9, 10, 11] 3 (some 12) (by kernel_rfl) (by kernel_rfl) (fun c a d v w h => by cases d <;> exact h) (makes_pair rfl rfl rfl) ?_
  simp only [List.filterMap_cons, List.filterMap_nil, List.getElem?_cons_zero, List.getElem?_cons_succ, List.map_cons, List.map_nil]
  repeat (refine wpSteps_quiet ?_; (first | go_big_quiet_skip | (go_big_quiet_want; go_big_quiet_op; first | go_big_quiet_on | (apply Exists.intro; refine ⟨fun g_ => ?_, ?_⟩; (focus (first | fail)); go_big_quiet_on))); refine wpQuiet_nil ?_)
  refine wpSteps_nil ?_
  refine ⟨DiesAt.of rfl rfl (fun w' hw' => ?_), fun _ oq hq ho v => ?_⟩
  · obtain ⟨gg, rfl⟩ := hw'
    simp only [Go.wp_at_succ, Go.wp_at_zero]
    go_simp
    (with_reducible refine (f_outX_none (hmX.keep gg.ok) HX.out HOK.out d.n hlt).mono ?_)
    rintro e w1 ⟨rfl, hb1⟩
    have hkg := Kept.drop hkX gg.ok
    exact ⟨rfl, rfl, by (exact kpt)⟩
  · cases hq
    obtain rfl : _ = oq := Option.some.inj ho
    simp only [Act.put, List.setIfInBounds_toArray, List.set_cons_zero, List.set_cons_succ]
    refine DiesAt.of rfl rfl (fun w' hw' => ?_)
    obtain ⟨gg, rfl⟩ := hw'
    simp only [Go.wp_at_succ, Go.wp_at_zero]
    go_simp
    (with_reducible refine (f_outX_none (hmX.keep gg.ok) HX.out HOK.out d.n hlt).mono ?_)
    rintro e w1 ⟨rfl, hb1⟩
    have hkg := Kept.drop hkX gg.ok
    exact ⟨rfl, rfl, by (exact kpt)⟩
theorem to_bd {p : Plant} {d : Deed} {x : Cell} (hv : ∀ c ∈ p.cells, cellB c = true) (hx : p.cells[d.cell.toNat]? = some x) (h0 : 0 ≤ d.n) (h1 : d.n ≤ x.helium + x.air) (ht : 0 ≤ d.to ∧ d.to ≤ p.cells.length - 1) :
    ∃ y, (p.cells.set d.cell.toNat (less x d.n))[d.to.toNat]? = some y ∧ okC y := by
  have hj : d.to.toNat < (p.cells.set d.cell.toNat (less x d.n)).length := by simp; omega
  refine ⟨_, List.getElem?_eq_getElem hj, okC_of ?_⟩
  rcases List.mem_or_eq_of_mem_set (List.getElem_mem hj) with h | h
  · exact hv _ h
  · rw [h]; exact less_B (hv _ (List.mem_of_getElem? hx)) h0 h1
theorem f_move_ok {B s cp : Nat} {ad : Option Addr} {p : Plant} {w : World} (d : Deed) (h : Shop 25 174 B w s ad cp p) (hp : plantB p = true) (ha : argB p d = true) (ht : rng [d.to] 0 (p.cells.length - 1) = true) (he : d.to ≠ d.cell) (hl : ¬ amount (at_ p d) < d.n) : Calls Try.prog 109 #[.pointer (some ⟨s, 0, none⟩), .agg #[.int .u8 d.kind, .int .i64 d.cell, .int .i64 d.to, .int .i64 d.n]] w fun e w' => e = .returned (.tuple #[]) ∧ Shop 25 174 B w' s ad cp (moveP p d) ∧ Below B w w' := by
  have hn12 : p.cells.length ≤ 12 := (plantB_iff.1 hp).1
  have hb := plantB_iff.1 hp
  have hi : d.cell.toNat < p.cells.length := by
    have h1 : rng [d.cell] 0 (p.cells.length - 1) = true := by unfold argB at ha; simp only [Bool.and_eq_true] at ha; exact ha.1
    have : 0 ≤ d.cell ∧ d.cell ≤ p.cells.length - 1 := by simpa [rng, inB] using h1
    omega
  have hn : 1 ≤ d.n ∧ d.n ≤ 10000000 := by
    have h1 : rng [d.n] 1 10000000 = true := by unfold argB at ha; simp only [Bool.and_eq_true] at ha; exact ha.2
    simpa [rng, inB] using h1
  have hcv : cellB p.cells[d.cell.toNat] = true := hb.2.2.2.2.2.2.1 _ (List.getElem_mem hi)
  have hat : at_ p d = p.cells[d.cell.toNat] := cellAt_get hi
  have HA := Lib.hid ha
  obtain ⟨hB, hs, hm⟩ := h
  have hBw : B ≤ w.heap.size := by have := hs.lt; omega
  obtain ⟨g, _, rfl, hBg, hbg, _⟩ := hm.at hi
  have hgl := hbg.lt
  clear hbg
  obtain ⟨x, hx⟩ : ∃ x, x = p.cells[d.cell.toNat] := ⟨_, rfl⟩
  have HX := Lib.hid (show p.cells[d.cell.toNat]? = some x by rw [hx]; simp [hi])
  rw [← hx] at hcv hat
  have hxb := cellB_iff.1 hcv
  have HAT := Lib.hid hat
  have HXX := Lib.hid hx
  clear ha hat hx
  have hto : 0 ≤ d.to ∧ d.to ≤ p.cells.length - 1 := by simpa [rng, inB] using ht
  have HT := Lib.hid ht
  have hvv := hb.2.2.2.2.2.2.1
  have hle : d.n ≤ x.helium + x.air := by rw [HAT.out] at hl; unfold amount at hl; omega
  have HOK := Lib.hid (okC_of hcv)
  obtain ⟨s0, s1, s2, s3⟩ := share_bd HOK.out (show 0 ≤ d.n by omega) hle
  obtain ⟨S, hS⟩ : ∃ S, S = shareH x d.n := ⟨_, rfl⟩
  have HSS := Lib.hid (show shareH x d.n = S from hS.symm)
  have HOUT := fun (W : World) (q : Mine 25 B W (.slice (some ⟨g, 0, none⟩) p.cells.length cp) p.cells) => f_outX q HX.out HOK.out d.n hn.1 hle
  rw [← hS] at s0 s1 s2 s3 HOUT
  obtain ⟨_, hb1, ⟨hb2, hb3⟩, ⟨hb4, hb5⟩, ⟨hb6, hb7⟩, ⟨hb8, hb9⟩, _⟩ := hb
  clear hS hl
  have hne0 : (d.to == d.cell) = false := by simp [he]
  have hne' : (d.to != d.cell) = true := by simp [he]
  have hne'' : decide (d.to = d.cell) = false := by simp [he]
  obtain ⟨y, hy, hyb⟩ := to_bd hvv HX.out (by omega) hle hto
  have HY := Lib.hid hy
  obtain ⟨hyb1, hyb2⟩ := hyb
  clear hp ht he hvv hy
  have hwl := i64_inx (n := (p.cells.length : Int) - 1) (by omega)
  go_enter Try.func109, Try.ntmps109
  go_upto_region 2 with (first | (go_at_call 135; (with_reducible refine (f_cell_ok s g cp p d _ (hs.keep (by (exact kpt))) hn12 HA.out).mono ?_); rintro e w1 ⟨rfl, hb1⟩; refine Blk.thru (b := w.heap.size) (arr := ?_) (t := ?_) ?_ hb1 ?_; rotate_left 2; (focus (exact blk)); intro rr; have rrc0 := rr.cell 0; have rrf0 := rr.free 0; have rrc1 := rr.cell 1; have rrf1 := rr.free 1; have rrc2 := rr.cell 2; have rrf2 := rr.free 2; have rrc3 := rr.cell 3; have rrf3 := rr.free 3; have rrl := rr.lt; simp at rrc0 rrc1 rrc2 rrc3; obtain ⟨hc1, hf1, hl1⟩ := bcell3 hb1))
  refine at_world (S := fun W => Blk W w.heap.size #[.int .u8 d.kind, .int .i64 d.cell, .int .i64 d.to, .int .i64 d.n] 65 ∧ Blk W s #[.slice (some ⟨g, 0, none⟩) p.cells.length cp, .int .i64 (p.bottles), .int .i64 (p.inH), .int .i64 (p.inA), .int .i64 (p.vH), .int .i64 (p.vA), .int .i64 (p.lH), .int .i64 (p.lA), .int .i64 (p.pH), .int .i64 (p.pA)] 174 ∧ Mine 25 B W (.slice (some ⟨g, 0, none⟩) p.cells.length cp) p.cells ∧ Kept w W) ⟨by (exact blkc), hs.keep (by (exact kpt)), hm.keep (by (exact kpt)), by (exact kpt)⟩ ?_
  rintro W ⟨r0, hsW, hmW, hk⟩
  clear hc1 hf1 hl1
  refine held_walk (fun w' => Blk w' s #[.slice (some ⟨g, 0, none⟩) p.cells.length cp, .int .i64 (p.bottles), .int .i64 (p.inH), .int .i64 (p.inA), .int .i64 (p.vH), .int .i64 (p.vA), .int .i64 (p.lH), .int .i64 (p.lA), .int .i64 (p.pH), .int .i64 (p.pA)] 174 ∧ Blk w' w.heap.size #[.int .u8 d.kind, .int .i64 d.cell, .int .i64 d.to, .int .i64 d.n] 65) [(true, 0), (true, 1), (true, 2), (true, 3), (true, 4), (true, 5), (true, 6), (true, 7), (true, 8), (false, 9), (false, 10), (true, 11), (true, 12), (true, 13), (true, 14), (true, 15), (true, 16), (true, 17), (false, 18)] 18 (by kernel_rfl) (by kernel_rfl) (fun c a d v w h => by cases d <;> exact h) ⟨hsW.drew, r0.drew⟩ ?_
  simp only [List.filterMap_cons, List.filterMap_nil, List.getElem?_cons_zero, List.getElem?_cons_succ, Option.map_some]
  iterate 9 ((first | (refine held_take ?_ ?_ (fun w' hS => ?_) ?_; rotate_left 1; (focus rfl); (focus (first | (go_simp; done) | (go_simp; with_reducible rfl) | (obtain ⟨S1, S2⟩ := hS; have k0 := S1.cell 0; have k1 := S1.cell 1; have k2 := S1.cell 2; have k3 := S1.cell 3; have k4 := S1.cell 4; have k5 := S1.cell 5; have k6 := S1.cell 6; have k7 := S1.cell 7; have k8 := S1.cell 8; have k9 := S1.cell 9; have j0 := S2.cell 0; have j1 := S2.cell 1; have j2 := S2.cell 2; have j3 := S2.cell 3; simp at k0 k1 k2 k3 k4 k5 k6 k7 k8 k9 j0 j1 j2 j3; first | (go_simp; done) | (go_simp; with_reducible rfl))))) | (refine held_pass ?_ ?_; (focus rfl))); simp only [Act.put, List.setIfInBounds_toArray, List.set_cons_zero, List.set_cons_succ])
  refine held_one ?_
  refine wpList_plain rfl fun K1 hK1 => ?_
  go_wp2
  refine held_on ⟨by (repeat (first | with_reducible assumption | with_reducible refine Blk.drew ?_ | with_reducible refine Blk.alloc ?_ _ | (with_reducible refine Besides.blk hbes2 (by decide) ?_) | with_reducible refine Blk.keep ?_ (by with_reducible assumption))), by (repeat (first | with_reducible assumption | with_reducible refine Blk.drew ?_ | with_reducible refine Blk.alloc ?_ _ | (with_reducible refine Besides.blk hbes2 (by decide) ?_) | with_reducible refine Blk.keep ?_ (by with_reducible assumption)))⟩ ?_
  refine held_one ?_
  refine wpList_plain rfl fun K1 hK1 => ?_
  go_wp2_with (go_at_call 91; (with_reducible refine (f_ranged1B _ _ d.to _ _ ?_).mono ?_); (focus ((repeat with_reducible refine Blk.drew ?_); exact Blk.new' (by first | rfl | (simp; done)))); rw [HT.out]; rintro e w1 ⟨rfl, rfl⟩)
  refine held_on ⟨by (repeat (first | with_reducible assumption | with_reducible refine Blk.drew ?_ | with_reducible refine Blk.alloc ?_ _ | (with_reducible refine Besides.blk hbes2 (by decide) ?_) | with_reducible refine Blk.keep ?_ (by with_reducible assumption))), by (repeat (first | with_reducible assumption | with_reducible refine Blk.drew ?_ | with_reducible refine Blk.alloc ?_ _ | (with_reducible refine Besides.blk hbes2 (by decide) ?_) | with_reducible refine Blk.keep ?_ (by with_reducible assumption)))⟩ ?_
  iterate 7 ((first | (refine held_take ?_ ?_ (fun w' hS => ?_) ?_; rotate_left 1; (focus rfl); (focus (first | (go_simp; done) | (go_simp; with_reducible rfl) | (obtain ⟨S1, S2⟩ := hS; have k0 := S1.cell 0; have k1 := S1.cell 1; have k2 := S1.cell 2; have k3 := S1.cell 3; have k4 := S1.cell 4; have k5 := S1.cell 5; have k6 := S1.cell 6; have k7 := S1.cell 7; have k8 := S1.cell 8; have k9 := S1.cell 9; have j0 := S2.cell 0; have j1 := S2.cell 1; have j2 := S2.cell 2; have j3 := S2.cell 3; simp at k0 k1 k2 k3 k4 k5 k6 k7 k8 k9 j0 j1 j2 j3; first | (go_simp; done) | (go_simp; with_reducible rfl))))) | (refine held_pass ?_ ?_; (focus rfl))); simp only [Act.put, List.setIfInBounds_toArray, List.set_cons_zero, List.set_cons_succ])
  refine held_one ?_
  refine wpList_plain rfl fun K1 hK1 => ?_
  go_wp2_with (first | (go_at_call 113; (with_reducible refine (f_need_ok _ _).mono ?_); rintro e w1 ⟨rfl, rfl⟩))
  (first | refine held_end ?_ | (refine onward_on ?_; first | refine held_nil ?_ | refine ⟨.inl trivial, held_nil ?_⟩ | refine ⟨.inl rfl, held_nil ?_⟩))
  go_wp2
  refine at_world (S := fun X => Blk X w.heap.size #[.int .u8 d.kind, .int .i64 d.cell, .int .i64 d.to, .int .i64 d.n] 65 ∧ Blk X s #[.slice (some ⟨g, 0, none⟩) p.cells.length cp, .int .i64 (p.bottles), .int .i64 (p.inH), .int .i64 (p.inA), .int .i64 (p.vH), .int .i64 (p.vA), .int .i64 (p.lH), .int .i64 (p.lA), .int .i64 (p.pH), .int .i64 (p.pA)] 174 ∧ Mine 25 B X (.slice (some ⟨g, 0, none⟩) p.cells.length cp) p.cells ∧ Kept w X) ⟨by (repeat (first | with_reducible assumption | with_reducible refine Blk.drew ?_ | with_reducible refine Blk.alloc ?_ _ | (with_reducible refine Besides.blk hbes2 (by decide) ?_) | with_reducible refine Blk.keep ?_ (by with_reducible assumption))), by (repeat (first | with_reducible assumption | with_reducible refine Blk.drew ?_ | with_reducible refine Blk.alloc ?_ _ | (with_reducible refine Besides.blk hbes2 (by decide) ?_) | with_reducible refine Blk.keep ?_ (by with_reducible assumption))), by (repeat (first | with_reducible assumption | with_reducible refine Mine.drew ?_ | with_reducible refine Mine.alloc ?_ _)), by (exact kpt)⟩ ?_
  rintro X ⟨r0, hsX, hmX, hkX⟩
  have hi0 : (0 : Int) ≤ d.to := hto.1
  have hi1 : d.to < (p.cells.length : Int) := by omega
  have hsk0 : ∀ w', Blk w' s #[.slice (some ⟨g, 0, none⟩) p.cells.length cp, .int .i64 (p.bottles), .int .i64 (p.inH), .int .i64 (p.inA), .int .i64 (p.vH), .int .i64 (p.vA), .int .i64 (p.lH), .int .i64 (p.lA), .int .i64 (p.pH), .int .i64 (p.pA)] 174 → w'.cell? ⟨s, 0, none⟩ = _ := fun w' h => h.cell 0
  have hsk1 : ∀ w', Blk w' s #[.slice (some ⟨g, 0, none⟩) p.cells.length cp, .int .i64 (p.bottles), .int .i64 (p.inH), .int .i64 (p.inA), .int .i64 (p.vH), .int .i64 (p.vA), .int .i64 (p.lH), .int .i64 (p.lA), .int .i64 (p.pH), .int .i64 (p.pA)] 174 → w'.cell? ⟨s, 1, none⟩ = _ := fun w' h => h.cell 1
  have hsk2 : ∀ w', Blk w' s #[.slice (some ⟨g, 0, none⟩) p.cells.length cp, .int .i64 (p.bottles), .int .i64 (p.inH), .int .i64 (p.inA), .int .i64 (p.vH), .int .i64 (p.vA), .int .i64 (p.lH), .int .i64 (p.lA), .int .i64 (p.pH), .int .i64 (p.pA)] 174 → w'.cell? ⟨s, 2, none⟩ = _ := fun w' h => h.cell 2
  have hsk3 : ∀ w', Blk w' s #[.slice (some ⟨g, 0, none⟩) p.cells.length cp, .int .i64 (p.bottles), .int .i64 (p.inH), .int .i64 (p.inA), .int .i64 (p.vH), .int .i64 (p.vA), .int .i64 (p.lH), .int .i64 (p.lA), .int .i64 (p.pH), .int .i64 (p.pA)] 174 → w'.cell? ⟨s, 3, none⟩ = _ := fun w' h => h.cell 3
  have hsk4 : ∀ w', Blk w' s #[.slice (some ⟨g, 0, none⟩) p.cells.length cp, .int .i64 (p.bottles), .int .i64 (p.inH), .int .i64 (p.inA), .int .i64 (p.vH), .int .i64 (p.vA), .int .i64 (p.lH), .int .i64 (p.lA), .int .i64 (p.pH), .int .i64 (p.pA)] 174 → w'.cell? ⟨s, 4, none⟩ = _ := fun w' h => h.cell 4
  have hsk5 : ∀ w', Blk w' s #[.slice (some ⟨g, 0, none⟩) p.cells.length cp, .int .i64 (p.bottles), .int .i64 (p.inH), .int .i64 (p.inA), .int .i64 (p.vH), .int .i64 (p.vA), .int .i64 (p.lH), .int .i64 (p.lA), .int .i64 (p.pH), .int .i64 (p.pA)] 174 → w'.cell? ⟨s, 5, none⟩ = _ := fun w' h => h.cell 5
  have hsk6 : ∀ w', Blk w' s #[.slice (some ⟨g, 0, none⟩) p.cells.length cp, .int .i64 (p.bottles), .int .i64 (p.inH), .int .i64 (p.inA), .int .i64 (p.vH), .int .i64 (p.vA), .int .i64 (p.lH), .int .i64 (p.lA), .int .i64 (p.pH), .int .i64 (p.pA)] 174 → w'.cell? ⟨s, 6, none⟩ = _ := fun w' h => h.cell 6
  have hsk7 : ∀ w', Blk w' s #[.slice (some ⟨g, 0, none⟩) p.cells.length cp, .int .i64 (p.bottles), .int .i64 (p.inH), .int .i64 (p.inA), .int .i64 (p.vH), .int .i64 (p.vA), .int .i64 (p.lH), .int .i64 (p.lA), .int .i64 (p.pH), .int .i64 (p.pA)] 174 → w'.cell? ⟨s, 7, none⟩ = _ := fun w' h => h.cell 7
  have hsk8 : ∀ w', Blk w' s #[.slice (some ⟨g, 0, none⟩) p.cells.length cp, .int .i64 (p.bottles), .int .i64 (p.inH), .int .i64 (p.inA), .int .i64 (p.vH), .int .i64 (p.vA), .int .i64 (p.lH), .int .i64 (p.lA), .int .i64 (p.pH), .int .i64 (p.pA)] 174 → w'.cell? ⟨s, 8, none⟩ = _ := fun w' h => h.cell 8
  have hsk9 : ∀ w', Blk w' s #[.slice (some ⟨g, 0, none⟩) p.cells.length cp, .int .i64 (p.bottles), .int .i64 (p.inH), .int .i64 (p.inA), .int .i64 (p.vH), .int .i64 (p.vA), .int .i64 (p.lH), .int .i64 (p.lA), .int .i64 (p.pH), .int .i64 (p.pA)] 174 → w'.cell? ⟨s, 9, none⟩ = _ := fun w' h => h.cell 9
  have hsf0 : ∀ w', Blk w' s #[.slice (some ⟨g, 0, none⟩) p.cells.length cp, .int .i64 (p.bottles), .int .i64 (p.inH), .int .i64 (p.inA), .int .i64 (p.vH), .int .i64 (p.vA), .int .i64 (p.lH), .int .i64 (p.lA), .int .i64 (p.pH), .int .i64 (p.pA)] 174 → w'.frozen? ⟨s, 0, none⟩ = _ := fun w' h => h.free 0
  have hsf1 : ∀ w', Blk w' s #[.slice (some ⟨g, 0, none⟩) p.cells.length cp, .int .i64 (p.bottles), .int .i64 (p.inH), .int .i64 (p.inA), .int .i64 (p.vH), .int .i64 (p.vA), .int .i64 (p.lH), .int .i64 (p.lA), .int .i64 (p.pH), .int .i64 (p.pA)] 174 → w'.frozen? ⟨s, 1, none⟩ = _ := fun w' h => h.free 1
  have hsf2 : ∀ w', Blk w' s #[.slice (some ⟨g, 0, none⟩) p.cells.length cp, .int .i64 (p.bottles), .int .i64 (p.inH), .int .i64 (p.inA), .int .i64 (p.vH), .int .i64 (p.vA), .int .i64 (p.lH), .int .i64 (p.lA), .int .i64 (p.pH), .int .i64 (p.pA)] 174 → w'.frozen? ⟨s, 2, none⟩ = _ := fun w' h => h.free 2
  have hsf3 : ∀ w', Blk w' s #[.slice (some ⟨g, 0, none⟩) p.cells.length cp, .int .i64 (p.bottles), .int .i64 (p.inH), .int .i64 (p.inA), .int .i64 (p.vH), .int .i64 (p.vA), .int .i64 (p.lH), .int .i64 (p.lA), .int .i64 (p.pH), .int .i64 (p.pA)] 174 → w'.frozen? ⟨s, 3, none⟩ = _ := fun w' h => h.free 3
  have hsf4 : ∀ w', Blk w' s #[.slice (some ⟨g, 0, none⟩) p.cells.length cp, .int .i64 (p.bottles), .int .i64 (p.inH), .int .i64 (p.inA), .int .i64 (p.vH), .int .i64 (p.vA), .int .i64 (p.lH), .int .i64 (p.lA), .int .i64 (p.pH), .int .i64 (p.pA)] 174 → w'.frozen? ⟨s, 4, none⟩ = _ := fun w' h => h.free 4
  have hsf5 : ∀ w', Blk w' s #[.slice (some ⟨g, 0, none⟩) p.cells.length cp, .int .i64 (p.bottles), .int .i64 (p.inH), .int .i64 (p.inA), .int .i64 (p.vH), .int .i64 (p.vA), .int .i64 (p.lH), .int .i64 (p.lA), .int .i64 (p.pH), .int .i64 (p.pA)] 174 → w'.frozen? ⟨s, 5, none⟩ = _ := fun w' h => h.free 5
  have hsf6 : ∀ w', Blk w' s #[.slice (some ⟨g, 0, none⟩) p.cells.length cp, .int .i64 (p.bottles), .int .i64 (p.inH), .int .i64 (p.inA), .int .i64 (p.vH), .int .i64 (p.vA), .int .i64 (p.lH), .int .i64 (p.lA), .int .i64 (p.pH), .int .i64 (p.pA)] 174 → w'.frozen? ⟨s, 6, none⟩ = _ := fun w' h => h.free 6
  have hsf7 : ∀ w', Blk w' s #[.slice (some ⟨g, 0, none⟩) p.cells.length cp, .int .i64 (p.bottles), .int .i64 (p.inH), .int .i64 (p.inA), .int .i64 (p.vH), .int .i64 (p.vA), .int .i64 (p.lH), .int .i64 (p.lA), .int .i64 (p.pH), .int .i64 (p.pA)] 174 → w'.frozen? ⟨s, 7, none⟩ = _ := fun w' h => h.free 7
  have hsf8 : ∀ w', Blk w' s #[.slice (some ⟨g, 0, none⟩) p.cells.length cp, .int .i64 (p.bottles), .int .i64 (p.inH), .int .i64 (p.inA), .int .i64 (p.vH), .int .i64 (p.vA), .int .i64 (p.lH), .int .i64 (p.lA), .int .i64 (p.pH), .int .i64 (p.pA)] 174 → w'.frozen? ⟨s, 8, none⟩ = _ := fun w' h => h.free 8
  have hsf9 : ∀ w', Blk w' s #[.slice (some ⟨g, 0, none⟩) p.cells.length cp, .int .i64 (p.bottles), .int .i64 (p.inH), .int .i64 (p.inA), .int .i64 (p.vH), .int .i64 (p.vA), .int .i64 (p.lH), .int .i64 (p.lA), .int .i64 (p.pH), .int .i64 (p.pA)] 174 → w'.frozen? ⟨s, 9, none⟩ = _ := fun w' h => h.free 9
  simp at hsk0 hsk1 hsk2 hsk3 hsk4 hsk5 hsk6 hsk7 hsk8 hsk9
  have hdk0 : ∀ w', Blk w' w.heap.size #[.int .u8 d.kind, .int .i64 d.cell, .int .i64 d.to, .int .i64 d.n] 65 → w'.cell? ⟨w.heap.size, 0, none⟩ = _ := fun w' h => h.cell 0
  have hdk1 : ∀ w', Blk w' w.heap.size #[.int .u8 d.kind, .int .i64 d.cell, .int .i64 d.to, .int .i64 d.n] 65 → w'.cell? ⟨w.heap.size, 1, none⟩ = _ := fun w' h => h.cell 1
  have hdk2 : ∀ w', Blk w' w.heap.size #[.int .u8 d.kind, .int .i64 d.cell, .int .i64 d.to, .int .i64 d.n] 65 → w'.cell? ⟨w.heap.size, 2, none⟩ = _ := fun w' h => h.cell 2
  have hdk3 : ∀ w', Blk w' w.heap.size #[.int .u8 d.kind, .int .i64 d.cell, .int .i64 d.to, .int .i64 d.n] 65 → w'.cell? ⟨w.heap.size, 3, none⟩ = _ := fun w' h => h.cell 3
  have hdf0 : ∀ w', Blk w' w.heap.size #[.int .u8 d.kind, .int .i64 d.cell, .int .i64 d.to, .int .i64 d.n] 65 → w'.frozen? ⟨w.heap.size, 0, none⟩ = _ := fun w' h => h.free 0
  have hdf1 : ∀ w', Blk w' w.heap.size #[.int .u8 d.kind, .int .i64 d.cell, .int .i64 d.to, .int .i64 d.n] 65 → w'.frozen? ⟨w.heap.size, 1, none⟩ = _ := fun w' h => h.free 1
  have hdf2 : ∀ w', Blk w' w.heap.size #[.int .u8 d.kind, .int .i64 d.cell, .int .i64 d.to, .int .i64 d.n] 65 → w'.frozen? ⟨w.heap.size, 2, none⟩ = _ := fun w' h => h.free 2
  have hdf3 : ∀ w', Blk w' w.heap.size #[.int .u8 d.kind, .int .i64 d.cell, .int .i64 d.to, .int .i64 d.n] 65 → w'.frozen? ⟨w.heap.size, 3, none⟩ = _ := fun w' h => h.free 3
  simp at hdk0 hdk1 hdk2 hdk3
  go_cut [5, 6] (fun s5 s6 wx => ∃ gx, s5 = .pointer (some ⟨gx, 0, none⟩) ∧ s6 = .pointer (some ⟨g, d.to.toNat * 7, none⟩) ∧ Blk wx gx #[.int .i64 S, .int .i64 (d.n - S)] 61 ∧ Blk wx s #[.slice (some ⟨g, 0, none⟩) p.cells.length cp, .int .i64 (p.bottles), .int .i64 (p.inH), .int .i64 (p.inA), .int .i64 (p.vH), .int .i64 (p.vA), .int .i64 (p.lH), .int .i64 (p.lA), .int .i64 (p.pH), .int .i64 (p.pA)] 174 ∧ Mine 25 B wx (.slice (some ⟨g, 0, none⟩) p.cells.length cp) (p.cells.set d.cell.toNat (less x d.n)) ∧ Below B w wx ∧ w.heap.size ≤ wx.heap.size ∧ w.heap.size < gx)
  case first =>
    go_region_held3 (fun w' => Blk w' s #[.slice (some ⟨g, 0, none⟩) p.cells.length cp, .int .i64 (p.bottles), .int .i64 (p.inH), .int .i64 (p.inA), .int .i64 (p.vH), .int .i64 (p.vA), .int .i64 (p.lH), .int .i64 (p.lA), .int .i64 (p.pH), .int .i64 (p.pA)] 174 ∧ Blk w' w.heap.size #[.int .u8 d.kind, .int .i64 d.cell, .int .i64 d.to, .int .i64 d.n] 65) ((refine ⟨?_, ?_⟩ <;> ((repeat (first | with_reducible assumption | with_reducible refine Blk.drew ?_ | with_reducible refine Blk.alloc ?_ _ | ((with_reducible refine Blk.other ?_ ?_ _); rotate_left 1; (focus (have e0 := hsX.lt; have e9 := r0.lt; have e3 := Below.size hw2; simp at e3; first | (simp; omega) | (simp at *; omega)))) | (with_reducible refine Besides.blk hbes2 (by decide) ?_) | with_reducible refine Blk.keep ?_ (by with_reducible assumption))); done))) (first | (go_at_call 136; (with_reducible refine (HOUT _ ?_).mono ?_); (focus (repeat (first | with_reducible assumption | with_reducible refine Mine.drew ?_ | with_reducible refine Mine.alloc ?_ _ | with_reducible refine Mine.keep ?_ (by with_reducible assumption)))); rintro e w2 ⟨rfl, hm2, hw2, hbes2⟩; have hbB : Below B X w2 := (by first | exact ((Below.refl B X).drew).trans hw2 | exact (((Below.refl B X).alloc (by have e0 := hkX.size; omega) _).drew).trans hw2); have hsB : Blk w2 s #[.slice (some ⟨g, 0, none⟩) p.cells.length cp, .int .i64 (p.bottles), .int .i64 (p.inH), .int .i64 (p.inA), .int .i64 (p.vH), .int .i64 (p.vA), .int .i64 (p.lH), .int .i64 (p.lA), .int .i64 (p.pH), .int .i64 (p.pA)] 174 := (by (repeat (first | with_reducible assumption | with_reducible refine Blk.drew ?_ | with_reducible refine Blk.alloc ?_ _ | (with_reducible refine Besides.blk hbes2 (by decide) ?_) | with_reducible refine Blk.keep ?_ (by with_reducible assumption)))); have r0B : Blk w2 w.heap.size #[.int .u8 d.kind, .int .i64 d.cell, .int .i64 d.to, .int .i64 d.n] 65 := (by (repeat (first | with_reducible assumption | with_reducible refine Blk.drew ?_ | with_reducible refine Blk.alloc ?_ _ | (with_reducible refine Besides.blk hbes2 (by decide) ?_) | with_reducible refine Blk.keep ?_ (by with_reducible assumption)))); have hzB := hbB.size; (first | (refine Besides.thru (b := X.heap.size) (arr := ?_) (t := ?_) ?_ hbes2 ?_ ?_; rotate_left 2; (focus ((repeat with_reducible refine Blk.drew ?_); exact Blk.new' (by first | rfl | (simp; done)))); (focus decide); intro x2; have x2c0 := x2.cell 0; have x2f0 := x2.free 0; have x2c1 := x2.cell 1; have x2f1 := x2.free 1; have x2l := x2.lt; simp at x2c0 x2c1) | skip)) | fail)
    all_goals (go_wp2_with fail; go_meet)
    all_goals
      have e9 := r0.lt
      have e8 := hs.lt
      have ey := hkX.size
      have eb := hbB.size
    · exact ⟨_, rfl, rfl, Blk.new, hsB.alloc _, hm2.alloc _, ((hkX.mono hBw).trans hbB).alloc (by omega) _, by simp; omega, by omega⟩
    · exact ⟨_, rfl, rfl, (x2.set 0 _).set 1 _, (hsB.other (by simp; omega) _).other (by simp; omega) _, (hm2.other x2 (by decide) _).other (x2.set 0 _) (by decide) _, (((hkX.mono hBw).trans hbB).setCell (by simp; omega) _).setCell (by simp; omega) _, by simp [World.setCell]; omega, by omega⟩
  case rest =>
    clear hkX r0 hsX hmX hsk0 hsf0 hsk1 hsf1 hsk2 hsf2 hsk3 hsf3 hsk4 hsf4 hsk5 hsf5 hsk6 hsf6 hsk7 hsf7 hsk8 hsf8 hsk9 hsf9 hdk0 hdf0 hdk1 hdf1 hdk2 hdf2 hdk3 hdf3
    obtain ⟨gx, rfl, rfl, x0, hsX, hmX, hbX, hzX, hgx⟩ := hcut
    go_upto_region 4 with fail
    refine at_world (S := fun X => Blk X gx #[.int .i64 S, .int .i64 (d.n - S)] 61 ∧ Blk X s #[.slice (some ⟨g, 0, none⟩) p.cells.length cp, .int .i64 (p.bottles), .int .i64 (p.inH), .int .i64 (p.inA), .int .i64 (p.vH), .int .i64 (p.vA), .int .i64 (p.lH), .int .i64 (p.lA), .int .i64 (p.pH), .int .i64 (p.pA)] 174 ∧ Mine 25 B X (.slice (some ⟨g, 0, none⟩) p.cells.length cp) (p.cells.set d.cell.toNat (less x d.n)) ∧ Below B w X ∧ w.heap.size ≤ X.heap.size) ⟨x0, hsX, hmX, hbX, hzX⟩ ?_
    rintro X ⟨x0, hsX, hmX, hbX, hzX⟩
    obtain ⟨hj, hyj⟩ := List.getElem?_eq_some_iff.1 HY.out
    obtain ⟨_, cur, hge, _, hcur, c0, c1, c2, c3, c4, c5, c6⟩ := hmX.at hj
    cases hge
    rw [hyj] at c0 c1 c2 c3 c4 c5 c6
    clear hyj
    have y1 := fun q : Later X => q.some c1
    have y2 := fun q : Later X => q.some c2
    clear c0 c1 c2 c3 c4 c5 c6
    have x0c0 := fun g : Later X => (x0.later g).cell 0
    have x0f0 := fun g : Later X => (x0.later g).free 0
    have x0c1 := fun g : Later X => (x0.later g).cell 1
    have x0f1 := fun g : Later X => (x0.later g).free 1
    have x0l := fun g : Later X => (x0.later g).lt
    simp at x0c0 x0c1
    refine Later.tail 9 (by kernel_rfl) (by kernel_rfl) ?_
    simp only [List.take_succ_cons, List.take_zero, List.drop_succ_cons, List.drop_zero]
    repeat (first | go_big_quiet_skip | (go_big_quiet_want; go_big_quiet_op; first | go_big_quiet_on | (apply Exists.intro; refine ⟨fun g_ => ?_, ?_⟩; (focus (first | fail)); go_big_quiet_on)))
    refine wpQuiet_nil ?_
    intro gh
    refine wpList_plain rfl fun K1 hK1 => ?_
    have z1 := y1 gh
    have z2 := y2 gh
    have hcg := hcur.later gh
    have zf := hcg.free (d.to.toNat * 7 + 1)
    clear x0c0 x0f0 x0c1 x0f1 x0l
    go_wp2
    refine at_world (S := fun Y => Blk Y gx #[.int .i64 S, .int .i64 (d.n - S)] 61 ∧ Blk Y s #[.slice (some ⟨g, 0, none⟩) p.cells.length cp, .int .i64 (p.bottles), .int .i64 (p.inH), .int .i64 (p.inA), .int .i64 (p.vH), .int .i64 (p.vA), .int .i64 (p.lH), .int .i64 (p.lA), .int .i64 (p.pH), .int .i64 (p.pA)] 174 ∧ Mine 25 B Y (.slice (some ⟨g, 0, none⟩) p.cells.length cp) ((p.cells.set d.cell.toNat (less x d.n)).set d.to.toNat { y with helium := y.helium + S }) ∧ Below B w Y ∧ w.heap.size ≤ Y.heap.size) ⟨(x0.later gh).other (by simp; omega) _, (hsX.later gh).other (a := ⟨g, d.to.toNat * 7 + 1, none⟩) (fun he => by simp only at he; subst he; have := (hsX.later gh).symm.trans hcg; simp at this) _, (hmX.keep gh.ok).put (i := d.to.toNat) (j := 1) (c := y) (u := .int .i64 (y.helium + S)) { y with helium := y.helium + S } HY.out (by decide) rfl, (hbX.trans (gh.ok.mono (by omega))).setCell hBg _, Nat.le_trans hzX (Nat.le_trans gh.ok.size (by simp))⟩ ?_
    rintro Y ⟨x0, hsY, hmY, hbY, hzY⟩
    obtain ⟨_, cuy, hge, _, hcy, _, _, c2, _⟩ := hmY.at (i := d.to.toNat) (by simpa using hj)
    cases hge
    rw [List.getElem_set_self] at c2
    have y2 := fun q : Later Y => q.some c2
    clear c2
    have x0c0 := fun g : Later Y => (x0.later g).cell 0
    have x0f0 := fun g : Later Y => (x0.later g).free 0
    have x0c1 := fun g : Later Y => (x0.later g).cell 1
    have x0f1 := fun g : Later Y => (x0.later g).free 1
    have x0l := fun g : Later Y => (x0.later g).lt
    simp at x0c0 x0c1
    refine Later.tail 9 (by kernel_rfl) (by kernel_rfl) ?_
    simp only [List.take_succ_cons, List.take_zero, List.drop_succ_cons, List.drop_zero]
    repeat (first | go_big_quiet_skip | (go_big_quiet_want; go_big_quiet_op; first | go_big_quiet_on | (apply Exists.intro; refine ⟨fun g_ => ?_, ?_⟩; (focus (first | fail)); go_big_quiet_on)))
    refine wpQuiet_nil ?_
    intro gi
    refine wpList_plain rfl fun K1 hK1 => ?_
    have z2 := y2 gi
    have hcg := hcy.later gi
    have zf := hcg.free (d.to.toNat * 7 + 2)
    clear x0c0 x0f0 x0c1 x0f1 x0l
    go_wp2
    go_end0
    refine ⟨rfl, ⟨hB, ?_, ?_⟩, ?_⟩
    · exact ((hsY.later gi).other (a := ⟨g, d.to.toNat * 7 + 2, none⟩) (fun he => by simp only at he; subst he; have := (hsY.later gi).symm.trans hcg; simp at this) _).cast (by simp [plantCells, moveP, lessP])
    · have q := (hmY.keep gi.ok).put (i := d.to.toNat) (j := 2) (c := { y with helium := y.helium + S }) (u := .int .i64 (y.air + (d.n - S))) { y with helium := y.helium + S, air := y.air + (d.n - S) } (List.getElem?_set_self (by simpa using hj)) (by decide) rfl
      rw [List.set_set] at q
      have hyc : cellAt (lessP p d) d.to.toNat = y := by
        have := HY.out
        simp [cellAt, lessP, HAT.out, this]
      have e : (moveP p d).cells = ((p.cells.set d.cell.toNat (less x d.n)).set d.to.toNat { y with helium := y.helium + S, air := y.air + (d.n - S) }) := by
        show (lessP p d).cells.set _ (more (cellAt (lessP p d) d.to.toNat) (shareH (at_ p d) d.n) (d.n - shareH (at_ p d) d.n)) = _
        rw [hyc, HAT.out, HSS.out]
        simp [lessP, HAT.out, more]
      have el : (moveP p d).cells.length = p.cells.length := by rw [e]; simp
      rw [el, e]
      exact q
    · exact (hbY.trans (gi.ok.mono (by omega))).setCell hBg _

end Go.Proofs.Ytemafanncejeiaa

/-
  Ticks: each cell leaks.
-/
namespace Go.Proofs.Ytemafanncejeiaa
open Go.RowKit Bal Bal.Trim Bal.Gas
set_option linter.unusedVariables false
set_option linter.unusedSimpArgs false
set_option maxHeartbeats 8000000
set_option maxRecDepth 100000

theorem f_tick_no {B s cp : Nat} {ad : Option Addr} {p : Plant} {w : World} (d : Deed) (h : Shop 25 174 B w s ad cp p) (hp : plantB p = true) (he : rng [d.n] 1 1000 = false) : Calls Try.prog 112 #[.pointer (some ⟨s, 0, none⟩), .agg #[.int .u8 d.kind, .int .i64 d.cell, .int .i64 d.to, .int .i64 d.n]] w fun e w' => e = .panicked [{ v := refusal 2, recovered := false }] ∧ Kept w w' := by
  have H1 := Lib.hid he
  clear he
  go_enter Try.func112, Try.ntmps112
  go_wp2_with (first | (go_at_call 91; (with_reducible refine (f_ranged1 _ _ d.n _ _ _ (by simp)).mono ?_); rw [H1.out]; rintro e w1 ⟨rfl, rfl⟩) | (go_at_call 113; (with_reducible refine (f_need_no _ _).mono ?_); rintro e w1 ⟨rfl, rfl⟩))
  exact ⟨rfl, rfl, by (exact kpt)⟩
theorem f_outY {B cp g n0 : Nat} {xs : List Cell} {w : World} (h : Mine 25 B w (.slice (some ⟨g, 0, none⟩) n0 cp) xs) {i : Nat} {x : Cell} (hx : xs[i]? = some x) (hc : okC x) (n : Int) (h0 : 1 ≤ n) (h1 : n ≤ x.helium + x.air) :
    Calls Try.prog 136 #[.pointer (some ⟨g, i * 7, none⟩), .int .i64 n] w fun e w' => e = .returned (.agg #[.int .i64 (shareH x n), .int .i64 (n - shareH x n)]) ∧
      Mine 25 B w' (.slice (some ⟨g, 0, none⟩) n0 cp) (xs.set i (less x n)) ∧ Below B w w' ∧ Besides 25 w w' := by
  obtain rfl := h.row.1
  exact f_outX h hx hc n h0 h1
theorem less_zero (x : Cell) : less x 0 = x := by simp [less, shareH]
theorem leak_small {x : Cell} (h0 : 0 ≤ x.owed + (x.helium + x.air) * x.leak) (h : ¬ 0 < leakN x) : leakN x = 0 ∧ leakC x = { x with owed := x.owed + (x.helium + x.air) * x.leak } := by
  have hz : leakN x = 0 := by unfold leakN at *; omega
  refine ⟨hz, ?_⟩
  have hm : (x.owed + (x.helium + x.air) * x.leak) % 1000000 = x.owed + (x.helium + x.air) * x.leak := by unfold leakN at hz; omega
  unfold leakC
  rw [hz, less_zero, hm]
theorem f_tick_ok {B s cp : Nat} {ad : Option Addr} {p : Plant} {w : World} (d : Deed) (h : Shop 25 174 B w s ad cp p) (hp : plantB p = true) (he : rng [d.n] 1 1000 = true) : Calls Try.prog 112 #[.pointer (some ⟨s, 0, none⟩), .agg #[.int .u8 d.kind, .int .i64 d.cell, .int .i64 d.to, .int .i64 d.n]] w fun e w' => e = .returned (.tuple #[]) ∧ Shop 25 174 B w' s ad cp (tickP p d) ∧ Below B w w' := by
  have hn : 1 ≤ d.n ∧ d.n ≤ 1000 := by simpa [rng, inB] using he
  have H1 := Lib.hid he
  have HP := Lib.hid hp
  have hn12 : p.cells.length ≤ 12 := (plantB_iff.1 hp).1
  clear he hp
  obtain ⟨hB, hs, hm⟩ := h
  have hBw : B ≤ w.heap.size := by have := hs.lt; omega
  obtain ⟨N, hN⟩ : ∃ N : Nat, d.n = N := ⟨d.n.toNat, by omega⟩
  have HN := Lib.hid (show d.n.toNat = N by omega)
  have HNI := Lib.hid hN
  have hN1 : N ≤ 1000 := by omega
  clear hN
  have HLEN := Lib.hid (fun j => ticks_len p j)
  have HLEK := Lib.hid (fun j k => (tickTo_len (ticks p j) k).trans (ticks_len p j))
  have HBK := Lib.hid (fun j k (hk : k ≤ p.cells.length) => tickTo_B (ticks_B HP.out j) k (by rw [ticks_len]; exact hk))
  go_enter Try.func112, Try.ntmps112
  go_upto_region 3 with (first | (go_at_call 91; (with_reducible refine (f_ranged1 _ _ d.n _ _ _ (by simp)).mono ?_); rw [H1.out]; rintro e w1 ⟨rfl, rfl⟩) | (go_at_call 113; (with_reducible refine (f_need_ok _ _).mono ?_); rintro e w1 ⟨rfl, rfl⟩))
  rw [HNI.out]
  refine at_world (S := fun W => Blk W s #[.slice ad p.cells.length cp, .int .i64 (p.bottles), .int .i64 (p.inH), .int .i64 (p.inA), .int .i64 (p.vH), .int .i64 (p.vA), .int .i64 (p.lH), .int .i64 (p.lA), .int .i64 (p.pH), .int .i64 (p.pA)] 174 ∧ Mine 25 B W (.slice ad p.cells.length cp) p.cells ∧ Below B w W ∧ w.heap.size ≤ W.heap.size) ⟨hs.keep (by (exact kpt)), hm.keep (by (exact kpt)), by (repeat (first | with_reducible exact Below.refl _ _ | with_reducible refine Below.drew ?_ | ((with_reducible refine Below.alloc ?_ ?_ _); rotate_left 1; (focus (first | omega | (simp; omega)))))), by simp; omega⟩ ?_
  rintro W ⟨r0, hmW, hbW, hzW⟩
  go_loopw [14] (fun i wr => ∃ j : Nat, j ≤ N ∧ i = .int .i64 j ∧ Blk wr s #[.slice ad p.cells.length cp, .int .i64 ((ticks p j).bottles), .int .i64 ((ticks p j).inH), .int .i64 ((ticks p j).inA), .int .i64 ((ticks p j).vH), .int .i64 ((ticks p j).vA), .int .i64 ((ticks p j).lH), .int .i64 ((ticks p j).lA), .int .i64 ((ticks p j).pH), .int .i64 ((ticks p j).pA)] 174 ∧ Mine 25 B wr (.slice ad p.cells.length cp) (ticks p j).cells ∧ Below B w wr ∧ w.heap.size ≤ wr.heap.size) (fun i _ => N - (intOf i).toNat)
  case atStart => exact ⟨0, Nat.zero_le _, rfl, r0, hmW, hbW, hzW⟩
  case round =>
    clear r0 hmW hbW hzW
    obtain ⟨j, hj, rfl, r0, hmW, hbW, hzW⟩ := hrel
    by_cases hlt : j < N
    · have r0c0 := r0.cell 0
      have r0f0 := r0.free 0
      have r0c1 := r0.cell 1
      have r0f1 := r0.free 1
      have r0c2 := r0.cell 2
      have r0f2 := r0.free 2
      have r0c3 := r0.cell 3
      have r0f3 := r0.free 3
      have r0c4 := r0.cell 4
      have r0f4 := r0.free 4
      have r0c5 := r0.cell 5
      have r0f5 := r0.free 5
      have r0c6 := r0.cell 6
      have r0f6 := r0.free 6
      have r0c7 := r0.cell 7
      have r0f7 := r0.free 7
      have r0c8 := r0.cell 8
      have r0f8 := r0.free 8
      have r0c9 := r0.cell 9
      have r0f9 := r0.free 9
      have r0l := r0.lt
      simp at r0c0 r0c1 r0c2 r0c3 r0c4 r0c5 r0c6 r0c7 r0c8 r0c9
      go_wp2
      go_loopw [22] (fun i wq => ∃ k : Nat, k ≤ p.cells.length ∧ i = .int .i64 k ∧ Blk wq s #[.slice ad p.cells.length cp, .int .i64 ((tickTo (ticks p j) k).bottles), .int .i64 ((tickTo (ticks p j) k).inH), .int .i64 ((tickTo (ticks p j) k).inA), .int .i64 ((tickTo (ticks p j) k).vH), .int .i64 ((tickTo (ticks p j) k).vA), .int .i64 ((tickTo (ticks p j) k).lH), .int .i64 ((tickTo (ticks p j) k).lA), .int .i64 ((tickTo (ticks p j) k).pH), .int .i64 ((tickTo (ticks p j) k).pA)] 174 ∧ Mine 25 B wq (.slice ad p.cells.length cp) (tickTo (ticks p j) k).cells ∧ Below B w wq ∧ w.heap.size ≤ wq.heap.size) (fun i _ => p.cells.length - (intOf i).toNat)
      case atStart => exact ⟨0, Nat.zero_le _, rfl, r0, hmW, hbW, hzW⟩
      case round =>
        clear r0c0 r0f0 r0c1 r0f1 r0c2 r0f2 r0c3 r0f3 r0c4 r0f4 r0c5 r0f5 r0c6 r0f6 r0c7 r0f7 r0c8 r0f8 r0c9 r0f9 r0l r0 hmW hbW hzW
        obtain ⟨k, hk, rfl, r0, hmW, hbW, hzW⟩ := hrel
        have hqB := HBK.out j k hk
        have hql := HLEK.out j k
        have HNX := Lib.hid (show tickTo (ticks p j) (k + 1) = leakAt (tickTo (ticks p j) k) k from rfl)
        obtain ⟨q, hq⟩ : ∃ q, q = tickTo (ticks p j) k := ⟨_, rfl⟩
        rw [← hq] at r0 hmW hqB hql HNX
        by_cases hlk : k < p.cells.length
        · have hkq : k < q.cells.length := by omega
          clear hq
          have hb := plantB_iff.1 hqB
          have hcv : cellB q.cells[k] = true := hb.2.2.2.2.2.2.1 _ (List.getElem_mem hkq)
          have hat : cellAt q k = q.cells[k] := cellAt_get hkq
          obtain ⟨g, cur, rfl, hBg, hcur, c0, c1, c2, c3, c4, c5, c6⟩ := hmW.at hkq
          obtain ⟨x, hx⟩ : ∃ x, x = q.cells[k] := ⟨_, rfl⟩
          have HX := Lib.hid (show q.cells[k]? = some x by rw [hx]; simp [hkq])
          rw [← hx] at hcv hat c0 c1 c2 c3 c4 c5 c6
          have HAT := Lib.hid hat
          have hxb := cellB_iff.1 hcv
          have hlb := leak_bd hcv
          have HOK := Lib.hid (okC_of hcv)
          have hsmall := Lib.hid (fun h : ¬ 0 < leakN x => leak_small hlb.1.1 h)
          obtain ⟨_, _, _, _, ⟨⟨hb6, hb7⟩, ⟨hb8, hb9⟩⟩, _⟩ := hb
          clear hcv hat hx hqB
          have w1 := i64_inx (n := x.helium + x.air) (by omega)
          have w2 := i64_inx (n := (x.helium + x.air) * x.leak) (by omega)
          have w3 := i64_inx (n := x.owed + (x.helium + x.air) * x.leak) (by omega)
          obtain ⟨PR, hPR⟩ : ∃ y, y = (x.helium + x.air) * x.leak := ⟨_, rfl⟩
          obtain ⟨SUM, hSUM⟩ : ∃ y, y = x.owed + PR := ⟨_, rfl⟩
          have HSU := Lib.hid (show x.owed + (x.helium + x.air) * x.leak = SUM by rw [hSUM, hPR])
          have HPR := Lib.hid (show (x.helium + x.air) * x.leak = PR from hPR.symm)
          have HSM := Lib.hid (show x.owed + PR = SUM from hSUM.symm)
          rw [HSU.out] at hlb hsmall
          clear hSUM hPR
          have HL := Lib.hid (show SUM / 1000000 = leakN x by unfold leakN; rw [HSU.out])
          obtain ⟨L, hL⟩ : ∃ y, y = leakN x := ⟨_, rfl⟩
          rw [← hL] at hlb hsmall HL
          obtain ⟨hlb1, hlb2, hlb3, hlb4⟩ := hlb
          have HLL := Lib.hid hL
          clear hL
          have r0c0 := r0.cell 0
          have r0f0 := r0.free 0
          have r0c1 := r0.cell 1
          have r0f1 := r0.free 1
          have r0c2 := r0.cell 2
          have r0f2 := r0.free 2
          have r0c3 := r0.cell 3
          have r0f3 := r0.free 3
          have r0c4 := r0.cell 4
          have r0f4 := r0.free 4
          have r0c5 := r0.cell 5
          have r0f5 := r0.free 5
          have r0c6 := r0.cell 6
          have r0f6 := r0.free 6
          have r0c7 := r0.cell 7
          have r0f7 := r0.free 7
          have r0c8 := r0.cell 8
          have r0f8 := r0.free 8
          have r0c9 := r0.cell 9
          have r0f9 := r0.free 9
          have r0l := r0.lt
          simp at r0c0 r0c1 r0c2 r0c3 r0c4 r0c5 r0c6 r0c7 r0c8 r0c9
          go_upto_region 8 with fail
          clear r0c0 r0f0 r0c1 r0f1 r0c2 r0f2 r0c3 r0f3 r0c4 r0f4 r0c5 r0f5 r0c6 r0f6 r0c7 r0f7 r0c8 r0f8 r0c9 r0f9 r0l
          refine at_world (S := fun X => Blk X s #[.slice (some ⟨g, 0, none⟩) p.cells.length cp, .int .i64 (q.bottles), .int .i64 (q.inH), .int .i64 (q.inA), .int .i64 (q.vH), .int .i64 (q.vA), .int .i64 (q.lH), .int .i64 (q.lA), .int .i64 (q.pH), .int .i64 (q.pA)] 174 ∧ Mine 25 B X (.slice (some ⟨g, 0, none⟩) p.cells.length cp) q.cells ∧ Below B w X ∧ w.heap.size ≤ X.heap.size ∧ Blk X g cur 25 ∧ X.cell? ⟨g, k * 7, none⟩ = some (.int .i64 x.room) ∧ X.cell? ⟨g, k * 7 + 1, none⟩ = some (.int .i64 x.helium) ∧ X.cell? ⟨g, k * 7 + 2, none⟩ = some (.int .i64 x.air) ∧ X.cell? ⟨g, k * 7 + 3, none⟩ = some (.int .i64 x.wlo) ∧ X.cell? ⟨g, k * 7 + 4, none⟩ = some (.int .i64 x.whi) ∧ X.cell? ⟨g, k * 7 + 5, none⟩ = some (.int .i64 x.leak) ∧ X.cell? ⟨g, k * 7 + 6, none⟩ = some (.int .i64 x.owed)) ⟨r0, hmW, hbW, hzW, hcur, c0, c1, c2, c3, c4, c5, c6⟩ ?_
          clear r0 hmW hbW hzW hcur c0 c1 c2 c3 c4 c5 c6
          rintro X ⟨r1, hmX, hbX, hzX, hcur, c0, c1, c2, c3, c4, c5, c6⟩
          clear c0 c3 c4
          have y1 := fun q : Later X => q.some c1
          have y2 := fun q : Later X => q.some c2
          have y5 := fun q : Later X => q.some c5
          have y6 := fun q : Later X => q.some c6
          clear c1 c2 c5 c6
          refine Later.tail 21 (by kernel_rfl) (by kernel_rfl) ?_
          simp only [List.take_succ_cons, List.take_zero, List.drop_succ_cons, List.drop_zero]
          repeat (first | go_big_quiet_skip | (go_big_quiet_want; go_big_quiet_op; first | go_big_quiet_on | (apply Exists.intro; refine ⟨fun g_ => ?_, ?_⟩; (focus (first | fail)); go_big_quiet_on)))
          refine wpQuiet_nil ?_
          intro gg
          refine wpList_plain rfl fun K1 hK1 => ?_
          have z6 := y6 gg
          have hcg := hcur.later gg
          have zf := hcg.free (k * 7 + 6)
          clear w1 w2 w3
          go_upto_region 9 with fail
          rw [HSU.out]
          have HCO := Lib.hid (show (gg.val.setCell ⟨g, k * 7 + 6, none⟩ (.int .i64 SUM)).heap.size = gg.val.heap.size by simp [World.setCell])
          refine at_world (S := fun Y => Blk Y s #[.slice (some ⟨g, 0, none⟩) p.cells.length cp, .int .i64 (q.bottles), .int .i64 (q.inH), .int .i64 (q.inA), .int .i64 (q.vH), .int .i64 (q.vA), .int .i64 (q.lH), .int .i64 (q.lA), .int .i64 (q.pH), .int .i64 (q.pA)] 174 ∧ Mine 25 B Y (.slice (some ⟨g, 0, none⟩) p.cells.length cp) (q.cells.set k { x with owed := SUM }) ∧ Below B w Y ∧ w.heap.size ≤ Y.heap.size) ⟨(r1.later gg).other (a := ⟨g, k * 7 + 6, none⟩) (fun he => by simp only at he; subst he; have := (r1.later gg).symm.trans hcg; simp at this) _, (hmX.keep gg.ok).put (i := k) (j := 6) (c := x) (u := .int .i64 SUM) { x with owed := SUM } HX.out (by decide) rfl, (hbX.trans (gg.ok.mono (by omega))).setCell hBg _, by rw [HCO.out]; exact Nat.le_trans hzX gg.ok.size⟩ ?_
          rintro Y ⟨r1, hmY, hbY, hzY⟩
          clear z6 zf hcg
          have hkY : k < (q.cells.set k { x with owed := SUM }).length := by simpa using hkq
          have HXY := Lib.hid (show (q.cells.set k { x with owed := SUM })[k]? = some { x with owed := SUM } from List.getElem?_set_self hkq)
          obtain ⟨_, cuy, hge, _, hcy, _, _, _, _, _, _, c6⟩ := hmY.at hkY
          cases hge
          rw [List.getElem_set_self] at c6
          have hqq := HL.out
          by_cases hpos : 0 < L
          · have hlt1 : decide (0 < L) = true := by simp [hpos]
            obtain ⟨s0, s1, s2, s3⟩ := share_bd HOK.out (show 0 ≤ L by omega) hlb4
            obtain ⟨T, hT⟩ : ∃ T, T = shareH x L := ⟨_, rfl⟩
            have HTT := Lib.hid (show shareH x L = T from hT.symm)
            have HOUT := fun (W : World) (h : Mine 25 B W (.slice (some ⟨g, 0, none⟩) p.cells.length cp) (q.cells.set k { x with owed := SUM })) => f_outY h HXY.out (show okC { x with owed := SUM } from HOK.out) L (show 1 ≤ L by omega) hlb4
            rw [show shareH { x with owed := SUM } L = T from hT.symm] at HOUT
            rw [← hT] at s0 s1 s2 s3
            clear hT
            go_upto_region 11 with fail
            try rw [HL.out]
            clear hqq c6 hlt1
            refine at_world (S := fun X => Blk X s #[.slice (some ⟨g, 0, none⟩) p.cells.length cp, .int .i64 (q.bottles), .int .i64 (q.inH), .int .i64 (q.inA), .int .i64 (q.vH), .int .i64 (q.vA), .int .i64 (q.lH), .int .i64 (q.lA), .int .i64 (q.pH), .int .i64 (q.pA)] 174 ∧ Mine 25 B X (.slice (some ⟨g, 0, none⟩) p.cells.length cp) (q.cells.set k { x with owed := SUM }) ∧ Below B w X ∧ w.heap.size ≤ X.heap.size) ⟨r1, hmY, hbY, hzY⟩ ?_
            rintro X ⟨r1, hmX, hbX, hzX⟩
            refine held_walk (fun w' => Blk w' s #[.slice (some ⟨g, 0, none⟩) p.cells.length cp, .int .i64 (q.bottles), .int .i64 (q.inH), .int .i64 (q.inA), .int .i64 (q.vH), .int .i64 (q.vA), .int .i64 (q.lH), .int .i64 (q.lA), .int .i64 (q.pH), .int .i64 (q.pA)] 174) [(true, 0), (true, 1), (true, 2), (true, 3), (true, 4), (true, 5), (true, 6), (true, 7), (false, 8), (false, 9), (true, 10), (true, 11), (true, 12), (false, 13)] 13 (by kernel_rfl) (by kernel_rfl) (fun c a d v w h => by cases d <;> exact h) r1.drew ?_
            simp only [List.filterMap_cons, List.filterMap_nil, List.getElem?_cons_zero, List.getElem?_cons_succ, Option.map_some]
            iterate 8 ((first | (refine held_take ?_ ?_ (fun w' hS => ?_) ?_; rotate_left 1; (focus rfl); (focus (first | (go_simp; done) | (go_simp; with_reducible rfl) | (obtain hS := hS; have k0 := hS.cell 0; have k1 := hS.cell 1; have k2 := hS.cell 2; have k3 := hS.cell 3; have k4 := hS.cell 4; have k5 := hS.cell 5; have k6 := hS.cell 6; have k7 := hS.cell 7; have k8 := hS.cell 8; have k9 := hS.cell 9; simp at k0 k1 k2 k3 k4 k5 k6 k7 k8 k9; first | (go_simp; done) | (go_simp; with_reducible rfl))))) | (refine held_pass ?_ ?_; (focus rfl))); simp only [Act.put, List.setIfInBounds_toArray, List.set_cons_zero, List.set_cons_succ])
            refine held_one ?_
            refine wpList_plain rfl fun K1 hK1 => ?_
            go_wp2_with (go_at_call 136; (with_reducible refine (HOUT _ hmX.drew).mono ?_); rintro e w2 ⟨rfl, hm2, hw2, hbes2⟩)
            refine held_on (Besides.blk hbes2 (by decide) r1.drew) ?_
            refine held_one ?_
            refine wpList_plain rfl fun K1 hK1 => ?_
            go_wp2_with (go_at_call 123; (with_reducible refine (f_plus _ _ _ _ _ (by omega) (by omega) (by omega) (by omega)).mono ?_); rintro e w3 ⟨rfl, hb3⟩)
            refine held_on ((Besides.blk hbes2 (by decide) r1.drew).keep hb3) ?_
            iterate 3 ((first | (refine held_take ?_ ?_ (fun w' hS => ?_) ?_; rotate_left 1; (focus rfl); (focus (first | (go_simp; done) | (go_simp; with_reducible rfl) | (obtain hS := hS; have k0 := hS.cell 0; have k1 := hS.cell 1; have k2 := hS.cell 2; have k3 := hS.cell 3; have k4 := hS.cell 4; have k5 := hS.cell 5; have k6 := hS.cell 6; have k7 := hS.cell 7; have k8 := hS.cell 8; have k9 := hS.cell 9; simp at k0 k1 k2 k3 k4 k5 k6 k7 k8 k9; first | (go_simp; done) | (go_simp; with_reducible rfl))))) | (refine held_pass ?_ ?_; (focus rfl))); simp only [Act.put, List.setIfInBounds_toArray, List.set_cons_zero, List.set_cons_succ])
            refine held_one ?_
            refine wpList_plain rfl fun K1 hK1 => ?_
            have z1 : Blk w3 s #[.slice (some ⟨g, 0, none⟩) p.cells.length cp, .int .i64 (q.bottles), .int .i64 (q.inH), .int .i64 (q.inA), .int .i64 (q.vH), .int .i64 (q.vA), .int .i64 (q.lH), .int .i64 (q.lA), .int .i64 (q.pH), .int .i64 (q.pA)] 174 := (Besides.blk hbes2 (by decide) r1.drew).keep hb3
            have z1c0 := z1.cell 0
            have z1f0 := z1.free 0
            have z1c1 := z1.cell 1
            have z1f1 := z1.free 1
            have z1c2 := z1.cell 2
            have z1f2 := z1.free 2
            have z1c3 := z1.cell 3
            have z1f3 := z1.free 3
            have z1c4 := z1.cell 4
            have z1f4 := z1.free 4
            have z1c5 := z1.cell 5
            have z1f5 := z1.free 5
            have z1c6 := z1.cell 6
            have z1f6 := z1.free 6
            have z1c7 := z1.cell 7
            have z1f7 := z1.free 7
            have z1c8 := z1.cell 8
            have z1f8 := z1.free 8
            have z1c9 := z1.cell 9
            have z1f9 := z1.free 9
            have z1l := z1.lt
            simp at z1c0 z1c1 z1c2 z1c3 z1c4 z1c5 z1c6 z1c7 z1c8 z1c9
            go_wp2
            (first | refine held_end ?_ | (refine onward_on ?_; first | refine held_nil ?_ | refine ⟨.inl trivial, held_nil ?_⟩ | refine ⟨.inl rfl, held_nil ?_⟩))
            go_upto_region 12 with fail
            have e1 : X.heap.size ≤ w2.heap.size := hw2.size
            have e2 := hb3.size
            refine at_world (S := fun Z => Blk Z s #[.slice (some ⟨g, 0, none⟩) p.cells.length cp, .int .i64 (q.bottles), .int .i64 (q.inH), .int .i64 (q.inA), .int .i64 (q.vH), .int .i64 (q.vA), .int .i64 (q.lH + T), .int .i64 (q.lA + (L - T)), .int .i64 (q.pH), .int .i64 (q.pA)] 174 ∧ Mine 25 B Z (.slice (some ⟨g, 0, none⟩) p.cells.length cp) ((q.cells.set k { x with owed := SUM }).set k (less { x with owed := SUM } L)) ∧ Below B w Z ∧ w.heap.size ≤ Z.heap.size) ⟨(z1.set 6 _).set 7 _, ((hm2.keep hb3).other z1 (by decide) _).other (z1.set 6 _) (by decide) _, (((((hbX.drew).trans hw2).trans (hb3.mono (by omega))).setCell hB _).setCell hB _), by simp [World.setCell]; omega⟩ ?_
            rintro Z ⟨r1, hmZ, hbZ, hzZ⟩
            clear z1c0 z1f0 z1c1 z1f1 z1c2 z1f2 z1c3 z1f3 z1c4 z1f4 z1c5 z1f5 z1c6 z1f6 z1c7 z1f7 z1c8 z1f8 z1c9 z1f9 z1l
            have hkZ : k < ((q.cells.set k { x with owed := SUM }).set k (less { x with owed := SUM } L)).length := by simpa using hkq
            obtain ⟨_, cuz, hge, _, hcz, _, _, _, _, _, _, c6⟩ := hmZ.at hkZ
            cases hge
            rw [List.getElem_set_self] at c6
            have d6 : Z.cell? ⟨g, k * 7 + 6, none⟩ = some (.int .i64 SUM) := c6
            clear c6
            have zf := hcz.free (k * 7 + 6)
            go_wp2
            go_roundw
            case rel =>
              refine ⟨k + 1, by omega, by go_num, ?_, ?_, hbZ.setCell hBg _, by simpa [World.setCell] using hzZ⟩
              · rw [HNX.out]
                exact (r1.other (a := ⟨g, k * 7 + 6, none⟩) (fun he => by simp only at he; subst he; have := r1.symm.trans hcz; simp at this) _).cast (by simp [leakAt, HAT.out, ← HLL.out, HTT.out])
              · have q1 := hmZ.put (i := k) (j := 6) (c := less { x with owed := SUM } L) (u := .int .i64 (SUM % 1000000)) { less { x with owed := SUM } L with owed := SUM % 1000000 } (List.getElem?_set_self (by simpa using hkq)) (by decide) rfl
                rw [List.set_set, List.set_set] at q1
                rw [HNX.out]
                have e : leakC x = { less { x with owed := SUM } L with owed := SUM % 1000000 } := by
                  unfold leakC
                  rw [HSU.out, ← HLL.out]
                  rfl
                have ec : (leakAt q k).cells = q.cells.set k (leakC x) := by simp [leakAt, HAT.out]
                rw [ec, e]
                exact q1
            case measure => simp [intOf]; omega
          · have hlt1 : decide (0 < L) = false := by simp; omega
            obtain ⟨e1, e2⟩ := hsmall.out hpos
            have HL0 := Lib.hid e1
            have HE2 := Lib.hid e2
            clear e1 e2
            go_wp2
            go_roundw
            case rel => exact ⟨k + 1, by omega, by go_num, by rw [HNX.out]; exact r1.cast (by simp [leakAt, HAT.out, ← HLL.out, HL0.out, shareH]), by rw [HNX.out]; simpa [leakAt, HAT.out, HE2.out] using hmY, hbY, hzY⟩
            case measure => simp [intOf]; omega
        · obtain rfl : k = p.cells.length := by omega
          clear HNX
          go_wp2
          go_roundw
          case rel => exact ⟨j + 1, by omega, by go_num, by rw [hq] at r0; exact r0, by rw [hq] at hmW; exact hmW, hbW, hzW⟩
          case measure => simp [intOf]; omega
    · obtain rfl : j = N := by omega
      go_wp2
      go_end0
      exact ⟨rfl, ⟨hB, r0.cast (by simp [plantCells, tickP, HN.out, HLEN.out]), by simpa [tickP, HN.out, HLEN.out] using hmW⟩, hbW⟩

end Go.Proofs.Ytemafanncejeiaa

/-
  The reference: twins, ticks.
-/
namespace Go.Proofs.Ytemafanncejeiaa
open Go.RowKit Bal Bal.Trim Bal.Gas
set_option linter.unusedVariables false
set_option linter.unusedSimpArgs false
set_option maxHeartbeats 8000000
set_option maxRecDepth 100000

/-- THE COPY OF A LIST: append to an empty slice of the call's own; what is beside it stays -/
theorem wpList_copyO {α : Type} {enc : α → List Value} {P : Program} {w0 w : World} {ops : Array Oper} {rest : List Oper} {o : Oper} {a : Act} {Q : Exit → Act → World → Prop} (hgd : o.guard = none) (s x : Operand) (t : TypeId)
    (ho : o.op = .call { callee := .builtin .append, args := #[s, x], argTypes := #[t, t] })
    (base : Nat) (e : TypeId) (z : Value) (size bytes : Nat) (ht : P.underlying t = some (.slice e)) (hinfo : (P.info? e).map (fun i => (i.zero, i.size, i.bytes)) = some (some z, size, bytes))
    (hzs : z.cells.size = size) (hsz : 0 < size) (he : ∀ x : α, (enc x).length = size) (h1 : ∀ (x : α), ∀ u ∈ enc x, u.oneCell' = true)
    (n : Nat) (hn : n = w.heap.size) (hs : a.eval s = .slice (some ⟨n, 0, none⟩) 0 0)
    (ad : Option Addr) (c : Nat) (ys : List α) (hx : a.eval x = .slice ad ys.length c) (hc : ad = none → c = 0) (hrow : Row enc size w0.heap.size w0 ad ys) (hk : Kept w0 w) (hbase : base = w0.heap.size)
    (h63 : ys.length ≤ 1000000) (hbytes : bytes ≤ 100000)
    (h : ∀ ad' cp w', w'.ownsRow base e size (.slice ad' ys.length cp) ys.length (ys.flatMap enc) → (∀ b arr t', t' ≠ e → Blk w b arr t' → Blk w' b arr t') → Kept w0 w' → wpList P ops Q rest (a.put o.dst (.slice ad' ys.length cp)) w') :
    wpList P ops Q (o :: rest) a (w.alloc (.cells #[] e)) := by
  subst hbase
  obtain ⟨i, hi, hz, hsize, hby⟩ := info_parts hinfo
  have hsz0 := hk.size
  have hown0 : (w.alloc (.cells #[] e)).ownsRow w0.heap.size e size (.slice (some ⟨n, 0, none⟩) 0 0) ([] : List α).length (([] : List α).flatMap enc) := owns_made hn hsz0
  have hm : ys.length * bytes ≤ 1000000 * 100000 := Nat.mul_le_mul h63 hbytes
  refine wpList_append_list hgd s x t ho w0.heap.size e i z size bytes ht hi hz hsize hby hzs hsz he h1 _ [] hs hown0 ad c ys hx hc (hrow.keep (Kept.alloc hk _) (Nat.le_refl _)) (by simp [maxLen]; omega) (by simp; omega) (by show w0.heap.size ≤ (w.heap.push _).size; simp; omega) ?_
  intro v' w' hown hgrow
  have hk' : Kept w0 w' := Kept.grown (Kept.alloc hk _) hown0 (Nat.le_refl _) hgrow
  rw [List.nil_append] at hown
  obtain ⟨ad', cp', rfl, _⟩ := Row.of_owns he hown
  exact h ad' cp' w' hown (fun b arr t' hne hb => Blk.grown (hb.alloc _) hown0 hne hgrow) hk'

end Go.Proofs.Ytemafanncejeiaa

/-
  The program: Do, the closure that recovers.
-/
namespace Go.Proofs.Ytemafanncejeiaa
open Go.RowKit Bal Bal.Trim Bal.Gas
set_option linter.unusedVariables false
set_option linter.unusedSimpArgs false
set_option maxHeartbeats 8000000
set_option maxRecDepth 100000

theorem catch_idle (p q : Addr) (w : World) :
    CallsD Try.prog 105 #[.pointer (some p), .pointer (some q)] .returning w fun e u' w' => e = .returned (.tuple #[]) ∧ u' = .returning ∧ w' = w := by
  refine callsD_of_wpS Try.func105 rfl fun c₀ cs hu => ?_
  apply wpS_seq
  apply wpS_region
  simp [wpOpsS, go_sem, recoverD, hu, Try.ntmps105, Exit.thenS]
  refine wpS_of_wp ?_
  show Code.wp _ _ _ { tmps := #[.pointer (some p), .pointer (some q), .nilIface, .nilIface, undef, undef, undef, undef, undef, undef], defers := [] } w
  go_wp2
  exact ⟨rfl, .returning, by cases c₀; simp_all, .tuple #[], by simp [results, Try.results105, go_sem], rfl, rfl, rfl⟩
theorem catch_panics (b1 b2 : Nat) (n : Int) (w : World) (h1 : Blk w b1 #[.slice none 0 0, .int .i64 0, .int .i64 0, .int .i64 0, .int .i64 0, .int .i64 0, .int .i64 0, .int .i64 0, .int .i64 0, .int .i64 0] 63) (h2 : Blk w b2 #[.int .i64 0] 28) :
    CallsD Try.prog 105 #[.pointer (some ⟨b1, 0, none⟩), .pointer (some ⟨b2, 0, none⟩)] (.panicking [{ v := refusal n, recovered := false }]) w fun e u' w' => e = .returned (.tuple #[]) ∧ u' = .panicking [{ v := refusal n, recovered := true }] ∧
      Blk w' b1 #[.slice none 0 0, .int .i64 0, .int .i64 0, .int .i64 0, .int .i64 0, .int .i64 0, .int .i64 0, .int .i64 0, .int .i64 0, .int .i64 0] 63 ∧ Blk w' b2 #[.int .i64 n] 28 ∧ (∀ B, B ≤ b1 → B ≤ b2 → Below B w w') := by
  have hta : ∀ w : World, (Instr.typeAssert (.iface 167 (.agg #[.int .i64 n])) 20 167 false).run Try.prog w = .ok (.agg #[.int .i64 n]) w := fun w => by kernel_rfl
  have hfd : ∀ w : World, (Instr.field 167 (.agg #[.int .i64 n]) 0).run Try.prog w = .ok (.int .i64 n) w := fun w => by kernel_rfl
  refine callsD_of_wpS Try.func105 rfl fun c₀ cs hu => ?_
  apply wpS_seq
  apply wpS_region
  simp [wpOpsS, go_sem, recoverD, hu, Try.ntmps105, Exit.thenS]
  refine wpS_of_wp ?_
  show Code.wp _ _ _ { tmps := #[.pointer (some ⟨b1, 0, none⟩), .pointer (some ⟨b2, 0, none⟩), .iface 167 (.agg #[.int .i64 n]), .iface 167 (.agg #[.int .i64 n]), undef, undef, undef, undef, undef, undef], defers := [] } w
  go_wp2
  have h1c0 := h1.cell 0
  have h1f0 := h1.free 0
  have h1c1 := h1.cell 1
  have h1f1 := h1.free 1
  have h1c2 := h1.cell 2
  have h1f2 := h1.free 2
  have h1c3 := h1.cell 3
  have h1f3 := h1.free 3
  have h1c4 := h1.cell 4
  have h1f4 := h1.free 4
  have h1c5 := h1.cell 5
  have h1f5 := h1.free 5
  have h1c6 := h1.cell 6
  have h1f6 := h1.free 6
  have h1c7 := h1.cell 7
  have h1f7 := h1.free 7
  have h1c8 := h1.cell 8
  have h1f8 := h1.free 8
  have h1c9 := h1.cell 9
  have h1f9 := h1.free 9
  have h1l := h1.lt
  simp at h1c0 h1c1 h1c2 h1c3 h1c4 h1c5 h1c6 h1c7 h1c8 h1c9
  have h2c0 := h2.cell 0
  have h2f0 := h2.free 0
  have h2l := h2.lt
  simp at h2c0
  have hne : b1 ≠ b2 := fun he => by subst he; have := h1.symm.trans h2; simp at this
  go_region
  refine ⟨rfl, .panicking [{ v := refusal n, recovered := true }], rfl, .tuple #[], by simp [results, Try.results105, go_sem], rfl, rfl, ?_, ?_, fun B k1 k2 => ?_⟩
  · exact (Blk.drew ((((((((((((h1).set 0 _).set 1 _).set 2 _).set 3 _).set 4 _).set 5 _).set 6 _).set 7 _).set 8 _).set 9 _).other (by simp; omega) _)).cast (by simp)
  · exact (Blk.drew ((((((((((((h2).other (by simp; omega) _).other (by simp; omega) _).other (by simp; omega) _).other (by simp; omega) _).other (by simp; omega) _).other (by simp; omega) _).other (by simp; omega) _).other (by simp; omega) _).other (by simp; omega) _).other (by simp; omega) _).set 0 _)).cast (by simp)
  · exact Below.drew (((((((((((((Below.refl B w)).setCell k1 _).setCell k1 _).setCell k1 _).setCell k1 _).setCell k1 _).setCell k1 _).setCell k1 _).setCell k1 _).setCell k1 _).setCell k1 _).setCell k2 _)

end Go.Proofs.Ytemafanncejeiaa

/-
  The program: Do, its early ends.
-/
namespace Go.Proofs.Ytemafanncejeiaa
open Go.RowKit Bal Bal.Trim Bal.Gas
set_option linter.unusedVariables false
set_option linter.unusedSimpArgs false
set_option maxHeartbeats 8000000
set_option maxRecDepth 100000

theorem f_Do_bad (p : Plant) (d : Deed) (a : Option Addr) (cap : Nat) (w : World) (hx : Row Cell.cells 7 w.heap.size w a p.cells) (hc : p.cells.length ≤ cap) (hM : cap ≤ maxLen) (hz : a = none → cap = 0) (hp : plantB p = false) : Calls Try.prog 48 #[.agg #[.slice a p.cells.length cap, .int .i64 p.bottles, .int .i64 p.inH, .int .i64 p.inA, .int .i64 p.vH, .int .i64 p.vA, .int .i64 p.lH, .int .i64 p.lA, .int .i64 p.pH, .int .i64 p.pA], .agg #[.int .u8 d.kind, .int .i64 d.cell, .int .i64 d.to, .int .i64 d.n]] w fun e w' => e = .returned (.tuple #[.agg #[.slice none 0 0, .int .i64 0, .int .i64 0, .int .i64 0, .int .i64 0, .int .i64 0, .int .i64 0, .int .i64 0, .int .i64 0, .int .i64 0], .int .i64 32]) ∧ Kept w w' := by
  have HP := Lib.hid (show plantE p = 32 by simp [plantE, hp])
  clear hp
  go_enter_defers Try.func48, Try.ntmps48
  go_upto_region 3 with (go_at_call 50; (with_reducible refine (f_Check p a cap _ (hx.later (by (exact kpt)) (Nat.le_refl _)) hc hM).mono ?_); rw [HP.out]; rintro e w1 ⟨rfl, hb1⟩; refine Blk.thru (b := w.heap.size) (arr := ?_) (t := ?_) ?_ hb1 ?_; rotate_left 2; (focus (exact blk)); intro rr; have rrc0 := rr.cell 0; have rrf0 := rr.free 0; have rrc1 := rr.cell 1; have rrf1 := rr.free 1; have rrc2 := rr.cell 2; have rrf2 := rr.free 2; have rrc3 := rr.cell 3; have rrf3 := rr.free 3; have rrc4 := rr.cell 4; have rrf4 := rr.free 4; have rrc5 := rr.cell 5; have rrf5 := rr.free 5; have rrc6 := rr.cell 6; have rrf6 := rr.free 6; have rrc7 := rr.cell 7; have rrf7 := rr.free 7; have rrc8 := rr.cell 8; have rrf8 := rr.free 8; have rrc9 := rr.cell 9; have rrf9 := rr.free 9; have rrl := rr.lt; simp at rrc0 rrc1 rrc2 rrc3 rrc4 rrc5 rrc6 rrc7 rrc8 rrc9; refine Blk.thru (b := (w.heap.size + 1)) (arr := ?_) (t := ?_) ?_ hb1 ?_; rotate_left 2; (focus (exact blk)); intro rq; have rqc0 := rq.cell 0; have rqf0 := rq.free 0; have rqc1 := rq.cell 1; have rqf1 := rq.free 1; have rqc2 := rq.cell 2; have rqf2 := rq.free 2; have rqc3 := rq.cell 3; have rqf3 := rq.free 3; have rql := rq.lt; simp at rqc0 rqc1 rqc2 rqc3)
  refine at_world (S := fun W => Blk W w.heap.size #[.slice a p.cells.length cap, .int .i64 p.bottles, .int .i64 p.inH, .int .i64 p.inA, .int .i64 p.vH, .int .i64 p.vA, .int .i64 p.lH, .int .i64 p.lA, .int .i64 p.pH, .int .i64 p.pA] 63 ∧ Blk W (w.heap.size + 1) #[.int .u8 d.kind, .int .i64 d.cell, .int .i64 d.to, .int .i64 d.n] 65 ∧ Blk W (w.heap.size + 1 + 1) #[.slice none 0 0, .int .i64 0, .int .i64 0, .int .i64 0, .int .i64 0, .int .i64 0, .int .i64 0, .int .i64 0, .int .i64 0, .int .i64 0] 63 ∧ Blk W (w.heap.size + 1 + 1 + 1) #[.int .i64 0] 28 ∧ Kept w W) ⟨by (exact blkc), by (exact blkc), by (exact blkc), by (exact blkc), by (exact kpt)⟩ ?_
  rintro W ⟨b0, b1, b2, b3, hk⟩
  have b0c0 := b0.cell 0
  have b0f0 := b0.free 0
  have b0c1 := b0.cell 1
  have b0f1 := b0.free 1
  have b0c2 := b0.cell 2
  have b0f2 := b0.free 2
  have b0c3 := b0.cell 3
  have b0f3 := b0.free 3
  have b0c4 := b0.cell 4
  have b0f4 := b0.free 4
  have b0c5 := b0.cell 5
  have b0f5 := b0.free 5
  have b0c6 := b0.cell 6
  have b0f6 := b0.free 6
  have b0c7 := b0.cell 7
  have b0f7 := b0.free 7
  have b0c8 := b0.cell 8
  have b0f8 := b0.free 8
  have b0c9 := b0.cell 9
  have b0f9 := b0.free 9
  have b0l := b0.lt
  simp at b0c0 b0c1 b0c2 b0c3 b0c4 b0c5 b0c6 b0c7 b0c8 b0c9
  have b1c0 := b1.cell 0
  have b1f0 := b1.free 0
  have b1c1 := b1.cell 1
  have b1f1 := b1.free 1
  have b1c2 := b1.cell 2
  have b1f2 := b1.free 2
  have b1c3 := b1.cell 3
  have b1f3 := b1.free 3
  have b1l := b1.lt
  simp at b1c0 b1c1 b1c2 b1c3
  have b2c0 := b2.cell 0
  have b2f0 := b2.free 0
  have b2c1 := b2.cell 1
  have b2f1 := b2.free 1
  have b2c2 := b2.cell 2
  have b2f2 := b2.free 2
  have b2c3 := b2.cell 3
  have b2f3 := b2.free 3
  have b2c4 := b2.cell 4
  have b2f4 := b2.free 4
  have b2c5 := b2.cell 5
  have b2f5 := b2.free 5
  have b2c6 := b2.cell 6
  have b2f6 := b2.free 6
  have b2c7 := b2.cell 7
  have b2f7 := b2.free 7
  have b2c8 := b2.cell 8
  have b2f8 := b2.free 8
  have b2c9 := b2.cell 9
  have b2f9 := b2.free 9
  have b2l := b2.lt
  simp at b2c0 b2c1 b2c2 b2c3 b2c4 b2c5 b2c6 b2c7 b2c8 b2c9
  have b3c0 := b3.cell 0
  have b3f0 := b3.free 0
  have b3l := b3.lt
  simp at b3c0
  go_wp2
  exact (show ∃ v, (results _ _).run _ _ = .ok v _ ∧ _ from ⟨.tuple #[.agg #[.slice none 0 0, .int .i64 0, .int .i64 0, .int .i64 0, .int .i64 0, .int .i64 0, .int .i64 0, .int .i64 0, .int .i64 0, .int .i64 0], .int .i64 32], by simp [results, Try.results48, go_sem, b2c0, b2f0, b2c1, b2f1, b2c2, b2f2, b2c3, b2f3, b2c4, b2f4, b2c5, b2f5, b2c6, b2f6, b2c7, b2f7, b2c8, b2f8, b2c9, b2f9, b3c0, b3f0], rfl, by (exact kpt)⟩)
theorem f_Do_kind (p : Plant) (d : Deed) (a : Option Addr) (cap : Nat) (w : World) (hx : Row Cell.cells 7 w.heap.size w a p.cells) (hc : p.cells.length ≤ cap) (hM : cap ≤ maxLen) (hz : a = none → cap = 0) (hp : plantB p = true) (hk0 : -9223372036854775808 ≤ d.kind ∧ d.kind ≤ 9223372036854775807) (hk : inB d.kind 1 7 = false) : Calls Try.prog 48 #[.agg #[.slice a p.cells.length cap, .int .i64 p.bottles, .int .i64 p.inH, .int .i64 p.inA, .int .i64 p.vH, .int .i64 p.vA, .int .i64 p.lH, .int .i64 p.lA, .int .i64 p.pH, .int .i64 p.pA], .agg #[.int .u8 d.kind, .int .i64 d.cell, .int .i64 d.to, .int .i64 d.n]] w fun e w' => e = .returned (.tuple #[.agg #[.slice none 0 0, .int .i64 0, .int .i64 0, .int .i64 0, .int .i64 0, .int .i64 0, .int .i64 0, .int .i64 0, .int .i64 0, .int .i64 0], .int .i64 2]) ∧ Kept w w' := by
  have HP := Lib.hid (show plantE p = 0 by simp [plantE, hp])
  have H1 := Lib.hid (show rng [d.kind] 1 7 = false by simpa [rng] using hk)
  have hw := i64_inx hk0
  clear hp hk
  have hmf : ∀ (fn : Fn) (first cap : Array Value) (w : World), (Instr.makeFunc fn first cap).run Try.prog w = .ok (.func fn first cap) w := fun _ _ _ _ => rfl
  go_enter_defers Try.func48, Try.ntmps48
  go_upto_region 4 with (go_at_call 50; (with_reducible refine (f_Check p a cap _ (hx.later (by (exact kpt)) (Nat.le_refl _)) hc hM).mono ?_); rw [HP.out]; rintro e w1 ⟨rfl, hb1⟩; refine Blk.thru (b := w.heap.size) (arr := ?_) (t := ?_) ?_ hb1 ?_; rotate_left 2; (focus (exact blk)); intro rr; have rrc0 := rr.cell 0; have rrf0 := rr.free 0; have rrc1 := rr.cell 1; have rrf1 := rr.free 1; have rrc2 := rr.cell 2; have rrf2 := rr.free 2; have rrc3 := rr.cell 3; have rrf3 := rr.free 3; have rrc4 := rr.cell 4; have rrf4 := rr.free 4; have rrc5 := rr.cell 5; have rrf5 := rr.free 5; have rrc6 := rr.cell 6; have rrf6 := rr.free 6; have rrc7 := rr.cell 7; have rrf7 := rr.free 7; have rrc8 := rr.cell 8; have rrf8 := rr.free 8; have rrc9 := rr.cell 9; have rrf9 := rr.free 9; have rrl := rr.lt; simp at rrc0 rrc1 rrc2 rrc3 rrc4 rrc5 rrc6 rrc7 rrc8 rrc9; refine Blk.thru (b := (w.heap.size + 1)) (arr := ?_) (t := ?_) ?_ hb1 ?_; rotate_left 2; (focus (exact blk)); intro rq; have rqc0 := rq.cell 0; have rqf0 := rq.free 0; have rqc1 := rq.cell 1; have rqf1 := rq.free 1; have rqc2 := rq.cell 2; have rqf2 := rq.free 2; have rqc3 := rq.cell 3; have rqf3 := rq.free 3; have rql := rq.lt; simp at rqc0 rqc1 rqc2 rqc3)
  refine at_world (S := fun W => Blk W w.heap.size #[.slice a p.cells.length cap, .int .i64 p.bottles, .int .i64 p.inH, .int .i64 p.inA, .int .i64 p.vH, .int .i64 p.vA, .int .i64 p.lH, .int .i64 p.lA, .int .i64 p.pH, .int .i64 p.pA] 63 ∧ Blk W (w.heap.size + 1) #[.int .u8 d.kind, .int .i64 d.cell, .int .i64 d.to, .int .i64 d.n] 65 ∧ Blk W (w.heap.size + 1 + 1) #[.slice none 0 0, .int .i64 0, .int .i64 0, .int .i64 0, .int .i64 0, .int .i64 0, .int .i64 0, .int .i64 0, .int .i64 0, .int .i64 0] 63 ∧ Blk W (w.heap.size + 1 + 1 + 1) #[.int .i64 0] 28 ∧ Kept w W) ⟨by (exact blkc), by (exact blkc), by (exact blkc), by (exact blkc), by (exact kpt)⟩ ?_
  rintro W ⟨b0, b1, b2, b3, hk⟩
  have b0c0 := b0.cell 0
  have b0f0 := b0.free 0
  have b0c1 := b0.cell 1
  have b0f1 := b0.free 1
  have b0c2 := b0.cell 2
  have b0f2 := b0.free 2
  have b0c3 := b0.cell 3
  have b0f3 := b0.free 3
  have b0c4 := b0.cell 4
  have b0f4 := b0.free 4
  have b0c5 := b0.cell 5
  have b0f5 := b0.free 5
  have b0c6 := b0.cell 6
  have b0f6 := b0.free 6
  have b0c7 := b0.cell 7
  have b0f7 := b0.free 7
  have b0c8 := b0.cell 8
  have b0f8 := b0.free 8
  have b0c9 := b0.cell 9
  have b0f9 := b0.free 9
  have b0l := b0.lt
  simp at b0c0 b0c1 b0c2 b0c3 b0c4 b0c5 b0c6 b0c7 b0c8 b0c9
  have b1c0 := b1.cell 0
  have b1f0 := b1.free 0
  have b1c1 := b1.cell 1
  have b1f1 := b1.free 1
  have b1c2 := b1.cell 2
  have b1f2 := b1.free 2
  have b1c3 := b1.cell 3
  have b1f3 := b1.free 3
  have b1l := b1.lt
  simp at b1c0 b1c1 b1c2 b1c3
  have b2c0 := b2.cell 0
  have b2f0 := b2.free 0
  have b2c1 := b2.cell 1
  have b2f1 := b2.free 1
  have b2c2 := b2.cell 2
  have b2f2 := b2.free 2
  have b2c3 := b2.cell 3
  have b2f3 := b2.free 3
  have b2c4 := b2.cell 4
  have b2f4 := b2.free 4
  have b2c5 := b2.cell 5
  have b2f5 := b2.free 5
  have b2c6 := b2.cell 6
  have b2f6 := b2.free 6
  have b2c7 := b2.cell 7
  have b2f7 := b2.free 7
  have b2c8 := b2.cell 8
  have b2f8 := b2.free 8
  have b2c9 := b2.cell 9
  have b2f9 := b2.free 9
  have b2l := b2.lt
  simp at b2c0 b2c1 b2c2 b2c3 b2c4 b2c5 b2c6 b2c7 b2c8 b2c9
  have b3c0 := b3.cell 0
  have b3f0 := b3.free 0
  have b3l := b3.lt
  simp at b3c0
  go_wp2_with (first | (go_at_call 91; (with_reducible refine (f_ranged1 _ _ d.kind _ _ _ (by simp)).mono ?_); rw [H1.out]; rintro e w1 ⟨rfl, rfl⟩) | (go_at_call 113; (with_reducible refine (f_need_no _ _).mono ?_); rintro e w1 ⟨rfl, rfl⟩))
  refine leaves_cons (f := 105) (args := #[.pointer (some ⟨w.heap.size + 1 + 1, 0, none⟩), .pointer (some ⟨w.heap.size + 1 + 1 + 1, 0, none⟩)]) (by simp) (by simp [go_sem]) ?_
  refine (catch_panics _ _ 2 _ (by (exact blkc)) (by (exact blkc))).mono ?_
  rintro e u' w'' ⟨rfl, rfl, k1, k2, kb⟩
  have k1c0 := k1.cell 0
  have k1f0 := k1.free 0
  have k1c1 := k1.cell 1
  have k1f1 := k1.free 1
  have k1c2 := k1.cell 2
  have k1f2 := k1.free 2
  have k1c3 := k1.cell 3
  have k1f3 := k1.free 3
  have k1c4 := k1.cell 4
  have k1f4 := k1.free 4
  have k1c5 := k1.cell 5
  have k1f5 := k1.free 5
  have k1c6 := k1.cell 6
  have k1f6 := k1.free 6
  have k1c7 := k1.cell 7
  have k1f7 := k1.free 7
  have k1c8 := k1.cell 8
  have k1f8 := k1.free 8
  have k1c9 := k1.cell 9
  have k1f9 := k1.free 9
  have k1l := k1.lt
  simp at k1c0 k1c1 k1c2 k1c3 k1c4 k1c5 k1c6 k1c7 k1c8 k1c9
  have k2c0 := k2.cell 0
  have k2f0 := k2.free 0
  have k2l := k2.lt
  simp at k2c0
  exact (show ∃ v, (results _ _).run _ _ = .ok v _ ∧ _ from ⟨.tuple #[.agg #[.slice none 0 0, .int .i64 0, .int .i64 0, .int .i64 0, .int .i64 0, .int .i64 0, .int .i64 0, .int .i64 0, .int .i64 0, .int .i64 0], .int .i64 2], by simp [results, Try.results48, go_sem, k1c0, k1f0, k1c1, k1f1, k1c2, k1f2, k1c3, k1f3, k1c4, k1f4, k1c5, k1f5, k1c6, k1f6, k1c7, k1f7, k1c8, k1f8, k1c9, k1f9, k2c0, k2f0], rfl, by exact Below.trans (by (exact kpt)) (kb _ (by omega) (by omega))⟩)

end Go.Proofs.Ytemafanncejeiaa

/-
  The program's acts by their error.
-/
namespace Go.Proofs.Ytemafanncejeiaa
open Go.RowKit Bal Bal.Trim Bal.Gas
set_option linter.unusedVariables false
set_option linter.unusedSimpArgs false
set_option maxHeartbeats 4000000

theorem act1_no {B s cp : Nat} {ad : Option Addr} {p : Plant} {w : World} (d : Deed) (h : Shop 25 174 B w s ad cp p) (hp : plantB p = true) (hk : d.kind = 1) (he : errA p d ≠ 0) : Calls Try.prog 106 #[.pointer (some ⟨s, 0, none⟩), .agg #[.int .u8 d.kind, .int .i64 d.cell, .int .i64 d.to, .int .i64 d.n]] w fun e w' => e = .panicked [{ v := refusal (errA p d), recovered := false }] ∧ Kept w w' := by
  cases h1 : rng [d.n] 1 10000000
  · rw [show errA p d = 2 by simp [errA, hk, *]]
    exact f_buy_no d h hp h1
  · exact absurd (by simp [errA, hk, *]) he
theorem act1_ok {B s cp : Nat} {ad : Option Addr} {p : Plant} {w : World} (d : Deed) (h : Shop 25 174 B w s ad cp p) (hp : plantB p = true) (hk : d.kind = 1) (he : errA p d = 0) : Calls Try.prog 106 #[.pointer (some ⟨s, 0, none⟩), .agg #[.int .u8 d.kind, .int .i64 d.cell, .int .i64 d.to, .int .i64 d.n]] w fun e w' => e = .returned (.tuple #[]) ∧ Shop 25 174 B w' s ad cp (resA p d) ∧ Below B w w' := by
  cases h1 : rng [d.n] 1 10000000
  · simp [errA, hk, h1] at he
  · rw [show resA p d = buyP p d by simp [resA, hk]]
    exact f_buy_ok d h hp h1

theorem act2_no {B s cp : Nat} {ad : Option Addr} {p : Plant} {w : World} (d : Deed) (h : Shop 25 174 B w s ad cp p) (hp : plantB p = true) (hk : d.kind = 2) (he : errA p d ≠ 0) : Calls Try.prog 107 #[.pointer (some ⟨s, 0, none⟩), .agg #[.int .u8 d.kind, .int .i64 d.cell, .int .i64 d.to, .int .i64 d.n]] w fun e w' => e = .panicked [{ v := refusal (errA p d), recovered := false }] ∧ Kept w w' := by
  cases h1 : argB p d
  · rw [show errA p d = 2 by simp [errA, hk, *]]
    exact f_fill_no1 d h hp h1
  · by_cases h2 : p.bottles < d.n
    · rw [show errA p d = 6 by simp [errA, hk, *]]
      exact f_fill_no2 d h hp h1 h2
    · exact absurd (by simp [errA, hk, *]) he
theorem act2_ok {B s cp : Nat} {ad : Option Addr} {p : Plant} {w : World} (d : Deed) (h : Shop 25 174 B w s ad cp p) (hp : plantB p = true) (hk : d.kind = 2) (he : errA p d = 0) : Calls Try.prog 107 #[.pointer (some ⟨s, 0, none⟩), .agg #[.int .u8 d.kind, .int .i64 d.cell, .int .i64 d.to, .int .i64 d.n]] w fun e w' => e = .returned (.tuple #[]) ∧ Shop 25 174 B w' s ad cp (resA p d) ∧ Below B w w' := by
  cases h1 : argB p d
  · simp [errA, hk, h1] at he
  · by_cases h2 : p.bottles < d.n
    · simp [errA, hk, h1, h2] at he
    · rw [show resA p d = fillP p d by simp [resA, hk]]
      exact f_fill_ok d h hp h1 (by omega)

theorem act3_no {B s cp : Nat} {ad : Option Addr} {p : Plant} {w : World} (d : Deed) (h : Shop 25 174 B w s ad cp p) (hp : plantB p = true) (hk : d.kind = 3) (he : errA p d ≠ 0) : Calls Try.prog 108 #[.pointer (some ⟨s, 0, none⟩), .agg #[.int .u8 d.kind, .int .i64 d.cell, .int .i64 d.to, .int .i64 d.n]] w fun e w' => e = .panicked [{ v := refusal (errA p d), recovered := false }] ∧ Kept w w' := by
  cases h1 : argB p d
  · rw [show errA p d = 2 by simp [errA, hk, *]]
    exact f_valve_no1 d h hp h1
  · by_cases h2 : amount (at_ p d) < d.n
    · rw [show errA p d = 6 by simp [errA, hk, *]]
      exact f_valve_no2 d h hp h1 h2
    · exact absurd (by simp [errA, hk, *]) he
theorem act3_ok {B s cp : Nat} {ad : Option Addr} {p : Plant} {w : World} (d : Deed) (h : Shop 25 174 B w s ad cp p) (hp : plantB p = true) (hk : d.kind = 3) (he : errA p d = 0) : Calls Try.prog 108 #[.pointer (some ⟨s, 0, none⟩), .agg #[.int .u8 d.kind, .int .i64 d.cell, .int .i64 d.to, .int .i64 d.n]] w fun e w' => e = .returned (.tuple #[]) ∧ Shop 25 174 B w' s ad cp (resA p d) ∧ Below B w w' := by
  cases h1 : argB p d
  · simp [errA, hk, h1] at he
  · by_cases h2 : amount (at_ p d) < d.n
    · simp [errA, hk, h1, h2] at he
    · rw [show resA p d = valveP p d by simp [resA, hk]]
      exact f_valve_ok d h hp h1 h2

theorem act4_no {B s cp : Nat} {ad : Option Addr} {p : Plant} {w : World} (d : Deed) (h : Shop 25 174 B w s ad cp p) (hp : plantB p = true) (hk : d.kind = 4) (he : errA p d ≠ 0) : Calls Try.prog 109 #[.pointer (some ⟨s, 0, none⟩), .agg #[.int .u8 d.kind, .int .i64 d.cell, .int .i64 d.to, .int .i64 d.n]] w fun e w' => e = .panicked [{ v := refusal (errA p d), recovered := false }] ∧ Kept w w' := by
  cases h1 : argB p d
  · rw [show errA p d = 2 by simp [errA, hk, *]]
    exact f_move_no1 d h hp h1
  · cases h2 : rng [d.to] 0 (p.cells.length - 1)
    · have h5 : toB p d = false := by simp [toB, h2]
      rw [show errA p d = 2 by simp [errA, hk, *]]
      exact f_move_no2 d h hp h1 h2
    · by_cases h3 : d.to = d.cell
      · have h5 : toB p d = false := by simp [toB, h3]
        rw [show errA p d = 2 by simp [errA, hk, *]]
        exact f_move_no3 d h hp h1 h2 h3
      · have h5 : toB p d = true := by simp [toB, h2, h3]
        by_cases h4 : amount (at_ p d) < d.n
        · rw [show errA p d = 6 by simp [errA, hk, *]]
          exact f_move_no4 d h hp h1 h2 h3 h4
        · exact absurd (by simp [errA, hk, *]) he
theorem act4_ok {B s cp : Nat} {ad : Option Addr} {p : Plant} {w : World} (d : Deed) (h : Shop 25 174 B w s ad cp p) (hp : plantB p = true) (hk : d.kind = 4) (he : errA p d = 0) : Calls Try.prog 109 #[.pointer (some ⟨s, 0, none⟩), .agg #[.int .u8 d.kind, .int .i64 d.cell, .int .i64 d.to, .int .i64 d.n]] w fun e w' => e = .returned (.tuple #[]) ∧ Shop 25 174 B w' s ad cp (resA p d) ∧ Below B w w' := by
  cases h1 : argB p d
  · simp [errA, hk, h1] at he
  · cases h2 : rng [d.to] 0 (p.cells.length - 1)
    · simp [errA, hk, h1, toB, h2] at he
    · by_cases h3 : d.to = d.cell
      · simp [errA, hk, h1, toB, h3] at he
      · by_cases h4 : amount (at_ p d) < d.n
        · simp [errA, hk, h1, toB, h2, h3, h4] at he
        · rw [show resA p d = moveP p d by simp [resA, hk]]
          exact f_move_ok d h hp h1 h2 h3 h4

theorem act5_no {B s cp : Nat} {ad : Option Addr} {p : Plant} {w : World} (d : Deed) (h : Shop 25 174 B w s ad cp p) (hp : plantB p = true) (hk : d.kind = 5) (he : errA p d ≠ 0) : Calls Try.prog 110 #[.pointer (some ⟨s, 0, none⟩), .agg #[.int .u8 d.kind, .int .i64 d.cell, .int .i64 d.to, .int .i64 d.n]] w fun e w' => e = .panicked [{ v := refusal (errA p d), recovered := false }] ∧ Kept w w' := by
  cases h1 : argB p d
  · rw [show errA p d = 2 by simp [errA, hk, *]]
    exact f_purify_no1 d h hp h1
  · by_cases h2 : amount (at_ p d) < d.n
    · rw [show errA p d = 6 by simp [errA, hk, *]]
      exact f_purify_no2 d h hp h1 h2
    · exact absurd (by simp [errA, hk, *]) he
theorem act5_ok {B s cp : Nat} {ad : Option Addr} {p : Plant} {w : World} (d : Deed) (h : Shop 25 174 B w s ad cp p) (hp : plantB p = true) (hk : d.kind = 5) (he : errA p d = 0) : Calls Try.prog 110 #[.pointer (some ⟨s, 0, none⟩), .agg #[.int .u8 d.kind, .int .i64 d.cell, .int .i64 d.to, .int .i64 d.n]] w fun e w' => e = .returned (.tuple #[]) ∧ Shop 25 174 B w' s ad cp (resA p d) ∧ Below B w w' := by
  cases h1 : argB p d
  · simp [errA, hk, h1] at he
  · by_cases h2 : amount (at_ p d) < d.n
    · simp [errA, hk, h1, h2] at he
    · rw [show resA p d = purifyP p d by simp [resA, hk]]
      exact f_purify_ok d h hp h1 h2

theorem act6_no {B s cp : Nat} {ad : Option Addr} {p : Plant} {w : World} (d : Deed) (h : Shop 25 174 B w s ad cp p) (hp : plantB p = true) (hk : d.kind = 6) (he : errA p d ≠ 0) : Calls Try.prog 111 #[.pointer (some ⟨s, 0, none⟩), .agg #[.int .u8 d.kind, .int .i64 d.cell, .int .i64 d.to, .int .i64 d.n]] w fun e w' => e = .panicked [{ v := refusal (errA p d), recovered := false }] ∧ Kept w w' := by
  cases h1 : argB p d
  · rw [show errA p d = 2 by simp [errA, hk, *]]
    exact f_breathe_no d h hp h1
  · exact absurd (by simp [errA, hk, *]) he
theorem act6_ok {B s cp : Nat} {ad : Option Addr} {p : Plant} {w : World} (d : Deed) (h : Shop 25 174 B w s ad cp p) (hp : plantB p = true) (hk : d.kind = 6) (he : errA p d = 0) : Calls Try.prog 111 #[.pointer (some ⟨s, 0, none⟩), .agg #[.int .u8 d.kind, .int .i64 d.cell, .int .i64 d.to, .int .i64 d.n]] w fun e w' => e = .returned (.tuple #[]) ∧ Shop 25 174 B w' s ad cp (resA p d) ∧ Below B w w' := by
  cases h1 : argB p d
  · simp [errA, hk, h1] at he
  · rw [show resA p d = breatheP p d by simp [resA, hk]]
    exact f_breathe_ok d h hp h1

theorem act7_no {B s cp : Nat} {ad : Option Addr} {p : Plant} {w : World} (d : Deed) (h : Shop 25 174 B w s ad cp p) (hp : plantB p = true) (hk : d.kind = 7) (he : errA p d ≠ 0) : Calls Try.prog 112 #[.pointer (some ⟨s, 0, none⟩), .agg #[.int .u8 d.kind, .int .i64 d.cell, .int .i64 d.to, .int .i64 d.n]] w fun e w' => e = .panicked [{ v := refusal (errA p d), recovered := false }] ∧ Kept w w' := by
  cases h1 : rng [d.n] 1 1000
  · rw [show errA p d = 2 by simp [errA, hk, *]]
    exact f_tick_no d h hp h1
  · exact absurd (by simp [errA, hk, *]) he
theorem act7_ok {B s cp : Nat} {ad : Option Addr} {p : Plant} {w : World} (d : Deed) (h : Shop 25 174 B w s ad cp p) (hp : plantB p = true) (hk : d.kind = 7) (he : errA p d = 0) : Calls Try.prog 112 #[.pointer (some ⟨s, 0, none⟩), .agg #[.int .u8 d.kind, .int .i64 d.cell, .int .i64 d.to, .int .i64 d.n]] w fun e w' => e = .returned (.tuple #[]) ∧ Shop 25 174 B w' s ad cp (resA p d) ∧ Below B w w' := by
  cases h1 : rng [d.n] 1 1000
  · simp [errA, hk, h1] at he
  · rw [show resA p d = tickP p d by simp [resA, hk]]
    exact f_tick_ok d h hp h1

end Go.Proofs.Ytemafanncejeiaa

/-
  The reference: Do, too little of a gas.
-/
namespace Go.Proofs.Ytemafanncejeiaa
open Go.RowKit Bal Bal.Trim Bal.Gas
set_option linter.unusedVariables false
set_option linter.unusedSimpArgs false
set_option maxHeartbeats 8000000
set_option maxRecDepth 100000

theorem mine_past {T : TypeId} {B : Nat} {w : World} {ad : Option Addr} {n cp : Nat} {xs : List Cell} (h : Mine T B w (.slice ad n cp) xs) {b : Nat} (hb : w.heap.size ≤ b) : xs = [] ∨ ∀ g, ad = some ⟨g, 0, none⟩ → g ≠ b := by
  obtain ⟨ad', cp', h1, h2, h3, h4, h5⟩ := h
  cases h1
  rcases h5 with h5 | ⟨g, cur, ha, hg, hk, ht⟩
  · exact .inl h5
  · refine .inr fun g' hg' he => ?_
    rw [ha] at hg'
    cases hg'
    have := hk.lt
    omega

end Go.Proofs.Ytemafanncejeiaa

/-
  The reference: Do, buy.
-/
namespace Go.Proofs.Ytemafanncejeiaa
open Go.RowKit Bal Bal.Trim Bal.Gas
set_option linter.unusedVariables false
set_option linter.unusedSimpArgs false
set_option maxHeartbeats 8000000
set_option maxRecDepth 100000

/-- what an act's last check makes of a plant, and its error -/
def endQ (q : Plant) : Plant := if plantB q then q else noPlant
def endE (q : Plant) : Int := if plantB q then 0 else 9
end Go.Proofs.Ytemafanncejeiaa

/-
  The program: Do, kind by kind.
-/
namespace Go.Proofs.Ytemafanncejeiaa
open Go.RowKit Bal Bal.Trim Bal.Gas
set_option linter.unusedVariables false
set_option linter.unusedSimpArgs false
set_option maxHeartbeats 8000000
set_option maxRecDepth 100000

theorem blk_below {W W' : World} {b B : Nat} {arr : Array Value} {t : TypeId} (h : Blk W b arr t) (hb : Below B W W') (hB : b < B) : Blk W' b arr t := (hb.block b hB).trans h
theorem f_CheckK {B n cp : Nat} {ad : Option Addr} {q : Plant} {w : World} (h : Mine 25 B w (.slice ad n cp) q.cells) : Calls Try.prog 50 #[.agg #[.slice ad n cp, .int .i64 q.bottles, .int .i64 q.inH, .int .i64 q.inA, .int .i64 q.vH, .int .i64 q.vA, .int .i64 q.lH, .int .i64 q.lA, .int .i64 q.pH, .int .i64 q.pA]] w fun e w' => e = .returned (.int .i64 (plantE q)) ∧ Kept w w' := by
  obtain ⟨h1, h2, h3, h4, h5⟩ := h.row
  subst h1
  exact f_Check q ad cp w h2 h3 h4

theorem f_DoX_no (p : Plant) (d : Deed) (a : Option Addr) (cap : Nat) (w : World) (hx : Row Cell.cells 7 w.heap.size w a p.cells) (hc : p.cells.length ≤ cap) (hM : cap ≤ maxLen) (hz : a = none → cap = 0) (fn : FuncId) (hcf : ∀ (args : Array Value) (w : World), (callFunc fn args).run Try.prog w = .ok (.enter fn args) w) (hp : plantB p = true) (hk17 : 1 ≤ d.kind ∧ d.kind ≤ 7) (hfn : (#[.nilFunc, .func (.func 106) #[] #[], .func (.func 107) #[] #[], .func (.func 108) #[] #[], .func (.func 109) #[] #[], .func (.func 110) #[] #[], .func (.func 111) #[] #[], .func (.func 112) #[] #[]] : Array Value)[d.kind.toNat]? = some (.func (.func fn) #[] #[])) (he : errA p d ≠ 0) (hact : ∀ (B s cp : Nat) (ad : Option Addr) (w : World), Shop 25 174 B w s ad cp p → Calls Try.prog fn #[.pointer (some ⟨s, 0, none⟩), .agg #[.int .u8 d.kind, .int .i64 d.cell, .int .i64 d.to, .int .i64 d.n]] w fun e w' => e = .panicked [{ v := refusal (errA p d), recovered := false }] ∧ Kept w w') : Calls Try.prog 48 #[.agg #[.slice a p.cells.length cap, .int .i64 p.bottles, .int .i64 p.inH, .int .i64 p.inA, .int .i64 p.vH, .int .i64 p.vA, .int .i64 p.lH, .int .i64 p.lA, .int .i64 p.pH, .int .i64 p.pA], .agg #[.int .u8 d.kind, .int .i64 d.cell, .int .i64 d.to, .int .i64 d.n]] w fun e w' => e = .returned (.tuple #[.agg #[.slice none 0 0, .int .i64 0, .int .i64 0, .int .i64 0, .int .i64 0, .int .i64 0, .int .i64 0, .int .i64 0, .int .i64 0, .int .i64 0], .int .i64 (errA p d)]) ∧ Kept w w' := by
  have HP := Lib.hid (show plantE p = 0 by simp [plantE, hp])
  have H1 := Lib.hid (show rng [d.kind] 1 7 = true by simp [rng, inB]; omega)
  have hw := i64_inx (n := d.kind) (by omega)
  have hn12 : p.cells.length ≤ 12 := (plantB_iff.1 hp).1
  have HFN := Lib.hid hfn
  have HACT := Lib.hid hact
  have HPP := Lib.hid hp
  have HE := Lib.hid he
  clear hfn hp he hact
  have hmf : ∀ (fn : Fn) (first cap : Array Value) (w : World), (Instr.makeFunc fn first cap).run Try.prog w = .ok (.func fn first cap) w := fun _ _ _ _ => rfl
  go_enter_defers Try.func48, Try.ntmps48
  go_upto_region 4 with (go_at_call 50; (with_reducible refine (f_Check p a cap _ (hx.later (by (exact kpt)) (Nat.le_refl _)) hc hM).mono ?_); rw [HP.out]; rintro e w1 ⟨rfl, hb1⟩; refine Blk.thru (b := w.heap.size) (arr := ?_) (t := ?_) ?_ hb1 ?_; rotate_left 2; (focus (exact blk)); intro rr; have rrc0 := rr.cell 0; have rrf0 := rr.free 0; have rrc1 := rr.cell 1; have rrf1 := rr.free 1; have rrc2 := rr.cell 2; have rrf2 := rr.free 2; have rrc3 := rr.cell 3; have rrf3 := rr.free 3; have rrc4 := rr.cell 4; have rrf4 := rr.free 4; have rrc5 := rr.cell 5; have rrf5 := rr.free 5; have rrc6 := rr.cell 6; have rrf6 := rr.free 6; have rrc7 := rr.cell 7; have rrf7 := rr.free 7; have rrc8 := rr.cell 8; have rrf8 := rr.free 8; have rrc9 := rr.cell 9; have rrf9 := rr.free 9; have rrl := rr.lt; simp at rrc0 rrc1 rrc2 rrc3 rrc4 rrc5 rrc6 rrc7 rrc8 rrc9; refine Blk.thru (b := (w.heap.size + 1)) (arr := ?_) (t := ?_) ?_ hb1 ?_; rotate_left 2; (focus (exact blk)); intro rq; have rqc0 := rq.cell 0; have rqf0 := rq.free 0; have rqc1 := rq.cell 1; have rqf1 := rq.free 1; have rqc2 := rq.cell 2; have rqf2 := rq.free 2; have rqc3 := rq.cell 3; have rqf3 := rq.free 3; have rql := rq.lt; simp at rqc0 rqc1 rqc2 rqc3)
  refine at_world (S := fun W => Blk W w.heap.size #[.slice a p.cells.length cap, .int .i64 p.bottles, .int .i64 p.inH, .int .i64 p.inA, .int .i64 p.vH, .int .i64 p.vA, .int .i64 p.lH, .int .i64 p.lA, .int .i64 p.pH, .int .i64 p.pA] 63 ∧ Blk W (w.heap.size + 1) #[.int .u8 d.kind, .int .i64 d.cell, .int .i64 d.to, .int .i64 d.n] 65 ∧ Blk W (w.heap.size + 1 + 1) #[.slice none 0 0, .int .i64 0, .int .i64 0, .int .i64 0, .int .i64 0, .int .i64 0, .int .i64 0, .int .i64 0, .int .i64 0, .int .i64 0] 63 ∧ Blk W (w.heap.size + 1 + 1 + 1) #[.int .i64 0] 28 ∧ Kept w W) ⟨by (exact blkc), by (exact blkc), by (exact blkc), by (exact blkc), by (exact kpt)⟩ ?_
  rintro W ⟨b0, b1, b2, b3, hk⟩
  have b0c0 := b0.cell 0
  have b0f0 := b0.free 0
  have b0c1 := b0.cell 1
  have b0f1 := b0.free 1
  have b0c2 := b0.cell 2
  have b0f2 := b0.free 2
  have b0c3 := b0.cell 3
  have b0f3 := b0.free 3
  have b0c4 := b0.cell 4
  have b0f4 := b0.free 4
  have b0c5 := b0.cell 5
  have b0f5 := b0.free 5
  have b0c6 := b0.cell 6
  have b0f6 := b0.free 6
  have b0c7 := b0.cell 7
  have b0f7 := b0.free 7
  have b0c8 := b0.cell 8
  have b0f8 := b0.free 8
  have b0c9 := b0.cell 9
  have b0f9 := b0.free 9
  have b0l := b0.lt
  simp at b0c0 b0c1 b0c2 b0c3 b0c4 b0c5 b0c6 b0c7 b0c8 b0c9
  have b1c0 := b1.cell 0
  have b1f0 := b1.free 0
  have b1c1 := b1.cell 1
  have b1f1 := b1.free 1
  have b1c2 := b1.cell 2
  have b1f2 := b1.free 2
  have b1c3 := b1.cell 3
  have b1f3 := b1.free 3
  have b1l := b1.lt
  simp at b1c0 b1c1 b1c2 b1c3
  have b2c0 := b2.cell 0
  have b2f0 := b2.free 0
  have b2c1 := b2.cell 1
  have b2f1 := b2.free 1
  have b2c2 := b2.cell 2
  have b2f2 := b2.free 2
  have b2c3 := b2.cell 3
  have b2f3 := b2.free 3
  have b2c4 := b2.cell 4
  have b2f4 := b2.free 4
  have b2c5 := b2.cell 5
  have b2f5 := b2.free 5
  have b2c6 := b2.cell 6
  have b2f6 := b2.free 6
  have b2c7 := b2.cell 7
  have b2f7 := b2.free 7
  have b2c8 := b2.cell 8
  have b2f8 := b2.free 8
  have b2c9 := b2.cell 9
  have b2f9 := b2.free 9
  have b2l := b2.lt
  simp at b2c0 b2c1 b2c2 b2c3 b2c4 b2c5 b2c6 b2c7 b2c8 b2c9
  have b3c0 := b3.cell 0
  have b3f0 := b3.free 0
  have b3l := b3.lt
  simp at b3c0
  go_upto_region 7 with (first | (go_at_call 91; (with_reducible refine (f_ranged1 _ _ d.kind _ _ _ (by simp)).mono ?_); rw [H1.out]; rintro e w1 ⟨rfl, rfl⟩) | (go_at_call 113; (with_reducible refine (f_need_ok _ _).mono ?_); rintro e w1 ⟨rfl, rfl⟩))
  clear b0c0 b0f0 b0c1 b0f1 b0c2 b0f2 b0c3 b0f3 b0c4 b0f4 b0c5 b0f5 b0c6 b0f6 b0c7 b0f7 b0c8 b0f8 b0c9 b0f9 b0l b1c0 b1f0 b1c1 b1f1 b1c2 b1f2 b1c3 b1f3 b1l b2c0 b2f0 b2c1 b2f1 b2c2 b2f2 b2c3 b2f3 b2c4 b2f4 b2c5 b2f5 b2c6 b2f6 b2c7 b2f7 b2c8 b2f8 b2c9 b2f9 b2l b3c0 b3f0 b3l
  refine at_world (S := fun X => Blk X w.heap.size #[.slice a p.cells.length cap, .int .i64 p.bottles, .int .i64 p.inH, .int .i64 p.inA, .int .i64 p.vH, .int .i64 p.vA, .int .i64 p.lH, .int .i64 p.lA, .int .i64 p.pH, .int .i64 p.pA] 63 ∧ Blk X (w.heap.size + 1) #[.int .u8 d.kind, .int .i64 d.cell, .int .i64 d.to, .int .i64 d.n] 65 ∧ Blk X (w.heap.size + 1 + 1) #[.slice none 0 0, .int .i64 0, .int .i64 0, .int .i64 0, .int .i64 0, .int .i64 0, .int .i64 0, .int .i64 0, .int .i64 0, .int .i64 0] 63 ∧ Blk X (w.heap.size + 1 + 1 + 1) #[.int .i64 0] 28 ∧ Blk X W.heap.size #[.nilFunc, .func (.func 106) #[] #[], .func (.func 107) #[] #[], .func (.func 108) #[] #[], .func (.func 109) #[] #[], .func (.func 110) #[] #[], .func (.func 111) #[] #[], .func (.func 112) #[] #[]] 171 ∧ Kept w X) ⟨by (exact blkc), by (exact blkc), by (exact blkc), by (exact blkc), by (exact blkc), by (exact kpt)⟩ ?_
  clear b0 b1 b2 b3 hk
  rintro X ⟨b0, b1, b2, b3, ba, hk⟩
  generalize W.heap.size = m at ba ⊢
  have b0c0 := b0.cell 0
  have b0f0 := b0.free 0
  have b0c1 := b0.cell 1
  have b0f1 := b0.free 1
  have b0c2 := b0.cell 2
  have b0f2 := b0.free 2
  have b0c3 := b0.cell 3
  have b0f3 := b0.free 3
  have b0c4 := b0.cell 4
  have b0f4 := b0.free 4
  have b0c5 := b0.cell 5
  have b0f5 := b0.free 5
  have b0c6 := b0.cell 6
  have b0f6 := b0.free 6
  have b0c7 := b0.cell 7
  have b0f7 := b0.free 7
  have b0c8 := b0.cell 8
  have b0f8 := b0.free 8
  have b0c9 := b0.cell 9
  have b0f9 := b0.free 9
  have b0l := b0.lt
  simp at b0c0 b0c1 b0c2 b0c3 b0c4 b0c5 b0c6 b0c7 b0c8 b0c9
  go_upto_region 9 with (go_at_call 114; (with_reducible refine (s_CloneC a cap p.cells _ (hx.later (by (exact kpt)) (Nat.le_refl _)) (by omega) hz).mono ?_); rintro e w2 ⟨v, rfl, hown, hb2⟩; obtain ⟨ad, cp, rfl, _⟩ := (Mine.of_owns hown).slice; refine Blk.thru (b := X.heap.size) (arr := ?_) (t := ?_) ?_ hb2 ?_; rotate_left 2; (focus (exact blk)); intro rs; have rsc0 := rs.cell 0; have rsf0 := rs.free 0; have rsc1 := rs.cell 1; have rsf1 := rs.free 1; have rsc2 := rs.cell 2; have rsf2 := rs.free 2; have rsc3 := rs.cell 3; have rsf3 := rs.free 3; have rsc4 := rs.cell 4; have rsf4 := rs.free 4; have rsc5 := rs.cell 5; have rsf5 := rs.free 5; have rsc6 := rs.cell 6; have rsf6 := rs.free 6; have rsc7 := rs.cell 7; have rsf7 := rs.free 7; have rsc8 := rs.cell 8; have rsf8 := rs.free 8; have rsc9 := rs.cell 9; have rsf9 := rs.free 9; have rsl := rs.lt; simp at rsc0 rsc1 rsc2 rsc3 rsc4 rsc5 rsc6 rsc7 rsc8 rsc9)
  have hsX := hk.size
  have l1 := b1.lt
  have l2 := b2.lt
  have l3 := b3.lt
  have la := ba.lt
  have x2 := rs.lt
  have hm2 := Mine.of_owns hown
  have xb1 := ((b1.alloc _).keep hb2)
  have xb2 := ((b2.alloc _).keep hb2)
  have xb3 := ((b3.alloc _).keep hb2)
  have xba := ((ba.alloc _).keep hb2)
  have hk2 := Kept.drop (Kept.alloc hk _) hb2
  refine at_world (S := fun Y => Blk Y (w.heap.size + 1) #[.int .u8 d.kind, .int .i64 d.cell, .int .i64 d.to, .int .i64 d.n] 65 ∧ Blk Y (w.heap.size + 1 + 1) #[.slice none 0 0, .int .i64 0, .int .i64 0, .int .i64 0, .int .i64 0, .int .i64 0, .int .i64 0, .int .i64 0, .int .i64 0, .int .i64 0] 63 ∧ Blk Y (w.heap.size + 1 + 1 + 1) #[.int .i64 0] 28 ∧ Blk Y m #[.nilFunc, .func (.func 106) #[] #[], .func (.func 107) #[] #[], .func (.func 108) #[] #[], .func (.func 109) #[] #[], .func (.func 110) #[] #[], .func (.func 111) #[] #[], .func (.func 112) #[] #[]] 171 ∧ Shop 25 174 X.heap.size Y X.heap.size ad cp p ∧ Kept w Y ∧ w.heap.size + 1 + 1 + 1 < X.heap.size) ⟨xb1.other (by simp; omega) _, xb2.other (by simp; omega) _, xb3.other (by simp; omega) _, xba.other (by simp; omega) _, ⟨Nat.le_refl _, (rs.set 0 _).cast (by simp [plantCells]), (hm2.base (by simp)).other rs (by decide) _⟩, hk2.setCell hk.size _, b3.lt⟩ ?_
  clear l1 l2 l3 la b0 b1 b2 b3 ba hk xb1 xb2 xb3 xba hk2 hsX hm2 x2 rs hown hb2 b0c0 b0f0 b0c1 b0f1 b0c2 b0f2 b0c3 b0f3 b0c4 b0f4 b0c5 b0f5 b0c6 b0f6 b0c7 b0f7 b0c8 b0f8 b0c9 b0f9 b0l
  rintro Y ⟨b1, b2, b3, ba, hsh, hk, hs⟩
  generalize X.heap.size = s at hs hsh ⊢
  have b1c0 := fun g : Later Y => (b1.later g).cell 0
  have b1f0 := fun g : Later Y => (b1.later g).free 0
  have b1c1 := fun g : Later Y => (b1.later g).cell 1
  have b1f1 := fun g : Later Y => (b1.later g).free 1
  have b1c2 := fun g : Later Y => (b1.later g).cell 2
  have b1f2 := fun g : Later Y => (b1.later g).free 2
  have b1c3 := fun g : Later Y => (b1.later g).cell 3
  have b1f3 := fun g : Later Y => (b1.later g).free 3
  have b1l := fun g : Later Y => (b1.later g).lt
  simp at b1c0 b1c1 b1c2 b1c3
  have ya : ∀ g : Later Y, g.val.cell? ⟨m, d.kind.toNat, none⟩ = some (.func (.func fn) #[] #[]) := fun g => by rw [(ba.later g).cell]; exact HFN.out
  refine Later.tail 6 (by kernel_rfl) (by kernel_rfl) ?_
  simp only [List.take_succ_cons, List.take_zero, List.drop_succ_cons, List.drop_zero]
  repeat (first | go_big_quiet_skip | (go_big_quiet_want; go_big_quiet_op; first | go_big_quiet_on | (apply Exists.intro; refine ⟨fun g_ => ?_, ?_⟩; (focus (first | fail)); go_big_quiet_on)))
  refine wpQuiet_nil ?_
  intro gg
  refine wpList_plain rfl fun K1 hK1 => ?_
  have n2 := b2.later gg
  have n3 := b3.later gg
  have hkg := Kept.drop hk gg.ok
  clear b1c0 b1f0 b1c1 b1f1 b1c2 b1f2 b1c3 b1f3 b1l
  go_wp2_with ((with_reducible refine (HACT.out _ _ _ _ _ (hsh.keep gg.ok)).mono ?_); rintro e w5 ⟨rfl, hb5⟩)
  have n2 := n2.keep hb5
  have n3 := n3.keep hb5
  have hkg := Kept.drop hkg hb5
  refine leaves_cons (f := 105) (args := #[.pointer (some ⟨w.heap.size + 1 + 1, 0, none⟩), .pointer (some ⟨w.heap.size + 1 + 1 + 1, 0, none⟩)]) (by simp) (by simp [go_sem]) ?_
  refine (catch_panics _ _ (errA p d) _ (by (exact blkc)) (by (exact blkc))).mono ?_
  rintro e u' w'' ⟨rfl, rfl, k1, k2, kb⟩
  have k1c0 := k1.cell 0
  have k1f0 := k1.free 0
  have k1c1 := k1.cell 1
  have k1f1 := k1.free 1
  have k1c2 := k1.cell 2
  have k1f2 := k1.free 2
  have k1c3 := k1.cell 3
  have k1f3 := k1.free 3
  have k1c4 := k1.cell 4
  have k1f4 := k1.free 4
  have k1c5 := k1.cell 5
  have k1f5 := k1.free 5
  have k1c6 := k1.cell 6
  have k1f6 := k1.free 6
  have k1c7 := k1.cell 7
  have k1f7 := k1.free 7
  have k1c8 := k1.cell 8
  have k1f8 := k1.free 8
  have k1c9 := k1.cell 9
  have k1f9 := k1.free 9
  have k1l := k1.lt
  simp at k1c0 k1c1 k1c2 k1c3 k1c4 k1c5 k1c6 k1c7 k1c8 k1c9
  have k2c0 := k2.cell 0
  have k2f0 := k2.free 0
  have k2l := k2.lt
  simp at k2c0
  exact (show ∃ v, (results _ _).run _ _ = .ok v _ ∧ _ from ⟨.tuple #[.agg #[.slice none 0 0, .int .i64 0, .int .i64 0, .int .i64 0, .int .i64 0, .int .i64 0, .int .i64 0, .int .i64 0, .int .i64 0, .int .i64 0], .int .i64 (errA p d)], by simp [results, Try.results48, go_sem, k1c0, k1f0, k1c1, k1f1, k1c2, k1f2, k1c3, k1f3, k1c4, k1f4, k1c5, k1f5, k1c6, k1f6, k1c7, k1f7, k1c8, k1f8, k1c9, k1f9, k2c0, k2f0], rfl, by exact Below.trans (by (exact kpt)) (kb _ (by omega) (by omega))⟩)
theorem f_DoX_ok (p : Plant) (d : Deed) (a : Option Addr) (cap : Nat) (w : World) (hx : Row Cell.cells 7 w.heap.size w a p.cells) (hc : p.cells.length ≤ cap) (hM : cap ≤ maxLen) (hz : a = none → cap = 0) (fn : FuncId) (hcf : ∀ (args : Array Value) (w : World), (callFunc fn args).run Try.prog w = .ok (.enter fn args) w) (hp : plantB p = true) (hk17 : 1 ≤ d.kind ∧ d.kind ≤ 7) (hfn : (#[.nilFunc, .func (.func 106) #[] #[], .func (.func 107) #[] #[], .func (.func 108) #[] #[], .func (.func 109) #[] #[], .func (.func 110) #[] #[], .func (.func 111) #[] #[], .func (.func 112) #[] #[]] : Array Value)[d.kind.toNat]? = some (.func (.func fn) #[] #[])) (he : errA p d = 0) (hact : ∀ (B s cp : Nat) (ad : Option Addr) (w : World), Shop 25 174 B w s ad cp p → Calls Try.prog fn #[.pointer (some ⟨s, 0, none⟩), .agg #[.int .u8 d.kind, .int .i64 d.cell, .int .i64 d.to, .int .i64 d.n]] w fun e w' => e = .returned (.tuple #[]) ∧ Shop 25 174 B w' s ad cp (resA p d) ∧ Below B w w') : Calls Try.prog 48 #[.agg #[.slice a p.cells.length cap, .int .i64 p.bottles, .int .i64 p.inH, .int .i64 p.inA, .int .i64 p.vH, .int .i64 p.vA, .int .i64 p.lH, .int .i64 p.lA, .int .i64 p.pH, .int .i64 p.pA], .agg #[.int .u8 d.kind, .int .i64 d.cell, .int .i64 d.to, .int .i64 d.n]] w fun e w' => ∃ v, e = .returned (.tuple #[.agg #[v, .int .i64 (endQ (resA p d)).bottles, .int .i64 (endQ (resA p d)).inH, .int .i64 (endQ (resA p d)).inA, .int .i64 (endQ (resA p d)).vH, .int .i64 (endQ (resA p d)).vA, .int .i64 (endQ (resA p d)).lH, .int .i64 (endQ (resA p d)).lA, .int .i64 (endQ (resA p d)).pH, .int .i64 (endQ (resA p d)).pA], .int .i64 (endE (resA p d))]) ∧ Mine 25 w.heap.size w' v ((endQ (resA p d))).cells ∧ Kept w w' := by
  obtain ⟨Q, hQ⟩ : ∃ Q, Q = resA p d := ⟨_, rfl⟩
  rw [← hQ]
  have HQ := Lib.hid hQ
  clear hQ
  have HP := Lib.hid (show plantE p = 0 by simp [plantE, hp])
  have H1 := Lib.hid (show rng [d.kind] 1 7 = true by simp [rng, inB]; omega)
  have hw := i64_inx (n := d.kind) (by omega)
  have hn12 : p.cells.length ≤ 12 := (plantB_iff.1 hp).1
  have HFN := Lib.hid hfn
  have HACT := Lib.hid hact
  have HPP := Lib.hid hp
  have HE := Lib.hid he
  clear hfn hp he hact
  have hmf : ∀ (fn : Fn) (first cap : Array Value) (w : World), (Instr.makeFunc fn first cap).run Try.prog w = .ok (.func fn first cap) w := fun _ _ _ _ => rfl
  go_enter_defers Try.func48, Try.ntmps48
  go_upto_region 4 with (go_at_call 50; (with_reducible refine (f_Check p a cap _ (hx.later (by (exact kpt)) (Nat.le_refl _)) hc hM).mono ?_); rw [HP.out]; rintro e w1 ⟨rfl, hb1⟩; refine Blk.thru (b := w.heap.size) (arr := ?_) (t := ?_) ?_ hb1 ?_; rotate_left 2; (focus (exact blk)); intro rr; have rrc0 := rr.cell 0; have rrf0 := rr.free 0; have rrc1 := rr.cell 1; have rrf1 := rr.free 1; have rrc2 := rr.cell 2; have rrf2 := rr.free 2; have rrc3 := rr.cell 3; have rrf3 := rr.free 3; have rrc4 := rr.cell 4; have rrf4 := rr.free 4; have rrc5 := rr.cell 5; have rrf5 := rr.free 5; have rrc6 := rr.cell 6; have rrf6 := rr.free 6; have rrc7 := rr.cell 7; have rrf7 := rr.free 7; have rrc8 := rr.cell 8; have rrf8 := rr.free 8; have rrc9 := rr.cell 9; have rrf9 := rr.free 9; have rrl := rr.lt; simp at rrc0 rrc1 rrc2 rrc3 rrc4 rrc5 rrc6 rrc7 rrc8 rrc9; refine Blk.thru (b := (w.heap.size + 1)) (arr := ?_) (t := ?_) ?_ hb1 ?_; rotate_left 2; (focus (exact blk)); intro rq; have rqc0 := rq.cell 0; have rqf0 := rq.free 0; have rqc1 := rq.cell 1; have rqf1 := rq.free 1; have rqc2 := rq.cell 2; have rqf2 := rq.free 2; have rqc3 := rq.cell 3; have rqf3 := rq.free 3; have rql := rq.lt; simp at rqc0 rqc1 rqc2 rqc3)
  refine at_world (S := fun W => Blk W w.heap.size #[.slice a p.cells.length cap, .int .i64 p.bottles, .int .i64 p.inH, .int .i64 p.inA, .int .i64 p.vH, .int .i64 p.vA, .int .i64 p.lH, .int .i64 p.lA, .int .i64 p.pH, .int .i64 p.pA] 63 ∧ Blk W (w.heap.size + 1) #[.int .u8 d.kind, .int .i64 d.cell, .int .i64 d.to, .int .i64 d.n] 65 ∧ Blk W (w.heap.size + 1 + 1) #[.slice none 0 0, .int .i64 0, .int .i64 0, .int .i64 0, .int .i64 0, .int .i64 0, .int .i64 0, .int .i64 0, .int .i64 0, .int .i64 0] 63 ∧ Blk W (w.heap.size + 1 + 1 + 1) #[.int .i64 0] 28 ∧ Kept w W) ⟨by (exact blkc), by (exact blkc), by (exact blkc), by (exact blkc), by (exact kpt)⟩ ?_
  rintro W ⟨b0, b1, b2, b3, hk⟩
  have b0c0 := b0.cell 0
  have b0f0 := b0.free 0
  have b0c1 := b0.cell 1
  have b0f1 := b0.free 1
  have b0c2 := b0.cell 2
  have b0f2 := b0.free 2
  have b0c3 := b0.cell 3
  have b0f3 := b0.free 3
  have b0c4 := b0.cell 4
  have b0f4 := b0.free 4
  have b0c5 := b0.cell 5
  have b0f5 := b0.free 5
  have b0c6 := b0.cell 6
  have b0f6 := b0.free 6
  have b0c7 := b0.cell 7
  have b0f7 := b0.free 7
  have b0c8 := b0.cell 8
  have b0f8 := b0.free 8
  have b0c9 := b0.cell 9
  have b0f9 := b0.free 9
  have b0l := b0.lt
  simp at b0c0 b0c1 b0c2 b0c3 b0c4 b0c5 b0c6 b0c7 b0c8 b0c9
  have b1c0 := b1.cell 0
  have b1f0 := b1.free 0
  have b1c1 := b1.cell 1
  have b1f1 := b1.free 1
  have b1c2 := b1.cell 2
  have b1f2 := b1.free 2
  have b1c3 := b1.cell 3
  have b1f3 := b1.free 3
  have b1l := b1.lt
  simp at b1c0 b1c1 b1c2 b1c3
  have b2c0 := b2.cell 0
  have b2f0 := b2.free 0
  have b2c1 := b2.cell 1
  have b2f1 := b2.free 1
  have b2c2 := b2.cell 2
  have b2f2 := b2.free 2
  have b2c3 := b2.cell 3
  have b2f3 := b2.free 3
  have b2c4 := b2.cell 4
  have b2f4 := b2.free 4
  have b2c5 := b2.cell 5
  have b2f5 := b2.free 5
  have b2c6 := b2.cell 6
  have b2f6 := b2.free 6
  have b2c7 := b2.cell 7
  have b2f7 := b2.free 7
  have b2c8 := b2.cell 8
  have b2f8 := b2.free 8
  have b2c9 := b2.cell 9
  have b2f9 := b2.free 9
  have b2l := b2.lt
  simp at b2c0 b2c1 b2c2 b2c3 b2c4 b2c5 b2c6 b2c7 b2c8 b2c9
  have b3c0 := b3.cell 0
  have b3f0 := b3.free 0
  have b3l := b3.lt
  simp at b3c0
  go_upto_region 7 with (first | (go_at_call 91; (with_reducible refine (f_ranged1 _ _ d.kind _ _ _ (by simp)).mono ?_); rw [H1.out]; rintro e w1 ⟨rfl, rfl⟩) | (go_at_call 113; (with_reducible refine (f_need_ok _ _).mono ?_); rintro e w1 ⟨rfl, rfl⟩))
  clear b0c0 b0f0 b0c1 b0f1 b0c2 b0f2 b0c3 b0f3 b0c4 b0f4 b0c5 b0f5 b0c6 b0f6 b0c7 b0f7 b0c8 b0f8 b0c9 b0f9 b0l b1c0 b1f0 b1c1 b1f1 b1c2 b1f2 b1c3 b1f3 b1l b2c0 b2f0 b2c1 b2f1 b2c2 b2f2 b2c3 b2f3 b2c4 b2f4 b2c5 b2f5 b2c6 b2f6 b2c7 b2f7 b2c8 b2f8 b2c9 b2f9 b2l b3c0 b3f0 b3l
  refine at_world (S := fun X => Blk X w.heap.size #[.slice a p.cells.length cap, .int .i64 p.bottles, .int .i64 p.inH, .int .i64 p.inA, .int .i64 p.vH, .int .i64 p.vA, .int .i64 p.lH, .int .i64 p.lA, .int .i64 p.pH, .int .i64 p.pA] 63 ∧ Blk X (w.heap.size + 1) #[.int .u8 d.kind, .int .i64 d.cell, .int .i64 d.to, .int .i64 d.n] 65 ∧ Blk X (w.heap.size + 1 + 1) #[.slice none 0 0, .int .i64 0, .int .i64 0, .int .i64 0, .int .i64 0, .int .i64 0, .int .i64 0, .int .i64 0, .int .i64 0, .int .i64 0] 63 ∧ Blk X (w.heap.size + 1 + 1 + 1) #[.int .i64 0] 28 ∧ Blk X W.heap.size #[.nilFunc, .func (.func 106) #[] #[], .func (.func 107) #[] #[], .func (.func 108) #[] #[], .func (.func 109) #[] #[], .func (.func 110) #[] #[], .func (.func 111) #[] #[], .func (.func 112) #[] #[]] 171 ∧ Kept w X) ⟨by (exact blkc), by (exact blkc), by (exact blkc), by (exact blkc), by (exact blkc), by (exact kpt)⟩ ?_
  clear b0 b1 b2 b3 hk
  rintro X ⟨b0, b1, b2, b3, ba, hk⟩
  generalize W.heap.size = m at ba ⊢
  have b0c0 := b0.cell 0
  have b0f0 := b0.free 0
  have b0c1 := b0.cell 1
  have b0f1 := b0.free 1
  have b0c2 := b0.cell 2
  have b0f2 := b0.free 2
  have b0c3 := b0.cell 3
  have b0f3 := b0.free 3
  have b0c4 := b0.cell 4
  have b0f4 := b0.free 4
  have b0c5 := b0.cell 5
  have b0f5 := b0.free 5
  have b0c6 := b0.cell 6
  have b0f6 := b0.free 6
  have b0c7 := b0.cell 7
  have b0f7 := b0.free 7
  have b0c8 := b0.cell 8
  have b0f8 := b0.free 8
  have b0c9 := b0.cell 9
  have b0f9 := b0.free 9
  have b0l := b0.lt
  simp at b0c0 b0c1 b0c2 b0c3 b0c4 b0c5 b0c6 b0c7 b0c8 b0c9
  go_upto_region 9 with (go_at_call 114; (with_reducible refine (s_CloneC a cap p.cells _ (hx.later (by (exact kpt)) (Nat.le_refl _)) (by omega) hz).mono ?_); rintro e w2 ⟨v, rfl, hown, hb2⟩; obtain ⟨ad, cp, rfl, _⟩ := (Mine.of_owns hown).slice; refine Blk.thru (b := X.heap.size) (arr := ?_) (t := ?_) ?_ hb2 ?_; rotate_left 2; (focus (exact blk)); intro rs; have rsc0 := rs.cell 0; have rsf0 := rs.free 0; have rsc1 := rs.cell 1; have rsf1 := rs.free 1; have rsc2 := rs.cell 2; have rsf2 := rs.free 2; have rsc3 := rs.cell 3; have rsf3 := rs.free 3; have rsc4 := rs.cell 4; have rsf4 := rs.free 4; have rsc5 := rs.cell 5; have rsf5 := rs.free 5; have rsc6 := rs.cell 6; have rsf6 := rs.free 6; have rsc7 := rs.cell 7; have rsf7 := rs.free 7; have rsc8 := rs.cell 8; have rsf8 := rs.free 8; have rsc9 := rs.cell 9; have rsf9 := rs.free 9; have rsl := rs.lt; simp at rsc0 rsc1 rsc2 rsc3 rsc4 rsc5 rsc6 rsc7 rsc8 rsc9)
  have hsX := hk.size
  have l1 := b1.lt
  have l2 := b2.lt
  have l3 := b3.lt
  have la := ba.lt
  have x2 := rs.lt
  have hm2 := Mine.of_owns hown
  have xb1 := ((b1.alloc _).keep hb2)
  have xb2 := ((b2.alloc _).keep hb2)
  have xb3 := ((b3.alloc _).keep hb2)
  have xba := ((ba.alloc _).keep hb2)
  have hk2 := Kept.drop (Kept.alloc hk _) hb2
  refine at_world (S := fun Y => Blk Y (w.heap.size + 1) #[.int .u8 d.kind, .int .i64 d.cell, .int .i64 d.to, .int .i64 d.n] 65 ∧ Blk Y (w.heap.size + 1 + 1) #[.slice none 0 0, .int .i64 0, .int .i64 0, .int .i64 0, .int .i64 0, .int .i64 0, .int .i64 0, .int .i64 0, .int .i64 0, .int .i64 0] 63 ∧ Blk Y (w.heap.size + 1 + 1 + 1) #[.int .i64 0] 28 ∧ Blk Y m #[.nilFunc, .func (.func 106) #[] #[], .func (.func 107) #[] #[], .func (.func 108) #[] #[], .func (.func 109) #[] #[], .func (.func 110) #[] #[], .func (.func 111) #[] #[], .func (.func 112) #[] #[]] 171 ∧ Shop 25 174 X.heap.size Y X.heap.size ad cp p ∧ Kept w Y ∧ w.heap.size + 1 + 1 + 1 < X.heap.size) ⟨xb1.other (by simp; omega) _, xb2.other (by simp; omega) _, xb3.other (by simp; omega) _, xba.other (by simp; omega) _, ⟨Nat.le_refl _, (rs.set 0 _).cast (by simp [plantCells]), (hm2.base (by simp)).other rs (by decide) _⟩, hk2.setCell hk.size _, b3.lt⟩ ?_
  clear l1 l2 l3 la b0 b1 b2 b3 ba hk xb1 xb2 xb3 xba hk2 hsX hm2 x2 rs hown hb2 b0c0 b0f0 b0c1 b0f1 b0c2 b0f2 b0c3 b0f3 b0c4 b0f4 b0c5 b0f5 b0c6 b0f6 b0c7 b0f7 b0c8 b0f8 b0c9 b0f9 b0l
  rintro Y ⟨b1, b2, b3, ba, hsh, hk, hs⟩
  generalize X.heap.size = s at hs hsh ⊢
  have b1c0 := fun g : Later Y => (b1.later g).cell 0
  have b1f0 := fun g : Later Y => (b1.later g).free 0
  have b1c1 := fun g : Later Y => (b1.later g).cell 1
  have b1f1 := fun g : Later Y => (b1.later g).free 1
  have b1c2 := fun g : Later Y => (b1.later g).cell 2
  have b1f2 := fun g : Later Y => (b1.later g).free 2
  have b1c3 := fun g : Later Y => (b1.later g).cell 3
  have b1f3 := fun g : Later Y => (b1.later g).free 3
  have b1l := fun g : Later Y => (b1.later g).lt
  simp at b1c0 b1c1 b1c2 b1c3
  have ya : ∀ g : Later Y, g.val.cell? ⟨m, d.kind.toNat, none⟩ = some (.func (.func fn) #[] #[]) := fun g => by rw [(ba.later g).cell]; exact HFN.out
  refine Later.tail 6 (by kernel_rfl) (by kernel_rfl) ?_
  simp only [List.take_succ_cons, List.take_zero, List.drop_succ_cons, List.drop_zero]
  repeat (first | go_big_quiet_skip | (go_big_quiet_want; go_big_quiet_op; first | go_big_quiet_on | (apply Exists.intro; refine ⟨fun g_ => ?_, ?_⟩; (focus (first | fail)); go_big_quiet_on)))
  refine wpQuiet_nil ?_
  intro gg
  refine wpList_plain rfl fun K1 hK1 => ?_
  have n2 := b2.later gg
  have n3 := b3.later gg
  have hkg := Kept.drop hk gg.ok
  clear b1c0 b1f0 b1c1 b1f1 b1c2 b1f2 b1c3 b1f3 b1l
  go_upto_region 10 with ((with_reducible refine (HACT.out _ _ _ _ _ (hsh.keep gg.ok)).mono ?_); rintro e w5 ⟨rfl, hsh5, hb5⟩)
  refine at_world (S := fun Z => Blk Z (w.heap.size + 1 + 1) #[.slice none 0 0, .int .i64 0, .int .i64 0, .int .i64 0, .int .i64 0, .int .i64 0, .int .i64 0, .int .i64 0, .int .i64 0, .int .i64 0] 63 ∧ Blk Z (w.heap.size + 1 + 1 + 1) #[.int .i64 0] 28 ∧ Blk Z s #[.slice ad Q.cells.length cp, .int .i64 Q.bottles, .int .i64 Q.inH, .int .i64 Q.inA, .int .i64 Q.vH, .int .i64 Q.vA, .int .i64 Q.lH, .int .i64 Q.lA, .int .i64 Q.pH, .int .i64 Q.pA] 174 ∧ Mine 25 s Z (.slice ad Q.cells.length cp) Q.cells ∧ Kept w Z) ⟨blk_below n2 hb5 (by omega), blk_below n3 hb5 (by omega), by rw [HQ.out]; exact hsh5.2.1, by rw [HQ.out]; exact hsh5.2.2, hkg.trans (hb5.mono (by omega))⟩ ?_
  clear b1 b2 b3 ba hk hsh n2 n3 hkg hsh5 hb5
  rintro Z ⟨b2, b3, r3, hm, hk⟩
  have r3c0 := r3.cell 0
  have r3f0 := r3.free 0
  have r3c1 := r3.cell 1
  have r3f1 := r3.free 1
  have r3c2 := r3.cell 2
  have r3f2 := r3.free 2
  have r3c3 := r3.cell 3
  have r3f3 := r3.free 3
  have r3c4 := r3.cell 4
  have r3f4 := r3.free 4
  have r3c5 := r3.cell 5
  have r3f5 := r3.free 5
  have r3c6 := r3.cell 6
  have r3f6 := r3.free 6
  have r3c7 := r3.cell 7
  have r3f7 := r3.free 7
  have r3c8 := r3.cell 8
  have r3f8 := r3.free 8
  have r3c9 := r3.cell 9
  have r3f9 := r3.free 9
  have r3l := r3.lt
  simp at r3c0 r3c1 r3c2 r3c3 r3c4 r3c5 r3c6 r3c7 r3c8 r3c9
  cases hpq : plantB Q
  · have HPQ := Lib.hid (show plantE Q = 32 by simp [plantE, hpq])
    have HPB := Lib.hid hpq
    clear hpq
    go_wp2_with (first | (go_at_call 50; (with_reducible refine (f_CheckK hm).mono ?_); rw [HPQ.out]; rintro e w6 ⟨rfl, hb6⟩) | (go_at_call 113; (with_reducible refine (f_need_no _ _).mono ?_); rintro e w1 ⟨rfl, rfl⟩))
    have n2 := b2.keep hb6
    have n3 := b3.keep hb6
    have hkg := Kept.drop hk hb6
    clear b2 b3 hk
    skip
    refine leaves_cons (f := 105) (args := #[.pointer (some ⟨w.heap.size + 1 + 1, 0, none⟩), .pointer (some ⟨w.heap.size + 1 + 1 + 1, 0, none⟩)]) (by simp) (by simp [go_sem]) ?_
    refine (catch_panics _ _ 9 _ (by (exact blkc)) (by (exact blkc))).mono ?_
    rintro e u' w'' ⟨rfl, rfl, k1, k2, kb⟩
    have k1c0 := k1.cell 0
    have k1f0 := k1.free 0
    have k1c1 := k1.cell 1
    have k1f1 := k1.free 1
    have k1c2 := k1.cell 2
    have k1f2 := k1.free 2
    have k1c3 := k1.cell 3
    have k1f3 := k1.free 3
    have k1c4 := k1.cell 4
    have k1f4 := k1.free 4
    have k1c5 := k1.cell 5
    have k1f5 := k1.free 5
    have k1c6 := k1.cell 6
    have k1f6 := k1.free 6
    have k1c7 := k1.cell 7
    have k1f7 := k1.free 7
    have k1c8 := k1.cell 8
    have k1f8 := k1.free 8
    have k1c9 := k1.cell 9
    have k1f9 := k1.free 9
    have k1l := k1.lt
    simp at k1c0 k1c1 k1c2 k1c3 k1c4 k1c5 k1c6 k1c7 k1c8 k1c9
    have k2c0 := k2.cell 0
    have k2f0 := k2.free 0
    have k2l := k2.lt
    simp at k2c0
    refine (show ∃ v, (results _ _).run _ _ = .ok v _ ∧ _ from ⟨.tuple #[.agg #[.slice none 0 0, .int .i64 0, .int .i64 0, .int .i64 0, .int .i64 0, .int .i64 0, .int .i64 0, .int .i64 0, .int .i64 0, .int .i64 0], .int .i64 9], by simp [results, Try.results48, go_sem, k1c0, k1f0, k1c1, k1f1, k1c2, k1f2, k1c3, k1f3, k1c4, k1f4, k1c5, k1f5, k1c6, k1f6, k1c7, k1f7, k1c8, k1f8, k1c9, k1f9, k2c0, k2f0], .slice none 0 0, by simp [endQ, endE, HPB.out, noPlant], by rw [show endQ Q = noPlant by simp [endQ, HPB.out]]; exact Mine.zero, by exact Below.trans (by (exact kpt)) (kb _ (by omega) (by omega))⟩)
  · have HPQ := Lib.hid (show plantE Q = 0 by simp [plantE, hpq])
    have HPB := Lib.hid hpq
    clear hpq
    go_upto_region 11 with (first | (go_at_call 50; (with_reducible refine (f_CheckK hm).mono ?_); rw [HPQ.out]; rintro e w6 ⟨rfl, hb6⟩) | (go_at_call 113; (with_reducible refine (f_need_ok _ _).mono ?_); rintro e w1 ⟨rfl, rfl⟩))
    clear r3c0 r3f0 r3c1 r3f1 r3c2 r3f2 r3c3 r3f3 r3c4 r3f4 r3c5 r3f5 r3c6 r3f6 r3c7 r3f7 r3c8 r3f8 r3c9 r3f9 r3l
    refine at_world (S := fun U => Blk U (w.heap.size + 1 + 1) #[.slice none 0 0, .int .i64 0, .int .i64 0, .int .i64 0, .int .i64 0, .int .i64 0, .int .i64 0, .int .i64 0, .int .i64 0, .int .i64 0] 63 ∧ Blk U (w.heap.size + 1 + 1 + 1) #[.int .i64 0] 28 ∧ Blk U s #[.slice ad Q.cells.length cp, .int .i64 Q.bottles, .int .i64 Q.inH, .int .i64 Q.inA, .int .i64 Q.vH, .int .i64 Q.vA, .int .i64 Q.lH, .int .i64 Q.lA, .int .i64 Q.pH, .int .i64 Q.pA] 174 ∧ Mine 25 s U (.slice ad Q.cells.length cp) Q.cells ∧ Kept w U) ⟨b2.keep hb6, b3.keep hb6, r3.keep hb6, hm.keep hb6, Kept.drop hk hb6⟩ ?_
    clear b2 b3 r3 hm hk hb6
    rintro U ⟨b2, b3, r3, hm, hk⟩
    have b2c0 := b2.cell 0
    have b2f0 := b2.free 0
    have b2c1 := b2.cell 1
    have b2f1 := b2.free 1
    have b2c2 := b2.cell 2
    have b2f2 := b2.free 2
    have b2c3 := b2.cell 3
    have b2f3 := b2.free 3
    have b2c4 := b2.cell 4
    have b2f4 := b2.free 4
    have b2c5 := b2.cell 5
    have b2f5 := b2.free 5
    have b2c6 := b2.cell 6
    have b2f6 := b2.free 6
    have b2c7 := b2.cell 7
    have b2f7 := b2.free 7
    have b2c8 := b2.cell 8
    have b2f8 := b2.free 8
    have b2c9 := b2.cell 9
    have b2f9 := b2.free 9
    have b2l := b2.lt
    simp at b2c0 b2c1 b2c2 b2c3 b2c4 b2c5 b2c6 b2c7 b2c8 b2c9
    have b3c0 := b3.cell 0
    have b3f0 := b3.free 0
    have b3l := b3.lt
    simp at b3c0
    have r3c0 := r3.cell 0
    have r3f0 := r3.free 0
    have r3c1 := r3.cell 1
    have r3f1 := r3.free 1
    have r3c2 := r3.cell 2
    have r3f2 := r3.free 2
    have r3c3 := r3.cell 3
    have r3f3 := r3.free 3
    have r3c4 := r3.cell 4
    have r3f4 := r3.free 4
    have r3c5 := r3.cell 5
    have r3f5 := r3.free 5
    have r3c6 := r3.cell 6
    have r3f6 := r3.free 6
    have r3c7 := r3.cell 7
    have r3f7 := r3.free 7
    have r3c8 := r3.cell 8
    have r3f8 := r3.free 8
    have r3c9 := r3.cell 9
    have r3f9 := r3.free 9
    have r3l := r3.lt
    simp at r3c0 r3c1 r3c2 r3c3 r3c4 r3c5 r3c6 r3c7 r3c8 r3c9
    go_wp2
    refine leaves_cons (f := 105) (args := #[.pointer (some ⟨w.heap.size + 1 + 1, 0, none⟩), .pointer (some ⟨w.heap.size + 1 + 1 + 1, 0, none⟩)]) (by simp) (by simp [go_sem]) ?_
    refine (catch_idle _ _ _).mono ?_
    rintro e u' w'' ⟨rfl, rfl, rfl⟩
    refine (show ∃ v, (results _ _).run _ _ = .ok v _ ∧ _ from ⟨.tuple #[.agg #[.slice ad Q.cells.length cp, .int .i64 Q.bottles, .int .i64 Q.inH, .int .i64 Q.inA, .int .i64 Q.vH, .int .i64 Q.vA, .int .i64 Q.lH, .int .i64 Q.lA, .int .i64 Q.pH, .int .i64 Q.pA], .int .i64 0], by simp [results, Try.results48, go_sem, b2c0, b2f0, b2c1, b2f1, b2c2, b2f2, b2c3, b2f3, b2c4, b2f4, b2c5, b2f5, b2c6, b2f6, b2c7, b2f7, b2c8, b2f8, b2c9, b2f9, b3c0, b3f0], .slice ad Q.cells.length cp, by simp [endQ, endE, HPB.out], ?_, by (exact kpt)⟩)
    rw [show endQ Q = Q by simp [endQ, HPB.out]]
    have hne := hm.ne b2 (by decide)
    have hne3 := hm.ne b3 (by decide)
    (repeat (first | with_reducible refine Mine.off ?_ hne _ | with_reducible refine Mine.off ?_ hne3 _))
    exact hm.base (by omega)

end Go.Proofs.Ytemafanncejeiaa

/-
  The program: Do.
-/
namespace Go.Proofs.Ytemafanncejeiaa
open Go.RowKit Bal Bal.Trim Bal.Gas
set_option linter.unusedVariables false
set_option linter.unusedSimpArgs false
set_option maxHeartbeats 8000000

theorem f_zero_end {p : Plant} {d : Deed} {a : Option Addr} {cap : Nat} {w : World} {n : Int} (h : Calls Try.prog 48 #[.agg #[.slice a p.cells.length cap, .int .i64 p.bottles, .int .i64 p.inH, .int .i64 p.inA, .int .i64 p.vH, .int .i64 p.vA, .int .i64 p.lH, .int .i64 p.lA, .int .i64 p.pH, .int .i64 p.pA], .agg #[.int .u8 d.kind, .int .i64 d.cell, .int .i64 d.to, .int .i64 d.n]] w fun e w' => e = .returned (.tuple #[.agg #[.slice none 0 0, .int .i64 0, .int .i64 0, .int .i64 0, .int .i64 0, .int .i64 0, .int .i64 0, .int .i64 0, .int .i64 0, .int .i64 0], .int .i64 n]) ∧ Kept w w') : Calls Try.prog 48 #[.agg #[.slice a p.cells.length cap, .int .i64 p.bottles, .int .i64 p.inH, .int .i64 p.inA, .int .i64 p.vH, .int .i64 p.vA, .int .i64 p.lH, .int .i64 p.lA, .int .i64 p.pH, .int .i64 p.pA], .agg #[.int .u8 d.kind, .int .i64 d.cell, .int .i64 d.to, .int .i64 d.n]] w fun e w' => ∃ v, e = .returned (.tuple #[.agg #[v, .int .i64 (noPlant).bottles, .int .i64 (noPlant).inH, .int .i64 (noPlant).inA, .int .i64 (noPlant).vH, .int .i64 (noPlant).vA, .int .i64 (noPlant).lH, .int .i64 (noPlant).lA, .int .i64 (noPlant).pH, .int .i64 (noPlant).pA], .int .i64 (n)]) ∧ Mine 25 w.heap.size w' v (noPlant).cells ∧ Kept w w' := by
  refine h.mono ?_
  rintro e w' ⟨rfl, hk⟩
  exact ⟨.slice none 0 0, rfl, Mine.zero, hk⟩
theorem f_Do (p : Plant) (d : Deed) (a : Option Addr) (cap : Nat) (w : World) (hx : Row Cell.cells 7 w.heap.size w a p.cells) (hc : p.cells.length ≤ cap) (hM : cap ≤ maxLen) (hz : a = none → cap = 0) (hu : 0 ≤ d.kind ∧ d.kind ≤ 255) : Calls Try.prog 48 #[.agg #[.slice a p.cells.length cap, .int .i64 p.bottles, .int .i64 p.inH, .int .i64 p.inA, .int .i64 p.vH, .int .i64 p.vA, .int .i64 p.lH, .int .i64 p.lA, .int .i64 p.pH, .int .i64 p.pA], .agg #[.int .u8 d.kind, .int .i64 d.cell, .int .i64 d.to, .int .i64 d.n]] w fun e w' => ∃ v, e = .returned (.tuple #[.agg #[v, .int .i64 (doQ p d).bottles, .int .i64 (doQ p d).inH, .int .i64 (doQ p d).inA, .int .i64 (doQ p d).vH, .int .i64 (doQ p d).vA, .int .i64 (doQ p d).lH, .int .i64 (doQ p d).lA, .int .i64 (doQ p d).pH, .int .i64 (doQ p d).pA], .int .i64 (doE p d)]) ∧ Mine 25 w.heap.size w' v (doQ p d).cells ∧ Kept w w' := by
  cases hp : plantB p
  · rw [show doE p d = 32 by simp [doE, hp], show doQ p d = noPlant by simp [doQ, doE, hp]]
    exact f_zero_end (f_Do_bad p d a cap w hx hc hM hz hp)
  · by_cases h17 : 1 ≤ d.kind ∧ d.kind ≤ 7
    · have key : d.kind = 1 ∨ d.kind = 2 ∨ d.kind = 3 ∨ d.kind = 4 ∨ d.kind = 5 ∨ d.kind = 6 ∨ d.kind = 7 := by omega
      rcases key with hk | hk | hk | hk | hk | hk | hk
      · by_cases he : errA p d = 0
        · rw [show doE p d = endE (resA p d) by simp [doE, hp, he, endE], show doQ p d = endQ (resA p d) by simp [doQ, doE, hp, he, endQ] <;> (split <;> simp_all)]
          exact f_DoX_ok p d a cap w hx hc hM hz 106 (fun _ _ => by kernel_rfl) hp h17 (by rw [hk]; rfl) he (fun _ _ _ _ _ h => act1_ok d h hp hk he)
        · rw [show doE p d = errA p d by simp [doE, hp, he], show doQ p d = noPlant by simp [doQ, doE, hp, he]]
          exact f_zero_end (f_DoX_no p d a cap w hx hc hM hz 106 (fun _ _ => by kernel_rfl) hp h17 (by rw [hk]; rfl) he (fun _ _ _ _ _ h => act1_no d h hp hk he))
      · by_cases he : errA p d = 0
        · rw [show doE p d = endE (resA p d) by simp [doE, hp, he, endE], show doQ p d = endQ (resA p d) by simp [doQ, doE, hp, he, endQ] <;> (split <;> simp_all)]
          exact f_DoX_ok p d a cap w hx hc hM hz 107 (fun _ _ => by kernel_rfl) hp h17 (by rw [hk]; rfl) he (fun _ _ _ _ _ h => act2_ok d h hp hk he)
        · rw [show doE p d = errA p d by simp [doE, hp, he], show doQ p d = noPlant by simp [doQ, doE, hp, he]]
          exact f_zero_end (f_DoX_no p d a cap w hx hc hM hz 107 (fun _ _ => by kernel_rfl) hp h17 (by rw [hk]; rfl) he (fun _ _ _ _ _ h => act2_no d h hp hk he))
      · by_cases he : errA p d = 0
        · rw [show doE p d = endE (resA p d) by simp [doE, hp, he, endE], show doQ p d = endQ (resA p d) by simp [doQ, doE, hp, he, endQ] <;> (split <;> simp_all)]
          exact f_DoX_ok p d a cap w hx hc hM hz 108 (fun _ _ => by kernel_rfl) hp h17 (by rw [hk]; rfl) he (fun _ _ _ _ _ h => act3_ok d h hp hk he)
        · rw [show doE p d = errA p d by simp [doE, hp, he], show doQ p d = noPlant by simp [doQ, doE, hp, he]]
          exact f_zero_end (f_DoX_no p d a cap w hx hc hM hz 108 (fun _ _ => by kernel_rfl) hp h17 (by rw [hk]; rfl) he (fun _ _ _ _ _ h => act3_no d h hp hk he))
      · by_cases he : errA p d = 0
        · rw [show doE p d = endE (resA p d) by simp [doE, hp, he, endE], show doQ p d = endQ (resA p d) by simp [doQ, doE, hp, he, endQ] <;> (split <;> simp_all)]
          exact f_DoX_ok p d a cap w hx hc hM hz 109 (fun _ _ => by kernel_rfl) hp h17 (by rw [hk]; rfl) he (fun _ _ _ _ _ h => act4_ok d h hp hk he)
        · rw [show doE p d = errA p d by simp [doE, hp, he], show doQ p d = noPlant by simp [doQ, doE, hp, he]]
          exact f_zero_end (f_DoX_no p d a cap w hx hc hM hz 109 (fun _ _ => by kernel_rfl) hp h17 (by rw [hk]; rfl) he (fun _ _ _ _ _ h => act4_no d h hp hk he))
      · by_cases he : errA p d = 0
        · rw [show doE p d = endE (resA p d) by simp [doE, hp, he, endE], show doQ p d = endQ (resA p d) by simp [doQ, doE, hp, he, endQ] <;> (split <;> simp_all)]
          exact f_DoX_ok p d a cap w hx hc hM hz 110 (fun _ _ => by kernel_rfl) hp h17 (by rw [hk]; rfl) he (fun _ _ _ _ _ h => act5_ok d h hp hk he)
        · rw [show doE p d = errA p d by simp [doE, hp, he], show doQ p d = noPlant by simp [doQ, doE, hp, he]]
          exact f_zero_end (f_DoX_no p d a cap w hx hc hM hz 110 (fun _ _ => by kernel_rfl) hp h17 (by rw [hk]; rfl) he (fun _ _ _ _ _ h => act5_no d h hp hk he))
      · by_cases he : errA p d = 0
        · rw [show doE p d = endE (resA p d) by simp [doE, hp, he, endE], show doQ p d = endQ (resA p d) by simp [doQ, doE, hp, he, endQ] <;> (split <;> simp_all)]
          exact f_DoX_ok p d a cap w hx hc hM hz 111 (fun _ _ => by kernel_rfl) hp h17 (by rw [hk]; rfl) he (fun _ _ _ _ _ h => act6_ok d h hp hk he)
        · rw [show doE p d = errA p d by simp [doE, hp, he], show doQ p d = noPlant by simp [doQ, doE, hp, he]]
          exact f_zero_end (f_DoX_no p d a cap w hx hc hM hz 111 (fun _ _ => by kernel_rfl) hp h17 (by rw [hk]; rfl) he (fun _ _ _ _ _ h => act6_no d h hp hk he))
      · by_cases he : errA p d = 0
        · rw [show doE p d = endE (resA p d) by simp [doE, hp, he, endE], show doQ p d = endQ (resA p d) by simp [doQ, doE, hp, he, endQ] <;> (split <;> simp_all)]
          exact f_DoX_ok p d a cap w hx hc hM hz 112 (fun _ _ => by kernel_rfl) hp h17 (by rw [hk]; rfl) he (fun _ _ _ _ _ h => act7_ok d h hp hk he)
        · rw [show doE p d = errA p d by simp [doE, hp, he], show doQ p d = noPlant by simp [doQ, doE, hp, he]]
          exact f_zero_end (f_DoX_no p d a cap w hx hc hM hz 112 (fun _ _ => by kernel_rfl) hp h17 (by rw [hk]; rfl) he (fun _ _ _ _ _ h => act7_no d h hp hk he))
    · have he : errA p d = 2 := by
        have k1 : d.kind ≠ 1 ∧ d.kind ≠ 2 ∧ d.kind ≠ 3 ∧ d.kind ≠ 4 ∧ d.kind ≠ 5 ∧ d.kind ≠ 6 ∧ d.kind ≠ 7 := by omega
        simp [errA, k1]
      rw [show doE p d = 2 by simp [doE, hp, he], show doQ p d = noPlant by simp [doQ, doE, hp, he]]
      exact f_zero_end (f_Do_kind p d a cap w hx hc hM hz hp (by omega) (by simp [inB]; omega))

end Go.Proofs.Ytemafanncejeiaa

/-
  The outright statements of chapter 3: contracts in one value; the parts of the examples.
-/
namespace Go.Proofs.Ytemafanncejeiaa
open Go.RowKit Bal Bal.Trim Bal.Gas
set_option linter.unusedVariables false
set_option linter.unusedSimpArgs false
set_option maxHeartbeats 4000000
set_option maxRecDepth 100000

theorem f_VolumeC (c : Cell) (a : Air) (w : World) : Calls Try.prog 22 #[.agg #[.int .i64 c.room, .int .i64 c.helium, .int .i64 c.air, .int .i64 c.wlo, .int .i64 c.whi, .int .i64 c.leak, .int .i64 c.owed], .agg #[.int .i64 a.plo, .int .i64 a.phi, .int .i64 a.tlo, .int .i64 a.thi]] w fun e w' => e = .returned (.tuple #[.agg #[.int .i64 (Bal.Gas.ifOk (asked c a) (volLo c a)), .int .i64 (Bal.Gas.ifOk (asked c a) (volHi c a))], .int .i64 (asked c a)]) ∧ Kept w w' := by
  cases hv : cellB c
  · rw [show asked c a = 31 by simp [asked, hv]]
    exact f_Volume_bad c a w hv
  · cases ha : airB a
    · rw [show asked c a = 30 by simp [asked, hv, checkAir, ha]]
      exact f_Volume_air c a w hv ha
    · rw [show asked c a = 0 by simp [asked, hv, checkAir, ha]]
      exact f_Volume_ok c a w hv ha

theorem f_LiftC (c : Cell) (a : Air) (w : World) : Calls Try.prog 30 #[.agg #[.int .i64 c.room, .int .i64 c.helium, .int .i64 c.air, .int .i64 c.wlo, .int .i64 c.whi, .int .i64 c.leak, .int .i64 c.owed], .agg #[.int .i64 a.plo, .int .i64 a.phi, .int .i64 a.tlo, .int .i64 a.thi]] w fun e w' => e = .returned (.tuple #[.agg #[.int .i64 (Bal.Gas.ifOk (asked c a) (liftLo c a)), .int .i64 (Bal.Gas.ifOk (asked c a) (liftHi c a))], .int .i64 (asked c a)]) ∧ Kept w w' := by
  cases hv : cellB c
  · rw [show asked c a = 31 by simp [asked, hv]]
    exact f_Lift_bad c a w hv
  · cases ha : airB a
    · rw [show asked c a = 30 by simp [asked, hv, checkAir, ha]]
      exact f_Lift_air c a w hv ha
    · rw [show asked c a = 0 by simp [asked, hv, checkAir, ha]]
      exact f_Lift_ok c a w hv ha

theorem f_ValvingC (c : Cell) (a : Air) (w : World) : Calls Try.prog 34 #[.agg #[.int .i64 c.room, .int .i64 c.helium, .int .i64 c.air, .int .i64 c.wlo, .int .i64 c.whi, .int .i64 c.leak, .int .i64 c.owed], .agg #[.int .i64 a.plo, .int .i64 a.phi, .int .i64 a.tlo, .int .i64 a.thi]] w fun e w' => e = .returned (.tuple #[.agg #[.int .i64 (Bal.Gas.ifOk (asked c a) (valveLo c a)), .int .i64 (Bal.Gas.ifOk (asked c a) (valveHi c a))], .int .i64 (asked c a)]) ∧ Kept w w' := by
  cases hv : cellB c
  · rw [show asked c a = 31 by simp [asked, hv]]
    exact f_Valving_bad c a w hv
  · cases ha : airB a
    · rw [show asked c a = 30 by simp [asked, hv, checkAir, ha]]
      exact f_Valving_air c a w hv ha
    · rw [show asked c a = 0 by simp [asked, hv, checkAir, ha]]
      exact f_Valving_ok c a w hv ha

theorem f_FitsC (c : Cell) (a : Air) (w : World) : Calls Try.prog 24 #[.agg #[.int .i64 c.room, .int .i64 c.helium, .int .i64 c.air, .int .i64 c.wlo, .int .i64 c.whi, .int .i64 c.leak, .int .i64 c.owed], .agg #[.int .i64 a.plo, .int .i64 a.phi, .int .i64 a.tlo, .int .i64 a.thi]] w fun e w' => e = .returned (.tuple #[.int .u8 (Bal.Gas.ifOk (asked c a) (state c a)), .int .i64 (asked c a)]) ∧ Kept w w' := by
  cases hv : cellB c
  · rw [show asked c a = 31 by simp [asked, hv]]
    exact f_Fits_bad c a w hv
  · cases ha : airB a
    · rw [show asked c a = 30 by simp [asked, hv, checkAir, ha]]
      exact f_Fits_air c a w hv ha
    · rw [show asked c a = 0 by simp [asked, hv, checkAir, ha]]
      exact f_Fits_ok c a w hv ha

def ceilE (c : Cell) (x y : Int) : Int := if cellB c then (if spanIn x y 1500 3500 then 0 else 2) else 31
theorem f_CeilingC (c : Cell) (x y : Int) (w : World) : Calls Try.prog 32 #[.agg #[.int .i64 c.room, .int .i64 c.helium, .int .i64 c.air, .int .i64 c.wlo, .int .i64 c.whi, .int .i64 c.leak, .int .i64 c.owed], .agg #[.int .i64 x, .int .i64 y]] w fun e w' => e = .returned (.tuple #[.agg #[.int .i64 (Bal.Gas.ifOk (ceilE c x y) (ceilLo c x)), .int .i64 (Bal.Gas.ifOk (ceilE c x y) (ceilHi c y))], .int .i64 (ceilE c x y)]) ∧ Kept w w' := by
  cases hv : cellB c
  · rw [show ceilE c x y = 31 by simp [ceilE, hv]]
    exact f_Ceiling_bad c x y w hv
  · cases ha : spanIn x y 1500 3500
    · rw [show ceilE c x y = 2 by simp [ceilE, hv, ha]]
      exact f_Ceiling_arg c x y w hv ha
    · rw [show ceilE c x y = 0 by simp [ceilE, hv, ha]]
      exact f_Ceiling_ok c x y w hv ha

theorem o_one (x : Int) (w : World) : Calls Try.prog 69 #[.int .i64 x] w fun e w' => e = .returned (.agg #[.int .i64 (x), .int .i64 (x)]) ∧ Kept w w' := by
  go_enter Try.func69, Try.ntmps69
  go_wp2
  exact bodyPost_ret (v := .agg #[.int .i64 (x), .int .i64 (x)]) (by simp [results, Try.results69, go_sem]) rfl ⟨rfl, by (exact kpt)⟩

theorem o_cell (w : World) : Calls Try.prog 75 #[] w fun e w' => e = .returned (.agg #[.int .i64 300, .int .i64 900, .int .i64 100, .int .i64 0, .int .i64 0, .int .i64 0, .int .i64 0]) ∧ Kept w w' := by
  go_enter Try.func75, Try.ntmps75
  go_wp2
  exact bodyPost_ret (v := .agg #[.int .i64 300, .int .i64 900, .int .i64 100, .int .i64 0, .int .i64 0, .int .i64 0, .int .i64 0]) (by simp [results, Try.results75, go_sem]) rfl ⟨rfl, by (exact kpt)⟩

theorem o_hull (w : World) : Calls Try.prog 78 #[] w fun e w' => e = .returned (.agg #[.int .i64 3000, .int .i64 9000, .int .i64 0, .int .i64 0, .int .i64 1380, .int .i64 5000, .int .i64 20, .int .i64 60]) ∧ Kept w w' := by
  go_enter Try.func78, Try.ntmps78
  go_wp2
  exact bodyPost_ret (v := .agg #[.int .i64 3000, .int .i64 9000, .int .i64 0, .int .i64 0, .int .i64 1380, .int .i64 5000, .int .i64 20, .int .i64 60]) (by simp [results, Try.results78, go_sem]) rfl ⟨rfl, by (exact kpt)⟩

theorem o_still (w : World) : Calls Try.prog 76 #[] w fun e w' => e = .returned (.agg #[.int .i64 10000, .int .i64 10000, .int .i64 2900, .int .i64 2900]) ∧ Kept w w' := by
  go_enter Try.func76, Try.ntmps76
  go_wp2_with (go_at_call 69; (with_reducible refine (o_one _ _).mono ?_); rintro e w1 ⟨rfl, hb1⟩; refine Blk.thru (b := w.heap.size) (arr := ?_) (t := ?_) ?_ hb1 ?_; rotate_left 2; (focus (exact blk)); intro qr; have qrc0 := qr.cell 0; have qrf0 := qr.free 0; have qrc1 := qr.cell 1; have qrf1 := qr.free 1; have qrc2 := qr.cell 2; have qrf2 := qr.free 2; have qrc3 := qr.cell 3; have qrf3 := qr.free 3; have qrl := qr.lt; simp at qrc0 qrc1 qrc2 qrc3)
  exact bodyPost_ret (v := .agg #[.int .i64 10000, .int .i64 10000, .int .i64 2900, .int .i64 2900]) (by simp [results, Try.results76, go_sem, qrc0, qrf0, qrc1, qrf1, qrc2, qrf2, qrc3, qrf3]) rfl ⟨rfl, by (exact kpt)⟩

theorem o_plant (w : World) : Calls Try.prog 77 #[] w fun e w' => ∃ n, e = .returned (.agg #[.slice (some ⟨n, 0, none⟩) 1 1, .int .i64 50, .int .i64 950, .int .i64 100, .int .i64 0, .int .i64 0, .int .i64 0, .int .i64 0, .int .i64 0, .int .i64 0]) ∧ Blk w' n #[.int .i64 300, .int .i64 900, .int .i64 100, .int .i64 0, .int .i64 0, .int .i64 0, .int .i64 0] 25 ∧ Kept w w' := by
  go_enter Try.func77, Try.ntmps77
  go_wp2_with (go_at_call 75; (with_reducible refine (o_cell _).mono ?_); rintro e w1 ⟨rfl, hb1⟩; refine Blk.thru (b := w.heap.size) (arr := ?_) (t := ?_) ?_ hb1 ?_; rotate_left 2; (focus (exact blk)); intro qr; have qrc0 := qr.cell 0; have qrf0 := qr.free 0; have qrc1 := qr.cell 1; have qrf1 := qr.free 1; have qrc2 := qr.cell 2; have qrf2 := qr.free 2; have qrc3 := qr.cell 3; have qrf3 := qr.free 3; have qrc4 := qr.cell 4; have qrf4 := qr.free 4; have qrc5 := qr.cell 5; have qrf5 := qr.free 5; have qrc6 := qr.cell 6; have qrf6 := qr.free 6; have qrc7 := qr.cell 7; have qrf7 := qr.free 7; have qrc8 := qr.cell 8; have qrf8 := qr.free 8; have qrc9 := qr.cell 9; have qrf9 := qr.free 9; have qrl := qr.lt; simp at qrc0 qrc1 qrc2 qrc3 qrc4 qrc5 qrc6 qrc7 qrc8 qrc9)
  exact bodyPost_ret (v := .agg #[.slice (some ⟨w1.heap.size, 0, none⟩) 1 1, .int .i64 50, .int .i64 950, .int .i64 100, .int .i64 0, .int .i64 0, .int .i64 0, .int .i64 0, .int .i64 0, .int .i64 0]) (by simp [results, Try.results77, go_sem, qrc0, qrf0, qrc1, qrf1, qrc2, qrf2, qrc3, qrf3, qrc4, qrf4, qrc5, qrf5, qrc6, qrf6, qrc7, qrf7, qrc8, qrf8, qrc9, qrf9, qrl]) rfl ⟨_, rfl, by (exact blkc), by (exact kpt)⟩

end Go.Proofs.Ytemafanncejeiaa

/-
  The outright statements of chapter 3: the history of the examples; alive.
-/
namespace Go.Proofs.Ytemafanncejeiaa
open Go.RowKit Bal Bal.Trim Bal.Gas
set_option linter.unusedVariables false
set_option linter.unusedSimpArgs false
set_option maxHeartbeats 4000000
set_option maxRecDepth 100000

def hisT (w0 : Nat) (lo hi : Int) (n5 n8 n14 n16 n18 : Nat) (L : Nat → Bool) : Array Value := #[.int .i64 lo, .int .i64 hi, undef, undef, .pointer (some ⟨w0, 0, none⟩), cond (L 0) (.slice (some ⟨n5, 0, none⟩) 1 1) undef, cond (L 1) (.agg #[.int .i64 10000, .int .i64 10000, .int .i64 2900, .int .i64 2900]) undef, cond (L 2) (.agg #[.int .i64 289, .int .i64 290]) undef, cond (L 3) (.slice (some ⟨n8, 0, none⟩) 1 1) undef, cond (L 4) (.agg #[.int .i64 0, .int .i64 10000, .int .i64 10000, .int .i64 2900, .int .i64 2900, .slice (some ⟨n8, 0, none⟩) 1 1]) undef, cond (L 5) (.agg #[.int .i64 10000, .int .i64 10000, .int .i64 2900, .int .i64 2900]) undef, cond (L 6) (.int .i64 lo) undef, cond (L 7) (.int .i64 hi) undef, cond (L 8) (.agg #[.int .i64 lo, .int .i64 hi]) undef, cond (L 9) (.slice (some ⟨n14, 0, none⟩) 1 1) undef, cond (L 10) (.agg #[.int .i64 10, .int .i64 10000, .int .i64 10000, .int .i64 2900, .int .i64 2900, .slice (some ⟨n14, 0, none⟩) 1 1]) undef, cond (L 11) (.slice (some ⟨n16, 0, none⟩) 2 2) undef, cond (L 12) (.agg #[.int .i64 5, .int .i64 0, .int .i64 (-5)]) undef, cond (L 13) (.slice (some ⟨n18, 0, none⟩) 1 1) undef, cond (L 14) (.agg #[.slice (some ⟨n5, 0, none⟩) 1 1, .slice (some ⟨n16, 0, none⟩) 2 2, .slice (some ⟨n18, 0, none⟩) 1 1]) undef]

def HisR (w : World) (lo hi : Int) (n5 n8 n14 n16 n18 : Nat) (L : Nat → Bool) (X : World) : Prop :=
  (L 4 = true → L 3 = true) ∧ (L 10 = true → L 9 = true) ∧ (L 11 = true → L 4 = true ∧ L 10 = true) ∧ (L 14 = true → L 0 = true ∧ L 11 = true ∧ L 13 = true) ∧ (L 15 = true → L 14 = true) ∧
    Blk X w.heap.size (cond (L 15) #[.slice (some ⟨n5, 0, none⟩) 1 1, .slice (some ⟨n16, 0, none⟩) 2 2, .slice (some ⟨n18, 0, none⟩) 1 1] #[.slice none 0 0, .slice none 0 0, .slice none 0 0]) 85 ∧ Kept w X ∧ (L 0 = true → Blk X n5 #[.int .i64 0, .int .i64 0] 23) ∧ (L 3 = true → Blk X n8 #[.int .i64 289, .int .i64 290] 23) ∧ (L 9 = true → Blk X n14 #[.int .i64 lo, .int .i64 hi] 23) ∧ (L 11 = true → Blk X n16 #[.int .i64 0, .int .i64 10000, .int .i64 10000, .int .i64 2900, .int .i64 2900, .slice (some ⟨n8, 0, none⟩) 1 1, .int .i64 10, .int .i64 10000, .int .i64 10000, .int .i64 2900, .int .i64 2900, .slice (some ⟨n14, 0, none⟩) 1 1] 124) ∧ (L 13 = true → Blk X n18 #[.int .i64 5, .int .i64 0, .int .i64 (-5)] 128)
def histX (lo hi : Int) (n8 n14 : Nat) : Hist := ⟨[⟨0, 0⟩], [⟨0, ⟨10000, 10000, 2900, 2900⟩, some (n8, 0, none), 1, [⟨289, 290⟩]⟩, ⟨10, ⟨10000, 10000, 2900, 2900⟩, some (n14, 0, none), 1, [⟨lo, hi⟩]⟩], [⟨5, 0, -5⟩]⟩
theorem HisR.keep {w : World} {lo hi : Int} {n5 n8 n14 n16 n18 : Nat} {L : Nat → Bool} {X Y : World} (h : HisR w lo hi n5 n8 n14 n16 n18 L X) (k : Kept X Y) : HisR w lo hi n5 n8 n14 n16 n18 L Y := by
  obtain ⟨c1, c2, c3, c4, c5, b, hk, b0, b1, b2, b3, b4⟩ := h
  exact ⟨c1, c2, c3, c4, c5, Blk.keep b k, Kept.drop hk k, fun e => Blk.keep (b0 e) k, fun e => Blk.keep (b1 e) k, fun e => Blk.keep (b2 e) k, fun e => Blk.keep (b3 e) k, fun e => Blk.keep (b4 e) k⟩
theorem o_history (lo hi : Int) (w : World) : Calls Try.prog 79 #[.int .i64 lo, .int .i64 hi] w fun e w' => ∃ n5 n8 n14 n16 n18, e = .returned (.agg #[.slice (some ⟨n5, 0, none⟩) 1 1, .slice (some ⟨n16, 0, none⟩) 2 2, .slice (some ⟨n18, 0, none⟩) 1 1]) ∧
    HistAt (histX lo hi n8 n14) ⟨some ⟨n5, 0, none⟩, some ⟨n16, 0, none⟩, some ⟨n18, 0, none⟩, 1, 2, 1⟩ w' ∧ Kept w w' := by
  have mk1 : ∀ W : World, (Instr.makeSlice 81 (.int .i64 1) (.int .i64 1)).run Try.prog W = .ok (.slice (some ⟨W.heap.size, 0, none⟩) 1 1) (W.alloc (.cells #[.int .i64 0, .int .i64 0] 23)) := fun W => by
    obtain ⟨i0, hi, hz0, hz1, hz2⟩ := info_parts infoSp
    have := run_make (P := Try.prog) W 81 23 i0 (.agg #[.int .i64 0, .int .i64 0]) Try.underlying81 hi hz0 .i64 .i64 1 1 (by omega) (Int.le_refl _) (by rw [hz2]; omega) (by omega)
    rw [this, hz1]
    have hm : madeCells (Value.cells (.agg #[.int .i64 0, .int .i64 0])) ((1 : Int).toNat * 2) = #[.int .i64 0, .int .i64 0] := by
      apply Array.ext
      · simp [madeCells]
      · intro i h1 h2
        simp at h2
        obtain rfl | rfl : i = 0 ∨ i = 1 := by omega
        · simp [madeCells, Value.cells]
        · simp [madeCells, Value.cells]
    rw [hm]
    rfl
  go_enter Try.func79, Try.ntmps79
  go_upto_region 1 with fail
  refine wp_region_any (by kernel_rfl) (wpAny_rel (fun L a X => ∃ n5 n8 n14 n16 n18, a = ⟨hisT w.heap.size lo hi n5 n8 n14 n16 n18 L, []⟩ ∧ HisR w lo hi n5 n8 n14 n16 n18 L X)
      (by intro i oi hoi; have hlt := (Array.getElem?_eq_some_iff.1 hoi).1; simp only [List.size_toArray, List.length_cons, List.length_nil, Nat.reduceAdd] at hlt; obtain rfl | rfl | rfl | rfl | rfl | rfl | rfl | rfl | rfl | rfl | rfl | rfl | rfl | rfl | rfl | rfl : i = 0 ∨ i = 1 ∨ i = 2 ∨ i = 3 ∨ i = 4 ∨ i = 5 ∨ i = 6 ∨ i = 7 ∨ i = 8 ∨ i = 9 ∨ i = 10 ∨ i = 11 ∨ i = 12 ∨ i = 13 ∨ i = 14 ∨ i = 15 := by omega
          all_goals (simp at hoi; subst hoi; refine ⟨rfl, ?_⟩; simp [Region.binds])) ?_ ?_ ?_)
  · exact ⟨0, 0, 0, 0, 0, rfl, fun h => (by cases h), fun h => (by cases h), fun h => (by cases h), fun h => (by cases h), fun h => (by cases h), Blk.new, Below.drew (Kept.alloc (Below.refl _ _) _), fun h => (by cases h), fun h => (by cases h), fun h => (by cases h), fun h => (by cases h), fun h => (by cases h)⟩
  · intro m oi hoi L a X hL hd ⟨n5, n8, n14, n16, n18, ha, hR⟩ K hK
    subst ha
    have hlt := (Array.getElem?_eq_some_iff.1 hoi).1
    simp only [List.size_toArray, List.length_cons, List.length_nil, Nat.reduceAdd] at hlt
    obtain ⟨c1, c2, c3, c4, c5, b, hk, b0, b1, b2, b3, b4⟩ := id hR
    obtain rfl | rfl | rfl | rfl | rfl | rfl | rfl | rfl | rfl | rfl | rfl | rfl | rfl | rfl | rfl | rfl : m = 0 ∨ m = 1 ∨ m = 2 ∨ m = 3 ∨ m = 4 ∨ m = 5 ∨ m = 6 ∨ m = 7 ∨ m = 8 ∨ m = 9 ∨ m = 10 ∨ m = 11 ∨ m = 12 ∨ m = 13 ∨ m = 14 ∨ m = 15 := by omega
    all_goals (simp at hoi; subst hoi; simp [Region.binds] at hd)
    · -- operation 0
      have f14 : L 14 = false := by (cases e : L 14 with | false => rfl | true => (exfalso; simp_all))
      have f15 : L 15 = false := by (cases e : L 15 with | false => rfl | true => (exfalso; simp_all))
      have z := hK ⟨hisT w.heap.size lo hi X.heap.size n8 n14 n16 n18 (upL L 0), []⟩ (X.alloc (.cells #[.int .i64 0, .int .i64 0] 23)) ⟨X.heap.size, n8, n14, n16, n18, rfl, c1, c2, c3, fun e => absurd (show L 14 = true from e) (by rw [f14]; simp), c5, Blk.cast (Blk.alloc b _) (by simp [upL, f15]), Kept.alloc hk _, fun _ => Blk.new, fun e => Blk.alloc (b1 e) _, fun e => Blk.alloc (b2 e) _, fun e => Blk.alloc (b3 e) _, fun e => Blk.alloc (b4 e) _⟩
      simp [hisT, upL, hd, f14, f15] at z
      clear c1 c2 c3 c4 c5 hR
      unfold hisT
      go_simp
      first | exact z | simpa using z | (simp [hd, f14, f15]; exact z)
    · -- operation 1
      unfold hisT
      go_wp2_with (go_at_call 76; (with_reducible refine (o_still _).mono ?_); rintro e w1 ⟨rfl, hb1⟩)
      exact ⟨n5, n8, n14, n16, n18, by simp [hisT, upL, hd], (show HisR w lo hi n5 n8 n14 n16 n18 (upL L 1) X from hR).keep hb1⟩
    · -- operation 2
      have z := hK ⟨hisT w.heap.size lo hi n5 n8 n14 n16 n18 (upL L 2), []⟩ X ⟨n5, n8, n14, n16, n18, rfl, c1, c2, c3, c4, c5, b, hk, b0, b1, b2, b3, b4⟩
      simp [hisT, upL, hd] at z
      clear c1 c2 c3 c4 c5 hR
      unfold hisT
      go_simp
      first | exact z | simpa using z | (simp [hd]; exact z)
    · -- operation 3
      have f4 : L 4 = false := by (cases e : L 4 with | false => rfl | true => (exfalso; simp_all))
      have f11 : L 11 = false := by (cases e : L 11 with | false => rfl | true => (exfalso; simp_all))
      have f14 : L 14 = false := by (cases e : L 14 with | false => rfl | true => (exfalso; simp_all))
      have f15 : L 15 = false := by (cases e : L 15 with | false => rfl | true => (exfalso; simp_all))
      have z := hK ⟨hisT w.heap.size lo hi n5 X.heap.size n14 n16 n18 (upL L 3), []⟩ (X.alloc (.cells #[.int .i64 289, .int .i64 290] 23)) ⟨n5, X.heap.size, n14, n16, n18, rfl, fun _ => rfl, c2, c3, c4, c5, Blk.cast (Blk.alloc b _) (by simp [upL, f15]), Kept.alloc hk _, fun e => Blk.alloc (b0 e) _, fun _ => Blk.new, fun e => Blk.alloc (b2 e) _, fun e => absurd (show L 11 = true from e) (by rw [f11]; simp), fun e => Blk.alloc (b4 e) _⟩
      simp [hisT, upL, hd, f4, f11, f14, f15] at z
      clear c1 c2 c3 c4 c5 hR
      unfold hisT
      go_simp
      first | exact z | simpa using z | (simp [hd, f4, f11, f14, f15]; exact z)
    · -- operation 4
      have z := hK ⟨hisT w.heap.size lo hi n5 n8 n14 n16 n18 (upL L 4), []⟩ X ⟨n5, n8, n14, n16, n18, rfl, fun _ => by simp [upL, hd], c2, fun e => ⟨rfl, (c3 e).2⟩, c4, c5, b, hk, b0, b1, b2, b3, b4⟩
      simp [hisT, upL, hd] at z
      clear c1 c2 c3 c4 c5 hR
      unfold hisT
      go_simp
      first | exact z | simpa using z | (simp [hd]; exact z)
    · -- operation 5
      unfold hisT
      go_wp2_with (go_at_call 76; (with_reducible refine (o_still _).mono ?_); rintro e w1 ⟨rfl, hb1⟩)
      exact ⟨n5, n8, n14, n16, n18, by simp [hisT, upL, hd], (show HisR w lo hi n5 n8 n14 n16 n18 (upL L 5) X from hR).keep hb1⟩
    · -- operation 6
      have z := hK ⟨hisT w.heap.size lo hi n5 n8 n14 n16 n18 (upL L 6), []⟩ X ⟨n5, n8, n14, n16, n18, rfl, c1, c2, c3, c4, c5, b, hk, b0, b1, b2, b3, b4⟩
      simp [hisT, upL, hd] at z
      clear c1 c2 c3 c4 c5 hR
      unfold hisT
      go_simp
      first | exact z | simpa using z | (simp [hd]; exact z)
    · -- operation 7
      have z := hK ⟨hisT w.heap.size lo hi n5 n8 n14 n16 n18 (upL L 7), []⟩ X ⟨n5, n8, n14, n16, n18, rfl, c1, c2, c3, c4, c5, b, hk, b0, b1, b2, b3, b4⟩
      simp [hisT, upL, hd] at z
      clear c1 c2 c3 c4 c5 hR
      unfold hisT
      go_simp
      first | exact z | simpa using z | (simp [hd]; exact z)
    · -- operation 8
      have z := hK ⟨hisT w.heap.size lo hi n5 n8 n14 n16 n18 (upL L 8), []⟩ X ⟨n5, n8, n14, n16, n18, rfl, c1, c2, c3, c4, c5, b, hk, b0, b1, b2, b3, b4⟩
      simp [hisT, upL, hd] at z
      clear c1 c2 c3 c4 c5 hR
      unfold hisT
      go_simp
      first | exact z | simpa using z | (simp [hd]; exact z)
    · -- operation 9
      have f10 : L 10 = false := by (cases e : L 10 with | false => rfl | true => (exfalso; simp_all))
      have f11 : L 11 = false := by (cases e : L 11 with | false => rfl | true => (exfalso; simp_all))
      have f14 : L 14 = false := by (cases e : L 14 with | false => rfl | true => (exfalso; simp_all))
      have f15 : L 15 = false := by (cases e : L 15 with | false => rfl | true => (exfalso; simp_all))
      have z := hK ⟨hisT w.heap.size lo hi n5 n8 X.heap.size n16 n18 (upL L 9), []⟩ (X.alloc (.cells #[.int .i64 lo, .int .i64 hi] 23)) ⟨n5, n8, X.heap.size, n16, n18, rfl, c1, fun _ => rfl, c3, c4, c5, Blk.cast (Blk.alloc b _) (by simp [upL, f15]), Kept.alloc hk _, fun e => Blk.alloc (b0 e) _, fun e => Blk.alloc (b1 e) _, fun _ => Blk.new, fun e => absurd (show L 11 = true from e) (by rw [f11]; simp), fun e => Blk.alloc (b4 e) _⟩
      simp [hisT, upL, hd, f10, f11, f14, f15] at z
      clear c1 c2 c3 c4 c5 hR
      unfold hisT
      go_simp
      first | exact z | simpa using z | (simp [hd, f10, f11, f14, f15]; exact z)
    · -- operation 10
      have z := hK ⟨hisT w.heap.size lo hi n5 n8 n14 n16 n18 (upL L 10), []⟩ X ⟨n5, n8, n14, n16, n18, rfl, c1, fun _ => by simp [upL, hd], fun e => ⟨(c3 e).1, rfl⟩, c4, c5, b, hk, b0, b1, b2, b3, b4⟩
      simp [hisT, upL, hd] at z
      clear c1 c2 c3 c4 c5 hR
      unfold hisT
      go_simp
      first | exact z | simpa using z | (simp [hd]; exact z)
    · -- operation 11
      have f14 : L 14 = false := by (cases e : L 14 with | false => rfl | true => (exfalso; simp_all))
      have f15 : L 15 = false := by (cases e : L 15 with | false => rfl | true => (exfalso; simp_all))
      have z := hK ⟨hisT w.heap.size lo hi n5 n8 n14 X.heap.size n18 (upL L 11), []⟩ (X.alloc (.cells #[.int .i64 0, .int .i64 10000, .int .i64 10000, .int .i64 2900, .int .i64 2900, .slice (some ⟨n8, 0, none⟩) 1 1, .int .i64 10, .int .i64 10000, .int .i64 10000, .int .i64 2900, .int .i64 2900, .slice (some ⟨n14, 0, none⟩) 1 1] 124)) ⟨n5, n8, n14, X.heap.size, n18, rfl, c1, c2, fun _ => by simp [upL, hd], fun e => absurd (show L 14 = true from e) (by rw [f14]; simp), c5, Blk.cast (Blk.alloc b _) (by simp [upL, f15]), Kept.alloc hk _, fun e => Blk.alloc (b0 e) _, fun e => Blk.alloc (b1 e) _, fun e => Blk.alloc (b2 e) _, fun _ => Blk.new, fun e => Blk.alloc (b4 e) _⟩
      simp [hisT, upL, hd, f14, f15] at z
      clear c1 c2 c3 c4 c5 hR
      unfold hisT
      go_simp
      first | exact z | simpa using z | (simp [hd, f14, f15]; exact z)
    · -- operation 12
      have z := hK ⟨hisT w.heap.size lo hi n5 n8 n14 n16 n18 (upL L 12), []⟩ X ⟨n5, n8, n14, n16, n18, rfl, c1, c2, c3, c4, c5, b, hk, b0, b1, b2, b3, b4⟩
      simp [hisT, upL, hd] at z
      clear c1 c2 c3 c4 c5 hR
      unfold hisT
      go_simp
      first | exact z | simpa using z | (simp [hd]; exact z)
    · -- operation 13
      have f14 : L 14 = false := by (cases e : L 14 with | false => rfl | true => (exfalso; simp_all))
      have f15 : L 15 = false := by (cases e : L 15 with | false => rfl | true => (exfalso; simp_all))
      have z := hK ⟨hisT w.heap.size lo hi n5 n8 n14 n16 X.heap.size (upL L 13), []⟩ (X.alloc (.cells #[.int .i64 5, .int .i64 0, .int .i64 (-5)] 128)) ⟨n5, n8, n14, n16, X.heap.size, rfl, c1, c2, c3, fun e => absurd (show L 14 = true from e) (by rw [f14]; simp), c5, Blk.cast (Blk.alloc b _) (by simp [upL, f15]), Kept.alloc hk _, fun e => Blk.alloc (b0 e) _, fun e => Blk.alloc (b1 e) _, fun e => Blk.alloc (b2 e) _, fun e => Blk.alloc (b3 e) _, fun _ => Blk.new⟩
      simp [hisT, upL, hd, f14, f15] at z
      clear c1 c2 c3 c4 c5 hR
      unfold hisT
      go_simp
      first | exact z | simpa using z | (simp [hd, f14, f15]; exact z)
    · -- operation 14
      have z := hK ⟨hisT w.heap.size lo hi n5 n8 n14 n16 n18 (upL L 14), []⟩ X ⟨n5, n8, n14, n16, n18, rfl, c1, c2, c3, fun _ => by simp [upL, hd], fun _ => rfl, b, hk, b0, b1, b2, b3, b4⟩
      simp [hisT, upL, hd] at z
      clear c1 c2 c3 c4 c5 hR
      unfold hisT
      go_simp
      first | exact z | simpa using z | (simp [hd]; exact z)
    · -- operation 15
      have g0 := Blk.free b 0
      have g1 := Blk.free b 1
      have g2 := Blk.free b 2
      have gl := Blk.lt b
      have f15 : L 15 = false := hL
      rw [f15] at b
      have gc0 := Blk.cell b 0
      have gc1 := Blk.cell b 1
      have gc2 := Blk.cell b 2
      simp at gc0 gc1 gc2
      have z := hK ⟨hisT w.heap.size lo hi n5 n8 n14 n16 n18 (upL L 15), []⟩ (((X.setCell ⟨w.heap.size, 0, none⟩ (.slice (some ⟨n5, 0, none⟩) 1 1)).setCell ⟨w.heap.size, 1, none⟩ (.slice (some ⟨n16, 0, none⟩) 2 2)).setCell ⟨w.heap.size, 2, none⟩ (.slice (some ⟨n18, 0, none⟩) 1 1)) ⟨n5, n8, n14, n16, n18, rfl, c1, c2, c3, c4, fun _ => by simp [upL, hd], Blk.cast (Blk.set (Blk.set (Blk.set b 0 _) 1 _) 2 _) (by simp [upL]), by exact kpt, fun e => Blk.other (Blk.other (Blk.other (b0 e) (Blk.ne b (b0 e) (by decide)) _) (Blk.ne b (b0 e) (by decide)) _) (Blk.ne b (b0 e) (by decide)) _, fun e => Blk.other (Blk.other (Blk.other (b1 e) (Blk.ne b (b1 e) (by decide)) _) (Blk.ne b (b1 e) (by decide)) _) (Blk.ne b (b1 e) (by decide)) _, fun e => Blk.other (Blk.other (Blk.other (b2 e) (Blk.ne b (b2 e) (by decide)) _) (Blk.ne b (b2 e) (by decide)) _) (Blk.ne b (b2 e) (by decide)) _, fun e => Blk.other (Blk.other (Blk.other (b3 e) (Blk.ne b (b3 e) (by decide)) _) (Blk.ne b (b3 e) (by decide)) _) (Blk.ne b (b3 e) (by decide)) _, fun e => Blk.other (Blk.other (Blk.other (b4 e) (Blk.ne b (b4 e) (by decide)) _) (Blk.ne b (b4 e) (by decide)) _) (Blk.ne b (b4 e) (by decide)) _⟩
      simp [hisT, upL, hd] at z
      clear c1 c2 c3 c4 c5 hR
      unfold hisT
      go_simp
      first | exact z | simpa using z | (simp [hd]; exact z)
  · intro L a X hall ⟨n5, n8, n14, n16, n18, ha, hR⟩
    subst ha
    obtain ⟨_, _, _, _, _, b, hk, b0, b1, b2, b3, b4⟩ := hR
    simp only [List.size_toArray, List.length_cons, List.length_nil, Nat.reduceAdd] at hall
    have c0 := b0 (hall 0 (by omega))
    have c1 := b1 (hall 3 (by omega))
    have c2 := b2 (hall 9 (by omega))
    have c3 := b3 (hall 11 (by omega))
    have c4 := b4 (hall 13 (by omega))
    rw [hall 15 (by omega), cond_true] at b
    unfold hisT
    simp only [hall 0 (by omega), hall 1 (by omega), hall 2 (by omega), hall 3 (by omega), hall 4 (by omega), hall 5 (by omega), hall 6 (by omega), hall 7 (by omega), hall 8 (by omega), hall 9 (by omega), hall 10 (by omega), hall 11 (by omega), hall 12 (by omega), hall 13 (by omega), hall 14 (by omega), cond_true]
    clear b0 b1 b2 b3 b4 hall
    have bc0 := b.cell 0
    have bf0 := b.free 0
    have bc1 := b.cell 1
    have bf1 := b.free 1
    have bc2 := b.cell 2
    have bf2 := b.free 2
    have bl := b.lt
    simp at bc0 bc1 bc2
    go_wp2
    refine bodyPost_ret (v := .agg #[.slice (some ⟨n5, 0, none⟩) 1 1, .slice (some ⟨n16, 0, none⟩) 2 2, .slice (some ⟨n18, 0, none⟩) 1 1]) (by simp [results, Try.results79, go_sem, bc0, bc1, bc2]) rfl ⟨n5, n8, n14, n16, n18, rfl, ⟨Row.block (fun _ => rfl) c0 rfl, Row.block (fun _ => rfl) c3 rfl, Row.block (fun _ => rfl) c4 rfl, fun g hg => ?_, Nat.le_refl _, Nat.le_refl _, Nat.le_refl _, by simp [maxLen], by simp [maxLen], by simp [maxLen], fun g hg => ?_⟩, hk⟩
    · simp only [histX, List.mem_cons, List.not_mem_nil, or_false] at hg
      rcases hg with rfl | rfl
      · exact Row.block (fun _ => rfl) c1 rfl
      · exact Row.block (fun _ => rfl) c2 rfl
    · simp only [histX, List.mem_cons, List.not_mem_nil, or_false] at hg
      rcases hg with rfl | rfl <;> simp [maxLen]

end Go.Proofs.Ytemafanncejeiaa

/-
  The outright statements of chapter 3: alive.
-/
namespace Go.Proofs.Ytemafanncejeiaa
open Go.RowKit Bal Bal.Trim Bal.Gas
set_option linter.unusedVariables false
set_option linter.unusedSimpArgs false
set_option maxHeartbeats 4000000
set_option maxRecDepth 100000

theorem o_vol (w : World) : Calls Try.prog 22 #[.agg #[.int .i64 300, .int .i64 900, .int .i64 100, .int .i64 0, .int .i64 0, .int .i64 0, .int .i64 0], .agg #[.int .i64 10000, .int .i64 10000, .int .i64 2900, .int .i64 2900]] w fun e w' => e = .returned (.tuple #[.agg #[.int .i64 290, .int .i64 290], .int .i64 0]) ∧ Kept w w' := by
  have h := f_Volume_ok (⟨300, 900, 100, 0, 0, 0, 0⟩ : Cell) (⟨10000, 10000, 2900, 2900⟩ : Air) w (by decide) (by decide)
  rw [show volLo (⟨300, 900, 100, 0, 0, 0, 0⟩ : Cell) (⟨10000, 10000, 2900, 2900⟩ : Air) = 290 by decide, show volHi (⟨300, 900, 100, 0, 0, 0, 0⟩ : Cell) (⟨10000, 10000, 2900, 2900⟩ : Air) = 290 by decide] at h
  exact h
theorem o_lift (w : World) : Calls Try.prog 30 #[.agg #[.int .i64 300, .int .i64 900, .int .i64 100, .int .i64 0, .int .i64 0, .int .i64 0, .int .i64 0], .agg #[.int .i64 10000, .int .i64 10000, .int .i64 2900, .int .i64 2900]] w fun e w' => e = .returned (.tuple #[.agg #[.int .i64 22500, .int .i64 22500], .int .i64 0]) ∧ Kept w w' := by
  have h := f_Lift_ok (⟨300, 900, 100, 0, 0, 0, 0⟩ : Cell) (⟨10000, 10000, 2900, 2900⟩ : Air) w (by decide) (by decide)
  rw [show liftLo (⟨300, 900, 100, 0, 0, 0, 0⟩ : Cell) (⟨10000, 10000, 2900, 2900⟩ : Air) = 22500 by decide, show liftHi (⟨300, 900, 100, 0, 0, 0, 0⟩ : Cell) (⟨10000, 10000, 2900, 2900⟩ : Air) = 22500 by decide] at h
  exact h
theorem o_blow (w : World) : Calls Try.prog 40 #[.agg #[.int .i64 3000, .int .i64 9000, .int .i64 0, .int .i64 0, .int .i64 1380, .int .i64 5000, .int .i64 20, .int .i64 60], .agg #[.int .i64 10000, .int .i64 10000, .int .i64 2900, .int .i64 2900]] w fun e w' => e = .returned (.tuple #[.agg #[.int .i64 1366, .int .i64 1406], .int .i64 0]) ∧ Kept w w' := by
  have h := f_BlowC (⟨3000, 9000, 0, 0, 1380, 5000, 20, 60⟩ : Hl) (⟨10000, 10000, 2900, 2900⟩ : Air) w
  rw [show blowE (⟨3000, 9000, 0, 0, 1380, 5000, 20, 60⟩ : Hl) (⟨10000, 10000, 2900, 2900⟩ : Air) = 0 by decide, show Bal.Gas.ifOk 0 (blowLo (⟨3000, 9000, 0, 0, 1380, 5000, 20, 60⟩ : Hl) (⟨10000, 10000, 2900, 2900⟩ : Air)) = 1366 by decide, show Bal.Gas.ifOk 0 (blowHi (⟨3000, 9000, 0, 0, 1380, 5000, 20, 60⟩ : Hl) (⟨10000, 10000, 2900, 2900⟩ : Air)) = 1406 by decide] at h
  exact h
theorem o_do (n : Nat) (w : World) (h : Blk w n #[.int .i64 300, .int .i64 900, .int .i64 100, .int .i64 0, .int .i64 0, .int .i64 0, .int .i64 0] 25) : Calls Try.prog 48 #[.agg #[.slice (some ⟨n, 0, none⟩) 1 1, .int .i64 50, .int .i64 950, .int .i64 100, .int .i64 0, .int .i64 0, .int .i64 0, .int .i64 0, .int .i64 0, .int .i64 0], .agg #[.int .u8 3, .int .i64 0, .int .i64 0, .int .i64 10]] w fun e w' => ∃ v c, e = .returned (.tuple #[.agg #[.slice v 1 c, .int .i64 50, .int .i64 950, .int .i64 100, .int .i64 9, .int .i64 1, .int .i64 0, .int .i64 0, .int .i64 0, .int .i64 0], .int .i64 0]) ∧ Kept w w' := by
  have k := f_Do (⟨[⟨300, 900, 100, 0, 0, 0, 0⟩], 50, 950, 100, 0, 0, 0, 0, 0, 0⟩ : Plant) (⟨3, 0, 0, 10⟩ : Deed) (some ⟨n, 0, none⟩) 1 w (Row.block (fun _ => rfl) h rfl) (by decide) (by simp [maxLen]) (fun h => by cases h) (by decide)
  rw [show doE (⟨[⟨300, 900, 100, 0, 0, 0, 0⟩], 50, 950, 100, 0, 0, 0, 0, 0, 0⟩ : Plant) (⟨3, 0, 0, 10⟩ : Deed) = 0 by decide, show (doQ (⟨[⟨300, 900, 100, 0, 0, 0, 0⟩], 50, 950, 100, 0, 0, 0, 0, 0, 0⟩ : Plant) (⟨3, 0, 0, 10⟩ : Deed)).bottles = 50 by decide, show (doQ (⟨[⟨300, 900, 100, 0, 0, 0, 0⟩], 50, 950, 100, 0, 0, 0, 0, 0, 0⟩ : Plant) (⟨3, 0, 0, 10⟩ : Deed)).inH = 950 by decide, show (doQ (⟨[⟨300, 900, 100, 0, 0, 0, 0⟩], 50, 950, 100, 0, 0, 0, 0, 0, 0⟩ : Plant) (⟨3, 0, 0, 10⟩ : Deed)).inA = 100 by decide, show (doQ (⟨[⟨300, 900, 100, 0, 0, 0, 0⟩], 50, 950, 100, 0, 0, 0, 0, 0, 0⟩ : Plant) (⟨3, 0, 0, 10⟩ : Deed)).vH = 9 by decide, show (doQ (⟨[⟨300, 900, 100, 0, 0, 0, 0⟩], 50, 950, 100, 0, 0, 0, 0, 0, 0⟩ : Plant) (⟨3, 0, 0, 10⟩ : Deed)).vA = 1 by decide,
    show (doQ (⟨[⟨300, 900, 100, 0, 0, 0, 0⟩], 50, 950, 100, 0, 0, 0, 0, 0, 0⟩ : Plant) (⟨3, 0, 0, 10⟩ : Deed)).lH = 0 by decide, show (doQ (⟨[⟨300, 900, 100, 0, 0, 0, 0⟩], 50, 950, 100, 0, 0, 0, 0, 0, 0⟩ : Plant) (⟨3, 0, 0, 10⟩ : Deed)).lA = 0 by decide, show (doQ (⟨[⟨300, 900, 100, 0, 0, 0, 0⟩], 50, 950, 100, 0, 0, 0, 0, 0, 0⟩ : Plant) (⟨3, 0, 0, 10⟩ : Deed)).pH = 0 by decide, show (doQ (⟨[⟨300, 900, 100, 0, 0, 0, 0⟩], 50, 950, 100, 0, 0, 0, 0, 0, 0⟩ : Plant) (⟨3, 0, 0, 10⟩ : Deed)).pA = 0 by decide] at k
  refine k.mono ?_
  rintro e w' ⟨v, rfl, hm, hk⟩
  obtain ⟨ad, cp, rfl, _⟩ := hm.slice
  rw [show (doQ (⟨[⟨300, 900, 100, 0, 0, 0, 0⟩], 50, 950, 100, 0, 0, 0, 0, 0, 0⟩ : Plant) (⟨3, 0, 0, 10⟩ : Deed)).cells.length = 1 by decide]
  exact ⟨ad, cp, rfl, hk⟩
theorem histX_eq (n8 n14 : Nat) : leaksE (histX 285 286 n8 n14) 0 100 = 0 ∧ leaksL (histX 285 286 n8 n14) 0 100 = [⟨6, 12⟩] := ⟨rfl, rfl⟩

theorem wpSteps_want {P : Program} {ops : Array Oper} {C : World → Prop} {K : Act → Prop} {a : Act} {o : Oper} {r : List (Bool × Oper)} (v : Value) (hw : Region.wanted o (yielded ops a.tmps) = true) (hy : ∀ w, (execOp a.eval o).run P w = .ok (.value v) w) (h : wpSteps P ops C K r (a.put o.dst v)) : wpSteps P ops C K ((true, o) :: r) a :=
  ⟨v, .inl ⟨hw, hy⟩, h⟩
theorem o_leaks (n5 n8 n14 n16 n18 : Nat) (w : World) (h : HistAt (histX 285 286 n8 n14) ⟨some ⟨n5, 0, none⟩, some ⟨n16, 0, none⟩, some ⟨n18, 0, none⟩, 1, 2, 1⟩ w) :
    Calls Try.prog 58 #[.agg #[.slice (some ⟨n5, 0, none⟩) 1 1, .slice (some ⟨n16, 0, none⟩) 2 2, .slice (some ⟨n18, 0, none⟩) 1 1], .agg #[.int .i64 0, .int .i64 100]] w fun e w' => ∃ ad cp, e = .returned (.tuple #[.slice ad 1 cp, .int .i64 0]) ∧ Row Sp.cells 2 w'.heap.size w' ad [⟨6, 12⟩] ∧ 1 ≤ cp ∧ cp ≤ maxLen ∧ Kept w w' := by
  have k := f_Leaks (histX 285 286 n8 n14) ⟨some ⟨n5, 0, none⟩, some ⟨n16, 0, none⟩, some ⟨n18, 0, none⟩, 1, 2, 1⟩ 0 100 w h
  rw [(histX_eq n8 n14).1, (histX_eq n8 n14).2] at k
  refine k.mono ?_
  rintro e w' ⟨v, rfl, ho, hk⟩
  obtain ⟨ad, cp, rfl, hrow, hcp, hcm⟩ := owns_row (enc := Sp.cells) (k := 2) (fun _ => rfl) ho
  exact ⟨ad, cp, rfl, hrow, hcp, hcm, hk⟩

theorem o_alive (w : World) : Calls Try.prog 68 #[] w fun e w' => e = .returned (.bool true) ∧ Kept w w' := by
  go_enter Try.func68, Try.ntmps68
  go_upto_region 6 with (first | (go_at_call 75; (with_reducible refine (o_cell _).mono ?_); rintro e wc ⟨rfl, hbc⟩) | (go_at_call 76; (with_reducible refine (o_still _).mono ?_); rintro e ws ⟨rfl, hbs⟩) | (go_at_call 78; (with_reducible refine (o_hull _).mono ?_); rintro e wu ⟨rfl, hbu⟩) | (go_at_call 22; (with_reducible refine (o_vol _).mono ?_); rintro e wV ⟨rfl, hbV⟩) | (go_at_call 30; (with_reducible refine (o_lift _).mono ?_); rintro e wL ⟨rfl, hbL⟩) | (go_at_call 40; (with_reducible refine (o_blow _).mono ?_); rintro e wB ⟨rfl, hbB⟩) | (go_at_call 77; (with_reducible refine (o_plant _).mono ?_); rintro e wp ⟨np, rfl, bp, hbp⟩) | (go_at_call 48; (with_reducible refine (o_do np _ (by (exact blk))).mono ?_); rintro e wD ⟨vD, cD, rfl, hbD⟩) | (go_at_call 79; (with_reducible refine (o_history _ _ _).mono ?_); rintro e wH ⟨n5, n8, n14, n16, n18, rfl, hH, hbH⟩) | (go_at_call 58; (with_reducible refine (o_leaks n5 n8 n14 n16 n18 _ (by with_reducible assumption)).mono ?_); rintro e wK ⟨aK, cK, rfl, hK, hcK, hmK, hbK⟩))
  refine at_world (S := fun W => Blk W (wV.heap.size) #[.int .i64 290, .int .i64 290] 23 ∧ Blk W (wL.heap.size) #[.int .i64 22500, .int .i64 22500] 23 ∧ Blk W (wD.heap.size) #[.slice vD 1 cD, .int .i64 50, .int .i64 950, .int .i64 100, .int .i64 9, .int .i64 1, .int .i64 0, .int .i64 0, .int .i64 0, .int .i64 0] 63 ∧ Blk W (wB.heap.size) #[.int .i64 1366, .int .i64 1406] 23 ∧ Row Sp.cells 2 W.heap.size W aK [⟨6, 12⟩] ∧ Kept w W) ⟨by (exact blkc), by (exact blkc), by (exact blkc), by (exact blkc), hK.later (by (exact kpt)) (Nat.le_refl _), by (exact kpt)⟩ ?_
  rintro W ⟨r1, r3, r5, r7, rK, hk⟩
  have r1c0 := fun g : Later W => (r1.later g).cell 0
  have r1f0 := fun g : Later W => (r1.later g).free 0
  have r1c1 := fun g : Later W => (r1.later g).cell 1
  have r1f1 := fun g : Later W => (r1.later g).free 1
  have r1l := fun g : Later W => (r1.later g).lt
  simp at r1c0 r1c1
  have r3c0 := fun g : Later W => (r3.later g).cell 0
  have r3f0 := fun g : Later W => (r3.later g).free 0
  have r3c1 := fun g : Later W => (r3.later g).cell 1
  have r3f1 := fun g : Later W => (r3.later g).free 1
  have r3l := fun g : Later W => (r3.later g).lt
  simp at r3c0 r3c1
  have r5c0 := fun g : Later W => (r5.later g).cell 0
  have r5f0 := fun g : Later W => (r5.later g).free 0
  have r5c1 := fun g : Later W => (r5.later g).cell 1
  have r5f1 := fun g : Later W => (r5.later g).free 1
  have r5c2 := fun g : Later W => (r5.later g).cell 2
  have r5f2 := fun g : Later W => (r5.later g).free 2
  have r5c3 := fun g : Later W => (r5.later g).cell 3
  have r5f3 := fun g : Later W => (r5.later g).free 3
  have r5c4 := fun g : Later W => (r5.later g).cell 4
  have r5f4 := fun g : Later W => (r5.later g).free 4
  have r5c5 := fun g : Later W => (r5.later g).cell 5
  have r5f5 := fun g : Later W => (r5.later g).free 5
  have r5c6 := fun g : Later W => (r5.later g).cell 6
  have r5f6 := fun g : Later W => (r5.later g).free 6
  have r5c7 := fun g : Later W => (r5.later g).cell 7
  have r5f7 := fun g : Later W => (r5.later g).free 7
  have r5c8 := fun g : Later W => (r5.later g).cell 8
  have r5f8 := fun g : Later W => (r5.later g).free 8
  have r5c9 := fun g : Later W => (r5.later g).cell 9
  have r5f9 := fun g : Later W => (r5.later g).free 9
  have r5l := fun g : Later W => (r5.later g).lt
  simp at r5c0 r5c1 r5c2 r5c3 r5c4 r5c5 r5c6 r5c7 r5c8 r5c9
  have r7c0 := fun g : Later W => (r7.later g).cell 0
  have r7f0 := fun g : Later W => (r7.later g).free 0
  have r7c1 := fun g : Later W => (r7.later g).cell 1
  have r7f1 := fun g : Later W => (r7.later g).free 1
  have r7l := fun g : Later W => (r7.later g).lt
  simp at r7c0 r7c1
  have KS : ∀ V n, Kept W V → Blk V n #[.int .i64 6, .int .i64 12] 23 → Calls Try.prog 66 #[.slice aK 1 cK, .slice (some ⟨n, 0, none⟩) 1 1] V fun e w' => e = .returned (.bool true) ∧ Kept V w' := fun V n hV hB =>
    r_SameSpans aK (some ⟨n, 0, none⟩) cK 1 [⟨6, 12⟩] V (rK.later hV (Nat.le_refl _)) (Row.block (fun _ => rfl) hB rfl) hcK (Nat.le_refl _) hmK (by simp [maxLen])
  refine later_mix [(false, 0), (false, 1), (false, 2), (false, 3), (false, 4), (false, 5), (false, 6), (false, 7), (false, 8), (false, 9), (false, 10), (false, 11), (false, 12), (false, 13), (false, 14), (false, 15), (false, 16), (false, 17), (false, 18), (false, 19), (false, 20), (false, 21), (false, 22), (false, 23), (false, 24), (false, 25), (false, 26), (false, 27), (false, 28), (false, 29), (false, 30), (false, 31), (false, 32), (false, 33), (false, 34), (false, 35), (false, 36), (false, 37), (false, 38), (false, 39), (false, 40), (false, 41), (false, 42), (false, 43), (false, 44), (false, 45), (true, 46), (false, 47)] 48 [49, 50, 51] (by kernel_rfl) (by kernel_rfl) ?_
  simp only [List.filterMap_cons, List.filterMap_nil, List.getElem?_cons_zero, List.getElem?_cons_succ, Option.map_some]
  repeat (refine wpSteps_quiet ?_; (first | go_big_quiet_skip | (go_big_quiet_want; go_big_quiet_op; first | go_big_quiet_on | (apply Exists.intro; refine ⟨fun g_ => ?_, ?_⟩; (focus (first | (go_at_call 69; exact Later.call (o_one _ _)))); go_big_quiet_on))); refine wpQuiet_nil ?_)
  refine wpSteps_want (.slice aK 1 cK) (by first | rfl | (simp [Region.wanted, yielded]; done)) (fun w => rfl) ?_
  simp only [Act.put, List.setIfInBounds_toArray, List.set_cons_zero, List.set_cons_succ]
  repeat (refine wpSteps_quiet ?_; (first | go_big_quiet_skip | (go_big_quiet_want; go_big_quiet_op; first | go_big_quiet_on | (apply Exists.intro; refine ⟨fun g_ => ?_, ?_⟩; (focus (first | (go_at_call 69; exact Later.call (o_one _ _)))); go_big_quiet_on))); refine wpQuiet_nil ?_)
  refine wpSteps_nil ?_
  intro gg
  refine wpList_step fun K1 hK1 => ?_
  rw [if_pos (by first | rfl | (go_simp; done))]
  have hkg := Kept.drop hk gg.ok
  have hgk := gg.ok
  go_wp2_with (go_at_call 66; (with_reducible refine (KS _ _ (by (exact kpt)) (by (exact blk))).mono ?_); rintro e w9 ⟨rfl, hb9⟩)
  refine NoPanic.normal ?_
  go_wp2
  go_ret
  exact ⟨rfl, by (exact kpt)⟩

end Go.Proofs.Ytemafanncejeiaa

/-
  The outright statements of chapter 3: a number inside a span; a span over a fraction.
-/
namespace Go.Proofs.Ytemafanncejeiaa
open Go.RowKit Bal Bal.Trim Bal.Gas
set_option linter.unusedVariables false
set_option linter.unusedSimpArgs false
set_option maxHeartbeats 4000000
set_option maxRecDepth 100000

theorem o_inside (lo hi n : Int) (w : World) (h1 : -1000000000000 ≤ lo) (h2 : lo ≤ hi) (h3 : hi ≤ 1000000000000) (hn : 0 ≤ n ∧ n ≤ 65535) :
    Calls Try.prog 71 #[.agg #[.int .i64 (lo), .int .i64 (hi)], .int .u16 n] w fun e w' => e = .returned (.int .i64 (insG lo hi n)) ∧ Kept w w' := by
  have m1 := Int.emod_nonneg n (show hi - lo + 1 ≠ 0 by omega)
  have m2 := Int.emod_lt_of_pos n (show 0 < hi - lo + 1 by omega)
  have hw1 := i64_inH (n := hi - lo) (by omega)
  have hw2 := i64_inH (n := hi - lo + 1) (by omega)
  have hw3 := i64_inH (n := lo + n % (hi - lo + 1)) (by omega)
  have hw4 := i64_inH (n := n % (hi - lo + 1)) (by omega)
  have hw5 := i64_inH (n := n) (by omega)
  have hz1 : (hi - lo + 1 == 0) = false := by simp; omega
  have hz2 : ¬ hi - lo + 1 = 0 := by omega
  have ht : n.tmod (hi - lo + 1) = n % (hi - lo + 1) := Int.tmod_eq_emod_of_nonneg hn.1
  have h0 : 0 < hi - lo + 1 := by omega
  go_enter Try.func71, Try.ntmps71
  go_upto_region 1 with fail
  refine at_world (S := fun V => Blk V w.heap.size #[.int .i64 lo, .int .i64 hi] 23 ∧ Kept w V) ⟨by (exact blkc), by (exact kpt)⟩ ?_
  rintro V ⟨q0, hkV⟩
  have q0c0 := fun g : Later V => (q0.later g).cell 0
  have q0f0 := fun g : Later V => (q0.later g).free 0
  have q0c1 := fun g : Later V => (q0.later g).cell 1
  have q0f1 := fun g : Later V => (q0.later g).free 1
  have q0l := fun g : Later V => (q0.later g).lt
  simp at q0c0 q0c1
  refine Later.region (by kernel_rfl) (by kernel_rfl) ?_
  repeat (first | go_big_quiet_skip | (go_big_quiet_want; go_big_quiet_op; first | go_big_quiet_on | (apply Exists.intro; refine ⟨fun g_ => ?_, ?_⟩; (focus (first | fail)); go_big_quiet_on)))
  refine wpQuiet_nil ?_
  intro gg
  have hkg := Kept.drop hkV gg.ok
  go_wp2
  go_ret
  exact ⟨ret_int rfl, by (exact kpt)⟩

def overG (lo hi num den : Int) : Bool := decide (lo * den ≤ num) && decide (num ≤ hi * den)
theorem o_over (lo hi num den : Int) (w : World) (h1 : -4000000000000000000 ≤ lo * den ∧ lo * den ≤ 4000000000000000000) (h2 : -4000000000000000000 ≤ hi * den ∧ hi * den ≤ 4000000000000000000) :
    Calls Try.prog 72 #[.agg #[.int .i64 (lo), .int .i64 (hi)], .int .i64 num, .int .i64 den] w fun e w' => e = .returned (.bool (overG lo hi num den)) ∧ Kept w w' := by
  have w1 := i64_inH (n := lo * den) (by omega)
  have w2 := i64_inH (n := hi * den) (by omega)
  cases k1 : decide (lo * den ≤ num)
  · have HO := Lib.hid (show overG lo hi num den = false by unfold overG; rw [k1]; rfl)
    go_enter Try.func72, Try.ntmps72
    go_wp2
    go_ret
    exact ⟨ret_bool HO.out.symm, by (exact kpt)⟩
  · have HO := Lib.hid (show overG lo hi num den = decide (num ≤ hi * den) by unfold overG; rw [k1]; rfl)
    go_enter Try.func72, Try.ntmps72
    go_wp2
    go_ret
    exact ⟨ret_bool HO.out.symm, by (exact kpt)⟩

end Go.Proofs.Ytemafanncejeiaa

/-
  The cells that are named: both.
-/
namespace Go.Proofs.Ytemafanncejeiaa
open Go.RowKit Bal Bal.Trim Bal.Gas
set_option linter.unusedVariables false
set_option linter.unusedSimpArgs false
set_option maxHeartbeats 4000000
set_option maxRecDepth 100000

theorem infoIn : (Try.prog.info? 3).map (fun i => (i.zero, i.size, i.bytes)) = some (some (.int .i64 0), 1, 8) := by kernel_rfl

theorem namedTo_len (l : List Sp) : ∀ k, (namedTo l k).length ≤ k
  | 0 => Nat.le_refl _
  | k + 1 => by
    have := namedTo_len l k
    simp only [namedTo, List.length_append]
    split <;> simp <;> omega
theorem namedTo_nil : ∀ k, namedTo [] k = []
  | 0 => rfl
  | k + 1 => by
    show namedTo [] k ++ (if 0 < (([] : List Sp).getD k default).lo then [(k : Int)] else []) = []
    rw [namedTo_nil k]
    rfl

def NamedR (n : Nat) (L : List Sp) (w w1 : World) (l i : Value) (wr : World) : Prop :=
  ∃ k : Nat, k ≤ n ∧ i = .int .i64 k ∧ wr.ownsRow w1.heap.size 3 1 l (namedTo L k).length ((namedTo L k).flatMap icell) ∧ Kept w1 wr ∧ Kept w wr

theorem f_Named (h : Hist) (s : Spot) (x y : Int) (w : World) (hh : HistAt h s w) :
    Calls Try.prog 60 #[.agg #[.slice s.aw h.warm.length s.cw, .slice s.ag h.gauges.length s.cg, .slice s.af h.flows.length s.cf], .agg #[.int .i64 x, .int .i64 y]] w fun e w' => ∃ v, e = .returned (.tuple #[v, .int .i64 (leaksE h x y)]) ∧ w'.ownsRow w.heap.size 3 1 (v) (namedL h x y).length ((namedL h x y).flatMap icell) ∧ Kept w w' := by
  obtain ⟨E, hE⟩ : ∃ E, E = leaksE h x y := ⟨_, rfl⟩
  have hEc := leaks_cases h x y
  rw [← hE] at hEc ⊢
  have HE := Lib.hid hE.symm
  by_cases h0 : E = 0
  · have hl0 : (leaksL h x y).length = h.warm.length := by rw [leaks_in (by rw [HE.out]; exact h0), mixL_len]
    have hn12 : h.warm.length ≤ 12 := by
      have : histB h = true := by
        cases hb : histB h
        · have := (leaks_bad (x := x) (y := y) hb).1; rw [HE.out, h0] at this; cases this
        · rfl
      exact (histB_ok this).w2
    subst h0
    have HNL := Lib.hid (show namedL h x y = namedTo (leaksL h x y) h.warm.length from rfl)
    obtain ⟨L, hL⟩ : ∃ L, L = leaksL h x y := ⟨_, rfl⟩
    rw [← hL] at hl0 HNL
    have HL := Lib.hid hL.symm
    obtain ⟨n, hn⟩ : ∃ n, n = h.warm.length := ⟨_, rfl⟩
    rw [← hn] at hl0 hn12 HNL
    clear hE hL hEc hn
    go_enter Try.func60, Try.ntmps60
    go_wp2_with (go_at_call 58; (with_reducible refine (f_Leaks h s x y _ (hh.later (by (exact kpt)))).mono ?_); rw [HE.out]; rintro e w1 ⟨v1, rfl, ho1, hb1⟩; obtain ⟨ad, cp, rfl, hrow, hcp, hcm⟩ := owns_row (enc := Sp.cells) (k := 2) (fun _ => rfl) ho1)
    rw [HL.out] at hrow hcp
    have hlen : (leaksL h x y).length = n := by rw [HL.out]; exact hl0
    rw [hl0] at hcp
    simp only [hlen]
    clear ho1
    have HROW := Lib.hid (fun (W : World) (hW : Kept w1 W) => hrow.later hW (Nat.le_refl _))
    clear hrow
    unfold maxLen at hcm
    refine at_world (S := fun V => Kept w1 V ∧ Kept w V) ⟨by (exact kpt), by (exact kpt)⟩ ?_
    rintro V ⟨hk1, hkw⟩
    go_loopw [8, 22] (fun l i wr => NamedR n L w w1 l i wr) (fun _ i _ => n - (intOf i).toNat)
    case atStart => exact ⟨0, Nat.zero_le _, rfl, owns_nil (α := Int) (enc := icell), hk1, hkw⟩
    case round =>
      clear hk1 hkw
      obtain ⟨k, hk, rfl, hown, hkr, hkw⟩ := hrel
      have hnl := namedTo_len L k
      by_cases hlt : k < n
      · obtain ⟨bb, ob, rfl, hbb, c0, c1⟩ := Sp.row (HROW.out _ hkr) k (by rw [hl0]; exact hlt)
        have HNS := Lib.hid (show namedTo L (k + 1) = namedTo L k ++ (if 0 < (L[k]'(by rw [hl0]; exact hlt)).lo then [(k : Int)] else []) by
          show namedTo L k ++ (if 0 < (L.getD k default).lo then [(k : Int)] else []) = _
          congr 3
          simp [hl0, hlt])
        obtain ⟨z, hz⟩ : ∃ z, z = L[k]'(by rw [hl0]; exact hlt) := ⟨_, rfl⟩
        rw [← hz] at c0 c1 HNS
        clear hz
        by_cases hp : 0 < z.lo
        · have d1 : decide (0 < z.lo) = true := by simp [hp]
          have HN1 := Lib.hid (show namedTo L (k + 1) = namedTo L k ++ [(k : Int)] by rw [HNS.out, if_pos hp])
          go_wp2_with (at_builtin; obtain ⟨i0, hi, hz0, hz1, hz2⟩ := info_parts infoIn; refine wpList_append_own _ rfl _ _ 93 rfl w1.heap.size 3 i0 (.int .i64 0) 1 8 Try.underlying93 hi hz0 hz1 hz2 rfl (by decide) _ _ _ rfl (owns_keep hown (by exact kpt)) ⟨_, 0, none⟩ 1 1 [.int .i64 k] rfl rfl (cell_one_at (by simp) _ _) (fun x hx => by simp at hx; rcases hx with rfl | rfl <;> rfl) (by unfold maxLen; omega) (by omega) (by have := hkr.size; simp; omega) ?_; intro v9 w9 hown9 hgrow9 hnil9; clear hi hz0 hz1 hz2)
          have hw1 := hb1.size
          simp only [World.size_alloc] at hw1
          have hown10 : w9.ownsRow w1.heap.size 3 1 v9 (namedTo L (k + 1)).length ((namedTo L (k + 1)).flatMap icell) := by
            rw [HN1.out, List.length_append, List.flatMap_append]; exact hown9
          have hkz : Kept w1 w9 := Kept.grownB (by exact kpt) (owns_keep hown (by exact kpt)) (Nat.le_refl _) hgrow9
          have hky : Kept w w9 := Kept.grownB (by exact kpt) (owns_keep hown (by exact kpt)) (by omega) hgrow9
          go_roundw
          case rel =>
            first
            | exact ⟨k + 1, by omega, by go_num, hown10, hkz, hky⟩
            | (repeat (apply Exists.intro)
               refine ⟨?_, rfl⟩
               exact ⟨k + 1, by omega, by go_num, hown10, hkz, hky⟩)
          case measure => simp [intOf]; omega
        · have d1 : decide (0 < z.lo) = false := by simp; omega
          have HN1 := Lib.hid (show namedTo L (k + 1) = namedTo L k by rw [HNS.out, if_neg hp, List.append_nil])
          go_wp2
          go_roundw
          case rel => exact ⟨k + 1, by omega, by go_num, by rw [HN1.out]; exact owns_keep hown (by exact kpt), by exact kpt, by exact kpt⟩
          case measure => simp [intOf]; omega
      · obtain rfl : k = n := by omega
        go_wp2
        exact bodyPost_ret (by simp only [results, Try.results60]; simp [go_sem]; rfl) rfl ⟨_, rfl, by rw [HNL.out]; exact owns_base hown (by have := hb1.size; simp at this; omega), hkw⟩
  · have hNL : namedL h x y = [] := by unfold namedL; rw [leaks_out (by rw [HE.out]; exact h0)]; exact namedTo_nil _
    rw [hNL]
    have d1 : (E != 0) = true := by simp [h0]
    have d2 : (E == 0) = false := by simp [h0]
    have HOUT := Lib.hid (show leaksL h x y = [] from leaks_out (by rw [HE.out]; exact h0))
    clear hE h0
    go_enter Try.func60, Try.ntmps60
    go_wp2_with (go_at_call 58; (with_reducible refine (f_Leaks h s x y _ (hh.later (by (exact kpt)))).mono ?_); rw [HE.out]; rintro e w1 ⟨v1, rfl, ho1, hb1⟩; obtain ⟨ad, cp, rfl, hrow, hcp, hcm⟩ := owns_row (enc := Sp.cells) (k := 2) (fun _ => rfl) ho1)
    exact bodyPost_ret (v := .tuple #[.slice none 0 0, .int .i64 E]) (by simp [results, Try.results60, go_sem]) rfl ⟨.slice none 0 0, rfl, owns_nil (α := Int) (enc := icell), by (exact kpt)⟩

end Go.Proofs.Ytemafanncejeiaa

/-
  An argument that is a struct of numbers, opened. No program in sight.
-/
namespace Bal
open Go Go.RowKit Go.WideShapes
section
variable {H : Type} {enc : TypeId × Value → H} {P : Program} {w : World} {base : Nat} {spare : Nat → Bool} {held : Bool}
theorem open_agg {α : Type} {enc' : α → List Value} {wf : α → Prop} {ls : List Leaf} (hdec : ∀ cs, LeavesOk ls cs → ∃ x : α, cs = enc' x ∧ wf x) {t : TypeId} {fs : Array Field} {n : Nat} {v : Value} {d : DataW H} {ps : List MemPlace} {r : Reach} {b0 : Nat}
    (ht : P.underlying t = some (.struct fs)) (hls : leaves P n t = some ls) (hval : Value.okWide P w r b0 t v) (hd : DataW.Trod enc P w base spare held t v d ps) :
    ∃ x : α, v = .agg (enc' x).toArray ∧ wf x := by
  obtain ⟨cs, rfl, _⟩ := okWide_struct ht hval
  obtain ⟨fuel, hf⟩ := hd
  obtain ⟨x, e, hw⟩ := hdec _ (leaves_ok n _ _ _ _ _ hls hf)
  refine ⟨x, ?_, hw⟩
  rw [← e]
  simp [Value.cells]
end
end Bal

/-
  A history that came in, opened: superheats, gauges with their volumes, flows.
-/
namespace Go.Proofs.Ytemafanncejeiaa
open Go.RowKit Go.ChangeShapes Go.WideShapes Go.ChangeAt Bal Bal.Trim Bal.Gas
set_option linter.unusedVariables false
set_option maxRecDepth 100000
theorem trod_fieldH {H : Type} {enc : TypeId × Value → H} {P : Program} {w : World} {base fuel : Nat} {spare : Nat → Bool} {held : Bool} {fs : Array Field} {cs : List Value} {xs : List (DataW H × List MemPlace)} (hxl : xs.length = fs.size)
    (hg : ∀ (i : Nat) (f : Field), fs[i]? = some f → DataW.trod enc P w base spare held fuel f.type ((cs.drop f.offset).take (P.cellsOf f.type)) = xs[i]?) (i : Nat) (f : Field) (hi : fs[i]? = some f) :
    ∃ x, DataW.trod enc P w base spare held fuel f.type ((cs.drop f.offset).take (P.cellsOf f.type)) = some x := by
  have hlt : i < fs.size := (Array.getElem?_eq_some_iff.1 hi).1
  refine ⟨xs[i]'(by omega), ?_⟩
  rw [hg i f hi]
  exact List.getElem?_eq_getElem (by omega)
/-- a slice whose elements are known by what their reading shows -/
theorem open_rows {H : Type} {enc : TypeId × Value → H} {P : Program} {w : World} {base fuel : Nat} {spare : Nat → Bool} {held : Bool} {t e : TypeId} {cs : List Value} {x : DataW H × List MemPlace} {ok : List Value → Prop} {k : Nat}
    (hok : ∀ q cs x, DataW.trod enc P w base spare held q e cs = some x → ok cs) (hlen : ∀ cs, ok cs → cs.length = k) (ht : P.underlying t = some (.slice e)) (hk : P.cellsOf e = k) (hne : 0 < k)
    (h : DataW.trod enc P w base spare held fuel t cs = some x) :
    ∃ (a : Option Addr) (cap : Nat) (xs : List (List Value)), cs = [.slice a xs.length cap] ∧ xs.length ≤ cap ∧ cap ≤ maxLen ∧ Row id k w.heap.size w a xs ∧ (∀ x ∈ xs, ok x) ∧ (a = none → cap = 0) := by
  rcases Go.Deep.open_slice ht h with ⟨rfl, _⟩ | ⟨a, len, cap, m, q, D, Pl, rfl, hb, hl, hm, hmm, _, hi⟩
  · exact ⟨none, 0, [], rfl, by simp, by simp [maxLen], Row.nil, by simp, fun _ => rfl⟩
  · have hlm : len ≤ m := by subst hmm; split <;> omega
    obtain ⟨f, hf⟩ := Go.Deep.choose_lt (n := len) (p := fun i cs' => w.cells? base (a.add (i * P.cellsOf e)) (P.cellsOf e) = some cs' ∧ DataW.trod enc P w base spare held q e cs' = some (D i, Pl i)) (fun i hil => hi i (by omega))
    have hfl : ∀ i, i < len → (f i).length = k := fun i hil => hlen _ (hok _ _ _ (hf i hil).2)
    refine ⟨some a, cap, (List.range len).map f, by simp, by simpa using hl, hm, ?_, ?_, by simp⟩
    · intro i y hy
      have hil : i < len := by
        have := (List.getElem?_eq_some_iff.1 hy).1
        simpa using this
      simp [hil] at hy
      subst hy
      have hsp : a.spot = none := by
        obtain ⟨hc, ht'⟩ := hf 0 (by omega)
        have hl0 := hfl 0 (by omega)
        obtain ⟨_, hcl, hat⟩ := World.cells?_some hc
        have h1 := hat 0 (by omega)
        have hv : (f 0)[0]? = some ((f 0)[0]'(by omega)) := List.getElem?_eq_getElem (by omega)
        rw [hv] at h1
        have := World.cell?_spot h1
        simpa [Addr.add] using this
      obtain ⟨ab, ao, asp⟩ := a
      simp at hsp
      subst hsp
      obtain ⟨hc, ht'⟩ := hf i hil
      have hli := hfl i hil
      obtain ⟨_, hcl, hat⟩ := World.cells?_some hc
      have hat' : ∀ j, j < k → w.cell? ⟨ab, ao + i * k + j, none⟩ = (f i)[j]? := by
        intro j hj
        have h1 := hat j (by omega)
        rw [Go.Deep.add_add, hk] at h1
        rw [← h1]
        congr 1
        unfold Addr.add
        split
        · rename_i h0
          have h3 : ao + i * k + j = ao := by omega
          rw [h3]
        · simp [Nat.add_assoc]
      refine ⟨ab, ao, rfl, ?_, fun j v hj => ?_⟩
      · have h0 := hat' 0 hne
        have hv : (f i)[0]? = some ((f i)[0]'(by omega)) := List.getElem?_eq_getElem (by omega)
        rw [hv] at h0
        rcases Nat.lt_or_ge ab w.heap.size with h' | h'
        · exact h'
        · simp [World.cell?, Array.getElem?_eq_none h'] at h0
      · have hjl : j < (f i).length := (List.getElem?_eq_some_iff.1 hj).1
        rw [hat' j (by omega)]
        exact hj
    · intro y hy
      simp at hy
      obtain ⟨i, hil, rfl⟩ := hy
      exact hok _ _ _ (hf i hil).2
theorem decodeH {α : Type} {enc : α → List Value} {ok : List Value → Prop} {wf : α → Prop} (hdec : ∀ cs, ok cs → ∃ x : α, cs = enc x ∧ wf x) : ∀ (xs : List (List Value)), (∀ x ∈ xs, ok x) → ∃ ys : List α, xs = ys.map enc ∧ ∀ y ∈ ys, wf y
  | [], _ => ⟨[], rfl, by simp⟩
  | c :: cs, h => by
    obtain ⟨y, rfl, hy⟩ := hdec c (h c (by simp))
    obtain ⟨ys, rfl, hys⟩ := decodeH hdec cs (fun x hx => h x (by simp [hx]))
    exact ⟨y :: ys, rfl, by simpa using ⟨hy, hys⟩⟩
theorem air_leaves {H : Type} {enc : TypeId × Value → H} {w : World} {base fuel : Nat} {spare : Nat → Bool} {held : Bool} {cs : List Value} {x : DataW H × List MemPlace} (h : DataW.trod enc Try.prog w base spare held fuel 27 cs = some x) :
    ∃ a b c d : Int, cs = [.int .i64 a, .int .i64 b, .int .i64 c, .int .i64 d] := by
  obtain ⟨hl, h⟩ := leaves_ok (P := Try.prog) 4 27 [.int .i64, .int .i64, .int .i64, .int .i64] fuel cs x (by kernel_rfl) h
  match cs, hl with
  | [v0, v1, v2, v3], _ =>
    obtain ⟨_, e0, n0, rfl, w0⟩ := h 0 (.int .i64) rfl; simp at e0; subst e0
    obtain ⟨_, e1, n1, rfl, w1⟩ := h 1 (.int .i64) rfl; simp at e1; subst e1
    obtain ⟨_, e2, n2, rfl, w2⟩ := h 2 (.int .i64) rfl; simp at e2; subst e2
    obtain ⟨_, e3, n3, rfl, w3⟩ := h 3 (.int .i64) rfl; simp at e3; subst e3
    exact ⟨n0, n1, n2, n3, rfl⟩
def GaugeOk (w : World) (g : Gauge) : Prop := Row Sp.cells 2 w.heap.size w (gv g) g.vols ∧ g.vols.length ≤ g.vc ∧ g.vc ≤ maxLen
theorem open_gauge {H : Type} {enc : TypeId × Value → H} {w : World} {base fuel : Nat} {spare : Nat → Bool} {held : Bool} {cs : List Value} {x : DataW H × List MemPlace} (h : DataW.trod enc Try.prog w base spare held fuel 124 cs = some x) :
    ∃ g : Gauge, cs = g.cells ∧ GaugeOk w g := by
  obtain ⟨zs, n, _, _, hcl, hxl, hg⟩ := DataW.trod_struct Try.underlying124 h
  have k1 : Try.prog.cellsOf 3 = 1 := by kernel_rfl
  have k2 : Try.prog.cellsOf 81 = 1 := by kernel_rfl
  have k3 : Try.prog.cellsOf 27 = 4 := by kernel_rfl
  have k6 : Try.prog.cellsOf 124 = 6 := by kernel_rfl
  obtain ⟨x0, h0⟩ := trod_fieldH hxl hg 0 _ rfl
  obtain ⟨x1, h1⟩ := trod_fieldH hxl hg 1 _ rfl
  obtain ⟨x2, h2⟩ := trod_fieldH hxl hg 2 _ rfl
  have g0 : DataW.trod enc Try.prog w base spare held n 3 ((cs.drop 0).take (Try.prog.cellsOf 3)) = some x0 := h0
  have g1 : DataW.trod enc Try.prog w base spare held n 27 ((cs.drop 1).take (Try.prog.cellsOf 27)) = some x1 := h1
  have g2 : DataW.trod enc Try.prog w base spare held n 81 ((cs.drop 5).take (Try.prog.cellsOf 81)) = some x2 := h2
  rw [k1] at g0
  rw [k3] at g1
  rw [k2] at g2
  obtain ⟨q0, e0, _, _⟩ := DataW.trod_int Try.underlying3 g0
  obtain ⟨a1, a2, a3, a4, e1⟩ := air_leaves g1
  obtain ⟨a, c, xs, e2, hl2, hm2, row2, _, _⟩ := open_typed (n := 4) (fun _ h => Sp.of_leaves h) Try.underlying81 (by kernel_rfl) (by kernel_rfl) (by decide) g2
  refine ⟨⟨q0, ⟨a1, a2, a3, a4⟩, a.map fun p => (p.block, p.off, p.spot), c, xs⟩, ?_, ?_, hl2, hm2⟩
  · rw [k6] at hcl
    match cs, hcl with
    | [c0, c1, c2, c3, c4, c5], _ =>
      simp at e0 e1 e2
      cases a <;> simp [Gauge.cells, gv, e0, e1, e2]
  · have : gv ⟨q0, ⟨a1, a2, a3, a4⟩, a.map fun p => (p.block, p.off, p.spot), c, xs⟩ = a := by cases a <;> simp [gv]
    rw [this]
    exact row2
theorem open_history {H : Type} {enc : TypeId × Value → H} {w : World} {base : Nat} {spare : Nat → Bool} {held : Bool} {v : Value} {d : DataW H} {ps : List MemPlace} {r : Reach} {b0 : Nat}
    (hval : Value.okWide Try.prog w r b0 85 v) (hd : DataW.Trod enc Try.prog w base spare held 85 v d ps) :
    ∃ (h : Hist) (s : Bal.Gas.Spot), v = .agg (histV s h) ∧ HistAt h s w := by
  obtain ⟨cs, rfl, hsz⟩ := okWide_struct Try.underlying85 hval
  obtain ⟨fuel, hf⟩ := hd
  obtain ⟨zs, n, _, _, hcl, hxl, hg⟩ := DataW.trod_struct Try.underlying85 hf
  have hc3 : Try.prog.cellsOf 85 = 3 := by kernel_rfl
  have k1 : Try.prog.cellsOf 81 = 1 := by kernel_rfl
  have k2 : Try.prog.cellsOf 82 = 1 := by kernel_rfl
  have k3 : Try.prog.cellsOf 83 = 1 := by kernel_rfl
  obtain ⟨x0, h0⟩ := trod_fieldH hxl hg 0 _ rfl
  obtain ⟨x1, h1⟩ := trod_fieldH hxl hg 1 _ rfl
  obtain ⟨x2, h2⟩ := trod_fieldH hxl hg 2 _ rfl
  have g0 : DataW.trod enc Try.prog w base spare held n 81 (((Value.agg cs).cells.toList.drop 0).take (Try.prog.cellsOf 81)) = some x0 := h0
  have g1 : DataW.trod enc Try.prog w base spare held n 82 (((Value.agg cs).cells.toList.drop 1).take (Try.prog.cellsOf 82)) = some x1 := h1
  have g2 : DataW.trod enc Try.prog w base spare held n 83 (((Value.agg cs).cells.toList.drop 2).take (Try.prog.cellsOf 83)) = some x2 := h2
  clear h0 h1 h2
  rw [k1] at g0
  rw [k2] at g1
  rw [k3] at g2
  obtain ⟨aw, cw, ws, e0, wl, wm, wrow, _, _⟩ := open_typed (n := 4) (fun _ h => Sp.of_leaves h) Try.underlying81 (by kernel_rfl) (by kernel_rfl) (by decide) g0
  obtain ⟨ag, cg, gs0, e1, gl, gm, grow, gok, _⟩ := open_rows (ok := fun cs => ∃ g : Gauge, cs = g.cells ∧ GaugeOk w g) (k := 6) (fun q cs x h => open_gauge h) (fun cs ⟨g, hg, _⟩ => by rw [hg]; rfl) Try.underlying82 (by kernel_rfl) (by decide) g1
  obtain ⟨af, cf, fs, e2, fl, fm, frow, _, _⟩ := open_typed (n := 4) (fun _ h => Flow.of_leaves h) Try.underlying83 (by kernel_rfl) (by kernel_rfl) (by decide) g2
  obtain ⟨gs, rfl, gw⟩ := decodeH (wf := GaugeOk w) (fun cs h => h) gs0 gok
  rw [List.length_map] at e1 gl
  refine ⟨⟨ws, gs, fs⟩, ⟨aw, ag, af, cw, cg, cf⟩, ?_, ⟨wrow, grow.of_map, frow, fun g hg => (gw g hg).1, wl, gl, fl, wm, gm, fm, fun g hg => (gw g hg).2⟩⟩
  obtain ⟨l⟩ := cs
  rw [hc3] at hsz
  match l, hsz with
  | [c0, c1, c2], _ =>
    simp [Value.cells] at e0 e1 e2
    simp [histV, e0, e1, e2]
end Go.Proofs.Ytemafanncejeiaa

/-
  Structs as cells of memory. No program in sight.
-/
namespace Bal.Gas
open Go Go.RowKit Bal

def Deed.cells (x : Deed) : List Value := [.int .u8 x.kind, .int .i64 x.cell, .int .i64 x.to, .int .i64 x.n]
theorem Deed.row {B : Nat} {w : World} {a : Option Addr} {xs : List Deed} (h : Row Deed.cells 4 B w a xs) (i : Nat) (hi : i < xs.length) :
    ∃ b off, a = some ⟨b, off, none⟩ ∧ b < B ∧ w.cell? ⟨b, off + i * 4, none⟩ = some (.int .u8 xs[i].kind) ∧ w.cell? ⟨b, off + i * 4 + 1, none⟩ = some (.int .i64 xs[i].cell) ∧ w.cell? ⟨b, off + i * 4 + 2, none⟩ = some (.int .i64 xs[i].to) ∧ w.cell? ⟨b, off + i * 4 + 3, none⟩ = some (.int .i64 xs[i].n) := by
  obtain ⟨b, off, ha, hb, hc⟩ := h i xs[i] (by simp [hi])
  exact ⟨b, off, ha, hb, hc 0 _ rfl, hc 1 _ rfl, hc 2 _ rfl, hc 3 _ rfl⟩
theorem Deed.of_leaves {cs : List Value} (h : LeavesOk [.int .u8, .int .i64, .int .i64, .int .i64] cs) : ∃ x : Deed, cs = x.cells ∧ (Lit.int .u8 x.kind).wf = true ∧ (Lit.int .i64 x.cell).wf = true ∧ (Lit.int .i64 x.to).wf = true ∧ (Lit.int .i64 x.n).wf = true := by
  obtain ⟨hl, h⟩ := h
  match cs, hl with
  | [v0, v1, v2, v3], _ =>
    obtain ⟨_, e0, n0, rfl, w0⟩ := h 0 (.int .u8) rfl; simp at e0; subst e0
    obtain ⟨_, e1, n1, rfl, w1⟩ := h 1 (.int .i64) rfl; simp at e1; subst e1
    obtain ⟨_, e2, n2, rfl, w2⟩ := h 2 (.int .i64) rfl; simp at e2; subst e2
    obtain ⟨_, e3, n3, rfl, w3⟩ := h 3 (.int .i64) rfl; simp at e3; subst e3
    exact ⟨⟨n0, n1, n2, n3⟩, rfl, w0, w1, w2, w3⟩

end Bal.Gas

/-
  The reference: what is great; plants that are the same.
-/
namespace Go.Proofs.Ytemafanncejeiaa
open Go.RowKit Bal Bal.Trim Bal.Gas
set_option linter.unusedVariables false
set_option linter.unusedSimpArgs false
set_option maxHeartbeats 4000000
set_option maxRecDepth 100000

def bigD (d : Deed) : Bool := decide (d.kind = 7) && inB d.n 51 1000
def greatB (p : Plant) (ds : List Deed) : Bool := decide (20 < p.cells.length) || (decide (210 < ds.length) || ds.any bigD)
theorem any_prefix {α : Type} (g : α → Bool) {l : List α} {k : Nat} (hk : k < l.length) (h : (l.take k).any g = false) (hx : g l[k] = false) : (l.take (k + 1)).any g = false := by
  rw [List.take_succ_eq_append_getElem hk, List.any_append, h]
  simp [hx]
theorem r_Great (p : Plant) (ds : List Deed) (v : Value) (a : Option Addr) (cap : Nat) (b : Option Addr) (cb : Nat) (w : World) (hv : v = .slice a p.cells.length cap) (hx : Row Deed.cells 4 w.heap.size w b ds) (hc : p.cells.length ≤ cap) (hM : cap ≤ maxLen) (hd : ds.length ≤ cb) (hN : cb ≤ maxLen) :
    Calls Try.prog 46 #[.agg #[v, .int .i64 p.bottles, .int .i64 p.inH, .int .i64 p.inA, .int .i64 p.vH, .int .i64 p.vA, .int .i64 p.lH, .int .i64 p.lA, .int .i64 p.pH, .int .i64 p.pA], .slice b ds.length cb] w fun e w' => e = .returned (.bool (greatB p ds)) ∧ Kept w w' := by
  subst hv
  unfold maxLen at hM hN
  by_cases h1 : 20 < p.cells.length
  · have e1 : decide ((20 : Int) < (p.cells.length : Int)) = true := by simp; omega
    have HG := Lib.hid (show greatB p ds = true by simp [greatB, h1])
    go_enter Try.func46, Try.ntmps46
    go_wp2
    go_ret
    exact ⟨ret_bool HG.out.symm, by (exact kpt)⟩
  · have e1 : decide ((20 : Int) < (p.cells.length : Int)) = false := by simp; omega
    by_cases h2 : 210 < ds.length
    · have e2 : decide ((210 : Int) < (ds.length : Int)) = true := by simp; omega
      have HG := Lib.hid (show greatB p ds = true by simp [greatB, h2])
      go_enter Try.func46, Try.ntmps46
      go_wp2
      go_ret
      exact ⟨ret_bool HG.out.symm, by (exact kpt)⟩
    · have e2 : decide ((210 : Int) < (ds.length : Int)) = false := by simp; omega
      have HQ := Lib.hid (show greatB p ds = ds.any bigD by simp [greatB, h1, h2])
      go_enter Try.func46, Try.ntmps46
      go_wp2
      clear e1 e2
      go_loopw [5] (fun i wr => ∃ k : Nat, k ≤ ds.length ∧ i = .int .i64 k ∧ (ds.take k).any bigD = false ∧ Kept w wr) (fun i _ => ds.length - (intOf i).toNat)
      case atStart => exact ⟨0, Nat.zero_le _, rfl, by simp, by (exact kpt)⟩
      case round =>
        obtain ⟨k, hk, rfl, hany, hkk⟩ := hrel
        have HA := Lib.hid hany
        clear hany
        by_cases hlt : k < ds.length
        · obtain ⟨b1, o1, rfl, hb1, c0, c1, c2, c3⟩ := Deed.row (hx.later hkk (Nat.le_refl _)) k hlt
          obtain ⟨x, hxx⟩ : ∃ x, x = ds[k] := ⟨_, rfl⟩
          rw [← hxx] at c0 c1 c2 c3
          have HX := Lib.hid hxx
          clear hxx
          cases hb : bigD x
          · have HB := Lib.hid hb
            by_cases h7 : x.kind = 7
            · have g7 : (x.kind == 7) = true := by simp [h7]
              have d7 : decide (x.kind = 7) = true := by simp [h7]
              have HI := Lib.hid (show inB x.n 51 1000 = false by simpa [bigD, h7] using hb)
              clear hb h7
              go_wp2_with (go_at_call 104; (with_reducible refine (r_within x.n _ _ _).mono ?_); rw [HI.out]; rintro e w1 ⟨rfl, rfl⟩)
              go_round
              case rel => exact ⟨k + 1, by omega, by go_num, any_prefix bigD hlt HA.out (by rw [← HX.out]; exact HB.out), hkk⟩
              case measure => simp [intOf]; omega
            · have g7 : (x.kind == 7) = false := by simp [h7]
              have d7 : decide (x.kind = 7) = false := by simp [h7]
              clear hb h7
              go_wp2
              go_round
              case rel => exact ⟨k + 1, by omega, by go_num, any_prefix bigD hlt HA.out (by rw [← HX.out]; exact HB.out), hkk⟩
              case measure => simp [intOf]; omega
          · have h7 : x.kind = 7 ∧ inB x.n 51 1000 = true := by simpa [bigD] using hb
            have g7 : (x.kind == 7) = true := by simp [h7.1]
            have d7 : decide (x.kind = 7) = true := by simp [h7.1]
            have HI := Lib.hid h7.2
            have HG := Lib.hid (show greatB p ds = true by rw [HQ.out, List.any_eq_true]; exact ⟨x, by rw [HX.out]; exact List.getElem_mem hlt, hb⟩)
            clear hb h7
            go_wp2_with (go_at_call 104; (with_reducible refine (r_within x.n _ _ _).mono ?_); rw [HI.out]; rintro e w1 ⟨rfl, rfl⟩)
            go_ret
            exact ⟨ret_bool HG.out.symm, hkk⟩
        · obtain rfl : k = ds.length := by omega
          have HG := Lib.hid (show greatB p ds = false by rw [HQ.out]; have := HA.out; rwa [List.take_length] at this)
          go_wp2
          go_ret
          exact ⟨ret_bool HG.out.symm, hkk⟩

theorem r_SameCells (a b : Option Addr) (c d : Nat) (xs : List Cell) (w : World) (hx : Row Cell.cells 7 w.heap.size w a xs) (hy : Row Cell.cells 7 w.heap.size w b xs) (hc : xs.length ≤ c) (hd : xs.length ≤ d) (hM : c ≤ maxLen) (hN : d ≤ maxLen) :
    Calls Try.prog 124 #[.slice a xs.length c, .slice b xs.length d] w fun e w' => e = .returned (.bool true) ∧ Kept w w' := by
  unfold maxLen at hM hN
  go_enter Try.func124, Try.ntmps124
  go_wp2
  go_loopw [5] (fun i wr => ∃ k : Nat, k ≤ xs.length ∧ i = .int .i64 k ∧ Kept w wr) (fun i _ => xs.length - (intOf i).toNat)
  case atStart => exact ⟨0, Nat.zero_le _, rfl, Below.refl _ _⟩
  case round =>
    obtain ⟨k, hk, rfl, hkk⟩ := hrel
    by_cases hlt : k < xs.length
    · obtain ⟨b1, o1, rfl, hb1, h0, h1, h2, h3, h4, h5, h6⟩ := Cell.row (hx.later hkk (Nat.le_refl _)) k hlt
      obtain ⟨b2, o2, rfl, hb2, j0, j1, j2, j3, j4, j5, j6⟩ := Cell.row (hy.later hkk (Nat.le_refl _)) k hlt
      have x0 := fun g : Later wr => g.some h0
      have y0 := fun g : Later wr => g.some j0
      have x1 := fun g : Later wr => g.some h1
      have y1 := fun g : Later wr => g.some j1
      have x2 := fun g : Later wr => g.some h2
      have y2 := fun g : Later wr => g.some j2
      have x3 := fun g : Later wr => g.some h3
      have y3 := fun g : Later wr => g.some j3
      have x4 := fun g : Later wr => g.some h4
      have y4 := fun g : Later wr => g.some j4
      have x5 := fun g : Later wr => g.some h5
      have y5 := fun g : Later wr => g.some j5
      have x6 := fun g : Later wr => g.some h6
      have y6 := fun g : Later wr => g.some j6
      go_upto_region 6 with fail
      refine Later.region (by kernel_rfl) (by kernel_rfl) ?_
      repeat (first | go_big_quiet_skip | (go_big_quiet_want; go_big_quiet_op; first | go_big_quiet_on | (apply Exists.intro; refine ⟨fun g => ?_, ?_⟩; (focus (first | fail)); go_big_quiet_on)))
      refine wpQuiet_nil ?_
      intro gg
      have hkgg := Kept.drop hkk gg.ok
      go_wp2
      go_round
      case rel => exact ⟨k + 1, by omega, by go_num, by (exact kpt)⟩
      case measure => simp [intOf]; omega
    · obtain rfl : k = xs.length := by omega
      go_wp2
      go_ret
      exact ⟨rfl, hkk⟩

theorem r_SamePlant (a b : Option Addr) (c d : Nat) (p : Plant) (w : World) (hx : Row Cell.cells 7 w.heap.size w a p.cells) (hy : Row Cell.cells 7 w.heap.size w b p.cells) (hc : p.cells.length ≤ c) (hd : p.cells.length ≤ d) (hM : c ≤ maxLen) (hN : d ≤ maxLen) :
    Calls Try.prog 52 #[.agg #[.slice a p.cells.length c, .int .i64 p.bottles, .int .i64 p.inH, .int .i64 p.inA, .int .i64 p.vH, .int .i64 p.vA, .int .i64 p.lH, .int .i64 p.lA, .int .i64 p.pH, .int .i64 p.pA], .agg #[.slice b p.cells.length d, .int .i64 p.bottles, .int .i64 p.inH, .int .i64 p.inA, .int .i64 p.vH, .int .i64 p.vA, .int .i64 p.lH, .int .i64 p.lA, .int .i64 p.pH, .int .i64 p.pA]] w fun e w' => e = .returned (.bool true) ∧ Kept w w' := by
  go_enter Try.func52, Try.ntmps52
  go_wp2_with (go_at_call 124; (with_reducible refine (r_SameCells a b c d p.cells _ (hx.later (by (exact kpt)) (Nat.le_refl _)) (hy.later (by (exact kpt)) (Nat.le_refl _)) hc hd hM hN).mono ?_); rintro e w1 ⟨rfl, hb1⟩; refine Blk.thru (b := w.heap.size) (arr := ?_) (t := ?_) ?_ hb1 ?_; rotate_left 2; (focus (exact blk)); intro rr; have rrc0 := rr.cell 0; have rrf0 := rr.free 0; have rrc1 := rr.cell 1; have rrf1 := rr.free 1; have rrc2 := rr.cell 2; have rrf2 := rr.free 2; have rrc3 := rr.cell 3; have rrf3 := rr.free 3; have rrc4 := rr.cell 4; have rrf4 := rr.free 4; have rrc5 := rr.cell 5; have rrf5 := rr.free 5; have rrc6 := rr.cell 6; have rrf6 := rr.free 6; have rrc7 := rr.cell 7; have rrf7 := rr.free 7; have rrc8 := rr.cell 8; have rrf8 := rr.free 8; have rrc9 := rr.cell 9; have rrf9 := rr.free 9; have rrl := rr.lt; simp at rrc0 rrc1 rrc2 rrc3 rrc4 rrc5 rrc6 rrc7 rrc8 rrc9; refine Blk.thru (b := (w.heap.size + 1)) (arr := ?_) (t := ?_) ?_ hb1 ?_; rotate_left 2; (focus (exact blk)); intro rq; have rqc0 := rq.cell 0; have rqf0 := rq.free 0; have rqc1 := rq.cell 1; have rqf1 := rq.free 1; have rqc2 := rq.cell 2; have rqf2 := rq.free 2; have rqc3 := rq.cell 3; have rqf3 := rq.free 3; have rqc4 := rq.cell 4; have rqf4 := rq.free 4; have rqc5 := rq.cell 5; have rqf5 := rq.free 5; have rqc6 := rq.cell 6; have rqf6 := rq.free 6; have rqc7 := rq.cell 7; have rqf7 := rq.free 7; have rqc8 := rq.cell 8; have rqf8 := rq.free 8; have rqc9 := rq.cell 9; have rqf9 := rq.free 9; have rql := rq.lt; simp at rqc0 rqc1 rqc2 rqc3 rqc4 rqc5 rqc6 rqc7 rqc8 rqc9)
  go_ret
  exact ⟨rfl, by (exact kpt)⟩
end Go.Proofs.Ytemafanncejeiaa

/-
  GasDoes: plants and acts are the same in the program and in the reference: for every input.
-/
namespace Go.Proofs.Ytemafanncejeiaa
open Go.RowKit Bal Bal.Trim Bal.Gas
set_option linter.unusedVariables false
set_option linter.unusedSimpArgs false
set_option maxHeartbeats 8000000
set_option maxRecDepth 100000

theorem f_DoK {B n cp : Nat} {ad : Option Addr} {p : Plant} (d : Deed) {w : World} (h : Mine 25 B w (.slice ad n cp) p.cells) (hu : 0 ≤ d.kind ∧ d.kind ≤ 255) (Q : Plant) (E : Int) (hQ : Q = doQ p d) (hE : E = doE p d) :
    Calls Try.prog 48 #[.agg #[.slice ad n cp, .int .i64 p.bottles, .int .i64 p.inH, .int .i64 p.inA, .int .i64 p.vH, .int .i64 p.vA, .int .i64 p.lH, .int .i64 p.lA, .int .i64 p.pH, .int .i64 p.pA], .agg #[.int .u8 d.kind, .int .i64 d.cell, .int .i64 d.to, .int .i64 d.n]] w fun e w' => ∃ v, e = .returned (.tuple #[.agg #[v, .int .i64 Q.bottles, .int .i64 Q.inH, .int .i64 Q.inA, .int .i64 Q.vH, .int .i64 Q.vA, .int .i64 Q.lH, .int .i64 Q.lA, .int .i64 Q.pH, .int .i64 Q.pA], .int .i64 E]) ∧ Mine 25 w.heap.size w' v Q.cells ∧ Kept w w' := by
  obtain ⟨h1, h2, h3, h4, h5⟩ := h.row
  subst h1 hQ hE
  exact f_Do p d ad cp w h2 h3 h4 h5 hu
theorem wf_u8 {n : Int} (h : (Lit.int .u8 n).wf = true) : 0 ≤ n ∧ n ≤ 255 := by
  simp only [Lit.wf, Bool.and_eq_true, decide_eq_true_eq] at h
  have e1 : IntKind.min .u8 = 0 := by decide
  have e2 : IntKind.max .u8 = 255 := by decide
  rw [e1, e2] at h
  exact h
end Go.Proofs.Ytemafanncejeiaa
