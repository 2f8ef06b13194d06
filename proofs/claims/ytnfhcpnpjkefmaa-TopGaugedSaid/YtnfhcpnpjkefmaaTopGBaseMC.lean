/-
  Acts that take a share out of a cell: valve, purify.
-/
import Derived.Recover
import Derived.Laws.EntriesVeiled
import Derived.RangeFuncNested
import Derived.RangeFuncCalls
import Derived.OrdersIn
import Derived.RangeFuncBound
import Derived.RangeFuncLeaves
import Derived.Shelf.Abstract
import Derived.Shelf.RegionOpen
import Derived.WalkKit
import Derived.OwnWalkIn
import Derived.TacticsInMore
import Derived.LoopNIn
import Derived.LoopIn
import Derived.WalkSpells
import Derived.WalkLawsBesides
import Derived.Lib.Hide
import Derived.ProofKit
import Derived.OpenShut
import Derived.ChangeOld
import Derived.Below
import Derived.Deep.Slices
import Derived.Deep.Fields
import Derived.Deep.Quiet
import Derived.Laws.AppendOwn
import Derived.Laws.AppendOwnNone
import Derived.StillTail
import Derived.Test.YtnfhcpnpjkefmaaProg
import Derived.Deep.QuietTactic
import Derived.BigQuiet
import Derived.Deep.RegionHeld3
import Derived.Deep.DeepCutAuto
import Derived.WalkSmall
import Derived.OwnWalk
import Derived.Deep.RegionWith
import Derived.Deep.DrawnRows
import Derived.OrdersHeld
import Derived.Test.YtnfhcpnpjkefmaaTopGBaseMA
import Derived.Test.YtnfhcpnpjkefmaaTopGBaseMB
set_option linter.unusedVariables false
set_option linter.unusedSimpArgs false
/-
  Acts that take a share out of a cell: valve, purify.
-/
namespace Go.Proofs.Ytnfhcpnpjkefmaa
open Go.RowKit Bal Bal.Trim Bal.Gas
set_option linter.unusedVariables false
set_option linter.unusedSimpArgs false
set_option maxHeartbeats 4000000
set_option maxRecDepth 10000

theorem f_outX_none {B cp g : Nat} {xs : List Cell} {w : World} (h : Mine 54 B w (.slice (some ⟨g, 0, none⟩) xs.length cp) xs) {i : Nat} {x : Cell} (hx : xs[i]? = some x) (hc : okC x) (n : Int) (h1 : x.helium + x.air < n) :
    Calls Try.prog 67 #[.pointer (some ⟨g, i * 7, none⟩), .int .i64 n] w fun e w' => e = .panicked [{ v := refusal 6, recovered := false }] ∧ Kept w w' := by
  obtain ⟨hi, rfl⟩ := List.getElem?_eq_some_iff.1 hx
  exact f_out_none h hi hc n h1
theorem f_outX {B cp g : Nat} {xs : List Cell} {w : World} (h : Mine 54 B w (.slice (some ⟨g, 0, none⟩) xs.length cp) xs) {i : Nat} {x : Cell} (hx : xs[i]? = some x) (hc : okC x) (n : Int) (h0 : 1 ≤ n) (h1 : n ≤ x.helium + x.air) :
    Calls Try.prog 67 #[.pointer (some ⟨g, i * 7, none⟩), .int .i64 n] w fun e w' => e = .returned (.agg #[.int .i64 (shareH x n), .int .i64 (n - shareH x n)]) ∧
      Mine 54 B w' (.slice (some ⟨g, 0, none⟩) xs.length cp) (xs.set i (less x n)) ∧ Below B w w' ∧ Besides 54 w w' := by
  obtain ⟨hi, rfl⟩ := List.getElem?_eq_some_iff.1 hx
  exact f_out_ok h hi hc n h0 h1
theorem Besides.thru {T : TypeId} {w w' : World} {b : Nat} {arr : Array Value} {t : TypeId} {G : Prop} (hb : Blk w b arr t) (h : Besides T w w') (hne : t ≠ T) (k : Blk w' b arr t → G) : G := k (h b arr t hne hb)
theorem alloc_pair (ρ : Operand → Value) (o : Oper) (ho : o.op = .alloc 24) (w : World) : (execOp ρ o).run Try.prog w = .ok (.value (.pointer (some ⟨w.heap.size, 0, none⟩))) (w.alloc (.cells #[.int .i64 0, .int .i64 0] 24)) := by
  obtain ⟨_, op, _, _, _, _⟩ := o
  simp only at ho
  subst ho
  simp [execOp, go_sem]
theorem makes_pair {W : World} {ops : Array Oper} {q : Nat} {oq : Oper} (h : ops[q]? = some oq) (hg : oq.guard = none) (ho : oq.op = .alloc 24) : makesB Try.prog ops (fun w' => ∃ g : Later W, w' = g.val) (some q) :=
  ⟨oq, h, hg, fun a w ⟨g, hw⟩ => ⟨_, _, ⟨⟨w.alloc _, by subst hw; exact (g.ok).alloc g.ok.size _⟩, rfl⟩, alloc_pair _ _ ho w⟩⟩

theorem f_valve_no1 {B s cp : Nat} {ad : Option Addr} {p : Plant} {w : World} (d : Deed) (h : Shop 54 89 B w s ad cp p) (hp : plantB p = true) (ha : argB p d = false) : Calls Try.prog 28 #[.pointer (some ⟨s, 0, none⟩), .agg #[.int .u8 d.kind, .int .i64 d.cell, .int .i64 d.to, .int .i64 d.n]] w fun e w' => e = .panicked [{ v := refusal 2, recovered := false }] ∧ Kept w w' := by
  have hn12 : p.cells.length ≤ 12 := (plantB_iff.1 hp).1
  have HA := Lib.hid ha
  obtain ⟨hB, hs, hm⟩ := h
  clear ha hp
  go_enter Try.func28, Try.ntmps28
  go_upto_region 1 with fail
  refine at_world (S := fun W => Blk W w.heap.size #[.int .u8 d.kind, .int .i64 d.cell, .int .i64 d.to, .int .i64 d.n] 43 ∧ Blk W s #[.slice ad p.cells.length cp, .int .i64 (p.bottles), .int .i64 (p.inH), .int .i64 (p.inA), .int .i64 (p.vH), .int .i64 (p.vA), .int .i64 (p.lH), .int .i64 (p.lA), .int .i64 (p.pH), .int .i64 (p.pA)] 89 ∧ Kept w W) ⟨by (exact blkc), hs.keep (by (exact kpt)), by (exact kpt)⟩ ?_
  rintro W ⟨r0, hsW, hk⟩
  have r0c0 := fun g : Later W => (r0.later g).cell 0
  have r0f0 := fun g : Later W => (r0.later g).free 0
  have r0c1 := fun g : Later W => (r0.later g).cell 1
  have r0f1 := fun g : Later W => (r0.later g).free 1
  have r0c2 := fun g : Later W => (r0.later g).cell 2
  have r0f2 := fun g : Later W => (r0.later g).free 2
  have r0c3 := fun g : Later W => (r0.later g).cell 3
  have r0f3 := fun g : Later W => (r0.later g).free 3
  have r0l := fun g : Later W => (r0.later g).lt
  simp at r0c0 r0c1 r0c2 r0c3
  have hsWc0 := fun g : Later W => (hsW.later g).cell 0
  have hsWf0 := fun g : Later W => (hsW.later g).free 0
  have hsWc1 := fun g : Later W => (hsW.later g).cell 1
  have hsWf1 := fun g : Later W => (hsW.later g).free 1
  have hsWc2 := fun g : Later W => (hsW.later g).cell 2
  have hsWf2 := fun g : Later W => (hsW.later g).free 2
  have hsWc3 := fun g : Later W => (hsW.later g).cell 3
  have hsWf3 := fun g : Later W => (hsW.later g).free 3
  have hsWc4 := fun g : Later W => (hsW.later g).cell 4
  have hsWf4 := fun g : Later W => (hsW.later g).free 4
  have hsWc5 := fun g : Later W => (hsW.later g).cell 5
  have hsWf5 := fun g : Later W => (hsW.later g).free 5
  have hsWc6 := fun g : Later W => (hsW.later g).cell 6
  have hsWf6 := fun g : Later W => (hsW.later g).free 6
  have hsWc7 := fun g : Later W => (hsW.later g).cell 7
  have hsWf7 := fun g : Later W => (hsW.later g).free 7
  have hsWc8 := fun g : Later W => (hsW.later g).cell 8
  have hsWf8 := fun g : Later W => (hsW.later g).free 8
  have hsWc9 := fun g : Later W => (hsW.later g).cell 9
  have hsWf9 := fun g : Later W => (hsW.later g).free 9
  have hsWl := fun g : Later W => (hsW.later g).lt
  simp at hsWc0 hsWc1 hsWc2 hsWc3 hsWc4 hsWc5 hsWc6 hsWc7 hsWc8 hsWc9
  refine later_dies [0, 1, 2, 3, 4, 5, 6, 7, 9, 10] 8 none (by kernel_rfl) (by kernel_rfl) (fun c a d v w h => by cases d <;> exact h) trivial ?_
  simp only [List.filterMap_cons, List.filterMap_nil, List.getElem?_cons_zero, List.getElem?_cons_succ, List.map_cons, List.map_nil]
  repeat (refine wpSteps_quiet ?_; (first | go_big_quiet_skip | (go_big_quiet_want; go_big_quiet_op; first | go_big_quiet_on | (apply Exists.intro; refine ⟨fun g_ => ?_, ?_⟩; (focus (first | fail)); go_big_quiet_on))); refine wpQuiet_nil ?_)
  refine wpSteps_nil ?_
  refine ⟨DiesAt.of rfl rfl (fun w' hw' => ?_), fun _ _ h => by cases h⟩
  obtain ⟨gg, rfl⟩ := hw'
  simp only [Go.wp_at_succ, Go.wp_at_zero]
  go_simp
  (with_reducible refine (f_cell_no s ad cp p d _ (hsW.later gg) hn12 HA.out).mono ?_)
  rintro e w1 ⟨rfl, hb1⟩
  have hkg := Kept.drop hk gg.ok
  exact ⟨rfl, rfl, by (exact kpt)⟩
theorem f_valve_no2 {B s cp : Nat} {ad : Option Addr} {p : Plant} {w : World} (d : Deed) (h : Shop 54 89 B w s ad cp p) (hp : plantB p = true) (ha : argB p d = true) (hl : amount (at_ p d) < d.n) : Calls Try.prog 28 #[.pointer (some ⟨s, 0, none⟩), .agg #[.int .u8 d.kind, .int .i64 d.cell, .int .i64 d.to, .int .i64 d.n]] w fun e w' => e = .panicked [{ v := refusal 6, recovered := false }] ∧ Kept w w' := by
  have hn12 : p.cells.length ≤ 12 := (plantB_iff.1 hp).1
  have hb := plantB_iff.1 hp
  have hi : d.cell.toNat < p.cells.length := by
    have h1 : rng [d.cell] 0 (p.cells.length - 1) = true := by unfold argB at ha; simp only [Bool.and_eq_true] at ha; exact ha.1
    have : 0 ≤ d.cell ∧ d.cell ≤ p.cells.length - 1 := by simpa [rng, inB] using h1
    omega
  have hn : 1 ≤ d.n ∧ d.n ≤ 10000000 := by
    have h1 : rng [d.n] 1 10000000 = true := by unfold argB at ha; simp only [Bool.and_eq_true] at ha; exact ha.2
    simpa [rng, inB] using h1
  have hcv : cellB p.cells[d.cell.toNat] = true := hb.2.2.2.2.2.2.1 _ (List.getElem_mem hi)
  have hat : at_ p d = p.cells[d.cell.toNat] := cellAt_get hi
  have HA := Lib.hid ha
  obtain ⟨hB, hs, hm⟩ := h
  have hBw : B ≤ w.heap.size := by have := hs.lt; omega
  obtain ⟨g, _, rfl, hBg, hbg, _⟩ := hm.at hi
  have hgl := hbg.lt
  clear hbg
  obtain ⟨x, hx⟩ : ∃ x, x = p.cells[d.cell.toNat] := ⟨_, rfl⟩
  have HX := Lib.hid (show p.cells[d.cell.toNat]? = some x by rw [hx]; simp [hi])
  rw [← hx] at hcv hat
  have hxb := cellB_iff.1 hcv
  have HAT := Lib.hid hat
  have HXX := Lib.hid hx
  clear ha hat hx
  have hlt : x.helium + x.air < d.n := by rw [HAT.out] at hl; exact hl
  have HOK := Lib.hid (okC_of hcv)
  clear hp hb hl
  go_enter Try.func28, Try.ntmps28
  go_upto_region 1 with fail
  refine at_world (S := fun W => Blk W w.heap.size #[.int .u8 d.kind, .int .i64 d.cell, .int .i64 d.to, .int .i64 d.n] 43 ∧ Blk W s #[.slice (some ⟨g, 0, none⟩) p.cells.length cp, .int .i64 (p.bottles), .int .i64 (p.inH), .int .i64 (p.inA), .int .i64 (p.vH), .int .i64 (p.vA), .int .i64 (p.lH), .int .i64 (p.lA), .int .i64 (p.pH), .int .i64 (p.pA)] 89 ∧ Mine 54 B W (.slice (some ⟨g, 0, none⟩) p.cells.length cp) p.cells ∧ Kept w W) ⟨by (exact blkc), hs.keep (by (exact kpt)), hm.keep (by (exact kpt)), by (exact kpt)⟩ ?_
  rintro W ⟨r0, hsW, hmW, hk⟩
  have r0c0 := fun g : Later W => (r0.later g).cell 0
  have r0f0 := fun g : Later W => (r0.later g).free 0
  have r0c1 := fun g : Later W => (r0.later g).cell 1
  have r0f1 := fun g : Later W => (r0.later g).free 1
  have r0c2 := fun g : Later W => (r0.later g).cell 2
  have r0f2 := fun g : Later W => (r0.later g).free 2
  have r0c3 := fun g : Later W => (r0.later g).cell 3
  have r0f3 := fun g : Later W => (r0.later g).free 3
  have r0l := fun g : Later W => (r0.later g).lt
  simp at r0c0 r0c1 r0c2 r0c3
  have hsWc0 := fun g : Later W => (hsW.later g).cell 0
  have hsWf0 := fun g : Later W => (hsW.later g).free 0
  have hsWc1 := fun g : Later W => (hsW.later g).cell 1
  have hsWf1 := fun g : Later W => (hsW.later g).free 1
  have hsWc2 := fun g : Later W => (hsW.later g).cell 2
  have hsWf2 := fun g : Later W => (hsW.later g).free 2
  have hsWc3 := fun g : Later W => (hsW.later g).cell 3
  have hsWf3 := fun g : Later W => (hsW.later g).free 3
  have hsWc4 := fun g : Later W => (hsW.later g).cell 4
  have hsWf4 := fun g : Later W => (hsW.later g).free 4
  have hsWc5 := fun g : Later W => (hsW.later g).cell 5
  have hsWf5 := fun g : Later W => (hsW.later g).free 5
  have hsWc6 := fun g : Later W => (hsW.later g).cell 6
  have hsWf6 := fun g : Later W => (hsW.later g).free 6
  have hsWc7 := fun g : Later W => (hsW.later g).cell 7
  have hsWf7 := fun g : Later W => (hsW.later g).free 7
  have hsWc8 := fun g : Later W => (hsW.later g).cell 8
  have hsWf8 := fun g : Later W => (hsW.later g).free 8
  have hsWc9 := fun g : Later W => (hsW.later g).cell 9
  have hsWf9 := fun g : Later W => (hsW.later g).free 9
  have hsWl := fun g : Later W => (hsW.later g).lt
  simp at hsWc0 hsWc1 hsWc2 hsWc3 hsWc4 hsWc5 hsWc6 hsWc7 hsWc8 hsWc9
  refine later_dies [0, 1, 2, 3, 4, 5, 6, 7, 8, 9, 10] 11 none (by kernel_rfl) (by kernel_rfl) (fun c a d v w h => by cases d <;> exact h) trivial ?_
  simp only [List.filterMap_cons, List.filterMap_nil, List.getElem?_cons_zero, List.getElem?_cons_succ, List.map_cons, List.map_nil]
  repeat (refine wpSteps_quiet ?_; (first | go_big_quiet_skip | (go_big_quiet_want; go_big_quiet_op; first | go_big_quiet_on | (apply Exists.intro; refine ⟨fun g_ => ?_, ?_⟩; (focus (first | (go_at_call 66; exact Later.call (f_cell_ok s g cp p d _ (hsW.later g_) hn12 HA.out)))); go_big_quiet_on))); refine wpQuiet_nil ?_)
  refine wpSteps_nil ?_
  refine ⟨DiesAt.of rfl rfl (fun w' hw' => ?_), fun _ _ h => by cases h⟩
  obtain ⟨gg, rfl⟩ := hw'
  simp only [Go.wp_at_succ, Go.wp_at_zero]
  go_simp
  (with_reducible refine (f_outX_none (hmW.keep gg.ok) HX.out HOK.out d.n hlt).mono ?_)
  rintro e w1 ⟨rfl, hb1⟩
  have hkg := Kept.drop hk gg.ok
  exact ⟨rfl, rfl, by (exact kpt)⟩
theorem f_valve_ok {B s cp : Nat} {ad : Option Addr} {p : Plant} {w : World} (d : Deed) (h : Shop 54 89 B w s ad cp p) (hp : plantB p = true) (ha : argB p d = true) (hl : ¬ amount (at_ p d) < d.n) : Calls Try.prog 28 #[.pointer (some ⟨s, 0, none⟩), .agg #[.int .u8 d.kind, .int .i64 d.cell, .int .i64 d.to, .int .i64 d.n]] w fun e w' => e = .returned (.tuple #[]) ∧ Shop 54 89 B w' s ad cp (valveP p d) ∧ Below B w w' := by
  have hn12 : p.cells.length ≤ 12 := (plantB_iff.1 hp).1
  have hb := plantB_iff.1 hp
  have hi : d.cell.toNat < p.cells.length := by
    have h1 : rng [d.cell] 0 (p.cells.length - 1) = true := by unfold argB at ha; simp only [Bool.and_eq_true] at ha; exact ha.1
    have : 0 ≤ d.cell ∧ d.cell ≤ p.cells.length - 1 := by simpa [rng, inB] using h1
    omega
  have hn : 1 ≤ d.n ∧ d.n ≤ 10000000 := by
    have h1 : rng [d.n] 1 10000000 = true := by unfold argB at ha; simp only [Bool.and_eq_true] at ha; exact ha.2
    simpa [rng, inB] using h1
  have hcv : cellB p.cells[d.cell.toNat] = true := hb.2.2.2.2.2.2.1 _ (List.getElem_mem hi)
  have hat : at_ p d = p.cells[d.cell.toNat] := cellAt_get hi
  have HA := Lib.hid ha
  obtain ⟨hB, hs, hm⟩ := h
  have hBw : B ≤ w.heap.size := by have := hs.lt; omega
  obtain ⟨g, _, rfl, hBg, hbg, _⟩ := hm.at hi
  have hgl := hbg.lt
  clear hbg
  obtain ⟨x, hx⟩ : ∃ x, x = p.cells[d.cell.toNat] := ⟨_, rfl⟩
  have HX := Lib.hid (show p.cells[d.cell.toNat]? = some x by rw [hx]; simp [hi])
  rw [← hx] at hcv hat
  have hxb := cellB_iff.1 hcv
  have HAT := Lib.hid hat
  have HXX := Lib.hid hx
  clear ha hat hx
  have hle : d.n ≤ x.helium + x.air := by rw [HAT.out] at hl; unfold amount at hl; omega
  have HOK := Lib.hid (okC_of hcv)
  obtain ⟨s0, s1, s2, s3⟩ := share_bd HOK.out (show 0 ≤ d.n by omega) hle
  obtain ⟨S, hS⟩ : ∃ S, S = shareH x d.n := ⟨_, rfl⟩
  have HSS := Lib.hid (show shareH x d.n = S from hS.symm)
  have HOUT := fun (W : World) (q : Mine 54 B W (.slice (some ⟨g, 0, none⟩) p.cells.length cp) p.cells) => f_outX q HX.out HOK.out d.n hn.1 hle
  rw [← hS] at s0 s1 s2 s3 HOUT
  obtain ⟨_, hb1, ⟨hb2, hb3⟩, ⟨hb4, hb5⟩, ⟨hb6, hb7⟩, ⟨hb8, hb9⟩, _⟩ := hb
  clear hS hl
  clear hp
  go_enter Try.func28, Try.ntmps28
  go_upto_region 1 with fail
  refine at_world (S := fun W => Blk W w.heap.size #[.int .u8 d.kind, .int .i64 d.cell, .int .i64 d.to, .int .i64 d.n] 43 ∧ Blk W s #[.slice (some ⟨g, 0, none⟩) p.cells.length cp, .int .i64 (p.bottles), .int .i64 (p.inH), .int .i64 (p.inA), .int .i64 (p.vH), .int .i64 (p.vA), .int .i64 (p.lH), .int .i64 (p.lA), .int .i64 (p.pH), .int .i64 (p.pA)] 89 ∧ Mine 54 B W (.slice (some ⟨g, 0, none⟩) p.cells.length cp) p.cells ∧ Kept w W) ⟨by (exact blkc), hs.keep (by (exact kpt)), hm.keep (by (exact kpt)), by (exact kpt)⟩ ?_
  rintro W ⟨r0, hsW, hmW, hk⟩
  refine held_walk (fun w' => Blk w' s #[.slice (some ⟨g, 0, none⟩) p.cells.length cp, .int .i64 (p.bottles), .int .i64 (p.inH), .int .i64 (p.inA), .int .i64 (p.vH), .int .i64 (p.vA), .int .i64 (p.lH), .int .i64 (p.lA), .int .i64 (p.pH), .int .i64 (p.pA)] 89 ∧ Blk w' w.heap.size #[.int .u8 d.kind, .int .i64 d.cell, .int .i64 d.to, .int .i64 d.n] 43) [(true, 0), (true, 1), (true, 2), (true, 3), (true, 4), (true, 5), (true, 6), (true, 7), (true, 9), (true, 10), (false, 8), (false, 11), (false, 12), (true, 13), (true, 14), (true, 15), (false, 16)] 16 (by kernel_rfl) (by kernel_rfl) (fun c a d v w h => by cases d <;> exact h) ⟨hsW.drew, r0.drew⟩ ?_
  simp only [List.filterMap_cons, List.filterMap_nil, List.getElem?_cons_zero, List.getElem?_cons_succ, Option.map_some]
  iterate 10 ((first | (refine held_take ?_ ?_ (fun w' hS => ?_) ?_; rotate_left 1; (focus rfl); (focus (first | (go_simp; done) | (go_simp; with_reducible rfl) | (obtain ⟨S1, S2⟩ := hS; have k0 := S1.cell 0; have k1 := S1.cell 1; have k2 := S1.cell 2; have k3 := S1.cell 3; have k4 := S1.cell 4; have k5 := S1.cell 5; have k6 := S1.cell 6; have k7 := S1.cell 7; have k8 := S1.cell 8; have k9 := S1.cell 9; have j0 := S2.cell 0; have j1 := S2.cell 1; have j2 := S2.cell 2; have j3 := S2.cell 3; simp at k0 k1 k2 k3 k4 k5 k6 k7 k8 k9 j0 j1 j2 j3; first | (go_simp; done) | (go_simp; with_reducible rfl))))) | (refine held_pass ?_ ?_; (focus rfl))); simp only [Act.put, List.setIfInBounds_toArray, List.set_cons_zero, List.set_cons_succ])
  refine held_one ?_
  refine wpList_plain rfl fun K1 hK1 => ?_
  go_wp2_with (go_at_call 66; (with_reducible refine (f_cell_ok s g cp p d _ hsW.drew hn12 HA.out).mono ?_); rintro e w1 ⟨rfl, hb1⟩)
  refine held_on ⟨hsW.drew.keep hb1, r0.drew.keep hb1⟩ ?_
  refine held_one ?_
  refine wpList_plain rfl fun K1 hK1 => ?_
  go_wp2_with (go_at_call 67; (with_reducible refine (HOUT _ (hmW.drew.keep hb1)).mono ?_); rintro e w2 ⟨rfl, hm2, hw2, hbes2⟩)
  refine held_on ⟨(hsW.drew.keep hb1 |> hbes2.blk (by decide)), (r0.drew.keep hb1 |> hbes2.blk (by decide))⟩ ?_
  refine held_one ?_
  refine wpList_plain rfl fun K1 hK1 => ?_
  go_wp2_with (go_at_call 64; (with_reducible refine (f_plus _ _ _ _ _ (by omega) (by omega) (by omega) (by omega)).mono ?_); rintro e w3 ⟨rfl, hb3⟩)
  refine held_on ⟨(hbes2.blk (by decide) (hsW.drew.keep hb1)).keep hb3, (hbes2.blk (by decide) (r0.drew.keep hb1)).keep hb3⟩ ?_
  iterate 3 ((first | (refine held_take ?_ ?_ (fun w' hS => ?_) ?_; rotate_left 1; (focus rfl); (focus (first | (go_simp; done) | (go_simp; with_reducible rfl) | (obtain ⟨S1, S2⟩ := hS; have k0 := S1.cell 0; have k1 := S1.cell 1; have k2 := S1.cell 2; have k3 := S1.cell 3; have k4 := S1.cell 4; have k5 := S1.cell 5; have k6 := S1.cell 6; have k7 := S1.cell 7; have k8 := S1.cell 8; have k9 := S1.cell 9; have j0 := S2.cell 0; have j1 := S2.cell 1; have j2 := S2.cell 2; have j3 := S2.cell 3; simp at k0 k1 k2 k3 k4 k5 k6 k7 k8 k9 j0 j1 j2 j3; first | (go_simp; done) | (go_simp; with_reducible rfl))))) | (refine held_pass ?_ ?_; (focus rfl))); simp only [Act.put, List.setIfInBounds_toArray, List.set_cons_zero, List.set_cons_succ])
  refine held_one ?_
  refine wpList_plain rfl fun K1 hK1 => ?_
  have z1 : Blk w3 s #[.slice (some ⟨g, 0, none⟩) p.cells.length cp, .int .i64 (p.bottles), .int .i64 (p.inH), .int .i64 (p.inA), .int .i64 (p.vH), .int .i64 (p.vA), .int .i64 (p.lH), .int .i64 (p.lA), .int .i64 (p.pH), .int .i64 (p.pA)] 89 := (hbes2.blk (by decide) (hsW.drew.keep hb1)).keep hb3
  have z1c0 := z1.cell 0
  have z1f0 := z1.free 0
  have z1c1 := z1.cell 1
  have z1f1 := z1.free 1
  have z1c2 := z1.cell 2
  have z1f2 := z1.free 2
  have z1c3 := z1.cell 3
  have z1f3 := z1.free 3
  have z1c4 := z1.cell 4
  have z1f4 := z1.free 4
  have z1c5 := z1.cell 5
  have z1f5 := z1.free 5
  have z1c6 := z1.cell 6
  have z1f6 := z1.free 6
  have z1c7 := z1.cell 7
  have z1f7 := z1.free 7
  have z1c8 := z1.cell 8
  have z1f8 := z1.free 8
  have z1c9 := z1.cell 9
  have z1f9 := z1.free 9
  have z1l := z1.lt
  simp at z1c0 z1c1 z1c2 z1c3 z1c4 z1c5 z1c6 z1c7 z1c8 z1c9
  go_wp2
  (first | refine held_end ?_ | (refine onward_on ?_; refine held_nil ?_))
  go_wp2
  go_end0
  refine ⟨rfl, ⟨hB, ?_, ?_⟩, ?_⟩
  · exact ((z1.set 4 (.int .i64 (p.vH + S))).set 5 (.int .i64 (p.vA + (d.n - S)))).cast (by simp [plantCells, valveP, lessP, HAT.out, HSS.out])
  · have q := ((hm2.keep hb3).other z1 (by decide) (o := 4) (.int .i64 (p.vH + S))).other (z1.set 4 (.int .i64 (p.vH + S))) (by decide) (o := 5) (.int .i64 (p.vA + (d.n - S)))
    simpa [valveP, lessP, HAT.out] using q
  · have e0 := hk.size
    have e1 : W.heap.size ≤ w1.heap.size := hb1.size
    have e2 := hw2.size
    have q := ((((hk.mono hBw).drew).trans (hb1.mono (show B ≤ W.heap.size by omega))).trans hw2).trans (hb3.mono (by omega))
    exact (q.setCell hB _).setCell hB _

theorem f_purify_no1 {B s cp : Nat} {ad : Option Addr} {p : Plant} {w : World} (d : Deed) (h : Shop 54 89 B w s ad cp p) (hp : plantB p = true) (ha : argB p d = false) : Calls Try.prog 30 #[.pointer (some ⟨s, 0, none⟩), .agg #[.int .u8 d.kind, .int .i64 d.cell, .int .i64 d.to, .int .i64 d.n]] w fun e w' => e = .panicked [{ v := refusal 2, recovered := false }] ∧ Kept w w' := by
  have hn12 : p.cells.length ≤ 12 := (plantB_iff.1 hp).1
  have HA := Lib.hid ha
  obtain ⟨hB, hs, hm⟩ := h
  clear ha hp
  go_enter Try.func30, Try.ntmps30
  go_upto_region 1 with fail
  refine at_world (S := fun W => Blk W w.heap.size #[.int .u8 d.kind, .int .i64 d.cell, .int .i64 d.to, .int .i64 d.n] 43 ∧ Blk W s #[.slice ad p.cells.length cp, .int .i64 (p.bottles), .int .i64 (p.inH), .int .i64 (p.inA), .int .i64 (p.vH), .int .i64 (p.vA), .int .i64 (p.lH), .int .i64 (p.lA), .int .i64 (p.pH), .int .i64 (p.pA)] 89 ∧ Kept w W) ⟨by (exact blkc), hs.keep (by (exact kpt)), by (exact kpt)⟩ ?_
  rintro W ⟨r0, hsW, hk⟩
  have r0c0 := fun g : Later W => (r0.later g).cell 0
  have r0f0 := fun g : Later W => (r0.later g).free 0
  have r0c1 := fun g : Later W => (r0.later g).cell 1
  have r0f1 := fun g : Later W => (r0.later g).free 1
  have r0c2 := fun g : Later W => (r0.later g).cell 2
  have r0f2 := fun g : Later W => (r0.later g).free 2
  have r0c3 := fun g : Later W => (r0.later g).cell 3
  have r0f3 := fun g : Later W => (r0.later g).free 3
  have r0l := fun g : Later W => (r0.later g).lt
  simp at r0c0 r0c1 r0c2 r0c3
  have hsWc0 := fun g : Later W => (hsW.later g).cell 0
  have hsWf0 := fun g : Later W => (hsW.later g).free 0
  have hsWc1 := fun g : Later W => (hsW.later g).cell 1
  have hsWf1 := fun g : Later W => (hsW.later g).free 1
  have hsWc2 := fun g : Later W => (hsW.later g).cell 2
  have hsWf2 := fun g : Later W => (hsW.later g).free 2
  have hsWc3 := fun g : Later W => (hsW.later g).cell 3
  have hsWf3 := fun g : Later W => (hsW.later g).free 3
  have hsWc4 := fun g : Later W => (hsW.later g).cell 4
  have hsWf4 := fun g : Later W => (hsW.later g).free 4
  have hsWc5 := fun g : Later W => (hsW.later g).cell 5
  have hsWf5 := fun g : Later W => (hsW.later g).free 5
  have hsWc6 := fun g : Later W => (hsW.later g).cell 6
  have hsWf6 := fun g : Later W => (hsW.later g).free 6
  have hsWc7 := fun g : Later W => (hsW.later g).cell 7
  have hsWf7 := fun g : Later W => (hsW.later g).free 7
  have hsWc8 := fun g : Later W => (hsW.later g).cell 8
  have hsWf8 := fun g : Later W => (hsW.later g).free 8
  have hsWc9 := fun g : Later W => (hsW.later g).cell 9
  have hsWf9 := fun g : Later W => (hsW.later g).free 9
  have hsWl := fun g : Later W => (hsW.later g).lt
  simp at hsWc0 hsWc1 hsWc2 hsWc3 hsWc4 hsWc5 hsWc6 hsWc7 hsWc8 hsWc9
  refine later_dies [0, 1, 3, 4] 2 (some 6) (by kernel_rfl) (by kernel_rfl) (fun c a d v w h => by cases d <;> exact h) (makes_pair rfl rfl rfl) ?_
  simp only [List.filterMap_cons, List.filterMap_nil, List.getElem?_cons_zero, List.getElem?_cons_succ, List.map_cons, List.map_nil]
  repeat (refine wpSteps_quiet ?_; (first | go_big_quiet_skip | (go_big_quiet_want; go_big_quiet_op; first | go_big_quiet_on | (apply Exists.intro; refine ⟨fun g_ => ?_, ?_⟩; (focus (first | fail)); go_big_quiet_on))); refine wpQuiet_nil ?_)
  refine wpSteps_nil ?_
  refine ⟨DiesAt.of rfl rfl (fun w' hw' => ?_), fun _ oq hq ho v => ?_⟩
  · obtain ⟨gg, rfl⟩ := hw'
    simp only [Go.wp_at_succ, Go.wp_at_zero]
    go_simp
    (with_reducible refine (f_cell_no s ad cp p d _ (hsW.later gg) hn12 HA.out).mono ?_)
    rintro e w1 ⟨rfl, hb1⟩
    have hkg := Kept.drop hk gg.ok
    exact ⟨rfl, rfl, by (exact kpt)⟩
  · cases hq
    obtain rfl : _ = oq := Option.some.inj ho
    simp only [Act.put, List.setIfInBounds_toArray, List.set_cons_zero, List.set_cons_succ]
    refine DiesAt.of rfl rfl (fun w' hw' => ?_)
    obtain ⟨gg, rfl⟩ := hw'
    simp only [Go.wp_at_succ, Go.wp_at_zero]
    go_simp
    (with_reducible refine (f_cell_no s ad cp p d _ (hsW.later gg) hn12 HA.out).mono ?_)
    rintro e w1 ⟨rfl, hb1⟩
    have hkg := Kept.drop hk gg.ok
    exact ⟨rfl, rfl, by (exact kpt)⟩
theorem f_purify_no2 {B s cp : Nat} {ad : Option Addr} {p : Plant} {w : World} (d : Deed) (h : Shop 54 89 B w s ad cp p) (hp : plantB p = true) (ha : argB p d = true) (hl : amount (at_ p d) < d.n) : Calls Try.prog 30 #[.pointer (some ⟨s, 0, none⟩), .agg #[.int .u8 d.kind, .int .i64 d.cell, .int .i64 d.to, .int .i64 d.n]] w fun e w' => e = .panicked [{ v := refusal 6, recovered := false }] ∧ Kept w w' := by
  have hn12 : p.cells.length ≤ 12 := (plantB_iff.1 hp).1
  have hb := plantB_iff.1 hp
  have hi : d.cell.toNat < p.cells.length := by
    have h1 : rng [d.cell] 0 (p.cells.length - 1) = true := by unfold argB at ha; simp only [Bool.and_eq_true] at ha; exact ha.1
    have : 0 ≤ d.cell ∧ d.cell ≤ p.cells.length - 1 := by simpa [rng, inB] using h1
    omega
  have hn : 1 ≤ d.n ∧ d.n ≤ 10000000 := by
    have h1 : rng [d.n] 1 10000000 = true := by unfold argB at ha; simp only [Bool.and_eq_true] at ha; exact ha.2
    simpa [rng, inB] using h1
  have hcv : cellB p.cells[d.cell.toNat] = true := hb.2.2.2.2.2.2.1 _ (List.getElem_mem hi)
  have hat : at_ p d = p.cells[d.cell.toNat] := cellAt_get hi
  have HA := Lib.hid ha
  obtain ⟨hB, hs, hm⟩ := h
  have hBw : B ≤ w.heap.size := by have := hs.lt; omega
  obtain ⟨g, _, rfl, hBg, hbg, _⟩ := hm.at hi
  have hgl := hbg.lt
  clear hbg
  obtain ⟨x, hx⟩ : ∃ x, x = p.cells[d.cell.toNat] := ⟨_, rfl⟩
  have HX := Lib.hid (show p.cells[d.cell.toNat]? = some x by rw [hx]; simp [hi])
  rw [← hx] at hcv hat
  have hxb := cellB_iff.1 hcv
  have HAT := Lib.hid hat
  have HXX := Lib.hid hx
  clear ha hat hx
  have hlt : x.helium + x.air < d.n := by rw [HAT.out] at hl; exact hl
  have HOK := Lib.hid (okC_of hcv)
  clear hp hb hl
  go_enter Try.func30, Try.ntmps30
  go_upto_region 1 with fail
  refine at_world (S := fun W => Blk W w.heap.size #[.int .u8 d.kind, .int .i64 d.cell, .int .i64 d.to, .int .i64 d.n] 43 ∧ Blk W s #[.slice (some ⟨g, 0, none⟩) p.cells.length cp, .int .i64 (p.bottles), .int .i64 (p.inH), .int .i64 (p.inA), .int .i64 (p.vH), .int .i64 (p.vA), .int .i64 (p.lH), .int .i64 (p.lA), .int .i64 (p.pH), .int .i64 (p.pA)] 89 ∧ Mine 54 B W (.slice (some ⟨g, 0, none⟩) p.cells.length cp) p.cells ∧ Kept w W) ⟨by (exact blkc), hs.keep (by (exact kpt)), hm.keep (by (exact kpt)), by (exact kpt)⟩ ?_
  rintro W ⟨r0, hsW, hmW, hk⟩
  have r0c0 := fun g : Later W => (r0.later g).cell 0
  have r0f0 := fun g : Later W => (r0.later g).free 0
  have r0c1 := fun g : Later W => (r0.later g).cell 1
  have r0f1 := fun g : Later W => (r0.later g).free 1
  have r0c2 := fun g : Later W => (r0.later g).cell 2
  have r0f2 := fun g : Later W => (r0.later g).free 2
  have r0c3 := fun g : Later W => (r0.later g).cell 3
  have r0f3 := fun g : Later W => (r0.later g).free 3
  have r0l := fun g : Later W => (r0.later g).lt
  simp at r0c0 r0c1 r0c2 r0c3
  have hsWc0 := fun g : Later W => (hsW.later g).cell 0
  have hsWf0 := fun g : Later W => (hsW.later g).free 0
  have hsWc1 := fun g : Later W => (hsW.later g).cell 1
  have hsWf1 := fun g : Later W => (hsW.later g).free 1
  have hsWc2 := fun g : Later W => (hsW.later g).cell 2
  have hsWf2 := fun g : Later W => (hsW.later g).free 2
  have hsWc3 := fun g : Later W => (hsW.later g).cell 3
  have hsWf3 := fun g : Later W => (hsW.later g).free 3
  have hsWc4 := fun g : Later W => (hsW.later g).cell 4
  have hsWf4 := fun g : Later W => (hsW.later g).free 4
  have hsWc5 := fun g : Later W => (hsW.later g).cell 5
  have hsWf5 := fun g : Later W => (hsW.later g).free 5
  have hsWc6 := fun g : Later W => (hsW.later g).cell 6
  have hsWf6 := fun g : Later W => (hsW.later g).free 6
  have hsWc7 := fun g : Later W => (hsW.later g).cell 7
  have hsWf7 := fun g : Later W => (hsW.later g).free 7
  have hsWc8 := fun g : Later W => (hsW.later g).cell 8
  have hsWf8 := fun g : Later W => (hsW.later g).free 8
  have hsWc9 := fun g : Later W => (hsW.later g).cell 9
  have hsWf9 := fun g : Later W => (hsW.later g).free 9
  have hsWl := fun g : Later W => (hsW.later g).lt
  simp at hsWc0 hsWc1 hsWc2 hsWc3 hsWc4 hsWc5 hsWc6 hsWc7 hsWc8 hsWc9
  refine later_dies [0, 1, 2, 3, 4] 5 (some 6) (by kernel_rfl) (by kernel_rfl) (fun c a d v w h => by cases d <;> exact h) (makes_pair rfl rfl rfl) ?_
  simp only [List.filterMap_cons, List.filterMap_nil, List.getElem?_cons_zero, List.getElem?_cons_succ, List.map_cons, List.map_nil]
  repeat (refine wpSteps_quiet ?_; (first | go_big_quiet_skip | (go_big_quiet_want; go_big_quiet_op; first | go_big_quiet_on | (apply Exists.intro; refine ⟨fun g_ => ?_, ?_⟩; (focus (first | (go_at_call 66; exact Later.call (f_cell_ok s g cp p d _ (hsW.later g_) hn12 HA.out)))); go_big_quiet_on))); refine wpQuiet_nil ?_)
  refine wpSteps_nil ?_
  refine ⟨DiesAt.of rfl rfl (fun w' hw' => ?_), fun _ oq hq ho v => ?_⟩
  · obtain ⟨gg, rfl⟩ := hw'
    simp only [Go.wp_at_succ, Go.wp_at_zero]
    go_simp
    (with_reducible refine (f_outX_none (hmW.keep gg.ok) HX.out HOK.out d.n hlt).mono ?_)
    rintro e w1 ⟨rfl, hb1⟩
    have hkg := Kept.drop hk gg.ok
    exact ⟨rfl, rfl, by (exact kpt)⟩
  · cases hq
    obtain rfl : _ = oq := Option.some.inj ho
    simp only [Act.put, List.setIfInBounds_toArray, List.set_cons_zero, List.set_cons_succ]
    refine DiesAt.of rfl rfl (fun w' hw' => ?_)
    obtain ⟨gg, rfl⟩ := hw'
    simp only [Go.wp_at_succ, Go.wp_at_zero]
    go_simp
    (with_reducible refine (f_outX_none (hmW.keep gg.ok) HX.out HOK.out d.n hlt).mono ?_)
    rintro e w1 ⟨rfl, hb1⟩
    have hkg := Kept.drop hk gg.ok
    exact ⟨rfl, rfl, by (exact kpt)⟩
theorem f_purify_ok {B s cp : Nat} {ad : Option Addr} {p : Plant} {w : World} (d : Deed) (h : Shop 54 89 B w s ad cp p) (hp : plantB p = true) (ha : argB p d = true) (hl : ¬ amount (at_ p d) < d.n) : Calls Try.prog 30 #[.pointer (some ⟨s, 0, none⟩), .agg #[.int .u8 d.kind, .int .i64 d.cell, .int .i64 d.to, .int .i64 d.n]] w fun e w' => e = .returned (.tuple #[]) ∧ Shop 54 89 B w' s ad cp (purifyP p d) ∧ Below B w w' := by
  have hn12 : p.cells.length ≤ 12 := (plantB_iff.1 hp).1
  have hb := plantB_iff.1 hp
  have hi : d.cell.toNat < p.cells.length := by
    have h1 : rng [d.cell] 0 (p.cells.length - 1) = true := by unfold argB at ha; simp only [Bool.and_eq_true] at ha; exact ha.1
    have : 0 ≤ d.cell ∧ d.cell ≤ p.cells.length - 1 := by simpa [rng, inB] using h1
    omega
  have hn : 1 ≤ d.n ∧ d.n ≤ 10000000 := by
    have h1 : rng [d.n] 1 10000000 = true := by unfold argB at ha; simp only [Bool.and_eq_true] at ha; exact ha.2
    simpa [rng, inB] using h1
  have hcv : cellB p.cells[d.cell.toNat] = true := hb.2.2.2.2.2.2.1 _ (List.getElem_mem hi)
  have hat : at_ p d = p.cells[d.cell.toNat] := cellAt_get hi
  have HA := Lib.hid ha
  obtain ⟨hB, hs, hm⟩ := h
  have hBw : B ≤ w.heap.size := by have := hs.lt; omega
  obtain ⟨g, _, rfl, hBg, hbg, _⟩ := hm.at hi
  have hgl := hbg.lt
  clear hbg
  obtain ⟨x, hx⟩ : ∃ x, x = p.cells[d.cell.toNat] := ⟨_, rfl⟩
  have HX := Lib.hid (show p.cells[d.cell.toNat]? = some x by rw [hx]; simp [hi])
  rw [← hx] at hcv hat
  have hxb := cellB_iff.1 hcv
  have HAT := Lib.hid hat
  have HXX := Lib.hid hx
  clear ha hat hx
  have hle : d.n ≤ x.helium + x.air := by rw [HAT.out] at hl; unfold amount at hl; omega
  have HOK := Lib.hid (okC_of hcv)
  obtain ⟨s0, s1, s2, s3⟩ := share_bd HOK.out (show 0 ≤ d.n by omega) hle
  obtain ⟨S, hS⟩ : ∃ S, S = shareH x d.n := ⟨_, rfl⟩
  have HSS := Lib.hid (show shareH x d.n = S from hS.symm)
  have HOUT := fun (W : World) (q : Mine 54 B W (.slice (some ⟨g, 0, none⟩) p.cells.length cp) p.cells) => f_outX q HX.out HOK.out d.n hn.1 hle
  rw [← hS] at s0 s1 s2 s3 HOUT
  obtain ⟨_, hb1, ⟨hb2, hb3⟩, ⟨hb4, hb5⟩, ⟨hb6, hb7⟩, ⟨hb8, hb9⟩, _⟩ := hb
  clear hS hl
  clear hp
  go_enter Try.func30, Try.ntmps30
  go_upto_region 1 with fail
  refine at_world (S := fun W => Blk W w.heap.size #[.int .u8 d.kind, .int .i64 d.cell, .int .i64 d.to, .int .i64 d.n] 43 ∧ Blk W s #[.slice (some ⟨g, 0, none⟩) p.cells.length cp, .int .i64 (p.bottles), .int .i64 (p.inH), .int .i64 (p.inA), .int .i64 (p.vH), .int .i64 (p.vA), .int .i64 (p.lH), .int .i64 (p.lA), .int .i64 (p.pH), .int .i64 (p.pA)] 89 ∧ Mine 54 B W (.slice (some ⟨g, 0, none⟩) p.cells.length cp) p.cells ∧ Kept w W) ⟨by (exact blkc), hs.keep (by (exact kpt)), hm.keep (by (exact kpt)), by (exact kpt)⟩ ?_
  rintro W ⟨r0, hsW, hmW, hk⟩
  have hdk0 : ∀ w', Blk w' w.heap.size #[.int .u8 d.kind, .int .i64 d.cell, .int .i64 d.to, .int .i64 d.n] 43 → w'.cell? ⟨w.heap.size, 0, none⟩ = _ := fun w' h => h.cell 0
  have hdk1 : ∀ w', Blk w' w.heap.size #[.int .u8 d.kind, .int .i64 d.cell, .int .i64 d.to, .int .i64 d.n] 43 → w'.cell? ⟨w.heap.size, 1, none⟩ = _ := fun w' h => h.cell 1
  have hdk2 : ∀ w', Blk w' w.heap.size #[.int .u8 d.kind, .int .i64 d.cell, .int .i64 d.to, .int .i64 d.n] 43 → w'.cell? ⟨w.heap.size, 2, none⟩ = _ := fun w' h => h.cell 2
  have hdk3 : ∀ w', Blk w' w.heap.size #[.int .u8 d.kind, .int .i64 d.cell, .int .i64 d.to, .int .i64 d.n] 43 → w'.cell? ⟨w.heap.size, 3, none⟩ = _ := fun w' h => h.cell 3
  have hdf0 : ∀ w', Blk w' w.heap.size #[.int .u8 d.kind, .int .i64 d.cell, .int .i64 d.to, .int .i64 d.n] 43 → w'.frozen? ⟨w.heap.size, 0, none⟩ = _ := fun w' h => h.free 0
  have hdf1 : ∀ w', Blk w' w.heap.size #[.int .u8 d.kind, .int .i64 d.cell, .int .i64 d.to, .int .i64 d.n] 43 → w'.frozen? ⟨w.heap.size, 1, none⟩ = _ := fun w' h => h.free 1
  have hdf2 : ∀ w', Blk w' w.heap.size #[.int .u8 d.kind, .int .i64 d.cell, .int .i64 d.to, .int .i64 d.n] 43 → w'.frozen? ⟨w.heap.size, 2, none⟩ = _ := fun w' h => h.free 2
  have hdf3 : ∀ w', Blk w' w.heap.size #[.int .u8 d.kind, .int .i64 d.cell, .int .i64 d.to, .int .i64 d.n] 43 → w'.frozen? ⟨w.heap.size, 3, none⟩ = _ := fun w' h => h.free 3
  simp at hdk0 hdk1 hdk2 hdk3
  go_cut [4] (fun s4 wx => ∃ gx, s4 = .pointer (some ⟨gx, 0, none⟩) ∧ Blk wx gx #[.int .i64 S, .int .i64 (d.n - S)] 24 ∧ Blk wx s #[.slice (some ⟨g, 0, none⟩) p.cells.length cp, .int .i64 (p.bottles), .int .i64 (p.inH), .int .i64 (p.inA), .int .i64 (p.vH), .int .i64 (p.vA), .int .i64 (p.lH), .int .i64 (p.lA), .int .i64 (p.pH), .int .i64 (p.pA)] 89 ∧ Blk wx w.heap.size #[.int .u8 d.kind, .int .i64 d.cell, .int .i64 d.to, .int .i64 d.n] 43 ∧ Mine 54 B wx (.slice (some ⟨g, 0, none⟩) p.cells.length cp) (p.cells.set d.cell.toNat (less x d.n)) ∧ Below B w wx ∧ w.heap.size ≤ wx.heap.size ∧ w.heap.size < gx)
  case first =>
    go_region_held3 (fun w' => Blk w' w.heap.size #[.int .u8 d.kind, .int .i64 d.cell, .int .i64 d.to, .int .i64 d.n] 43) (((repeat (first | with_reducible assumption | with_reducible refine Blk.drew ?_ | with_reducible refine Blk.alloc ?_ _ | ((with_reducible refine Blk.other ?_ ?_ _); rotate_left 1; (focus (have e0 := r0.lt; have e2 := Kept.size hb1; have e3 := Below.size hw2; simp at e2 e3; first | (simp; omega) | (simp at *; omega)))) | (with_reducible refine Besides.blk hbes2 (by decide) ?_) | with_reducible refine Blk.keep ?_ (by with_reducible assumption))); done)) (first | (go_at_call 66; (with_reducible refine (f_cell_ok s g cp p d _ (hs.keep (by (exact kpt))) hn12 HA.out).mono ?_); rintro e w1 ⟨rfl, hb1⟩; have hbA : Below B W w1 := (by first | exact ((Below.refl B W).drew).trans (hb1.mono (by simp; have e0 := hk.size; omega)) | exact (((Below.refl B W).alloc (by have e0 := hk.size; omega) _).drew).trans (hb1.mono (by simp; have e0 := hk.size; omega))); (try (refine Blk.thru (b := W.heap.size) (arr := ?_) (t := ?_) ?_ hb1 ?_; rotate_left 2; (focus ((repeat with_reducible refine Blk.drew ?_); exact Blk.new' (by first | rfl | (simp; done)))); intro x1; have x1c0 := x1.cell 0; have x1f0 := x1.free 0; have x1c1 := x1.cell 1; have x1f1 := x1.free 1; have x1l := x1.lt; simp at x1c0 x1c1))) | (go_at_call 67; (with_reducible refine (HOUT _ ?_).mono ?_); (focus (repeat (first | with_reducible assumption | with_reducible refine Mine.drew ?_ | with_reducible refine Mine.alloc ?_ _ | with_reducible refine Mine.keep ?_ (by with_reducible assumption)))); rintro e w2 ⟨rfl, hm2, hw2, hbes2⟩; have hbB : Below B W w2 := (by first | exact hbA.trans hw2 | exact (hbA.alloc (by have e0 := hk.size; have e1 := hbA.size; omega) _).trans hw2); have hsB : Blk w2 s #[.slice (some ⟨g, 0, none⟩) p.cells.length cp, .int .i64 (p.bottles), .int .i64 (p.inH), .int .i64 (p.inA), .int .i64 (p.vH), .int .i64 (p.vA), .int .i64 (p.lH), .int .i64 (p.lA), .int .i64 (p.pH), .int .i64 (p.pA)] 89 := (by have hsW1 := hsW; (repeat (first | with_reducible assumption | with_reducible refine Blk.drew ?_ | with_reducible refine Blk.alloc ?_ _ | (with_reducible refine Besides.blk hbes2 (by decide) ?_) | with_reducible refine Blk.keep ?_ (by with_reducible assumption)))); have r0B : Blk w2 w.heap.size #[.int .u8 d.kind, .int .i64 d.cell, .int .i64 d.to, .int .i64 d.n] 43 := (by (repeat (first | with_reducible assumption | with_reducible refine Blk.drew ?_ | with_reducible refine Blk.alloc ?_ _ | (with_reducible refine Besides.blk hbes2 (by decide) ?_) | with_reducible refine Blk.keep ?_ (by with_reducible assumption)))); have hzB := hbB.size; (first | (refine Besides.thru x1 hbes2 (by decide) ?_; intro x2; have x2c0 := x2.cell 0; have x2f0 := x2.free 0; have x2c1 := x2.cell 1; have x2f1 := x2.free 1; have x2l := x2.lt; simp at x2c0 x2c1) | (refine Besides.thru (b := w1.heap.size) (arr := ?_) (t := ?_) ?_ hbes2 ?_ ?_; rotate_left 2; (focus ((repeat with_reducible refine Blk.drew ?_); exact Blk.new' (by first | rfl | (simp; done)))); (focus decide); intro x2; have x2c0 := x2.cell 0; have x2f0 := x2.free 0; have x2c1 := x2.cell 1; have x2f1 := x2.free 1; have x2l := x2.lt; simp at x2c0 x2c1) | skip)) | fail)
    all_goals (go_wp2_with fail; go_meet)
    all_goals
      have e9 := r0.lt
      have e8 := hs.lt
      have ez := hbA.size
      have ey := hw2.size
    · refine ⟨_, rfl, Blk.new, hsB.alloc _, r0B.alloc _, hm2.alloc _, ((hk.mono hBw).trans hbB).alloc (by have := hk.size; omega) _, by simp; have := hk.size; omega, by omega⟩
    all_goals
      try simp at ey
      refine ⟨_, rfl, (x2.set 0 _).set 1 _, (hsB.other (by simp; omega) _).other (by simp; omega) _, (r0B.other (by simp; omega) _).other (by simp; omega) _, (hm2.other x2 (by decide) _).other (x2.set 0 _) (by decide) _, (((hk.mono hBw).trans hbB).setCell (by simp; omega) _).setCell (by simp; omega) _, by simp [World.setCell]; omega, by omega⟩
  case rest =>
    clear hk r0 hsW hmW hdk0 hdf0 hdk1 hdf1 hdk2 hdf2 hdk3 hdf3
    obtain ⟨gx, rfl, x0, hsW, r0, hmW, hbW, hzW, hgx⟩ := hcut
    have x0c0 := x0.cell 0
    have x0f0 := x0.free 0
    have x0c1 := x0.cell 1
    have x0f1 := x0.free 1
    have x0l := x0.lt
    simp at x0c0 x0c1
    go_upto_region 3 with fail
    clear x0c0 x0f0 x0c1 x0f1 x0l
    refine at_world (S := fun X => Blk X gx #[.int .i64 S, .int .i64 (d.n - S)] 24 ∧ Blk X s #[.slice (some ⟨g, 0, none⟩) p.cells.length cp, .int .i64 (p.bottles), .int .i64 (p.inH), .int .i64 (p.inA), .int .i64 (p.vH), .int .i64 (p.vA), .int .i64 (p.lH), .int .i64 (p.lA), .int .i64 (p.pH), .int .i64 (p.pA)] 89 ∧ Blk X w.heap.size #[.int .u8 d.kind, .int .i64 d.cell, .int .i64 d.to, .int .i64 d.n] 43 ∧ Mine 54 B X (.slice (some ⟨g, 0, none⟩) p.cells.length cp) (p.cells.set d.cell.toNat (less x d.n)) ∧ Below B w X ∧ w.heap.size ≤ X.heap.size) ⟨x0, hsW, r0, hmW, hbW, hzW⟩ ?_
    rintro X ⟨x0, hsX, r0, hmX, hbX, hzX⟩
    have x0c0 := fun g : Later X => (x0.later g).cell 0
    have x0f0 := fun g : Later X => (x0.later g).free 0
    have x0c1 := fun g : Later X => (x0.later g).cell 1
    have x0f1 := fun g : Later X => (x0.later g).free 1
    have x0l := fun g : Later X => (x0.later g).lt
    simp at x0c0 x0c1
    have r0c0 := fun g : Later X => (r0.later g).cell 0
    have r0f0 := fun g : Later X => (r0.later g).free 0
    have r0c1 := fun g : Later X => (r0.later g).cell 1
    have r0f1 := fun g : Later X => (r0.later g).free 1
    have r0c2 := fun g : Later X => (r0.later g).cell 2
    have r0f2 := fun g : Later X => (r0.later g).free 2
    have r0c3 := fun g : Later X => (r0.later g).cell 3
    have r0f3 := fun g : Later X => (r0.later g).free 3
    have r0l := fun g : Later X => (r0.later g).lt
    simp at r0c0 r0c1 r0c2 r0c3
    have hsXc0 := fun g : Later X => (hsX.later g).cell 0
    have hsXf0 := fun g : Later X => (hsX.later g).free 0
    have hsXc1 := fun g : Later X => (hsX.later g).cell 1
    have hsXf1 := fun g : Later X => (hsX.later g).free 1
    have hsXc2 := fun g : Later X => (hsX.later g).cell 2
    have hsXf2 := fun g : Later X => (hsX.later g).free 2
    have hsXc3 := fun g : Later X => (hsX.later g).cell 3
    have hsXf3 := fun g : Later X => (hsX.later g).free 3
    have hsXc4 := fun g : Later X => (hsX.later g).cell 4
    have hsXf4 := fun g : Later X => (hsX.later g).free 4
    have hsXc5 := fun g : Later X => (hsX.later g).cell 5
    have hsXf5 := fun g : Later X => (hsX.later g).free 5
    have hsXc6 := fun g : Later X => (hsX.later g).cell 6
    have hsXf6 := fun g : Later X => (hsX.later g).free 6
    have hsXc7 := fun g : Later X => (hsX.later g).cell 7
    have hsXf7 := fun g : Later X => (hsX.later g).free 7
    have hsXc8 := fun g : Later X => (hsX.later g).cell 8
    have hsXf8 := fun g : Later X => (hsX.later g).free 8
    have hsXc9 := fun g : Later X => (hsX.later g).cell 9
    have hsXf9 := fun g : Later X => (hsX.later g).free 9
    have hsXl := fun g : Later X => (hsX.later g).lt
    simp at hsXc0 hsXc1 hsXc2 hsXc3 hsXc4 hsXc5 hsXc6 hsXc7 hsXc8 hsXc9
    have L0 : 0 ≤ S / 50 ∧ S / 50 ≤ S := by omega
    refine Later.tail 13 (by kernel_rfl) (by kernel_rfl) ?_
    simp only [List.take_succ_cons, List.take_zero, List.drop_succ_cons, List.drop_zero]
    repeat (first | go_big_quiet_skip | (go_big_quiet_want; go_big_quiet_op; first | go_big_quiet_on | (apply Exists.intro; refine ⟨fun g_ => ?_, ?_⟩; (focus (first | fail)); go_big_quiet_on)))
    refine wpQuiet_nil ?_
    intro gh
    refine wpList_plain rfl fun K1 hK1 => ?_
    have q0 := r0.later gh
    have q1 := hsX.later gh
    have q2 := x0.later gh
    clear x0c0 x0f0 x0c1 x0f1 x0l r0c0 r0f0 r0c1 r0f1 r0c2 r0f2 r0c3 r0f3 r0l hsXc0 hsXf0 hsXc1 hsXf1 hsXc2 hsXf2 hsXc3 hsXf3 hsXc4 hsXf4 hsXc5 hsXf5 hsXc6 hsXf6 hsXc7 hsXf7 hsXc8 hsXf8 hsXc9 hsXf9 hsXl
    have q1c0 := q1.cell 0
    have q1f0 := q1.free 0
    have q1c1 := q1.cell 1
    have q1f1 := q1.free 1
    have q1c2 := q1.cell 2
    have q1f2 := q1.free 2
    have q1c3 := q1.cell 3
    have q1f3 := q1.free 3
    have q1c4 := q1.cell 4
    have q1f4 := q1.free 4
    have q1c5 := q1.cell 5
    have q1f5 := q1.free 5
    have q1c6 := q1.cell 6
    have q1f6 := q1.free 6
    have q1c7 := q1.cell 7
    have q1f7 := q1.free 7
    have q1c8 := q1.cell 8
    have q1f8 := q1.free 8
    have q1c9 := q1.cell 9
    have q1f9 := q1.free 9
    have q1l := q1.lt
    simp at q1c0 q1c1 q1c2 q1c3 q1c4 q1c5 q1c6 q1c7 q1c8 q1c9
    go_wp2
    refine at_world (S := fun Y => Blk Y gx #[.int .i64 S, .int .i64 (d.n - S)] 24 ∧ Blk Y s #[.slice (some ⟨g, 0, none⟩) p.cells.length cp, .int .i64 (p.bottles + (S - S / 50)), .int .i64 (p.inH), .int .i64 (p.inA), .int .i64 (p.vH), .int .i64 (p.vA), .int .i64 (p.lH), .int .i64 (p.lA), .int .i64 (p.pH), .int .i64 (p.pA)] 89 ∧ Blk Y w.heap.size #[.int .u8 d.kind, .int .i64 d.cell, .int .i64 d.to, .int .i64 d.n] 43 ∧ Mine 54 B Y (.slice (some ⟨g, 0, none⟩) p.cells.length cp) (p.cells.set d.cell.toNat (less x d.n)) ∧ Below B w Y ∧ w.heap.size ≤ Y.heap.size) ⟨q2.other (by simp; have := hs.lt; omega) _, q1.set 1 _, q0.other (by simp; have := hs.lt; omega) _, (hmX.keep gh.ok).other q1 (by decide) _, (hbX.trans (gh.ok.mono (by omega))).setCell hB _, Nat.le_trans hzX (Nat.le_trans gh.ok.size (by simp))⟩ ?_
    rintro Y ⟨x0, hsY, r0, hmY, hbY, hzY⟩
    clear q1c0 q1f0 q1c1 q1f1 q1c2 q1f2 q1c3 q1f3 q1c4 q1f4 q1c5 q1f5 q1c6 q1f6 q1c7 q1f7 q1c8 q1f8 q1c9 q1f9 q1l q0 q1 q2
    have x0c0 := fun g : Later Y => (x0.later g).cell 0
    have x0f0 := fun g : Later Y => (x0.later g).free 0
    have x0c1 := fun g : Later Y => (x0.later g).cell 1
    have x0f1 := fun g : Later Y => (x0.later g).free 1
    have x0l := fun g : Later Y => (x0.later g).lt
    simp at x0c0 x0c1
    have r0c0 := fun g : Later Y => (r0.later g).cell 0
    have r0f0 := fun g : Later Y => (r0.later g).free 0
    have r0c1 := fun g : Later Y => (r0.later g).cell 1
    have r0f1 := fun g : Later Y => (r0.later g).free 1
    have r0c2 := fun g : Later Y => (r0.later g).cell 2
    have r0f2 := fun g : Later Y => (r0.later g).free 2
    have r0c3 := fun g : Later Y => (r0.later g).cell 3
    have r0f3 := fun g : Later Y => (r0.later g).free 3
    have r0l := fun g : Later Y => (r0.later g).lt
    simp at r0c0 r0c1 r0c2 r0c3
    have hsYc0 := fun g : Later Y => (hsY.later g).cell 0
    have hsYf0 := fun g : Later Y => (hsY.later g).free 0
    have hsYc1 := fun g : Later Y => (hsY.later g).cell 1
    have hsYf1 := fun g : Later Y => (hsY.later g).free 1
    have hsYc2 := fun g : Later Y => (hsY.later g).cell 2
    have hsYf2 := fun g : Later Y => (hsY.later g).free 2
    have hsYc3 := fun g : Later Y => (hsY.later g).cell 3
    have hsYf3 := fun g : Later Y => (hsY.later g).free 3
    have hsYc4 := fun g : Later Y => (hsY.later g).cell 4
    have hsYf4 := fun g : Later Y => (hsY.later g).free 4
    have hsYc5 := fun g : Later Y => (hsY.later g).cell 5
    have hsYf5 := fun g : Later Y => (hsY.later g).free 5
    have hsYc6 := fun g : Later Y => (hsY.later g).cell 6
    have hsYf6 := fun g : Later Y => (hsY.later g).free 6
    have hsYc7 := fun g : Later Y => (hsY.later g).cell 7
    have hsYf7 := fun g : Later Y => (hsY.later g).free 7
    have hsYc8 := fun g : Later Y => (hsY.later g).cell 8
    have hsYf8 := fun g : Later Y => (hsY.later g).free 8
    have hsYc9 := fun g : Later Y => (hsY.later g).cell 9
    have hsYf9 := fun g : Later Y => (hsY.later g).free 9
    have hsYl := fun g : Later Y => (hsY.later g).lt
    simp at hsYc0 hsYc1 hsYc2 hsYc3 hsYc4 hsYc5 hsYc6 hsYc7 hsYc8 hsYc9
    refine Later.tail 14 (by kernel_rfl) (by kernel_rfl) ?_
    simp only [List.take_succ_cons, List.take_zero, List.drop_succ_cons, List.drop_zero]
    repeat (first | go_big_quiet_skip | (go_big_quiet_want; go_big_quiet_op; first | go_big_quiet_on | (apply Exists.intro; refine ⟨fun g_ => ?_, ?_⟩; (focus (first | (go_at_call 64; exact Later.call (f_plus _ _ _ _ _ (by omega) (by omega) (by omega) (by omega))))); go_big_quiet_on)))
    refine wpQuiet_nil ?_
    intro gi
    refine wpList_plain rfl fun K1 hK1 => ?_
    have q1 := hsY.later gi
    clear x0c0 x0f0 x0c1 x0f1 x0l r0c0 r0f0 r0c1 r0f1 r0c2 r0f2 r0c3 r0f3 r0l hsYc0 hsYf0 hsYc1 hsYf1 hsYc2 hsYf2 hsYc3 hsYf3 hsYc4 hsYf4 hsYc5 hsYf5 hsYc6 hsYf6 hsYc7 hsYf7 hsYc8 hsYf8 hsYc9 hsYf9 hsYl
    have q1c0 := q1.cell 0
    have q1f0 := q1.free 0
    have q1c1 := q1.cell 1
    have q1f1 := q1.free 1
    have q1c2 := q1.cell 2
    have q1f2 := q1.free 2
    have q1c3 := q1.cell 3
    have q1f3 := q1.free 3
    have q1c4 := q1.cell 4
    have q1f4 := q1.free 4
    have q1c5 := q1.cell 5
    have q1f5 := q1.free 5
    have q1c6 := q1.cell 6
    have q1f6 := q1.free 6
    have q1c7 := q1.cell 7
    have q1f7 := q1.free 7
    have q1c8 := q1.cell 8
    have q1f8 := q1.free 8
    have q1c9 := q1.cell 9
    have q1f9 := q1.free 9
    have q1l := q1.lt
    simp at q1c0 q1c1 q1c2 q1c3 q1c4 q1c5 q1c6 q1c7 q1c8 q1c9
    go_wp2
    go_end0
    refine ⟨rfl, ⟨hB, ?_, ?_⟩, ?_⟩
    · exact ((q1.set 8 (.int .i64 (p.pH + S / 50))).set 9 (.int .i64 (p.pA + (d.n - S)))).cast (by simp [plantCells, purifyP, lessP, HAT.out, HSS.out])
    · have q := ((hmY.keep gi.ok).other q1 (by decide) (o := 8) (.int .i64 (p.pH + S / 50))).other (q1.set 8 (.int .i64 (p.pH + S / 50))) (by decide) (o := 9) (.int .i64 (p.pA + (d.n - S)))
      simpa [purifyP, lessP, HAT.out] using q
    · exact ((hbY.trans (gi.ok.mono (by omega))).setCell hB _).setCell hB _

end Go.Proofs.Ytnfhcpnpjkefmaa

/-
  Moving gas from a cell to another one.
-/
namespace Go.Proofs.Ytnfhcpnpjkefmaa
open Go.RowKit Bal Bal.Trim Bal.Gas
set_option linter.unusedVariables false
set_option linter.unusedSimpArgs false
set_option maxHeartbeats 4000000
set_option maxRecDepth 10000

theorem f_move_no1 {B s cp : Nat} {ad : Option Addr} {p : Plant} {w : World} (d : Deed) (h : Shop 54 89 B w s ad cp p) (hp : plantB p = true) (ha : argB p d = false) : Calls Try.prog 29 #[.pointer (some ⟨s, 0, none⟩), .agg #[.int .u8 d.kind, .int .i64 d.cell, .int .i64 d.to, .int .i64 d.n]] w fun e w' => e = .panicked [{ v := refusal 2, recovered := false }] ∧ Kept w w' := by
  have hn12 : p.cells.length ≤ 12 := (plantB_iff.1 hp).1
  have HA := Lib.hid ha
  obtain ⟨hB, hs, hm⟩ := h
  clear ha hp
  go_enter Try.func29, Try.ntmps29
  go_wp2_with (first | (go_at_call 66; (with_reducible refine (f_cell_no s ad cp p d _ (hs.keep (by (exact kpt))) hn12 HA.out).mono ?_); rintro e w1 ⟨rfl, hb1⟩))
  exact ⟨rfl, rfl, by (exact kpt)⟩
theorem f_move_no2 {B s cp : Nat} {ad : Option Addr} {p : Plant} {w : World} (d : Deed) (h : Shop 54 89 B w s ad cp p) (hp : plantB p = true) (ha : argB p d = true) (ht : rng [d.to] 0 (p.cells.length - 1) = false) : Calls Try.prog 29 #[.pointer (some ⟨s, 0, none⟩), .agg #[.int .u8 d.kind, .int .i64 d.cell, .int .i64 d.to, .int .i64 d.n]] w fun e w' => e = .panicked [{ v := refusal 2, recovered := false }] ∧ Kept w w' := by
  have hn12 : p.cells.length ≤ 12 := (plantB_iff.1 hp).1
  have hb := plantB_iff.1 hp
  have hi : d.cell.toNat < p.cells.length := by
    have h1 : rng [d.cell] 0 (p.cells.length - 1) = true := by unfold argB at ha; simp only [Bool.and_eq_true] at ha; exact ha.1
    have : 0 ≤ d.cell ∧ d.cell ≤ p.cells.length - 1 := by simpa [rng, inB] using h1
    omega
  have hn : 1 ≤ d.n ∧ d.n ≤ 10000000 := by
    have h1 : rng [d.n] 1 10000000 = true := by unfold argB at ha; simp only [Bool.and_eq_true] at ha; exact ha.2
    simpa [rng, inB] using h1
  have hcv : cellB p.cells[d.cell.toNat] = true := hb.2.2.2.2.2.2.1 _ (List.getElem_mem hi)
  have hat : at_ p d = p.cells[d.cell.toNat] := cellAt_get hi
  have HA := Lib.hid ha
  obtain ⟨hB, hs, hm⟩ := h
  have hBw : B ≤ w.heap.size := by have := hs.lt; omega
  obtain ⟨g, _, rfl, hBg, hbg, _⟩ := hm.at hi
  have hgl := hbg.lt
  clear hbg
  obtain ⟨x, hx⟩ : ∃ x, x = p.cells[d.cell.toNat] := ⟨_, rfl⟩
  have HX := Lib.hid (show p.cells[d.cell.toNat]? = some x by rw [hx]; simp [hi])
  rw [← hx] at hcv hat
  have hxb := cellB_iff.1 hcv
  have HAT := Lib.hid hat
  have HXX := Lib.hid hx
  clear ha hat hx
  have HT := Lib.hid ht
  clear hp hb ht
  have hwl := i64_inx (n := (p.cells.length : Int) - 1) (by omega)
  go_enter Try.func29, Try.ntmps29
  go_upto_region 2 with (first | (go_at_call 66; (with_reducible refine (f_cell_ok s g cp p d _ (hs.keep (by (exact kpt))) hn12 HA.out).mono ?_); rintro e w1 ⟨rfl, hb1⟩; refine Blk.thru (b := w.heap.size) (arr := ?_) (t := ?_) ?_ hb1 ?_; rotate_left 2; (focus (exact blk)); intro rr; have rrc0 := rr.cell 0; have rrf0 := rr.free 0; have rrc1 := rr.cell 1; have rrf1 := rr.free 1; have rrc2 := rr.cell 2; have rrf2 := rr.free 2; have rrc3 := rr.cell 3; have rrf3 := rr.free 3; have rrl := rr.lt; simp at rrc0 rrc1 rrc2 rrc3; obtain ⟨hc1, hf1, hl1⟩ := bcell3 hb1))
  refine at_world (S := fun W => Blk W w.heap.size #[.int .u8 d.kind, .int .i64 d.cell, .int .i64 d.to, .int .i64 d.n] 43 ∧ Blk W s #[.slice (some ⟨g, 0, none⟩) p.cells.length cp, .int .i64 (p.bottles), .int .i64 (p.inH), .int .i64 (p.inA), .int .i64 (p.vH), .int .i64 (p.vA), .int .i64 (p.lH), .int .i64 (p.lA), .int .i64 (p.pH), .int .i64 (p.pA)] 89 ∧ Mine 54 B W (.slice (some ⟨g, 0, none⟩) p.cells.length cp) p.cells ∧ Kept w W) ⟨by (exact blkc), hs.keep (by (exact kpt)), hm.keep (by (exact kpt)), by (exact kpt)⟩ ?_
  rintro W ⟨r0, hsW, hmW, hk⟩
  clear hc1 hf1 hl1
  refine held_walk (fun w' => Blk w' s #[.slice (some ⟨g, 0, none⟩) p.cells.length cp, .int .i64 (p.bottles), .int .i64 (p.inH), .int .i64 (p.inA), .int .i64 (p.vH), .int .i64 (p.vA), .int .i64 (p.lH), .int .i64 (p.lA), .int .i64 (p.pH), .int .i64 (p.pA)] 89 ∧ Blk w' w.heap.size #[.int .u8 d.kind, .int .i64 d.cell, .int .i64 d.to, .int .i64 d.n] 43) [(true, 0), (true, 1), (true, 2), (true, 3), (true, 4), (true, 5), (true, 6), (true, 7), (true, 8), (false, 9), (false, 10), (true, 11), (true, 12), (true, 13), (true, 14), (true, 15), (true, 16), (true, 17), (false, 18)] 18 (by kernel_rfl) (by kernel_rfl) (fun c a d v w h => by cases d <;> exact h) ⟨hsW.drew, r0.drew⟩ ?_
  simp only [List.filterMap_cons, List.filterMap_nil, List.getElem?_cons_zero, List.getElem?_cons_succ, Option.map_some]
  iterate 9 ((first | (refine held_take ?_ ?_ (fun w' hS => ?_) ?_; rotate_left 1; (focus rfl); (focus (first | (go_simp; done) | (go_simp; with_reducible rfl) | (obtain ⟨S1, S2⟩ := hS; have k0 := S1.cell 0; have k1 := S1.cell 1; have k2 := S1.cell 2; have k3 := S1.cell 3; have k4 := S1.cell 4; have k5 := S1.cell 5; have k6 := S1.cell 6; have k7 := S1.cell 7; have k8 := S1.cell 8; have k9 := S1.cell 9; have j0 := S2.cell 0; have j1 := S2.cell 1; have j2 := S2.cell 2; have j3 := S2.cell 3; simp at k0 k1 k2 k3 k4 k5 k6 k7 k8 k9 j0 j1 j2 j3; first | (go_simp; done) | (go_simp; with_reducible rfl))))) | (refine held_pass ?_ ?_; (focus rfl))); simp only [Act.put, List.setIfInBounds_toArray, List.set_cons_zero, List.set_cons_succ])
  refine held_one ?_
  refine wpList_plain rfl fun K1 hK1 => ?_
  go_wp2
  refine held_on ⟨by (repeat (first | with_reducible assumption | with_reducible refine Blk.drew ?_ | with_reducible refine Blk.alloc ?_ _ | (with_reducible refine Besides.blk hbes2 (by decide) ?_) | with_reducible refine Blk.keep ?_ (by with_reducible assumption))), by (repeat (first | with_reducible assumption | with_reducible refine Blk.drew ?_ | with_reducible refine Blk.alloc ?_ _ | (with_reducible refine Besides.blk hbes2 (by decide) ?_) | with_reducible refine Blk.keep ?_ (by with_reducible assumption)))⟩ ?_
  refine held_one ?_
  refine wpList_plain rfl fun K1 hK1 => ?_
  go_wp2_with (go_at_call 34; (with_reducible refine (f_ranged1B _ _ d.to _ _ ?_).mono ?_); (focus ((repeat with_reducible refine Blk.drew ?_); exact Blk.new' (by first | rfl | (simp; done)))); rw [HT.out]; rintro e w1 ⟨rfl, rfl⟩)
  refine held_on ⟨by (repeat (first | with_reducible assumption | with_reducible refine Blk.drew ?_ | with_reducible refine Blk.alloc ?_ _ | (with_reducible refine Besides.blk hbes2 (by decide) ?_) | with_reducible refine Blk.keep ?_ (by with_reducible assumption))), by (repeat (first | with_reducible assumption | with_reducible refine Blk.drew ?_ | with_reducible refine Blk.alloc ?_ _ | (with_reducible refine Besides.blk hbes2 (by decide) ?_) | with_reducible refine Blk.keep ?_ (by with_reducible assumption)))⟩ ?_
  iterate 7 ((first | (refine held_take ?_ ?_ (fun w' hS => ?_) ?_; rotate_left 1; (focus rfl); (focus (first | (go_simp; done) | (go_simp; with_reducible rfl) | (obtain ⟨S1, S2⟩ := hS; have k0 := S1.cell 0; have k1 := S1.cell 1; have k2 := S1.cell 2; have k3 := S1.cell 3; have k4 := S1.cell 4; have k5 := S1.cell 5; have k6 := S1.cell 6; have k7 := S1.cell 7; have k8 := S1.cell 8; have k9 := S1.cell 9; have j0 := S2.cell 0; have j1 := S2.cell 1; have j2 := S2.cell 2; have j3 := S2.cell 3; simp at k0 k1 k2 k3 k4 k5 k6 k7 k8 k9 j0 j1 j2 j3; first | (go_simp; done) | (go_simp; with_reducible rfl))))) | (refine held_pass ?_ ?_; (focus rfl))); simp only [Act.put, List.setIfInBounds_toArray, List.set_cons_zero, List.set_cons_succ])
  refine held_one ?_
  refine wpList_plain rfl fun K1 hK1 => ?_
  go_wp2_with (first | (go_at_call 33; (with_reducible refine (f_need_no _ _).mono ?_); rintro e w1 ⟨rfl, rfl⟩))
  (first | refine onward_panic ?_ | skip)
  exact ⟨rfl, rfl, by (exact kpt)⟩
theorem f_move_no3 {B s cp : Nat} {ad : Option Addr} {p : Plant} {w : World} (d : Deed) (h : Shop 54 89 B w s ad cp p) (hp : plantB p = true) (ha : argB p d = true) (ht : rng [d.to] 0 (p.cells.length - 1) = true) (he : d.to = d.cell) : Calls Try.prog 29 #[.pointer (some ⟨s, 0, none⟩), .agg #[.int .u8 d.kind, .int .i64 d.cell, .int .i64 d.to, .int .i64 d.n]] w fun e w' => e = .panicked [{ v := refusal 2, recovered := false }] ∧ Kept w w' := by
  have hn12 : p.cells.length ≤ 12 := (plantB_iff.1 hp).1
  have hb := plantB_iff.1 hp
  have hi : d.cell.toNat < p.cells.length := by
    have h1 : rng [d.cell] 0 (p.cells.length - 1) = true := by unfold argB at ha; simp only [Bool.and_eq_true] at ha; exact ha.1
    have : 0 ≤ d.cell ∧ d.cell ≤ p.cells.length - 1 := by simpa [rng, inB] using h1
    omega
  have hn : 1 ≤ d.n ∧ d.n ≤ 10000000 := by
    have h1 : rng [d.n] 1 10000000 = true := by unfold argB at ha; simp only [Bool.and_eq_true] at ha; exact ha.2
    simpa [rng, inB] using h1
  have hcv : cellB p.cells[d.cell.toNat] = true := hb.2.2.2.2.2.2.1 _ (List.getElem_mem hi)
  have hat : at_ p d = p.cells[d.cell.toNat] := cellAt_get hi
  have HA := Lib.hid ha
  obtain ⟨hB, hs, hm⟩ := h
  have hBw : B ≤ w.heap.size := by have := hs.lt; omega
  obtain ⟨g, _, rfl, hBg, hbg, _⟩ := hm.at hi
  have hgl := hbg.lt
  clear hbg
  obtain ⟨x, hx⟩ : ∃ x, x = p.cells[d.cell.toNat] := ⟨_, rfl⟩
  have HX := Lib.hid (show p.cells[d.cell.toNat]? = some x by rw [hx]; simp [hi])
  rw [← hx] at hcv hat
  have hxb := cellB_iff.1 hcv
  have HAT := Lib.hid hat
  have HXX := Lib.hid hx
  clear ha hat hx
  have hto : 0 ≤ d.to ∧ d.to ≤ p.cells.length - 1 := by simpa [rng, inB] using ht
  have HT := Lib.hid ht
  have hne : (d.to == d.cell) = true := by simp [he]
  have hne' : (d.to != d.cell) = false := by simp [he]
  have hne'' : decide (d.to = d.cell) = true := by simp [he]
  clear hp hb ht he
  have hwl := i64_inx (n := (p.cells.length : Int) - 1) (by omega)
  go_enter Try.func29, Try.ntmps29
  go_upto_region 2 with (first | (go_at_call 66; (with_reducible refine (f_cell_ok s g cp p d _ (hs.keep (by (exact kpt))) hn12 HA.out).mono ?_); rintro e w1 ⟨rfl, hb1⟩; refine Blk.thru (b := w.heap.size) (arr := ?_) (t := ?_) ?_ hb1 ?_; rotate_left 2; (focus (exact blk)); intro rr; have rrc0 := rr.cell 0; have rrf0 := rr.free 0; have rrc1 := rr.cell 1; have rrf1 := rr.free 1; have rrc2 := rr.cell 2; have rrf2 := rr.free 2; have rrc3 := rr.cell 3; have rrf3 := rr.free 3; have rrl := rr.lt; simp at rrc0 rrc1 rrc2 rrc3; obtain ⟨hc1, hf1, hl1⟩ := bcell3 hb1))
  refine at_world (S := fun W => Blk W w.heap.size #[.int .u8 d.kind, .int .i64 d.cell, .int .i64 d.to, .int .i64 d.n] 43 ∧ Blk W s #[.slice (some ⟨g, 0, none⟩) p.cells.length cp, .int .i64 (p.bottles), .int .i64 (p.inH), .int .i64 (p.inA), .int .i64 (p.vH), .int .i64 (p.vA), .int .i64 (p.lH), .int .i64 (p.lA), .int .i64 (p.pH), .int .i64 (p.pA)] 89 ∧ Mine 54 B W (.slice (some ⟨g, 0, none⟩) p.cells.length cp) p.cells ∧ Kept w W) ⟨by (exact blkc), hs.keep (by (exact kpt)), hm.keep (by (exact kpt)), by (exact kpt)⟩ ?_
  rintro W ⟨r0, hsW, hmW, hk⟩
  clear hc1 hf1 hl1
  refine held_walk (fun w' => Blk w' s #[.slice (some ⟨g, 0, none⟩) p.cells.length cp, .int .i64 (p.bottles), .int .i64 (p.inH), .int .i64 (p.inA), .int .i64 (p.vH), .int .i64 (p.vA), .int .i64 (p.lH), .int .i64 (p.lA), .int .i64 (p.pH), .int .i64 (p.pA)] 89 ∧ Blk w' w.heap.size #[.int .u8 d.kind, .int .i64 d.cell, .int .i64 d.to, .int .i64 d.n] 43) [(true, 0), (true, 1), (true, 2), (true, 3), (true, 4), (true, 5), (true, 6), (true, 7), (true, 8), (false, 9), (false, 10), (true, 11), (true, 12), (true, 13), (true, 14), (true, 15), (true, 16), (true, 17), (false, 18)] 18 (by kernel_rfl) (by kernel_rfl) (fun c a d v w h => by cases d <;> exact h) ⟨hsW.drew, r0.drew⟩ ?_
  simp only [List.filterMap_cons, List.filterMap_nil, List.getElem?_cons_zero, List.getElem?_cons_succ, Option.map_some]
  iterate 9 ((first | (refine held_take ?_ ?_ (fun w' hS => ?_) ?_; rotate_left 1; (focus rfl); (focus (first | (go_simp; done) | (go_simp; with_reducible rfl) | (obtain ⟨S1, S2⟩ := hS; have k0 := S1.cell 0; have k1 := S1.cell 1; have k2 := S1.cell 2; have k3 := S1.cell 3; have k4 := S1.cell 4; have k5 := S1.cell 5; have k6 := S1.cell 6; have k7 := S1.cell 7; have k8 := S1.cell 8; have k9 := S1.cell 9; have j0 := S2.cell 0; have j1 := S2.cell 1; have j2 := S2.cell 2; have j3 := S2.cell 3; simp at k0 k1 k2 k3 k4 k5 k6 k7 k8 k9 j0 j1 j2 j3; first | (go_simp; done) | (go_simp; with_reducible rfl))))) | (refine held_pass ?_ ?_; (focus rfl))); simp only [Act.put, List.setIfInBounds_toArray, List.set_cons_zero, List.set_cons_succ])
  refine held_one ?_
  refine wpList_plain rfl fun K1 hK1 => ?_
  go_wp2
  refine held_on ⟨by (repeat (first | with_reducible assumption | with_reducible refine Blk.drew ?_ | with_reducible refine Blk.alloc ?_ _ | (with_reducible refine Besides.blk hbes2 (by decide) ?_) | with_reducible refine Blk.keep ?_ (by with_reducible assumption))), by (repeat (first | with_reducible assumption | with_reducible refine Blk.drew ?_ | with_reducible refine Blk.alloc ?_ _ | (with_reducible refine Besides.blk hbes2 (by decide) ?_) | with_reducible refine Blk.keep ?_ (by with_reducible assumption)))⟩ ?_
  refine held_one ?_
  refine wpList_plain rfl fun K1 hK1 => ?_
  go_wp2_with (go_at_call 34; (with_reducible refine (f_ranged1B _ _ d.to _ _ ?_).mono ?_); (focus ((repeat with_reducible refine Blk.drew ?_); exact Blk.new' (by first | rfl | (simp; done)))); rw [HT.out]; rintro e w1 ⟨rfl, rfl⟩)
  refine held_on ⟨by (repeat (first | with_reducible assumption | with_reducible refine Blk.drew ?_ | with_reducible refine Blk.alloc ?_ _ | (with_reducible refine Besides.blk hbes2 (by decide) ?_) | with_reducible refine Blk.keep ?_ (by with_reducible assumption))), by (repeat (first | with_reducible assumption | with_reducible refine Blk.drew ?_ | with_reducible refine Blk.alloc ?_ _ | (with_reducible refine Besides.blk hbes2 (by decide) ?_) | with_reducible refine Blk.keep ?_ (by with_reducible assumption)))⟩ ?_
  iterate 7 ((first | (refine held_take ?_ ?_ (fun w' hS => ?_) ?_; rotate_left 1; (focus rfl); (focus (first | (go_simp; done) | (go_simp; with_reducible rfl) | (obtain ⟨S1, S2⟩ := hS; have k0 := S1.cell 0; have k1 := S1.cell 1; have k2 := S1.cell 2; have k3 := S1.cell 3; have k4 := S1.cell 4; have k5 := S1.cell 5; have k6 := S1.cell 6; have k7 := S1.cell 7; have k8 := S1.cell 8; have k9 := S1.cell 9; have j0 := S2.cell 0; have j1 := S2.cell 1; have j2 := S2.cell 2; have j3 := S2.cell 3; simp at k0 k1 k2 k3 k4 k5 k6 k7 k8 k9 j0 j1 j2 j3; first | (go_simp; done) | (go_simp; with_reducible rfl))))) | (refine held_pass ?_ ?_; (focus rfl))); simp only [Act.put, List.setIfInBounds_toArray, List.set_cons_zero, List.set_cons_succ])
  refine held_one ?_
  refine wpList_plain rfl fun K1 hK1 => ?_
  go_wp2_with (first | (go_at_call 33; (with_reducible refine (f_need_no _ _).mono ?_); rintro e w1 ⟨rfl, rfl⟩))
  (first | refine onward_panic ?_ | skip)
  exact ⟨rfl, rfl, by (exact kpt)⟩

theorem f_move_no4 {B s cp : Nat} {ad : Option Addr} {p : Plant} {w : World} (d : Deed) (h : Shop 54 89 B w s ad cp p) (hp : plantB p = true) (ha : argB p d = true) (ht : rng [d.to] 0 (p.cells.length - 1) = true) (he : d.to ≠ d.cell) (hl : amount (at_ p d) < d.n) : Calls Try.prog 29 #[.pointer (some ⟨s, 0, none⟩), .agg #[.int .u8 d.kind, .int .i64 d.cell, .int .i64 d.to, .int .i64 d.n]] w fun e w' => e = .panicked [{ v := refusal 6, recovered := false }] ∧ Kept w w' := by
  have hn12 : p.cells.length ≤ 12 := (plantB_iff.1 hp).1
  have hb := plantB_iff.1 hp
  have hi : d.cell.toNat < p.cells.length := by
    have h1 : rng [d.cell] 0 (p.cells.length - 1) = true := by unfold argB at ha; simp only [Bool.and_eq_true] at ha; exact ha.1
    have : 0 ≤ d.cell ∧ d.cell ≤ p.cells.length - 1 := by simpa [rng, inB] using h1
    omega
  have hn : 1 ≤ d.n ∧ d.n ≤ 10000000 := by
    have h1 : rng [d.n] 1 10000000 = true := by unfold argB at ha; simp only [Bool.and_eq_true] at ha; exact ha.2
    simpa [rng, inB] using h1
  have hcv : cellB p.cells[d.cell.toNat] = true := hb.2.2.2.2.2.2.1 _ (List.getElem_mem hi)
  have hat : at_ p d = p.cells[d.cell.toNat] := cellAt_get hi
  have HA := Lib.hid ha
  obtain ⟨hB, hs, hm⟩ := h
  have hBw : B ≤ w.heap.size := by have := hs.lt; omega
  obtain ⟨g, _, rfl, hBg, hbg, _⟩ := hm.at hi
  have hgl := hbg.lt
  clear hbg
  obtain ⟨x, hx⟩ : ∃ x, x = p.cells[d.cell.toNat] := ⟨_, rfl⟩
  have HX := Lib.hid (show p.cells[d.cell.toNat]? = some x by rw [hx]; simp [hi])
  rw [← hx] at hcv hat
  have hxb := cellB_iff.1 hcv
  have HAT := Lib.hid hat
  have HXX := Lib.hid hx
  clear ha hat hx
  have hto : 0 ≤ d.to ∧ d.to ≤ p.cells.length - 1 := by simpa [rng, inB] using ht
  have HT := Lib.hid ht
  have hlt : x.helium + x.air < d.n := by rw [HAT.out] at hl; exact hl
  have HOK := Lib.hid (okC_of hcv)
  clear hp hb hl
  have hne0 : (d.to == d.cell) = false := by simp [he]
  have hne' : (d.to != d.cell) = true := by simp [he]
  have hne'' : decide (d.to = d.cell) = false := by simp [he]
  clear ht he
  have hwl := i64_inx (n := (p.cells.length : Int) - 1) (by omega)
  go_enter Try.func29, Try.ntmps29
  go_upto_region 2 with (first | (go_at_call 66; (with_reducible refine (f_cell_ok s g cp p d _ (hs.keep (by (exact kpt))) hn12 HA.out).mono ?_); rintro e w1 ⟨rfl, hb1⟩; refine Blk.thru (b := w.heap.size) (arr := ?_) (t := ?_) ?_ hb1 ?_; rotate_left 2; (focus (exact blk)); intro rr; have rrc0 := rr.cell 0; have rrf0 := rr.free 0; have rrc1 := rr.cell 1; have rrf1 := rr.free 1; have rrc2 := rr.cell 2; have rrf2 := rr.free 2; have rrc3 := rr.cell 3; have rrf3 := rr.free 3; have rrl := rr.lt; simp at rrc0 rrc1 rrc2 rrc3; obtain ⟨hc1, hf1, hl1⟩ := bcell3 hb1))
  refine at_world (S := fun W => Blk W w.heap.size #[.int .u8 d.kind, .int .i64 d.cell, .int .i64 d.to, .int .i64 d.n] 43 ∧ Blk W s #[.slice (some ⟨g, 0, none⟩) p.cells.length cp, .int .i64 (p.bottles), .int .i64 (p.inH), .int .i64 (p.inA), .int .i64 (p.vH), .int .i64 (p.vA), .int .i64 (p.lH), .int .i64 (p.lA), .int .i64 (p.pH), .int .i64 (p.pA)] 89 ∧ Mine 54 B W (.slice (some ⟨g, 0, none⟩) p.cells.length cp) p.cells ∧ Kept w W) ⟨by (exact blkc), hs.keep (by (exact kpt)), hm.keep (by (exact kpt)), by (exact kpt)⟩ ?_
  rintro W ⟨r0, hsW, hmW, hk⟩
  clear hc1 hf1 hl1
  refine held_walk (fun w' => Blk w' s #[.slice (some ⟨g, 0, none⟩) p.cells.length cp, .int .i64 (p.bottles), .int .i64 (p.inH), .int .i64 (p.inA), .int .i64 (p.vH), .int .i64 (p.vA), .int .i64 (p.lH), .int .i64 (p.lA), .int .i64 (p.pH), .int .i64 (p.pA)] 89 ∧ Blk w' w.heap.size #[.int .u8 d.kind, .int .i64 d.cell, .int .i64 d.to, .int .i64 d.n] 43) [(true, 0), (true, 1), (true, 2), (true, 3), (true, 4), (true, 5), (true, 6), (true, 7), (true, 8), (false, 9), (false, 10), (true, 11), (true, 12), (true, 13), (true, 14), (true, 15), (true, 16), (true, 17), (false, 18)] 18 (by kernel_rfl) (by kernel_rfl) (fun c a d v w h => by cases d <;> exact h) ⟨hsW.drew, r0.drew⟩ ?_
  simp only [List.filterMap_cons, List.filterMap_nil, List.getElem?_cons_zero, List.getElem?_cons_succ, Option.map_some]
  iterate 9 ((first | (refine held_take ?_ ?_ (fun w' hS => ?_) ?_; rotate_left 1; (focus rfl); (focus (first | (go_simp; done) | (go_simp; with_reducible rfl) | (obtain ⟨S1, S2⟩ := hS; have k0 := S1.cell 0; have k1 := S1.cell 1; have k2 := S1.cell 2; have k3 := S1.cell 3; have k4 := S1.cell 4; have k5 := S1.cell 5; have k6 := S1.cell 6; have k7 := S1.cell 7; have k8 := S1.cell 8; have k9 := S1.cell 9; have j0 := S2.cell 0; have j1 := S2.cell 1; have j2 := S2.cell 2; have j3 := S2.cell 3; simp at k0 k1 k2 k3 k4 k5 k6 k7 k8 k9 j0 j1 j2 j3; first | (go_simp; done) | (go_simp; with_reducible rfl))))) | (refine held_pass ?_ ?_; (focus rfl))); simp only [Act.put, List.setIfInBounds_toArray, List.set_cons_zero, List.set_cons_succ])
  refine held_one ?_
  refine wpList_plain rfl fun K1 hK1 => ?_
  go_wp2
  refine held_on ⟨by (repeat (first | with_reducible assumption | with_reducible refine Blk.drew ?_ | with_reducible refine Blk.alloc ?_ _ | (with_reducible refine Besides.blk hbes2 (by decide) ?_) | with_reducible refine Blk.keep ?_ (by with_reducible assumption))), by (repeat (first | with_reducible assumption | with_reducible refine Blk.drew ?_ | with_reducible refine Blk.alloc ?_ _ | (with_reducible refine Besides.blk hbes2 (by decide) ?_) | with_reducible refine Blk.keep ?_ (by with_reducible assumption)))⟩ ?_
  refine held_one ?_
  refine wpList_plain rfl fun K1 hK1 => ?_
  go_wp2_with (go_at_call 34; (with_reducible refine (f_ranged1B _ _ d.to _ _ ?_).mono ?_); (focus ((repeat with_reducible refine Blk.drew ?_); exact Blk.new' (by first | rfl | (simp; done)))); rw [HT.out]; rintro e w1 ⟨rfl, rfl⟩)
  refine held_on ⟨by (repeat (first | with_reducible assumption | with_reducible refine Blk.drew ?_ | with_reducible refine Blk.alloc ?_ _ | (with_reducible refine Besides.blk hbes2 (by decide) ?_) | with_reducible refine Blk.keep ?_ (by with_reducible assumption))), by (repeat (first | with_reducible assumption | with_reducible refine Blk.drew ?_ | with_reducible refine Blk.alloc ?_ _ | (with_reducible refine Besides.blk hbes2 (by decide) ?_) | with_reducible refine Blk.keep ?_ (by with_reducible assumption)))⟩ ?_
  iterate 7 ((first | (refine held_take ?_ ?_ (fun w' hS => ?_) ?_; rotate_left 1; (focus rfl); (focus (first | (go_simp; done) | (go_simp; with_reducible rfl) | (obtain ⟨S1, S2⟩ := hS; have k0 := S1.cell 0; have k1 := S1.cell 1; have k2 := S1.cell 2; have k3 := S1.cell 3; have k4 := S1.cell 4; have k5 := S1.cell 5; have k6 := S1.cell 6; have k7 := S1.cell 7; have k8 := S1.cell 8; have k9 := S1.cell 9; have j0 := S2.cell 0; have j1 := S2.cell 1; have j2 := S2.cell 2; have j3 := S2.cell 3; simp at k0 k1 k2 k3 k4 k5 k6 k7 k8 k9 j0 j1 j2 j3; first | (go_simp; done) | (go_simp; with_reducible rfl))))) | (refine held_pass ?_ ?_; (focus rfl))); simp only [Act.put, List.setIfInBounds_toArray, List.set_cons_zero, List.set_cons_succ])
  refine held_one ?_
  refine wpList_plain rfl fun K1 hK1 => ?_
  go_wp2_with (first | (go_at_call 33; (with_reducible refine (f_need_ok _ _).mono ?_); rintro e w1 ⟨rfl, rfl⟩))
  (first | refine held_end ?_ | (refine onward_on ?_; first | refine held_nil ?_ | refine ⟨.inl trivial, held_nil ?_⟩ | refine ⟨.inl rfl, held_nil ?_⟩))
  go_wp2
  refine at_world (S := fun X => Blk X w.heap.size #[.int .u8 d.kind, .int .i64 d.cell, .int .i64 d.to, .int .i64 d.n] 43 ∧ Blk X s #[.slice (some ⟨g, 0, none⟩) p.cells.length cp, .int .i64 (p.bottles), .int .i64 (p.inH), .int .i64 (p.inA), .int .i64 (p.vH), .int .i64 (p.vA), .int .i64 (p.lH), .int .i64 (p.lA), .int .i64 (p.pH), .int .i64 (p.pA)] 89 ∧ Mine 54 B X (.slice (some ⟨g, 0, none⟩) p.cells.length cp) p.cells ∧ Kept w X) ⟨by (repeat (first | with_reducible assumption | with_reducible refine Blk.drew ?_ | with_reducible refine Blk.alloc ?_ _ | (with_reducible refine Besides.blk hbes2 (by decide) ?_) | with_reducible refine Blk.keep ?_ (by with_reducible assumption))), by (repeat (first | with_reducible assumption | with_reducible refine Blk.drew ?_ | with_reducible refine Blk.alloc ?_ _ | (with_reducible refine Besides.blk hbes2 (by decide) ?_) | with_reducible refine Blk.keep ?_ (by with_reducible assumption))), by (repeat (first | with_reducible assumption | with_reducible refine Mine.drew ?_ | with_reducible refine Mine.alloc ?_ _)), by (exact kpt)⟩ ?_
  rintro X ⟨r0, hsX, hmX, hkX⟩
  have hi0 : (0 : Int) ≤ d.to := hto.1
  have hi1 : d.to < (p.cells.length : Int) := by omega
  have r0c0 := fun g : Later X => (r0.later g).cell 0
  have r0f0 := fun g : Later X => (r0.later g).free 0
  have r0c1 := fun g : Later X => (r0.later g).cell 1
  have r0f1 := fun g : Later X => (r0.later g).free 1
  have r0c2 := fun g : Later X => (r0.later g).cell 2
  have r0f2 := fun g : Later X => (r0.later g).free 2
  have r0c3 := fun g : Later X => (r0.later g).cell 3
  have r0f3 := fun g : Later X => (r0.later g).free 3
  have r0l := fun g : Later X => (r0.later g).lt
  simp at r0c0 r0c1 r0c2 r0c3
  have hsXc0 := fun g : Later X => (hsX.later g).cell 0
  have hsXf0 := fun g : Later X => (hsX.later g).free 0
  have hsXc1 := fun g : Later X => (hsX.later g).cell 1
  have hsXf1 := fun g : Later X => (hsX.later g).free 1
  have hsXc2 := fun g : Later X => (hsX.later g).cell 2
  have hsXf2 := fun g : Later X => (hsX.later g).free 2
  have hsXc3 := fun g : Later X => (hsX.later g).cell 3
  have hsXf3 := fun g : Later X => (hsX.later g).free 3
  have hsXc4 := fun g : Later X => (hsX.later g).cell 4
  have hsXf4 := fun g : Later X => (hsX.later g).free 4
  have hsXc5 := fun g : Later X => (hsX.later g).cell 5
  have hsXf5 := fun g : Later X => (hsX.later g).free 5
  have hsXc6 := fun g : Later X => (hsX.later g).cell 6
  have hsXf6 := fun g : Later X => (hsX.later g).free 6
  have hsXc7 := fun g : Later X => (hsX.later g).cell 7
  have hsXf7 := fun g : Later X => (hsX.later g).free 7
  have hsXc8 := fun g : Later X => (hsX.later g).cell 8
  have hsXf8 := fun g : Later X => (hsX.later g).free 8
  have hsXc9 := fun g : Later X => (hsX.later g).cell 9
  have hsXf9 := fun g : Later X => (hsX.later g).free 9
  have hsXl := fun g : Later X => (hsX.later g).lt
  simp at hsXc0 hsXc1 hsXc2 hsXc3 hsXc4 hsXc5 hsXc6 hsXc7 hsXc8 hsXc9
  refine later_dies [0, 1, 2, 4, 5, 6, 7, 8, 9, 10, 11] 3 (some 12) (by kernel_rfl) (by kernel_rfl) (fun c a d v w h => by cases d <;> exact h) (makes_pair rfl rfl rfl) ?_
  simp only [List.filterMap_cons, List.filterMap_nil, List.getElem?_cons_zero, List.getElem?_cons_succ, List.map_cons, List.map_nil]
  repeat (refine wpSteps_quiet ?_; (first | go_big_quiet_skip | (go_big_quiet_want; go_big_quiet_op; first | go_big_quiet_on | (apply Exists.intro; refine ⟨fun g_ => ?_, ?_⟩; (focus (first | fail)); go_big_quiet_on))); refine wpQuiet_nil ?_)
  refine wpSteps_nil ?_
  refine ⟨DiesAt.of rfl rfl (fun w' hw' => ?_), fun _ oq hq ho v => ?_⟩
  · obtain ⟨gg, rfl⟩ := hw'
    simp only [Go.wp_at_succ, Go.wp_at_zero]
    go_simp
    (with_reducible refine (f_outX_none (hmX.keep gg.ok) HX.out HOK.out d.n hlt).mono ?_)
    rintro e w1 ⟨rfl, hb1⟩
    have hkg := Kept.drop hkX gg.ok
    exact ⟨rfl, rfl, by (exact kpt)⟩
  · cases hq
    obtain rfl : _ = oq := Option.some.inj ho
    simp only [Act.put, List.setIfInBounds_toArray, List.set_cons_zero, List.set_cons_succ]
    refine DiesAt.of rfl rfl (fun w' hw' => ?_)
    obtain ⟨gg, rfl⟩ := hw'
    simp only [Go.wp_at_succ, Go.wp_at_zero]
    go_simp
    (with_reducible refine (f_outX_none (hmX.keep gg.ok) HX.out HOK.out d.n hlt).mono ?_)
    rintro e w1 ⟨rfl, hb1⟩
    have hkg := Kept.drop hkX gg.ok
    exact ⟨rfl, rfl, by (exact kpt)⟩
theorem to_bd {p : Plant} {d : Deed} {x : Cell} (hv : ∀ c ∈ p.cells, cellB c = true) (hx : p.cells[d.cell.toNat]? = some x) (h0 : 0 ≤ d.n) (h1 : d.n ≤ x.helium + x.air) (ht : 0 ≤ d.to ∧ d.to ≤ p.cells.length - 1) :
    ∃ y, (p.cells.set d.cell.toNat (less x d.n))[d.to.toNat]? = some y ∧ okC y := by
  have hj : d.to.toNat < (p.cells.set d.cell.toNat (less x d.n)).length := by simp; omega
  refine ⟨_, List.getElem?_eq_getElem hj, okC_of ?_⟩
  rcases List.mem_or_eq_of_mem_set (List.getElem_mem hj) with h | h
  · exact hv _ h
  · rw [h]; exact less_B (hv _ (List.mem_of_getElem? hx)) h0 h1
theorem f_move_ok {B s cp : Nat} {ad : Option Addr} {p : Plant} {w : World} (d : Deed) (h : Shop 54 89 B w s ad cp p) (hp : plantB p = true) (ha : argB p d = true) (ht : rng [d.to] 0 (p.cells.length - 1) = true) (he : d.to ≠ d.cell) (hl : ¬ amount (at_ p d) < d.n) : Calls Try.prog 29 #[.pointer (some ⟨s, 0, none⟩), .agg #[.int .u8 d.kind, .int .i64 d.cell, .int .i64 d.to, .int .i64 d.n]] w fun e w' => e = .returned (.tuple #[]) ∧ Shop 54 89 B w' s ad cp (moveP p d) ∧ Below B w w' := by
  have hn12 : p.cells.length ≤ 12 := (plantB_iff.1 hp).1
  have hb := plantB_iff.1 hp
  have hi : d.cell.toNat < p.cells.length := by
    have h1 : rng [d.cell] 0 (p.cells.length - 1) = true := by unfold argB at ha; simp only [Bool.and_eq_true] at ha; exact ha.1
    have : 0 ≤ d.cell ∧ d.cell ≤ p.cells.length - 1 := by simpa [rng, inB] using h1
    omega
  have hn : 1 ≤ d.n ∧ d.n ≤ 10000000 := by
    have h1 : rng [d.n] 1 10000000 = true := by unfold argB at ha; simp only [Bool.and_eq_true] at ha; exact ha.2
    simpa [rng, inB] using h1
  have hcv : cellB p.cells[d.cell.toNat] = true := hb.2.2.2.2.2.2.1 _ (List.getElem_mem hi)
  have hat : at_ p d = p.cells[d.cell.toNat] := cellAt_get hi
  have HA := Lib.hid ha
  obtain ⟨hB, hs, hm⟩ := h
  have hBw : B ≤ w.heap.size := by have := hs.lt; omega
  obtain ⟨g, _, rfl, hBg, hbg, _⟩ := hm.at hi
  have hgl := hbg.lt
  clear hbg
  obtain ⟨x, hx⟩ : ∃ x, x = p.cells[d.cell.toNat] := ⟨_, rfl⟩
  have HX := Lib.hid (show p.cells[d.cell.toNat]? = some x by rw [hx]; simp [hi])
  rw [← hx] at hcv hat
  have hxb := cellB_iff.1 hcv
  have HAT := Lib.hid hat
  have HXX := Lib.hid hx
  clear ha hat hx
  have hto : 0 ≤ d.to ∧ d.to ≤ p.cells.length - 1 := by simpa [rng, inB] using ht
  have HT := Lib.hid ht
  have hvv := hb.2.2.2.2.2.2.1
  have hle : d.n ≤ x.helium + x.air := by rw [HAT.out] at hl; unfold amount at hl; omega
  have HOK := Lib.hid (okC_of hcv)
  obtain ⟨s0, s1, s2, s3⟩ := share_bd HOK.out (show 0 ≤ d.n by omega) hle
  obtain ⟨S, hS⟩ : ∃ S, S = shareH x d.n := ⟨_, rfl⟩
  have HSS := Lib.hid (show shareH x d.n = S from hS.symm)
  have HOUT := fun (W : World) (q : Mine 54 B W (.slice (some ⟨g, 0, none⟩) p.cells.length cp) p.cells) => f_outX q HX.out HOK.out d.n hn.1 hle
  rw [← hS] at s0 s1 s2 s3 HOUT
  obtain ⟨_, hb1, ⟨hb2, hb3⟩, ⟨hb4, hb5⟩, ⟨hb6, hb7⟩, ⟨hb8, hb9⟩, _⟩ := hb
  clear hS hl
  have hne0 : (d.to == d.cell) = false := by simp [he]
  have hne' : (d.to != d.cell) = true := by simp [he]
  have hne'' : decide (d.to = d.cell) = false := by simp [he]
  obtain ⟨y, hy, hyb⟩ := to_bd hvv HX.out (by omega) hle hto
  have HY := Lib.hid hy
  obtain ⟨hyb1, hyb2⟩ := hyb
  clear hp ht he hvv hy
  have hwl := i64_inx (n := (p.cells.length : Int) - 1) (by omega)
  go_enter Try.func29, Try.ntmps29
  go_upto_region 2 with (first | (go_at_call 66; (with_reducible refine (f_cell_ok s g cp p d _ (hs.keep (by (exact kpt))) hn12 HA.out).mono ?_); rintro e w1 ⟨rfl, hb1⟩; refine Blk.thru (b := w.heap.size) (arr := ?_) (t := ?_) ?_ hb1 ?_; rotate_left 2; (focus (exact blk)); intro rr; have rrc0 := rr.cell 0; have rrf0 := rr.free 0; have rrc1 := rr.cell 1; have rrf1 := rr.free 1; have rrc2 := rr.cell 2; have rrf2 := rr.free 2; have rrc3 := rr.cell 3; have rrf3 := rr.free 3; have rrl := rr.lt; simp at rrc0 rrc1 rrc2 rrc3; obtain ⟨hc1, hf1, hl1⟩ := bcell3 hb1))
  refine at_world (S := fun W => Blk W w.heap.size #[.int .u8 d.kind, .int .i64 d.cell, .int .i64 d.to, .int .i64 d.n] 43 ∧ Blk W s #[.slice (some ⟨g, 0, none⟩) p.cells.length cp, .int .i64 (p.bottles), .int .i64 (p.inH), .int .i64 (p.inA), .int .i64 (p.vH), .int .i64 (p.vA), .int .i64 (p.lH), .int .i64 (p.lA), .int .i64 (p.pH), .int .i64 (p.pA)] 89 ∧ Mine 54 B W (.slice (some ⟨g, 0, none⟩) p.cells.length cp) p.cells ∧ Kept w W) ⟨by (exact blkc), hs.keep (by (exact kpt)), hm.keep (by (exact kpt)), by (exact kpt)⟩ ?_
  rintro W ⟨r0, hsW, hmW, hk⟩
  clear hc1 hf1 hl1
  refine held_walk (fun w' => Blk w' s #[.slice (some ⟨g, 0, none⟩) p.cells.length cp, .int .i64 (p.bottles), .int .i64 (p.inH), .int .i64 (p.inA), .int .i64 (p.vH), .int .i64 (p.vA), .int .i64 (p.lH), .int .i64 (p.lA), .int .i64 (p.pH), .int .i64 (p.pA)] 89 ∧ Blk w' w.heap.size #[.int .u8 d.kind, .int .i64 d.cell, .int .i64 d.to, .int .i64 d.n] 43) [(true, 0), (true, 1), (true, 2), (true, 3), (true, 4), (true, 5), (true, 6), (true, 7), (true, 8), (false, 9), (false, 10), (true, 11), (true, 12), (true, 13), (true, 14), (true, 15), (true, 16), (true, 17), (false, 18)] 18 (by kernel_rfl) (by kernel_rfl) (fun c a d v w h => by cases d <;> exact h) ⟨hsW.drew, r0.drew⟩ ?_
  simp only [List.filterMap_cons, List.filterMap_nil, List.getElem?_cons_zero, List.getElem?_cons_succ, Option.map_some]
  iterate 9 ((first | (refine held_take ?_ ?_ (fun w' hS => ?_) ?_; rotate_left 1; (focus rfl); (focus (first | (go_simp; done) | (go_simp; with_reducible rfl) | (obtain ⟨S1, S2⟩ := hS; have k0 := S1.cell 0; have k1 := S1.cell 1; have k2 := S1.cell 2; have k3 := S1.cell 3; have k4 := S1.cell 4; have k5 := S1.cell 5; have k6 := S1.cell 6; have k7 := S1.cell 7; have k8 := S1.cell 8; have k9 := S1.cell 9; have j0 := S2.cell 0; have j1 := S2.cell 1; have j2 := S2.cell 2; have j3 := S2.cell 3; simp at k0 k1 k2 k3 k4 k5 k6 k7 k8 k9 j0 j1 j2 j3; first | (go_simp; done) | (go_simp; with_reducible rfl))))) | (refine held_pass ?_ ?_; (focus rfl))); simp only [Act.put, List.setIfInBounds_toArray, List.set_cons_zero, List.set_cons_succ])
  refine held_one ?_
  refine wpList_plain rfl fun K1 hK1 => ?_
  go_wp2
  refine held_on ⟨by (repeat (first | with_reducible assumption | with_reducible refine Blk.drew ?_ | with_reducible refine Blk.alloc ?_ _ | (with_reducible refine Besides.blk hbes2 (by decide) ?_) | with_reducible refine Blk.keep ?_ (by with_reducible assumption))), by (repeat (first | with_reducible assumption | with_reducible refine Blk.drew ?_ | with_reducible refine Blk.alloc ?_ _ | (with_reducible refine Besides.blk hbes2 (by decide) ?_) | with_reducible refine Blk.keep ?_ (by with_reducible assumption)))⟩ ?_
  refine held_one ?_
  refine wpList_plain rfl fun K1 hK1 => ?_
  go_wp2_with (go_at_call 34; (with_reducible refine (f_ranged1B _ _ d.to _ _ ?_).mono ?_); (focus ((repeat with_reducible refine Blk.drew ?_); exact Blk.new' (by first | rfl | (simp; done)))); rw [HT.out]; rintro e w1 ⟨rfl, rfl⟩)
  refine held_on ⟨by (repeat (first | with_reducible assumption | with_reducible refine Blk.drew ?_ | with_reducible refine Blk.alloc ?_ _ | (with_reducible refine Besides.blk hbes2 (by decide) ?_) | with_reducible refine Blk.keep ?_ (by with_reducible assumption))), by (repeat (first | with_reducible assumption | with_reducible refine Blk.drew ?_ | with_reducible refine Blk.alloc ?_ _ | (with_reducible refine Besides.blk hbes2 (by decide) ?_) | with_reducible refine Blk.keep ?_ (by with_reducible assumption)))⟩ ?_
  iterate 7 ((first | (refine held_take ?_ ?_ (fun w' hS => ?_) ?_; rotate_left 1; (focus rfl); (focus (first | (go_simp; done) | (go_simp; with_reducible rfl) | (obtain ⟨S1, S2⟩ := hS; have k0 := S1.cell 0; have k1 := S1.cell 1; have k2 := S1.cell 2; have k3 := S1.cell 3; have k4 := S1.cell 4; have k5 := S1.cell 5; have k6 := S1.cell 6; have k7 := S1.cell 7; have k8 := S1.cell 8; have k9 := S1.cell 9; have j0 := S2.cell 0; have j1 := S2.cell 1; have j2 := S2.cell 2; have j3 := S2.cell 3; simp at k0 k1 k2 k3 k4 k5 k6 k7 k8 k9 j0 j1 j2 j3; first | (go_simp; done) | (go_simp; with_reducible rfl))))) | (refine held_pass ?_ ?_; (focus rfl))); simp only [Act.put, List.setIfInBounds_toArray, List.set_cons_zero, List.set_cons_succ])
  refine held_one ?_
  refine wpList_plain rfl fun K1 hK1 => ?_
  go_wp2_with (first | (go_at_call 33; (with_reducible refine (f_need_ok _ _).mono ?_); rintro e w1 ⟨rfl, rfl⟩))
  (first | refine held_end ?_ | (refine onward_on ?_; first | refine held_nil ?_ | refine ⟨.inl trivial, held_nil ?_⟩ | refine ⟨.inl rfl, held_nil ?_⟩))
  go_wp2
  refine at_world (S := fun X => Blk X w.heap.size #[.int .u8 d.kind, .int .i64 d.cell, .int .i64 d.to, .int .i64 d.n] 43 ∧ Blk X s #[.slice (some ⟨g, 0, none⟩) p.cells.length cp, .int .i64 (p.bottles), .int .i64 (p.inH), .int .i64 (p.inA), .int .i64 (p.vH), .int .i64 (p.vA), .int .i64 (p.lH), .int .i64 (p.lA), .int .i64 (p.pH), .int .i64 (p.pA)] 89 ∧ Mine 54 B X (.slice (some ⟨g, 0, none⟩) p.cells.length cp) p.cells ∧ Kept w X) ⟨by (repeat (first | with_reducible assumption | with_reducible refine Blk.drew ?_ | with_reducible refine Blk.alloc ?_ _ | (with_reducible refine Besides.blk hbes2 (by decide) ?_) | with_reducible refine Blk.keep ?_ (by with_reducible assumption))), by (repeat (first | with_reducible assumption | with_reducible refine Blk.drew ?_ | with_reducible refine Blk.alloc ?_ _ | (with_reducible refine Besides.blk hbes2 (by decide) ?_) | with_reducible refine Blk.keep ?_ (by with_reducible assumption))), by (repeat (first | with_reducible assumption | with_reducible refine Mine.drew ?_ | with_reducible refine Mine.alloc ?_ _)), by (exact kpt)⟩ ?_
  rintro X ⟨r0, hsX, hmX, hkX⟩
  have hi0 : (0 : Int) ≤ d.to := hto.1
  have hi1 : d.to < (p.cells.length : Int) := by omega
  have hsk0 : ∀ w', Blk w' s #[.slice (some ⟨g, 0, none⟩) p.cells.length cp, .int .i64 (p.bottles), .int .i64 (p.inH), .int .i64 (p.inA), .int .i64 (p.vH), .int .i64 (p.vA), .int .i64 (p.lH), .int .i64 (p.lA), .int .i64 (p.pH), .int .i64 (p.pA)] 89 → w'.cell? ⟨s, 0, none⟩ = _ := fun w' h => h.cell 0
  have hsk1 : ∀ w', Blk w' s #[.slice (some ⟨g, 0, none⟩) p.cells.length cp, .int .i64 (p.bottles), .int .i64 (p.inH), .int .i64 (p.inA), .int .i64 (p.vH), .int .i64 (p.vA), .int .i64 (p.lH), .int .i64 (p.lA), .int .i64 (p.pH), .int .i64 (p.pA)] 89 → w'.cell? ⟨s, 1, none⟩ = _ := fun w' h => h.cell 1
  have hsk2 : ∀ w', Blk w' s #[.slice (some ⟨g, 0, none⟩) p.cells.length cp, .int .i64 (p.bottles), .int .i64 (p.inH), .int .i64 (p.inA), .int .i64 (p.vH), .int .i64 (p.vA), .int .i64 (p.lH), .int .i64 (p.lA), .int .i64 (p.pH), .int .i64 (p.pA)] 89 → w'.cell? ⟨s, 2, none⟩ = _ := fun w' h => h.cell 2
  have hsk3 : ∀ w', Blk w' s #[.slice (some ⟨g, 0, none⟩) p.cells.length cp, .int .i64 (p.bottles), .int .i64 (p.inH), .int .i64 (p.inA), .int .i64 (p.vH), .int .i64 (p.vA), .int .i64 (p.lH), .int .i64 (p.lA), .int .i64 (p.pH), .int .i64 (p.pA)] 89 → w'.cell? ⟨s, 3, none⟩ = _ := fun w' h => h.cell 3
  have hsk4 : ∀ w', Blk w' s #[.slice (some ⟨g, 0, none⟩) p.cells.length cp, .int .i64 (p.bottles), .int .i64 (p.inH), .int .i64 (p.inA), .int .i64 (p.vH), .int .i64 (p.vA), .int .i64 (p.lH), .int .i64 (p.lA), .int .i64 (p.pH), .int .i64 (p.pA)] 89 → w'.cell? ⟨s, 4, none⟩ = _ := fun w' h => h.cell 4
  have hsk5 : ∀ w', Blk w' s #[.slice (some ⟨g, 0, none⟩) p.cells.length cp, .int .i64 (p.bottles), .int .i64 (p.inH), .int .i64 (p.inA), .int .i64 (p.vH), .int .i64 (p.vA), .int .i64 (p.lH), .int .i64 (p.lA), .int .i64 (p.pH), .int .i64 (p.pA)] 89 → w'.cell? ⟨s, 5, none⟩ = _ := fun w' h => h.cell 5
  have hsk6 : ∀ w', Blk w' s #[.slice (some ⟨g, 0, none⟩) p.cells.length cp, .int .i64 (p.bottles), .int .i64 (p.inH), .int .i64 (p.inA), .int .i64 (p.vH), .int .i64 (p.vA), .int .i64 (p.lH), .int .i64 (p.lA), .int .i64 (p.pH), .int .i64 (p.pA)] 89 → w'.cell? ⟨s, 6, none⟩ = _ := fun w' h => h.cell 6
  have hsk7 : ∀ w', Blk w' s #[.slice (some ⟨g, 0, none⟩) p.cells.length cp, .int .i64 (p.bottles), .int .i64 (p.inH), .int .i64 (p.inA), .int .i64 (p.vH), .int .i64 (p.vA), .int .i64 (p.lH), .int .i64 (p.lA), .int .i64 (p.pH), .int .i64 (p.pA)] 89 → w'.cell? ⟨s, 7, none⟩ = _ := fun w' h => h.cell 7
  have hsk8 : ∀ w', Blk w' s #[.slice (some ⟨g, 0, none⟩) p.cells.length cp, .int .i64 (p.bottles), .int .i64 (p.inH), .int .i64 (p.inA), .int .i64 (p.vH), .int .i64 (p.vA), .int .i64 (p.lH), .int .i64 (p.lA), .int .i64 (p.pH), .int .i64 (p.pA)] 89 → w'.cell? ⟨s, 8, none⟩ = _ := fun w' h => h.cell 8
  have hsk9 : ∀ w', Blk w' s #[.slice (some ⟨g, 0, none⟩) p.cells.length cp, .int .i64 (p.bottles), .int .i64 (p.inH), .int .i64 (p.inA), .int .i64 (p.vH), .int .i64 (p.vA), .int .i64 (p.lH), .int .i64 (p.lA), .int .i64 (p.pH), .int .i64 (p.pA)] 89 → w'.cell? ⟨s, 9, none⟩ = _ := fun w' h => h.cell 9
  have hsf0 : ∀ w', Blk w' s #[.slice (some ⟨g, 0, none⟩) p.cells.length cp, .int .i64 (p.bottles), .int .i64 (p.inH), .int .i64 (p.inA), .int .i64 (p.vH), .int .i64 (p.vA), .int .i64 (p.lH), .int .i64 (p.lA), .int .i64 (p.pH), .int .i64 (p.pA)] 89 → w'.frozen? ⟨s, 0, none⟩ = _ := fun w' h => h.free 0
  have hsf1 : ∀ w', Blk w' s #[.slice (some ⟨g, 0, none⟩) p.cells.length cp, .int .i64 (p.bottles), .int .i64 (p.inH), .int .i64 (p.inA), .int .i64 (p.vH), .int .i64 (p.vA), .int .i64 (p.lH), .int .i64 (p.lA), .int .i64 (p.pH), .int .i64 (p.pA)] 89 → w'.frozen? ⟨s, 1, none⟩ = _ := fun w' h => h.free 1
  have hsf2 : ∀ w', Blk w' s #[.slice (some ⟨g, 0, none⟩) p.cells.length cp, .int .i64 (p.bottles), .int .i64 (p.inH), .int .i64 (p.inA), .int .i64 (p.vH), .int .i64 (p.vA), .int .i64 (p.lH), .int .i64 (p.lA), .int .i64 (p.pH), .int .i64 (p.pA)] 89 → w'.frozen? ⟨s, 2, none⟩ = _ := fun w' h => h.free 2
  have hsf3 : ∀ w', Blk w' s #[.slice (some ⟨g, 0, none⟩) p.cells.length cp, .int .i64 (p.bottles), .int .i64 (p.inH), .int .i64 (p.inA), .int .i64 (p.vH), .int .i64 (p.vA), .int .i64 (p.lH), .int .i64 (p.lA), .int .i64 (p.pH), .int .i64 (p.pA)] 89 → w'.frozen? ⟨s, 3, none⟩ = _ := fun w' h => h.free 3
  have hsf4 : ∀ w', Blk w' s #[.slice (some ⟨g, 0, none⟩) p.cells.length cp, .int .i64 (p.bottles), .int .i64 (p.inH), .int .i64 (p.inA), .int .i64 (p.vH), .int .i64 (p.vA), .int .i64 (p.lH), .int .i64 (p.lA), .int .i64 (p.pH), .int .i64 (p.pA)] 89 → w'.frozen? ⟨s, 4, none⟩ = _ := fun w' h => h.free 4
  have hsf5 : ∀ w', Blk w' s #[.slice (some ⟨g, 0, none⟩) p.cells.length cp, .int .i64 (p.bottles), .int .i64 (p.inH), .int .i64 (p.inA), .int .i64 (p.vH), .int .i64 (p.vA), .int .i64 (p.lH), .int .i64 (p.lA), .int .i64 (p.pH), .int .i64 (p.pA)] 89 → w'.frozen? ⟨s, 5, none⟩ = _ := fun w' h => h.free 5
  have hsf6 : ∀ w', Blk w' s #[.slice (some ⟨g, 0, none⟩) p.cells.length cp, .int .i64 (p.bottles), .int .i64 (p.inH), .int .i64 (p.inA), .int .i64 (p.vH), .int .i64 (p.vA), .int .i64 (p.lH), .int .i64 (p.lA), .int .i64 (p.pH), .int .i64 (p.pA)] 89 → w'.frozen? ⟨s, 6, none⟩ = _ := fun w' h => h.free 6
  have hsf7 : ∀ w', Blk w' s #[.slice (some ⟨g, 0, none⟩) p.cells.length cp, .int .i64 (p.bottles), .int .i64 (p.inH), .int .i64 (p.inA), .int .i64 (p.vH), .int .i64 (p.vA), .int .i64 (p.lH), .int .i64 (p.lA), .int .i64 (p.pH), .int .i64 (p.pA)] 89 → w'.frozen? ⟨s, 7, none⟩ = _ := fun w' h => h.free 7
  have hsf8 : ∀ w', Blk w' s #[.slice (some ⟨g, 0, none⟩) p.cells.length cp, .int .i64 (p.bottles), .int .i64 (p.inH), .int .i64 (p.inA), .int .i64 (p.vH), .int .i64 (p.vA), .int .i64 (p.lH), .int .i64 (p.lA), .int .i64 (p.pH), .int .i64 (p.pA)] 89 → w'.frozen? ⟨s, 8, none⟩ = _ := fun w' h => h.free 8
  have hsf9 : ∀ w', Blk w' s #[.slice (some ⟨g, 0, none⟩) p.cells.length cp, .int .i64 (p.bottles), .int .i64 (p.inH), .int .i64 (p.inA), .int .i64 (p.vH), .int .i64 (p.vA), .int .i64 (p.lH), .int .i64 (p.lA), .int .i64 (p.pH), .int .i64 (p.pA)] 89 → w'.frozen? ⟨s, 9, none⟩ = _ := fun w' h => h.free 9
  simp at hsk0 hsk1 hsk2 hsk3 hsk4 hsk5 hsk6 hsk7 hsk8 hsk9
  have hdk0 : ∀ w', Blk w' w.heap.size #[.int .u8 d.kind, .int .i64 d.cell, .int .i64 d.to, .int .i64 d.n] 43 → w'.cell? ⟨w.heap.size, 0, none⟩ = _ := fun w' h => h.cell 0
  have hdk1 : ∀ w', Blk w' w.heap.size #[.int .u8 d.kind, .int .i64 d.cell, .int .i64 d.to, .int .i64 d.n] 43 → w'.cell? ⟨w.heap.size, 1, none⟩ = _ := fun w' h => h.cell 1
  have hdk2 : ∀ w', Blk w' w.heap.size #[.int .u8 d.kind, .int .i64 d.cell, .int .i64 d.to, .int .i64 d.n] 43 → w'.cell? ⟨w.heap.size, 2, none⟩ = _ := fun w' h => h.cell 2
  have hdk3 : ∀ w', Blk w' w.heap.size #[.int .u8 d.kind, .int .i64 d.cell, .int .i64 d.to, .int .i64 d.n] 43 → w'.cell? ⟨w.heap.size, 3, none⟩ = _ := fun w' h => h.cell 3
  have hdf0 : ∀ w', Blk w' w.heap.size #[.int .u8 d.kind, .int .i64 d.cell, .int .i64 d.to, .int .i64 d.n] 43 → w'.frozen? ⟨w.heap.size, 0, none⟩ = _ := fun w' h => h.free 0
  have hdf1 : ∀ w', Blk w' w.heap.size #[.int .u8 d.kind, .int .i64 d.cell, .int .i64 d.to, .int .i64 d.n] 43 → w'.frozen? ⟨w.heap.size, 1, none⟩ = _ := fun w' h => h.free 1
  have hdf2 : ∀ w', Blk w' w.heap.size #[.int .u8 d.kind, .int .i64 d.cell, .int .i64 d.to, .int .i64 d.n] 43 → w'.frozen? ⟨w.heap.size, 2, none⟩ = _ := fun w' h => h.free 2
  have hdf3 : ∀ w', Blk w' w.heap.size #[.int .u8 d.kind, .int .i64 d.cell, .int .i64 d.to, .int .i64 d.n] 43 → w'.frozen? ⟨w.heap.size, 3, none⟩ = _ := fun w' h => h.free 3
  simp at hdk0 hdk1 hdk2 hdk3
  go_cut [5, 6] (fun s5 s6 wx => ∃ gx, s5 = .pointer (some ⟨gx, 0, none⟩) ∧ s6 = .pointer (some ⟨g, d.to.toNat * 7, none⟩) ∧ Blk wx gx #[.int .i64 S, .int .i64 (d.n - S)] 24 ∧ Blk wx s #[.slice (some ⟨g, 0, none⟩) p.cells.length cp, .int .i64 (p.bottles), .int .i64 (p.inH), .int .i64 (p.inA), .int .i64 (p.vH), .int .i64 (p.vA), .int .i64 (p.lH), .int .i64 (p.lA), .int .i64 (p.pH), .int .i64 (p.pA)] 89 ∧ Mine 54 B wx (.slice (some ⟨g, 0, none⟩) p.cells.length cp) (p.cells.set d.cell.toNat (less x d.n)) ∧ Below B w wx ∧ w.heap.size ≤ wx.heap.size ∧ w.heap.size < gx)
  case first =>
    go_region_held3 (fun w' => Blk w' s #[.slice (some ⟨g, 0, none⟩) p.cells.length cp, .int .i64 (p.bottles), .int .i64 (p.inH), .int .i64 (p.inA), .int .i64 (p.vH), .int .i64 (p.vA), .int .i64 (p.lH), .int .i64 (p.lA), .int .i64 (p.pH), .int .i64 (p.pA)] 89 ∧ Blk w' w.heap.size #[.int .u8 d.kind, .int .i64 d.cell, .int .i64 d.to, .int .i64 d.n] 43) ((refine ⟨?_, ?_⟩ <;> ((repeat (first | with_reducible assumption | with_reducible refine Blk.drew ?_ | with_reducible refine Blk.alloc ?_ _ | ((with_reducible refine Blk.other ?_ ?_ _); rotate_left 1; (focus (have e0 := hsX.lt; have e9 := r0.lt; have e3 := Below.size hw2; simp at e3; first | (simp; omega) | (simp at *; omega)))) | (with_reducible refine Besides.blk hbes2 (by decide) ?_) | with_reducible refine Blk.keep ?_ (by with_reducible assumption))); done))) (first | (go_at_call 67; (with_reducible refine (HOUT _ ?_).mono ?_); (focus (repeat (first | with_reducible assumption | with_reducible refine Mine.drew ?_ | with_reducible refine Mine.alloc ?_ _ | with_reducible refine Mine.keep ?_ (by with_reducible assumption)))); rintro e w2 ⟨rfl, hm2, hw2, hbes2⟩; have hbB : Below B X w2 := (by first | exact ((Below.refl B X).drew).trans hw2 | exact (((Below.refl B X).alloc (by have e0 := hkX.size; omega) _).drew).trans hw2); have hsB : Blk w2 s #[.slice (some ⟨g, 0, none⟩) p.cells.length cp, .int .i64 (p.bottles), .int .i64 (p.inH), .int .i64 (p.inA), .int .i64 (p.vH), .int .i64 (p.vA), .int .i64 (p.lH), .int .i64 (p.lA), .int .i64 (p.pH), .int .i64 (p.pA)] 89 := (by (repeat (first | with_reducible assumption | with_reducible refine Blk.drew ?_ | with_reducible refine Blk.alloc ?_ _ | (with_reducible refine Besides.blk hbes2 (by decide) ?_) | with_reducible refine Blk.keep ?_ (by with_reducible assumption)))); have r0B : Blk w2 w.heap.size #[.int .u8 d.kind, .int .i64 d.cell, .int .i64 d.to, .int .i64 d.n] 43 := (by (repeat (first | with_reducible assumption | with_reducible refine Blk.drew ?_ | with_reducible refine Blk.alloc ?_ _ | (with_reducible refine Besides.blk hbes2 (by decide) ?_) | with_reducible refine Blk.keep ?_ (by with_reducible assumption)))); have hzB := hbB.size; (first | (refine Besides.thru (b := X.heap.size) (arr := ?_) (t := ?_) ?_ hbes2 ?_ ?_; rotate_left 2; (focus ((repeat with_reducible refine Blk.drew ?_); exact Blk.new' (by first | rfl | (simp; done)))); (focus decide); intro x2; have x2c0 := x2.cell 0; have x2f0 := x2.free 0; have x2c1 := x2.cell 1; have x2f1 := x2.free 1; have x2l := x2.lt; simp at x2c0 x2c1) | skip)) | fail)
    all_goals (go_wp2_with fail; go_meet)
    all_goals
      have e9 := r0.lt
      have e8 := hs.lt
      have ey := hkX.size
      have eb := hbB.size
    · exact ⟨_, rfl, rfl, Blk.new, hsB.alloc _, hm2.alloc _, ((hkX.mono hBw).trans hbB).alloc (by omega) _, by simp; omega, by omega⟩
    · exact ⟨_, rfl, rfl, (x2.set 0 _).set 1 _, (hsB.other (by simp; omega) _).other (by simp; omega) _, (hm2.other x2 (by decide) _).other (x2.set 0 _) (by decide) _, (((hkX.mono hBw).trans hbB).setCell (by simp; omega) _).setCell (by simp; omega) _, by simp [World.setCell]; omega, by omega⟩
  case rest =>
    clear hkX r0 hsX hmX hsk0 hsf0 hsk1 hsf1 hsk2 hsf2 hsk3 hsf3 hsk4 hsf4 hsk5 hsf5 hsk6 hsf6 hsk7 hsf7 hsk8 hsf8 hsk9 hsf9 hdk0 hdf0 hdk1 hdf1 hdk2 hdf2 hdk3 hdf3
    obtain ⟨gx, rfl, rfl, x0, hsX, hmX, hbX, hzX, hgx⟩ := hcut
    go_upto_region 4 with fail
    refine at_world (S := fun X => Blk X gx #[.int .i64 S, .int .i64 (d.n - S)] 24 ∧ Blk X s #[.slice (some ⟨g, 0, none⟩) p.cells.length cp, .int .i64 (p.bottles), .int .i64 (p.inH), .int .i64 (p.inA), .int .i64 (p.vH), .int .i64 (p.vA), .int .i64 (p.lH), .int .i64 (p.lA), .int .i64 (p.pH), .int .i64 (p.pA)] 89 ∧ Mine 54 B X (.slice (some ⟨g, 0, none⟩) p.cells.length cp) (p.cells.set d.cell.toNat (less x d.n)) ∧ Below B w X ∧ w.heap.size ≤ X.heap.size) ⟨x0, hsX, hmX, hbX, hzX⟩ ?_
    rintro X ⟨x0, hsX, hmX, hbX, hzX⟩
    obtain ⟨hj, hyj⟩ := List.getElem?_eq_some_iff.1 HY.out
    obtain ⟨_, cur, hge, _, hcur, c0, c1, c2, c3, c4, c5, c6⟩ := hmX.at hj
    cases hge
    rw [hyj] at c0 c1 c2 c3 c4 c5 c6
    clear hyj
    have y1 := fun q : Later X => q.some c1
    have y2 := fun q : Later X => q.some c2
    clear c0 c1 c2 c3 c4 c5 c6
    have x0c0 := fun g : Later X => (x0.later g).cell 0
    have x0f0 := fun g : Later X => (x0.later g).free 0
    have x0c1 := fun g : Later X => (x0.later g).cell 1
    have x0f1 := fun g : Later X => (x0.later g).free 1
    have x0l := fun g : Later X => (x0.later g).lt
    simp at x0c0 x0c1
    refine Later.tail 9 (by kernel_rfl) (by kernel_rfl) ?_
    simp only [List.take_succ_cons, List.take_zero, List.drop_succ_cons, List.drop_zero]
    repeat (first | go_big_quiet_skip | (go_big_quiet_want; go_big_quiet_op; first | go_big_quiet_on | (apply Exists.intro; refine ⟨fun g_ => ?_, ?_⟩; (focus (first | fail)); go_big_quiet_on)))
    refine wpQuiet_nil ?_
    intro gh
    refine wpList_plain rfl fun K1 hK1 => ?_
    have z1 := y1 gh
    have z2 := y2 gh
    have hcg := hcur.later gh
    have zf := hcg.free (d.to.toNat * 7 + 1)
    clear x0c0 x0f0 x0c1 x0f1 x0l
    go_wp2
    refine at_world (S := fun Y => Blk Y gx #[.int .i64 S, .int .i64 (d.n - S)] 24 ∧ Blk Y s #[.slice (some ⟨g, 0, none⟩) p.cells.length cp, .int .i64 (p.bottles), .int .i64 (p.inH), .int .i64 (p.inA), .int .i64 (p.vH), .int .i64 (p.vA), .int .i64 (p.lH), .int .i64 (p.lA), .int .i64 (p.pH), .int .i64 (p.pA)] 89 ∧ Mine 54 B Y (.slice (some ⟨g, 0, none⟩) p.cells.length cp) ((p.cells.set d.cell.toNat (less x d.n)).set d.to.toNat { y with helium := y.helium + S }) ∧ Below B w Y ∧ w.heap.size ≤ Y.heap.size) ⟨(x0.later gh).other (by simp; omega) _, (hsX.later gh).other (a := ⟨g, d.to.toNat * 7 + 1, none⟩) (fun he => by simp only at he; subst he; have := (hsX.later gh).symm.trans hcg; simp at this) _, (hmX.keep gh.ok).put (i := d.to.toNat) (j := 1) (c := y) (u := .int .i64 (y.helium + S)) { y with helium := y.helium + S } HY.out (by decide) rfl, (hbX.trans (gh.ok.mono (by omega))).setCell hBg _, Nat.le_trans hzX (Nat.le_trans gh.ok.size (by simp))⟩ ?_
    rintro Y ⟨x0, hsY, hmY, hbY, hzY⟩
    obtain ⟨_, cuy, hge, _, hcy, _, _, c2, _⟩ := hmY.at (i := d.to.toNat) (by simpa using hj)
    cases hge
    rw [List.getElem_set_self] at c2
    have y2 := fun q : Later Y => q.some c2
    clear c2
    have x0c0 := fun g : Later Y => (x0.later g).cell 0
    have x0f0 := fun g : Later Y => (x0.later g).free 0
    have x0c1 := fun g : Later Y => (x0.later g).cell 1
    have x0f1 := fun g : Later Y => (x0.later g).free 1
    have x0l := fun g : Later Y => (x0.later g).lt
    simp at x0c0 x0c1
    refine Later.tail 9 (by kernel_rfl) (by kernel_rfl) ?_
    simp only [List.take_succ_cons, List.take_zero, List.drop_succ_cons, List.drop_zero]
    repeat (first | go_big_quiet_skip | (go_big_quiet_want; go_big_quiet_op; first | go_big_quiet_on | (apply Exists.intro; refine ⟨fun g_ => ?_, ?_⟩; (focus (first | fail)); go_big_quiet_on)))
    refine wpQuiet_nil ?_
    intro gi
    refine wpList_plain rfl fun K1 hK1 => ?_
    have z2 := y2 gi
    have hcg := hcy.later gi
    have zf := hcg.free (d.to.toNat * 7 + 2)
    clear x0c0 x0f0 x0c1 x0f1 x0l
    go_wp2
    go_end0
    refine ⟨rfl, ⟨hB, ?_, ?_⟩, ?_⟩
    · exact ((hsY.later gi).other (a := ⟨g, d.to.toNat * 7 + 2, none⟩) (fun he => by simp only at he; subst he; have := (hsY.later gi).symm.trans hcg; simp at this) _).cast (by simp [plantCells, moveP, lessP])
    · have q := (hmY.keep gi.ok).put (i := d.to.toNat) (j := 2) (c := { y with helium := y.helium + S }) (u := .int .i64 (y.air + (d.n - S))) { y with helium := y.helium + S, air := y.air + (d.n - S) } (List.getElem?_set_self (by simpa using hj)) (by decide) rfl
      rw [List.set_set] at q
      have hyc : cellAt (lessP p d) d.to.toNat = y := by
        have := HY.out
        simp [cellAt, lessP, HAT.out, this]
      have e : (moveP p d).cells = ((p.cells.set d.cell.toNat (less x d.n)).set d.to.toNat { y with helium := y.helium + S, air := y.air + (d.n - S) }) := by
        show (lessP p d).cells.set _ (more (cellAt (lessP p d) d.to.toNat) (shareH (at_ p d) d.n) (d.n - shareH (at_ p d) d.n)) = _
        rw [hyc, HAT.out, HSS.out]
        simp [lessP, HAT.out, more]
      have el : (moveP p d).cells.length = p.cells.length := by rw [e]; simp
      rw [el, e]
      exact q
    · exact (hbY.trans (gi.ok.mono (by omega))).setCell hBg _

end Go.Proofs.Ytnfhcpnpjkefmaa

/-
  Ticks: each cell leaks.
-/
namespace Go.Proofs.Ytnfhcpnpjkefmaa
open Go.RowKit Bal Bal.Trim Bal.Gas
set_option linter.unusedVariables false
set_option linter.unusedSimpArgs false
set_option maxHeartbeats 8000000
set_option maxRecDepth 100000

theorem f_tick_no {B s cp : Nat} {ad : Option Addr} {p : Plant} {w : World} (d : Deed) (h : Shop 54 89 B w s ad cp p) (hp : plantB p = true) (he : rng [d.n] 1 1000 = false) : Calls Try.prog 32 #[.pointer (some ⟨s, 0, none⟩), .agg #[.int .u8 d.kind, .int .i64 d.cell, .int .i64 d.to, .int .i64 d.n]] w fun e w' => e = .panicked [{ v := refusal 2, recovered := false }] ∧ Kept w w' := by
  have H1 := Lib.hid he
  clear he
  go_enter Try.func32, Try.ntmps32
  go_wp2_with (first | (go_at_call 34; (with_reducible refine (f_ranged1 _ _ d.n _ _ _ (by simp)).mono ?_); rw [H1.out]; rintro e w1 ⟨rfl, rfl⟩) | (go_at_call 33; (with_reducible refine (f_need_no _ _).mono ?_); rintro e w1 ⟨rfl, rfl⟩))
  exact ⟨rfl, rfl, by (exact kpt)⟩
theorem f_outY {B cp g n0 : Nat} {xs : List Cell} {w : World} (h : Mine 54 B w (.slice (some ⟨g, 0, none⟩) n0 cp) xs) {i : Nat} {x : Cell} (hx : xs[i]? = some x) (hc : okC x) (n : Int) (h0 : 1 ≤ n) (h1 : n ≤ x.helium + x.air) :
    Calls Try.prog 67 #[.pointer (some ⟨g, i * 7, none⟩), .int .i64 n] w fun e w' => e = .returned (.agg #[.int .i64 (shareH x n), .int .i64 (n - shareH x n)]) ∧
      Mine 54 B w' (.slice (some ⟨g, 0, none⟩) n0 cp) (xs.set i (less x n)) ∧ Below B w w' ∧ Besides 54 w w' := by
  obtain rfl := h.row.1
  exact f_outX h hx hc n h0 h1
theorem less_zero (x : Cell) : less x 0 = x := by simp [less, shareH]
theorem leak_small {x : Cell} (h0 : 0 ≤ x.owed + (x.helium + x.air) * x.leak) (h : ¬ 0 < leakN x) : leakN x = 0 ∧ leakC x = { x with owed := x.owed + (x.helium + x.air) * x.leak } := by
  have hz : leakN x = 0 := by unfold leakN at *; omega
  refine ⟨hz, ?_⟩
  have hm : (x.owed + (x.helium + x.air) * x.leak) % 1000000 = x.owed + (x.helium + x.air) * x.leak := by unfold leakN at hz; omega
  unfold leakC
  rw [hz, less_zero, hm]
theorem f_tick_ok {B s cp : Nat} {ad : Option Addr} {p : Plant} {w : World} (d : Deed) (h : Shop 54 89 B w s ad cp p) (hp : plantB p = true) (he : rng [d.n] 1 1000 = true) : Calls Try.prog 32 #[.pointer (some ⟨s, 0, none⟩), .agg #[.int .u8 d.kind, .int .i64 d.cell, .int .i64 d.to, .int .i64 d.n]] w fun e w' => e = .returned (.tuple #[]) ∧ Shop 54 89 B w' s ad cp (tickP p d) ∧ Below B w w' := by
  have hn : 1 ≤ d.n ∧ d.n ≤ 1000 := by simpa [rng, inB] using he
  have H1 := Lib.hid he
  have HP := Lib.hid hp
  have hn12 : p.cells.length ≤ 12 := (plantB_iff.1 hp).1
  clear he hp
  obtain ⟨hB, hs, hm⟩ := h
  have hBw : B ≤ w.heap.size := by have := hs.lt; omega
  obtain ⟨N, hN⟩ : ∃ N : Nat, d.n = N := ⟨d.n.toNat, by omega⟩
  have HN := Lib.hid (show d.n.toNat = N by omega)
  have HNI := Lib.hid hN
  have hN1 : N ≤ 1000 := by omega
  clear hN
  have HLEN := Lib.hid (fun j => ticks_len p j)
  have HLEK := Lib.hid (fun j k => (tickTo_len (ticks p j) k).trans (ticks_len p j))
  have HBK := Lib.hid (fun j k (hk : k ≤ p.cells.length) => tickTo_B (ticks_B HP.out j) k (by rw [ticks_len]; exact hk))
  go_enter Try.func32, Try.ntmps32
  go_upto_region 3 with (first | (go_at_call 34; (with_reducible refine (f_ranged1 _ _ d.n _ _ _ (by simp)).mono ?_); rw [H1.out]; rintro e w1 ⟨rfl, rfl⟩) | (go_at_call 33; (with_reducible refine (f_need_ok _ _).mono ?_); rintro e w1 ⟨rfl, rfl⟩))
  rw [HNI.out]
  refine at_world (S := fun W => Blk W s #[.slice ad p.cells.length cp, .int .i64 (p.bottles), .int .i64 (p.inH), .int .i64 (p.inA), .int .i64 (p.vH), .int .i64 (p.vA), .int .i64 (p.lH), .int .i64 (p.lA), .int .i64 (p.pH), .int .i64 (p.pA)] 89 ∧ Mine 54 B W (.slice ad p.cells.length cp) p.cells ∧ Below B w W ∧ w.heap.size ≤ W.heap.size) ⟨hs.keep (by (exact kpt)), hm.keep (by (exact kpt)), by (repeat (first | with_reducible exact Below.refl _ _ | with_reducible refine Below.drew ?_ | ((with_reducible refine Below.alloc ?_ ?_ _); rotate_left 1; (focus (first | omega | (simp; omega)))))), by simp; omega⟩ ?_
  rintro W ⟨r0, hmW, hbW, hzW⟩
  go_loopw [14] (fun i wr => ∃ j : Nat, j ≤ N ∧ i = .int .i64 j ∧ Blk wr s #[.slice ad p.cells.length cp, .int .i64 ((ticks p j).bottles), .int .i64 ((ticks p j).inH), .int .i64 ((ticks p j).inA), .int .i64 ((ticks p j).vH), .int .i64 ((ticks p j).vA), .int .i64 ((ticks p j).lH), .int .i64 ((ticks p j).lA), .int .i64 ((ticks p j).pH), .int .i64 ((ticks p j).pA)] 89 ∧ Mine 54 B wr (.slice ad p.cells.length cp) (ticks p j).cells ∧ Below B w wr ∧ w.heap.size ≤ wr.heap.size) (fun i _ => N - (intOf i).toNat)
  case atStart => exact ⟨0, Nat.zero_le _, rfl, r0, hmW, hbW, hzW⟩
  case round =>
    clear r0 hmW hbW hzW
    obtain ⟨j, hj, rfl, r0, hmW, hbW, hzW⟩ := hrel
    by_cases hlt : j < N
    · have r0c0 := r0.cell 0
      have r0f0 := r0.free 0
      have r0c1 := r0.cell 1
      have r0f1 := r0.free 1
      have r0c2 := r0.cell 2
      have r0f2 := r0.free 2
      have r0c3 := r0.cell 3
      have r0f3 := r0.free 3
      have r0c4 := r0.cell 4
      have r0f4 := r0.free 4
      have r0c5 := r0.cell 5
      have r0f5 := r0.free 5
      have r0c6 := r0.cell 6
      have r0f6 := r0.free 6
      have r0c7 := r0.cell 7
      have r0f7 := r0.free 7
      have r0c8 := r0.cell 8
      have r0f8 := r0.free 8
      have r0c9 := r0.cell 9
      have r0f9 := r0.free 9
      have r0l := r0.lt
      simp at r0c0 r0c1 r0c2 r0c3 r0c4 r0c5 r0c6 r0c7 r0c8 r0c9
      go_wp2
      go_loopw [22] (fun i wq => ∃ k : Nat, k ≤ p.cells.length ∧ i = .int .i64 k ∧ Blk wq s #[.slice ad p.cells.length cp, .int .i64 ((tickTo (ticks p j) k).bottles), .int .i64 ((tickTo (ticks p j) k).inH), .int .i64 ((tickTo (ticks p j) k).inA), .int .i64 ((tickTo (ticks p j) k).vH), .int .i64 ((tickTo (ticks p j) k).vA), .int .i64 ((tickTo (ticks p j) k).lH), .int .i64 ((tickTo (ticks p j) k).lA), .int .i64 ((tickTo (ticks p j) k).pH), .int .i64 ((tickTo (ticks p j) k).pA)] 89 ∧ Mine 54 B wq (.slice ad p.cells.length cp) (tickTo (ticks p j) k).cells ∧ Below B w wq ∧ w.heap.size ≤ wq.heap.size) (fun i _ => p.cells.length - (intOf i).toNat)
      case atStart => exact ⟨0, Nat.zero_le _, rfl, r0, hmW, hbW, hzW⟩
      case round =>
        clear r0c0 r0f0 r0c1 r0f1 r0c2 r0f2 r0c3 r0f3 r0c4 r0f4 r0c5 r0f5 r0c6 r0f6 r0c7 r0f7 r0c8 r0f8 r0c9 r0f9 r0l r0 hmW hbW hzW
        obtain ⟨k, hk, rfl, r0, hmW, hbW, hzW⟩ := hrel
        have hqB := HBK.out j k hk
        have hql := HLEK.out j k
        have HNX := Lib.hid (show tickTo (ticks p j) (k + 1) = leakAt (tickTo (ticks p j) k) k from rfl)
        obtain ⟨q, hq⟩ : ∃ q, q = tickTo (ticks p j) k := ⟨_, rfl⟩
        rw [← hq] at r0 hmW hqB hql HNX
        by_cases hlk : k < p.cells.length
        · have hkq : k < q.cells.length := by omega
          clear hq
          have hb := plantB_iff.1 hqB
          have hcv : cellB q.cells[k] = true := hb.2.2.2.2.2.2.1 _ (List.getElem_mem hkq)
          have hat : cellAt q k = q.cells[k] := cellAt_get hkq
          obtain ⟨g, cur, rfl, hBg, hcur, c0, c1, c2, c3, c4, c5, c6⟩ := hmW.at hkq
          obtain ⟨x, hx⟩ : ∃ x, x = q.cells[k] := ⟨_, rfl⟩
          have HX := Lib.hid (show q.cells[k]? = some x by rw [hx]; simp [hkq])
          rw [← hx] at hcv hat c0 c1 c2 c3 c4 c5 c6
          have HAT := Lib.hid hat
          have hxb := cellB_iff.1 hcv
          have hlb := leak_bd hcv
          have HOK := Lib.hid (okC_of hcv)
          have hsmall := Lib.hid (fun h : ¬ 0 < leakN x => leak_small hlb.1.1 h)
          obtain ⟨_, _, _, _, ⟨⟨hb6, hb7⟩, ⟨hb8, hb9⟩⟩, _⟩ := hb
          clear hcv hat hx hqB
          have w1 := i64_inx (n := x.helium + x.air) (by omega)
          have w2 := i64_inx (n := (x.helium + x.air) * x.leak) (by omega)
          have w3 := i64_inx (n := x.owed + (x.helium + x.air) * x.leak) (by omega)
          obtain ⟨PR, hPR⟩ : ∃ y, y = (x.helium + x.air) * x.leak := ⟨_, rfl⟩
          obtain ⟨SUM, hSUM⟩ : ∃ y, y = x.owed + PR := ⟨_, rfl⟩
          have HSU := Lib.hid (show x.owed + (x.helium + x.air) * x.leak = SUM by rw [hSUM, hPR])
          have HPR := Lib.hid (show (x.helium + x.air) * x.leak = PR from hPR.symm)
          have HSM := Lib.hid (show x.owed + PR = SUM from hSUM.symm)
          rw [HSU.out] at hlb hsmall
          clear hSUM hPR
          have HL := Lib.hid (show SUM / 1000000 = leakN x by unfold leakN; rw [HSU.out])
          obtain ⟨L, hL⟩ : ∃ y, y = leakN x := ⟨_, rfl⟩
          rw [← hL] at hlb hsmall HL
          obtain ⟨hlb1, hlb2, hlb3, hlb4⟩ := hlb
          have HLL := Lib.hid hL
          clear hL
          have r0c0 := r0.cell 0
          have r0f0 := r0.free 0
          have r0c1 := r0.cell 1
          have r0f1 := r0.free 1
          have r0c2 := r0.cell 2
          have r0f2 := r0.free 2
          have r0c3 := r0.cell 3
          have r0f3 := r0.free 3
          have r0c4 := r0.cell 4
          have r0f4 := r0.free 4
          have r0c5 := r0.cell 5
          have r0f5 := r0.free 5
          have r0c6 := r0.cell 6
          have r0f6 := r0.free 6
          have r0c7 := r0.cell 7
          have r0f7 := r0.free 7
          have r0c8 := r0.cell 8
          have r0f8 := r0.free 8
          have r0c9 := r0.cell 9
          have r0f9 := r0.free 9
          have r0l := r0.lt
          simp at r0c0 r0c1 r0c2 r0c3 r0c4 r0c5 r0c6 r0c7 r0c8 r0c9
          go_upto_region 8 with fail
          clear r0c0 r0f0 r0c1 r0f1 r0c2 r0f2 r0c3 r0f3 r0c4 r0f4 r0c5 r0f5 r0c6 r0f6 r0c7 r0f7 r0c8 r0f8 r0c9 r0f9 r0l
          refine at_world (S := fun X => Blk X s #[.slice (some ⟨g, 0, none⟩) p.cells.length cp, .int .i64 (q.bottles), .int .i64 (q.inH), .int .i64 (q.inA), .int .i64 (q.vH), .int .i64 (q.vA), .int .i64 (q.lH), .int .i64 (q.lA), .int .i64 (q.pH), .int .i64 (q.pA)] 89 ∧ Mine 54 B X (.slice (some ⟨g, 0, none⟩) p.cells.length cp) q.cells ∧ Below B w X ∧ w.heap.size ≤ X.heap.size ∧ Blk X g cur 54 ∧ X.cell? ⟨g, k * 7, none⟩ = some (.int .i64 x.room) ∧ X.cell? ⟨g, k * 7 + 1, none⟩ = some (.int .i64 x.helium) ∧ X.cell? ⟨g, k * 7 + 2, none⟩ = some (.int .i64 x.air) ∧ X.cell? ⟨g, k * 7 + 3, none⟩ = some (.int .i64 x.wlo) ∧ X.cell? ⟨g, k * 7 + 4, none⟩ = some (.int .i64 x.whi) ∧ X.cell? ⟨g, k * 7 + 5, none⟩ = some (.int .i64 x.leak) ∧ X.cell? ⟨g, k * 7 + 6, none⟩ = some (.int .i64 x.owed)) ⟨r0, hmW, hbW, hzW, hcur, c0, c1, c2, c3, c4, c5, c6⟩ ?_
          clear r0 hmW hbW hzW hcur c0 c1 c2 c3 c4 c5 c6
          rintro X ⟨r1, hmX, hbX, hzX, hcur, c0, c1, c2, c3, c4, c5, c6⟩
          clear c0 c3 c4
          have y1 := fun q : Later X => q.some c1
          have y2 := fun q : Later X => q.some c2
          have y5 := fun q : Later X => q.some c5
          have y6 := fun q : Later X => q.some c6
          clear c1 c2 c5 c6
          refine Later.tail 21 (by kernel_rfl) (by kernel_rfl) ?_
          simp only [List.take_succ_cons, List.take_zero, List.drop_succ_cons, List.drop_zero]
          repeat (first | go_big_quiet_skip | (go_big_quiet_want; go_big_quiet_op; first | go_big_quiet_on | (apply Exists.intro; refine ⟨fun g_ => ?_, ?_⟩; (focus (first | fail)); go_big_quiet_on)))
          refine wpQuiet_nil ?_
          intro gg
          refine wpList_plain rfl fun K1 hK1 => ?_
          have z6 := y6 gg
          have hcg := hcur.later gg
          have zf := hcg.free (k * 7 + 6)
          clear w1 w2 w3
          go_upto_region 9 with fail
          rw [HSU.out]
          have HCO := Lib.hid (show (gg.val.setCell ⟨g, k * 7 + 6, none⟩ (.int .i64 SUM)).heap.size = gg.val.heap.size by simp [World.setCell])
          refine at_world (S := fun Y => Blk Y s #[.slice (some ⟨g, 0, none⟩) p.cells.length cp, .int .i64 (q.bottles), .int .i64 (q.inH), .int .i64 (q.inA), .int .i64 (q.vH), .int .i64 (q.vA), .int .i64 (q.lH), .int .i64 (q.lA), .int .i64 (q.pH), .int .i64 (q.pA)] 89 ∧ Mine 54 B Y (.slice (some ⟨g, 0, none⟩) p.cells.length cp) (q.cells.set k { x with owed := SUM }) ∧ Below B w Y ∧ w.heap.size ≤ Y.heap.size) ⟨(r1.later gg).other (a := ⟨g, k * 7 + 6, none⟩) (fun he => by simp only at he; subst he; have := (r1.later gg).symm.trans hcg; simp at this) _, (hmX.keep gg.ok).put (i := k) (j := 6) (c := x) (u := .int .i64 SUM) { x with owed := SUM } HX.out (by decide) rfl, (hbX.trans (gg.ok.mono (by omega))).setCell hBg _, by rw [HCO.out]; exact Nat.le_trans hzX gg.ok.size⟩ ?_
          rintro Y ⟨r1, hmY, hbY, hzY⟩
          clear z6 zf hcg
          have hkY : k < (q.cells.set k { x with owed := SUM }).length := by simpa using hkq
          have HXY := Lib.hid (show (q.cells.set k { x with owed := SUM })[k]? = some { x with owed := SUM } from List.getElem?_set_self hkq)
          obtain ⟨_, cuy, hge, _, hcy, _, _, _, _, _, _, c6⟩ := hmY.at hkY
          cases hge
          rw [List.getElem_set_self] at c6
          have hqq := HL.out
          by_cases hpos : 0 < L
          · have hlt1 : decide (0 < L) = true := by simp [hpos]
            obtain ⟨s0, s1, s2, s3⟩ := share_bd HOK.out (show 0 ≤ L by omega) hlb4
            obtain ⟨T, hT⟩ : ∃ T, T = shareH x L := ⟨_, rfl⟩
            have HTT := Lib.hid (show shareH x L = T from hT.symm)
            have HOUT := fun (W : World) (h : Mine 54 B W (.slice (some ⟨g, 0, none⟩) p.cells.length cp) (q.cells.set k { x with owed := SUM })) => f_outY h HXY.out (show okC { x with owed := SUM } from HOK.out) L (show 1 ≤ L by omega) hlb4
            rw [show shareH { x with owed := SUM } L = T from hT.symm] at HOUT
            rw [← hT] at s0 s1 s2 s3
            clear hT
            go_upto_region 11 with fail
            try rw [HL.out]
            clear hqq c6 hlt1
            refine at_world (S := fun X => Blk X s #[.slice (some ⟨g, 0, none⟩) p.cells.length cp, .int .i64 (q.bottles), .int .i64 (q.inH), .int .i64 (q.inA), .int .i64 (q.vH), .int .i64 (q.vA), .int .i64 (q.lH), .int .i64 (q.lA), .int .i64 (q.pH), .int .i64 (q.pA)] 89 ∧ Mine 54 B X (.slice (some ⟨g, 0, none⟩) p.cells.length cp) (q.cells.set k { x with owed := SUM }) ∧ Below B w X ∧ w.heap.size ≤ X.heap.size) ⟨r1, hmY, hbY, hzY⟩ ?_
            rintro X ⟨r1, hmX, hbX, hzX⟩
            refine held_walk (fun w' => Blk w' s #[.slice (some ⟨g, 0, none⟩) p.cells.length cp, .int .i64 (q.bottles), .int .i64 (q.inH), .int .i64 (q.inA), .int .i64 (q.vH), .int .i64 (q.vA), .int .i64 (q.lH), .int .i64 (q.lA), .int .i64 (q.pH), .int .i64 (q.pA)] 89) [(true, 0), (true, 1), (true, 2), (true, 3), (true, 4), (true, 5), (true, 6), (true, 7), (false, 8), (false, 9), (true, 10), (true, 11), (true, 12), (false, 13)] 13 (by kernel_rfl) (by kernel_rfl) (fun c a d v w h => by cases d <;> exact h) r1.drew ?_
            simp only [List.filterMap_cons, List.filterMap_nil, List.getElem?_cons_zero, List.getElem?_cons_succ, Option.map_some]
            iterate 8 ((first | (refine held_take ?_ ?_ (fun w' hS => ?_) ?_; rotate_left 1; (focus rfl); (focus (first | (go_simp; done) | (go_simp; with_reducible rfl) | (obtain hS := hS; have k0 := hS.cell 0; have k1 := hS.cell 1; have k2 := hS.cell 2; have k3 := hS.cell 3; have k4 := hS.cell 4; have k5 := hS.cell 5; have k6 := hS.cell 6; have k7 := hS.cell 7; have k8 := hS.cell 8; have k9 := hS.cell 9; simp at k0 k1 k2 k3 k4 k5 k6 k7 k8 k9; first | (go_simp; done) | (go_simp; with_reducible rfl))))) | (refine held_pass ?_ ?_; (focus rfl))); simp only [Act.put, List.setIfInBounds_toArray, List.set_cons_zero, List.set_cons_succ])
            refine held_one ?_
            refine wpList_plain rfl fun K1 hK1 => ?_
            go_wp2_with (go_at_call 67; (with_reducible refine (HOUT _ hmX.drew).mono ?_); rintro e w2 ⟨rfl, hm2, hw2, hbes2⟩)
            refine held_on (Besides.blk hbes2 (by decide) r1.drew) ?_
            refine held_one ?_
            refine wpList_plain rfl fun K1 hK1 => ?_
            go_wp2_with (go_at_call 64; (with_reducible refine (f_plus _ _ _ _ _ (by omega) (by omega) (by omega) (by omega)).mono ?_); rintro e w3 ⟨rfl, hb3⟩)
            refine held_on ((Besides.blk hbes2 (by decide) r1.drew).keep hb3) ?_
            iterate 3 ((first | (refine held_take ?_ ?_ (fun w' hS => ?_) ?_; rotate_left 1; (focus rfl); (focus (first | (go_simp; done) | (go_simp; with_reducible rfl) | (obtain hS := hS; have k0 := hS.cell 0; have k1 := hS.cell 1; have k2 := hS.cell 2; have k3 := hS.cell 3; have k4 := hS.cell 4; have k5 := hS.cell 5; have k6 := hS.cell 6; have k7 := hS.cell 7; have k8 := hS.cell 8; have k9 := hS.cell 9; simp at k0 k1 k2 k3 k4 k5 k6 k7 k8 k9; first | (go_simp; done) | (go_simp; with_reducible rfl))))) | (refine held_pass ?_ ?_; (focus rfl))); simp only [Act.put, List.setIfInBounds_toArray, List.set_cons_zero, List.set_cons_succ])
            refine held_one ?_
            refine wpList_plain rfl fun K1 hK1 => ?_
            have z1 : Blk w3 s #[.slice (some ⟨g, 0, none⟩) p.cells.length cp, .int .i64 (q.bottles), .int .i64 (q.inH), .int .i64 (q.inA), .int .i64 (q.vH), .int .i64 (q.vA), .int .i64 (q.lH), .int .i64 (q.lA), .int .i64 (q.pH), .int .i64 (q.pA)] 89 := (Besides.blk hbes2 (by decide) r1.drew).keep hb3
            have z1c0 := z1.cell 0
            have z1f0 := z1.free 0
            have z1c1 := z1.cell 1
            have z1f1 := z1.free 1
            have z1c2 := z1.cell 2
            have z1f2 := z1.free 2
            have z1c3 := z1.cell 3
            have z1f3 := z1.free 3
            have z1c4 := z1.cell 4
            have z1f4 := z1.free 4
            have z1c5 := z1.cell 5
            have z1f5 := z1.free 5
            have z1c6 := z1.cell 6
            have z1f6 := z1.free 6
            have z1c7 := z1.cell 7
            have z1f7 := z1.free 7
            have z1c8 := z1.cell 8
            have z1f8 := z1.free 8
            have z1c9 := z1.cell 9
            have z1f9 := z1.free 9
            have z1l := z1.lt
            simp at z1c0 z1c1 z1c2 z1c3 z1c4 z1c5 z1c6 z1c7 z1c8 z1c9
            go_wp2
            (first | refine held_end ?_ | (refine onward_on ?_; first | refine held_nil ?_ | refine ⟨.inl trivial, held_nil ?_⟩ | refine ⟨.inl rfl, held_nil ?_⟩))
            go_upto_region 12 with fail
            have e1 : X.heap.size ≤ w2.heap.size := hw2.size
            have e2 := hb3.size
            refine at_world (S := fun Z => Blk Z s #[.slice (some ⟨g, 0, none⟩) p.cells.length cp, .int .i64 (q.bottles), .int .i64 (q.inH), .int .i64 (q.inA), .int .i64 (q.vH), .int .i64 (q.vA), .int .i64 (q.lH + T), .int .i64 (q.lA + (L - T)), .int .i64 (q.pH), .int .i64 (q.pA)] 89 ∧ Mine 54 B Z (.slice (some ⟨g, 0, none⟩) p.cells.length cp) ((q.cells.set k { x with owed := SUM }).set k (less { x with owed := SUM } L)) ∧ Below B w Z ∧ w.heap.size ≤ Z.heap.size) ⟨(z1.set 6 _).set 7 _, ((hm2.keep hb3).other z1 (by decide) _).other (z1.set 6 _) (by decide) _, (((((hbX.drew).trans hw2).trans (hb3.mono (by omega))).setCell hB _).setCell hB _), by simp [World.setCell]; omega⟩ ?_
            rintro Z ⟨r1, hmZ, hbZ, hzZ⟩
            clear z1c0 z1f0 z1c1 z1f1 z1c2 z1f2 z1c3 z1f3 z1c4 z1f4 z1c5 z1f5 z1c6 z1f6 z1c7 z1f7 z1c8 z1f8 z1c9 z1f9 z1l
            have hkZ : k < ((q.cells.set k { x with owed := SUM }).set k (less { x with owed := SUM } L)).length := by simpa using hkq
            obtain ⟨_, cuz, hge, _, hcz, _, _, _, _, _, _, c6⟩ := hmZ.at hkZ
            cases hge
            rw [List.getElem_set_self] at c6
            have d6 : Z.cell? ⟨g, k * 7 + 6, none⟩ = some (.int .i64 SUM) := c6
            clear c6
            have zf := hcz.free (k * 7 + 6)
            go_wp2
            go_roundw
            case rel =>
              refine ⟨k + 1, by omega, by go_num, ?_, ?_, hbZ.setCell hBg _, by simpa [World.setCell] using hzZ⟩
              · rw [HNX.out]
                exact (r1.other (a := ⟨g, k * 7 + 6, none⟩) (fun he => by simp only at he; subst he; have := r1.symm.trans hcz; simp at this) _).cast (by simp [leakAt, HAT.out, ← HLL.out, HTT.out])
              · have q1 := hmZ.put (i := k) (j := 6) (c := less { x with owed := SUM } L) (u := .int .i64 (SUM % 1000000)) { less { x with owed := SUM } L with owed := SUM % 1000000 } (List.getElem?_set_self (by simpa using hkq)) (by decide) rfl
                rw [List.set_set, List.set_set] at q1
                rw [HNX.out]
                have e : leakC x = { less { x with owed := SUM } L with owed := SUM % 1000000 } := by
                  unfold leakC
                  rw [HSU.out, ← HLL.out]
                  rfl
                have ec : (leakAt q k).cells = q.cells.set k (leakC x) := by simp [leakAt, HAT.out]
                rw [ec, e]
                exact q1
            case measure => simp [intOf]; omega
          · have hlt1 : decide (0 < L) = false := by simp; omega
            obtain ⟨e1, e2⟩ := hsmall.out hpos
            have HL0 := Lib.hid e1
            have HE2 := Lib.hid e2
            clear e1 e2
            go_wp2
            go_roundw
            case rel => exact ⟨k + 1, by omega, by go_num, by rw [HNX.out]; exact r1.cast (by simp [leakAt, HAT.out, ← HLL.out, HL0.out, shareH]), by rw [HNX.out]; simpa [leakAt, HAT.out, HE2.out] using hmY, hbY, hzY⟩
            case measure => simp [intOf]; omega
        · obtain rfl : k = p.cells.length := by omega
          clear HNX
          go_wp2
          go_roundw
          case rel => exact ⟨j + 1, by omega, by go_num, by rw [hq] at r0; exact r0, by rw [hq] at hmW; exact hmW, hbW, hzW⟩
          case measure => simp [intOf]; omega
    · obtain rfl : j = N := by omega
      go_wp2
      go_end0
      exact ⟨rfl, ⟨hB, r0.cast (by simp [plantCells, tickP, HN.out, HLEN.out]), by simpa [tickP, HN.out, HLEN.out] using hmW⟩, hbW⟩

end Go.Proofs.Ytnfhcpnpjkefmaa

/-
  The reference: twins, ticks.
-/
namespace Go.Proofs.Ytnfhcpnpjkefmaa
open Go.RowKit Bal Bal.Trim Bal.Gas
set_option linter.unusedVariables false
set_option linter.unusedSimpArgs false
set_option maxHeartbeats 8000000
set_option maxRecDepth 100000

/-- THE COPY OF A LIST: append to an empty slice of the call's own; what is beside it stays -/
theorem wpList_copyO {α : Type} {enc : α → List Value} {P : Program} {w0 w : World} {ops : Array Oper} {rest : List Oper} {o : Oper} {a : Act} {Q : Exit → Act → World → Prop} (hgd : o.guard = none) (s x : Operand) (t : TypeId)
    (ho : o.op = .call { callee := .builtin .append, args := #[s, x], argTypes := #[t, t] })
    (base : Nat) (e : TypeId) (z : Value) (size bytes : Nat) (ht : P.underlying t = some (.slice e)) (hinfo : (P.info? e).map (fun i => (i.zero, i.size, i.bytes)) = some (some z, size, bytes))
    (hzs : z.cells.size = size) (hsz : 0 < size) (he : ∀ x : α, (enc x).length = size) (h1 : ∀ (x : α), ∀ u ∈ enc x, u.oneCell' = true)
    (n : Nat) (hn : n = w.heap.size) (hs : a.eval s = .slice (some ⟨n, 0, none⟩) 0 0)
    (ad : Option Addr) (c : Nat) (ys : List α) (hx : a.eval x = .slice ad ys.length c) (hc : ad = none → c = 0) (hrow : Row enc size w0.heap.size w0 ad ys) (hk : Kept w0 w) (hbase : base = w0.heap.size)
    (h63 : ys.length ≤ 1000000) (hbytes : bytes ≤ 100000)
    (h : ∀ ad' cp w', w'.ownsRow base e size (.slice ad' ys.length cp) ys.length (ys.flatMap enc) → (∀ b arr t', t' ≠ e → Blk w b arr t' → Blk w' b arr t') → Kept w0 w' → wpList P ops Q rest (a.put o.dst (.slice ad' ys.length cp)) w') :
    wpList P ops Q (o :: rest) a (w.alloc (.cells #[] e)) := by
  subst hbase
  obtain ⟨i, hi, hz, hsize, hby⟩ := info_parts hinfo
  have hsz0 := hk.size
  have hown0 : (w.alloc (.cells #[] e)).ownsRow w0.heap.size e size (.slice (some ⟨n, 0, none⟩) 0 0) ([] : List α).length (([] : List α).flatMap enc) := owns_made hn hsz0
  have hm : ys.length * bytes ≤ 1000000 * 100000 := Nat.mul_le_mul h63 hbytes
  refine wpList_append_list hgd s x t ho w0.heap.size e i z size bytes ht hi hz hsize hby hzs hsz he h1 _ [] hs hown0 ad c ys hx hc (hrow.keep (Kept.alloc hk _) (Nat.le_refl _)) (by simp [maxLen]; omega) (by simp; omega) (by show w0.heap.size ≤ (w.heap.push _).size; simp; omega) ?_
  intro v' w' hown hgrow
  have hk' : Kept w0 w' := Kept.grown (Kept.alloc hk _) hown0 (Nat.le_refl _) hgrow
  rw [List.nil_append] at hown
  obtain ⟨ad', cp', rfl, _⟩ := Row.of_owns he hown
  exact h ad' cp' w' hown (fun b arr t' hne hb => Blk.grown (hb.alloc _) hown0 hne hgrow) hk'

end Go.Proofs.Ytnfhcpnpjkefmaa

/-
  The program: Do, the closure that recovers.
-/
namespace Go.Proofs.Ytnfhcpnpjkefmaa
open Go.RowKit Bal Bal.Trim Bal.Gas
set_option linter.unusedVariables false
set_option linter.unusedSimpArgs false
set_option maxHeartbeats 8000000
set_option maxRecDepth 100000

theorem catch_idle (p q : Addr) (w : World) :
    CallsD Try.prog 25 #[.pointer (some p), .pointer (some q)] .returning w fun e u' w' => e = .returned (.tuple #[]) ∧ u' = .returning ∧ w' = w := by
  refine callsD_of_wpS Try.func25 rfl fun c₀ cs hu => ?_
  apply wpS_seq
  apply wpS_region
  simp [wpOpsS, go_sem, recoverD, hu, Try.ntmps25, Exit.thenS]
  refine wpS_of_wp ?_
  show Code.wp _ _ _ { tmps := #[.pointer (some p), .pointer (some q), .nilIface, .nilIface, undef, undef, undef, undef, undef, undef], defers := [] } w
  go_wp2
  exact ⟨rfl, .returning, by cases c₀; simp_all, .tuple #[], by simp [results, Try.results25, go_sem], rfl, rfl, rfl⟩
theorem catch_panics (b1 b2 : Nat) (n : Int) (w : World) (h1 : Blk w b1 #[.slice none 0 0, .int .i64 0, .int .i64 0, .int .i64 0, .int .i64 0, .int .i64 0, .int .i64 0, .int .i64 0, .int .i64 0, .int .i64 0] 26) (h2 : Blk w b2 #[.int .i64 0] 36) :
    CallsD Try.prog 25 #[.pointer (some ⟨b1, 0, none⟩), .pointer (some ⟨b2, 0, none⟩)] (.panicking [{ v := refusal n, recovered := false }]) w fun e u' w' => e = .returned (.tuple #[]) ∧ u' = .panicking [{ v := refusal n, recovered := true }] ∧
      Blk w' b1 #[.slice none 0 0, .int .i64 0, .int .i64 0, .int .i64 0, .int .i64 0, .int .i64 0, .int .i64 0, .int .i64 0, .int .i64 0, .int .i64 0] 26 ∧ Blk w' b2 #[.int .i64 n] 36 ∧ (∀ B, B ≤ b1 → B ≤ b2 → Below B w w') := by
  have hta : ∀ w : World, (Instr.typeAssert (.iface 82 (.agg #[.int .i64 n])) 20 82 false).run Try.prog w = .ok (.agg #[.int .i64 n]) w := fun w => by kernel_rfl
  have hfd : ∀ w : World, (Instr.field 82 (.agg #[.int .i64 n]) 0).run Try.prog w = .ok (.int .i64 n) w := fun w => by kernel_rfl
  refine callsD_of_wpS Try.func25 rfl fun c₀ cs hu => ?_
  apply wpS_seq
  apply wpS_region
  simp [wpOpsS, go_sem, recoverD, hu, Try.ntmps25, Exit.thenS]
  refine wpS_of_wp ?_
  show Code.wp _ _ _ { tmps := #[.pointer (some ⟨b1, 0, none⟩), .pointer (some ⟨b2, 0, none⟩), .iface 82 (.agg #[.int .i64 n]), .iface 82 (.agg #[.int .i64 n]), undef, undef, undef, undef, undef, undef], defers := [] } w
  go_wp2
  have h1c0 := h1.cell 0
  have h1f0 := h1.free 0
  have h1c1 := h1.cell 1
  have h1f1 := h1.free 1
  have h1c2 := h1.cell 2
  have h1f2 := h1.free 2
  have h1c3 := h1.cell 3
  have h1f3 := h1.free 3
  have h1c4 := h1.cell 4
  have h1f4 := h1.free 4
  have h1c5 := h1.cell 5
  have h1f5 := h1.free 5
  have h1c6 := h1.cell 6
  have h1f6 := h1.free 6
  have h1c7 := h1.cell 7
  have h1f7 := h1.free 7
  have h1c8 := h1.cell 8
  have h1f8 := h1.free 8
  have h1c9 := h1.cell 9
  have h1f9 := h1.free 9
  have h1l := h1.lt
  simp at h1c0 h1c1 h1c2 h1c3 h1c4 h1c5 h1c6 h1c7 h1c8 h1c9
  have h2c0 := h2.cell 0
  have h2f0 := h2.free 0
  have h2l := h2.lt
  simp at h2c0
  have hne : b1 ≠ b2 := fun he => by subst he; have := h1.symm.trans h2; simp at this
  go_region
  refine ⟨rfl, .panicking [{ v := refusal n, recovered := true }], rfl, .tuple #[], by simp [results, Try.results25, go_sem], rfl, rfl, ?_, ?_, fun B k1 k2 => ?_⟩
  · exact (Blk.drew ((((((((((((h1).set 0 _).set 1 _).set 2 _).set 3 _).set 4 _).set 5 _).set 6 _).set 7 _).set 8 _).set 9 _).other (by simp; omega) _)).cast (by simp)
  · exact (Blk.drew ((((((((((((h2).other (by simp; omega) _).other (by simp; omega) _).other (by simp; omega) _).other (by simp; omega) _).other (by simp; omega) _).other (by simp; omega) _).other (by simp; omega) _).other (by simp; omega) _).other (by simp; omega) _).other (by simp; omega) _).set 0 _)).cast (by simp)
  · exact Below.drew (((((((((((((Below.refl B w)).setCell k1 _).setCell k1 _).setCell k1 _).setCell k1 _).setCell k1 _).setCell k1 _).setCell k1 _).setCell k1 _).setCell k1 _).setCell k1 _).setCell k2 _)

end Go.Proofs.Ytnfhcpnpjkefmaa

/-
  The program: Do, its early ends.
-/
namespace Go.Proofs.Ytnfhcpnpjkefmaa
open Go.RowKit Bal Bal.Trim Bal.Gas
set_option linter.unusedVariables false
set_option linter.unusedSimpArgs false
set_option maxHeartbeats 8000000
set_option maxRecDepth 100000

theorem f_Do_bad (p : Plant) (d : Deed) (a : Option Addr) (cap : Nat) (w : World) (hx : Row Cell.cells 7 w.heap.size w a p.cells) (hc : p.cells.length ≤ cap) (hM : cap ≤ maxLen) (hz : a = none → cap = 0) (hp : plantB p = false) : Calls Try.prog 9 #[.agg #[.slice a p.cells.length cap, .int .i64 p.bottles, .int .i64 p.inH, .int .i64 p.inA, .int .i64 p.vH, .int .i64 p.vA, .int .i64 p.lH, .int .i64 p.lA, .int .i64 p.pH, .int .i64 p.pA], .agg #[.int .u8 d.kind, .int .i64 d.cell, .int .i64 d.to, .int .i64 d.n]] w fun e w' => e = .returned (.tuple #[.agg #[.slice none 0 0, .int .i64 0, .int .i64 0, .int .i64 0, .int .i64 0, .int .i64 0, .int .i64 0, .int .i64 0, .int .i64 0, .int .i64 0], .int .i64 32]) ∧ Kept w w' := by
  have HP := Lib.hid (show plantE p = 32 by simp [plantE, hp])
  clear hp
  go_enter_defers Try.func9, Try.ntmps9
  go_upto_region 3 with (go_at_call 24; (with_reducible refine (f_Check p a cap _ (hx.later (by (exact kpt)) (Nat.le_refl _)) hc hM).mono ?_); rw [HP.out]; rintro e w1 ⟨rfl, hb1⟩; refine Blk.thru (b := w.heap.size) (arr := ?_) (t := ?_) ?_ hb1 ?_; rotate_left 2; (focus (exact blk)); intro rr; have rrc0 := rr.cell 0; have rrf0 := rr.free 0; have rrc1 := rr.cell 1; have rrf1 := rr.free 1; have rrc2 := rr.cell 2; have rrf2 := rr.free 2; have rrc3 := rr.cell 3; have rrf3 := rr.free 3; have rrc4 := rr.cell 4; have rrf4 := rr.free 4; have rrc5 := rr.cell 5; have rrf5 := rr.free 5; have rrc6 := rr.cell 6; have rrf6 := rr.free 6; have rrc7 := rr.cell 7; have rrf7 := rr.free 7; have rrc8 := rr.cell 8; have rrf8 := rr.free 8; have rrc9 := rr.cell 9; have rrf9 := rr.free 9; have rrl := rr.lt; simp at rrc0 rrc1 rrc2 rrc3 rrc4 rrc5 rrc6 rrc7 rrc8 rrc9; refine Blk.thru (b := (w.heap.size + 1)) (arr := ?_) (t := ?_) ?_ hb1 ?_; rotate_left 2; (focus (exact blk)); intro rq; have rqc0 := rq.cell 0; have rqf0 := rq.free 0; have rqc1 := rq.cell 1; have rqf1 := rq.free 1; have rqc2 := rq.cell 2; have rqf2 := rq.free 2; have rqc3 := rq.cell 3; have rqf3 := rq.free 3; have rql := rq.lt; simp at rqc0 rqc1 rqc2 rqc3)
  refine at_world (S := fun W => Blk W w.heap.size #[.slice a p.cells.length cap, .int .i64 p.bottles, .int .i64 p.inH, .int .i64 p.inA, .int .i64 p.vH, .int .i64 p.vA, .int .i64 p.lH, .int .i64 p.lA, .int .i64 p.pH, .int .i64 p.pA] 26 ∧ Blk W (w.heap.size + 1) #[.int .u8 d.kind, .int .i64 d.cell, .int .i64 d.to, .int .i64 d.n] 43 ∧ Blk W (w.heap.size + 1 + 1) #[.slice none 0 0, .int .i64 0, .int .i64 0, .int .i64 0, .int .i64 0, .int .i64 0, .int .i64 0, .int .i64 0, .int .i64 0, .int .i64 0] 26 ∧ Blk W (w.heap.size + 1 + 1 + 1) #[.int .i64 0] 36 ∧ Kept w W) ⟨by (exact blkc), by (exact blkc), by (exact blkc), by (exact blkc), by (exact kpt)⟩ ?_
  rintro W ⟨b0, b1, b2, b3, hk⟩
  have b0c0 := b0.cell 0
  have b0f0 := b0.free 0
  have b0c1 := b0.cell 1
  have b0f1 := b0.free 1
  have b0c2 := b0.cell 2
  have b0f2 := b0.free 2
  have b0c3 := b0.cell 3
  have b0f3 := b0.free 3
  have b0c4 := b0.cell 4
  have b0f4 := b0.free 4
  have b0c5 := b0.cell 5
  have b0f5 := b0.free 5
  have b0c6 := b0.cell 6
  have b0f6 := b0.free 6
  have b0c7 := b0.cell 7
  have b0f7 := b0.free 7
  have b0c8 := b0.cell 8
  have b0f8 := b0.free 8
  have b0c9 := b0.cell 9
  have b0f9 := b0.free 9
  have b0l := b0.lt
  simp at b0c0 b0c1 b0c2 b0c3 b0c4 b0c5 b0c6 b0c7 b0c8 b0c9
  have b1c0 := b1.cell 0
  have b1f0 := b1.free 0
  have b1c1 := b1.cell 1
  have b1f1 := b1.free 1
  have b1c2 := b1.cell 2
  have b1f2 := b1.free 2
  have b1c3 := b1.cell 3
  have b1f3 := b1.free 3
  have b1l := b1.lt
  simp at b1c0 b1c1 b1c2 b1c3
  have b2c0 := b2.cell 0
  have b2f0 := b2.free 0
  have b2c1 := b2.cell 1
  have b2f1 := b2.free 1
  have b2c2 := b2.cell 2
  have b2f2 := b2.free 2
  have b2c3 := b2.cell 3
  have b2f3 := b2.free 3
  have b2c4 := b2.cell 4
  have b2f4 := b2.free 4
  have b2c5 := b2.cell 5
  have b2f5 := b2.free 5
  have b2c6 := b2.cell 6
  have b2f6 := b2.free 6
  have b2c7 := b2.cell 7
  have b2f7 := b2.free 7
  have b2c8 := b2.cell 8
  have b2f8 := b2.free 8
  have b2c9 := b2.cell 9
  have b2f9 := b2.free 9
  have b2l := b2.lt
  simp at b2c0 b2c1 b2c2 b2c3 b2c4 b2c5 b2c6 b2c7 b2c8 b2c9
  have b3c0 := b3.cell 0
  have b3f0 := b3.free 0
  have b3l := b3.lt
  simp at b3c0
  go_wp2
  exact (show ∃ v, (results _ _).run _ _ = .ok v _ ∧ _ from ⟨.tuple #[.agg #[.slice none 0 0, .int .i64 0, .int .i64 0, .int .i64 0, .int .i64 0, .int .i64 0, .int .i64 0, .int .i64 0, .int .i64 0, .int .i64 0], .int .i64 32], by simp [results, Try.results9, go_sem, b2c0, b2f0, b2c1, b2f1, b2c2, b2f2, b2c3, b2f3, b2c4, b2f4, b2c5, b2f5, b2c6, b2f6, b2c7, b2f7, b2c8, b2f8, b2c9, b2f9, b3c0, b3f0], rfl, by (exact kpt)⟩)
theorem f_Do_kind (p : Plant) (d : Deed) (a : Option Addr) (cap : Nat) (w : World) (hx : Row Cell.cells 7 w.heap.size w a p.cells) (hc : p.cells.length ≤ cap) (hM : cap ≤ maxLen) (hz : a = none → cap = 0) (hp : plantB p = true) (hk0 : -9223372036854775808 ≤ d.kind ∧ d.kind ≤ 9223372036854775807) (hk : inB d.kind 1 7 = false) : Calls Try.prog 9 #[.agg #[.slice a p.cells.length cap, .int .i64 p.bottles, .int .i64 p.inH, .int .i64 p.inA, .int .i64 p.vH, .int .i64 p.vA, .int .i64 p.lH, .int .i64 p.lA, .int .i64 p.pH, .int .i64 p.pA], .agg #[.int .u8 d.kind, .int .i64 d.cell, .int .i64 d.to, .int .i64 d.n]] w fun e w' => e = .returned (.tuple #[.agg #[.slice none 0 0, .int .i64 0, .int .i64 0, .int .i64 0, .int .i64 0, .int .i64 0, .int .i64 0, .int .i64 0, .int .i64 0, .int .i64 0], .int .i64 2]) ∧ Kept w w' := by
  have HP := Lib.hid (show plantE p = 0 by simp [plantE, hp])
  have H1 := Lib.hid (show rng [d.kind] 1 7 = false by simpa [rng] using hk)
  have hw := i64_inx hk0
  clear hp hk
  have hmf : ∀ (fn : Fn) (first cap : Array Value) (w : World), (Instr.makeFunc fn first cap).run Try.prog w = .ok (.func fn first cap) w := fun _ _ _ _ => rfl
  go_enter_defers Try.func9, Try.ntmps9
  go_upto_region 4 with (go_at_call 24; (with_reducible refine (f_Check p a cap _ (hx.later (by (exact kpt)) (Nat.le_refl _)) hc hM).mono ?_); rw [HP.out]; rintro e w1 ⟨rfl, hb1⟩; refine Blk.thru (b := w.heap.size) (arr := ?_) (t := ?_) ?_ hb1 ?_; rotate_left 2; (focus (exact blk)); intro rr; have rrc0 := rr.cell 0; have rrf0 := rr.free 0; have rrc1 := rr.cell 1; have rrf1 := rr.free 1; have rrc2 := rr.cell 2; have rrf2 := rr.free 2; have rrc3 := rr.cell 3; have rrf3 := rr.free 3; have rrc4 := rr.cell 4; have rrf4 := rr.free 4; have rrc5 := rr.cell 5; have rrf5 := rr.free 5; have rrc6 := rr.cell 6; have rrf6 := rr.free 6; have rrc7 := rr.cell 7; have rrf7 := rr.free 7; have rrc8 := rr.cell 8; have rrf8 := rr.free 8; have rrc9 := rr.cell 9; have rrf9 := rr.free 9; have rrl := rr.lt; simp at rrc0 rrc1 rrc2 rrc3 rrc4 rrc5 rrc6 rrc7 rrc8 rrc9; refine Blk.thru (b := (w.heap.size + 1)) (arr := ?_) (t := ?_) ?_ hb1 ?_; rotate_left 2; (focus (exact blk)); intro rq; have rqc0 := rq.cell 0; have rqf0 := rq.free 0; have rqc1 := rq.cell 1; have rqf1 := rq.free 1; have rqc2 := rq.cell 2; have rqf2 := rq.free 2; have rqc3 := rq.cell 3; have rqf3 := rq.free 3; have rql := rq.lt; simp at rqc0 rqc1 rqc2 rqc3)
  refine at_world (S := fun W => Blk W w.heap.size #[.slice a p.cells.length cap, .int .i64 p.bottles, .int .i64 p.inH, .int .i64 p.inA, .int .i64 p.vH, .int .i64 p.vA, .int .i64 p.lH, .int .i64 p.lA, .int .i64 p.pH, .int .i64 p.pA] 26 ∧ Blk W (w.heap.size + 1) #[.int .u8 d.kind, .int .i64 d.cell, .int .i64 d.to, .int .i64 d.n] 43 ∧ Blk W (w.heap.size + 1 + 1) #[.slice none 0 0, .int .i64 0, .int .i64 0, .int .i64 0, .int .i64 0, .int .i64 0, .int .i64 0, .int .i64 0, .int .i64 0, .int .i64 0] 26 ∧ Blk W (w.heap.size + 1 + 1 + 1) #[.int .i64 0] 36 ∧ Kept w W) ⟨by (exact blkc), by (exact blkc), by (exact blkc), by (exact blkc), by (exact kpt)⟩ ?_
  rintro W ⟨b0, b1, b2, b3, hk⟩
  have b0c0 := b0.cell 0
  have b0f0 := b0.free 0
  have b0c1 := b0.cell 1
  have b0f1 := b0.free 1
  have b0c2 := b0.cell 2
  have b0f2 := b0.free 2
  have b0c3 := b0.cell 3
  have b0f3 := b0.free 3
  have b0c4 := b0.cell 4
  have b0f4 := b0.free 4
  have b0c5 := b0.cell 5
  have b0f5 := b0.free 5
  have b0c6 := b0.cell 6
  have b0f6 := b0.free 6
  have b0c7 := b0.cell 7
  have b0f7 := b0.free 7
  have b0c8 := b0.cell 8
  have b0f8 := b0.free 8
  have b0c9 := b0.cell 9
  have b0f9 := b0.free 9
  have b0l := b0.lt
  simp at b0c0 b0c1 b0c2 b0c3 b0c4 b0c5 b0c6 b0c7 b0c8 b0c9
  have b1c0 := b1.cell 0
  have b1f0 := b1.free 0
  have b1c1 := b1.cell 1
  have b1f1 := b1.free 1
  have b1c2 := b1.cell 2
  have b1f2 := b1.free 2
  have b1c3 := b1.cell 3
  have b1f3 := b1.free 3
  have b1l := b1.lt
  simp at b1c0 b1c1 b1c2 b1c3
  have b2c0 := b2.cell 0
  have b2f0 := b2.free 0
  have b2c1 := b2.cell 1
  have b2f1 := b2.free 1
  have b2c2 := b2.cell 2
  have b2f2 := b2.free 2
  have b2c3 := b2.cell 3
  have b2f3 := b2.free 3
  have b2c4 := b2.cell 4
  have b2f4 := b2.free 4
  have b2c5 := b2.cell 5
  have b2f5 := b2.free 5
  have b2c6 := b2.cell 6
  have b2f6 := b2.free 6
  have b2c7 := b2.cell 7
  have b2f7 := b2.free 7
  have b2c8 := b2.cell 8
  have b2f8 := b2.free 8
  have b2c9 := b2.cell 9
  have b2f9 := b2.free 9
  have b2l := b2.lt
  simp at b2c0 b2c1 b2c2 b2c3 b2c4 b2c5 b2c6 b2c7 b2c8 b2c9
  have b3c0 := b3.cell 0
  have b3f0 := b3.free 0
  have b3l := b3.lt
  simp at b3c0
  go_wp2_with (first | (go_at_call 34; (with_reducible refine (f_ranged1 _ _ d.kind _ _ _ (by simp)).mono ?_); rw [H1.out]; rintro e w1 ⟨rfl, rfl⟩) | (go_at_call 33; (with_reducible refine (f_need_no _ _).mono ?_); rintro e w1 ⟨rfl, rfl⟩))
  refine leaves_cons (f := 25) (args := #[.pointer (some ⟨w.heap.size + 1 + 1, 0, none⟩), .pointer (some ⟨w.heap.size + 1 + 1 + 1, 0, none⟩)]) (by simp) (by simp [go_sem]) ?_
  refine (catch_panics _ _ 2 _ (by (exact blkc)) (by (exact blkc))).mono ?_
  rintro e u' w'' ⟨rfl, rfl, k1, k2, kb⟩
  have k1c0 := k1.cell 0
  have k1f0 := k1.free 0
  have k1c1 := k1.cell 1
  have k1f1 := k1.free 1
  have k1c2 := k1.cell 2
  have k1f2 := k1.free 2
  have k1c3 := k1.cell 3
  have k1f3 := k1.free 3
  have k1c4 := k1.cell 4
  have k1f4 := k1.free 4
  have k1c5 := k1.cell 5
  have k1f5 := k1.free 5
  have k1c6 := k1.cell 6
  have k1f6 := k1.free 6
  have k1c7 := k1.cell 7
  have k1f7 := k1.free 7
  have k1c8 := k1.cell 8
  have k1f8 := k1.free 8
  have k1c9 := k1.cell 9
  have k1f9 := k1.free 9
  have k1l := k1.lt
  simp at k1c0 k1c1 k1c2 k1c3 k1c4 k1c5 k1c6 k1c7 k1c8 k1c9
  have k2c0 := k2.cell 0
  have k2f0 := k2.free 0
  have k2l := k2.lt
  simp at k2c0
  exact (show ∃ v, (results _ _).run _ _ = .ok v _ ∧ _ from ⟨.tuple #[.agg #[.slice none 0 0, .int .i64 0, .int .i64 0, .int .i64 0, .int .i64 0, .int .i64 0, .int .i64 0, .int .i64 0, .int .i64 0, .int .i64 0], .int .i64 2], by simp [results, Try.results9, go_sem, k1c0, k1f0, k1c1, k1f1, k1c2, k1f2, k1c3, k1f3, k1c4, k1f4, k1c5, k1f5, k1c6, k1f6, k1c7, k1f7, k1c8, k1f8, k1c9, k1f9, k2c0, k2f0], rfl, by exact Below.trans (by (exact kpt)) (kb _ (by omega) (by omega))⟩)

end Go.Proofs.Ytnfhcpnpjkefmaa

/-
  The program's acts by their error.
-/
namespace Go.Proofs.Ytnfhcpnpjkefmaa
open Go.RowKit Bal Bal.Trim Bal.Gas
set_option linter.unusedVariables false
set_option linter.unusedSimpArgs false
set_option maxHeartbeats 4000000

theorem act1_no {B s cp : Nat} {ad : Option Addr} {p : Plant} {w : World} (d : Deed) (h : Shop 54 89 B w s ad cp p) (hp : plantB p = true) (hk : d.kind = 1) (he : errA p d ≠ 0) : Calls Try.prog 26 #[.pointer (some ⟨s, 0, none⟩), .agg #[.int .u8 d.kind, .int .i64 d.cell, .int .i64 d.to, .int .i64 d.n]] w fun e w' => e = .panicked [{ v := refusal (errA p d), recovered := false }] ∧ Kept w w' := by
  cases h1 : rng [d.n] 1 10000000
  · rw [show errA p d = 2 by simp [errA, hk, *]]
    exact f_buy_no d h hp h1
  · exact absurd (by simp [errA, hk, *]) he
theorem act1_ok {B s cp : Nat} {ad : Option Addr} {p : Plant} {w : World} (d : Deed) (h : Shop 54 89 B w s ad cp p) (hp : plantB p = true) (hk : d.kind = 1) (he : errA p d = 0) : Calls Try.prog 26 #[.pointer (some ⟨s, 0, none⟩), .agg #[.int .u8 d.kind, .int .i64 d.cell, .int .i64 d.to, .int .i64 d.n]] w fun e w' => e = .returned (.tuple #[]) ∧ Shop 54 89 B w' s ad cp (resA p d) ∧ Below B w w' := by
  cases h1 : rng [d.n] 1 10000000
  · simp [errA, hk, h1] at he
  · rw [show resA p d = buyP p d by simp [resA, hk]]
    exact f_buy_ok d h hp h1

theorem act2_no {B s cp : Nat} {ad : Option Addr} {p : Plant} {w : World} (d : Deed) (h : Shop 54 89 B w s ad cp p) (hp : plantB p = true) (hk : d.kind = 2) (he : errA p d ≠ 0) : Calls Try.prog 27 #[.pointer (some ⟨s, 0, none⟩), .agg #[.int .u8 d.kind, .int .i64 d.cell, .int .i64 d.to, .int .i64 d.n]] w fun e w' => e = .panicked [{ v := refusal (errA p d), recovered := false }] ∧ Kept w w' := by
  cases h1 : argB p d
  · rw [show errA p d = 2 by simp [errA, hk, *]]
    exact f_fill_no1 d h hp h1
  · by_cases h2 : p.bottles < d.n
    · rw [show errA p d = 6 by simp [errA, hk, *]]
      exact f_fill_no2 d h hp h1 h2
    · exact absurd (by simp [errA, hk, *]) he
theorem act2_ok {B s cp : Nat} {ad : Option Addr} {p : Plant} {w : World} (d : Deed) (h : Shop 54 89 B w s ad cp p) (hp : plantB p = true) (hk : d.kind = 2) (he : errA p d = 0) : Calls Try.prog 27 #[.pointer (some ⟨s, 0, none⟩), .agg #[.int .u8 d.kind, .int .i64 d.cell, .int .i64 d.to, .int .i64 d.n]] w fun e w' => e = .returned (.tuple #[]) ∧ Shop 54 89 B w' s ad cp (resA p d) ∧ Below B w w' := by
  cases h1 : argB p d
  · simp [errA, hk, h1] at he
  · by_cases h2 : p.bottles < d.n
    · simp [errA, hk, h1, h2] at he
    · rw [show resA p d = fillP p d by simp [resA, hk]]
      exact f_fill_ok d h hp h1 (by omega)

theorem act3_no {B s cp : Nat} {ad : Option Addr} {p : Plant} {w : World} (d : Deed) (h : Shop 54 89 B w s ad cp p) (hp : plantB p = true) (hk : d.kind = 3) (he : errA p d ≠ 0) : Calls Try.prog 28 #[.pointer (some ⟨s, 0, none⟩), .agg #[.int .u8 d.kind, .int .i64 d.cell, .int .i64 d.to, .int .i64 d.n]] w fun e w' => e = .panicked [{ v := refusal (errA p d), recovered := false }] ∧ Kept w w' := by
  cases h1 : argB p d
  · rw [show errA p d = 2 by simp [errA, hk, *]]
    exact f_valve_no1 d h hp h1
  · by_cases h2 : amount (at_ p d) < d.n
    · rw [show errA p d = 6 by simp [errA, hk, *]]
      exact f_valve_no2 d h hp h1 h2
    · exact absurd (by simp [errA, hk, *]) he
theorem act3_ok {B s cp : Nat} {ad : Option Addr} {p : Plant} {w : World} (d : Deed) (h : Shop 54 89 B w s ad cp p) (hp : plantB p = true) (hk : d.kind = 3) (he : errA p d = 0) : Calls Try.prog 28 #[.pointer (some ⟨s, 0, none⟩), .agg #[.int .u8 d.kind, .int .i64 d.cell, .int .i64 d.to, .int .i64 d.n]] w fun e w' => e = .returned (.tuple #[]) ∧ Shop 54 89 B w' s ad cp (resA p d) ∧ Below B w w' := by
  cases h1 : argB p d
  · simp [errA, hk, h1] at he
  · by_cases h2 : amount (at_ p d) < d.n
    · simp [errA, hk, h1, h2] at he
    · rw [show resA p d = valveP p d by simp [resA, hk]]
      exact f_valve_ok d h hp h1 h2

theorem act4_no {B s cp : Nat} {ad : Option Addr} {p : Plant} {w : World} (d : Deed) (h : Shop 54 89 B w s ad cp p) (hp : plantB p = true) (hk : d.kind = 4) (he : errA p d ≠ 0) : Calls Try.prog 29 #[.pointer (some ⟨s, 0, none⟩), .agg #[.int .u8 d.kind, .int .i64 d.cell, .int .i64 d.to, .int .i64 d.n]] w fun e w' => e = .panicked [{ v := refusal (errA p d), recovered := false }] ∧ Kept w w' := by
  cases h1 : argB p d
  · rw [show errA p d = 2 by simp [errA, hk, *]]
    exact f_move_no1 d h hp h1
  · cases h2 : rng [d.to] 0 (p.cells.length - 1)
    · have h5 : toB p d = false := by simp [toB, h2]
      rw [show errA p d = 2 by simp [errA, hk, *]]
      exact f_move_no2 d h hp h1 h2
    · by_cases h3 : d.to = d.cell
      · have h5 : toB p d = false := by simp [toB, h3]
        rw [show errA p d = 2 by simp [errA, hk, *]]
        exact f_move_no3 d h hp h1 h2 h3
      · have h5 : toB p d = true := by simp [toB, h2, h3]
        by_cases h4 : amount (at_ p d) < d.n
        · rw [show errA p d = 6 by simp [errA, hk, *]]
          exact f_move_no4 d h hp h1 h2 h3 h4
        · exact absurd (by simp [errA, hk, *]) he
theorem act4_ok {B s cp : Nat} {ad : Option Addr} {p : Plant} {w : World} (d : Deed) (h : Shop 54 89 B w s ad cp p) (hp : plantB p = true) (hk : d.kind = 4) (he : errA p d = 0) : Calls Try.prog 29 #[.pointer (some ⟨s, 0, none⟩), .agg #[.int .u8 d.kind, .int .i64 d.cell, .int .i64 d.to, .int .i64 d.n]] w fun e w' => e = .returned (.tuple #[]) ∧ Shop 54 89 B w' s ad cp (resA p d) ∧ Below B w w' := by
  cases h1 : argB p d
  · simp [errA, hk, h1] at he
  · cases h2 : rng [d.to] 0 (p.cells.length - 1)
    · simp [errA, hk, h1, toB, h2] at he
    · by_cases h3 : d.to = d.cell
      · simp [errA, hk, h1, toB, h3] at he
      · by_cases h4 : amount (at_ p d) < d.n
        · simp [errA, hk, h1, toB, h2, h3, h4] at he
        · rw [show resA p d = moveP p d by simp [resA, hk]]
          exact f_move_ok d h hp h1 h2 h3 h4

theorem act5_no {B s cp : Nat} {ad : Option Addr} {p : Plant} {w : World} (d : Deed) (h : Shop 54 89 B w s ad cp p) (hp : plantB p = true) (hk : d.kind = 5) (he : errA p d ≠ 0) : Calls Try.prog 30 #[.pointer (some ⟨s, 0, none⟩), .agg #[.int .u8 d.kind, .int .i64 d.cell, .int .i64 d.to, .int .i64 d.n]] w fun e w' => e = .panicked [{ v := refusal (errA p d), recovered := false }] ∧ Kept w w' := by
  cases h1 : argB p d
  · rw [show errA p d = 2 by simp [errA, hk, *]]
    exact f_purify_no1 d h hp h1
  · by_cases h2 : amount (at_ p d) < d.n
    · rw [show errA p d = 6 by simp [errA, hk, *]]
      exact f_purify_no2 d h hp h1 h2
    · exact absurd (by simp [errA, hk, *]) he
theorem act5_ok {B s cp : Nat} {ad : Option Addr} {p : Plant} {w : World} (d : Deed) (h : Shop 54 89 B w s ad cp p) (hp : plantB p = true) (hk : d.kind = 5) (he : errA p d = 0) : Calls Try.prog 30 #[.pointer (some ⟨s, 0, none⟩), .agg #[.int .u8 d.kind, .int .i64 d.cell, .int .i64 d.to, .int .i64 d.n]] w fun e w' => e = .returned (.tuple #[]) ∧ Shop 54 89 B w' s ad cp (resA p d) ∧ Below B w w' := by
  cases h1 : argB p d
  · simp [errA, hk, h1] at he
  · by_cases h2 : amount (at_ p d) < d.n
    · simp [errA, hk, h1, h2] at he
    · rw [show resA p d = purifyP p d by simp [resA, hk]]
      exact f_purify_ok d h hp h1 h2

theorem act6_no {B s cp : Nat} {ad : Option Addr} {p : Plant} {w : World} (d : Deed) (h : Shop 54 89 B w s ad cp p) (hp : plantB p = true) (hk : d.kind = 6) (he : errA p d ≠ 0) : Calls Try.prog 31 #[.pointer (some ⟨s, 0, none⟩), .agg #[.int .u8 d.kind, .int .i64 d.cell, .int .i64 d.to, .int .i64 d.n]] w fun e w' => e = .panicked [{ v := refusal (errA p d), recovered := false }] ∧ Kept w w' := by
  cases h1 : argB p d
  · rw [show errA p d = 2 by simp [errA, hk, *]]
    exact f_breathe_no d h hp h1
  · exact absurd (by simp [errA, hk, *]) he
theorem act6_ok {B s cp : Nat} {ad : Option Addr} {p : Plant} {w : World} (d : Deed) (h : Shop 54 89 B w s ad cp p) (hp : plantB p = true) (hk : d.kind = 6) (he : errA p d = 0) : Calls Try.prog 31 #[.pointer (some ⟨s, 0, none⟩), .agg #[.int .u8 d.kind, .int .i64 d.cell, .int .i64 d.to, .int .i64 d.n]] w fun e w' => e = .returned (.tuple #[]) ∧ Shop 54 89 B w' s ad cp (resA p d) ∧ Below B w w' := by
  cases h1 : argB p d
  · simp [errA, hk, h1] at he
  · rw [show resA p d = breatheP p d by simp [resA, hk]]
    exact f_breathe_ok d h hp h1

theorem act7_no {B s cp : Nat} {ad : Option Addr} {p : Plant} {w : World} (d : Deed) (h : Shop 54 89 B w s ad cp p) (hp : plantB p = true) (hk : d.kind = 7) (he : errA p d ≠ 0) : Calls Try.prog 32 #[.pointer (some ⟨s, 0, none⟩), .agg #[.int .u8 d.kind, .int .i64 d.cell, .int .i64 d.to, .int .i64 d.n]] w fun e w' => e = .panicked [{ v := refusal (errA p d), recovered := false }] ∧ Kept w w' := by
  cases h1 : rng [d.n] 1 1000
  · rw [show errA p d = 2 by simp [errA, hk, *]]
    exact f_tick_no d h hp h1
  · exact absurd (by simp [errA, hk, *]) he
theorem act7_ok {B s cp : Nat} {ad : Option Addr} {p : Plant} {w : World} (d : Deed) (h : Shop 54 89 B w s ad cp p) (hp : plantB p = true) (hk : d.kind = 7) (he : errA p d = 0) : Calls Try.prog 32 #[.pointer (some ⟨s, 0, none⟩), .agg #[.int .u8 d.kind, .int .i64 d.cell, .int .i64 d.to, .int .i64 d.n]] w fun e w' => e = .returned (.tuple #[]) ∧ Shop 54 89 B w' s ad cp (resA p d) ∧ Below B w w' := by
  cases h1 : rng [d.n] 1 1000
  · simp [errA, hk, h1] at he
  · rw [show resA p d = tickP p d by simp [resA, hk]]
    exact f_tick_ok d h hp h1

end Go.Proofs.Ytnfhcpnpjkefmaa

/-
  The reference: a tick.
-/
namespace Go.Proofs.Ytnfhcpnpjkefmaa
open Go.RowKit Bal Bal.Trim Bal.Gas
set_option linter.unusedVariables false
set_option linter.unusedSimpArgs false
set_option maxHeartbeats 8000000
set_option maxRecDepth 100000

theorem set_same {α : Type} {l : List α} {k : Nat} {x : α} (h : l[k]? = some x) : l.set k x = l := by
  obtain ⟨hk, rfl⟩ := List.getElem?_eq_some_iff.1 h
  exact List.set_getElem_self hk
end Go.Proofs.Ytnfhcpnpjkefmaa

/-
  The reference: Do, buy.
-/
namespace Go.Proofs.Ytnfhcpnpjkefmaa
open Go.RowKit Bal Bal.Trim Bal.Gas
set_option linter.unusedVariables false
set_option linter.unusedSimpArgs false
set_option maxHeartbeats 8000000
set_option maxRecDepth 100000

/-- what an act's last check makes of a plant, and its error -/
def endQ (q : Plant) : Plant := if plantB q then q else noPlant
def endE (q : Plant) : Int := if plantB q then 0 else 9
end Go.Proofs.Ytnfhcpnpjkefmaa

/-
  The program: Do, kind by kind.
-/
namespace Go.Proofs.Ytnfhcpnpjkefmaa
open Go.RowKit Bal Bal.Trim Bal.Gas
set_option linter.unusedVariables false
set_option linter.unusedSimpArgs false
set_option maxHeartbeats 8000000
set_option maxRecDepth 100000

theorem blk_below {W W' : World} {b B : Nat} {arr : Array Value} {t : TypeId} (h : Blk W b arr t) (hb : Below B W W') (hB : b < B) : Blk W' b arr t := (hb.block b hB).trans h
theorem f_CheckK {B n cp : Nat} {ad : Option Addr} {q : Plant} {w : World} (h : Mine 54 B w (.slice ad n cp) q.cells) : Calls Try.prog 24 #[.agg #[.slice ad n cp, .int .i64 q.bottles, .int .i64 q.inH, .int .i64 q.inA, .int .i64 q.vH, .int .i64 q.vA, .int .i64 q.lH, .int .i64 q.lA, .int .i64 q.pH, .int .i64 q.pA]] w fun e w' => e = .returned (.int .i64 (plantE q)) ∧ Kept w w' := by
  obtain ⟨h1, h2, h3, h4, h5⟩ := h.row
  subst h1
  exact f_Check q ad cp w h2 h3 h4

theorem f_DoX_no (p : Plant) (d : Deed) (a : Option Addr) (cap : Nat) (w : World) (hx : Row Cell.cells 7 w.heap.size w a p.cells) (hc : p.cells.length ≤ cap) (hM : cap ≤ maxLen) (hz : a = none → cap = 0) (fn : FuncId) (hcf : ∀ (args : Array Value) (w : World), (callFunc fn args).run Try.prog w = .ok (.enter fn args) w) (hp : plantB p = true) (hk17 : 1 ≤ d.kind ∧ d.kind ≤ 7) (hfn : (#[.nilFunc, .func (.func 26) #[] #[], .func (.func 27) #[] #[], .func (.func 28) #[] #[], .func (.func 29) #[] #[], .func (.func 30) #[] #[], .func (.func 31) #[] #[], .func (.func 32) #[] #[]] : Array Value)[d.kind.toNat]? = some (.func (.func fn) #[] #[])) (he : errA p d ≠ 0) (hact : ∀ (B s cp : Nat) (ad : Option Addr) (w : World), Shop 54 89 B w s ad cp p → Calls Try.prog fn #[.pointer (some ⟨s, 0, none⟩), .agg #[.int .u8 d.kind, .int .i64 d.cell, .int .i64 d.to, .int .i64 d.n]] w fun e w' => e = .panicked [{ v := refusal (errA p d), recovered := false }] ∧ Kept w w') : Calls Try.prog 9 #[.agg #[.slice a p.cells.length cap, .int .i64 p.bottles, .int .i64 p.inH, .int .i64 p.inA, .int .i64 p.vH, .int .i64 p.vA, .int .i64 p.lH, .int .i64 p.lA, .int .i64 p.pH, .int .i64 p.pA], .agg #[.int .u8 d.kind, .int .i64 d.cell, .int .i64 d.to, .int .i64 d.n]] w fun e w' => e = .returned (.tuple #[.agg #[.slice none 0 0, .int .i64 0, .int .i64 0, .int .i64 0, .int .i64 0, .int .i64 0, .int .i64 0, .int .i64 0, .int .i64 0, .int .i64 0], .int .i64 (errA p d)]) ∧ Kept w w' := by
  have HP := Lib.hid (show plantE p = 0 by simp [plantE, hp])
  have H1 := Lib.hid (show rng [d.kind] 1 7 = true by simp [rng, inB]; omega)
  have hw := i64_inx (n := d.kind) (by omega)
  have hn12 : p.cells.length ≤ 12 := (plantB_iff.1 hp).1
  have HFN := Lib.hid hfn
  have HACT := Lib.hid hact
  have HPP := Lib.hid hp
  have HE := Lib.hid he
  clear hfn hp he hact
  have hmf : ∀ (fn : Fn) (first cap : Array Value) (w : World), (Instr.makeFunc fn first cap).run Try.prog w = .ok (.func fn first cap) w := fun _ _ _ _ => rfl
  go_enter_defers Try.func9, Try.ntmps9
  go_upto_region 4 with (go_at_call 24; (with_reducible refine (f_Check p a cap _ (hx.later (by (exact kpt)) (Nat.le_refl _)) hc hM).mono ?_); rw [HP.out]; rintro e w1 ⟨rfl, hb1⟩; refine Blk.thru (b := w.heap.size) (arr := ?_) (t := ?_) ?_ hb1 ?_; rotate_left 2; (focus (exact blk)); intro rr; have rrc0 := rr.cell 0; have rrf0 := rr.free 0; have rrc1 := rr.cell 1; have rrf1 := rr.free 1; have rrc2 := rr.cell 2; have rrf2 := rr.free 2; have rrc3 := rr.cell 3; have rrf3 := rr.free 3; have rrc4 := rr.cell 4; have rrf4 := rr.free 4; have rrc5 := rr.cell 5; have rrf5 := rr.free 5; have rrc6 := rr.cell 6; have rrf6 := rr.free 6; have rrc7 := rr.cell 7; have rrf7 := rr.free 7; have rrc8 := rr.cell 8; have rrf8 := rr.free 8; have rrc9 := rr.cell 9; have rrf9 := rr.free 9; have rrl := rr.lt; simp at rrc0 rrc1 rrc2 rrc3 rrc4 rrc5 rrc6 rrc7 rrc8 rrc9; refine Blk.thru (b := (w.heap.size + 1)) (arr := ?_) (t := ?_) ?_ hb1 ?_; rotate_left 2; (focus (exact blk)); intro rq; have rqc0 := rq.cell 0; have rqf0 := rq.free 0; have rqc1 := rq.cell 1; have rqf1 := rq.free 1; have rqc2 := rq.cell 2; have rqf2 := rq.free 2; have rqc3 := rq.cell 3; have rqf3 := rq.free 3; have rql := rq.lt; simp at rqc0 rqc1 rqc2 rqc3)
  refine at_world (S := fun W => Blk W w.heap.size #[.slice a p.cells.length cap, .int .i64 p.bottles, .int .i64 p.inH, .int .i64 p.inA, .int .i64 p.vH, .int .i64 p.vA, .int .i64 p.lH, .int .i64 p.lA, .int .i64 p.pH, .int .i64 p.pA] 26 ∧ Blk W (w.heap.size + 1) #[.int .u8 d.kind, .int .i64 d.cell, .int .i64 d.to, .int .i64 d.n] 43 ∧ Blk W (w.heap.size + 1 + 1) #[.slice none 0 0, .int .i64 0, .int .i64 0, .int .i64 0, .int .i64 0, .int .i64 0, .int .i64 0, .int .i64 0, .int .i64 0, .int .i64 0] 26 ∧ Blk W (w.heap.size + 1 + 1 + 1) #[.int .i64 0] 36 ∧ Kept w W) ⟨by (exact blkc), by (exact blkc), by (exact blkc), by (exact blkc), by (exact kpt)⟩ ?_
  rintro W ⟨b0, b1, b2, b3, hk⟩
  have b0c0 := b0.cell 0
  have b0f0 := b0.free 0
  have b0c1 := b0.cell 1
  have b0f1 := b0.free 1
  have b0c2 := b0.cell 2
  have b0f2 := b0.free 2
  have b0c3 := b0.cell 3
  have b0f3 := b0.free 3
  have b0c4 := b0.cell 4
  have b0f4 := b0.free 4
  have b0c5 := b0.cell 5
  have b0f5 := b0.free 5
  have b0c6 := b0.cell 6
  have b0f6 := b0.free 6
  have b0c7 := b0.cell 7
  have b0f7 := b0.free 7
  have b0c8 := b0.cell 8
  have b0f8 := b0.free 8
  have b0c9 := b0.cell 9
  have b0f9 := b0.free 9
  have b0l := b0.lt
  simp at b0c0 b0c1 b0c2 b0c3 b0c4 b0c5 b0c6 b0c7 b0c8 b0c9
  have b1c0 := b1.cell 0
  have b1f0 := b1.free 0
  have b1c1 := b1.cell 1
  have b1f1 := b1.free 1
  have b1c2 := b1.cell 2
  have b1f2 := b1.free 2
  have b1c3 := b1.cell 3
  have b1f3 := b1.free 3
  have b1l := b1.lt
  simp at b1c0 b1c1 b1c2 b1c3
  have b2c0 := b2.cell 0
  have b2f0 := b2.free 0
  have b2c1 := b2.cell 1
  have b2f1 := b2.free 1
  have b2c2 := b2.cell 2
  have b2f2 := b2.free 2
  have b2c3 := b2.cell 3
  have b2f3 := b2.free 3
  have b2c4 := b2.cell 4
  have b2f4 := b2.free 4
  have b2c5 := b2.cell 5
  have b2f5 := b2.free 5
  have b2c6 := b2.cell 6
  have b2f6 := b2.free 6
  have b2c7 := b2.cell 7
  have b2f7 := b2.free 7
  have b2c8 := b2.cell 8
  have b2f8 := b2.free 8
  have b2c9 := b2.cell 9
  have b2f9 := b2.free 9
  have b2l := b2.lt
  simp at b2c0 b2c1 b2c2 b2c3 b2c4 b2c5 b2c6 b2c7 b2c8 b2c9
  have b3c0 := b3.cell 0
  have b3f0 := b3.free 0
  have b3l := b3.lt
  simp at b3c0
  go_upto_region 7 with (first | (go_at_call 34; (with_reducible refine (f_ranged1 _ _ d.kind _ _ _ (by simp)).mono ?_); rw [H1.out]; rintro e w1 ⟨rfl, rfl⟩) | (go_at_call 33; (with_reducible refine (f_need_ok _ _).mono ?_); rintro e w1 ⟨rfl, rfl⟩))
  clear b0c0 b0f0 b0c1 b0f1 b0c2 b0f2 b0c3 b0f3 b0c4 b0f4 b0c5 b0f5 b0c6 b0f6 b0c7 b0f7 b0c8 b0f8 b0c9 b0f9 b0l b1c0 b1f0 b1c1 b1f1 b1c2 b1f2 b1c3 b1f3 b1l b2c0 b2f0 b2c1 b2f1 b2c2 b2f2 b2c3 b2f3 b2c4 b2f4 b2c5 b2f5 b2c6 b2f6 b2c7 b2f7 b2c8 b2f8 b2c9 b2f9 b2l b3c0 b3f0 b3l
  refine at_world (S := fun X => Blk X w.heap.size #[.slice a p.cells.length cap, .int .i64 p.bottles, .int .i64 p.inH, .int .i64 p.inA, .int .i64 p.vH, .int .i64 p.vA, .int .i64 p.lH, .int .i64 p.lA, .int .i64 p.pH, .int .i64 p.pA] 26 ∧ Blk X (w.heap.size + 1) #[.int .u8 d.kind, .int .i64 d.cell, .int .i64 d.to, .int .i64 d.n] 43 ∧ Blk X (w.heap.size + 1 + 1) #[.slice none 0 0, .int .i64 0, .int .i64 0, .int .i64 0, .int .i64 0, .int .i64 0, .int .i64 0, .int .i64 0, .int .i64 0, .int .i64 0] 26 ∧ Blk X (w.heap.size + 1 + 1 + 1) #[.int .i64 0] 36 ∧ Blk X W.heap.size #[.nilFunc, .func (.func 26) #[] #[], .func (.func 27) #[] #[], .func (.func 28) #[] #[], .func (.func 29) #[] #[], .func (.func 30) #[] #[], .func (.func 31) #[] #[], .func (.func 32) #[] #[]] 86 ∧ Kept w X) ⟨by (exact blkc), by (exact blkc), by (exact blkc), by (exact blkc), by (exact blkc), by (exact kpt)⟩ ?_
  clear b0 b1 b2 b3 hk
  rintro X ⟨b0, b1, b2, b3, ba, hk⟩
  generalize W.heap.size = m at ba ⊢
  have b0c0 := b0.cell 0
  have b0f0 := b0.free 0
  have b0c1 := b0.cell 1
  have b0f1 := b0.free 1
  have b0c2 := b0.cell 2
  have b0f2 := b0.free 2
  have b0c3 := b0.cell 3
  have b0f3 := b0.free 3
  have b0c4 := b0.cell 4
  have b0f4 := b0.free 4
  have b0c5 := b0.cell 5
  have b0f5 := b0.free 5
  have b0c6 := b0.cell 6
  have b0f6 := b0.free 6
  have b0c7 := b0.cell 7
  have b0f7 := b0.free 7
  have b0c8 := b0.cell 8
  have b0f8 := b0.free 8
  have b0c9 := b0.cell 9
  have b0f9 := b0.free 9
  have b0l := b0.lt
  simp at b0c0 b0c1 b0c2 b0c3 b0c4 b0c5 b0c6 b0c7 b0c8 b0c9
  go_upto_region 9 with (go_at_call 35; (with_reducible refine (s_CloneC a cap p.cells _ (hx.later (by (exact kpt)) (Nat.le_refl _)) (by omega) hz).mono ?_); rintro e w2 ⟨v, rfl, hown, hb2⟩; obtain ⟨ad, cp, rfl, _⟩ := (Mine.of_owns hown).slice; refine Blk.thru (b := X.heap.size) (arr := ?_) (t := ?_) ?_ hb2 ?_; rotate_left 2; (focus (exact blk)); intro rs; have rsc0 := rs.cell 0; have rsf0 := rs.free 0; have rsc1 := rs.cell 1; have rsf1 := rs.free 1; have rsc2 := rs.cell 2; have rsf2 := rs.free 2; have rsc3 := rs.cell 3; have rsf3 := rs.free 3; have rsc4 := rs.cell 4; have rsf4 := rs.free 4; have rsc5 := rs.cell 5; have rsf5 := rs.free 5; have rsc6 := rs.cell 6; have rsf6 := rs.free 6; have rsc7 := rs.cell 7; have rsf7 := rs.free 7; have rsc8 := rs.cell 8; have rsf8 := rs.free 8; have rsc9 := rs.cell 9; have rsf9 := rs.free 9; have rsl := rs.lt; simp at rsc0 rsc1 rsc2 rsc3 rsc4 rsc5 rsc6 rsc7 rsc8 rsc9)
  have hsX := hk.size
  have l1 := b1.lt
  have l2 := b2.lt
  have l3 := b3.lt
  have la := ba.lt
  have x2 := rs.lt
  have hm2 := Mine.of_owns hown
  have xb1 := ((b1.alloc _).keep hb2)
  have xb2 := ((b2.alloc _).keep hb2)
  have xb3 := ((b3.alloc _).keep hb2)
  have xba := ((ba.alloc _).keep hb2)
  have hk2 := Kept.drop (Kept.alloc hk _) hb2
  refine at_world (S := fun Y => Blk Y (w.heap.size + 1) #[.int .u8 d.kind, .int .i64 d.cell, .int .i64 d.to, .int .i64 d.n] 43 ∧ Blk Y (w.heap.size + 1 + 1) #[.slice none 0 0, .int .i64 0, .int .i64 0, .int .i64 0, .int .i64 0, .int .i64 0, .int .i64 0, .int .i64 0, .int .i64 0, .int .i64 0] 26 ∧ Blk Y (w.heap.size + 1 + 1 + 1) #[.int .i64 0] 36 ∧ Blk Y m #[.nilFunc, .func (.func 26) #[] #[], .func (.func 27) #[] #[], .func (.func 28) #[] #[], .func (.func 29) #[] #[], .func (.func 30) #[] #[], .func (.func 31) #[] #[], .func (.func 32) #[] #[]] 86 ∧ Shop 54 89 X.heap.size Y X.heap.size ad cp p ∧ Kept w Y ∧ w.heap.size + 1 + 1 + 1 < X.heap.size) ⟨xb1.other (by simp; omega) _, xb2.other (by simp; omega) _, xb3.other (by simp; omega) _, xba.other (by simp; omega) _, ⟨Nat.le_refl _, (rs.set 0 _).cast (by simp [plantCells]), (hm2.base (by simp)).other rs (by decide) _⟩, hk2.setCell hk.size _, b3.lt⟩ ?_
  clear l1 l2 l3 la b0 b1 b2 b3 ba hk xb1 xb2 xb3 xba hk2 hsX hm2 x2 rs hown hb2 b0c0 b0f0 b0c1 b0f1 b0c2 b0f2 b0c3 b0f3 b0c4 b0f4 b0c5 b0f5 b0c6 b0f6 b0c7 b0f7 b0c8 b0f8 b0c9 b0f9 b0l
  rintro Y ⟨b1, b2, b3, ba, hsh, hk, hs⟩
  generalize X.heap.size = s at hs hsh ⊢
  have b1c0 := fun g : Later Y => (b1.later g).cell 0
  have b1f0 := fun g : Later Y => (b1.later g).free 0
  have b1c1 := fun g : Later Y => (b1.later g).cell 1
  have b1f1 := fun g : Later Y => (b1.later g).free 1
  have b1c2 := fun g : Later Y => (b1.later g).cell 2
  have b1f2 := fun g : Later Y => (b1.later g).free 2
  have b1c3 := fun g : Later Y => (b1.later g).cell 3
  have b1f3 := fun g : Later Y => (b1.later g).free 3
  have b1l := fun g : Later Y => (b1.later g).lt
  simp at b1c0 b1c1 b1c2 b1c3
  have ya : ∀ g : Later Y, g.val.cell? ⟨m, d.kind.toNat, none⟩ = some (.func (.func fn) #[] #[]) := fun g => by rw [(ba.later g).cell]; exact HFN.out
  refine Later.tail 6 (by kernel_rfl) (by kernel_rfl) ?_
  simp only [List.take_succ_cons, List.take_zero, List.drop_succ_cons, List.drop_zero]
  repeat (first | go_big_quiet_skip | (go_big_quiet_want; go_big_quiet_op; first | go_big_quiet_on | (apply Exists.intro; refine ⟨fun g_ => ?_, ?_⟩; (focus (first | fail)); go_big_quiet_on)))
  refine wpQuiet_nil ?_
  intro gg
  refine wpList_plain rfl fun K1 hK1 => ?_
  have n2 := b2.later gg
  have n3 := b3.later gg
  have hkg := Kept.drop hk gg.ok
  clear b1c0 b1f0 b1c1 b1f1 b1c2 b1f2 b1c3 b1f3 b1l
  go_wp2_with ((with_reducible refine (HACT.out _ _ _ _ _ (hsh.keep gg.ok)).mono ?_); rintro e w5 ⟨rfl, hb5⟩)
  have n2 := n2.keep hb5
  have n3 := n3.keep hb5
  have hkg := Kept.drop hkg hb5
  refine leaves_cons (f := 25) (args := #[.pointer (some ⟨w.heap.size + 1 + 1, 0, none⟩), .pointer (some ⟨w.heap.size + 1 + 1 + 1, 0, none⟩)]) (by simp) (by simp [go_sem]) ?_
  refine (catch_panics _ _ (errA p d) _ (by (exact blkc)) (by (exact blkc))).mono ?_
  rintro e u' w'' ⟨rfl, rfl, k1, k2, kb⟩
  have k1c0 := k1.cell 0
  have k1f0 := k1.free 0
  have k1c1 := k1.cell 1
  have k1f1 := k1.free 1
  have k1c2 := k1.cell 2
  have k1f2 := k1.free 2
  have k1c3 := k1.cell 3
  have k1f3 := k1.free 3
  have k1c4 := k1.cell 4
  have k1f4 := k1.free 4
  have k1c5 := k1.cell 5
  have k1f5 := k1.free 5
  have k1c6 := k1.cell 6
  have k1f6 := k1.free 6
  have k1c7 := k1.cell 7
  have k1f7 := k1.free 7
  have k1c8 := k1.cell 8
  have k1f8 := k1.free 8
  have k1c9 := k1.cell 9
  have k1f9 := k1.free 9
  have k1l := k1.lt
  simp at k1c0 k1c1 k1c2 k1c3 k1c4 k1c5 k1c6 k1c7 k1c8 k1c9
  have k2c0 := k2.cell 0
  have k2f0 := k2.free 0
  have k2l := k2.lt
  simp at k2c0
  exact (show ∃ v, (results _ _).run _ _ = .ok v _ ∧ _ from ⟨.tuple #[.agg #[.slice none 0 0, .int .i64 0, .int .i64 0, .int .i64 0, .int .i64 0, .int .i64 0, .int .i64 0, .int .i64 0, .int .i64 0, .int .i64 0], .int .i64 (errA p d)], by simp [results, Try.results9, go_sem, k1c0, k1f0, k1c1, k1f1, k1c2, k1f2, k1c3, k1f3, k1c4, k1f4, k1c5, k1f5, k1c6, k1f6, k1c7, k1f7, k1c8, k1f8, k1c9, k1f9, k2c0, k2f0], rfl, by exact Below.trans (by (exact kpt)) (kb _ (by omega) (by omega))⟩)
theorem f_DoX_ok (p : Plant) (d : Deed) (a : Option Addr) (cap : Nat) (w : World) (hx : Row Cell.cells 7 w.heap.size w a p.cells) (hc : p.cells.length ≤ cap) (hM : cap ≤ maxLen) (hz : a = none → cap = 0) (fn : FuncId) (hcf : ∀ (args : Array Value) (w : World), (callFunc fn args).run Try.prog w = .ok (.enter fn args) w) (hp : plantB p = true) (hk17 : 1 ≤ d.kind ∧ d.kind ≤ 7) (hfn : (#[.nilFunc, .func (.func 26) #[] #[], .func (.func 27) #[] #[], .func (.func 28) #[] #[], .func (.func 29) #[] #[], .func (.func 30) #[] #[], .func (.func 31) #[] #[], .func (.func 32) #[] #[]] : Array Value)[d.kind.toNat]? = some (.func (.func fn) #[] #[])) (he : errA p d = 0) (hact : ∀ (B s cp : Nat) (ad : Option Addr) (w : World), Shop 54 89 B w s ad cp p → Calls Try.prog fn #[.pointer (some ⟨s, 0, none⟩), .agg #[.int .u8 d.kind, .int .i64 d.cell, .int .i64 d.to, .int .i64 d.n]] w fun e w' => e = .returned (.tuple #[]) ∧ Shop 54 89 B w' s ad cp (resA p d) ∧ Below B w w') : Calls Try.prog 9 #[.agg #[.slice a p.cells.length cap, .int .i64 p.bottles, .int .i64 p.inH, .int .i64 p.inA, .int .i64 p.vH, .int .i64 p.vA, .int .i64 p.lH, .int .i64 p.lA, .int .i64 p.pH, .int .i64 p.pA], .agg #[.int .u8 d.kind, .int .i64 d.cell, .int .i64 d.to, .int .i64 d.n]] w fun e w' => ∃ v, e = .returned (.tuple #[.agg #[v, .int .i64 (endQ (resA p d)).bottles, .int .i64 (endQ (resA p d)).inH, .int .i64 (endQ (resA p d)).inA, .int .i64 (endQ (resA p d)).vH, .int .i64 (endQ (resA p d)).vA, .int .i64 (endQ (resA p d)).lH, .int .i64 (endQ (resA p d)).lA, .int .i64 (endQ (resA p d)).pH, .int .i64 (endQ (resA p d)).pA], .int .i64 (endE (resA p d))]) ∧ Mine 54 w.heap.size w' v ((endQ (resA p d))).cells ∧ Kept w w' := by
  obtain ⟨Q, hQ⟩ : ∃ Q, Q = resA p d := ⟨_, rfl⟩
  rw [← hQ]
  have HQ := Lib.hid hQ
  clear hQ
  have HP := Lib.hid (show plantE p = 0 by simp [plantE, hp])
  have H1 := Lib.hid (show rng [d.kind] 1 7 = true by simp [rng, inB]; omega)
  have hw := i64_inx (n := d.kind) (by omega)
  have hn12 : p.cells.length ≤ 12 := (plantB_iff.1 hp).1
  have HFN := Lib.hid hfn
  have HACT := Lib.hid hact
  have HPP := Lib.hid hp
  have HE := Lib.hid he
  clear hfn hp he hact
  have hmf : ∀ (fn : Fn) (first cap : Array Value) (w : World), (Instr.makeFunc fn first cap).run Try.prog w = .ok (.func fn first cap) w := fun _ _ _ _ => rfl
  go_enter_defers Try.func9, Try.ntmps9
  go_upto_region 4 with (go_at_call 24; (with_reducible refine (f_Check p a cap _ (hx.later (by (exact kpt)) (Nat.le_refl _)) hc hM).mono ?_); rw [HP.out]; rintro e w1 ⟨rfl, hb1⟩; refine Blk.thru (b := w.heap.size) (arr := ?_) (t := ?_) ?_ hb1 ?_; rotate_left 2; (focus (exact blk)); intro rr; have rrc0 := rr.cell 0; have rrf0 := rr.free 0; have rrc1 := rr.cell 1; have rrf1 := rr.free 1; have rrc2 := rr.cell 2; have rrf2 := rr.free 2; have rrc3 := rr.cell 3; have rrf3 := rr.free 3; have rrc4 := rr.cell 4; have rrf4 := rr.free 4; have rrc5 := rr.cell 5; have rrf5 := rr.free 5; have rrc6 := rr.cell 6; have rrf6 := rr.free 6; have rrc7 := rr.cell 7; have rrf7 := rr.free 7; have rrc8 := rr.cell 8; have rrf8 := rr.free 8; have rrc9 := rr.cell 9; have rrf9 := rr.free 9; have rrl := rr.lt; simp at rrc0 rrc1 rrc2 rrc3 rrc4 rrc5 rrc6 rrc7 rrc8 rrc9; refine Blk.thru (b := (w.heap.size + 1)) (arr := ?_) (t := ?_) ?_ hb1 ?_; rotate_left 2; (focus (exact blk)); intro rq; have rqc0 := rq.cell 0; have rqf0 := rq.free 0; have rqc1 := rq.cell 1; have rqf1 := rq.free 1; have rqc2 := rq.cell 2; have rqf2 := rq.free 2; have rqc3 := rq.cell 3; have rqf3 := rq.free 3; have rql := rq.lt; simp at rqc0 rqc1 rqc2 rqc3)
  refine at_world (S := fun W => Blk W w.heap.size #[.slice a p.cells.length cap, .int .i64 p.bottles, .int .i64 p.inH, .int .i64 p.inA, .int .i64 p.vH, .int .i64 p.vA, .int .i64 p.lH, .int .i64 p.lA, .int .i64 p.pH, .int .i64 p.pA] 26 ∧ Blk W (w.heap.size + 1) #[.int .u8 d.kind, .int .i64 d.cell, .int .i64 d.to, .int .i64 d.n] 43 ∧ Blk W (w.heap.size + 1 + 1) #[.slice none 0 0, .int .i64 0, .int .i64 0, .int .i64 0, .int .i64 0, .int .i64 0, .int .i64 0, .int .i64 0, .int .i64 0, .int .i64 0] 26 ∧ Blk W (w.heap.size + 1 + 1 + 1) #[.int .i64 0] 36 ∧ Kept w W) ⟨by (exact blkc), by (exact blkc), by (exact blkc), by (exact blkc), by (exact kpt)⟩ ?_
  rintro W ⟨b0, b1, b2, b3, hk⟩
  have b0c0 := b0.cell 0
  have b0f0 := b0.free 0
  have b0c1 := b0.cell 1
  have b0f1 := b0.free 1
  have b0c2 := b0.cell 2
  have b0f2 := b0.free 2
  have b0c3 := b0.cell 3
  have b0f3 := b0.free 3
  have b0c4 := b0.cell 4
  have b0f4 := b0.free 4
  have b0c5 := b0.cell 5
  have b0f5 := b0.free 5
  have b0c6 := b0.cell 6
  have b0f6 := b0.free 6
  have b0c7 := b0.cell 7
  have b0f7 := b0.free 7
  have b0c8 := b0.cell 8
  have b0f8 := b0.free 8
  have b0c9 := b0.cell 9
  have b0f9 := b0.free 9
  have b0l := b0.lt
  simp at b0c0 b0c1 b0c2 b0c3 b0c4 b0c5 b0c6 b0c7 b0c8 b0c9
  have b1c0 := b1.cell 0
  have b1f0 := b1.free 0
  have b1c1 := b1.cell 1
  have b1f1 := b1.free 1
  have b1c2 := b1.cell 2
  have b1f2 := b1.free 2
  have b1c3 := b1.cell 3
  have b1f3 := b1.free 3
  have b1l := b1.lt
  simp at b1c0 b1c1 b1c2 b1c3
  have b2c0 := b2.cell 0
  have b2f0 := b2.free 0
  have b2c1 := b2.cell 1
  have b2f1 := b2.free 1
  have b2c2 := b2.cell 2
  have b2f2 := b2.free 2
  have b2c3 := b2.cell 3
  have b2f3 := b2.free 3
  have b2c4 := b2.cell 4
  have b2f4 := b2.free 4
  have b2c5 := b2.cell 5
  have b2f5 := b2.free 5
  have b2c6 := b2.cell 6
  have b2f6 := b2.free 6
  have b2c7 := b2.cell 7
  have b2f7 := b2.free 7
  have b2c8 := b2.cell 8
  have b2f8 := b2.free 8
  have b2c9 := b2.cell 9
  have b2f9 := b2.free 9
  have b2l := b2.lt
  simp at b2c0 b2c1 b2c2 b2c3 b2c4 b2c5 b2c6 b2c7 b2c8 b2c9
  have b3c0 := b3.cell 0
  have b3f0 := b3.free 0
  have b3l := b3.lt
  simp at b3c0
  go_upto_region 7 with (first | (go_at_call 34; (with_reducible refine (f_ranged1 _ _ d.kind _ _ _ (by simp)).mono ?_); rw [H1.out]; rintro e w1 ⟨rfl, rfl⟩) | (go_at_call 33; (with_reducible refine (f_need_ok _ _).mono ?_); rintro e w1 ⟨rfl, rfl⟩))
  clear b0c0 b0f0 b0c1 b0f1 b0c2 b0f2 b0c3 b0f3 b0c4 b0f4 b0c5 b0f5 b0c6 b0f6 b0c7 b0f7 b0c8 b0f8 b0c9 b0f9 b0l b1c0 b1f0 b1c1 b1f1 b1c2 b1f2 b1c3 b1f3 b1l b2c0 b2f0 b2c1 b2f1 b2c2 b2f2 b2c3 b2f3 b2c4 b2f4 b2c5 b2f5 b2c6 b2f6 b2c7 b2f7 b2c8 b2f8 b2c9 b2f9 b2l b3c0 b3f0 b3l
  refine at_world (S := fun X => Blk X w.heap.size #[.slice a p.cells.length cap, .int .i64 p.bottles, .int .i64 p.inH, .int .i64 p.inA, .int .i64 p.vH, .int .i64 p.vA, .int .i64 p.lH, .int .i64 p.lA, .int .i64 p.pH, .int .i64 p.pA] 26 ∧ Blk X (w.heap.size + 1) #[.int .u8 d.kind, .int .i64 d.cell, .int .i64 d.to, .int .i64 d.n] 43 ∧ Blk X (w.heap.size + 1 + 1) #[.slice none 0 0, .int .i64 0, .int .i64 0, .int .i64 0, .int .i64 0, .int .i64 0, .int .i64 0, .int .i64 0, .int .i64 0, .int .i64 0] 26 ∧ Blk X (w.heap.size + 1 + 1 + 1) #[.int .i64 0] 36 ∧ Blk X W.heap.size #[.nilFunc, .func (.func 26) #[] #[], .func (.func 27) #[] #[], .func (.func 28) #[] #[], .func (.func 29) #[] #[], .func (.func 30) #[] #[], .func (.func 31) #[] #[], .func (.func 32) #[] #[]] 86 ∧ Kept w X) ⟨by (exact blkc), by (exact blkc), by (exact blkc), by (exact blkc), by (exact blkc), by (exact kpt)⟩ ?_
  clear b0 b1 b2 b3 hk
  rintro X ⟨b0, b1, b2, b3, ba, hk⟩
  generalize W.heap.size = m at ba ⊢
  have b0c0 := b0.cell 0
  have b0f0 := b0.free 0
  have b0c1 := b0.cell 1
  have b0f1 := b0.free 1
  have b0c2 := b0.cell 2
  have b0f2 := b0.free 2
  have b0c3 := b0.cell 3
  have b0f3 := b0.free 3
  have b0c4 := b0.cell 4
  have b0f4 := b0.free 4
  have b0c5 := b0.cell 5
  have b0f5 := b0.free 5
  have b0c6 := b0.cell 6
  have b0f6 := b0.free 6
  have b0c7 := b0.cell 7
  have b0f7 := b0.free 7
  have b0c8 := b0.cell 8
  have b0f8 := b0.free 8
  have b0c9 := b0.cell 9
  have b0f9 := b0.free 9
  have b0l := b0.lt
  simp at b0c0 b0c1 b0c2 b0c3 b0c4 b0c5 b0c6 b0c7 b0c8 b0c9
  go_upto_region 9 with (go_at_call 35; (with_reducible refine (s_CloneC a cap p.cells _ (hx.later (by (exact kpt)) (Nat.le_refl _)) (by omega) hz).mono ?_); rintro e w2 ⟨v, rfl, hown, hb2⟩; obtain ⟨ad, cp, rfl, _⟩ := (Mine.of_owns hown).slice; refine Blk.thru (b := X.heap.size) (arr := ?_) (t := ?_) ?_ hb2 ?_; rotate_left 2; (focus (exact blk)); intro rs; have rsc0 := rs.cell 0; have rsf0 := rs.free 0; have rsc1 := rs.cell 1; have rsf1 := rs.free 1; have rsc2 := rs.cell 2; have rsf2 := rs.free 2; have rsc3 := rs.cell 3; have rsf3 := rs.free 3; have rsc4 := rs.cell 4; have rsf4 := rs.free 4; have rsc5 := rs.cell 5; have rsf5 := rs.free 5; have rsc6 := rs.cell 6; have rsf6 := rs.free 6; have rsc7 := rs.cell 7; have rsf7 := rs.free 7; have rsc8 := rs.cell 8; have rsf8 := rs.free 8; have rsc9 := rs.cell 9; have rsf9 := rs.free 9; have rsl := rs.lt; simp at rsc0 rsc1 rsc2 rsc3 rsc4 rsc5 rsc6 rsc7 rsc8 rsc9)
  have hsX := hk.size
  have l1 := b1.lt
  have l2 := b2.lt
  have l3 := b3.lt
  have la := ba.lt
  have x2 := rs.lt
  have hm2 := Mine.of_owns hown
  have xb1 := ((b1.alloc _).keep hb2)
  have xb2 := ((b2.alloc _).keep hb2)
  have xb3 := ((b3.alloc _).keep hb2)
  have xba := ((ba.alloc _).keep hb2)
  have hk2 := Kept.drop (Kept.alloc hk _) hb2
  refine at_world (S := fun Y => Blk Y (w.heap.size + 1) #[.int .u8 d.kind, .int .i64 d.cell, .int .i64 d.to, .int .i64 d.n] 43 ∧ Blk Y (w.heap.size + 1 + 1) #[.slice none 0 0, .int .i64 0, .int .i64 0, .int .i64 0, .int .i64 0, .int .i64 0, .int .i64 0, .int .i64 0, .int .i64 0, .int .i64 0] 26 ∧ Blk Y (w.heap.size + 1 + 1 + 1) #[.int .i64 0] 36 ∧ Blk Y m #[.nilFunc, .func (.func 26) #[] #[], .func (.func 27) #[] #[], .func (.func 28) #[] #[], .func (.func 29) #[] #[], .func (.func 30) #[] #[], .func (.func 31) #[] #[], .func (.func 32) #[] #[]] 86 ∧ Shop 54 89 X.heap.size Y X.heap.size ad cp p ∧ Kept w Y ∧ w.heap.size + 1 + 1 + 1 < X.heap.size) ⟨xb1.other (by simp; omega) _, xb2.other (by simp; omega) _, xb3.other (by simp; omega) _, xba.other (by simp; omega) _, ⟨Nat.le_refl _, (rs.set 0 _).cast (by simp [plantCells]), (hm2.base (by simp)).other rs (by decide) _⟩, hk2.setCell hk.size _, b3.lt⟩ ?_
  clear l1 l2 l3 la b0 b1 b2 b3 ba hk xb1 xb2 xb3 xba hk2 hsX hm2 x2 rs hown hb2 b0c0 b0f0 b0c1 b0f1 b0c2 b0f2 b0c3 b0f3 b0c4 b0f4 b0c5 b0f5 b0c6 b0f6 b0c7 b0f7 b0c8 b0f8 b0c9 b0f9 b0l
  rintro Y ⟨b1, b2, b3, ba, hsh, hk, hs⟩
  generalize X.heap.size = s at hs hsh ⊢
  have b1c0 := fun g : Later Y => (b1.later g).cell 0
  have b1f0 := fun g : Later Y => (b1.later g).free 0
  have b1c1 := fun g : Later Y => (b1.later g).cell 1
  have b1f1 := fun g : Later Y => (b1.later g).free 1
  have b1c2 := fun g : Later Y => (b1.later g).cell 2
  have b1f2 := fun g : Later Y => (b1.later g).free 2
  have b1c3 := fun g : Later Y => (b1.later g).cell 3
  have b1f3 := fun g : Later Y => (b1.later g).free 3
  have b1l := fun g : Later Y => (b1.later g).lt
  simp at b1c0 b1c1 b1c2 b1c3
  have ya : ∀ g : Later Y, g.val.cell? ⟨m, d.kind.toNat, none⟩ = some (.func (.func fn) #[] #[]) := fun g => by rw [(ba.later g).cell]; exact HFN.out
  refine Later.tail 6 (by kernel_rfl) (by kernel_rfl) ?_
  simp only [List.take_succ_cons, List.take_zero, List.drop_succ_cons, List.drop_zero]
  repeat (first | go_big_quiet_skip | (go_big_quiet_want; go_big_quiet_op; first | go_big_quiet_on | (apply Exists.intro; refine ⟨fun g_ => ?_, ?_⟩; (focus (first | fail)); go_big_quiet_on)))
  refine wpQuiet_nil ?_
  intro gg
  refine wpList_plain rfl fun K1 hK1 => ?_
  have n2 := b2.later gg
  have n3 := b3.later gg
  have hkg := Kept.drop hk gg.ok
  clear b1c0 b1f0 b1c1 b1f1 b1c2 b1f2 b1c3 b1f3 b1l
  go_upto_region 10 with ((with_reducible refine (HACT.out _ _ _ _ _ (hsh.keep gg.ok)).mono ?_); rintro e w5 ⟨rfl, hsh5, hb5⟩)
  refine at_world (S := fun Z => Blk Z (w.heap.size + 1 + 1) #[.slice none 0 0, .int .i64 0, .int .i64 0, .int .i64 0, .int .i64 0, .int .i64 0, .int .i64 0, .int .i64 0, .int .i64 0, .int .i64 0] 26 ∧ Blk Z (w.heap.size + 1 + 1 + 1) #[.int .i64 0] 36 ∧ Blk Z s #[.slice ad Q.cells.length cp, .int .i64 Q.bottles, .int .i64 Q.inH, .int .i64 Q.inA, .int .i64 Q.vH, .int .i64 Q.vA, .int .i64 Q.lH, .int .i64 Q.lA, .int .i64 Q.pH, .int .i64 Q.pA] 89 ∧ Mine 54 s Z (.slice ad Q.cells.length cp) Q.cells ∧ Kept w Z) ⟨blk_below n2 hb5 (by omega), blk_below n3 hb5 (by omega), by rw [HQ.out]; exact hsh5.2.1, by rw [HQ.out]; exact hsh5.2.2, hkg.trans (hb5.mono (by omega))⟩ ?_
  clear b1 b2 b3 ba hk hsh n2 n3 hkg hsh5 hb5
  rintro Z ⟨b2, b3, r3, hm, hk⟩
  have r3c0 := r3.cell 0
  have r3f0 := r3.free 0
  have r3c1 := r3.cell 1
  have r3f1 := r3.free 1
  have r3c2 := r3.cell 2
  have r3f2 := r3.free 2
  have r3c3 := r3.cell 3
  have r3f3 := r3.free 3
  have r3c4 := r3.cell 4
  have r3f4 := r3.free 4
  have r3c5 := r3.cell 5
  have r3f5 := r3.free 5
  have r3c6 := r3.cell 6
  have r3f6 := r3.free 6
  have r3c7 := r3.cell 7
  have r3f7 := r3.free 7
  have r3c8 := r3.cell 8
  have r3f8 := r3.free 8
  have r3c9 := r3.cell 9
  have r3f9 := r3.free 9
  have r3l := r3.lt
  simp at r3c0 r3c1 r3c2 r3c3 r3c4 r3c5 r3c6 r3c7 r3c8 r3c9
  cases hpq : plantB Q
  · have HPQ := Lib.hid (show plantE Q = 32 by simp [plantE, hpq])
    have HPB := Lib.hid hpq
    clear hpq
    go_wp2_with (first | (go_at_call 24; (with_reducible refine (f_CheckK hm).mono ?_); rw [HPQ.out]; rintro e w6 ⟨rfl, hb6⟩) | (go_at_call 33; (with_reducible refine (f_need_no _ _).mono ?_); rintro e w1 ⟨rfl, rfl⟩))
    have n2 := b2.keep hb6
    have n3 := b3.keep hb6
    have hkg := Kept.drop hk hb6
    clear b2 b3 hk
    skip
    refine leaves_cons (f := 25) (args := #[.pointer (some ⟨w.heap.size + 1 + 1, 0, none⟩), .pointer (some ⟨w.heap.size + 1 + 1 + 1, 0, none⟩)]) (by simp) (by simp [go_sem]) ?_
    refine (catch_panics _ _ 9 _ (by (exact blkc)) (by (exact blkc))).mono ?_
    rintro e u' w'' ⟨rfl, rfl, k1, k2, kb⟩
    have k1c0 := k1.cell 0
    have k1f0 := k1.free 0
    have k1c1 := k1.cell 1
    have k1f1 := k1.free 1
    have k1c2 := k1.cell 2
    have k1f2 := k1.free 2
    have k1c3 := k1.cell 3
    have k1f3 := k1.free 3
    have k1c4 := k1.cell 4
    have k1f4 := k1.free 4
    have k1c5 := k1.cell 5
    have k1f5 := k1.free 5
    have k1c6 := k1.cell 6
    have k1f6 := k1.free 6
    have k1c7 := k1.cell 7
    have k1f7 := k1.free 7
    have k1c8 := k1.cell 8
    have k1f8 := k1.free 8
    have k1c9 := k1.cell 9
    have k1f9 := k1.free 9
    have k1l := k1.lt
    simp at k1c0 k1c1 k1c2 k1c3 k1c4 k1c5 k1c6 k1c7 k1c8 k1c9
    have k2c0 := k2.cell 0
    have k2f0 := k2.free 0
    have k2l := k2.lt
    simp at k2c0
    refine (show ∃ v, (results _ _).run _ _ = .ok v _ ∧ _ from ⟨.tuple #[.agg #[.slice none 0 0, .int .i64 0, .int .i64 0, .int .i64 0, .int .i64 0, .int .i64 0, .int .i64 0, .int .i64 0, .int .i64 0, .int .i64 0], .int .i64 9], by simp [results, Try.results9, go_sem, k1c0, k1f0, k1c1, k1f1, k1c2, k1f2, k1c3, k1f3, k1c4, k1f4, k1c5, k1f5, k1c6, k1f6, k1c7, k1f7, k1c8, k1f8, k1c9, k1f9, k2c0, k2f0], .slice none 0 0, by simp [endQ, endE, HPB.out, noPlant], by rw [show endQ Q = noPlant by simp [endQ, HPB.out]]; exact Mine.zero, by exact Below.trans (by (exact kpt)) (kb _ (by omega) (by omega))⟩)
  · have HPQ := Lib.hid (show plantE Q = 0 by simp [plantE, hpq])
    have HPB := Lib.hid hpq
    clear hpq
    go_upto_region 11 with (first | (go_at_call 24; (with_reducible refine (f_CheckK hm).mono ?_); rw [HPQ.out]; rintro e w6 ⟨rfl, hb6⟩) | (go_at_call 33; (with_reducible refine (f_need_ok _ _).mono ?_); rintro e w1 ⟨rfl, rfl⟩))
    clear r3c0 r3f0 r3c1 r3f1 r3c2 r3f2 r3c3 r3f3 r3c4 r3f4 r3c5 r3f5 r3c6 r3f6 r3c7 r3f7 r3c8 r3f8 r3c9 r3f9 r3l
    refine at_world (S := fun U => Blk U (w.heap.size + 1 + 1) #[.slice none 0 0, .int .i64 0, .int .i64 0, .int .i64 0, .int .i64 0, .int .i64 0, .int .i64 0, .int .i64 0, .int .i64 0, .int .i64 0] 26 ∧ Blk U (w.heap.size + 1 + 1 + 1) #[.int .i64 0] 36 ∧ Blk U s #[.slice ad Q.cells.length cp, .int .i64 Q.bottles, .int .i64 Q.inH, .int .i64 Q.inA, .int .i64 Q.vH, .int .i64 Q.vA, .int .i64 Q.lH, .int .i64 Q.lA, .int .i64 Q.pH, .int .i64 Q.pA] 89 ∧ Mine 54 s U (.slice ad Q.cells.length cp) Q.cells ∧ Kept w U) ⟨b2.keep hb6, b3.keep hb6, r3.keep hb6, hm.keep hb6, Kept.drop hk hb6⟩ ?_
    clear b2 b3 r3 hm hk hb6
    rintro U ⟨b2, b3, r3, hm, hk⟩
    have b2c0 := b2.cell 0
    have b2f0 := b2.free 0
    have b2c1 := b2.cell 1
    have b2f1 := b2.free 1
    have b2c2 := b2.cell 2
    have b2f2 := b2.free 2
    have b2c3 := b2.cell 3
    have b2f3 := b2.free 3
    have b2c4 := b2.cell 4
    have b2f4 := b2.free 4
    have b2c5 := b2.cell 5
    have b2f5 := b2.free 5
    have b2c6 := b2.cell 6
    have b2f6 := b2.free 6
    have b2c7 := b2.cell 7
    have b2f7 := b2.free 7
    have b2c8 := b2.cell 8
    have b2f8 := b2.free 8
    have b2c9 := b2.cell 9
    have b2f9 := b2.free 9
    have b2l := b2.lt
    simp at b2c0 b2c1 b2c2 b2c3 b2c4 b2c5 b2c6 b2c7 b2c8 b2c9
    have b3c0 := b3.cell 0
    have b3f0 := b3.free 0
    have b3l := b3.lt
    simp at b3c0
    have r3c0 := r3.cell 0
    have r3f0 := r3.free 0
    have r3c1 := r3.cell 1
    have r3f1 := r3.free 1
    have r3c2 := r3.cell 2
    have r3f2 := r3.free 2
    have r3c3 := r3.cell 3
    have r3f3 := r3.free 3
    have r3c4 := r3.cell 4
    have r3f4 := r3.free 4
    have r3c5 := r3.cell 5
    have r3f5 := r3.free 5
    have r3c6 := r3.cell 6
    have r3f6 := r3.free 6
    have r3c7 := r3.cell 7
    have r3f7 := r3.free 7
    have r3c8 := r3.cell 8
    have r3f8 := r3.free 8
    have r3c9 := r3.cell 9
    have r3f9 := r3.free 9
    have r3l := r3.lt
    simp at r3c0 r3c1 r3c2 r3c3 r3c4 r3c5 r3c6 r3c7 r3c8 r3c9
    go_wp2
    refine leaves_cons (f := 25) (args := #[.pointer (some ⟨w.heap.size + 1 + 1, 0, none⟩), .pointer (some ⟨w.heap.size + 1 + 1 + 1, 0, none⟩)]) (by simp) (by simp [go_sem]) ?_
    refine (catch_idle _ _ _).mono ?_
    rintro e u' w'' ⟨rfl, rfl, rfl⟩
    refine (show ∃ v, (results _ _).run _ _ = .ok v _ ∧ _ from ⟨.tuple #[.agg #[.slice ad Q.cells.length cp, .int .i64 Q.bottles, .int .i64 Q.inH, .int .i64 Q.inA, .int .i64 Q.vH, .int .i64 Q.vA, .int .i64 Q.lH, .int .i64 Q.lA, .int .i64 Q.pH, .int .i64 Q.pA], .int .i64 0], by simp [results, Try.results9, go_sem, b2c0, b2f0, b2c1, b2f1, b2c2, b2f2, b2c3, b2f3, b2c4, b2f4, b2c5, b2f5, b2c6, b2f6, b2c7, b2f7, b2c8, b2f8, b2c9, b2f9, b3c0, b3f0], .slice ad Q.cells.length cp, by simp [endQ, endE, HPB.out], ?_, by (exact kpt)⟩)
    rw [show endQ Q = Q by simp [endQ, HPB.out]]
    have hne := hm.ne b2 (by decide)
    have hne3 := hm.ne b3 (by decide)
    (repeat (first | with_reducible refine Mine.off ?_ hne _ | with_reducible refine Mine.off ?_ hne3 _))
    exact hm.base (by omega)

end Go.Proofs.Ytnfhcpnpjkefmaa

/-
  The program: Do.
-/
namespace Go.Proofs.Ytnfhcpnpjkefmaa
open Go.RowKit Bal Bal.Trim Bal.Gas
set_option linter.unusedVariables false
set_option linter.unusedSimpArgs false
set_option maxHeartbeats 8000000

theorem f_zero_end {p : Plant} {d : Deed} {a : Option Addr} {cap : Nat} {w : World} {n : Int} (h : Calls Try.prog 9 #[.agg #[.slice a p.cells.length cap, .int .i64 p.bottles, .int .i64 p.inH, .int .i64 p.inA, .int .i64 p.vH, .int .i64 p.vA, .int .i64 p.lH, .int .i64 p.lA, .int .i64 p.pH, .int .i64 p.pA], .agg #[.int .u8 d.kind, .int .i64 d.cell, .int .i64 d.to, .int .i64 d.n]] w fun e w' => e = .returned (.tuple #[.agg #[.slice none 0 0, .int .i64 0, .int .i64 0, .int .i64 0, .int .i64 0, .int .i64 0, .int .i64 0, .int .i64 0, .int .i64 0, .int .i64 0], .int .i64 n]) ∧ Kept w w') : Calls Try.prog 9 #[.agg #[.slice a p.cells.length cap, .int .i64 p.bottles, .int .i64 p.inH, .int .i64 p.inA, .int .i64 p.vH, .int .i64 p.vA, .int .i64 p.lH, .int .i64 p.lA, .int .i64 p.pH, .int .i64 p.pA], .agg #[.int .u8 d.kind, .int .i64 d.cell, .int .i64 d.to, .int .i64 d.n]] w fun e w' => ∃ v, e = .returned (.tuple #[.agg #[v, .int .i64 (noPlant).bottles, .int .i64 (noPlant).inH, .int .i64 (noPlant).inA, .int .i64 (noPlant).vH, .int .i64 (noPlant).vA, .int .i64 (noPlant).lH, .int .i64 (noPlant).lA, .int .i64 (noPlant).pH, .int .i64 (noPlant).pA], .int .i64 (n)]) ∧ Mine 54 w.heap.size w' v (noPlant).cells ∧ Kept w w' := by
  refine h.mono ?_
  rintro e w' ⟨rfl, hk⟩
  exact ⟨.slice none 0 0, rfl, Mine.zero, hk⟩
theorem f_Do (p : Plant) (d : Deed) (a : Option Addr) (cap : Nat) (w : World) (hx : Row Cell.cells 7 w.heap.size w a p.cells) (hc : p.cells.length ≤ cap) (hM : cap ≤ maxLen) (hz : a = none → cap = 0) (hu : 0 ≤ d.kind ∧ d.kind ≤ 255) : Calls Try.prog 9 #[.agg #[.slice a p.cells.length cap, .int .i64 p.bottles, .int .i64 p.inH, .int .i64 p.inA, .int .i64 p.vH, .int .i64 p.vA, .int .i64 p.lH, .int .i64 p.lA, .int .i64 p.pH, .int .i64 p.pA], .agg #[.int .u8 d.kind, .int .i64 d.cell, .int .i64 d.to, .int .i64 d.n]] w fun e w' => ∃ v, e = .returned (.tuple #[.agg #[v, .int .i64 (doQ p d).bottles, .int .i64 (doQ p d).inH, .int .i64 (doQ p d).inA, .int .i64 (doQ p d).vH, .int .i64 (doQ p d).vA, .int .i64 (doQ p d).lH, .int .i64 (doQ p d).lA, .int .i64 (doQ p d).pH, .int .i64 (doQ p d).pA], .int .i64 (doE p d)]) ∧ Mine 54 w.heap.size w' v (doQ p d).cells ∧ Kept w w' := by
  cases hp : plantB p
  · rw [show doE p d = 32 by simp [doE, hp], show doQ p d = noPlant by simp [doQ, doE, hp]]
    exact f_zero_end (f_Do_bad p d a cap w hx hc hM hz hp)
  · by_cases h17 : 1 ≤ d.kind ∧ d.kind ≤ 7
    · have key : d.kind = 1 ∨ d.kind = 2 ∨ d.kind = 3 ∨ d.kind = 4 ∨ d.kind = 5 ∨ d.kind = 6 ∨ d.kind = 7 := by omega
      rcases key with hk | hk | hk | hk | hk | hk | hk
      · by_cases he : errA p d = 0
        · rw [show doE p d = endE (resA p d) by simp [doE, hp, he, endE], show doQ p d = endQ (resA p d) by simp [doQ, doE, hp, he, endQ] <;> (split <;> simp_all)]
          exact f_DoX_ok p d a cap w hx hc hM hz 26 (fun _ _ => by kernel_rfl) hp h17 (by rw [hk]; rfl) he (fun _ _ _ _ _ h => act1_ok d h hp hk he)
        · rw [show doE p d = errA p d by simp [doE, hp, he], show doQ p d = noPlant by simp [doQ, doE, hp, he]]
          exact f_zero_end (f_DoX_no p d a cap w hx hc hM hz 26 (fun _ _ => by kernel_rfl) hp h17 (by rw [hk]; rfl) he (fun _ _ _ _ _ h => act1_no d h hp hk he))
      · by_cases he : errA p d = 0
        · rw [show doE p d = endE (resA p d) by simp [doE, hp, he, endE], show doQ p d = endQ (resA p d) by simp [doQ, doE, hp, he, endQ] <;> (split <;> simp_all)]
          exact f_DoX_ok p d a cap w hx hc hM hz 27 (fun _ _ => by kernel_rfl) hp h17 (by rw [hk]; rfl) he (fun _ _ _ _ _ h => act2_ok d h hp hk he)
        · rw [show doE p d = errA p d by simp [doE, hp, he], show doQ p d = noPlant by simp [doQ, doE, hp, he]]
          exact f_zero_end (f_DoX_no p d a cap w hx hc hM hz 27 (fun _ _ => by kernel_rfl) hp h17 (by rw [hk]; rfl) he (fun _ _ _ _ _ h => act2_no d h hp hk he))
      · by_cases he : errA p d = 0
        · rw [show doE p d = endE (resA p d) by simp [doE, hp, he, endE], show doQ p d = endQ (resA p d) by simp [doQ, doE, hp, he, endQ] <;> (split <;> simp_all)]
          exact f_DoX_ok p d a cap w hx hc hM hz 28 (fun _ _ => by kernel_rfl) hp h17 (by rw [hk]; rfl) he (fun _ _ _ _ _ h => act3_ok d h hp hk he)
        · rw [show doE p d = errA p d by simp [doE, hp, he], show doQ p d = noPlant by simp [doQ, doE, hp, he]]
          exact f_zero_end (f_DoX_no p d a cap w hx hc hM hz 28 (fun _ _ => by kernel_rfl) hp h17 (by rw [hk]; rfl) he (fun _ _ _ _ _ h => act3_no d h hp hk he))
      · by_cases he : errA p d = 0
        · rw [show doE p d = endE (resA p d) by simp [doE, hp, he, endE], show doQ p d = endQ (resA p d) by simp [doQ, doE, hp, he, endQ] <;> (split <;> simp_all)]
          exact f_DoX_ok p d a cap w hx hc hM hz 29 (fun _ _ => by kernel_rfl) hp h17 (by rw [hk]; rfl) he (fun _ _ _ _ _ h => act4_ok d h hp hk he)
        · rw [show doE p d = errA p d by simp [doE, hp, he], show doQ p d = noPlant by simp [doQ, doE, hp, he]]
          exact f_zero_end (f_DoX_no p d a cap w hx hc hM hz 29 (fun _ _ => by kernel_rfl) hp h17 (by rw [hk]; rfl) he (fun _ _ _ _ _ h => act4_no d h hp hk he))
      · by_cases he : errA p d = 0
        · rw [show doE p d = endE (resA p d) by simp [doE, hp, he, endE], show doQ p d = endQ (resA p d) by simp [doQ, doE, hp, he, endQ] <;> (split <;> simp_all)]
          exact f_DoX_ok p d a cap w hx hc hM hz 30 (fun _ _ => by kernel_rfl) hp h17 (by rw [hk]; rfl) he (fun _ _ _ _ _ h => act5_ok d h hp hk he)
        · rw [show doE p d = errA p d by simp [doE, hp, he], show doQ p d = noPlant by simp [doQ, doE, hp, he]]
          exact f_zero_end (f_DoX_no p d a cap w hx hc hM hz 30 (fun _ _ => by kernel_rfl) hp h17 (by rw [hk]; rfl) he (fun _ _ _ _ _ h => act5_no d h hp hk he))
      · by_cases he : errA p d = 0
        · rw [show doE p d = endE (resA p d) by simp [doE, hp, he, endE], show doQ p d = endQ (resA p d) by simp [doQ, doE, hp, he, endQ] <;> (split <;> simp_all)]
          exact f_DoX_ok p d a cap w hx hc hM hz 31 (fun _ _ => by kernel_rfl) hp h17 (by rw [hk]; rfl) he (fun _ _ _ _ _ h => act6_ok d h hp hk he)
        · rw [show doE p d = errA p d by simp [doE, hp, he], show doQ p d = noPlant by simp [doQ, doE, hp, he]]
          exact f_zero_end (f_DoX_no p d a cap w hx hc hM hz 31 (fun _ _ => by kernel_rfl) hp h17 (by rw [hk]; rfl) he (fun _ _ _ _ _ h => act6_no d h hp hk he))
      · by_cases he : errA p d = 0
        · rw [show doE p d = endE (resA p d) by simp [doE, hp, he, endE], show doQ p d = endQ (resA p d) by simp [doQ, doE, hp, he, endQ] <;> (split <;> simp_all)]
          exact f_DoX_ok p d a cap w hx hc hM hz 32 (fun _ _ => by kernel_rfl) hp h17 (by rw [hk]; rfl) he (fun _ _ _ _ _ h => act7_ok d h hp hk he)
        · rw [show doE p d = errA p d by simp [doE, hp, he], show doQ p d = noPlant by simp [doQ, doE, hp, he]]
          exact f_zero_end (f_DoX_no p d a cap w hx hc hM hz 32 (fun _ _ => by kernel_rfl) hp h17 (by rw [hk]; rfl) he (fun _ _ _ _ _ h => act7_no d h hp hk he))
    · have he : errA p d = 2 := by
        have k1 : d.kind ≠ 1 ∧ d.kind ≠ 2 ∧ d.kind ≠ 3 ∧ d.kind ≠ 4 ∧ d.kind ≠ 5 ∧ d.kind ≠ 6 ∧ d.kind ≠ 7 := by omega
        simp [errA, k1]
      rw [show doE p d = 2 by simp [doE, hp, he], show doQ p d = noPlant by simp [doQ, doE, hp, he]]
      exact f_zero_end (f_Do_kind p d a cap w hx hc hM hz hp (by omega) (by simp [inB]; omega))

end Go.Proofs.Ytnfhcpnpjkefmaa

/-
  Structs as cells of memory. No program in sight.
-/
namespace Bal.Gas
open Go Go.RowKit Bal

def Sp.cells (x : Sp) : List Value := [.int .i64 x.lo, .int .i64 x.hi]
theorem Sp.row {B : Nat} {w : World} {a : Option Addr} {xs : List Sp} (h : Row Sp.cells 2 B w a xs) (i : Nat) (hi : i < xs.length) :
    ∃ b off, a = some ⟨b, off, none⟩ ∧ b < B ∧ w.cell? ⟨b, off + i * 2, none⟩ = some (.int .i64 xs[i].lo) ∧ w.cell? ⟨b, off + i * 2 + 1, none⟩ = some (.int .i64 xs[i].hi) := by
  obtain ⟨b, off, ha, hb, hc⟩ := h i xs[i] (by simp [hi])
  exact ⟨b, off, ha, hb, hc 0 _ rfl, hc 1 _ rfl⟩
theorem Sp.of_leaves {cs : List Value} (h : LeavesOk [.int .i64, .int .i64] cs) : ∃ x : Sp, cs = x.cells ∧ (Lit.int .i64 x.lo).wf = true ∧ (Lit.int .i64 x.hi).wf = true := by
  obtain ⟨hl, h⟩ := h
  match cs, hl with
  | [v0, v1], _ =>
    obtain ⟨_, e0, n0, rfl, w0⟩ := h 0 (.int .i64) rfl; simp at e0; subst e0
    obtain ⟨_, e1, n1, rfl, w1⟩ := h 1 (.int .i64) rfl; simp at e1; subst e1
    exact ⟨⟨n0, n1⟩, rfl, w0, w1⟩

def Flow.cells (x : Flow) : List Value := [.int .i64 x.time, .int .i64 x.cell, .int .i64 x.n]
theorem Flow.row {B : Nat} {w : World} {a : Option Addr} {xs : List Flow} (h : Row Flow.cells 3 B w a xs) (i : Nat) (hi : i < xs.length) :
    ∃ b off, a = some ⟨b, off, none⟩ ∧ b < B ∧ w.cell? ⟨b, off + i * 3, none⟩ = some (.int .i64 xs[i].time) ∧ w.cell? ⟨b, off + i * 3 + 1, none⟩ = some (.int .i64 xs[i].cell) ∧ w.cell? ⟨b, off + i * 3 + 2, none⟩ = some (.int .i64 xs[i].n) := by
  obtain ⟨b, off, ha, hb, hc⟩ := h i xs[i] (by simp [hi])
  exact ⟨b, off, ha, hb, hc 0 _ rfl, hc 1 _ rfl, hc 2 _ rfl⟩
theorem Flow.of_leaves {cs : List Value} (h : LeavesOk [.int .i64, .int .i64, .int .i64] cs) : ∃ x : Flow, cs = x.cells ∧ (Lit.int .i64 x.time).wf = true ∧ (Lit.int .i64 x.cell).wf = true ∧ (Lit.int .i64 x.n).wf = true := by
  obtain ⟨hl, h⟩ := h
  match cs, hl with
  | [v0, v1, v2], _ =>
    obtain ⟨_, e0, n0, rfl, w0⟩ := h 0 (.int .i64) rfl; simp at e0; subst e0
    obtain ⟨_, e1, n1, rfl, w1⟩ := h 1 (.int .i64) rfl; simp at e1; subst e1
    obtain ⟨_, e2, n2, rfl, w2⟩ := h 2 (.int .i64) rfl; simp at e2; subst e2
    exact ⟨⟨n0, n1, n2⟩, rfl, w0, w1, w2⟩

end Bal.Gas

/-
  A history as cells of memory: warm, gauges with their volumes, flows. No program in sight.
-/
namespace Bal.Gas
open Go Go.RowKit Bal Bal.Trim
set_option linter.unusedVariables false
def gv (g : Gauge) : Option Addr := g.va.map fun p => ⟨p.1, p.2.1, p.2.2⟩
def Gauge.cells (g : Gauge) : List Value := [.int .i64 g.time, .int .i64 g.air.plo, .int .i64 g.air.phi, .int .i64 g.air.tlo, .int .i64 g.air.thi, .slice (gv g) g.vols.length g.vc]
theorem Gauge.row {B : Nat} {w : World} {a : Option Addr} {xs : List Gauge} (h : Row Gauge.cells 6 B w a xs) (i : Nat) (hi : i < xs.length) :
    ∃ b off, a = some ⟨b, off, none⟩ ∧ b < B ∧ w.cell? ⟨b, off + i * 6, none⟩ = some (.int .i64 xs[i].time) ∧ w.cell? ⟨b, off + i * 6 + 1, none⟩ = some (.int .i64 xs[i].air.plo) ∧ w.cell? ⟨b, off + i * 6 + 2, none⟩ = some (.int .i64 xs[i].air.phi) ∧
      w.cell? ⟨b, off + i * 6 + 3, none⟩ = some (.int .i64 xs[i].air.tlo) ∧ w.cell? ⟨b, off + i * 6 + 4, none⟩ = some (.int .i64 xs[i].air.thi) ∧ w.cell? ⟨b, off + i * 6 + 5, none⟩ = some (.slice (gv xs[i]) xs[i].vols.length xs[i].vc) := by
  obtain ⟨b, off, ha, hb, hc⟩ := h i xs[i] (by simp [hi])
  exact ⟨b, off, ha, hb, hc 0 _ rfl, hc 1 _ rfl, hc 2 _ rfl, hc 3 _ rfl, hc 4 _ rfl, hc 5 _ rfl⟩
/-- where a history lies -/
structure Spot where
  aw : Option Addr
  ag : Option Addr
  af : Option Addr
  cw : Nat
  cg : Nat
  cf : Nat
def histV (s : Spot) (h : Hist) : Array Value := #[.slice s.aw h.warm.length s.cw, .slice s.ag h.gauges.length s.cg, .slice s.af h.flows.length s.cf]
structure HistAt (h : Hist) (s : Spot) (w : World) : Prop where
  warm : Row Sp.cells 2 w.heap.size w s.aw h.warm
  gauges : Row Gauge.cells 6 w.heap.size w s.ag h.gauges
  flows : Row Flow.cells 3 w.heap.size w s.af h.flows
  vols : ∀ g ∈ h.gauges, Row Sp.cells 2 w.heap.size w (gv g) g.vols
  wc : h.warm.length ≤ s.cw
  gc : h.gauges.length ≤ s.cg
  fc : h.flows.length ≤ s.cf
  wm : s.cw ≤ maxLen
  gm : s.cg ≤ maxLen
  fm : s.cf ≤ maxLen
  vc : ∀ g ∈ h.gauges, g.vols.length ≤ g.vc ∧ g.vc ≤ maxLen
theorem HistAt.later {h : Hist} {s : Spot} {w w' : World} (k : HistAt h s w) (hb : Kept w w') : HistAt h s w' :=
  ⟨k.warm.later hb (Nat.le_refl _), k.gauges.later hb (Nat.le_refl _), k.flows.later hb (Nat.le_refl _), fun g hg => (k.vols g hg).later hb (Nat.le_refl _), k.wc, k.gc, k.fc, k.wm, k.gm, k.fm, k.vc⟩
theorem HistAt.volsAt {h : Hist} {s : Spot} {w : World} (k : HistAt h s w) (i : Nat) (hi : i < h.gauges.length) : Row Sp.cells 2 w.heap.size w (gv (gAt h i)) (gAt h i).vols := by
  have e : gAt h i = h.gauges[i] := by simp [gAt, hi]
  rw [e]
  exact k.vols _ (List.getElem_mem hi)
theorem gAt_get {h : Hist} {i : Nat} (hi : i < h.gauges.length) : h.gauges[i] = gAt h i := by simp [gAt, hi]
theorem wAt_get {h : Hist} {c : Nat} (hc : c < h.warm.length) : h.warm[c] = wAt h c := by simp [wAt, hc]
theorem vAt_get {g : Gauge} {c : Nat} (hc : c < g.vols.length) : g.vols[c] = vAt g c := by simp [vAt, hc]
end Bal.Gas

/-
  The reference: whether a history is valid.
-/
namespace Go.Proofs.Ytnfhcpnpjkefmaa
open Go.RowKit Bal Bal.Trim Bal.Gas
set_option linter.unusedVariables false
set_option linter.unusedSimpArgs false
set_option maxHeartbeats 4000000
set_option maxRecDepth 100000

theorem i64_inH {n : Int} (h : -9223372036854775808 ≤ n ∧ n ≤ 9223372036854775807) : IntKind.i64.wrap n = n := by rw [IntKind.wrap_i64]; have := w64_in n h; unfold wrap64 at this; omega
end Go.Proofs.Ytnfhcpnpjkefmaa

/-
  CheckHistory: the program, the reference.
-/
namespace Go.Proofs.Ytnfhcpnpjkefmaa
open Go.RowKit Bal Bal.Trim Bal.Gas
set_option linter.unusedVariables false
set_option linter.unusedSimpArgs false
set_option maxHeartbeats 4000000
set_option maxRecDepth 100000

theorem rng_oneH (a lo hi : Int) : rng [a] lo hi = inB a lo hi := by simp [rng]
theorem f_rangedQ (p lo hi : Int) (b : Bool) (h : inB p lo hi = b) (t : TypeId) (W : World) (m : Nat) (hm : m = W.heap.size) :
    Calls Try.prog 34 #[.int .i64 lo, .int .i64 hi, .slice (some ⟨m, 0, none⟩) 1 1] (W.alloc (.cells #[.int .i64 p] t)) fun e w' => e = .returned (.bool b) ∧ W.alloc (.cells #[.int .i64 p] t) = w' := by
  have k := f_ranged1 lo hi p t W m hm
  rwa [rng_oneH, h] at k
def lastT (h : Hist) (k : Nat) : Int := if k = 0 then -1 else tt h (k - 1)
theorem lastT_bd {h : Hist} {k : Nat} (hk : ∀ j, j < k → okG h j = true) : -1 ≤ lastT h k ∧ lastT h k ≤ 1000000 := by
  unfold lastT
  split
  · omega
  · rename_i h0
    have h1 := times_pos k hk (k - 1) (by omega)
    have h2 := hk (k - 1) (by omega)
    rw [okG_parts (fun h3 => times_pos k hk (k - 1 - 1) (by omega))] at h2
    simp only [Bool.and_eq_true, inB_iff] at h2
    omega
theorem f_CheckHistory_sizes (h : Hist) (s : Spot) (w : World) (hh : HistAt h s w) (hs : sizesB h = false) :
    Calls Try.prog 38 #[.agg #[.slice s.aw h.warm.length s.cw, .slice s.ag h.gauges.length s.cg, .slice s.af h.flows.length s.cf]] w fun e w' => e = .returned (.int .i64 (histE h)) ∧ Kept w w' := by
  have hcw := hh.wc
  have hcm := hh.wm
  have hgc := hh.gc
  have hgm := hh.gm
  have hfc := hh.fc
  have hfm := hh.fm
  unfold maxLen at hcm hgm hfm
  have HF := Lib.hid (show histE h = 34 by unfold histE; rw [histB_sizes hs]; rfl)
  cases h1 : inB h.warm.length 1 12
  · have H1 := Lib.hid h1
    clear h1 hs
    go_enter Try.func38, Try.ntmps38
    go_wp2_with (go_at_call 34; (with_reducible refine (f_rangedQ h.warm.length 1 12 _ H1.out _ _ _ (by simp)).mono ?_); rintro e w9 ⟨rfl, rfl⟩)
    go_ret
    exact ⟨ret_int (by rw [HF.out]), by (exact kpt)⟩
  · have H1 := Lib.hid h1
    cases h2 : inB h.gauges.length 1 30
    · have H2 := Lib.hid h2
      clear h1 h2 hs
      go_enter Try.func38, Try.ntmps38
      go_wp2_with (first | (go_at_call 34; (with_reducible refine (f_rangedQ h.warm.length 1 12 _ H1.out _ _ _ (by simp)).mono ?_); rintro e w9 ⟨rfl, rfl⟩) | (go_at_call 34; (with_reducible refine (f_rangedQ h.gauges.length 1 30 _ H2.out _ _ _ (by simp)).mono ?_); rintro e w9 ⟨rfl, rfl⟩))
      go_ret
      exact ⟨ret_int (by rw [HF.out]), by (exact kpt)⟩
    · have H2 := Lib.hid h2
      have e3 : decide ((100 : Int) < (h.flows.length : Int)) = true := by simp [sizesB, h1, h2] at hs; simp; omega
      clear h1 h2 hs
      go_enter Try.func38, Try.ntmps38
      go_wp2_with (first | (go_at_call 34; (with_reducible refine (f_rangedQ h.warm.length 1 12 _ H1.out _ _ _ (by simp)).mono ?_); rintro e w9 ⟨rfl, rfl⟩) | (go_at_call 34; (with_reducible refine (f_rangedQ h.gauges.length 1 30 _ H2.out _ _ _ (by simp)).mono ?_); rintro e w9 ⟨rfl, rfl⟩))
      go_ret
      exact ⟨ret_int (by rw [HF.out]), by (exact kpt)⟩

theorem f_CheckHistory_main (h : Hist) (s : Spot) (w : World) (hh : HistAt h s w) (hs : sizesB h = true) :
    Calls Try.prog 38 #[.agg #[.slice s.aw h.warm.length s.cw, .slice s.ag h.gauges.length s.cg, .slice s.af h.flows.length s.cf]] w fun e w' => e = .returned (.int .i64 (histE h)) ∧ Kept w w' := by
  have hcw := hh.wc
  have hcm := hh.wm
  have hgc := hh.gc
  have hgm := hh.gm
  have hfc := hh.fc
  have hfm := hh.fm
  unfold maxLen at hcm hgm hfm
  obtain ⟨aw, ag, af, cw, cg, cf⟩ := s
  simp only at hcw hcm hgc hgm hfc hfm
  have R1 := Lib.hid (show ∀ W, Kept w W → Row Sp.cells 2 W.heap.size W aw h.warm from fun W hW => (hh.later hW).warm)
  have R2 := Lib.hid (show ∀ W, Kept w W → Row Gauge.cells 6 W.heap.size W ag h.gauges from fun W hW => (hh.later hW).gauges)
  have R3 := Lib.hid (show ∀ W, Kept w W → Row Flow.cells 3 W.heap.size W af h.flows from fun W hW => (hh.later hW).flows)
  obtain ⟨⟨w1_, w2_⟩, ⟨g1_, g2_⟩, f2_⟩ := sizesB_iff.1 hs
  have HS := Lib.hid hs
  have H1 := Lib.hid (show inB h.warm.length 1 12 = true by simp [inB]; omega)
  have H2 := Lib.hid (show inB h.gauges.length 1 30 = true by simp [inB]; omega)
  have e3 : decide ((100 : Int) < (h.flows.length : Int)) = false := by simp; omega
  clear hs
  go_enter Try.func38, Try.ntmps38
  go_wp2_with (first | (go_at_call 34; (with_reducible refine (f_rangedQ h.warm.length 1 12 _ H1.out _ _ _ (by simp)).mono ?_); rintro e w9 ⟨rfl, rfl⟩) | (go_at_call 34; (with_reducible refine (f_rangedQ h.gauges.length 1 30 _ H2.out _ _ _ (by simp)).mono ?_); rintro e w9 ⟨rfl, rfl⟩))
  clear e3
  go_loopw [35] (fun i wr => ∃ k : Nat, k ≤ h.warm.length ∧ i = .int .i64 k ∧ (∀ c, c < k → warmB (wAt h c) = true) ∧ Blk wr w.heap.size #[.slice aw h.warm.length cw, .slice ag h.gauges.length cg, .slice af h.flows.length cf] 52 ∧ Kept w wr) (fun i _ => h.warm.length - (intOf i).toNat)
  case atStart => exact ⟨0, Nat.zero_le _, rfl, fun c hc => by omega, by (exact blkc), by (exact kpt)⟩
  case round =>
    obtain ⟨k, hk, rfl, hall, q0, hkk⟩ := hrel
    have HALL := Lib.hid hall
    clear hall
    by_cases hlt : k < h.warm.length
    · obtain ⟨b1, o1, rfl, hb1, c0, c1⟩ := Sp.row (R1.out _ hkk) k hlt
      obtain ⟨x, hx⟩ : ∃ x, x = wAt h k := ⟨_, rfl⟩
      rw [wAt_get hlt, ← hx] at c0 c1
      have HX := Lib.hid hx
      clear hx
      cases hv : warmB x
      · have HV_ := Lib.hid (show spanIn x.lo x.hi (-300) 300 = false from hv)
        have HF := Lib.hid (show histE h = 34 by unfold histE; rw [histB_warm hlt (by rw [← HX.out]; exact hv)]; rfl)
        clear hv
        go_wp2_with (go_at_call 22; (with_reducible refine (f_span x.lo x.hi _ _ _).mono ?_); rw [HV_.out]; rintro e w9 ⟨rfl, hb9⟩)
        go_ret
        exact ⟨ret_int (by rw [HF.out]), by (exact kpt)⟩
      · have HV_ := Lib.hid (show spanIn x.lo x.hi (-300) 300 = true from hv)
        have HVV := Lib.hid hv
        clear hv
        go_wp2_with (go_at_call 22; (with_reducible refine (f_span x.lo x.hi _ _ _).mono ?_); rw [HV_.out]; rintro e w9 ⟨rfl, hb9⟩)
        go_round
        case rel =>
          refine ⟨k + 1, by omega, by go_num, fun c hc => ?_, by (exact blkc), by (exact kpt)⟩
          by_cases hck : c < k
          · exact HALL.out c hck
          · obtain rfl : c = k := by omega
            rw [← HX.out]; exact HVV.out
        case measure => simp [intOf]; omega
    · obtain rfl : k = h.warm.length := by omega
      have HWARM := HALL
      clear HALL hk hlt
      have q0c0 := q0.cell 0
      have q0f0 := q0.free 0
      have q0c1 := q0.cell 1
      have q0f1 := q0.free 1
      have q0c2 := q0.cell 2
      have q0f2 := q0.free 2
      have q0l := q0.lt
      simp at q0c0 q0c1 q0c2
      go_wp2
      clear q0c0 q0f0 q0c1 q0f1 q0c2 q0f2 q0l
      go_loopw [5, 46] (fun l i wr => ∃ k : Nat, k ≤ h.gauges.length ∧ i = .int .i64 k ∧ l = .int .i64 (lastT h k) ∧ (∀ j, j < k → okG h j = true) ∧ Blk wr w.heap.size #[.slice aw h.warm.length cw, .slice ag h.gauges.length cg, .slice af h.flows.length cf] 52 ∧ Kept w wr) (fun _ i _ => h.gauges.length - (intOf i).toNat)
      case atStart => exact ⟨0, Nat.zero_le _, rfl, rfl, fun c hc => by omega, q0, hkk⟩
      case round =>
        clear q0 hkk
        obtain ⟨k, hk, rfl, rfl, hall, q0, hkk⟩ := hrel
        have HOKS := Lib.hid hall
        have hlb := lastT_bd hall
        have q0c0 := q0.cell 0
        have q0f0 := q0.free 0
        have q0c1 := q0.cell 1
        have q0f1 := q0.free 1
        have q0c2 := q0.cell 2
        have q0f2 := q0.free 2
        have q0l := q0.lt
        simp at q0c0 q0c1 q0c2
        by_cases hlt : k < h.gauges.length
        · clear hall
          obtain ⟨b1, o1, rfl, hb1, c0, c1, c2, c3, c4, c5⟩ := Gauge.row (R2.out _ hkk) k hlt
          have HVR0 := fun (W : World) (hW : Kept w W) => (hh.later hW).volsAt k hlt
          obtain ⟨g, hg⟩ : ∃ g, g = gAt h k := ⟨_, rfl⟩
          rw [gAt_get hlt, ← hg] at c0 c1 c2 c3 c4 c5
          rw [← hg] at HVR0
          obtain ⟨va, hva⟩ : ∃ v, v = gv g := ⟨_, rfl⟩
          rw [← hva] at HVR0 c5
          have HVR := Lib.hid HVR0
          have HGA := Lib.hid hg.symm
          obtain ⟨LT, hLT⟩ : ∃ n, n = lastT h k := ⟨_, rfl⟩
          have HPARTS := Lib.hid (show okG h k = (inB g.time (LT + 1) 1000000 && airB g.air && decide (g.vols.length = h.warm.length) && g.vols.all volB) by rw [hLT, hg]; rfl)
          rw [← hLT] at hlb ⊢
          have HLT := Lib.hid hLT
          have HTT := Lib.hid (show lastT h (k + 1) = g.time by rw [hg]; rfl)
          clear hg HVR0 hva hLT
          have e5w : (-1 : Int) ≤ LT := hlb.1
          cases k1 : inB g.time (LT + 1) 1000000
          · have K1 := Lib.hid k1
            have HF := Lib.hid (show histE h = 34 by unfold histE; rw [histB_gauge hlt (by rw [HPARTS.out]; simp [k1])]; rfl)
            clear k1
            go_wp2_with (go_at_call 34; (with_reducible refine (f_rangedQ g.time (LT + 1) 1000000 _ K1.out _ _ _ (by simp)).mono ?_); rintro e w9 ⟨rfl, rfl⟩)
            go_ret
            exact ⟨ret_int (by rw [HF.out]), by (exact kpt)⟩
          · have K1 := Lib.hid k1
            cases ha : airB g.air
            · have HCA := Lib.hid (show checkAir g.air = 30 by unfold checkAir; rw [ha]; rfl)
              have HF := Lib.hid (show histE h = 34 by unfold histE; rw [histB_gauge hlt (by rw [HPARTS.out]; simp [ha])]; rfl)
              clear k1 ha
              go_wp2_with (first | (go_at_call 34; (with_reducible refine (f_rangedQ g.time (LT + 1) 1000000 _ K1.out _ _ _ (by simp)).mono ?_); rintro e w9 ⟨rfl, rfl⟩) | (go_at_call 8; (with_reducible refine (f_CheckAir g.air _).mono ?_); rw [HCA.out]; rintro e w9 ⟨rfl, hb9⟩; refine Blk.thru (b := w.heap.size) (arr := ?_) (t := ?_) ?_ hb9 ?_; rotate_left 2; (focus (exact blk)); intro rr; have rrc0 := rr.cell 0; have rrf0 := rr.free 0; have rrc1 := rr.cell 1; have rrf1 := rr.free 1; have rrc2 := rr.cell 2; have rrf2 := rr.free 2; have rrl := rr.lt; simp at rrc0 rrc1 rrc2; refine Blk.thru (b := wr.heap.size) (arr := ?_) (t := ?_) ?_ hb9 ?_; rotate_left 2; (focus (exact blk)); intro rg; have rgc0 := rg.cell 0; have rgf0 := rg.free 0; have rgc1 := rg.cell 1; have rgf1 := rg.free 1; have rgc2 := rg.cell 2; have rgf2 := rg.free 2; have rgc3 := rg.cell 3; have rgf3 := rg.free 3; have rgc4 := rg.cell 4; have rgf4 := rg.free 4; have rgc5 := rg.cell 5; have rgf5 := rg.free 5; have rgl := rg.lt; simp at rgc0 rgc1 rgc2 rgc3 rgc4 rgc5))
              go_ret
              exact ⟨ret_int (by rw [HF.out]), by (exact kpt)⟩
            · have HCA := Lib.hid (show checkAir g.air = 0 by unfold checkAir; rw [ha]; rfl)
              by_cases hl : g.vols.length = h.warm.length
              · have HVL := Lib.hid hl
                have hv12 : g.vols.length ≤ 12 := by omega
                have HPRE := Lib.hid (show (inB g.time (LT + 1) 1000000 && airB g.air && decide (g.vols.length = h.warm.length)) = true by simp [k1, ha, hl])
                have e8 : ((g.vols.length : Int) != (h.warm.length : Int)) = false := by simp [hl]
                have e9 : ((g.vols.length : Int) == (h.warm.length : Int)) = true := by simp [hl]
                clear k1 ha hl
                go_upto_region 15 with (first | (go_at_call 34; (with_reducible refine (f_rangedQ g.time (LT + 1) 1000000 _ K1.out _ _ _ (by simp)).mono ?_); rintro e w9 ⟨rfl, rfl⟩) | (go_at_call 8; (with_reducible refine (f_CheckAir g.air _).mono ?_); rw [HCA.out]; rintro e w9 ⟨rfl, hb9⟩; refine Blk.thru (b := w.heap.size) (arr := ?_) (t := ?_) ?_ hb9 ?_; rotate_left 2; (focus (exact blk)); intro rr; have rrc0 := rr.cell 0; have rrf0 := rr.free 0; have rrc1 := rr.cell 1; have rrf1 := rr.free 1; have rrc2 := rr.cell 2; have rrf2 := rr.free 2; have rrl := rr.lt; simp at rrc0 rrc1 rrc2; refine Blk.thru (b := wr.heap.size) (arr := ?_) (t := ?_) ?_ hb9 ?_; rotate_left 2; (focus (exact blk)); intro rg; have rgc0 := rg.cell 0; have rgf0 := rg.free 0; have rgc1 := rg.cell 1; have rgf1 := rg.free 1; have rgc2 := rg.cell 2; have rgf2 := rg.free 2; have rgc3 := rg.cell 3; have rgf3 := rg.free 3; have rgc4 := rg.cell 4; have rgf4 := rg.free 4; have rgc5 := rg.cell 5; have rgf5 := rg.free 5; have rgl := rg.lt; simp at rgc0 rgc1 rgc2 rgc3 rgc4 rgc5))
                refine at_world (S := fun V => Blk V w.heap.size #[.slice aw h.warm.length cw, .slice (some ⟨b1, o1, none⟩) h.gauges.length cg, .slice af h.flows.length cf] 52 ∧ Blk V wr.heap.size #[.int .i64 g.time, .int .i64 g.air.plo, .int .i64 g.air.phi, .int .i64 g.air.tlo, .int .i64 g.air.thi, .slice va g.vols.length g.vc] 46 ∧ Kept w V) ⟨by (exact blkc), by (exact blkc), by (exact kpt)⟩ ?_
                clear q0 hkk c0 c1 c2 c3 c4 c5 q0c0 q0f0 q0c1 q0f1 q0c2 q0f2 q0l
                rintro V ⟨q0, q6, hkV⟩
                have q6c0 := q6.cell 0
                have q6f0 := q6.free 0
                have q6c1 := q6.cell 1
                have q6f1 := q6.free 1
                have q6c2 := q6.cell 2
                have q6f2 := q6.free 2
                have q6c3 := q6.cell 3
                have q6f3 := q6.free 3
                have q6c4 := q6.cell 4
                have q6f4 := q6.free 4
                have q6c5 := q6.cell 5
                have q6f5 := q6.free 5
                have q6l := q6.lt
                simp at q6c0 q6c1 q6c2 q6c3 q6c4 q6c5
                go_wp2
                go_loopw [77] (fun i wr => ∃ m : Nat, m ≤ g.vols.length ∧ i = .int .i64 m ∧ (∀ c, c < m → volB (vAt g c) = true) ∧ Kept V wr) (fun i _ => g.vols.length - (intOf i).toNat)
                case atStart => exact ⟨0, Nat.zero_le _, rfl, fun c hc => by omega, Below.refl _ _⟩
                case round =>
                  obtain ⟨m, hm, rfl, hall, hkY⟩ := hrel
                  have HALL := Lib.hid hall
                  clear hall
                  by_cases hmv : m < g.vols.length
                  · obtain ⟨bv, ov, rfl, hbv, v0, v1⟩ := Sp.row (HVR.out _ (Kept.drop hkV hkY)) m hmv
                    obtain ⟨x, hx⟩ : ∃ x, x = vAt g m := ⟨_, rfl⟩
                    rw [vAt_get hmv, ← hx] at v0 v1
                    have HX := Lib.hid hx
                    clear hx
                    cases hvb : volB x
                    · have HF := Lib.hid (show histE h = 34 by
                        unfold histE
                        rw [histB_gauge hlt (by
                          rw [HPARTS.out]
                          simp only [Bool.and_eq_false_iff]
                          refine .inr ?_
                          rw [Bool.eq_false_iff]
                          intro hc
                          rw [List.all_eq_true] at hc
                          have := hc _ (List.getElem_mem hmv)
                          rw [vAt_get hmv, ← HX.out, hvb] at this
                          cases this)]
                        rfl)
                      have HV_ := Lib.hid (show spanIn x.lo x.hi 0 10000000 = false from hvb)
                      clear hvb
                      go_wp2_with (go_at_call 22; (with_reducible refine (f_span x.lo x.hi _ _ _).mono ?_); rw [HV_.out]; rintro e w9 ⟨rfl, hb9⟩)
                      go_ret
                      exact ⟨ret_int (by rw [HF.out]), by (exact kpt)⟩
                    · have HVB := Lib.hid hvb
                      have HV_ := Lib.hid (show spanIn x.lo x.hi 0 10000000 = true from hvb)
                      clear hvb
                      go_wp2_with (go_at_call 22; (with_reducible refine (f_span x.lo x.hi _ _ _).mono ?_); rw [HV_.out]; rintro e w9 ⟨rfl, hb9⟩)
                      go_round
                      case rel =>
                        refine ⟨m + 1, by omega, by go_num, fun c hc => ?_, by (exact kpt)⟩
                        by_cases hcm_ : c < m
                        · exact HALL.out c hcm_
                        · obtain rfl : c = m := by omega
                          rw [← HX.out]; exact HVB.out
                      case measure => simp [intOf]; omega
                  · obtain rfl : m = g.vols.length := by omega
                    have HOKK := Lib.hid (show okG h k = true by
                      rw [HPARTS.out, Bool.and_eq_true]
                      refine ⟨HPRE.out, ?_⟩
                      rw [List.all_eq_true]
                      intro v hv
                      obtain ⟨c, hc, rfl⟩ := List.mem_iff_getElem.1 hv
                      rw [vAt_get hc]; exact HALL.out c hc)
                    have z0 := q0.keep hkY
                    have hkz := Kept.drop hkV hkY
                    go_wp2
                    go_round
                    case rel =>
                      refine ⟨k + 1, by omega, by go_num, by rw [HTT.out], fun j hj => ?_, z0, hkz⟩
                      by_cases hjk : j < k
                      · exact HOKS.out j hjk
                      · obtain rfl : j = k := by omega
                        exact HOKK.out
                    case measure => simp [intOf]; omega
              · have HF := Lib.hid (show histE h = 34 by unfold histE; rw [histB_gauge hlt (by rw [HPARTS.out]; simp [hl])]; rfl)
                have e8 : ((g.vols.length : Int) != (h.warm.length : Int)) = true := by simp; omega
                have e9 : ((g.vols.length : Int) == (h.warm.length : Int)) = false := by simp; omega
                clear k1 ha hl
                go_wp2_with (first | (go_at_call 34; (with_reducible refine (f_rangedQ g.time (LT + 1) 1000000 _ K1.out _ _ _ (by simp)).mono ?_); rintro e w9 ⟨rfl, rfl⟩) | (go_at_call 8; (with_reducible refine (f_CheckAir g.air _).mono ?_); rw [HCA.out]; rintro e w9 ⟨rfl, hb9⟩; refine Blk.thru (b := w.heap.size) (arr := ?_) (t := ?_) ?_ hb9 ?_; rotate_left 2; (focus (exact blk)); intro rr; have rrc0 := rr.cell 0; have rrf0 := rr.free 0; have rrc1 := rr.cell 1; have rrf1 := rr.free 1; have rrc2 := rr.cell 2; have rrf2 := rr.free 2; have rrl := rr.lt; simp at rrc0 rrc1 rrc2; refine Blk.thru (b := wr.heap.size) (arr := ?_) (t := ?_) ?_ hb9 ?_; rotate_left 2; (focus (exact blk)); intro rg; have rgc0 := rg.cell 0; have rgf0 := rg.free 0; have rgc1 := rg.cell 1; have rgf1 := rg.free 1; have rgc2 := rg.cell 2; have rgf2 := rg.free 2; have rgc3 := rg.cell 3; have rgf3 := rg.free 3; have rgc4 := rg.cell 4; have rgf4 := rg.free 4; have rgc5 := rg.cell 5; have rgf5 := rg.free 5; have rgl := rg.lt; simp at rgc0 rgc1 rgc2 rgc3 rgc4 rgc5))
                go_ret
                exact ⟨ret_int (by rw [HF.out]), by (exact kpt)⟩
        · obtain rfl : k = h.gauges.length := by omega
          clear hall hk hlt hlb
          go_wp2
          clear q0c0 q0f0 q0c1 q0f1 q0c2 q0f2 q0l
          go_loopw [89] (fun i wr => ∃ k : Nat, k ≤ h.flows.length ∧ i = .int .i64 k ∧ (∀ j (hj : j < h.flows.length), j < k → flowB h.warm.length h.flows[j] = true) ∧ Blk wr w.heap.size #[.slice aw h.warm.length cw, .slice ag h.gauges.length cg, .slice af h.flows.length cf] 52 ∧ Kept w wr) (fun i _ => h.flows.length - (intOf i).toNat)
          case atStart => exact ⟨0, Nat.zero_le _, rfl, fun c _ hc => by omega, q0, hkk⟩
          case round =>
            clear q0 hkk
            obtain ⟨k, hk, rfl, hall, q0, hkk⟩ := hrel
            have HFLS := Lib.hid hall
            clear hall
            have q0c0 := q0.cell 0
            have q0f0 := q0.free 0
            have q0c1 := q0.cell 1
            have q0f1 := q0.free 1
            have q0c2 := q0.cell 2
            have q0f2 := q0.free 2
            have q0l := q0.lt
            simp at q0c0 q0c1 q0c2
            by_cases hlt : k < h.flows.length
            · obtain ⟨b1, o1, rfl, hb1, c0, c1, c2⟩ := Flow.row (R3.out _ hkk) k hlt
              obtain ⟨x, hx⟩ : ∃ x, x = h.flows[k] := ⟨_, rfl⟩
              rw [← hx] at c0 c1 c2
              have HX := Lib.hid hx
              clear hx
              cases t1 : inB x.time 0 1000000
              · have T1 := Lib.hid t1
                have HF := Lib.hid (show histE h = 34 by unfold histE; rw [histB_flow hlt (by rw [← HX.out]; simp [flowB, t1])]; rfl)
                clear t1
                go_wp2_with (go_at_call 34; (with_reducible refine (f_rangedQ x.time 0 1000000 _ T1.out _ _ _ (by simp)).mono ?_); rintro e w9 ⟨rfl, rfl⟩)
                go_ret
                exact ⟨ret_int (by rw [HF.out]), by (exact kpt)⟩
              · have T1 := Lib.hid t1
                cases t2 : inB x.cell 0 (h.warm.length - 1)
                · have T2 := Lib.hid t2
                  have HF := Lib.hid (show histE h = 34 by unfold histE; rw [histB_flow hlt (by rw [← HX.out]; simp [flowB, t2])]; rfl)
                  clear t1 t2
                  go_wp2_with (first | (go_at_call 34; (with_reducible refine (f_rangedQ x.time 0 1000000 _ T1.out _ _ _ (by simp)).mono ?_); rintro e w9 ⟨rfl, rfl⟩) | (go_at_call 34; (with_reducible refine (f_rangedQ x.cell 0 (h.warm.length - 1) _ T2.out _ _ _ (by simp)).mono ?_); rintro e w9 ⟨rfl, rfl⟩))
                  go_ret
                  exact ⟨ret_int (by rw [HF.out]), by (exact kpt)⟩
                · have T2 := Lib.hid t2
                  cases t3 : inB x.n (-10000000) 10000000
                  · have T3 := Lib.hid t3
                    have HF := Lib.hid (show histE h = 34 by unfold histE; rw [histB_flow hlt (by rw [← HX.out]; simp [flowB, t3])]; rfl)
                    clear t1 t2 t3
                    go_wp2_with (first | (go_at_call 34; (with_reducible refine (f_rangedQ x.time 0 1000000 _ T1.out _ _ _ (by simp)).mono ?_); rintro e w9 ⟨rfl, rfl⟩) | (go_at_call 34; (with_reducible refine (f_rangedQ x.cell 0 (h.warm.length - 1) _ T2.out _ _ _ (by simp)).mono ?_); rintro e w9 ⟨rfl, rfl⟩) | (go_at_call 34; (with_reducible refine (f_rangedQ x.n (-10000000) 10000000 _ T3.out _ _ _ (by simp)).mono ?_); rintro e w9 ⟨rfl, rfl⟩))
                    go_ret
                    exact ⟨ret_int (by rw [HF.out]), by (exact kpt)⟩
                  · have T3 := Lib.hid t3
                    have HFL := Lib.hid (show flowB h.warm.length x = true by simp [flowB, t1, t2, t3])
                    clear t1 t2 t3
                    go_wp2_with (first | (go_at_call 34; (with_reducible refine (f_rangedQ x.time 0 1000000 _ T1.out _ _ _ (by simp)).mono ?_); rintro e w9 ⟨rfl, rfl⟩) | (go_at_call 34; (with_reducible refine (f_rangedQ x.cell 0 (h.warm.length - 1) _ T2.out _ _ _ (by simp)).mono ?_); rintro e w9 ⟨rfl, rfl⟩) | (go_at_call 34; (with_reducible refine (f_rangedQ x.n (-10000000) 10000000 _ T3.out _ _ _ (by simp)).mono ?_); rintro e w9 ⟨rfl, rfl⟩))
                    go_round
                    case rel =>
                      refine ⟨k + 1, by omega, by go_num, fun j hj hjk => ?_, by (exact blkc), by (exact kpt)⟩
                      by_cases hjj : j < k
                      · exact HFLS.out j hj hjj
                      · obtain rfl : j = k := by omega
                        rw [← HX.out]; exact HFL.out
                    case measure => simp [intOf]; omega
            · obtain rfl : k = h.flows.length := by omega
              have HT := Lib.hid (show histE h = 0 by unfold histE; rw [histB_true HS.out HWARM.out HOKS.out (fun j hj => HFLS.out j hj hj)]; rfl)
              go_wp2
              go_ret
              exact ⟨ret_int (by rw [HT.out]), by (exact kpt)⟩
theorem f_CheckHistory (h : Hist) (s : Spot) (w : World) (hh : HistAt h s w) : Calls Try.prog 38 #[.agg #[.slice s.aw h.warm.length s.cw, .slice s.ag h.gauges.length s.cg, .slice s.af h.flows.length s.cf]] w fun e w' => e = .returned (.int .i64 (histE h)) ∧ Kept w w' := by
  cases hs : sizesB h
  · exact f_CheckHistory_sizes h s w hh hs
  · exact f_CheckHistory_main h s w hh hs

end Go.Proofs.Ytnfhcpnpjkefmaa

/-
  Volumes and fits.
-/
namespace Go.Proofs.Ytnfhcpnpjkefmaa
open Go.RowKit Bal Bal.Trim Bal.Gas
set_option linter.unusedVariables false
set_option linter.unusedSimpArgs false
set_option maxHeartbeats 400000

theorem f_put_air (c : Cell) (a : Air) (w : World) (hv : cellB c = true) (ha : airB a = false) :
    Calls Try.prog 36 #[.agg #[.int .i64 c.room, .int .i64 c.helium, .int .i64 c.air, .int .i64 c.wlo, .int .i64 c.whi, .int .i64 c.leak, .int .i64 c.owed], .agg #[.int .i64 a.plo, .int .i64 a.phi, .int .i64 a.tlo, .int .i64 a.thi]] w fun e w' => e = .returned (.tuple #[.agg #[.int .i64 c.room, .int .i64 c.helium, .int .i64 c.air, .int .i64 c.wlo, .int .i64 c.whi, .int .i64 c.leak, .int .i64 c.owed, .int .i64 a.plo, .int .i64 a.phi, .int .i64 a.tlo, .int .i64 a.thi, .int .i64 (amount c), .int .i64 (wrap64 (a.tlo + c.wlo)), .int .i64 (wrap64 (a.thi + c.whi))], .int .i64 30]) ∧ Kept w w' := by
  have := f_put_ok c a w hv
  rwa [show checkAir a = 30 by simp [checkAir, ha]] at this

theorem f_Volume_bad (c : Cell) (a : Air) (w : World) (hv : cellB c = false) :
    Calls Try.prog 10 #[.agg #[.int .i64 c.room, .int .i64 c.helium, .int .i64 c.air, .int .i64 c.wlo, .int .i64 c.whi, .int .i64 c.leak, .int .i64 c.owed], .agg #[.int .i64 a.plo, .int .i64 a.phi, .int .i64 a.tlo, .int .i64 a.thi]] w fun e w' => e = .returned (.tuple #[.agg #[.int .i64 0, .int .i64 0], .int .i64 31]) ∧ Kept w w' := by
  go_enter Try.func10, Try.ntmps10
  go_wp2_with (go_at_call 36; (with_reducible refine (f_put_bad c a _ hv).mono ?_); rintro e w1 ⟨rfl, hb1⟩; obtain ⟨hc1, hf1, hl1⟩ := bcell3 hb1)
  exact bodyPost_ret (v := .tuple #[.agg #[.int .i64 0, .int .i64 0], .int .i64 31]) (by simp [results, Try.results10, go_sem, hc1, hf1, hl1]) rfl ⟨rfl, by (exact kpt)⟩

theorem f_Volume_air (c : Cell) (a : Air) (w : World) (hv : cellB c = true) (ha : airB a = false) :
    Calls Try.prog 10 #[.agg #[.int .i64 c.room, .int .i64 c.helium, .int .i64 c.air, .int .i64 c.wlo, .int .i64 c.whi, .int .i64 c.leak, .int .i64 c.owed], .agg #[.int .i64 a.plo, .int .i64 a.phi, .int .i64 a.tlo, .int .i64 a.thi]] w fun e w' => e = .returned (.tuple #[.agg #[.int .i64 0, .int .i64 0], .int .i64 30]) ∧ Kept w w' := by
  go_enter Try.func10, Try.ntmps10
  go_wp2_with (go_at_call 36; (with_reducible refine (f_put_air c a _ hv ha).mono ?_); rintro e w1 ⟨rfl, hb1⟩; obtain ⟨hc1, hf1, hl1⟩ := bcell3 hb1)
  exact bodyPost_ret (v := .tuple #[.agg #[.int .i64 0, .int .i64 0], .int .i64 30]) (by simp [results, Try.results10, go_sem, hc1, hf1, hl1]) rfl ⟨rfl, by (exact kpt)⟩

theorem f_Volume_ok (c : Cell) (a : Air) (w : World) (hv : cellB c = true) (ha : airB a = true) :
    Calls Try.prog 10 #[.agg #[.int .i64 c.room, .int .i64 c.helium, .int .i64 c.air, .int .i64 c.wlo, .int .i64 c.whi, .int .i64 c.leak, .int .i64 c.owed], .agg #[.int .i64 a.plo, .int .i64 a.phi, .int .i64 a.tlo, .int .i64 a.thi]] w fun e w' => e = .returned (.tuple #[.agg #[.int .i64 (volLo c a), .int .i64 (volHi c a)], .int .i64 0]) ∧ Kept w w' := by
  obtain ⟨n0, n1, ⟨p0, p1, p2⟩, q0, q1, q2, q3⟩ := prod_bd hv ha
  obtain ⟨⟨h7, h8, h9⟩, h10⟩ := airB_iff.1 ha
  have E1 := Lib.hid (vol_lo hv ha)
  have E2 := Lib.hid (vol_hi hv ha)
  have K1 := Lib.hid (show ratioOk ⟨amount c * heatLo c a, a.phi⟩ from ⟨by simp; omega, by simp; omega, by simp; omega, by simp; omega⟩)
  have K2 := Lib.hid (show ratioOk ⟨amount c * heatHi c a, a.plo⟩ from ⟨by simp; omega, by simp; omega, by simp; omega, by simp; omega⟩)
  have HV := Lib.hid hv
  have HA := Lib.hid ha
  clear hv ha
  go_enter Try.func10, Try.ntmps10
  go_wp2_with (first | (go_at_call 36; (with_reducible refine (f_put_good c a _ HV.out HA.out).mono ?_); rintro e w1 ⟨rfl, hb1⟩; obtain ⟨hc1, hf1, hl1⟩ := bcell3 hb1) | (go_at_call 37; (with_reducible refine (f_least2 ⟨amount c * heatLo c a, a.phi⟩ ⟨amount c * heatHi c a, a.plo⟩ _ _ _ (by simp) K1.out K2.out).mono ?_); rintro e w1 ⟨rfl, hb1⟩; obtain ⟨hc1, hf1, hl1⟩ := bcell3 hb1; refine Blk.thru (b := w.heap.size + 1 + 1) (arr := ?_) (t := ?_) ?_ hb1 ?_; rotate_left 2; (focus (exact blk)); intro qq; have qqc0 := qq.cell 0; have qqf0 := qq.free 0; have qqc1 := qq.cell 1; have qqf1 := qq.free 1; have qql := qq.lt; simp at qqc0 qqc1))
  exact bodyPost_ret (v := .tuple #[.agg #[.int .i64 (leastLo [⟨amount c * heatLo c a, a.phi⟩, ⟨amount c * heatHi c a, a.plo⟩]), .int .i64 (leastHi [⟨amount c * heatLo c a, a.phi⟩, ⟨amount c * heatHi c a, a.plo⟩])], .int .i64 0]) (by simp [results, Try.results10, go_sem, qqc0, qqc1, qqf0, qqf1]) rfl ⟨by rw [E1.out, E2.out], by (exact kpt)⟩

theorem f_Fits_bad (c : Cell) (a : Air) (w : World) (hv : cellB c = false) :
    Calls Try.prog 14 #[.agg #[.int .i64 c.room, .int .i64 c.helium, .int .i64 c.air, .int .i64 c.wlo, .int .i64 c.whi, .int .i64 c.leak, .int .i64 c.owed], .agg #[.int .i64 a.plo, .int .i64 a.phi, .int .i64 a.tlo, .int .i64 a.thi]] w fun e w' => e = .returned (.tuple #[.int .u8 0, .int .i64 31]) ∧ Kept w w' := by
  go_enter Try.func14, Try.ntmps14
  go_wp2_with (go_at_call 36; (with_reducible refine (f_put_bad c a _ hv).mono ?_); rintro e w1 ⟨rfl, hb1⟩; obtain ⟨hc1, hf1, hl1⟩ := bcell3 hb1)
  first | (go_ret; exact ⟨rfl, by (exact kpt)⟩) | exact bodyPost_ret (v := .tuple #[.int .u8 0, .int .i64 31]) (by simp [results, Try.results14, go_sem, hc1, hf1, hl1]) rfl ⟨rfl, by (exact kpt)⟩

theorem f_Fits_air (c : Cell) (a : Air) (w : World) (hv : cellB c = true) (ha : airB a = false) :
    Calls Try.prog 14 #[.agg #[.int .i64 c.room, .int .i64 c.helium, .int .i64 c.air, .int .i64 c.wlo, .int .i64 c.whi, .int .i64 c.leak, .int .i64 c.owed], .agg #[.int .i64 a.plo, .int .i64 a.phi, .int .i64 a.tlo, .int .i64 a.thi]] w fun e w' => e = .returned (.tuple #[.int .u8 0, .int .i64 30]) ∧ Kept w w' := by
  go_enter Try.func14, Try.ntmps14
  go_wp2_with (go_at_call 36; (with_reducible refine (f_put_air c a _ hv ha).mono ?_); rintro e w1 ⟨rfl, hb1⟩; obtain ⟨hc1, hf1, hl1⟩ := bcell3 hb1)
  first | (go_ret; exact ⟨rfl, by (exact kpt)⟩) | exact bodyPost_ret (v := .tuple #[.int .u8 0, .int .i64 30]) (by simp [results, Try.results14, go_sem, hc1, hf1, hl1]) rfl ⟨rfl, by (exact kpt)⟩

theorem f_Fits_ok (c : Cell) (a : Air) (w : World) (hv : cellB c = true) (ha : airB a = true) :
    Calls Try.prog 14 #[.agg #[.int .i64 c.room, .int .i64 c.helium, .int .i64 c.air, .int .i64 c.wlo, .int .i64 c.whi, .int .i64 c.leak, .int .i64 c.owed], .agg #[.int .i64 a.plo, .int .i64 a.phi, .int .i64 a.tlo, .int .i64 a.thi]] w fun e w' => e = .returned (.tuple #[.int .u8 (state c a), .int .i64 0]) ∧ Kept w w' := by
  obtain ⟨n0, n1, ⟨p0, p1, p2⟩, q0, q1, q2, q3⟩ := prod_bd hv ha
  have HV := Lib.hid hv
  have HA := Lib.hid ha
  clear hv ha
  by_cases c1 : amount c * heatHi c a ≤ c.room * a.plo <;> by_cases c2 : c.room * a.phi < amount c * heatLo c a
  all_goals
    unfold state
    simp only [c1, c2, if_true, if_false]
    go_enter Try.func14, Try.ntmps14
    go_wp2_with (go_at_call 36; (with_reducible refine (f_put_good c a _ HV.out HA.out).mono ?_); rintro e w1 ⟨rfl, hb1⟩; obtain ⟨hc1, hf1, hl1⟩ := bcell3 hb1)
    exact bodyPost_ret (by simp [results, Try.results14, go_sem]) rfl ⟨rfl, by (exact kpt)⟩

end Go.Proofs.Ytnfhcpnpjkefmaa

/-
  Ceilings and valving.
-/
namespace Go.Proofs.Ytnfhcpnpjkefmaa
open Go.RowKit Bal Bal.Trim Bal.Gas
set_option linter.unusedVariables false
set_option linter.unusedSimpArgs false
set_option maxHeartbeats 800000

set_option maxRecDepth 10000
theorem f_heated_ok (x y u v : Int) (w : World) (h : -1000000 ≤ x ∧ x ≤ 1000000 ∧ -1000000 ≤ y ∧ y ≤ 1000000 ∧ -1000000 ≤ u ∧ u ≤ 1000000 ∧ -1000000 ≤ v ∧ v ≤ 1000000) :
    Calls Try.prog 68 #[.agg #[.int .i64 x, .int .i64 y], .agg #[.int .i64 u, .int .i64 v]] w fun e w' => e = .returned (.agg #[.int .i64 (x + u), .int .i64 (y + v)]) ∧ Kept w w' := by
  have := f_heated x y u v w
  rwa [w64_in (x + u) (by omega), w64_in (y + v) (by omega)] at this

end Go.Proofs.Ytnfhcpnpjkefmaa

/-
  What a gauge allows of a cell: the program.
-/
namespace Go.Proofs.Ytnfhcpnpjkefmaa
open Go.RowKit Bal Bal.Trim Bal.Gas
set_option linter.unusedVariables false
set_option linter.unusedSimpArgs false
set_option maxHeartbeats 4000000
set_option maxRecDepth 100000

theorem blkx {w : World} {b : Nat} {arr : Array Value} {t : TypeId} (h : Blk w b arr t := by (refine Blk.cast (arr := ?_) ?_ ?_; rotate_left 1; (focus (repeat (first | with_reducible assumption | ((with_reducible refine Blk.new' ?_); first | with_reducible rfl | (simp; done) | (simp [World.drew]; done)) | with_reducible refine Blk.alloc ?_ _ | ((with_reducible refine Blk.set (arr := ?_) ?_ _ _); rotate_left 1) | ((with_reducible refine Blk.other ?_ ?_ _); rotate_left 1; (focus (first | (simp; done) | (simp; omega) | (refine Nat.ne_of_gt (Blk.lt (arr := ?_) (t := ?_) ?_); rotate_left 2; focus (exact blk0)) | (refine Nat.ne_of_lt (Blk.lt (arr := ?_) (t := ?_) ?_); rotate_left 2; focus (exact blk0)))); rotate_right 1) | with_reducible refine Blk.keep ?_ (by with_reducible assumption) | with_reducible refine Blk.drew ?_))); (first | rfl | (simp; done)))) : Blk w b arr t := h
theorem f_allowed (h : Hist) (s : Spot) (w : World) (hh : HistAt h s w) (ho : HistOk h) (i c : Nat) (hi : i < h.gauges.length) (hc : c < h.warm.length) :
    Calls Try.prog 85 #[.agg #[.slice s.aw h.warm.length s.cw, .slice s.ag h.gauges.length s.cg, .slice s.af h.flows.length s.cf], .int .i64 i, .int .i64 c] w fun e w' => e = .returned (.agg #[.int .i64 (alLo h i c), .int .i64 (alHi h i c)]) ∧ Kept w w' := by
  have hcw := hh.wc
  have hcm := hh.wm
  have hgc := hh.gc
  have hgm := hh.gm
  have hfc := hh.fc
  have hfm := hh.fm
  unfold maxLen at hcm hgm hfm
  obtain ⟨aw, ag, af, cw, cg, cf⟩ := s
  simp only at hcw hcm hgc hgm hfc hfm
  have R1 := Lib.hid (show ∀ W, Kept w W → Row Sp.cells 2 W.heap.size W aw h.warm from fun W hW => (hh.later hW).warm)
  have R2 := Lib.hid (show ∀ W, Kept w W → Row Gauge.cells 6 W.heap.size W ag h.gauges from fun W hW => (hh.later hW).gauges)
  have RV0 := fun (W : World) (hW : Kept w W) => (hh.later hW).volsAt i hi
  have hbd := al_bd ho hi hc
  have hvl := ho.vlen i hi
  have hvc := hh.vc _ (List.getElem_mem hi)
  rw [gAt_get hi] at hvc
  have hai := airB_iff.1 (ho.air i hi)
  have hwb := ho.warm c hc
  have HLO0 : alLo h i c = -((-((vAt (gAt h i) c).lo * (gAt h i).air.plo)) / ((gAt h i).air.thi + (wAt h c).hi)) := rfl
  have HHI0 : alHi h i c = (vAt (gAt h i) c).hi * (gAt h i).air.phi / ((gAt h i).air.tlo + (wAt h c).lo) := rfl
  obtain ⟨g, hg⟩ : ∃ g, g = gAt h i := ⟨_, rfl⟩
  obtain ⟨x, hx⟩ : ∃ x, x = wAt h c := ⟨_, rfl⟩
  rw [← hg] at RV0 hvl hvc hbd hai HLO0 HHI0
  rw [← hx] at hbd hwb HLO0 HHI0
  obtain ⟨y, hy⟩ : ∃ y, y = vAt g c := ⟨_, rfl⟩
  rw [← hy] at hbd HLO0 HHI0
  obtain ⟨va, hva⟩ : ∃ v, v = gv g := ⟨_, rfl⟩
  rw [← hva] at RV0
  have hcv : c < g.vols.length := by omega
  have hv12 : g.vols.length ≤ 12 := by have := ho.w2; omega
  have hg30 : h.gauges.length ≤ 30 := ho.g2
  have hw12 : h.warm.length ≤ 12 := ho.w2
  have RV := Lib.hid RV0
  have HLO := Lib.hid HLO0
  have HHI := Lib.hid HHI0
  have HG := Lib.hid hg
  have HX := Lib.hid hx
  have HY := Lib.hid hy
  have HVA := Lib.hid hva
  obtain ⟨⟨d0, d1, d2⟩, ⟨m0, m1⟩, ⟨m2, m3⟩, ⟨l0_, l1_⟩, l2_, l3_⟩ := hbd
  clear hg hx hy hva RV0 HLO0 HHI0 hvl l0_ l1_ l2_ l3_
  obtain ⟨bg, og, hag, hbg, g0, g1, g2, g3, g4, g5⟩ := Gauge.row (R2.out _ (Below.refl _ _)) i hi
  rw [gAt_get hi, ← HG.out] at g0 g1 g2 g3 g4 g5
  rw [← HVA.out] at g5
  subst hag
  go_enter Try.func85, Try.ntmps85
  go_upto_region 2 with fail
  clear g0 g1 g2 g3 g4 g5
  refine at_world (S := fun V => Blk V w.heap.size #[.slice aw h.warm.length cw, .slice (some ⟨bg, og, none⟩) h.gauges.length cg, .slice af h.flows.length cf] 52 ∧ Blk V (w.heap.size + 1) #[.int .i64 0, .int .i64 0] 29 ∧ Blk V (w.heap.size + 1 + 1) #[.int .i64 g.time, .int .i64 g.air.plo, .int .i64 g.air.phi, .int .i64 g.air.tlo, .int .i64 g.air.thi, .slice va g.vols.length g.vc] 46 ∧ Kept w V) ⟨by (exact blkc), by (exact blkc), by (exact blkc), by (exact kpt)⟩ ?_
  rintro V ⟨q0, q1, q6, hkV⟩
  obtain ⟨bw, ow, haw, hbw, c0, c1⟩ := Sp.row (R1.out _ hkV) c hc
  rw [wAt_get hc, ← HX.out] at c0 c1
  obtain ⟨bv, ov, hva2, hbv, v0, v1⟩ := Sp.row (RV.out _ hkV) c hcv
  rw [vAt_get hcv, ← HY.out] at v0 v1
  subst haw hva2
  go_cut [8, 9] (fun s8 s9 wx => ∃ n8 n9, s8 = .pointer (some ⟨n8, 0, none⟩) ∧ s9 = .pointer (some ⟨n9, 0, none⟩) ∧ Blk wx n8 #[.int .i64 y.lo, .int .i64 y.hi] 29 ∧ Blk wx n9 #[.int .i64 (g.air.tlo + x.lo), .int .i64 (g.air.thi + x.hi)] 29 ∧ Blk wx w.heap.size #[.slice (some ⟨bw, ow, none⟩) h.warm.length cw, .slice (some ⟨bg, og, none⟩) h.gauges.length cg, .slice af h.flows.length cf] 52 ∧ Blk wx (w.heap.size + 1) #[.int .i64 0, .int .i64 0] 29 ∧ Blk wx (w.heap.size + 1 + 1) #[.int .i64 g.time, .int .i64 g.air.plo, .int .i64 g.air.phi, .int .i64 g.air.tlo, .int .i64 g.air.thi, .slice (some ⟨bv, ov, none⟩) g.vols.length g.vc] 46 ∧ Kept w wx)
  case first =>
    have q0k0 : ∀ w', Kept V w' → w'.cell? ⟨w.heap.size, 0, none⟩ = _ := fun w' h => (q0.keep h).cell 0
    have q0k1 : ∀ w', Kept V w' → w'.cell? ⟨w.heap.size, 1, none⟩ = _ := fun w' h => (q0.keep h).cell 1
    have q0k2 : ∀ w', Kept V w' → w'.cell? ⟨w.heap.size, 2, none⟩ = _ := fun w' h => (q0.keep h).cell 2
    simp at q0k0 q0k1 q0k2
    have q6k0 : ∀ w', Kept V w' → w'.cell? ⟨(w.heap.size + 1 + 1), 0, none⟩ = _ := fun w' h => (q6.keep h).cell 0
    have q6k1 : ∀ w', Kept V w' → w'.cell? ⟨(w.heap.size + 1 + 1), 1, none⟩ = _ := fun w' h => (q6.keep h).cell 1
    have q6k2 : ∀ w', Kept V w' → w'.cell? ⟨(w.heap.size + 1 + 1), 2, none⟩ = _ := fun w' h => (q6.keep h).cell 2
    have q6k3 : ∀ w', Kept V w' → w'.cell? ⟨(w.heap.size + 1 + 1), 3, none⟩ = _ := fun w' h => (q6.keep h).cell 3
    have q6k4 : ∀ w', Kept V w' → w'.cell? ⟨(w.heap.size + 1 + 1), 4, none⟩ = _ := fun w' h => (q6.keep h).cell 4
    have q6k5 : ∀ w', Kept V w' → w'.cell? ⟨(w.heap.size + 1 + 1), 5, none⟩ = _ := fun w' h => (q6.keep h).cell 5
    simp at q6k0 q6k1 q6k2 q6k3 q6k4 q6k5
    have y0 : ∀ w', Kept V w' → w'.cell? ⟨bw, ow + c * 2, none⟩ = _ := fun w' h => (h.cell (p := ⟨bw, ow + c * 2, none⟩) hbw).trans c0
    have y1 : ∀ w', Kept V w' → w'.cell? ⟨bw, ow + c * 2 + 1, none⟩ = _ := fun w' h => (h.cell (p := ⟨bw, ow + c * 2 + 1, none⟩) hbw).trans c1
    have z0 : ∀ w', Kept V w' → w'.cell? ⟨bv, ov + c * 2, none⟩ = _ := fun w' h => (h.cell (p := ⟨bv, ov + c * 2, none⟩) hbv).trans v0
    have z1 : ∀ w', Kept V w' → w'.cell? ⟨bv, ov + c * 2 + 1, none⟩ = _ := fun w' h => (h.cell (p := ⟨bv, ov + c * 2 + 1, none⟩) hbv).trans v1
    have l0 := q0.lt
    have l1 := q1.lt
    have l6 := q6.lt
    clear c0 c1 v0 v1
    go_region_held3 (fun w' => Kept V w') (exact kpt) (first | (go_at_call 68; (with_reducible refine (f_heated_ok g.air.tlo g.air.thi x.lo x.hi _ ?_).mono ?_); (focus omega); rintro e w3 ⟨rfl, hb3⟩; (first | (refine Blk.thru (b := V.heap.size) (arr := #[.int .i64 0, .int .i64 0]) (t := 29) ?_ hb3 ?_; (focus (first | with_reducible assumption | (refine Blk.new' ?_; (focus (simp; done))) | (refine Blk.drew (Blk.new' ?_); (focus (simp; done))) | (refine Blk.alloc (Blk.new' ?_) _; (focus (simp; done))) | (refine Blk.drew (Blk.alloc (Blk.new' ?_) _); (focus (simp; done))) | (refine Blk.alloc (Blk.drew (Blk.new' ?_)) _; (focus (simp; done))) | (refine Blk.alloc ?_ _; with_reducible assumption) | (refine Blk.drew ?_; with_reducible assumption) | (refine Blk.drew (Blk.alloc ?_ _); with_reducible assumption) | fail)); intro ta; have tac0 := ta.cell 0; have taf0 := ta.free 0; have tac1 := ta.cell 1; have taf1 := ta.free 1; have tal := ta.lt; simp at tac0 tac1) | skip); (first | (refine Blk.thru (b := V.heap.size + 1) (arr := #[.int .i64 0, .int .i64 0]) (t := 29) ?_ hb3 ?_; (focus (first | with_reducible assumption | (refine Blk.new' ?_; (focus (simp; done))) | (refine Blk.drew (Blk.new' ?_); (focus (simp; done))) | (refine Blk.alloc (Blk.new' ?_) _; (focus (simp; done))) | (refine Blk.drew (Blk.alloc (Blk.new' ?_) _); (focus (simp; done))) | (refine Blk.alloc (Blk.drew (Blk.new' ?_)) _; (focus (simp; done))) | (refine Blk.alloc ?_ _; with_reducible assumption) | (refine Blk.drew ?_; with_reducible assumption) | (refine Blk.drew (Blk.alloc ?_ _); with_reducible assumption) | fail)); intro tb; have tbc0 := tb.cell 0; have tbf0 := tb.free 0; have tbc1 := tb.cell 1; have tbf1 := tb.free 1; have tbl := tb.lt; simp at tbc0 tbc1) | skip)) | fail)
    all_goals (go_wp2_with fail; go_meet)
    all_goals exact ⟨_, _, rfl, rfl, by exact blkx, by exact blkx, by (exact blkc), by (exact blkc), by (exact blkc), by (exact kpt)⟩
  case rest =>
    clear q0 q1 q6 hkV c0 c1 v0 v1
    obtain ⟨n8, n9, rfl, rfl, q8, q9, q0, q1, q6, hk⟩ := hcut
    go_upto_region 3 with fail
    refine at_world (S := fun Y => Blk Y n8 #[.int .i64 y.lo, .int .i64 y.hi] 29 ∧ Blk Y n9 #[.int .i64 (g.air.tlo + x.lo), .int .i64 (g.air.thi + x.hi)] 29 ∧ Blk Y w.heap.size #[.slice (some ⟨bw, ow, none⟩) h.warm.length cw, .slice (some ⟨bg, og, none⟩) h.gauges.length cg, .slice af h.flows.length cf] 52 ∧ Blk Y (w.heap.size + 1) #[.int .i64 0, .int .i64 0] 29 ∧ Blk Y (w.heap.size + 1 + 1) #[.int .i64 g.time, .int .i64 g.air.plo, .int .i64 g.air.phi, .int .i64 g.air.tlo, .int .i64 g.air.thi, .slice (some ⟨bv, ov, none⟩) g.vols.length g.vc] 46 ∧ Kept w Y) ⟨q8, q9, q0, q1, q6, hk⟩ ?_
    clear q8 q9 q0 q1 q6 hk
    rintro Y ⟨q8, q9, q0, q1, q6, hkY⟩
    have q8c0 := fun g : Later Y => (q8.later g).cell 0
    have q8f0 := fun g : Later Y => (q8.later g).free 0
    have q8c1 := fun g : Later Y => (q8.later g).cell 1
    have q8f1 := fun g : Later Y => (q8.later g).free 1
    have q8l := fun g : Later Y => (q8.later g).lt
    simp at q8c0 q8c1
    have q9c0 := fun g : Later Y => (q9.later g).cell 0
    have q9f0 := fun g : Later Y => (q9.later g).free 0
    have q9c1 := fun g : Later Y => (q9.later g).cell 1
    have q9f1 := fun g : Later Y => (q9.later g).free 1
    have q9l := fun g : Later Y => (q9.later g).lt
    simp at q9c0 q9c1
    have q6c0 := fun g : Later Y => (q6.later g).cell 0
    have q6f0 := fun g : Later Y => (q6.later g).free 0
    have q6c1 := fun g : Later Y => (q6.later g).cell 1
    have q6f1 := fun g : Later Y => (q6.later g).free 1
    have q6c2 := fun g : Later Y => (q6.later g).cell 2
    have q6f2 := fun g : Later Y => (q6.later g).free 2
    have q6c3 := fun g : Later Y => (q6.later g).cell 3
    have q6f3 := fun g : Later Y => (q6.later g).free 3
    have q6c4 := fun g : Later Y => (q6.later g).cell 4
    have q6f4 := fun g : Later Y => (q6.later g).free 4
    have q6c5 := fun g : Later Y => (q6.later g).cell 5
    have q6f5 := fun g : Later Y => (q6.later g).free 5
    have q6l := fun g : Later Y => (q6.later g).lt
    simp at q6c0 q6c1 q6c2 q6c3 q6c4 q6c5
    have w1 := i64_inH (n := y.lo * g.air.plo) (by omega)
    have w2 := i64_inH (n := y.hi * g.air.phi) (by omega)
    obtain ⟨L, hL⟩ : ∃ n, n = alLo h i c := ⟨_, rfl⟩
    obtain ⟨H, hH⟩ : ∃ n, n = alHi h i c := ⟨_, rfl⟩
    have KC : ∀ W, Calls Try.prog 70 #[.agg #[.int .i64 (y.lo * g.air.plo), .int .i64 (g.air.thi + x.hi)]] W fun e w' => e = .returned (.int .i64 L) ∧ Kept W w' := fun W => by
      have k := f_up ⟨y.lo * g.air.plo, g.air.thi + x.hi⟩ W (by simp only; omega) (by simp only; omega) (by simp only; omega) (by simp only; omega)
      rwa [show up ⟨y.lo * g.air.plo, g.air.thi + x.hi⟩ = L by rw [hL, HLO.out]; rfl] at k
    have KF : ∀ W, Calls Try.prog 69 #[.agg #[.int .i64 (y.hi * g.air.phi), .int .i64 (g.air.tlo + x.lo)]] W fun e w' => e = .returned (.int .i64 H) ∧ Kept W w' := fun W => by
      have k := f_down ⟨y.hi * g.air.phi, g.air.tlo + x.lo⟩ W (by simp only; omega) (by simp only; omega) (by simp only; omega) (by simp only; omega)
      rwa [show down ⟨y.hi * g.air.phi, g.air.tlo + x.lo⟩ = H by rw [hH, HHI.out]; rfl] at k
    have HL := Lib.hid hL
    have HH := Lib.hid hH
    clear hL hH
    refine Later.tail 23 (by kernel_rfl) (by kernel_rfl) ?_
    simp only [List.take_succ_cons, List.take_zero, List.drop_succ_cons, List.drop_zero]
    repeat (first | go_big_quiet_skip | (go_big_quiet_want; go_big_quiet_op; first | go_big_quiet_on | (apply Exists.intro; refine ⟨fun g_ => ?_, ?_⟩; (focus (first | (go_at_call 70; with_reducible exact Later.call (KC _)) | (go_at_call 69; with_reducible exact Later.call (KF _)))); go_big_quiet_on)))
    refine wpQuiet_nil ?_
    intro gg
    refine wpList_plain rfl fun K1 hK1 => ?_
    clear q8c0 q8f0 q8c1 q8f1 q8l q9c0 q9f0 q9c1 q9f1 q9l q6c0 q6f0 q6c1 q6f1 q6c2 q6f2 q6c3 q6f3 q6c4 q6f4 q6c5 q6f5 q6l
    have n1 := q1.later gg
    have hkg := Kept.drop hkY gg.ok
    have n1c0 := n1.cell 0
    have n1f0 := n1.free 0
    have n1c1 := n1.cell 1
    have n1f1 := n1.free 1
    have n1l := n1.lt
    simp at n1c0 n1c1
    go_wp2
    exact bodyPost_ret (v := .agg #[.int .i64 L, .int .i64 H]) (by simp [results, Try.results85, go_sem, n1c0, n1f0, n1c1, n1f1]) rfl ⟨by rw [HL.out, HH.out], by (exact kpt)⟩

end Go.Proofs.Ytnfhcpnpjkefmaa

/-
  The reference: clashes.
-/
namespace Go.Proofs.Ytnfhcpnpjkefmaa
open Go.RowKit Bal Bal.Trim Bal.Gas
set_option linter.unusedVariables false
set_option linter.unusedSimpArgs false
set_option maxHeartbeats 4000000
set_option maxRecDepth 100000

theorem kptx {w w' : World} (h : Kept w w' := by (repeat (first | with_reducible exact Below.refl _ _ | with_reducible assumption | with_reducible refine Kept.drop ?_ (by with_reducible assumption) | with_reducible refine Kept.alloc ?_ _ | ((with_reducible refine Below.setCell ?_ ?_ _); rotate_left 1; (focus (first | exact Nat.le_refl _ | (simp; done) | (simp; omega) | exact Below.size (by with_reducible assumption) | (refine Kept.size ?_; (exact kpt0)) | (refine Nat.le_succ_of_le (Kept.size ?_); (exact kpt0))))) | with_reducible refine Below.drew ?_))) : Kept w w' := h
end Go.Proofs.Ytnfhcpnpjkefmaa

/-
  Regions that draw their order within a round of a loop over an iterator (at the wide fence): what is shown of them outside holds there too. No program in sight.
-/
namespace Bal
open Go Go.RowKit
section
variable {P : Program} {Q : Exit → Act → World → Prop} {md : Region.Mode} {ops : Array Oper} {l : Nat} {n : Nat}

def noDefer (o : Oper) : Bool := match o.op with | .defer _ => false | _ => true

theorem rowsIn_wide' {row : String} {args : Array Value} {w : World} {R : Value → World → Prop} (h : Rows P row args w R) : RowsIn Fence.wide n P row args w R :=
  fun c cs _ => let ⟨v, w', r, s⟩ := h c cs; ⟨v, w', r, stepsIn_wide.2 s⟩

theorem operIn_of {o : Oper} {a : Act} {w : World} {K : Act → World → Prop} (hd : noDefer o = true) (h : o.wp P a w K Q) : o.wpIn (Fence.wide.inRound l) n P a w K Q := by
  refine ⟨fun _ _ => trivial, ?_⟩
  have hne : ∀ c, o.op ≠ .defer c := fun c hc => by simp [noDefer, hc] at hd
  rw [show (Fence.wide.inRound l).round = some l from rfl, Oper.semAt_eq _ _ _ hne]
  unfold Oper.wp at h
  generalize (execOp a.eval o).run P w = r at *
  cases r with
  | ok x w' =>
    cases x <;> first | exact h | exact h.elim | exact ⟨fun (h : none.isSome = true) => by (cases h), callsIn_wide.2 h⟩ | exact ⟨fun (h : none.isSome = true) => by (cases h), rowsIn_wide' h⟩
  | halt x w' => cases x <;> exact h

theorem anyIn_of (hd : ops.all noDefer = true) (hQ : ¬ LetsOut Q) : ∀ (f : Nat) (listed : Array Bool) (a : Act) (w : World), wpAny P md ops Q f listed a w → wpAnyIn (Fence.wide.inRound l) n P md ops Q f listed a w
  | 0, _, _, _, h => h
  | f + 1, listed, a, w, h => by
    refine ⟨h.1, fun i hi => ?_⟩
    have h2 := h.2 i hi
    unfold wpOp at h2
    unfold wpOpIn
    split
    · rename_i ho
      simp only [ho] at h2
      exact anyIn_of hd hQ f _ _ _ h2
    · rename_i o ho
      simp only [ho] at h2
      split
      · rename_i hw
        simp only [hw, if_true] at h2
        have hdo : noDefer o = true := by
          rw [Array.all_eq_true'] at hd
          obtain ⟨hlt, he⟩ := Array.getElem?_eq_some_iff.1 ho
          exact hd o (he ▸ Array.getElem_mem hlt)
        rcases h2 with h2 | h2
        · exact operIn_of hdo (Oper.wp_mono (fun a w h => anyIn_of hd hQ f _ _ _ h) h2)
        · exact absurd h2.2 hQ
      · rename_i hw
        simp only [hw] at h2
        exact ⟨fun _ _ => trivial, anyIn_of hd hQ f _ _ _ h2⟩

/-- Later.tail, in a round -/
theorem Later.tailIn {id : Nat} {a : Act} {w : World} {l' : List Oper} (k : Nat) (hd : l'.toArray.all noDefer = true) (hQ : ¬ LetsOut Q) (hm : P.follows .mixedOrders = true) (hB : Region.lexTailB .any l'.toArray k = true)
    (h : wpQuiet P l'.toArray (fun w' => ∃ g : Later w, w' = g.val) (fun a' => ∀ g : Later w, wpList P l'.toArray Q (l'.drop k) a' g.val) (l'.take k) a) : (Code.region id l'.toArray true).wpIn (Fence.wide.inRound l) n P Q a w := by
  simp only [Region.lexTailB, Bool.and_eq_true, decide_eq_true_eq] at hB
  obtain ⟨⟨⟨⟨hsel, hn⟩, hs⟩, hc⟩, hlex⟩ := hB
  have hn' : k < l'.length := by simpa using hn
  have htl : (l'.take k).length = k := by simp; omega
  have hdl : (l'.drop k).length = l'.toArray.size - k := by simp
  have inv0 : HeadInv .any l'.toArray k (Array.replicate l'.toArray.size false) :=
    ⟨by simp, fun j oj _ hl => (by rw [getD_replicate_false] at hl; cases hl), fun t _ ht => getD_in (by simpa using ht) (getD_replicate_false _ _)⟩
  have H := wpHeadQ_lex (md := .any) (g := l'.toArray.size - k) hsel hs hc hn (l'.take k) 0 _ a (fun j hj => by
    have hj' : j < k := by rw [htl] at hj; exact hj
    simp [hj']) (by simpa using htl) inv0 (by rw [htl]; exact hlex) h
  refine wpIn_region_any hm (anyIn_of hd hQ _ _ _ _ ?_)
  have := wpAny_of_headQ (C := fun w' => ∃ g : Later w, w' = g.val) (Q' := Q) (g := l'.toArray.size - k) (fun listed a' w' hw' hL => by
    obtain ⟨g, rfl⟩ := hw'
    have := wpAny_of_seq (md := .any) (Q' := Q) (l'.drop k) k listed a' g.val (fun j => by simp [List.getElem?_drop]) (by rw [hdl]; exact hL.1) (hL.2 g)
    rwa [hdl] at this) _ _ _ { w with drawn := w.drawn + 1 } ⟨⟨w.drew, (Below.refl _ _).drew⟩, rfl⟩ H
  rw [htl, show k + (l'.toArray.size - k) = l'.toArray.size by omega] at this
  exact this

/-- Later.region, in a round -/
theorem Later.regionIn {id : Nat} {a : Act} {w : World} {l' : List Oper} (hd : l'.toArray.all noDefer = true) (hQ : ¬ LetsOut Q) (hm : P.follows .mixedOrders = true) (hB : Region.lexB .any l'.toArray = true)
    (h : wpQuiet P l'.toArray (fun w' => ∃ g : Later w, w' = g.val) (fun a' => ∀ g : Later w, Q .normal a' g.val) l' a) : (Code.region id l'.toArray true).wpIn (Fence.wide.inRound l) n P Q a w := by
  simp only [Region.lexB, Bool.and_eq_true] at hB
  refine wpIn_region_any hm (anyIn_of hd hQ _ _ _ _ (wpAny_of_quiet (C := fun w' => ∃ g : Later w, w' = g.val) (Q := fun a' => ∀ w', (∃ g : Later w, w' = g.val) → Q .normal a' w') (fun _ w' hw' h => h w' hw') _ _ _ _ ⟨⟨w.drew, (Below.refl _ _).drew⟩, rfl⟩ ?_))
  have e : (fun a' => ∀ w', (∃ g : Later w, w' = g.val) → Q .normal a' w') = (fun a' => ∀ g : Later w, Q .normal a' g.val) := by
    funext a'
    exact propext ⟨fun h g => h _ ⟨g, rfl⟩, fun h _ ⟨g, hg⟩ => hg ▸ h g⟩
  have := wpAnyQ_lex (C := fun w' => ∃ g : Later w, w' = g.val) (md := .any) (Q := fun a' => ∀ w', (∃ g : Later w, w' = g.val) → Q .normal a' w') hB.1 l' 0 (Array.replicate l'.toArray.size false) a (by simp) (by simpa using hB.2) (by rw [e]; exact h)
  simpa using this
end

/-! ### A region without guards whose operations come in any order: one look at each operation -/
def upL (L : Nat → Bool) (i : Nat) : Nat → Bool := fun j => if j = i then true else L j
def cntL (L : Nat → Bool) : Nat → Nat
  | 0 => 0
  | k + 1 => cntL L k + (if L k then 0 else 1)
theorem cntL_up {L : Nat → Bool} {i : Nat} (h : L i = false) : ∀ k, (i < k → cntL (upL L i) k + 1 = cntL L k) ∧ (k ≤ i → cntL (upL L i) k = cntL L k)
  | 0 => ⟨fun h => by omega, fun _ => rfl⟩
  | k + 1 => by
    obtain ⟨h1, h2⟩ := cntL_up h k
    refine ⟨fun hk => ?_, fun hk => ?_⟩
    · by_cases hki : k = i
      · subst hki
        simp only [cntL, upL, if_true, h, if_false, Bool.false_eq_true]
        have := h2 (Nat.le_refl _)
        unfold upL at this
        omega
      · have := h1 (by omega)
        simp only [cntL, upL, hki, if_false]
        unfold upL at this
        omega
    · have := h2 (by omega)
      have hki : k ≠ i := by omega
      simp only [cntL, upL, hki, if_false]
      unfold upL at this
      omega
theorem cntL_zero {L : Nat → Bool} : ∀ k, cntL L k = 0 → ∀ j, j < k → L j = true
  | 0, _, j, hj => by omega
  | k + 1, h, j, hj => by
    simp only [cntL] at h
    by_cases hjk : j = k
    · subst hjk
      cases hL : L j
      · simp [hL] at h
      · rfl
    · exact cntL_zero k (by omega) j (by omega)
theorem cntL_none : ∀ k, cntL (fun _ => false) k = k
  | 0 => rfl
  | k + 1 => by simp [cntL, cntL_none k]

section
variable {P : Program} {Q : Exit → Act → World → Prop} {md : Region.Mode} {ops : Array Oper}
theorem wpAny_dp (T : (Nat → Bool) → Array Value) (ds : List Deferred) (R : (Nat → Bool) → World → Prop)
    (hg : ∀ i oi, ops[i]? = some oi → oi.guard = none ∧ ∀ e ∈ oi.after, Region.binds md e = true → e.on < i)
    (step : ∀ (i : Nat) (oi : Oper), ops[i]? = some oi → ∀ (L : Nat → Bool) (w : World), L i = false → (∀ e ∈ oi.after, Region.binds md e = true → L e.on = true) → R L w →
      ∀ K : Act → World → Prop, (∀ w', R (upL L i) w' → K ⟨T (upL L i), ds⟩ w') → oi.wp P ⟨T L, ds⟩ w K Q)
    (fin : ∀ (L : Nat → Bool) (w : World), (∀ j, j < ops.size → L j = true) → R L w → Q .normal ⟨T L, ds⟩ w) :
    ∀ (fuel : Nat) (listed : Array Bool) (L : Nat → Bool) (w : World), listed.size = ops.size → (∀ j, j < ops.size → listed.getD j false = L j) → cntL L ops.size ≤ fuel → R L w → wpAny P md ops Q fuel listed ⟨T L, ds⟩ w := by
  have hready : ∀ (listed : Array Bool) (L : Nat → Bool), listed.size = ops.size → (∀ j, j < ops.size → listed.getD j false = L j) → ∀ i, i ∈ Region.ready md ops listed → ∃ oi, ops[i]? = some oi ∧ i < ops.size ∧ L i = false ∧ ∀ e ∈ oi.after, Region.binds md e = true → L e.on = true := by
    intro listed L hsz hL i hi
    obtain ⟨hun, oi, hoi, hall⟩ := mem_ready.1 hi
    have hlt := (Array.getElem?_eq_some_iff.1 hoi).1
    refine ⟨oi, hoi, hlt, by rw [← hL i hlt]; exact getD_both hun, fun e he hb => ?_⟩
    have h1 := hall e he hb
    have h2 := (hg i oi hoi).2 e he hb
    rw [← hL e.on (by omega)]
    exact h1
  intro fuel
  induction fuel with
  | zero =>
    intro listed L w hsz hL hc hR
    have hall := cntL_zero (L := L) ops.size (by omega)
    refine ⟨?_, fin L w hall hR⟩
    cases hr : Region.ready md ops listed with
    | nil => rfl
    | cons i is =>
      obtain ⟨oi, _, hlt, hf, _⟩ := hready listed L hsz hL i (by rw [hr]; simp)
      rw [hall i hlt] at hf
      cases hf
  | succ fuel ih =>
    intro listed L w hsz hL hc hR
    refine ⟨fun hr => fin L w ?_ hR, fun i hi => ?_⟩
    · intro j
      induction j using Nat.strongRecOn with
      | ind j ihj =>
        intro hj
        cases hLj : L j with
        | true => rfl
        | false =>
          exfalso
          have : j ∈ Region.ready md ops listed := by
            obtain ⟨oj, hoj⟩ : ∃ oj, ops[j]? = some oj := ⟨ops[j], by simp [hj]⟩
            refine mem_ready.2 ⟨getD_in (by omega) (by rw [hL j hj]; exact hLj), oj, hoj, fun e he hb => ?_⟩
            have h2 := (hg j oj hoj).2 e he hb
            rw [hL e.on (by omega)]
            exact ihj e.on h2 (by omega)
          rw [hr] at this
          cases this
    · obtain ⟨oi, hoi, hlt, hf, hd⟩ := hready listed L hsz hL i hi
      unfold wpOp
      simp only [hoi]
      rw [if_pos (by simp [Region.wanted, (hg i oi hoi).1])]
      refine .inl (step i oi hoi L w hf hd hR _ fun w' hR' => ih _ _ _ (by simpa using hsz) (fun j hj => ?_) (by have := (cntL_up hf ops.size).1 hlt; omega) hR')
      unfold upL
      by_cases hji : j = i
      · subst hji
        simp [hsz, hj]
      · rw [if_neg hji, ← hL j hj]
        simp only [Array.getD_eq_getD_getElem?, Array.getElem?_setIfInBounds_ne (Ne.symm hji)]
/-- the same, where what the slots hold is known by a relation alone (new blocks lie at addresses that hang on the order) -/
theorem wpAny_rel (I : (Nat → Bool) → Act → World → Prop) {a : Act} {w : World}
    (hg : ∀ i oi, ops[i]? = some oi → oi.guard = none ∧ ∀ e ∈ oi.after, Region.binds md e = true → e.on < i) (h0 : I (fun _ => false) a w)
    (step : ∀ (i : Nat) (oi : Oper), ops[i]? = some oi → ∀ (L : Nat → Bool) (a : Act) (w : World), L i = false → (∀ e ∈ oi.after, Region.binds md e = true → L e.on = true) → I L a w →
      ∀ K : Act → World → Prop, (∀ a' w', I (upL L i) a' w' → K a' w') → oi.wp P a w K Q)
    (fin : ∀ (L : Nat → Bool) (a : Act) (w : World), (∀ j, j < ops.size → L j = true) → I L a w → Q .normal a w) :
    wpAny P md ops Q ops.size (Array.replicate ops.size false) a w := by
  have hready : ∀ (listed : Array Bool) (L : Nat → Bool), listed.size = ops.size → (∀ j, j < ops.size → listed.getD j false = L j) → ∀ i, i ∈ Region.ready md ops listed → ∃ oi, ops[i]? = some oi ∧ i < ops.size ∧ L i = false ∧ ∀ e ∈ oi.after, Region.binds md e = true → L e.on = true := by
    intro listed L hsz hL i hi
    obtain ⟨hun, oi, hoi, hall⟩ := mem_ready.1 hi
    have hlt := (Array.getElem?_eq_some_iff.1 hoi).1
    refine ⟨oi, hoi, hlt, by rw [← hL i hlt]; exact getD_both hun, fun e he hb => ?_⟩
    have h1 := hall e he hb
    have h2 := (hg i oi hoi).2 e he hb
    rw [← hL e.on (by omega)]
    exact h1
  have key : ∀ (fuel : Nat) (listed : Array Bool) (L : Nat → Bool) (a : Act) (w : World), listed.size = ops.size → (∀ j, j < ops.size → listed.getD j false = L j) → cntL L ops.size ≤ fuel → I L a w → wpAny P md ops Q fuel listed a w := by
    intro fuel
    induction fuel with
    | zero =>
      intro listed L a w hsz hL hc hR
      have hall := cntL_zero (L := L) ops.size (by omega)
      refine ⟨?_, fin L a w hall hR⟩
      cases hr : Region.ready md ops listed with
      | nil => rfl
      | cons i is =>
        obtain ⟨oi, _, hlt, hf, _⟩ := hready listed L hsz hL i (by rw [hr]; simp)
        rw [hall i hlt] at hf
        cases hf
    | succ fuel ih =>
      intro listed L a w hsz hL hc hR
      refine ⟨fun hr => fin L a w ?_ hR, fun i hi => ?_⟩
      · intro j
        induction j using Nat.strongRecOn with
        | ind j ihj =>
          intro hj
          cases hLj : L j with
          | true => rfl
          | false =>
            exfalso
            have : j ∈ Region.ready md ops listed := by
              obtain ⟨oj, hoj⟩ : ∃ oj, ops[j]? = some oj := ⟨ops[j], by simp [hj]⟩
              refine mem_ready.2 ⟨getD_in (by omega) (by rw [hL j hj]; exact hLj), oj, hoj, fun e he hb => ?_⟩
              have h2 := (hg j oj hoj).2 e he hb
              rw [hL e.on (by omega)]
              exact ihj e.on h2 (by omega)
            rw [hr] at this
            cases this
      · obtain ⟨oi, hoi, hlt, hf, hd⟩ := hready listed L hsz hL i hi
        unfold wpOp
        simp only [hoi]
        rw [if_pos (by simp [Region.wanted, (hg i oi hoi).1])]
        refine .inl (step i oi hoi L a w hf hd hR _ fun a' w' hR' => ih _ _ _ _ (by simpa using hsz) (fun j hj => ?_) (by have := (cntL_up hf ops.size).1 hlt; omega) hR')
        unfold upL
        by_cases hji : j = i
        · subst hji
          simp [hsz, hj]
        · rw [if_neg hji, ← hL j hj]
          simp only [Array.getD_eq_getD_getElem?, Array.getElem?_setIfInBounds_ne (Ne.symm hji)]
  exact key _ _ _ _ _ (by simp) (fun j hj => by simp [hj]) (by rw [cntL_none]; exact Nat.le_refl _) h0
theorem wpAny_dp0 (T : (Nat → Bool) → Array Value) (ds : List Deferred) (R : (Nat → Bool) → World → Prop) {A : Array Value} {w : World}
    (hg : ∀ i oi, ops[i]? = some oi → oi.guard = none ∧ ∀ e ∈ oi.after, Region.binds md e = true → e.on < i) (hA : A = T fun _ => false) (h0 : R (fun _ => false) w)
    (step : ∀ (i : Nat) (oi : Oper), ops[i]? = some oi → ∀ (L : Nat → Bool) (w : World), L i = false → (∀ e ∈ oi.after, Region.binds md e = true → L e.on = true) → R L w →
      ∀ K : Act → World → Prop, (∀ w', R (upL L i) w' → K ⟨T (upL L i), ds⟩ w') → oi.wp P ⟨T L, ds⟩ w K Q)
    (fin : ∀ (L : Nat → Bool) (w : World), (∀ j, j < ops.size → L j = true) → R L w → Q .normal ⟨T L, ds⟩ w) :
    wpAny P md ops Q ops.size (Array.replicate ops.size false) ⟨A, ds⟩ w := by
  subst hA
  exact wpAny_dp T ds R hg step fin _ _ _ _ (by simp) (fun j hj => by simp [hj]) (by rw [cntL_none]; exact Nat.le_refl _) h0
end

/-- what is kept is grown by nothing -/
theorem grown_of_kept {A B : World} (h : Kept A B) : A.grownBy B none := ⟨h.os, h.tape, h.output, h.size, fun k hk _ => h.block k hk⟩
theorem abides_kept {β : Type} {C : Nat} {J : β → World → Prop} (hJ : AbidesFrom C J) {s : β} {A B : World} (hs : J s A) (h : Kept A B) : J s B := hJ s A B none hs (grown_of_kept h) (fun r e => by cases e)
theorem keepsFrom_kept {W W' : World} (h : Kept W W') (B : Nat) : KeepsFrom B W W' :=
  ⟨h.size, fun k _ _ hk _ => (h.block k (Array.getElem?_eq_some_iff.1 hk).1).trans hk⟩
theorem Blk.belowR {W W' : World} {b B : Nat} {arr : Array Value} {t : TypeId} (h : Blk W b arr t) (hb : Below B W W') (hB : b < B) : Blk W' b arr t := (hb.block b hB).trans h
theorem Blk.ne {X : World} {p q : Nat} {a1 a2 : Array Value} {t1 t2 : TypeId} (h : Blk X p a1 t1) (k : Blk X q a2 t2) (hne : t1 ≠ t2) : p ≠ q := by
  rintro rfl
  have := h.symm.trans k
  simp only [Option.some.injEq, Obj.cells.injEq] at this
  exact hne this.2.1
theorem blk_from {β : Type} (B b : Nat) (arr : Array Value) (t : TypeId) : OwnFrom B (fun (_ : β) W => Blk W b arr t) := by
  intro _ X Y row hb hg hr
  refine (hg.block b (Array.getElem?_eq_some_iff.1 hb).1 (fun e => ?_)).trans hb
  obtain ⟨_, _, ho, hc⟩ := hr b e.symm
  rw [show X.heap[b]? = _ from hb] at ho
  cases ho
  cases hc
end Bal

/-
  What a cell may have had, gauge by gauge: the iterator.
-/
namespace Go.Proofs.Ytnfhcpnpjkefmaa
open Go.RowKit Go.Shelf Bal Bal.Trim Bal.Gas
set_option linter.unusedVariables false
set_option linter.unusedSimpArgs false
set_option maxHeartbeats 4000000
set_option maxRecDepth 100000
attribute [local go_sem] Oper.semAt_some

/-- the numbers of gauges, in their order -/
def Up {n : Nat} (pre : List (Fin n)) : Prop := pre.map (·.val) = List.range pre.length
theorem Up.nil {n : Nat} : Up ([] : List (Fin n)) := rfl
theorem Up.snoc {n : Nat} {pre : List (Fin n)} (h : Up pre) (x : Fin n) (hx : x.val = pre.length) : Up (pre ++ [x]) := by
  unfold Up at *
  simp [h, List.range_succ, hx]
theorem Up.init {n : Nat} {pre : List (Fin n)} {x : Fin n} (h : Up (pre ++ [x])) : Up pre ∧ x.val = pre.length := by
  unfold Up at *
  simp only [List.map_append, List.map_cons, List.map_nil, List.length_append, List.length_cons, List.length_nil, Nat.zero_add, List.range_succ] at h
  have h1 := List.append_inj_left h (by simp)
  have h2 := List.append_inj_right h (by simp)
  exact ⟨h1, by simpa using h2⟩
theorem Up.mem {n : Nat} {pre : List (Fin n)} (h : Up pre) {x : Fin n} : x ∈ pre ↔ x.val < pre.length := by
  constructor
  · intro hx
    have : x.val ∈ pre.map (·.val) := List.mem_map.2 ⟨x, hx, rfl⟩
    rw [h] at this
    simpa using this
  · intro hx
    have : x.val ∈ pre.map (·.val) := by rw [h]; simpa using hx
    obtain ⟨y, hy, e⟩ := List.mem_map.1 this
    have : y = x := Fin.ext e
    rwa [← this]
theorem at_worldR {F : Fence} {n : Nat} {P : Program} {c : Code} {Q : Exit → Act → World → Prop} {a : Act} {S : World → Prop} {W : World} (h : S W) (k : ∀ W, S W → c.wpIn F n P Q a W) : c.wpIn F n P Q a W := k W h

theorem f_told (h : Hist) (s : Spot) (c : Int) (w : World) :
    Calls Try.prog 71 #[.agg #[.slice s.aw h.warm.length s.cw, .slice s.ag h.gauges.length s.cg, .slice s.af h.flows.length s.cf], .int .i64 c] w fun e w' =>
      e = .returned (.func (.func 84) #[] #[.pointer (some ⟨w.heap.size, 0, none⟩), .pointer (some ⟨w.heap.size + 1, 0, none⟩)]) ∧ w' = (w.alloc (.cells #[.slice s.aw h.warm.length s.cw, .slice s.ag h.gauges.length s.cg, .slice s.af h.flows.length s.cf] 52)).alloc (.cells #[.int .i64 c] 3) := by
  go_enter Try.func71, Try.ntmps71
  go_wp2
  go_ret
  exact ⟨rfl, rfl⟩

def toldV (h : Hist) (c : Nat) (x : Fin h.gauges.length) : Array Value := #[.int .i64 (x.val : Int), .agg #[.int .i64 (toldLo h c x.val), .int .i64 (toldHi h c x.val)]]
/-- what a round must leave to the iterator: what lies below B, and its two boxes -/
structure KeptB (B b0 b1 : Nat) (W W' : World) : Prop where
  below : Below B W W'
  k0 : W'.heap[b0]? = W.heap[b0]?
  k1 : W'.heap[b1]? = W.heap[b1]?
theorem KeptB.trans {B b0 b1 : Nat} {X Y Z : World} (h : KeptB B b0 b1 X Y) (k : KeptB B b0 b1 Y Z) : KeptB B b0 b1 X Z := ⟨h.below.trans k.below, k.k0.trans h.k0, k.k1.trans h.k1⟩
theorem KeptB.put {B b0 b1 : Nat} {w : World} (hB : B ≤ w.heap.size) (h0 : b0 < w.heap.size) (h1 : b1 < w.heap.size) (W : World) (l : Nat) (o o' : Obj) (hl : w.heap.size ≤ l) (h : W.heap[l]? = some o) (hc : o.isCells = false) (hw : o.isWalk = false) : KeptB B b0 b1 W (W.putObj l o') :=
  ⟨belowK_b hB W l o o' hl h hc hw, World.putObj_heap_other (by omega), World.putObj_heap_other (by omega)⟩
theorem KeptB.of_kept {B b0 b1 : Nat} {W W' : World} (h : Kept W W') (hB : B ≤ W.heap.size) (h0 : b0 < W.heap.size) (h1 : b1 < W.heap.size) : KeptB B b0 b1 W W' := ⟨h.mono hB, h.block _ h0, h.block _ h1⟩
theorem KeptB.set {B b0 b1 : Nat} {W W' : World} (h : KeptB B b0 b1 W W') {a : Addr} (hB : B ≤ a.block) (h0 : a.block ≠ b0) (h1 : a.block ≠ b1) (v : Value) : KeptB B b0 b1 W (W'.setCell a v) :=
  ⟨h.below.setCell hB v, (Below.heap_setCell _ _ _ _ (Ne.symm h0)).trans h.k0, (Below.heap_setCell _ _ _ _ (Ne.symm h1)).trans h.k1⟩
theorem keptB_from {β : Type} {B b0 b1 B' : Nat} {w0 : World} (hB : B ≤ w0.heap.size) (hB' : B ≤ B') (h0 : b0 < B') (h1 : b1 < B') (z0 : b0 < w0.heap.size) (z1 : b1 < w0.heap.size) : OwnFrom B' (fun (_ : β) W => KeptB B b0 b1 w0 W) := by
  intro s X Y row hs hg hr
  refine ⟨ownFrom_below (β := β) hB hB' s X Y row hs.below hg hr, ?_, ?_⟩
  · exact (hg.block b0 (by have := hs.below.size; omega) (fun e => by have := (hr b0 e.symm).1; omega)).trans hs.k0
  · exact (hg.block b1 (by have := hs.below.size; omega) (fun e => by have := (hr b1 e.symm).1; omega)).trans hs.k1
theorem f_told1 (h : Hist) (s : Spot) (w w' : World) (hh : HistAt h s w) (hw0 : Kept w w') (ho : HistOk h) (c : Nat) (hc : c < h.warm.length) (b0 b1 : Nat) (hq0 : Blk w' b0 #[.slice s.aw h.warm.length s.cw, .slice s.ag h.gauges.length s.cg, .slice s.af h.flows.length s.cf] 52) (hq1 : Blk w' b1 #[.int .i64 c] 3) (m : Nat) (hm : 1 ≤ m) :
    SeqStopsK Fence.wide m Try.prog 84 #[.pointer (some ⟨b0, 0, none⟩), .pointer (some ⟨b1, 0, none⟩)] (toldV h c) (KeptB w.heap.size b0 b1) (fun ys => Up ys ∧ ys.length = h.gauges.length) Up h.gauges.length w' := by
  intro l J Jx W hWW hJ hJx hY h0
  have hl0 := hq0.lt
  have hl1 := hq1.lt
  have hgl := ho.g2
  have hgc := hh.gc
  have hgm := hh.gm
  have hfl := ho.f2
  have hfc := hh.fc
  have hfm := hh.fm
  unfold maxLen at hgm hfm
  have hA0 := hq0.belowR hWW hl0
  have hA1 := hq1.belowR hWW hl1
  have hW : Kept w W := hw0.trans (hWW.mono hw0.size)
  clear hWW hw0 hl0 hl1
  have KA0 := fun (W : World) (hW : Kept w W) (k : Nat) (hk : k < h.gauges.length) => f_allowed h s W (hh.later hW) ho k c hk hc
  have R20 := fun (W : World) (hW : Kept w W) => (hh.later hW).gauges
  have R30 := fun (W : World) (hW : Kept w W) => (hh.later hW).flows
  clear hq0 hq1 hh
  obtain ⟨aw, ag, af, cw, cg, cf⟩ := s
  simp only at KA0 R20 R30 hgc hgm hfc hfm hA0
  have KA := Lib.hid KA0
  have R2 := Lib.hid R20
  have R3 := Lib.hid R30
  clear KA0 R20 R30
  refine callsIn_of_wp Try.func84 rfl trivial ?_ rfl
  simp only [Try.ntmps84, List.size_toArray, List.length_cons, List.length_nil, Nat.reduceAdd, Nat.reduceSub, Array.replicate_succ, Array.replicate_zero, List.push_toArray, List.append_toArray, List.nil_append, List.cons_append]
  have hA0c0 := hA0.cell 0
  have hA0f0 := hA0.free 0
  have hA0c1 := hA0.cell 1
  have hA0f1 := hA0.free 1
  have hA0c2 := hA0.cell 2
  have hA0f2 := hA0.free 2
  have hA0l := hA0.lt
  simp at hA0c0 hA0c1 hA0c2
  gi_wp2
  gi_loopw [12] (fun i wr => ∃ (pre : List (Fin h.gauges.length)) (k : Nat), k ≤ h.gauges.length ∧ i = .int .i64 k ∧ Up pre ∧ pre.length = k ∧ J pre wr ∧ Blk wr b0 #[.slice aw h.warm.length cw, .slice ag h.gauges.length cg, .slice af h.flows.length cf] 52 ∧ Blk wr b1 #[.int .i64 c] 3 ∧ Kept w wr) (fun i _ => h.gauges.length - (intOf i).toNat)
  case atStart => exact ⟨[], 0, Nat.zero_le _, rfl, Up.nil, rfl, h0, hA0, hA1, hW⟩
  case round =>
    clear hA0 hA1 h0 hW hA0c0 hA0f0 hA0c1 hA0f1 hA0c2 hA0f2 hA0l
    obtain ⟨pre, k, hk, rfl, hup, hpl, hJ0, q0, q1, hkr⟩ := hrel
    have HUP := Lib.hid hup
    have HJ0 := Lib.hid hJ0
    have HPL := Lib.hid hpl
    have hlr0 := Blk.lt q0
    have hlr1 := Blk.lt q1
    have q0c0 := q0.cell 0
    have q0f0 := q0.free 0
    have q0c1 := q0.cell 1
    have q0f1 := q0.free 1
    have q0c2 := q0.cell 2
    have q0f2 := q0.free 2
    have q0l := q0.lt
    simp at q0c0 q0c1 q0c2
    have q1c0 := q1.cell 0
    have q1f0 := q1.free 0
    have q1l := q1.lt
    simp at q1c0
    by_cases hlt : k < h.gauges.length
    · obtain ⟨bg, og, rfl, hbg, g0, g1, g2, g3, g4, g5⟩ := Gauge.row (R2.out _ hkr) k hlt
      rw [gAt_get hlt] at g0 g1 g2 g3 g4 g5
      have HTT0 : tt h k = (gAt h k).time := rfl
      obtain ⟨g, hg⟩ : ∃ g, g = gAt h k := ⟨_, rfl⟩
      rw [← hg] at g0 g1 g2 g3 g4 g5 HTT0
      obtain ⟨va, hva⟩ : ∃ va, va = gv g := ⟨_, rfl⟩
      rw [← hva] at g5
      clear hg hva
      have HTT := Lib.hid HTT0
      obtain ⟨L, hL⟩ : ∃ n, n = alLo h k c := ⟨_, rfl⟩
      obtain ⟨H, hH⟩ : ∃ n, n = alHi h k c := ⟨_, rfl⟩
      have bd := (al_bd ho hlt hc).2.2.2
      rw [← hL, ← hH] at bd
      have HTL0 : toldLo h c k = L - come h c (tt h 0) (tt h k) := by unfold toldLo; rw [hL]
      have HTH0 : toldHi h c k = H - come h c (tt h 0) (tt h k) := by unfold toldHi; rw [hH]
      have HL := Lib.hid hL.symm
      have HH := Lib.hid hH.symm
      have HTL := Lib.hid HTL0
      have HTH := Lib.hid HTH0
      clear hL hH HTL0 HTH0 HTT0
      gi_wp2_with (refine ⟨trivial, ?_⟩; gi_at_call 85; (refine (callsIn_wide.2 (KA.out _ (by (exact kpt)) k hlt)).mono ?_); rw [HL.out, HH.out]; rintro e w2 ⟨rfl, hb2⟩; refine Blk.thru (b := b0) (arr := ?_) (t := ?_) ?_ hb2 ?_; rotate_left 2; (focus (exact blk)); intro q0; have q0c0 := q0.cell 0; have q0f0 := q0.free 0; have q0c1 := q0.cell 1; have q0f1 := q0.free 1; have q0c2 := q0.cell 2; have q0f2 := q0.free 2; have q0l := q0.lt; simp at q0c0 q0c1 q0c2; refine Blk.thru (b := b1) (arr := ?_) (t := ?_) ?_ hb2 ?_; rotate_left 2; (focus (exact blk)); intro q1; have q1c0 := q1.cell 0; have q1f0 := q1.free 0; have q1l := q1.lt; simp at q1c0; refine Blk.thru (b := wr.heap.size) (arr := ?_) (t := ?_) ?_ hb2 ?_; rotate_left 2; (focus (exact blk)); intro qg; have qgc0 := qg.cell 0; have qgf0 := qg.free 0; have qgc1 := qg.cell 1; have qgf1 := qg.free 1; have qgc2 := qg.cell 2; have qgf2 := qg.free 2; have qgc3 := qg.cell 3; have qgf3 := qg.free 3; have qgc4 := qg.cell 4; have qgf4 := qg.free 4; have qgc5 := qg.cell 5; have qgf5 := qg.free 5; have qgl := qg.lt; simp at qgc0 qgc1 qgc2 qgc3 qgc4 qgc5)
      refine at_worldR (S := fun V => Blk V b0 #[.slice aw h.warm.length cw, .slice (some ⟨bg, og, none⟩) h.gauges.length cg, .slice af h.flows.length cf] 52 ∧ Blk V b1 #[.int .i64 c] 3 ∧ Blk V wr.heap.size #[.int .i64 g.time, .int .i64 g.air.plo, .int .i64 g.air.phi, .int .i64 g.air.tlo, .int .i64 g.air.thi, .slice va g.vols.length g.vc] 46 ∧ Blk V w2.heap.size #[.int .i64 (L - 0), .int .i64 (H - 0)] 29 ∧ Kept wr V ∧ Kept w V) ⟨by (exact blkc), by (exact blkc), by (exact blkc), by rw [Int.sub_zero, Int.sub_zero]; (exact blkc), by (exact kpt), by (exact kpt)⟩ ?_
      clear q0 q1 qg q0c0 q0f0 q0c1 q0f1 q0c2 q0f2 q0l q1c0 q1f0 q1l qgc0 qgf0 qgc1 qgf1 qgc2 qgf2 qgc3 qgf3 qgc4 qgf4 qgc5 qgf5 qgl
      clear q0 q1
      rintro V ⟨q0, q1, qg, q6, hkV, hkVw⟩
      have hz1 := hb2.size
      simp only [World.size_alloc] at hz1
      have hne0 : w2.heap.size ≠ b0 := by omega
      have hne1 : w2.heap.size ≠ b1 := by omega
      clear hlr0 hlr1
      have hneg : w2.heap.size ≠ wr.heap.size := by omega
      have hzz : wr.heap.size ≤ w2.heap.size := by omega
      have hzw : w.heap.size ≤ w2.heap.size := by have := hkr.size; omega
      obtain ⟨T0, hT0⟩ : ∃ n, n = tt h 0 := ⟨_, rfl⟩
      have HT0 := Lib.hid hT0
      have HBD := Lib.hid (fun j => come_bd ho c T0 g.time j)
      have HFLO := Lib.hid ho.flow
      have HCM := Lib.hid (come_all h c T0 g.time)
      rw [← hT0, HTT.out] at HTL HTH
      clear hT0 hkr q0f0
      obtain ⟨Z, rfl⟩ : ∃ Z : World, Z = wr := ⟨_, rfl⟩
      gi_loopw [24] (fun i wr => ∃ j : Nat, j ≤ h.flows.length ∧ i = .int .i64 j ∧ Blk wr b0 #[.slice aw h.warm.length cw, .slice (some ⟨bg, og, none⟩) h.gauges.length cg, .slice af h.flows.length cf] 52 ∧ Blk wr b1 #[.int .i64 c] 3 ∧ Blk wr Z.heap.size #[.int .i64 g.time, .int .i64 g.air.plo, .int .i64 g.air.phi, .int .i64 g.air.tlo, .int .i64 g.air.thi, .slice va g.vols.length g.vc] 46 ∧ Blk wr w2.heap.size #[.int .i64 (L - sumBy (flowN c T0 g.time) (h.flows.take j)), .int .i64 (H - sumBy (flowN c T0 g.time) (h.flows.take j))] 29 ∧ Kept Z wr ∧ Kept w wr) (fun i _ => h.flows.length - (intOf i).toNat)
      case atStart => exact ⟨0, Nat.zero_le _, rfl, q0, q1, qg, by simpa using q6, hkV, hkVw⟩
      case round =>
        clear q0 q1 qg q6 hkV hkVw
        obtain ⟨j, hj, rfl, q0, q1, qg, q6, hkz, hkw⟩ := hrel
        have q0c0 := q0.cell 0
        have q0f0 := q0.free 0
        have q0c1 := q0.cell 1
        have q0f1 := q0.free 1
        have q0c2 := q0.cell 2
        have q0f2 := q0.free 2
        have q0l := q0.lt
        simp at q0c0 q0c1 q0c2
        have sbd := HBD.out j
        by_cases hlt2 : j < h.flows.length
        · have ES0 := sumBy_take (flowN c T0 g.time) h.flows j hlt2
          obtain ⟨S, hS⟩ : ∃ S, S = sumBy (flowN c T0 g.time) (h.flows.take j) := ⟨_, rfl⟩
          rw [← hS] at ES0 q6 sbd
          obtain ⟨A, hA⟩ : ∃ A, A = L - S := ⟨_, rfl⟩
          obtain ⟨B, hB⟩ : ∃ B, B = H - S := ⟨_, rfl⟩
          rw [← hA, ← hB] at q6
          obtain ⟨bf, of, rfl, hbf, c0, c1, c2⟩ := Flow.row (R3.out _ hkw) j hlt2
          obtain ⟨x, hx⟩ : ∃ x, x = h.flows[j] := ⟨_, rfl⟩
          have hxb := HFLO.out x (by rw [hx]; exact List.getElem_mem hlt2)
          obtain ⟨⟨x1, x2⟩, ⟨x3, x4⟩, x5, x6⟩ := hxb
          rw [← hx] at c0 c1 c2 ES0
          have w1 := i64_inH (n := A - x.n) (by omega)
          have w2_ := i64_inH (n := B - x.n) (by omega)
          have hAA := Lib.hid hA
          have hBB := Lib.hid hB
          clear hx hA hB hS
          gi_wp2
          clear c0 c1 c2
          refine at_worldR (S := fun V => Blk V b0 #[.slice aw h.warm.length cw, .slice (some ⟨bg, og, none⟩) h.gauges.length cg, .slice (some ⟨bf, of, none⟩) h.flows.length cf] 52 ∧ Blk V b1 #[.int .i64 c] 3 ∧ Blk V Z.heap.size #[.int .i64 g.time, .int .i64 g.air.plo, .int .i64 g.air.phi, .int .i64 g.air.tlo, .int .i64 g.air.thi, .slice va g.vols.length g.vc] 46 ∧ Blk V w2.heap.size #[.int .i64 A, .int .i64 B] 29 ∧ Blk V wr.heap.size #[.int .i64 x.time, .int .i64 x.cell, .int .i64 x.n] 49 ∧ Kept Z V ∧ Kept w V) ⟨by (exact blkc), by (exact blkc), by (exact blkc), by (exact blkc), by (exact blkc), by (exact kpt), by (exact kpt)⟩ ?_
          clear q0 q1 qg q6 hkz hkw q0c0 q0f0 q0c1 q0f1 q0c2 q0f2 q0l
          rintro V ⟨q0, q1, qg, q6, qx, hkV, hkVw⟩
          obtain ⟨bg', og', hag', hbg', e0, _⟩ := Gauge.row (R2.out _ hkVw) 0 (by omega)
          obtain ⟨rfl, rfl⟩ : bg = bg' ∧ og = og' := by simpa using hag'
          rw [gAt_get (by omega), show (gAt h 0).time = T0 from HT0.out.symm] at e0
          simp only [Nat.zero_mul, Nat.add_zero] at e0
          have y0 := fun g_ : Later V => g_.some e0
          clear e0 hag'
          have q0c0 := fun g : Later V => (q0.later g).cell 0
          have q0f0 := fun g : Later V => (q0.later g).free 0
          have q0c1 := fun g : Later V => (q0.later g).cell 1
          have q0f1 := fun g : Later V => (q0.later g).free 1
          have q0c2 := fun g : Later V => (q0.later g).cell 2
          have q0f2 := fun g : Later V => (q0.later g).free 2
          have q0l := fun g : Later V => (q0.later g).lt
          simp at q0c0 q0c1 q0c2
          have q1c0 := fun g : Later V => (q1.later g).cell 0
          have q1f0 := fun g : Later V => (q1.later g).free 0
          have q1l := fun g : Later V => (q1.later g).lt
          simp at q1c0
          have qgc0 := fun g : Later V => (qg.later g).cell 0
          have qgf0 := fun g : Later V => (qg.later g).free 0
          have qgc1 := fun g : Later V => (qg.later g).cell 1
          have qgf1 := fun g : Later V => (qg.later g).free 1
          have qgc2 := fun g : Later V => (qg.later g).cell 2
          have qgf2 := fun g : Later V => (qg.later g).free 2
          have qgc3 := fun g : Later V => (qg.later g).cell 3
          have qgf3 := fun g : Later V => (qg.later g).free 3
          have qgc4 := fun g : Later V => (qg.later g).cell 4
          have qgf4 := fun g : Later V => (qg.later g).free 4
          have qgc5 := fun g : Later V => (qg.later g).cell 5
          have qgf5 := fun g : Later V => (qg.later g).free 5
          have qgl := fun g : Later V => (qg.later g).lt
          simp at qgc0 qgc1 qgc2 qgc3 qgc4 qgc5
          have qxc0 := fun g : Later V => (qx.later g).cell 0
          have qxf0 := fun g : Later V => (qx.later g).free 0
          have qxc1 := fun g : Later V => (qx.later g).cell 1
          have qxf1 := fun g : Later V => (qx.later g).free 1
          have qxc2 := fun g : Later V => (qx.later g).cell 2
          have qxf2 := fun g : Later V => (qx.later g).free 2
          have qxl := fun g : Later V => (qx.later g).lt
          simp at qxc0 qxc1 qxc2
          have g1 : 0 < h.gauges.length := by omega
          by_cases k1 : x.cell = (c : Int)
          · have e1 : (x.cell == (c : Int)) = true := by simp [k1]
            have e2 : decide (x.cell = (c : Int)) = true := by simp [k1]
            by_cases k2 : T0 < x.time
            · have e3 : decide (T0 < x.time) = true := by simp [k2]
              by_cases k3 : x.time ≤ g.time
              · have e4 : decide (x.time ≤ g.time) = true := by simp [k3]
                have EA := Lib.hid (show L - sumBy (flowN c T0 g.time) (h.flows.take (j + 1)) = A - x.n by rw [ES0, hAA.out, show flowN c T0 g.time x = x.n by simp [flowN, flowIn, k1, k2, k3]]; omega)
                have EB := Lib.hid (show H - sumBy (flowN c T0 g.time) (h.flows.take (j + 1)) = B - x.n by rw [ES0, hBB.out, show flowN c T0 g.time x = x.n by simp [flowN, flowIn, k1, k2, k3]]; omega)
                clear k1 k2 k3 ES0
                refine wpIn_wide.2 (Later.region (by kernel_rfl) (by kernel_rfl) ?_)
                repeat (first | go_big_quiet_skip | (go_big_quiet_want; go_big_quiet_op; first | go_big_quiet_on | (apply Exists.intro; refine ⟨fun g_ => ?_, ?_⟩; (focus (first | fail)); go_big_quiet_on)))
                refine wpQuiet_nil ?_
                intro gg
                have n0 := q0.later gg
                have n1 := q1.later gg
                have ng := qg.later gg
                have n6 := q6.later gg
                have nx := qx.later gg
                have hkg := Kept.drop hkV gg.ok
                have hkgw := Kept.drop hkVw gg.ok
                clear q0c0 q0f0 q0c1 q0f1 q0c2 q0f2 q0l qgc0 qgf0 qgc1 qgf1 qgc2 qgf2 qgc3 qgf3 qgc4 qgf4 qgc5 qgf5 qgl qxc0 qxf0 qxc1 qxf1 qxc2 qxf2 qxl q1c0 q1f0 q1l
                have n6c0 := n6.cell 0
                have n6f0 := n6.free 0
                have n6c1 := n6.cell 1
                have n6f1 := n6.free 1
                have n6l := n6.lt
                simp at n6c0 n6c1
                have nxc0 := nx.cell 0
                have nxf0 := nx.free 0
                have nxc1 := nx.cell 1
                have nxf1 := nx.free 1
                have nxc2 := nx.cell 2
                have nxf2 := nx.free 2
                have nxl := nx.lt
                simp at nxc0 nxc1 nxc2
                gi_wp2
                go_roundw
                case rel => exact ⟨j + 1, by omega, by go_num, (Blk.other (Blk.other n0 hne0 _) hne0 _), (Blk.other (Blk.other n1 hne1 _) hne1 _), (Blk.other (Blk.other ng hneg _) hneg _), by have z := ((n6.set 0 (.int .i64 (A - x.n))).set 1 (.int .i64 (B - x.n))); rw [EA.out, EB.out]; simpa using z, by (exact kpt), by (exact kpt)⟩
                case measure => simp [intOf]; omega
              · have e4 : decide (x.time ≤ g.time) = false := by simp; omega
                have EA := Lib.hid (show L - sumBy (flowN c T0 g.time) (h.flows.take (j + 1)) = A by rw [ES0, hAA.out, show flowN c T0 g.time x = 0 by simp [flowN, flowIn, k1, k2, k3]]; omega)
                have EB := Lib.hid (show H - sumBy (flowN c T0 g.time) (h.flows.take (j + 1)) = B by rw [ES0, hBB.out, show flowN c T0 g.time x = 0 by simp [flowN, flowIn, k1, k2, k3]]; omega)
                clear k1 k2 k3 ES0
                refine wpIn_wide.2 (Later.region (by kernel_rfl) (by kernel_rfl) ?_)
                repeat (first | go_big_quiet_skip | (go_big_quiet_want; go_big_quiet_op; first | go_big_quiet_on | (apply Exists.intro; refine ⟨fun g_ => ?_, ?_⟩; (focus (first | fail)); go_big_quiet_on)))
                refine wpQuiet_nil ?_
                intro gg
                have n0 := q0.later gg
                have n1 := q1.later gg
                have ng := qg.later gg
                have n6 := q6.later gg
                have nx := qx.later gg
                have hkg := Kept.drop hkV gg.ok
                have hkgw := Kept.drop hkVw gg.ok
                clear q0c0 q0f0 q0c1 q0f1 q0c2 q0f2 q0l qgc0 qgf0 qgc1 qgf1 qgc2 qgf2 qgc3 qgf3 qgc4 qgf4 qgc5 qgf5 qgl qxc0 qxf0 qxc1 qxf1 qxc2 qxf2 qxl q1c0 q1f0 q1l
                gi_wp2
                go_roundw
                case rel => exact ⟨j + 1, by omega, by go_num, n0, n1, ng, by rw [EA.out, EB.out]; exact n6, by (exact kpt), by (exact kpt)⟩
                case measure => simp [intOf]; omega
            · have e3 : decide (T0 < x.time) = false := by simp; omega
              have EA := Lib.hid (show L - sumBy (flowN c T0 g.time) (h.flows.take (j + 1)) = A by rw [ES0, hAA.out, show flowN c T0 g.time x = 0 by simp [flowN, flowIn, k1, k2]]; omega)
              have EB := Lib.hid (show H - sumBy (flowN c T0 g.time) (h.flows.take (j + 1)) = B by rw [ES0, hBB.out, show flowN c T0 g.time x = 0 by simp [flowN, flowIn, k1, k2]]; omega)
              clear k1 k2 ES0
              refine wpIn_wide.2 (Later.region (by kernel_rfl) (by kernel_rfl) ?_)
              repeat (first | go_big_quiet_skip | (go_big_quiet_want; go_big_quiet_op; first | go_big_quiet_on | (apply Exists.intro; refine ⟨fun g_ => ?_, ?_⟩; (focus (first | fail)); go_big_quiet_on)))
              refine wpQuiet_nil ?_
              intro gg
              have n0 := q0.later gg
              have n1 := q1.later gg
              have ng := qg.later gg
              have n6 := q6.later gg
              have nx := qx.later gg
              have hkg := Kept.drop hkV gg.ok
              have hkgw := Kept.drop hkVw gg.ok
              clear q0c0 q0f0 q0c1 q0f1 q0c2 q0f2 q0l qgc0 qgf0 qgc1 qgf1 qgc2 qgf2 qgc3 qgf3 qgc4 qgf4 qgc5 qgf5 qgl qxc0 qxf0 qxc1 qxf1 qxc2 qxf2 qxl q1c0 q1f0 q1l
              gi_wp2
              go_roundw
              case rel => exact ⟨j + 1, by omega, by go_num, n0, n1, ng, by rw [EA.out, EB.out]; exact n6, by (exact kpt), by (exact kpt)⟩
              case measure => simp [intOf]; omega
          · have e1 : (x.cell == (c : Int)) = false := by simp [k1]
            have e2 : decide (x.cell = (c : Int)) = false := by simp [k1]
            have EA := Lib.hid (show L - sumBy (flowN c T0 g.time) (h.flows.take (j + 1)) = A by rw [ES0, hAA.out, show flowN c T0 g.time x = 0 by simp [flowN, flowIn, k1]]; omega)
            have EB := Lib.hid (show H - sumBy (flowN c T0 g.time) (h.flows.take (j + 1)) = B by rw [ES0, hBB.out, show flowN c T0 g.time x = 0 by simp [flowN, flowIn, k1]]; omega)
            clear k1 ES0
            refine wpIn_wide.2 (Later.region (by kernel_rfl) (by kernel_rfl) ?_)
            repeat (first | go_big_quiet_skip | (go_big_quiet_want; go_big_quiet_op; first | go_big_quiet_on | (apply Exists.intro; refine ⟨fun g_ => ?_, ?_⟩; (focus (first | fail)); go_big_quiet_on)))
            refine wpQuiet_nil ?_
            intro gg
            have n0 := q0.later gg
            have n1 := q1.later gg
            have ng := qg.later gg
            have n6 := q6.later gg
            have nx := qx.later gg
            have hkg := Kept.drop hkV gg.ok
            have hkgw := Kept.drop hkVw gg.ok
            clear q0c0 q0f0 q0c1 q0f1 q0c2 q0f2 q0l qgc0 qgf0 qgc1 qgf1 qgc2 qgf2 qgc3 qgf3 qgc4 qgf4 qgc5 qgf5 qgl qxc0 qxf0 qxc1 qxf1 qxc2 qxf2 qxl q1c0 q1f0 q1l
            gi_wp2
            go_roundw
            case rel => exact ⟨j + 1, by omega, by go_num, n0, n1, ng, by rw [EA.out, EB.out]; exact n6, by (exact kpt), by (exact kpt)⟩
            case measure => simp [intOf]; omega
        · obtain rfl : j = h.flows.length := by omega
          rw [← HCM.out, ← HTL.out, ← HTH.out] at q6
          obtain ⟨fn, tmps, assign, body, hy, hR⟩ := hY pre ⟨k, hlt⟩ wr (abides_kept hJ HJ0.out hkz) (by omega)
          dsimp only [toldV] at hy
          obtain ⟨TL, hTL⟩ : ∃ n, n = toldLo h c k := ⟨_, rfl⟩
          obtain ⟨TH, hTH⟩ : ∃ n, n = toldHi h c k := ⟨_, rfl⟩
          rw [← hTL, ← hTH] at hy q6
          have q6c0 := q6.cell 0
          have q6f0 := q6.free 0
          have q6c1 := q6.cell 1
          have q6f1 := q6.free 1
          have q6l := q6.lt
          simp at q6c0 q6c1
          have HR := Lib.hid hR
          clear hR hTL hTH sbd
          gi_wp2
          refine HR.out.mono ?_
          clear hy q6c0 q6f0 q6c1 q6f1 q6l q0c0 q0f0 q0c1 q0f1 q0c2 q0f2 q0l
          rintro e W3 (⟨rfl, hJ3, hk3⟩ | ⟨rfl, hJx3⟩)
          · gi_wp2
            go_roundw
            case rel => exact ⟨pre ++ [⟨k, hlt⟩], k + 1, by omega, by go_num, HUP.out.snoc _ HPL.out.symm, by simp [HPL.out], hJ3, hk3.k0.trans q0, hk3.k1.trans q1, hkw.trans hk3.below⟩
            case measure => simp [intOf]; omega
          · gi_wp2
            refine bodyPost_ret (results_none rfl _ _ _) rfl ⟨⟨_, rfl⟩, .inr ⟨pre ++ [⟨k, hlt⟩], HUP.out.snoc _ HPL.out.symm, hJx3⟩⟩
    · obtain rfl : k = h.gauges.length := by omega
      gi_wp2
      go_end0
      exact ⟨⟨_, rfl⟩, .inl ⟨pre, ⟨hup, hpl⟩, hJ0⟩⟩

end Go.Proofs.Ytnfhcpnpjkefmaa

/-
  A range over an iterator that keeps its state in cells of its own, and hands over values that show them: its contract, and the law of the caller. No program in sight.
-/
namespace Bal
open Go Go.RowKit
variable {F : Fence} {n : Nat} {P : Program}

/-! ### The marks that the loops have left -/
def marks (Ds : List Nat) : List Deferred := Ds.map fun D => { target := .collected D, args := #[] }
/-- each mark's block is there, with no call -/
def Marked (B : Nat) (Ds : List Nat) (W : World) : Prop := Ds.Nodup ∧ ∀ D ∈ Ds, B ≤ D ∧ W.heap[D]? = some (.deferred (some []))
theorem Marked.keep {B C : Nat} {Ds : List Nat} {W W' : World} (h : Marked B Ds W) (hb : Below C W W') (hC : W.heap.size ≤ C) : Marked B Ds W' :=
  ⟨h.1, fun D hD => ⟨(h.2 D hD).1, (hb.block D (by have := (Array.getElem?_eq_some_iff.1 (h.2 D hD).2).1; omega)).trans (h.2 D hD).2⟩⟩
theorem Marked.from {B C : Nat} {Ds : List Nat} {W W' : World} (h : Marked B Ds W) (hk : KeepsFrom C W W') (hC : C ≤ B) : Marked B Ds W' :=
  ⟨h.1, fun D hD => ⟨(h.2 D hD).1, hk.same D _ (by have := (h.2 D hD).1; omega) (h.2 D hD).2 rfl⟩⟩
/-- a function leaves through its marks: what its ending says must abide their turn -/
theorem leaves_marks {fn : Func} {tmps : Array Value} {R : Ending → World → Prop} {B : Nat} (S : World → Prop) (hS : OwnFrom B (fun (_ : Unit) W => S W)) (hend : ∀ W, S W → LeavesIn F n P fn tmps R [] .returning W) :
    ∀ (Ds : List Nat) (W : World), Marked B Ds W → S W → LeavesInM F n P fn tmps R (marks Ds) .returning W
  | [], W, _, h => hend W h
  | D :: Ds, W, hm, h => by
    obtain ⟨hnd, hm⟩ := hm
    obtain ⟨hB, hD⟩ := hm D (by simp)
    refine ⟨by simp, .inl ⟨D, _, rfl, run_takeDeferred hD, leaves_marks S hS hend Ds _ ⟨(List.nodup_cons.1 hnd).2, fun E hE => ?_⟩ (hS.putObj (s := ()) _ h hB hD rfl)⟩⟩
    have hne : E ≠ D := fun e => (List.nodup_cons.1 hnd).1 (e ▸ hE)
    exact ⟨(hm E (by simp [hE])).1, (World.putObj_heap_other hne).trans (hm E (by simp [hE])).2⟩
end Bal
