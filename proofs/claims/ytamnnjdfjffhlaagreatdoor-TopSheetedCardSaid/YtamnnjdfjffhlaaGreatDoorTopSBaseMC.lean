/-
  Acts that take a share out of a cell: valve, purify.
-/
import Derived.Recover
import Derived.Laws.EntriesVeiled
import Derived.WalkSmall
import Derived.OwnWalk
import Derived.WideShapes
import Derived.Test.YtamnnjdfjffhlaaGreatDoorProg
import Derived.JoinedOf
import Derived.Deep.QuietTactic
import Derived.BigQuiet
import Derived.WalkKit
import Derived.WalkSpells
import Derived.WalkLawsBesides
import Derived.Lib.Hide
import Derived.ProofKit
import Derived.OpenShut
import Derived.ChangeOld
import Derived.Below
import Derived.Deep.Slices
import Derived.Deep.Fields
import Derived.Deep.Quiet
import Derived.Laws.AppendOwn
import Derived.Laws.AppendOwnNone
import Derived.StillTail
import Derived.Deep.RegionHeld3
import Derived.Deep.DeepCutAuto
import Derived.Deep.RegionWith
import Derived.Deep.DrawnRows
import Derived.OrdersHeld
import Derived.Test.YtamnnjdfjffhlaaGreatDoorTopSBaseMA
import Derived.Test.YtamnnjdfjffhlaaGreatDoorTopSBaseMB
set_option linter.unusedVariables false
set_option linter.unusedSimpArgs false
/-
  Acts that take a share out of a cell: valve, purify.
-/
namespace Go.Proofs.YtamnnjdfjffhlaaGreatDoor
open Go.RowKit Bal Bal.Trim Bal.Gas
set_option linter.unusedVariables false
set_option linter.unusedSimpArgs false
set_option maxHeartbeats 4000000
set_option maxRecDepth 10000

theorem f_outX_none {B cp g : Nat} {xs : List Cell} {w : World} (h : Mine 37 B w (.slice (some ⟨g, 0, none⟩) xs.length cp) xs) {i : Nat} {x : Cell} (hx : xs[i]? = some x) (hc : okC x) (n : Int) (h1 : x.helium + x.air < n) :
    Calls Tryz.prog 58 #[.pointer (some ⟨g, i * 7, none⟩), .int .i64 n] w fun e w' => e = .panicked [{ v := refusal 6, recovered := false }] ∧ Kept w w' := by
  obtain ⟨hi, rfl⟩ := List.getElem?_eq_some_iff.1 hx
  exact f_out_none h hi hc n h1
theorem f_outX {B cp g : Nat} {xs : List Cell} {w : World} (h : Mine 37 B w (.slice (some ⟨g, 0, none⟩) xs.length cp) xs) {i : Nat} {x : Cell} (hx : xs[i]? = some x) (hc : okC x) (n : Int) (h0 : 1 ≤ n) (h1 : n ≤ x.helium + x.air) :
    Calls Tryz.prog 58 #[.pointer (some ⟨g, i * 7, none⟩), .int .i64 n] w fun e w' => e = .returned (.agg #[.int .i64 (shareH x n), .int .i64 (n - shareH x n)]) ∧
      Mine 37 B w' (.slice (some ⟨g, 0, none⟩) xs.length cp) (xs.set i (less x n)) ∧ Below B w w' ∧ Besides 37 w w' := by
  obtain ⟨hi, rfl⟩ := List.getElem?_eq_some_iff.1 hx
  exact f_out_ok h hi hc n h0 h1
theorem Besides.thru {T : TypeId} {w w' : World} {b : Nat} {arr : Array Value} {t : TypeId} {G : Prop} (hb : Blk w b arr t) (h : Besides T w w') (hne : t ≠ T) (k : Blk w' b arr t → G) : G := k (h b arr t hne hb)
theorem alloc_pair (ρ : Operand → Value) (o : Oper) (ho : o.op = .alloc 24) (w : World) : (execOp ρ o).run Tryz.prog w = .ok (.value (.pointer (some ⟨w.heap.size, 0, none⟩))) (w.alloc (.cells #[.int .i64 0, .int .i64 0] 24)) := by
  obtain ⟨_, op, _, _, _, _⟩ := o
  simp only at ho
  subst ho
  simp [execOp, go_sem]
theorem makes_pair {W : World} {ops : Array Oper} {q : Nat} {oq : Oper} (h : ops[q]? = some oq) (hg : oq.guard = none) (ho : oq.op = .alloc 24) : makesB Tryz.prog ops (fun w' => ∃ g : Later W, w' = g.val) (some q) :=
  ⟨oq, h, hg, fun a w ⟨g, hw⟩ => ⟨_, _, ⟨⟨w.alloc _, by subst hw; exact (g.ok).alloc g.ok.size _⟩, rfl⟩, alloc_pair _ _ ho w⟩⟩

theorem f_valve_no1 {B s cp : Nat} {ad : Option Addr} {p : Plant} {w : World} (d : Deed) (h : Shop 37 77 B w s ad cp p) (hp : plantB p = true) (ha : argB p d = false) : Calls Tryz.prog 22 #[.pointer (some ⟨s, 0, none⟩), .agg #[.int .u8 d.kind, .int .i64 d.cell, .int .i64 d.to, .int .i64 d.n]] w fun e w' => e = .panicked [{ v := refusal 2, recovered := false }] ∧ Kept w w' := by
  have hn12 : p.cells.length ≤ 12 := (plantB_iff.1 hp).1
  have HA := Lib.hid ha
  obtain ⟨hB, hs, hm⟩ := h
  clear ha hp
  go_enter Tryz.func22, Tryz.ntmps22
  go_upto_region 1 with fail
  refine at_world (S := fun W => Blk W w.heap.size #[.int .u8 d.kind, .int .i64 d.cell, .int .i64 d.to, .int .i64 d.n] 44 ∧ Blk W s #[.slice ad p.cells.length cp, .int .i64 (p.bottles), .int .i64 (p.inH), .int .i64 (p.inA), .int .i64 (p.vH), .int .i64 (p.vA), .int .i64 (p.lH), .int .i64 (p.lA), .int .i64 (p.pH), .int .i64 (p.pA)] 77 ∧ Kept w W) ⟨by (exact blkc), hs.keep (by (exact kpt)), by (exact kpt)⟩ ?_
  rintro W ⟨r0, hsW, hk⟩
  have r0c0 := fun g : Later W => (r0.later g).cell 0
  have r0f0 := fun g : Later W => (r0.later g).free 0
  have r0c1 := fun g : Later W => (r0.later g).cell 1
  have r0f1 := fun g : Later W => (r0.later g).free 1
  have r0c2 := fun g : Later W => (r0.later g).cell 2
  have r0f2 := fun g : Later W => (r0.later g).free 2
  have r0c3 := fun g : Later W => (r0.later g).cell 3
  have r0f3 := fun g : Later W => (r0.later g).free 3
  have r0l := fun g : Later W => (r0.later g).lt
  simp at r0c0 r0c1 r0c2 r0c3
  have hsWc0 := fun g : Later W => (hsW.later g).cell 0
  have hsWf0 := fun g : Later W => (hsW.later g).free 0
  have hsWc1 := fun g : Later W => (hsW.later g).cell 1
  have hsWf1 := fun g : Later W => (hsW.later g).free 1
  have hsWc2 := fun g : Later W => (hsW.later g).cell 2
  have hsWf2 := fun g : Later W => (hsW.later g).free 2
  have hsWc3 := fun g : Later W => (hsW.later g).cell 3
  have hsWf3 := fun g : Later W => (hsW.later g).free 3
  have hsWc4 := fun g : Later W => (hsW.later g).cell 4
  have hsWf4 := fun g : Later W => (hsW.later g).free 4
  have hsWc5 := fun g : Later W => (hsW.later g).cell 5
  have hsWf5 := fun g : Later W => (hsW.later g).free 5
  have hsWc6 := fun g : Later W => (hsW.later g).cell 6
  have hsWf6 := fun g : Later W => (hsW.later g).free 6
  have hsWc7 := fun g : Later W => (hsW.later g).cell 7
  have hsWf7 := fun g : Later W => (hsW.later g).free 7
  have hsWc8 := fun g : Later W => (hsW.later g).cell 8
  have hsWf8 := fun g : Later W => (hsW.later g).free 8
  have hsWc9 := fun g : Later W => (hsW.later g).cell 9
  have hsWf9 := fun g : Later W => (hsW.later g).free 9
  have hsWl := fun g : Later W => (hsW.later g).lt
  simp at hsWc0 hsWc1 hsWc2 hsWc3 hsWc4 hsWc5 hsWc6 hsWc7 hsWc8 hsWc9
  refine later_dies [0, 1, 2, 3, 4, 5, 6, 7, 9, 10] 8 none (by kernel_rfl) (by kernel_rfl) (fun c a d v w h => by cases d <;> exact h) trivial ?_
  simp only [List.filterMap_cons, List.filterMap_nil, List.getElem?_cons_zero, List.getElem?_cons_succ, List.map_cons, List.map_nil]
  repeat (refine wpSteps_quiet ?_; (first | go_big_quiet_skip | (go_big_quiet_want; go_big_quiet_op; first | go_big_quiet_on | (apply Exists.intro; refine ⟨fun g_ => ?_, ?_⟩; (focus (first | fail)); go_big_quiet_on))); refine wpQuiet_nil ?_)
  refine wpSteps_nil ?_
  refine ⟨DiesAt.of rfl rfl (fun w' hw' => ?_), fun _ _ h => by cases h⟩
  obtain ⟨gg, rfl⟩ := hw'
  simp only [Go.wp_at_succ, Go.wp_at_zero]
  go_simp
  (with_reducible refine (f_cell_no s ad cp p d _ (hsW.later gg) hn12 HA.out).mono ?_)
  rintro e w1 ⟨rfl, hb1⟩
  have hkg := Kept.drop hk gg.ok
  exact ⟨rfl, rfl, by (exact kpt)⟩
theorem f_valve_no2 {B s cp : Nat} {ad : Option Addr} {p : Plant} {w : World} (d : Deed) (h : Shop 37 77 B w s ad cp p) (hp : plantB p = true) (ha : argB p d = true) (hl : amount (at_ p d) < d.n) : Calls Tryz.prog 22 #[.pointer (some ⟨s, 0, none⟩), .agg #[.int .u8 d.kind, .int .i64 d.cell, .int .i64 d.to, .int .i64 d.n]] w fun e w' => e = .panicked [{ v := refusal 6, recovered := false }] ∧ Kept w w' := by
  have hn12 : p.cells.length ≤ 12 := (plantB_iff.1 hp).1
  have hb := plantB_iff.1 hp
  have hi : d.cell.toNat < p.cells.length := by
    have h1 : rng [d.cell] 0 (p.cells.length - 1) = true := by unfold argB at ha; simp only [Bool.and_eq_true] at ha; exact ha.1
    have : 0 ≤ d.cell ∧ d.cell ≤ p.cells.length - 1 := by simpa [rng, inB] using h1
    omega
  have hn : 1 ≤ d.n ∧ d.n ≤ 10000000 := by
    have h1 : rng [d.n] 1 10000000 = true := by unfold argB at ha; simp only [Bool.and_eq_true] at ha; exact ha.2
    simpa [rng, inB] using h1
  have hcv : cellB p.cells[d.cell.toNat] = true := hb.2.2.2.2.2.2.1 _ (List.getElem_mem hi)
  have hat : at_ p d = p.cells[d.cell.toNat] := cellAt_get hi
  have HA := Lib.hid ha
  obtain ⟨hB, hs, hm⟩ := h
  have hBw : B ≤ w.heap.size := by have := hs.lt; omega
  obtain ⟨g, _, rfl, hBg, hbg, _⟩ := hm.at hi
  have hgl := hbg.lt
  clear hbg
  obtain ⟨x, hx⟩ : ∃ x, x = p.cells[d.cell.toNat] := ⟨_, rfl⟩
  have HX := Lib.hid (show p.cells[d.cell.toNat]? = some x by rw [hx]; simp [hi])
  rw [← hx] at hcv hat
  have hxb := cellB_iff.1 hcv
  have HAT := Lib.hid hat
  have HXX := Lib.hid hx
  clear ha hat hx
  have hlt : x.helium + x.air < d.n := by rw [HAT.out] at hl; exact hl
  have HOK := Lib.hid (okC_of hcv)
  clear hp hb hl
  go_enter Tryz.func22, Tryz.ntmps22
  go_upto_region 1 with fail
  refine at_world (S := fun W => Blk W w.heap.size #[.int .u8 d.kind, .int .i64 d.cell, .int .i64 d.to, .int .i64 d.n] 44 ∧ Blk W s #[.slice (some ⟨g, 0, none⟩) p.cells.length cp, .int .i64 (p.bottles), .int .i64 (p.inH), .int .i64 (p.inA), .int .i64 (p.vH), .int .i64 (p.vA), .int .i64 (p.lH), .int .i64 (p.lA), .int .i64 (p.pH), .int .i64 (p.pA)] 77 ∧ Mine 37 B W (.slice (some ⟨g, 0, none⟩) p.cells.length cp) p.cells ∧ Kept w W) ⟨by (exact blkc), hs.keep (by (exact kpt)), hm.keep (by (exact kpt)), by (exact kpt)⟩ ?_
  rintro W ⟨r0, hsW, hmW, hk⟩
  have r0c0 := fun g : Later W => (r0.later g).cell 0
  have r0f0 := fun g : Later W => (r0.later g).free 0
  have r0c1 := fun g : Later W => (r0.later g).cell 1
  have r0f1 := fun g : Later W => (r0.later g).free 1
  have r0c2 := fun g : Later W => (r0.later g).cell 2
  have r0f2 := fun g : Later W => (r0.later g).free 2
  have r0c3 := fun g : Later W => (r0.later g).cell 3
  have r0f3 := fun g : Later W => (r0.later g).free 3
  have r0l := fun g : Later W => (r0.later g).lt
  simp at r0c0 r0c1 r0c2 r0c3
  have hsWc0 := fun g : Later W => (hsW.later g).cell 0
  have hsWf0 := fun g : Later W => (hsW.later g).free 0
  have hsWc1 := fun g : Later W => (hsW.later g).cell 1
  have hsWf1 := fun g : Later W => (hsW.later g).free 1
  have hsWc2 := fun g : Later W => (hsW.later g).cell 2
  have hsWf2 := fun g : Later W => (hsW.later g).free 2
  have hsWc3 := fun g : Later W => (hsW.later g).cell 3
  have hsWf3 := fun g : Later W => (hsW.later g).free 3
  have hsWc4 := fun g : Later W => (hsW.later g).cell 4
  have hsWf4 := fun g : Later W => (hsW.later g).free 4
  have hsWc5 := fun g : Later W => (hsW.later g).cell 5
  have hsWf5 := fun g : Later W => (hsW.later g).free 5
  have hsWc6 := fun g : Later W => (hsW.later g).cell 6
  have hsWf6 := fun g : Later W => (hsW.later g).free 6
  have hsWc7 := fun g : Later W => (hsW.later g).cell 7
  have hsWf7 := fun g : Later W => (hsW.later g).free 7
  have hsWc8 := fun g : Later W => (hsW.later g).cell 8
  have hsWf8 := fun g : Later W => (hsW.later g).free 8
  have hsWc9 := fun g : Later W => (hsW.later g).cell 9
  have hsWf9 := fun g : Later W => (hsW.later g).free 9
  have hsWl := fun g : Later W => (hsW.later g).lt
  simp at hsWc0 hsWc1 hsWc2 hsWc3 hsWc4 hsWc5 hsWc6 hsWc7 hsWc8 hsWc9
  refine later_dies [0, 1, 2, 3, 4, 5, 6, 7, 8, 9, 10] 11 none (by kernel_rfl) (by kernel_rfl) (fun c a d v w h => by cases d <;> exact h) trivial ?_
  simp only [List.filterMap_cons, List.filterMap_nil, List.getElem?_cons_zero, List.getElem?_cons_succ, List.map_cons, List.map_nil]
  repeat (refine wpSteps_quiet ?_; (first | go_big_quiet_skip | (go_big_quiet_want; go_big_quiet_op; first | go_big_quiet_on | (apply Exists.intro; refine ⟨fun g_ => ?_, ?_⟩; (focus (first | (go_at_call 57; exact Later.call (f_cell_ok s g cp p d _ (hsW.later g_) hn12 HA.out)))); go_big_quiet_on))); refine wpQuiet_nil ?_)
  refine wpSteps_nil ?_
  refine ⟨DiesAt.of rfl rfl (fun w' hw' => ?_), fun _ _ h => by cases h⟩
  obtain ⟨gg, rfl⟩ := hw'
  simp only [Go.wp_at_succ, Go.wp_at_zero]
  go_simp
  (with_reducible refine (f_outX_none (hmW.keep gg.ok) HX.out HOK.out d.n hlt).mono ?_)
  rintro e w1 ⟨rfl, hb1⟩
  have hkg := Kept.drop hk gg.ok
  exact ⟨rfl, rfl, by (exact kpt)⟩
theorem f_valve_ok {B s cp : Nat} {ad : Option Addr} {p : Plant} {w : World} (d : Deed) (h : Shop 37 77 B w s ad cp p) (hp : plantB p = true) (ha : argB p d = true) (hl : ¬ amount (at_ p d) < d.n) : Calls Tryz.prog 22 #[.pointer (some ⟨s, 0, none⟩), .agg #[.int .u8 d.kind, .int .i64 d.cell, .int .i64 d.to, .int .i64 d.n]] w fun e w' => e = .returned (.tuple #[]) ∧ Shop 37 77 B w' s ad cp (valveP p d) ∧ Below B w w' := by
  have hn12 : p.cells.length ≤ 12 := (plantB_iff.1 hp).1
  have hb := plantB_iff.1 hp
  have hi : d.cell.toNat < p.cells.length := by
    have h1 : rng [d.cell] 0 (p.cells.length - 1) = true := by unfold argB at ha; simp only [Bool.and_eq_true] at ha; exact ha.1
    have : 0 ≤ d.cell ∧ d.cell ≤ p.cells.length - 1 := by simpa [rng, inB] using h1
    omega
  have hn : 1 ≤ d.n ∧ d.n ≤ 10000000 := by
    have h1 : rng [d.n] 1 10000000 = true := by unfold argB at ha; simp only [Bool.and_eq_true] at ha; exact ha.2
    simpa [rng, inB] using h1
  have hcv : cellB p.cells[d.cell.toNat] = true := hb.2.2.2.2.2.2.1 _ (List.getElem_mem hi)
  have hat : at_ p d = p.cells[d.cell.toNat] := cellAt_get hi
  have HA := Lib.hid ha
  obtain ⟨hB, hs, hm⟩ := h
  have hBw : B ≤ w.heap.size := by have := hs.lt; omega
  obtain ⟨g, _, rfl, hBg, hbg, _⟩ := hm.at hi
  have hgl := hbg.lt
  clear hbg
  obtain ⟨x, hx⟩ : ∃ x, x = p.cells[d.cell.toNat] := ⟨_, rfl⟩
  have HX := Lib.hid (show p.cells[d.cell.toNat]? = some x by rw [hx]; simp [hi])
  rw [← hx] at hcv hat
  have hxb := cellB_iff.1 hcv
  have HAT := Lib.hid hat
  have HXX := Lib.hid hx
  clear ha hat hx
  have hle : d.n ≤ x.helium + x.air := by rw [HAT.out] at hl; unfold amount at hl; omega
  have HOK := Lib.hid (okC_of hcv)
  obtain ⟨s0, s1, s2, s3⟩ := share_bd HOK.out (show 0 ≤ d.n by omega) hle
  obtain ⟨S, hS⟩ : ∃ S, S = shareH x d.n := ⟨_, rfl⟩
  have HSS := Lib.hid (show shareH x d.n = S from hS.symm)
  have HOUT := fun (W : World) (q : Mine 37 B W (.slice (some ⟨g, 0, none⟩) p.cells.length cp) p.cells) => f_outX q HX.out HOK.out d.n hn.1 hle
  rw [← hS] at s0 s1 s2 s3 HOUT
  obtain ⟨_, hb1, ⟨hb2, hb3⟩, ⟨hb4, hb5⟩, ⟨hb6, hb7⟩, ⟨hb8, hb9⟩, _⟩ := hb
  clear hS hl
  clear hp
  go_enter Tryz.func22, Tryz.ntmps22
  go_upto_region 1 with fail
  refine at_world (S := fun W => Blk W w.heap.size #[.int .u8 d.kind, .int .i64 d.cell, .int .i64 d.to, .int .i64 d.n] 44 ∧ Blk W s #[.slice (some ⟨g, 0, none⟩) p.cells.length cp, .int .i64 (p.bottles), .int .i64 (p.inH), .int .i64 (p.inA), .int .i64 (p.vH), .int .i64 (p.vA), .int .i64 (p.lH), .int .i64 (p.lA), .int .i64 (p.pH), .int .i64 (p.pA)] 77 ∧ Mine 37 B W (.slice (some ⟨g, 0, none⟩) p.cells.length cp) p.cells ∧ Kept w W) ⟨by (exact blkc), hs.keep (by (exact kpt)), hm.keep (by (exact kpt)), by (exact kpt)⟩ ?_
  rintro W ⟨r0, hsW, hmW, hk⟩
  refine held_walk (fun w' => Blk w' s #[.slice (some ⟨g, 0, none⟩) p.cells.length cp, .int .i64 (p.bottles), .int .i64 (p.inH), .int .i64 (p.inA), .int .i64 (p.vH), .int .i64 (p.vA), .int .i64 (p.lH), .int .i64 (p.lA), .int .i64 (p.pH), .int .i64 (p.pA)] 77 ∧ Blk w' w.heap.size #[.int .u8 d.kind, .int .i64 d.cell, .int .i64 d.to, .int .i64 d.n] 44) [(true, 0), (true, 1), (true, 2), (true, 3), (true, 4), (true, 5), (true, 6), (true, 7), (true, 9), (true, 10), (false, 8), (false, 11), (false, 12), (true, 13), (true, 14), (true, 15), (false, 16)] 16 (by kernel_rfl) (by kernel_rfl) (fun c a d v w h => by cases d <;> exact h) ⟨hsW.drew, r0.drew⟩ ?_
  simp only [List.filterMap_cons, List.filterMap_nil, List.getElem?_cons_zero, List.getElem?_cons_succ, Option.map_some]
  iterate 10 ((first | (refine held_take ?_ ?_ (fun w' hS => ?_) ?_; rotate_left 1; (focus rfl); (focus (first | (go_simp; done) | (go_simp; with_reducible rfl) | (obtain ⟨S1, S2⟩ := hS; have k0 := S1.cell 0; have k1 := S1.cell 1; have k2 := S1.cell 2; have k3 := S1.cell 3; have k4 := S1.cell 4; have k5 := S1.cell 5; have k6 := S1.cell 6; have k7 := S1.cell 7; have k8 := S1.cell 8; have k9 := S1.cell 9; have j0 := S2.cell 0; have j1 := S2.cell 1; have j2 := S2.cell 2; have j3 := S2.cell 3; simp at k0 k1 k2 k3 k4 k5 k6 k7 k8 k9 j0 j1 j2 j3; first | (go_simp; done) | (go_simp; with_reducible rfl))))) | (refine held_pass ?_ ?_; (focus rfl))); simp only [Act.put, List.setIfInBounds_toArray, List.set_cons_zero, List.set_cons_succ])
  refine held_one ?_
  refine wpList_plain rfl fun K1 hK1 => ?_
  go_wp2_with (go_at_call 57; (with_reducible refine (f_cell_ok s g cp p d _ hsW.drew hn12 HA.out).mono ?_); rintro e w1 ⟨rfl, hb1⟩)
  refine held_on ⟨hsW.drew.keep hb1, r0.drew.keep hb1⟩ ?_
  refine held_one ?_
  refine wpList_plain rfl fun K1 hK1 => ?_
  go_wp2_with (go_at_call 58; (with_reducible refine (HOUT _ (hmW.drew.keep hb1)).mono ?_); rintro e w2 ⟨rfl, hm2, hw2, hbes2⟩)
  refine held_on ⟨(hsW.drew.keep hb1 |> hbes2.blk (by decide)), (r0.drew.keep hb1 |> hbes2.blk (by decide))⟩ ?_
  refine held_one ?_
  refine wpList_plain rfl fun K1 hK1 => ?_
  go_wp2_with (go_at_call 55; (with_reducible refine (f_plus _ _ _ _ _ (by omega) (by omega) (by omega) (by omega)).mono ?_); rintro e w3 ⟨rfl, hb3⟩)
  refine held_on ⟨(hbes2.blk (by decide) (hsW.drew.keep hb1)).keep hb3, (hbes2.blk (by decide) (r0.drew.keep hb1)).keep hb3⟩ ?_
  iterate 3 ((first | (refine held_take ?_ ?_ (fun w' hS => ?_) ?_; rotate_left 1; (focus rfl); (focus (first | (go_simp; done) | (go_simp; with_reducible rfl) | (obtain ⟨S1, S2⟩ := hS; have k0 := S1.cell 0; have k1 := S1.cell 1; have k2 := S1.cell 2; have k3 := S1.cell 3; have k4 := S1.cell 4; have k5 := S1.cell 5; have k6 := S1.cell 6; have k7 := S1.cell 7; have k8 := S1.cell 8; have k9 := S1.cell 9; have j0 := S2.cell 0; have j1 := S2.cell 1; have j2 := S2.cell 2; have j3 := S2.cell 3; simp at k0 k1 k2 k3 k4 k5 k6 k7 k8 k9 j0 j1 j2 j3; first | (go_simp; done) | (go_simp; with_reducible rfl))))) | (refine held_pass ?_ ?_; (focus rfl))); simp only [Act.put, List.setIfInBounds_toArray, List.set_cons_zero, List.set_cons_succ])
  refine held_one ?_
  refine wpList_plain rfl fun K1 hK1 => ?_
  have z1 : Blk w3 s #[.slice (some ⟨g, 0, none⟩) p.cells.length cp, .int .i64 (p.bottles), .int .i64 (p.inH), .int .i64 (p.inA), .int .i64 (p.vH), .int .i64 (p.vA), .int .i64 (p.lH), .int .i64 (p.lA), .int .i64 (p.pH), .int .i64 (p.pA)] 77 := (hbes2.blk (by decide) (hsW.drew.keep hb1)).keep hb3
  have z1c0 := z1.cell 0
  have z1f0 := z1.free 0
  have z1c1 := z1.cell 1
  have z1f1 := z1.free 1
  have z1c2 := z1.cell 2
  have z1f2 := z1.free 2
  have z1c3 := z1.cell 3
  have z1f3 := z1.free 3
  have z1c4 := z1.cell 4
  have z1f4 := z1.free 4
  have z1c5 := z1.cell 5
  have z1f5 := z1.free 5
  have z1c6 := z1.cell 6
  have z1f6 := z1.free 6
  have z1c7 := z1.cell 7
  have z1f7 := z1.free 7
  have z1c8 := z1.cell 8
  have z1f8 := z1.free 8
  have z1c9 := z1.cell 9
  have z1f9 := z1.free 9
  have z1l := z1.lt
  simp at z1c0 z1c1 z1c2 z1c3 z1c4 z1c5 z1c6 z1c7 z1c8 z1c9
  go_wp2
  (first | refine held_end ?_ | (refine onward_on ?_; refine held_nil ?_))
  go_wp2
  go_end0
  refine ⟨rfl, ⟨hB, ?_, ?_⟩, ?_⟩
  · exact ((z1.set 4 (.int .i64 (p.vH + S))).set 5 (.int .i64 (p.vA + (d.n - S)))).cast (by simp [plantCells, valveP, lessP, HAT.out, HSS.out])
  · have q := ((hm2.keep hb3).other z1 (by decide) (o := 4) (.int .i64 (p.vH + S))).other (z1.set 4 (.int .i64 (p.vH + S))) (by decide) (o := 5) (.int .i64 (p.vA + (d.n - S)))
    simpa [valveP, lessP, HAT.out] using q
  · have e0 := hk.size
    have e1 : W.heap.size ≤ w1.heap.size := hb1.size
    have e2 := hw2.size
    have q := ((((hk.mono hBw).drew).trans (hb1.mono (show B ≤ W.heap.size by omega))).trans hw2).trans (hb3.mono (by omega))
    exact (q.setCell hB _).setCell hB _

theorem f_purify_no1 {B s cp : Nat} {ad : Option Addr} {p : Plant} {w : World} (d : Deed) (h : Shop 37 77 B w s ad cp p) (hp : plantB p = true) (ha : argB p d = false) : Calls Tryz.prog 24 #[.pointer (some ⟨s, 0, none⟩), .agg #[.int .u8 d.kind, .int .i64 d.cell, .int .i64 d.to, .int .i64 d.n]] w fun e w' => e = .panicked [{ v := refusal 2, recovered := false }] ∧ Kept w w' := by
  have hn12 : p.cells.length ≤ 12 := (plantB_iff.1 hp).1
  have HA := Lib.hid ha
  obtain ⟨hB, hs, hm⟩ := h
  clear ha hp
  go_enter Tryz.func24, Tryz.ntmps24
  go_upto_region 1 with fail
  refine at_world (S := fun W => Blk W w.heap.size #[.int .u8 d.kind, .int .i64 d.cell, .int .i64 d.to, .int .i64 d.n] 44 ∧ Blk W s #[.slice ad p.cells.length cp, .int .i64 (p.bottles), .int .i64 (p.inH), .int .i64 (p.inA), .int .i64 (p.vH), .int .i64 (p.vA), .int .i64 (p.lH), .int .i64 (p.lA), .int .i64 (p.pH), .int .i64 (p.pA)] 77 ∧ Kept w W) ⟨by (exact blkc), hs.keep (by (exact kpt)), by (exact kpt)⟩ ?_
  rintro W ⟨r0, hsW, hk⟩
  have r0c0 := fun g : Later W => (r0.later g).cell 0
  have r0f0 := fun g : Later W => (r0.later g).free 0
  have r0c1 := fun g : Later W => (r0.later g).cell 1
  have r0f1 := fun g : Later W => (r0.later g).free 1
  have r0c2 := fun g : Later W => (r0.later g).cell 2
  have r0f2 := fun g : Later W => (r0.later g).free 2
  have r0c3 := fun g : Later W => (r0.later g).cell 3
  have r0f3 := fun g : Later W => (r0.later g).free 3
  have r0l := fun g : Later W => (r0.later g).lt
  simp at r0c0 r0c1 r0c2 r0c3
  have hsWc0 := fun g : Later W => (hsW.later g).cell 0
  have hsWf0 := fun g : Later W => (hsW.later g).free 0
  have hsWc1 := fun g : Later W => (hsW.later g).cell 1
  have hsWf1 := fun g : Later W => (hsW.later g).free 1
  have hsWc2 := fun g : Later W => (hsW.later g).cell 2
  have hsWf2 := fun g : Later W => (hsW.later g).free 2
  have hsWc3 := fun g : Later W => (hsW.later g).cell 3
  have hsWf3 := fun g : Later W => (hsW.later g).free 3
  have hsWc4 := fun g : Later W => (hsW.later g).cell 4
  have hsWf4 := fun g : Later W => (hsW.later g).free 4
  have hsWc5 := fun g : Later W => (hsW.later g).cell 5
  have hsWf5 := fun g : Later W => (hsW.later g).free 5
  have hsWc6 := fun g : Later W => (hsW.later g).cell 6
  have hsWf6 := fun g : Later W => (hsW.later g).free 6
  have hsWc7 := fun g : Later W => (hsW.later g).cell 7
  have hsWf7 := fun g : Later W => (hsW.later g).free 7
  have hsWc8 := fun g : Later W => (hsW.later g).cell 8
  have hsWf8 := fun g : Later W => (hsW.later g).free 8
  have hsWc9 := fun g : Later W => (hsW.later g).cell 9
  have hsWf9 := fun g : Later W => (hsW.later g).free 9
  have hsWl := fun g : Later W => (hsW.later g).lt
  simp at hsWc0 hsWc1 hsWc2 hsWc3 hsWc4 hsWc5 hsWc6 hsWc7 hsWc8 hsWc9
  refine later_dies [0, 1, 3, 4] 2 (some 6) (by kernel_rfl) (by kernel_rfl) (fun c a d v w h => by cases d <;> exact h) (makes_pair rfl rfl rfl) ?_
  simp only [List.filterMap_cons, List.filterMap_nil, List.getElem?_cons_zero, List.getElem?_cons_succ, List.map_cons, List.map_nil]
  repeat (refine wpSteps_quiet ?_; (first | go_big_quiet_skip | (go_big_quiet_want; go_big_quiet_op; first | go_big_quiet_on | (apply Exists.intro; refine ⟨fun g_ => ?_, ?_⟩; (focus (first | fail)); go_big_quiet_on))); refine wpQuiet_nil ?_)
  refine wpSteps_nil ?_
  refine ⟨DiesAt.of rfl rfl (fun w' hw' => ?_), fun _ oq hq ho v => ?_⟩
  · obtain ⟨gg, rfl⟩ := hw'
    simp only [Go.wp_at_succ, Go.wp_at_zero]
    go_simp
    (with_reducible refine (f_cell_no s ad cp p d _ (hsW.later gg) hn12 HA.out).mono ?_)
    rintro e w1 ⟨rfl, hb1⟩
    have hkg := Kept.drop hk gg.ok
    exact ⟨rfl, rfl, by (exact kpt)⟩
  · cases hq
    obtain rfl : _ = oq := Option.some.inj ho
    simp only [Act.put, List.setIfInBounds_toArray, List.set_cons_zero, List.set_cons_succ]
    refine DiesAt.of rfl rfl (fun w' hw' => ?_)
    obtain ⟨gg, rfl⟩ := hw'
    simp only [Go.wp_at_succ, Go.wp_at_zero]
    go_simp
    (with_reducible refine (f_cell_no s ad cp p d _ (hsW.later gg) hn12 HA.out).mono ?_)
    rintro e w1 ⟨rfl, hb1⟩
    have hkg := Kept.drop hk gg.ok
    exact ⟨rfl, rfl, by (exact kpt)⟩
theorem f_purify_no2 {B s cp : Nat} {ad : Option Addr} {p : Plant} {w : World} (d : Deed) (h : Shop 37 77 B w s ad cp p) (hp : plantB p = true) (ha : argB p d = true) (hl : amount (at_ p d) < d.n) : Calls Tryz.prog 24 #[.pointer (some ⟨s, 0, none⟩), .agg #[.int .u8 d.kind, .int .i64 d.cell, .int .i64 d.to, .int .i64 d.n]] w fun e w' => e = .panicked [{ v := refusal 6, recovered := false }] ∧ Kept w w' := by
  have hn12 : p.cells.length ≤ 12 := (plantB_iff.1 hp).1
  have hb := plantB_iff.1 hp
  have hi : d.cell.toNat < p.cells.length := by
    have h1 : rng [d.cell] 0 (p.cells.length - 1) = true := by unfold argB at ha; simp only [Bool.and_eq_true] at ha; exact ha.1
    have : 0 ≤ d.cell ∧ d.cell ≤ p.cells.length - 1 := by simpa [rng, inB] using h1
    omega
  have hn : 1 ≤ d.n ∧ d.n ≤ 10000000 := by
    have h1 : rng [d.n] 1 10000000 = true := by unfold argB at ha; simp only [Bool.and_eq_true] at ha; exact ha.2
    simpa [rng, inB] using h1
  have hcv : cellB p.cells[d.cell.toNat] = true := hb.2.2.2.2.2.2.1 _ (List.getElem_mem hi)
  have hat : at_ p d = p.cells[d.cell.toNat] := cellAt_get hi
  have HA := Lib.hid ha
  obtain ⟨hB, hs, hm⟩ := h
  have hBw : B ≤ w.heap.size := by have := hs.lt; omega
  obtain ⟨g, _, rfl, hBg, hbg, _⟩ := hm.at hi
  have hgl := hbg.lt
  clear hbg
  obtain ⟨x, hx⟩ : ∃ x, x = p.cells[d.cell.toNat] := ⟨_, rfl⟩
  have HX := Lib.hid (show p.cells[d.cell.toNat]? = some x by rw [hx]; simp [hi])
  rw [← hx] at hcv hat
  have hxb := cellB_iff.1 hcv
  have HAT := Lib.hid hat
  have HXX := Lib.hid hx
  clear ha hat hx
  have hlt : x.helium + x.air < d.n := by rw [HAT.out] at hl; exact hl
  have HOK := Lib.hid (okC_of hcv)
  clear hp hb hl
  go_enter Tryz.func24, Tryz.ntmps24
  go_upto_region 1 with fail
  refine at_world (S := fun W => Blk W w.heap.size #[.int .u8 d.kind, .int .i64 d.cell, .int .i64 d.to, .int .i64 d.n] 44 ∧ Blk W s #[.slice (some ⟨g, 0, none⟩) p.cells.length cp, .int .i64 (p.bottles), .int .i64 (p.inH), .int .i64 (p.inA), .int .i64 (p.vH), .int .i64 (p.vA), .int .i64 (p.lH), .int .i64 (p.lA), .int .i64 (p.pH), .int .i64 (p.pA)] 77 ∧ Mine 37 B W (.slice (some ⟨g, 0, none⟩) p.cells.length cp) p.cells ∧ Kept w W) ⟨by (exact blkc), hs.keep (by (exact kpt)), hm.keep (by (exact kpt)), by (exact kpt)⟩ ?_
  rintro W ⟨r0, hsW, hmW, hk⟩
  have r0c0 := fun g : Later W => (r0.later g).cell 0
  have r0f0 := fun g : Later W => (r0.later g).free 0
  have r0c1 := fun g : Later W => (r0.later g).cell 1
  have r0f1 := fun g : Later W => (r0.later g).free 1
  have r0c2 := fun g : Later W => (r0.later g).cell 2
  have r0f2 := fun g : Later W => (r0.later g).free 2
  have r0c3 := fun g : Later W => (r0.later g).cell 3
  have r0f3 := fun g : Later W => (r0.later g).free 3
  have r0l := fun g : Later W => (r0.later g).lt
  simp at r0c0 r0c1 r0c2 r0c3
  have hsWc0 := fun g : Later W => (hsW.later g).cell 0
  have hsWf0 := fun g : Later W => (hsW.later g).free 0
  have hsWc1 := fun g : Later W => (hsW.later g).cell 1
  have hsWf1 := fun g : Later W => (hsW.later g).free 1
  have hsWc2 := fun g : Later W => (hsW.later g).cell 2
  have hsWf2 := fun g : Later W => (hsW.later g).free 2
  have hsWc3 := fun g : Later W => (hsW.later g).cell 3
  have hsWf3 := fun g : Later W => (hsW.later g).free 3
  have hsWc4 := fun g : Later W => (hsW.later g).cell 4
  have hsWf4 := fun g : Later W => (hsW.later g).free 4
  have hsWc5 := fun g : Later W => (hsW.later g).cell 5
  have hsWf5 := fun g : Later W => (hsW.later g).free 5
  have hsWc6 := fun g : Later W => (hsW.later g).cell 6
  have hsWf6 := fun g : Later W => (hsW.later g).free 6
  have hsWc7 := fun g : Later W => (hsW.later g).cell 7
  have hsWf7 := fun g : Later W => (hsW.later g).free 7
  have hsWc8 := fun g : Later W => (hsW.later g).cell 8
  have hsWf8 := fun g : Later W => (hsW.later g).free 8
  have hsWc9 := fun g : Later W => (hsW.later g).cell 9
  have hsWf9 := fun g : Later W => (hsW.later g).free 9
  have hsWl := fun g : Later W => (hsW.later g).lt
  simp at hsWc0 hsWc1 hsWc2 hsWc3 hsWc4 hsWc5 hsWc6 hsWc7 hsWc8 hsWc9
  refine later_dies [0, 1, 2, 3, 4] 5 (some 6) (by kernel_rfl) (by kernel_rfl) (fun c a d v w h => by cases d <;> exact h) (makes_pair rfl rfl rfl) ?_
  simp only [List.filterMap_cons, List.filterMap_nil, List.getElem?_cons_zero, List.getElem?_cons_succ, List.map_cons, List.map_nil]
  repeat (refine wpSteps_quiet ?_; (first | go_big_quiet_skip | (go_big_quiet_want; go_big_quiet_op; first | go_big_quiet_on | (apply Exists.intro; refine ⟨fun g_ => ?_, ?_⟩; (focus (first | (go_at_call 57; exact Later.call (f_cell_ok s g cp p d _ (hsW.later g_) hn12 HA.out)))); go_big_quiet_on))); refine wpQuiet_nil ?_)
  refine wpSteps_nil ?_
  refine ⟨DiesAt.of rfl rfl (fun w' hw' => ?_), fun _ oq hq ho v => ?_⟩
  · obtain ⟨gg, rfl⟩ := hw'
    simp only [Go.wp_at_succ, Go.wp_at_zero]
    go_simp
    (with_reducible refine (f_outX_none (hmW.keep gg.ok) HX.out HOK.out d.n hlt).mono ?_)
    rintro e w1 ⟨rfl, hb1⟩
    have hkg := Kept.drop hk gg.ok
    exact ⟨rfl, rfl, by (exact kpt)⟩
  · cases hq
    obtain rfl : _ = oq := Option.some.inj ho
    simp only [Act.put, List.setIfInBounds_toArray, List.set_cons_zero, List.set_cons_succ]
    refine DiesAt.of rfl rfl (fun w' hw' => ?_)
    obtain ⟨gg, rfl⟩ := hw'
    simp only [Go.wp_at_succ, Go.wp_at_zero]
    go_simp
    (with_reducible refine (f_outX_none (hmW.keep gg.ok) HX.out HOK.out d.n hlt).mono ?_)
    rintro e w1 ⟨rfl, hb1⟩
    have hkg := Kept.drop hk gg.ok
    exact ⟨rfl, rfl, by (exact kpt)⟩
theorem f_purify_ok {B s cp : Nat} {ad : Option Addr} {p : Plant} {w : World} (d : Deed) (h : Shop 37 77 B w s ad cp p) (hp : plantB p = true) (ha : argB p d = true) (hl : ¬ amount (at_ p d) < d.n) : Calls Tryz.prog 24 #[.pointer (some ⟨s, 0, none⟩), .agg #[.int .u8 d.kind, .int .i64 d.cell, .int .i64 d.to, .int .i64 d.n]] w fun e w' => e = .returned (.tuple #[]) ∧ Shop 37 77 B w' s ad cp (purifyP p d) ∧ Below B w w' := by
  have hn12 : p.cells.length ≤ 12 := (plantB_iff.1 hp).1
  have hb := plantB_iff.1 hp
  have hi : d.cell.toNat < p.cells.length := by
    have h1 : rng [d.cell] 0 (p.cells.length - 1) = true := by unfold argB at ha; simp only [Bool.and_eq_true] at ha; exact ha.1
    have : 0 ≤ d.cell ∧ d.cell ≤ p.cells.length - 1 := by simpa [rng, inB] using h1
    omega
  have hn : 1 ≤ d.n ∧ d.n ≤ 10000000 := by
    have h1 : rng [d.n] 1 10000000 = true := by unfold argB at ha; simp only [Bool.and_eq_true] at ha; exact ha.2
    simpa [rng, inB] using h1
  have hcv : cellB p.cells[d.cell.toNat] = true := hb.2.2.2.2.2.2.1 _ (List.getElem_mem hi)
  have hat : at_ p d = p.cells[d.cell.toNat] := cellAt_get hi
  have HA := Lib.hid ha
  obtain ⟨hB, hs, hm⟩ := h
  have hBw : B ≤ w.heap.size := by have := hs.lt; omega
  obtain ⟨g, _, rfl, hBg, hbg, _⟩ := hm.at hi
  have hgl := hbg.lt
  clear hbg
  obtain ⟨x, hx⟩ : ∃ x, x = p.cells[d.cell.toNat] := ⟨_, rfl⟩
  have HX := Lib.hid (show p.cells[d.cell.toNat]? = some x by rw [hx]; simp [hi])
  rw [← hx] at hcv hat
  have hxb := cellB_iff.1 hcv
  have HAT := Lib.hid hat
  have HXX := Lib.hid hx
  clear ha hat hx
  have hle : d.n ≤ x.helium + x.air := by rw [HAT.out] at hl; unfold amount at hl; omega
  have HOK := Lib.hid (okC_of hcv)
  obtain ⟨s0, s1, s2, s3⟩ := share_bd HOK.out (show 0 ≤ d.n by omega) hle
  obtain ⟨S, hS⟩ : ∃ S, S = shareH x d.n := ⟨_, rfl⟩
  have HSS := Lib.hid (show shareH x d.n = S from hS.symm)
  have HOUT := fun (W : World) (q : Mine 37 B W (.slice (some ⟨g, 0, none⟩) p.cells.length cp) p.cells) => f_outX q HX.out HOK.out d.n hn.1 hle
  rw [← hS] at s0 s1 s2 s3 HOUT
  obtain ⟨_, hb1, ⟨hb2, hb3⟩, ⟨hb4, hb5⟩, ⟨hb6, hb7⟩, ⟨hb8, hb9⟩, _⟩ := hb
  clear hS hl
  clear hp
  go_enter Tryz.func24, Tryz.ntmps24
  go_upto_region 1 with fail
  refine at_world (S := fun W => Blk W w.heap.size #[.int .u8 d.kind, .int .i64 d.cell, .int .i64 d.to, .int .i64 d.n] 44 ∧ Blk W s #[.slice (some ⟨g, 0, none⟩) p.cells.length cp, .int .i64 (p.bottles), .int .i64 (p.inH), .int .i64 (p.inA), .int .i64 (p.vH), .int .i64 (p.vA), .int .i64 (p.lH), .int .i64 (p.lA), .int .i64 (p.pH), .int .i64 (p.pA)] 77 ∧ Mine 37 B W (.slice (some ⟨g, 0, none⟩) p.cells.length cp) p.cells ∧ Kept w W) ⟨by (exact blkc), hs.keep (by (exact kpt)), hm.keep (by (exact kpt)), by (exact kpt)⟩ ?_
  rintro W ⟨r0, hsW, hmW, hk⟩
  have hdk0 : ∀ w', Blk w' w.heap.size #[.int .u8 d.kind, .int .i64 d.cell, .int .i64 d.to, .int .i64 d.n] 44 → w'.cell? ⟨w.heap.size, 0, none⟩ = _ := fun w' h => h.cell 0
  have hdk1 : ∀ w', Blk w' w.heap.size #[.int .u8 d.kind, .int .i64 d.cell, .int .i64 d.to, .int .i64 d.n] 44 → w'.cell? ⟨w.heap.size, 1, none⟩ = _ := fun w' h => h.cell 1
  have hdk2 : ∀ w', Blk w' w.heap.size #[.int .u8 d.kind, .int .i64 d.cell, .int .i64 d.to, .int .i64 d.n] 44 → w'.cell? ⟨w.heap.size, 2, none⟩ = _ := fun w' h => h.cell 2
  have hdk3 : ∀ w', Blk w' w.heap.size #[.int .u8 d.kind, .int .i64 d.cell, .int .i64 d.to, .int .i64 d.n] 44 → w'.cell? ⟨w.heap.size, 3, none⟩ = _ := fun w' h => h.cell 3
  have hdf0 : ∀ w', Blk w' w.heap.size #[.int .u8 d.kind, .int .i64 d.cell, .int .i64 d.to, .int .i64 d.n] 44 → w'.frozen? ⟨w.heap.size, 0, none⟩ = _ := fun w' h => h.free 0
  have hdf1 : ∀ w', Blk w' w.heap.size #[.int .u8 d.kind, .int .i64 d.cell, .int .i64 d.to, .int .i64 d.n] 44 → w'.frozen? ⟨w.heap.size, 1, none⟩ = _ := fun w' h => h.free 1
  have hdf2 : ∀ w', Blk w' w.heap.size #[.int .u8 d.kind, .int .i64 d.cell, .int .i64 d.to, .int .i64 d.n] 44 → w'.frozen? ⟨w.heap.size, 2, none⟩ = _ := fun w' h => h.free 2
  have hdf3 : ∀ w', Blk w' w.heap.size #[.int .u8 d.kind, .int .i64 d.cell, .int .i64 d.to, .int .i64 d.n] 44 → w'.frozen? ⟨w.heap.size, 3, none⟩ = _ := fun w' h => h.free 3
  simp at hdk0 hdk1 hdk2 hdk3
  go_cut [4] (fun s4 wx => ∃ gx, s4 = .pointer (some ⟨gx, 0, none⟩) ∧ Blk wx gx #[.int .i64 S, .int .i64 (d.n - S)] 24 ∧ Blk wx s #[.slice (some ⟨g, 0, none⟩) p.cells.length cp, .int .i64 (p.bottles), .int .i64 (p.inH), .int .i64 (p.inA), .int .i64 (p.vH), .int .i64 (p.vA), .int .i64 (p.lH), .int .i64 (p.lA), .int .i64 (p.pH), .int .i64 (p.pA)] 77 ∧ Blk wx w.heap.size #[.int .u8 d.kind, .int .i64 d.cell, .int .i64 d.to, .int .i64 d.n] 44 ∧ Mine 37 B wx (.slice (some ⟨g, 0, none⟩) p.cells.length cp) (p.cells.set d.cell.toNat (less x d.n)) ∧ Below B w wx ∧ w.heap.size ≤ wx.heap.size ∧ w.heap.size < gx)
  case first =>
    go_region_held3 (fun w' => Blk w' w.heap.size #[.int .u8 d.kind, .int .i64 d.cell, .int .i64 d.to, .int .i64 d.n] 44) (((repeat (first | with_reducible assumption | with_reducible refine Blk.drew ?_ | with_reducible refine Blk.alloc ?_ _ | ((with_reducible refine Blk.other ?_ ?_ _); rotate_left 1; (focus (have e0 := r0.lt; have e2 := Kept.size hb1; have e3 := Below.size hw2; simp at e2 e3; first | (simp; omega) | (simp at *; omega)))) | (with_reducible refine Besides.blk hbes2 (by decide) ?_) | with_reducible refine Blk.keep ?_ (by with_reducible assumption))); done)) (first | (go_at_call 57; (with_reducible refine (f_cell_ok s g cp p d _ (hs.keep (by (exact kpt))) hn12 HA.out).mono ?_); rintro e w1 ⟨rfl, hb1⟩; have hbA : Below B W w1 := (by first | exact ((Below.refl B W).drew).trans (hb1.mono (by simp; have e0 := hk.size; omega)) | exact (((Below.refl B W).alloc (by have e0 := hk.size; omega) _).drew).trans (hb1.mono (by simp; have e0 := hk.size; omega))); (try (refine Blk.thru (b := W.heap.size) (arr := ?_) (t := ?_) ?_ hb1 ?_; rotate_left 2; (focus ((repeat with_reducible refine Blk.drew ?_); exact Blk.new' (by first | rfl | (simp; done)))); intro x1; have x1c0 := x1.cell 0; have x1f0 := x1.free 0; have x1c1 := x1.cell 1; have x1f1 := x1.free 1; have x1l := x1.lt; simp at x1c0 x1c1))) | (go_at_call 58; (with_reducible refine (HOUT _ ?_).mono ?_); (focus (repeat (first | with_reducible assumption | with_reducible refine Mine.drew ?_ | with_reducible refine Mine.alloc ?_ _ | with_reducible refine Mine.keep ?_ (by with_reducible assumption)))); rintro e w2 ⟨rfl, hm2, hw2, hbes2⟩; have hbB : Below B W w2 := (by first | exact hbA.trans hw2 | exact (hbA.alloc (by have e0 := hk.size; have e1 := hbA.size; omega) _).trans hw2); have hsB : Blk w2 s #[.slice (some ⟨g, 0, none⟩) p.cells.length cp, .int .i64 (p.bottles), .int .i64 (p.inH), .int .i64 (p.inA), .int .i64 (p.vH), .int .i64 (p.vA), .int .i64 (p.lH), .int .i64 (p.lA), .int .i64 (p.pH), .int .i64 (p.pA)] 77 := (by have hsW1 := hsW; (repeat (first | with_reducible assumption | with_reducible refine Blk.drew ?_ | with_reducible refine Blk.alloc ?_ _ | (with_reducible refine Besides.blk hbes2 (by decide) ?_) | with_reducible refine Blk.keep ?_ (by with_reducible assumption)))); have r0B : Blk w2 w.heap.size #[.int .u8 d.kind, .int .i64 d.cell, .int .i64 d.to, .int .i64 d.n] 44 := (by (repeat (first | with_reducible assumption | with_reducible refine Blk.drew ?_ | with_reducible refine Blk.alloc ?_ _ | (with_reducible refine Besides.blk hbes2 (by decide) ?_) | with_reducible refine Blk.keep ?_ (by with_reducible assumption)))); have hzB := hbB.size; (first | (refine Besides.thru x1 hbes2 (by decide) ?_; intro x2; have x2c0 := x2.cell 0; have x2f0 := x2.free 0; have x2c1 := x2.cell 1; have x2f1 := x2.free 1; have x2l := x2.lt; simp at x2c0 x2c1) | (refine Besides.thru (b := w1.heap.size) (arr := ?_) (t := ?_) ?_ hbes2 ?_ ?_; rotate_left 2; (focus ((repeat with_reducible refine Blk.drew ?_); exact Blk.new' (by first | rfl | (simp; done)))); (focus decide); intro x2; have x2c0 := x2.cell 0; have x2f0 := x2.free 0; have x2c1 := x2.cell 1; have x2f1 := x2.free 1; have x2l := x2.lt; simp at x2c0 x2c1) | skip)) | fail)
    all_goals (go_wp2_with fail; go_meet)
    all_goals
      have e9 := r0.lt
      have e8 := hs.lt
      have ez := hbA.size
      have ey := hw2.size
    · refine ⟨_, rfl, Blk.new, hsB.alloc _, r0B.alloc _, hm2.alloc _, ((hk.mono hBw).trans hbB).alloc (by have := hk.size; omega) _, by simp; have := hk.size; omega, by omega⟩
    all_goals
      try simp at ey
      refine ⟨_, rfl, (x2.set 0 _).set 1 _, (hsB.other (by simp; omega) _).other (by simp; omega) _, (r0B.other (by simp; omega) _).other (by simp; omega) _, (hm2.other x2 (by decide) _).other (x2.set 0 _) (by decide) _, (((hk.mono hBw).trans hbB).setCell (by simp; omega) _).setCell (by simp; omega) _, by simp [World.setCell]; omega, by omega⟩
  case rest =>
    clear hk r0 hsW hmW hdk0 hdf0 hdk1 hdf1 hdk2 hdf2 hdk3 hdf3
    obtain ⟨gx, rfl, x0, hsW, r0, hmW, hbW, hzW, hgx⟩ := hcut
    have x0c0 := x0.cell 0
    have x0f0 := x0.free 0
    have x0c1 := x0.cell 1
    have x0f1 := x0.free 1
    have x0l := x0.lt
    simp at x0c0 x0c1
    go_upto_region 3 with fail
    clear x0c0 x0f0 x0c1 x0f1 x0l
    refine at_world (S := fun X => Blk X gx #[.int .i64 S, .int .i64 (d.n - S)] 24 ∧ Blk X s #[.slice (some ⟨g, 0, none⟩) p.cells.length cp, .int .i64 (p.bottles), .int .i64 (p.inH), .int .i64 (p.inA), .int .i64 (p.vH), .int .i64 (p.vA), .int .i64 (p.lH), .int .i64 (p.lA), .int .i64 (p.pH), .int .i64 (p.pA)] 77 ∧ Blk X w.heap.size #[.int .u8 d.kind, .int .i64 d.cell, .int .i64 d.to, .int .i64 d.n] 44 ∧ Mine 37 B X (.slice (some ⟨g, 0, none⟩) p.cells.length cp) (p.cells.set d.cell.toNat (less x d.n)) ∧ Below B w X ∧ w.heap.size ≤ X.heap.size) ⟨x0, hsW, r0, hmW, hbW, hzW⟩ ?_
    rintro X ⟨x0, hsX, r0, hmX, hbX, hzX⟩
    have x0c0 := fun g : Later X => (x0.later g).cell 0
    have x0f0 := fun g : Later X => (x0.later g).free 0
    have x0c1 := fun g : Later X => (x0.later g).cell 1
    have x0f1 := fun g : Later X => (x0.later g).free 1
    have x0l := fun g : Later X => (x0.later g).lt
    simp at x0c0 x0c1
    have r0c0 := fun g : Later X => (r0.later g).cell 0
    have r0f0 := fun g : Later X => (r0.later g).free 0
    have r0c1 := fun g : Later X => (r0.later g).cell 1
    have r0f1 := fun g : Later X => (r0.later g).free 1
    have r0c2 := fun g : Later X => (r0.later g).cell 2
    have r0f2 := fun g : Later X => (r0.later g).free 2
    have r0c3 := fun g : Later X => (r0.later g).cell 3
    have r0f3 := fun g : Later X => (r0.later g).free 3
    have r0l := fun g : Later X => (r0.later g).lt
    simp at r0c0 r0c1 r0c2 r0c3
    have hsXc0 := fun g : Later X => (hsX.later g).cell 0
    have hsXf0 := fun g : Later X => (hsX.later g).free 0
    have hsXc1 := fun g : Later X => (hsX.later g).cell 1
    have hsXf1 := fun g : Later X => (hsX.later g).free 1
    have hsXc2 := fun g : Later X => (hsX.later g).cell 2
    have hsXf2 := fun g : Later X => (hsX.later g).free 2
    have hsXc3 := fun g : Later X => (hsX.later g).cell 3
    have hsXf3 := fun g : Later X => (hsX.later g).free 3
    have hsXc4 := fun g : Later X => (hsX.later g).cell 4
    have hsXf4 := fun g : Later X => (hsX.later g).free 4
    have hsXc5 := fun g : Later X => (hsX.later g).cell 5
    have hsXf5 := fun g : Later X => (hsX.later g).free 5
    have hsXc6 := fun g : Later X => (hsX.later g).cell 6
    have hsXf6 := fun g : Later X => (hsX.later g).free 6
    have hsXc7 := fun g : Later X => (hsX.later g).cell 7
    have hsXf7 := fun g : Later X => (hsX.later g).free 7
    have hsXc8 := fun g : Later X => (hsX.later g).cell 8
    have hsXf8 := fun g : Later X => (hsX.later g).free 8
    have hsXc9 := fun g : Later X => (hsX.later g).cell 9
    have hsXf9 := fun g : Later X => (hsX.later g).free 9
    have hsXl := fun g : Later X => (hsX.later g).lt
    simp at hsXc0 hsXc1 hsXc2 hsXc3 hsXc4 hsXc5 hsXc6 hsXc7 hsXc8 hsXc9
    have L0 : 0 ≤ S / 50 ∧ S / 50 ≤ S := by omega
    refine Later.tail 13 (by kernel_rfl) (by kernel_rfl) ?_
    simp only [List.take_succ_cons, List.take_zero, List.drop_succ_cons, List.drop_zero]
    repeat (first | go_big_quiet_skip | (go_big_quiet_want; go_big_quiet_op; first | go_big_quiet_on | (apply Exists.intro; refine ⟨fun g_ => ?_, ?_⟩; (focus (first | fail)); go_big_quiet_on)))
    refine wpQuiet_nil ?_
    intro gh
    refine wpList_plain rfl fun K1 hK1 => ?_
    have q0 := r0.later gh
    have q1 := hsX.later gh
    have q2 := x0.later gh
    clear x0c0 x0f0 x0c1 x0f1 x0l r0c0 r0f0 r0c1 r0f1 r0c2 r0f2 r0c3 r0f3 r0l hsXc0 hsXf0 hsXc1 hsXf1 hsXc2 hsXf2 hsXc3 hsXf3 hsXc4 hsXf4 hsXc5 hsXf5 hsXc6 hsXf6 hsXc7 hsXf7 hsXc8 hsXf8 hsXc9 hsXf9 hsXl
    have q1c0 := q1.cell 0
    have q1f0 := q1.free 0
    have q1c1 := q1.cell 1
    have q1f1 := q1.free 1
    have q1c2 := q1.cell 2
    have q1f2 := q1.free 2
    have q1c3 := q1.cell 3
    have q1f3 := q1.free 3
    have q1c4 := q1.cell 4
    have q1f4 := q1.free 4
    have q1c5 := q1.cell 5
    have q1f5 := q1.free 5
    have q1c6 := q1.cell 6
    have q1f6 := q1.free 6
    have q1c7 := q1.cell 7
    have q1f7 := q1.free 7
    have q1c8 := q1.cell 8
    have q1f8 := q1.free 8
    have q1c9 := q1.cell 9
    have q1f9 := q1.free 9
    have q1l := q1.lt
    simp at q1c0 q1c1 q1c2 q1c3 q1c4 q1c5 q1c6 q1c7 q1c8 q1c9
    go_wp2
    refine at_world (S := fun Y => Blk Y gx #[.int .i64 S, .int .i64 (d.n - S)] 24 ∧ Blk Y s #[.slice (some ⟨g, 0, none⟩) p.cells.length cp, .int .i64 (p.bottles + (S - S / 50)), .int .i64 (p.inH), .int .i64 (p.inA), .int .i64 (p.vH), .int .i64 (p.vA), .int .i64 (p.lH), .int .i64 (p.lA), .int .i64 (p.pH), .int .i64 (p.pA)] 77 ∧ Blk Y w.heap.size #[.int .u8 d.kind, .int .i64 d.cell, .int .i64 d.to, .int .i64 d.n] 44 ∧ Mine 37 B Y (.slice (some ⟨g, 0, none⟩) p.cells.length cp) (p.cells.set d.cell.toNat (less x d.n)) ∧ Below B w Y ∧ w.heap.size ≤ Y.heap.size) ⟨q2.other (by simp; have := hs.lt; omega) _, q1.set 1 _, q0.other (by simp; have := hs.lt; omega) _, (hmX.keep gh.ok).other q1 (by decide) _, (hbX.trans (gh.ok.mono (by omega))).setCell hB _, Nat.le_trans hzX (Nat.le_trans gh.ok.size (by simp))⟩ ?_
    rintro Y ⟨x0, hsY, r0, hmY, hbY, hzY⟩
    clear q1c0 q1f0 q1c1 q1f1 q1c2 q1f2 q1c3 q1f3 q1c4 q1f4 q1c5 q1f5 q1c6 q1f6 q1c7 q1f7 q1c8 q1f8 q1c9 q1f9 q1l q0 q1 q2
    have x0c0 := fun g : Later Y => (x0.later g).cell 0
    have x0f0 := fun g : Later Y => (x0.later g).free 0
    have x0c1 := fun g : Later Y => (x0.later g).cell 1
    have x0f1 := fun g : Later Y => (x0.later g).free 1
    have x0l := fun g : Later Y => (x0.later g).lt
    simp at x0c0 x0c1
    have r0c0 := fun g : Later Y => (r0.later g).cell 0
    have r0f0 := fun g : Later Y => (r0.later g).free 0
    have r0c1 := fun g : Later Y => (r0.later g).cell 1
    have r0f1 := fun g : Later Y => (r0.later g).free 1
    have r0c2 := fun g : Later Y => (r0.later g).cell 2
    have r0f2 := fun g : Later Y => (r0.later g).free 2
    have r0c3 := fun g : Later Y => (r0.later g).cell 3
    have r0f3 := fun g : Later Y => (r0.later g).free 3
    have r0l := fun g : Later Y => (r0.later g).lt
    simp at r0c0 r0c1 r0c2 r0c3
    have hsYc0 := fun g : Later Y => (hsY.later g).cell 0
    have hsYf0 := fun g : Later Y => (hsY.later g).free 0
    have hsYc1 := fun g : Later Y => (hsY.later g).cell 1
    have hsYf1 := fun g : Later Y => (hsY.later g).free 1
    have hsYc2 := fun g : Later Y => (hsY.later g).cell 2
    have hsYf2 := fun g : Later Y => (hsY.later g).free 2
    have hsYc3 := fun g : Later Y => (hsY.later g).cell 3
    have hsYf3 := fun g : Later Y => (hsY.later g).free 3
    have hsYc4 := fun g : Later Y => (hsY.later g).cell 4
    have hsYf4 := fun g : Later Y => (hsY.later g).free 4
    have hsYc5 := fun g : Later Y => (hsY.later g).cell 5
    have hsYf5 := fun g : Later Y => (hsY.later g).free 5
    have hsYc6 := fun g : Later Y => (hsY.later g).cell 6
    have hsYf6 := fun g : Later Y => (hsY.later g).free 6
    have hsYc7 := fun g : Later Y => (hsY.later g).cell 7
    have hsYf7 := fun g : Later Y => (hsY.later g).free 7
    have hsYc8 := fun g : Later Y => (hsY.later g).cell 8
    have hsYf8 := fun g : Later Y => (hsY.later g).free 8
    have hsYc9 := fun g : Later Y => (hsY.later g).cell 9
    have hsYf9 := fun g : Later Y => (hsY.later g).free 9
    have hsYl := fun g : Later Y => (hsY.later g).lt
    simp at hsYc0 hsYc1 hsYc2 hsYc3 hsYc4 hsYc5 hsYc6 hsYc7 hsYc8 hsYc9
    refine Later.tail 14 (by kernel_rfl) (by kernel_rfl) ?_
    simp only [List.take_succ_cons, List.take_zero, List.drop_succ_cons, List.drop_zero]
    repeat (first | go_big_quiet_skip | (go_big_quiet_want; go_big_quiet_op; first | go_big_quiet_on | (apply Exists.intro; refine ⟨fun g_ => ?_, ?_⟩; (focus (first | (go_at_call 55; exact Later.call (f_plus _ _ _ _ _ (by omega) (by omega) (by omega) (by omega))))); go_big_quiet_on)))
    refine wpQuiet_nil ?_
    intro gi
    refine wpList_plain rfl fun K1 hK1 => ?_
    have q1 := hsY.later gi
    clear x0c0 x0f0 x0c1 x0f1 x0l r0c0 r0f0 r0c1 r0f1 r0c2 r0f2 r0c3 r0f3 r0l hsYc0 hsYf0 hsYc1 hsYf1 hsYc2 hsYf2 hsYc3 hsYf3 hsYc4 hsYf4 hsYc5 hsYf5 hsYc6 hsYf6 hsYc7 hsYf7 hsYc8 hsYf8 hsYc9 hsYf9 hsYl
    have q1c0 := q1.cell 0
    have q1f0 := q1.free 0
    have q1c1 := q1.cell 1
    have q1f1 := q1.free 1
    have q1c2 := q1.cell 2
    have q1f2 := q1.free 2
    have q1c3 := q1.cell 3
    have q1f3 := q1.free 3
    have q1c4 := q1.cell 4
    have q1f4 := q1.free 4
    have q1c5 := q1.cell 5
    have q1f5 := q1.free 5
    have q1c6 := q1.cell 6
    have q1f6 := q1.free 6
    have q1c7 := q1.cell 7
    have q1f7 := q1.free 7
    have q1c8 := q1.cell 8
    have q1f8 := q1.free 8
    have q1c9 := q1.cell 9
    have q1f9 := q1.free 9
    have q1l := q1.lt
    simp at q1c0 q1c1 q1c2 q1c3 q1c4 q1c5 q1c6 q1c7 q1c8 q1c9
    go_wp2
    go_end0
    refine ⟨rfl, ⟨hB, ?_, ?_⟩, ?_⟩
    · exact ((q1.set 8 (.int .i64 (p.pH + S / 50))).set 9 (.int .i64 (p.pA + (d.n - S)))).cast (by simp [plantCells, purifyP, lessP, HAT.out, HSS.out])
    · have q := ((hmY.keep gi.ok).other q1 (by decide) (o := 8) (.int .i64 (p.pH + S / 50))).other (q1.set 8 (.int .i64 (p.pH + S / 50))) (by decide) (o := 9) (.int .i64 (p.pA + (d.n - S)))
      simpa [purifyP, lessP, HAT.out] using q
    · exact ((hbY.trans (gi.ok.mono (by omega))).setCell hB _).setCell hB _

end Go.Proofs.YtamnnjdfjffhlaaGreatDoor

/-
  Moving gas from a cell to another one.
-/
namespace Go.Proofs.YtamnnjdfjffhlaaGreatDoor
open Go.RowKit Bal Bal.Trim Bal.Gas
set_option linter.unusedVariables false
set_option linter.unusedSimpArgs false
set_option maxHeartbeats 4000000
set_option maxRecDepth 10000

theorem f_move_no1 {B s cp : Nat} {ad : Option Addr} {p : Plant} {w : World} (d : Deed) (h : Shop 37 77 B w s ad cp p) (hp : plantB p = true) (ha : argB p d = false) : Calls Tryz.prog 23 #[.pointer (some ⟨s, 0, none⟩), .agg #[.int .u8 d.kind, .int .i64 d.cell, .int .i64 d.to, .int .i64 d.n]] w fun e w' => e = .panicked [{ v := refusal 2, recovered := false }] ∧ Kept w w' := by
  have hn12 : p.cells.length ≤ 12 := (plantB_iff.1 hp).1
  have HA := Lib.hid ha
  obtain ⟨hB, hs, hm⟩ := h
  clear ha hp
  go_enter Tryz.func23, Tryz.ntmps23
  go_wp2_with (first | (go_at_call 57; (with_reducible refine (f_cell_no s ad cp p d _ (hs.keep (by (exact kpt))) hn12 HA.out).mono ?_); rintro e w1 ⟨rfl, hb1⟩))
  exact ⟨rfl, rfl, by (exact kpt)⟩
theorem f_move_no2 {B s cp : Nat} {ad : Option Addr} {p : Plant} {w : World} (d : Deed) (h : Shop 37 77 B w s ad cp p) (hp : plantB p = true) (ha : argB p d = true) (ht : rng [d.to] 0 (p.cells.length - 1) = false) : Calls Tryz.prog 23 #[.pointer (some ⟨s, 0, none⟩), .agg #[.int .u8 d.kind, .int .i64 d.cell, .int .i64 d.to, .int .i64 d.n]] w fun e w' => e = .panicked [{ v := refusal 2, recovered := false }] ∧ Kept w w' := by
  have hn12 : p.cells.length ≤ 12 := (plantB_iff.1 hp).1
  have hb := plantB_iff.1 hp
  have hi : d.cell.toNat < p.cells.length := by
    have h1 : rng [d.cell] 0 (p.cells.length - 1) = true := by unfold argB at ha; simp only [Bool.and_eq_true] at ha; exact ha.1
    have : 0 ≤ d.cell ∧ d.cell ≤ p.cells.length - 1 := by simpa [rng, inB] using h1
    omega
  have hn : 1 ≤ d.n ∧ d.n ≤ 10000000 := by
    have h1 : rng [d.n] 1 10000000 = true := by unfold argB at ha; simp only [Bool.and_eq_true] at ha; exact ha.2
    simpa [rng, inB] using h1
  have hcv : cellB p.cells[d.cell.toNat] = true := hb.2.2.2.2.2.2.1 _ (List.getElem_mem hi)
  have hat : at_ p d = p.cells[d.cell.toNat] := cellAt_get hi
  have HA := Lib.hid ha
  obtain ⟨hB, hs, hm⟩ := h
  have hBw : B ≤ w.heap.size := by have := hs.lt; omega
  obtain ⟨g, _, rfl, hBg, hbg, _⟩ := hm.at hi
  have hgl := hbg.lt
  clear hbg
  obtain ⟨x, hx⟩ : ∃ x, x = p.cells[d.cell.toNat] := ⟨_, rfl⟩
  have HX := Lib.hid (show p.cells[d.cell.toNat]? = some x by rw [hx]; simp [hi])
  rw [← hx] at hcv hat
  have hxb := cellB_iff.1 hcv
  have HAT := Lib.hid hat
  have HXX := Lib.hid hx
  clear ha hat hx
  have HT := Lib.hid ht
  clear hp hb ht
  have hwl := i64_inx (n := (p.cells.length : Int) - 1) (by omega)
  go_enter Tryz.func23, Tryz.ntmps23
  go_upto_region 2 with (first | (go_at_call 57; (with_reducible refine (f_cell_ok s g cp p d _ (hs.keep (by (exact kpt))) hn12 HA.out).mono ?_); rintro e w1 ⟨rfl, hb1⟩; refine Blk.thru (b := w.heap.size) (arr := ?_) (t := ?_) ?_ hb1 ?_; rotate_left 2; (focus (exact blk)); intro rr; have rrc0 := rr.cell 0; have rrf0 := rr.free 0; have rrc1 := rr.cell 1; have rrf1 := rr.free 1; have rrc2 := rr.cell 2; have rrf2 := rr.free 2; have rrc3 := rr.cell 3; have rrf3 := rr.free 3; have rrl := rr.lt; simp at rrc0 rrc1 rrc2 rrc3; obtain ⟨hc1, hf1, hl1⟩ := bcell3 hb1))
  refine at_world (S := fun W => Blk W w.heap.size #[.int .u8 d.kind, .int .i64 d.cell, .int .i64 d.to, .int .i64 d.n] 44 ∧ Blk W s #[.slice (some ⟨g, 0, none⟩) p.cells.length cp, .int .i64 (p.bottles), .int .i64 (p.inH), .int .i64 (p.inA), .int .i64 (p.vH), .int .i64 (p.vA), .int .i64 (p.lH), .int .i64 (p.lA), .int .i64 (p.pH), .int .i64 (p.pA)] 77 ∧ Mine 37 B W (.slice (some ⟨g, 0, none⟩) p.cells.length cp) p.cells ∧ Kept w W) ⟨by (exact blkc), hs.keep (by (exact kpt)), hm.keep (by (exact kpt)), by (exact kpt)⟩ ?_
  rintro W ⟨r0, hsW, hmW, hk⟩
  clear hc1 hf1 hl1
  refine held_walk (fun w' => Blk w' s #[.slice (some ⟨g, 0, none⟩) p.cells.length cp, .int .i64 (p.bottles), .int .i64 (p.inH), .int .i64 (p.inA), .int .i64 (p.vH), .int .i64 (p.vA), .int .i64 (p.lH), .int .i64 (p.lA), .int .i64 (p.pH), .int .i64 (p.pA)] 77 ∧ Blk w' w.heap.size #[.int .u8 d.kind, .int .i64 d.cell, .int .i64 d.to, .int .i64 d.n] 44) [(true, 0), (true, 1), (true, 2), (true, 3), (true, 4), (true, 5), (true, 6), (true, 7), (true, 8), (false, 9), (false, 10), (true, 11), (true, 12), (true, 13), (true, 14), (true, 15), (true, 16), (true, 17), (false, 18)] 18 (by kernel_rfl) (by kernel_rfl) (fun c a d v w h => by cases d <;> exact h) ⟨hsW.drew, r0.drew⟩ ?_
  simp only [List.filterMap_cons, List.filterMap_nil, List.getElem?_cons_zero, List.getElem?_cons_succ, Option.map_some]
  iterate 9 ((first | (refine held_take ?_ ?_ (fun w' hS => ?_) ?_; rotate_left 1; (focus rfl); (focus (first | (go_simp; done) | (go_simp; with_reducible rfl) | (obtain ⟨S1, S2⟩ := hS; have k0 := S1.cell 0; have k1 := S1.cell 1; have k2 := S1.cell 2; have k3 := S1.cell 3; have k4 := S1.cell 4; have k5 := S1.cell 5; have k6 := S1.cell 6; have k7 := S1.cell 7; have k8 := S1.cell 8; have k9 := S1.cell 9; have j0 := S2.cell 0; have j1 := S2.cell 1; have j2 := S2.cell 2; have j3 := S2.cell 3; simp at k0 k1 k2 k3 k4 k5 k6 k7 k8 k9 j0 j1 j2 j3; first | (go_simp; done) | (go_simp; with_reducible rfl))))) | (refine held_pass ?_ ?_; (focus rfl))); simp only [Act.put, List.setIfInBounds_toArray, List.set_cons_zero, List.set_cons_succ])
  refine held_one ?_
  refine wpList_plain rfl fun K1 hK1 => ?_
  go_wp2
  refine held_on ⟨by (repeat (first | with_reducible assumption | with_reducible refine Blk.drew ?_ | with_reducible refine Blk.alloc ?_ _ | (with_reducible refine Besides.blk hbes2 (by decide) ?_) | with_reducible refine Blk.keep ?_ (by with_reducible assumption))), by (repeat (first | with_reducible assumption | with_reducible refine Blk.drew ?_ | with_reducible refine Blk.alloc ?_ _ | (with_reducible refine Besides.blk hbes2 (by decide) ?_) | with_reducible refine Blk.keep ?_ (by with_reducible assumption)))⟩ ?_
  refine held_one ?_
  refine wpList_plain rfl fun K1 hK1 => ?_
  go_wp2_with (go_at_call 28; (with_reducible refine (f_ranged1B _ _ d.to _ _ ?_).mono ?_); (focus ((repeat with_reducible refine Blk.drew ?_); exact Blk.new' (by first | rfl | (simp; done)))); rw [HT.out]; rintro e w1 ⟨rfl, rfl⟩)
  refine held_on ⟨by (repeat (first | with_reducible assumption | with_reducible refine Blk.drew ?_ | with_reducible refine Blk.alloc ?_ _ | (with_reducible refine Besides.blk hbes2 (by decide) ?_) | with_reducible refine Blk.keep ?_ (by with_reducible assumption))), by (repeat (first | with_reducible assumption | with_reducible refine Blk.drew ?_ | with_reducible refine Blk.alloc ?_ _ | (with_reducible refine Besides.blk hbes2 (by decide) ?_) | with_reducible refine Blk.keep ?_ (by with_reducible assumption)))⟩ ?_
  iterate 7 ((first | (refine held_take ?_ ?_ (fun w' hS => ?_) ?_; rotate_left 1; (focus rfl); (focus (first | (go_simp; done) | (go_simp; with_reducible rfl) | (obtain ⟨S1, S2⟩ := hS; have k0 := S1.cell 0; have k1 := S1.cell 1; have k2 := S1.cell 2; have k3 := S1.cell 3; have k4 := S1.cell 4; have k5 := S1.cell 5; have k6 := S1.cell 6; have k7 := S1.cell 7; have k8 := S1.cell 8; have k9 := S1.cell 9; have j0 := S2.cell 0; have j1 := S2.cell 1; have j2 := S2.cell 2; have j3 := S2.cell 3; simp at k0 k1 k2 k3 k4 k5 k6 k7 k8 k9 j0 j1 j2 j3; first | (go_simp; done) | (go_simp; with_reducible rfl))))) | (refine held_pass ?_ ?_; (focus rfl))); simp only [Act.put, List.setIfInBounds_toArray, List.set_cons_zero, List.set_cons_succ])
  refine held_one ?_
  refine wpList_plain rfl fun K1 hK1 => ?_
  go_wp2_with (first | (go_at_call 27; (with_reducible refine (f_need_no _ _).mono ?_); rintro e w1 ⟨rfl, rfl⟩))
  (first | refine onward_panic ?_ | skip)
  exact ⟨rfl, rfl, by (exact kpt)⟩
theorem f_move_no3 {B s cp : Nat} {ad : Option Addr} {p : Plant} {w : World} (d : Deed) (h : Shop 37 77 B w s ad cp p) (hp : plantB p = true) (ha : argB p d = true) (ht : rng [d.to] 0 (p.cells.length - 1) = true) (he : d.to = d.cell) : Calls Tryz.prog 23 #[.pointer (some ⟨s, 0, none⟩), .agg #[.int .u8 d.kind, .int .i64 d.cell, .int .i64 d.to, .int .i64 d.n]] w fun e w' => e = .panicked [{ v := refusal 2, recovered := false }] ∧ Kept w w' := by
  have hn12 : p.cells.length ≤ 12 := (plantB_iff.1 hp).1
  have hb := plantB_iff.1 hp
  have hi : d.cell.toNat < p.cells.length := by
    have h1 : rng [d.cell] 0 (p.cells.length - 1) = true := by unfold argB at ha; simp only [Bool.and_eq_true] at ha; exact ha.1
    have : 0 ≤ d.cell ∧ d.cell ≤ p.cells.length - 1 := by simpa [rng, inB] using h1
    omega
  have hn : 1 ≤ d.n ∧ d.n ≤ 10000000 := by
    have h1 : rng [d.n] 1 10000000 = true := by unfold argB at ha; simp only [Bool.and_eq_true] at ha; exact ha.2
    simpa [rng, inB] using h1
  have hcv : cellB p.cells[d.cell.toNat] = true := hb.2.2.2.2.2.2.1 _ (List.getElem_mem hi)
  have hat : at_ p d = p.cells[d.cell.toNat] := cellAt_get hi
  have HA := Lib.hid ha
  obtain ⟨hB, hs, hm⟩ := h
  have hBw : B ≤ w.heap.size := by have := hs.lt; omega
  obtain ⟨g, _, rfl, hBg, hbg, _⟩ := hm.at hi
  have hgl := hbg.lt
  clear hbg
  obtain ⟨x, hx⟩ : ∃ x, x = p.cells[d.cell.toNat] := ⟨_, rfl⟩
  have HX := Lib.hid (show p.cells[d.cell.toNat]? = some x by rw [hx]; simp [hi])
  rw [← hx] at hcv hat
  have hxb := cellB_iff.1 hcv
  have HAT := Lib.hid hat
  have HXX := Lib.hid hx
  clear ha hat hx
  have hto : 0 ≤ d.to ∧ d.to ≤ p.cells.length - 1 := by simpa [rng, inB] using ht
  have HT := Lib.hid ht
  have hne : (d.to == d.cell) = true := by simp [he]
  have hne' : (d.to != d.cell) = false := by simp [he]
  have hne'' : decide (d.to = d.cell) = true := by simp [he]
  clear hp hb ht he
  have hwl := i64_inx (n := (p.cells.length : Int) - 1) (by omega)
  go_enter Tryz.func23, Tryz.ntmps23
  go_upto_region 2 with (first | (go_at_call 57; (with_reducible refine (f_cell_ok s g cp p d _ (hs.keep (by (exact kpt))) hn12 HA.out).mono ?_); rintro e w1 ⟨rfl, hb1⟩; refine Blk.thru (b := w.heap.size) (arr := ?_) (t := ?_) ?_ hb1 ?_; rotate_left 2; (focus (exact blk)); intro rr; have rrc0 := rr.cell 0; have rrf0 := rr.free 0; have rrc1 := rr.cell 1; have rrf1 := rr.free 1; have rrc2 := rr.cell 2; have rrf2 := rr.free 2; have rrc3 := rr.cell 3; have rrf3 := rr.free 3; have rrl := rr.lt; simp at rrc0 rrc1 rrc2 rrc3; obtain ⟨hc1, hf1, hl1⟩ := bcell3 hb1))
  refine at_world (S := fun W => Blk W w.heap.size #[.int .u8 d.kind, .int .i64 d.cell, .int .i64 d.to, .int .i64 d.n] 44 ∧ Blk W s #[.slice (some ⟨g, 0, none⟩) p.cells.length cp, .int .i64 (p.bottles), .int .i64 (p.inH), .int .i64 (p.inA), .int .i64 (p.vH), .int .i64 (p.vA), .int .i64 (p.lH), .int .i64 (p.lA), .int .i64 (p.pH), .int .i64 (p.pA)] 77 ∧ Mine 37 B W (.slice (some ⟨g, 0, none⟩) p.cells.length cp) p.cells ∧ Kept w W) ⟨by (exact blkc), hs.keep (by (exact kpt)), hm.keep (by (exact kpt)), by (exact kpt)⟩ ?_
  rintro W ⟨r0, hsW, hmW, hk⟩
  clear hc1 hf1 hl1
  refine held_walk (fun w' => Blk w' s #[.slice (some ⟨g, 0, none⟩) p.cells.length cp, .int .i64 (p.bottles), .int .i64 (p.inH), .int .i64 (p.inA), .int .i64 (p.vH), .int .i64 (p.vA), .int .i64 (p.lH), .int .i64 (p.lA), .int .i64 (p.pH), .int .i64 (p.pA)] 77 ∧ Blk w' w.heap.size #[.int .u8 d.kind, .int .i64 d.cell, .int .i64 d.to, .int .i64 d.n] 44) [(true, 0), (true, 1), (true, 2), (true, 3), (true, 4), (true, 5), (true, 6), (true, 7), (true, 8), (false, 9), (false, 10), (true, 11), (true, 12), (true, 13), (true, 14), (true, 15), (true, 16), (true, 17), (false, 18)] 18 (by kernel_rfl) (by kernel_rfl) (fun c a d v w h => by cases d <;> exact h) ⟨hsW.drew, r0.drew⟩ ?_
  simp only [List.filterMap_cons, List.filterMap_nil, List.getElem?_cons_zero, List.getElem?_cons_succ, Option.map_some]
  iterate 9 ((first | (refine held_take ?_ ?_ (fun w' hS => ?_) ?_; rotate_left 1; (focus rfl); (focus (first | (go_simp; done) | (go_simp; with_reducible rfl) | (obtain ⟨S1, S2⟩ := hS; have k0 := S1.cell 0; have k1 := S1.cell 1; have k2 := S1.cell 2; have k3 := S1.cell 3; have k4 := S1.cell 4; have k5 := S1.cell 5; have k6 := S1.cell 6; have k7 := S1.cell 7; have k8 := S1.cell 8; have k9 := S1.cell 9; have j0 := S2.cell 0; have j1 := S2.cell 1; have j2 := S2.cell 2; have j3 := S2.cell 3; simp at k0 k1 k2 k3 k4 k5 k6 k7 k8 k9 j0 j1 j2 j3; first | (go_simp; done) | (go_simp; with_reducible rfl))))) | (refine held_pass ?_ ?_; (focus rfl))); simp only [Act.put, List.setIfInBounds_toArray, List.set_cons_zero, List.set_cons_succ])
  refine held_one ?_
  refine wpList_plain rfl fun K1 hK1 => ?_
  go_wp2
  refine held_on ⟨by (repeat (first | with_reducible assumption | with_reducible refine Blk.drew ?_ | with_reducible refine Blk.alloc ?_ _ | (with_reducible refine Besides.blk hbes2 (by decide) ?_) | with_reducible refine Blk.keep ?_ (by with_reducible assumption))), by (repeat (first | with_reducible assumption | with_reducible refine Blk.drew ?_ | with_reducible refine Blk.alloc ?_ _ | (with_reducible refine Besides.blk hbes2 (by decide) ?_) | with_reducible refine Blk.keep ?_ (by with_reducible assumption)))⟩ ?_
  refine held_one ?_
  refine wpList_plain rfl fun K1 hK1 => ?_
  go_wp2_with (go_at_call 28; (with_reducible refine (f_ranged1B _ _ d.to _ _ ?_).mono ?_); (focus ((repeat with_reducible refine Blk.drew ?_); exact Blk.new' (by first | rfl | (simp; done)))); rw [HT.out]; rintro e w1 ⟨rfl, rfl⟩)
  refine held_on ⟨by (repeat (first | with_reducible assumption | with_reducible refine Blk.drew ?_ | with_reducible refine Blk.alloc ?_ _ | (with_reducible refine Besides.blk hbes2 (by decide) ?_) | with_reducible refine Blk.keep ?_ (by with_reducible assumption))), by (repeat (first | with_reducible assumption | with_reducible refine Blk.drew ?_ | with_reducible refine Blk.alloc ?_ _ | (with_reducible refine Besides.blk hbes2 (by decide) ?_) | with_reducible refine Blk.keep ?_ (by with_reducible assumption)))⟩ ?_
  iterate 7 ((first | (refine held_take ?_ ?_ (fun w' hS => ?_) ?_; rotate_left 1; (focus rfl); (focus (first | (go_simp; done) | (go_simp; with_reducible rfl) | (obtain ⟨S1, S2⟩ := hS; have k0 := S1.cell 0; have k1 := S1.cell 1; have k2 := S1.cell 2; have k3 := S1.cell 3; have k4 := S1.cell 4; have k5 := S1.cell 5; have k6 := S1.cell 6; have k7 := S1.cell 7; have k8 := S1.cell 8; have k9 := S1.cell 9; have j0 := S2.cell 0; have j1 := S2.cell 1; have j2 := S2.cell 2; have j3 := S2.cell 3; simp at k0 k1 k2 k3 k4 k5 k6 k7 k8 k9 j0 j1 j2 j3; first | (go_simp; done) | (go_simp; with_reducible rfl))))) | (refine held_pass ?_ ?_; (focus rfl))); simp only [Act.put, List.setIfInBounds_toArray, List.set_cons_zero, List.set_cons_succ])
  refine held_one ?_
  refine wpList_plain rfl fun K1 hK1 => ?_
  go_wp2_with (first | (go_at_call 27; (with_reducible refine (f_need_no _ _).mono ?_); rintro e w1 ⟨rfl, rfl⟩))
  (first | refine onward_panic ?_ | skip)
  exact ⟨rfl, rfl, by (exact kpt)⟩

theorem f_move_no4 {B s cp : Nat} {ad : Option Addr} {p : Plant} {w : World} (d : Deed) (h : Shop 37 77 B w s ad cp p) (hp : plantB p = true) (ha : argB p d = true) (ht : rng [d.to] 0 (p.cells.length - 1) = true) (he : d.to ≠ d.cell) (hl : amount (at_ p d) < d.n) : Calls Tryz.prog 23 #[.pointer (some ⟨s, 0, none⟩), .agg #[.int .u8 d.kind, .int .i64 d.cell, .int .i64 d.to, .int .i64 d.n]] w fun e w' => e = .panicked [{ v := refusal 6, recovered := false }] ∧ Kept w w' := by
  have hn12 : p.cells.length ≤ 12 := (plantB_iff.1 hp).1
  have hb := plantB_iff.1 hp
  have hi : d.cell.toNat < p.cells.length := by
    have h1 : rng [d.cell] 0 (p.cells.length - 1) = true := by unfold argB at ha; simp only [Bool.and_eq_true] at ha; exact ha.1
    have : 0 ≤ d.cell ∧ d.cell ≤ p.cells.length - 1 := by simpa [rng, inB] using h1
    omega
  have hn : 1 ≤ d.n ∧ d.n ≤ 10000000 := by
    have h1 : rng [d.n] 1 10000000 = true := by unfold argB at ha; simp only [Bool.and_eq_true] at ha; exact ha.2
    simpa [rng, inB] using h1
  have hcv : cellB p.cells[d.cell.toNat] = true := hb.2.2.2.2.2.2.1 _ (List.getElem_mem hi)
  have hat : at_ p d = p.cells[d.cell.toNat] := cellAt_get hi
  have HA := Lib.hid ha
  obtain ⟨hB, hs, hm⟩ := h
  have hBw : B ≤ w.heap.size := by have := hs.lt; omega
  obtain ⟨g, _, rfl, hBg, hbg, _⟩ := hm.at hi
  have hgl := hbg.lt
  clear hbg
  obtain ⟨x, hx⟩ : ∃ x, x = p.cells[d.cell.toNat] := ⟨_, rfl⟩
  have HX := Lib.hid (show p.cells[d.cell.toNat]? = some x by rw [hx]; simp [hi])
  rw [← hx] at hcv hat
  have hxb := cellB_iff.1 hcv
  have HAT := Lib.hid hat
  have HXX := Lib.hid hx
  clear ha hat hx
  have hto : 0 ≤ d.to ∧ d.to ≤ p.cells.length - 1 := by simpa [rng, inB] using ht
  have HT := Lib.hid ht
  have hlt : x.helium + x.air < d.n := by rw [HAT.out] at hl; exact hl
  have HOK := Lib.hid (okC_of hcv)
  clear hp hb hl
  have hne0 : (d.to == d.cell) = false := by simp [he]
  have hne' : (d.to != d.cell) = true := by simp [he]
  have hne'' : decide (d.to = d.cell) = false := by simp [he]
  clear ht he
  have hwl := i64_inx (n := (p.cells.length : Int) - 1) (by omega)
  go_enter Tryz.func23, Tryz.ntmps23
  go_upto_region 2 with (first | (go_at_call 57; (with_reducible refine (f_cell_ok s g cp p d _ (hs.keep (by (exact kpt))) hn12 HA.out).mono ?_); rintro e w1 ⟨rfl, hb1⟩; refine Blk.thru (b := w.heap.size) (arr := ?_) (t := ?_) ?_ hb1 ?_; rotate_left 2; (focus (exact blk)); intro rr; have rrc0 := rr.cell 0; have rrf0 := rr.free 0; have rrc1 := rr.cell 1; have rrf1 := rr.free 1; have rrc2 := rr.cell 2; have rrf2 := rr.free 2; have rrc3 := rr.cell 3; have rrf3 := rr.free 3; have rrl := rr.lt; simp at rrc0 rrc1 rrc2 rrc3; obtain ⟨hc1, hf1, hl1⟩ := bcell3 hb1))
  refine at_world (S := fun W => Blk W w.heap.size #[.int .u8 d.kind, .int .i64 d.cell, .int .i64 d.to, .int .i64 d.n] 44 ∧ Blk W s #[.slice (some ⟨g, 0, none⟩) p.cells.length cp, .int .i64 (p.bottles), .int .i64 (p.inH), .int .i64 (p.inA), .int .i64 (p.vH), .int .i64 (p.vA), .int .i64 (p.lH), .int .i64 (p.lA), .int .i64 (p.pH), .int .i64 (p.pA)] 77 ∧ Mine 37 B W (.slice (some ⟨g, 0, none⟩) p.cells.length cp) p.cells ∧ Kept w W) ⟨by (exact blkc), hs.keep (by (exact kpt)), hm.keep (by (exact kpt)), by (exact kpt)⟩ ?_
  rintro W ⟨r0, hsW, hmW, hk⟩
  clear hc1 hf1 hl1
  refine held_walk (fun w' => Blk w' s #[.slice (some ⟨g, 0, none⟩) p.cells.length cp, .int .i64 (p.bottles), .int .i64 (p.inH), .int .i64 (p.inA), .int .i64 (p.vH), .int .i64 (p.vA), .int .i64 (p.lH), .int .i64 (p.lA), .int .i64 (p.pH), .int .i64 (p.pA)] 77 ∧ Blk w' w.heap.size #[.int .u8 d.kind, .int .i64 d.cell, .int .i64 d.to, .int .i64 d.n] 44) [(true, 0), (true, 1), (true, 2), (true, 3), (true, 4), (true, 5), (true, 6), (true, 7), (true, 8), (false, 9), (false, 10), (true, 11), (true, 12), (true, 13), (true, 14), (true, 15), (true, 16), (true, 17), (false, 18)] 18 (by kernel_rfl) (by kernel_rfl) (fun c a d v w h => by cases d <;> exact h) ⟨hsW.drew, r0.drew⟩ ?_
  simp only [List.filterMap_cons, List.filterMap_nil, List.getElem?_cons_zero, List.getElem?_cons_succ, Option.map_some]
  iterate 9 ((first | (refine held_take ?_ ?_ (fun w' hS => ?_) ?_; rotate_left 1; (focus rfl); (focus (first | (go_simp; done) | (go_simp; with_reducible rfl) | (obtain ⟨S1, S2⟩ := hS; have k0 := S1.cell 0; have k1 := S1.cell 1; have k2 := S1.cell 2; have k3 := S1.cell 3; have k4 := S1.cell 4; have k5 := S1.cell 5; have k6 := S1.cell 6; have k7 := S1.cell 7; have k8 := S1.cell 8; have k9 := S1.cell 9; have j0 := S2.cell 0; have j1 := S2.cell 1; have j2 := S2.cell 2; have j3 := S2.cell 3; simp at k0 k1 k2 k3 k4 k5 k6 k7 k8 k9 j0 j1 j2 j3; first | (go_simp; done) | (go_simp; with_reducible rfl))))) | (refine held_pass ?_ ?_; (focus rfl))); simp only [Act.put, List.setIfInBounds_toArray, List.set_cons_zero, List.set_cons_succ])
  refine held_one ?_
  refine wpList_plain rfl fun K1 hK1 => ?_
  go_wp2
  refine held_on ⟨by (repeat (first | with_reducible assumption | with_reducible refine Blk.drew ?_ | with_reducible refine Blk.alloc ?_ _ | (with_reducible refine Besides.blk hbes2 (by decide) ?_) | with_reducible refine Blk.keep ?_ (by with_reducible assumption))), by (repeat (first | with_reducible assumption | with_reducible refine Blk.drew ?_ | with_reducible refine Blk.alloc ?_ _ | (with_reducible refine Besides.blk hbes2 (by decide) ?_) | with_reducible refine Blk.keep ?_ (by with_reducible assumption)))⟩ ?_
  refine held_one ?_
  refine wpList_plain rfl fun K1 hK1 => ?_
  go_wp2_with (go_at_call 28; (with_reducible refine (f_ranged1B _ _ d.to _ _ ?_).mono ?_); (focus ((repeat with_reducible refine Blk.drew ?_); exact Blk.new' (by first | rfl | (simp; done)))); rw [HT.out]; rintro e w1 ⟨rfl, rfl⟩)
  refine held_on ⟨by (repeat (first | with_reducible assumption | with_reducible refine Blk.drew ?_ | with_reducible refine Blk.alloc ?_ _ | (with_reducible refine Besides.blk hbes2 (by decide) ?_) | with_reducible refine Blk.keep ?_ (by with_reducible assumption))), by (repeat (first | with_reducible assumption | with_reducible refine Blk.drew ?_ | with_reducible refine Blk.alloc ?_ _ | (with_reducible refine Besides.blk hbes2 (by decide) ?_) | with_reducible refine Blk.keep ?_ (by with_reducible assumption)))⟩ ?_
  iterate 7 ((first | (refine held_take ?_ ?_ (fun w' hS => ?_) ?_; rotate_left 1; (focus rfl); (focus (first | (go_simp; done) | (go_simp; with_reducible rfl) | (obtain ⟨S1, S2⟩ := hS; have k0 := S1.cell 0; have k1 := S1.cell 1; have k2 := S1.cell 2; have k3 := S1.cell 3; have k4 := S1.cell 4; have k5 := S1.cell 5; have k6 := S1.cell 6; have k7 := S1.cell 7; have k8 := S1.cell 8; have k9 := S1.cell 9; have j0 := S2.cell 0; have j1 := S2.cell 1; have j2 := S2.cell 2; have j3 := S2.cell 3; simp at k0 k1 k2 k3 k4 k5 k6 k7 k8 k9 j0 j1 j2 j3; first | (go_simp; done) | (go_simp; with_reducible rfl))))) | (refine held_pass ?_ ?_; (focus rfl))); simp only [Act.put, List.setIfInBounds_toArray, List.set_cons_zero, List.set_cons_succ])
  refine held_one ?_
  refine wpList_plain rfl fun K1 hK1 => ?_
  go_wp2_with (first | (go_at_call 27; (with_reducible refine (f_need_ok _ _).mono ?_); rintro e w1 ⟨rfl, rfl⟩))
  (first | refine held_end ?_ | (refine onward_on ?_; first | refine held_nil ?_ | refine ⟨.inl trivial, held_nil ?_⟩ | refine ⟨.inl rfl, held_nil ?_⟩))
  go_wp2
  refine at_world (S := fun X => Blk X w.heap.size #[.int .u8 d.kind, .int .i64 d.cell, .int .i64 d.to, .int .i64 d.n] 44 ∧ Blk X s #[.slice (some ⟨g, 0, none⟩) p.cells.length cp, .int .i64 (p.bottles), .int .i64 (p.inH), .int .i64 (p.inA), .int .i64 (p.vH), .int .i64 (p.vA), .int .i64 (p.lH), .int .i64 (p.lA), .int .i64 (p.pH), .int .i64 (p.pA)] 77 ∧ Mine 37 B X (.slice (some ⟨g, 0, none⟩) p.cells.length cp) p.cells ∧ Kept w X) ⟨by (repeat (first | with_reducible assumption | with_reducible refine Blk.drew ?_ | with_reducible refine Blk.alloc ?_ _ | (with_reducible refine Besides.blk hbes2 (by decide) ?_) | with_reducible refine Blk.keep ?_ (by with_reducible assumption))), by (repeat (first | with_reducible assumption | with_reducible refine Blk.drew ?_ | with_reducible refine Blk.alloc ?_ _ | (with_reducible refine Besides.blk hbes2 (by decide) ?_) | with_reducible refine Blk.keep ?_ (by with_reducible assumption))), by (repeat (first | with_reducible assumption | with_reducible refine Mine.drew ?_ | with_reducible refine Mine.alloc ?_ _)), by (exact kpt)⟩ ?_
  rintro X ⟨r0, hsX, hmX, hkX⟩
  have hi0 : (0 : Int) ≤ d.to := hto.1
  have hi1 : d.to < (p.cells.length : Int) := by omega
  have r0c0 := fun g : Later X => (r0.later g).cell 0
  have r0f0 := fun g : Later X => (r0.later g).free 0
  have r0c1 := fun g : Later X => (r0.later g).cell 1
  have r0f1 := fun g : Later X => (r0.later g).free 1
  have r0c2 := fun g : Later X => (r0.later g).cell 2
  have r0f2 := fun g : Later X => (r0.later g).free 2
  have r0c3 := fun g : Later X => (r0.later g).cell 3
  have r0f3 := fun g : Later X => (r0.later g).free 3
  have r0l := fun g : Later X => (r0.later g).lt
  simp at r0c0 r0c1 r0c2 r0c3
  have hsXc0 := fun g : Later X => (hsX.later g).cell 0
  have hsXf0 := fun g : Later X => (hsX.later g).free 0
  have hsXc1 := fun g : Later X => (hsX.later g).cell 1
  have hsXf1 := fun g : Later X => (hsX.later g).free 1
  have hsXc2 := fun g : Later X => (hsX.later g).cell 2
  have hsXf2 := fun g : Later X => (hsX.later g).free 2
  have hsXc3 := fun g : Later X => (hsX.later g).cell 3
  have hsXf3 := fun g : Later X => (hsX.later g).free 3
  have hsXc4 := fun g : Later X => (hsX.later g).cell 4
  have hsXf4 := fun g : Later X => (hsX.later g).free 4
  have hsXc5 := fun g : Later X => (hsX.later g).cell 5
  have hsXf5 := fun g : Later X => (hsX.later g).free 5
  have hsXc6 := fun g : Later X => (hsX.later g).cell 6
  have hsXf6 := fun g : Later X => (hsX.later g).free 6
  have hsXc7 := fun g : Later X => (hsX.later g).cell 7
  have hsXf7 := fun g : Later X => (hsX.later g).free 7
  have hsXc8 := fun g : Later X => (hsX.later g).cell 8
  have hsXf8 := fun g : Later X => (hsX.later g).free 8
  have hsXc9 := fun g : Later X => (hsX.later g).cell 9
  have hsXf9 := fun g : Later X => (hsX.later g).free 9
  have hsXl := fun g : Later X => (hsX.later g).lt
  simp at hsXc0 hsXc1 hsXc2 hsXc3 hsXc4 hsXc5 hsXc6 hsXc7 hsXc8 hsXc9
  refine later_dies [0, 1, 2, 4, 5, 6, 7, 8, 9, 10, 11] 3 (some 12) (by kernel_rfl) (by kernel_rfl) (fun c a d v w h => by cases d <;> exact h) (makes_pair rfl rfl rfl) ?_
  simp only [List.filterMap_cons, List.filterMap_nil, List.getElem?_cons_zero, List.getElem?_cons_succ, List.map_cons, List.map_nil]
  repeat (refine wpSteps_quiet ?_; (first | go_big_quiet_skip | (go_big_quiet_want; go_big_quiet_op; first | go_big_quiet_on | (apply Exists.intro; refine ⟨fun g_ => ?_, ?_⟩; (focus (first | fail)); go_big_quiet_on))); refine wpQuiet_nil ?_)
  refine wpSteps_nil ?_
  refine ⟨DiesAt.of rfl rfl (fun w' hw' => ?_), fun _ oq hq ho v => ?_⟩
  · obtain ⟨gg, rfl⟩ := hw'
    simp only [Go.wp_at_succ, Go.wp_at_zero]
    go_simp
    (with_reducible refine (f_outX_none (hmX.keep gg.ok) HX.out HOK.out d.n hlt).mono ?_)
    rintro e w1 ⟨rfl, hb1⟩
    have hkg := Kept.drop hkX gg.ok
    exact ⟨rfl, rfl, by (exact kpt)⟩
  · cases hq
    obtain rfl : _ = oq := Option.some.inj ho
    simp only [Act.put, List.setIfInBounds_toArray, List.set_cons_zero, List.set_cons_succ]
    refine DiesAt.of rfl rfl (fun w' hw' => ?_)
    obtain ⟨gg, rfl⟩ := hw'
    simp only [Go.wp_at_succ, Go.wp_at_zero]
    go_simp
    (with_reducible refine (f_outX_none (hmX.keep gg.ok) HX.out HOK.out d.n hlt).mono ?_)
    rintro e w1 ⟨rfl, hb1⟩
    have hkg := Kept.drop hkX gg.ok
    exact ⟨rfl, rfl, by (exact kpt)⟩
theorem to_bd {p : Plant} {d : Deed} {x : Cell} (hv : ∀ c ∈ p.cells, cellB c = true) (hx : p.cells[d.cell.toNat]? = some x) (h0 : 0 ≤ d.n) (h1 : d.n ≤ x.helium + x.air) (ht : 0 ≤ d.to ∧ d.to ≤ p.cells.length - 1) :
    ∃ y, (p.cells.set d.cell.toNat (less x d.n))[d.to.toNat]? = some y ∧ okC y := by
  have hj : d.to.toNat < (p.cells.set d.cell.toNat (less x d.n)).length := by simp; omega
  refine ⟨_, List.getElem?_eq_getElem hj, okC_of ?_⟩
  rcases List.mem_or_eq_of_mem_set (List.getElem_mem hj) with h | h
  · exact hv _ h
  · rw [h]; exact less_B (hv _ (List.mem_of_getElem? hx)) h0 h1
theorem f_move_ok {B s cp : Nat} {ad : Option Addr} {p : Plant} {w : World} (d : Deed) (h : Shop 37 77 B w s ad cp p) (hp : plantB p = true) (ha : argB p d = true) (ht : rng [d.to] 0 (p.cells.length - 1) = true) (he : d.to ≠ d.cell) (hl : ¬ amount (at_ p d) < d.n) : Calls Tryz.prog 23 #[.pointer (some ⟨s, 0, none⟩), .agg #[.int .u8 d.kind, .int .i64 d.cell, .int .i64 d.to, .int .i64 d.n]] w fun e w' => e = .returned (.tuple #[]) ∧ Shop 37 77 B w' s ad cp (moveP p d) ∧ Below B w w' := by
  have hn12 : p.cells.length ≤ 12 := (plantB_iff.1 hp).1
  have hb := plantB_iff.1 hp
  have hi : d.cell.toNat < p.cells.length := by
    have h1 : rng [d.cell] 0 (p.cells.length - 1) = true := by unfold argB at ha; simp only [Bool.and_eq_true] at ha; exact ha.1
    have : 0 ≤ d.cell ∧ d.cell ≤ p.cells.length - 1 := by simpa [rng, inB] using h1
    omega
  have hn : 1 ≤ d.n ∧ d.n ≤ 10000000 := by
    have h1 : rng [d.n] 1 10000000 = true := by unfold argB at ha; simp only [Bool.and_eq_true] at ha; exact ha.2
    simpa [rng, inB] using h1
  have hcv : cellB p.cells[d.cell.toNat] = true := hb.2.2.2.2.2.2.1 _ (List.getElem_mem hi)
  have hat : at_ p d = p.cells[d.cell.toNat] := cellAt_get hi
  have HA := Lib.hid ha
  obtain ⟨hB, hs, hm⟩ := h
  have hBw : B ≤ w.heap.size := by have := hs.lt; omega
  obtain ⟨g, _, rfl, hBg, hbg, _⟩ := hm.at hi
  have hgl := hbg.lt
  clear hbg
  obtain ⟨x, hx⟩ : ∃ x, x = p.cells[d.cell.toNat] := ⟨_, rfl⟩
  have HX := Lib.hid (show p.cells[d.cell.toNat]? = some x by rw [hx]; simp [hi])
  rw [← hx] at hcv hat
  have hxb := cellB_iff.1 hcv
  have HAT := Lib.hid hat
  have HXX := Lib.hid hx
  clear ha hat hx
  have hto : 0 ≤ d.to ∧ d.to ≤ p.cells.length - 1 := by simpa [rng, inB] using ht
  have HT := Lib.hid ht
  have hvv := hb.2.2.2.2.2.2.1
  have hle : d.n ≤ x.helium + x.air := by rw [HAT.out] at hl; unfold amount at hl; omega
  have HOK := Lib.hid (okC_of hcv)
  obtain ⟨s0, s1, s2, s3⟩ := share_bd HOK.out (show 0 ≤ d.n by omega) hle
  obtain ⟨S, hS⟩ : ∃ S, S = shareH x d.n := ⟨_, rfl⟩
  have HSS := Lib.hid (show shareH x d.n = S from hS.symm)
  have HOUT := fun (W : World) (q : Mine 37 B W (.slice (some ⟨g, 0, none⟩) p.cells.length cp) p.cells) => f_outX q HX.out HOK.out d.n hn.1 hle
  rw [← hS] at s0 s1 s2 s3 HOUT
  obtain ⟨_, hb1, ⟨hb2, hb3⟩, ⟨hb4, hb5⟩, ⟨hb6, hb7⟩, ⟨hb8, hb9⟩, _⟩ := hb
  clear hS hl
  have hne0 : (d.to == d.cell) = false := by simp [he]
  have hne' : (d.to != d.cell) = true := by simp [he]
  have hne'' : decide (d.to = d.cell) = false := by simp [he]
  obtain ⟨y, hy, hyb⟩ := to_bd hvv HX.out (by omega) hle hto
  have HY := Lib.hid hy
  obtain ⟨hyb1, hyb2⟩ := hyb
  clear hp ht he hvv hy
  have hwl := i64_inx (n := (p.cells.length : Int) - 1) (by omega)
  go_enter Tryz.func23, Tryz.ntmps23
  go_upto_region 2 with (first | (go_at_call 57; (with_reducible refine (f_cell_ok s g cp p d _ (hs.keep (by (exact kpt))) hn12 HA.out).mono ?_); rintro e w1 ⟨rfl, hb1⟩; refine Blk.thru (b := w.heap.size) (arr := ?_) (t := ?_) ?_ hb1 ?_; rotate_left 2; (focus (exact blk)); intro rr; have rrc0 := rr.cell 0; have rrf0 := rr.free 0; have rrc1 := rr.cell 1; have rrf1 := rr.free 1; have rrc2 := rr.cell 2; have rrf2 := rr.free 2; have rrc3 := rr.cell 3; have rrf3 := rr.free 3; have rrl := rr.lt; simp at rrc0 rrc1 rrc2 rrc3; obtain ⟨hc1, hf1, hl1⟩ := bcell3 hb1))
  refine at_world (S := fun W => Blk W w.heap.size #[.int .u8 d.kind, .int .i64 d.cell, .int .i64 d.to, .int .i64 d.n] 44 ∧ Blk W s #[.slice (some ⟨g, 0, none⟩) p.cells.length cp, .int .i64 (p.bottles), .int .i64 (p.inH), .int .i64 (p.inA), .int .i64 (p.vH), .int .i64 (p.vA), .int .i64 (p.lH), .int .i64 (p.lA), .int .i64 (p.pH), .int .i64 (p.pA)] 77 ∧ Mine 37 B W (.slice (some ⟨g, 0, none⟩) p.cells.length cp) p.cells ∧ Kept w W) ⟨by (exact blkc), hs.keep (by (exact kpt)), hm.keep (by (exact kpt)), by (exact kpt)⟩ ?_
  rintro W ⟨r0, hsW, hmW, hk⟩
  clear hc1 hf1 hl1
  refine held_walk (fun w' => Blk w' s #[.slice (some ⟨g, 0, none⟩) p.cells.length cp, .int .i64 (p.bottles), .int .i64 (p.inH), .int .i64 (p.inA), .int .i64 (p.vH), .int .i64 (p.vA), .int .i64 (p.lH), .int .i64 (p.lA), .int .i64 (p.pH), .int .i64 (p.pA)] 77 ∧ Blk w' w.heap.size #[.int .u8 d.kind, .int .i64 d.cell, .int .i64 d.to, .int .i64 d.n] 44) [(true, 0), (true, 1), (true, 2), (true, 3), (true, 4), (true, 5), (true, 6), (true, 7), (true, 8), (false, 9), (false, 10), (true, 11), (true, 12), (true, 13), (true, 14), (true, 15), (true, 16), (true, 17), (false, 18)] 18 (by kernel_rfl) (by kernel_rfl) (fun c a d v w h => by cases d <;> exact h) ⟨hsW.drew, r0.drew⟩ ?_
  simp only [List.filterMap_cons, List.filterMap_nil, List.getElem?_cons_zero, List.getElem?_cons_succ, Option.map_some]
  iterate 9 ((first | (refine held_take ?_ ?_ (fun w' hS => ?_) ?_; rotate_left 1; (focus rfl); (focus (first | (go_simp; done) | (go_simp; with_reducible rfl) | (obtain ⟨S1, S2⟩ := hS; have k0 := S1.cell 0; have k1 := S1.cell 1; have k2 := S1.cell 2; have k3 := S1.cell 3; have k4 := S1.cell 4; have k5 := S1.cell 5; have k6 := S1.cell 6; have k7 := S1.cell 7; have k8 := S1.cell 8; have k9 := S1.cell 9; have j0 := S2.cell 0; have j1 := S2.cell 1; have j2 := S2.cell 2; have j3 := S2.cell 3; simp at k0 k1 k2 k3 k4 k5 k6 k7 k8 k9 j0 j1 j2 j3; first | (go_simp; done) | (go_simp; with_reducible rfl))))) | (refine held_pass ?_ ?_; (focus rfl))); simp only [Act.put, List.setIfInBounds_toArray, List.set_cons_zero, List.set_cons_succ])
  refine held_one ?_
  refine wpList_plain rfl fun K1 hK1 => ?_
  go_wp2
  refine held_on ⟨by (repeat (first | with_reducible assumption | with_reducible refine Blk.drew ?_ | with_reducible refine Blk.alloc ?_ _ | (with_reducible refine Besides.blk hbes2 (by decide) ?_) | with_reducible refine Blk.keep ?_ (by with_reducible assumption))), by (repeat (first | with_reducible assumption | with_reducible refine Blk.drew ?_ | with_reducible refine Blk.alloc ?_ _ | (with_reducible refine Besides.blk hbes2 (by decide) ?_) | with_reducible refine Blk.keep ?_ (by with_reducible assumption)))⟩ ?_
  refine held_one ?_
  refine wpList_plain rfl fun K1 hK1 => ?_
  go_wp2_with (go_at_call 28; (with_reducible refine (f_ranged1B _ _ d.to _ _ ?_).mono ?_); (focus ((repeat with_reducible refine Blk.drew ?_); exact Blk.new' (by first | rfl | (simp; done)))); rw [HT.out]; rintro e w1 ⟨rfl, rfl⟩)
  refine held_on ⟨by (repeat (first | with_reducible assumption | with_reducible refine Blk.drew ?_ | with_reducible refine Blk.alloc ?_ _ | (with_reducible refine Besides.blk hbes2 (by decide) ?_) | with_reducible refine Blk.keep ?_ (by with_reducible assumption))), by (repeat (first | with_reducible assumption | with_reducible refine Blk.drew ?_ | with_reducible refine Blk.alloc ?_ _ | (with_reducible refine Besides.blk hbes2 (by decide) ?_) | with_reducible refine Blk.keep ?_ (by with_reducible assumption)))⟩ ?_
  iterate 7 ((first | (refine held_take ?_ ?_ (fun w' hS => ?_) ?_; rotate_left 1; (focus rfl); (focus (first | (go_simp; done) | (go_simp; with_reducible rfl) | (obtain ⟨S1, S2⟩ := hS; have k0 := S1.cell 0; have k1 := S1.cell 1; have k2 := S1.cell 2; have k3 := S1.cell 3; have k4 := S1.cell 4; have k5 := S1.cell 5; have k6 := S1.cell 6; have k7 := S1.cell 7; have k8 := S1.cell 8; have k9 := S1.cell 9; have j0 := S2.cell 0; have j1 := S2.cell 1; have j2 := S2.cell 2; have j3 := S2.cell 3; simp at k0 k1 k2 k3 k4 k5 k6 k7 k8 k9 j0 j1 j2 j3; first | (go_simp; done) | (go_simp; with_reducible rfl))))) | (refine held_pass ?_ ?_; (focus rfl))); simp only [Act.put, List.setIfInBounds_toArray, List.set_cons_zero, List.set_cons_succ])
  refine held_one ?_
  refine wpList_plain rfl fun K1 hK1 => ?_
  go_wp2_with (first | (go_at_call 27; (with_reducible refine (f_need_ok _ _).mono ?_); rintro e w1 ⟨rfl, rfl⟩))
  (first | refine held_end ?_ | (refine onward_on ?_; first | refine held_nil ?_ | refine ⟨.inl trivial, held_nil ?_⟩ | refine ⟨.inl rfl, held_nil ?_⟩))
  go_wp2
  refine at_world (S := fun X => Blk X w.heap.size #[.int .u8 d.kind, .int .i64 d.cell, .int .i64 d.to, .int .i64 d.n] 44 ∧ Blk X s #[.slice (some ⟨g, 0, none⟩) p.cells.length cp, .int .i64 (p.bottles), .int .i64 (p.inH), .int .i64 (p.inA), .int .i64 (p.vH), .int .i64 (p.vA), .int .i64 (p.lH), .int .i64 (p.lA), .int .i64 (p.pH), .int .i64 (p.pA)] 77 ∧ Mine 37 B X (.slice (some ⟨g, 0, none⟩) p.cells.length cp) p.cells ∧ Kept w X) ⟨by (repeat (first | with_reducible assumption | with_reducible refine Blk.drew ?_ | with_reducible refine Blk.alloc ?_ _ | (with_reducible refine Besides.blk hbes2 (by decide) ?_) | with_reducible refine Blk.keep ?_ (by with_reducible assumption))), by (repeat (first | with_reducible assumption | with_reducible refine Blk.drew ?_ | with_reducible refine Blk.alloc ?_ _ | (with_reducible refine Besides.blk hbes2 (by decide) ?_) | with_reducible refine Blk.keep ?_ (by with_reducible assumption))), by (repeat (first | with_reducible assumption | with_reducible refine Mine.drew ?_ | with_reducible refine Mine.alloc ?_ _)), by (exact kpt)⟩ ?_
  rintro X ⟨r0, hsX, hmX, hkX⟩
  have hi0 : (0 : Int) ≤ d.to := hto.1
  have hi1 : d.to < (p.cells.length : Int) := by omega
  have hsk0 : ∀ w', Blk w' s #[.slice (some ⟨g, 0, none⟩) p.cells.length cp, .int .i64 (p.bottles), .int .i64 (p.inH), .int .i64 (p.inA), .int .i64 (p.vH), .int .i64 (p.vA), .int .i64 (p.lH), .int .i64 (p.lA), .int .i64 (p.pH), .int .i64 (p.pA)] 77 → w'.cell? ⟨s, 0, none⟩ = _ := fun w' h => h.cell 0
  have hsk1 : ∀ w', Blk w' s #[.slice (some ⟨g, 0, none⟩) p.cells.length cp, .int .i64 (p.bottles), .int .i64 (p.inH), .int .i64 (p.inA), .int .i64 (p.vH), .int .i64 (p.vA), .int .i64 (p.lH), .int .i64 (p.lA), .int .i64 (p.pH), .int .i64 (p.pA)] 77 → w'.cell? ⟨s, 1, none⟩ = _ := fun w' h => h.cell 1
  have hsk2 : ∀ w', Blk w' s #[.slice (some ⟨g, 0, none⟩) p.cells.length cp, .int .i64 (p.bottles), .int .i64 (p.inH), .int .i64 (p.inA), .int .i64 (p.vH), .int .i64 (p.vA), .int .i64 (p.lH), .int .i64 (p.lA), .int .i64 (p.pH), .int .i64 (p.pA)] 77 → w'.cell? ⟨s, 2, none⟩ = _ := fun w' h => h.cell 2
  have hsk3 : ∀ w', Blk w' s #[.slice (some ⟨g, 0, none⟩) p.cells.length cp, .int .i64 (p.bottles), .int .i64 (p.inH), .int .i64 (p.inA), .int .i64 (p.vH), .int .i64 (p.vA), .int .i64 (p.lH), .int .i64 (p.lA), .int .i64 (p.pH), .int .i64 (p.pA)] 77 → w'.cell? ⟨s, 3, none⟩ = _ := fun w' h => h.cell 3
  have hsk4 : ∀ w', Blk w' s #[.slice (some ⟨g, 0, none⟩) p.cells.length cp, .int .i64 (p.bottles), .int .i64 (p.inH), .int .i64 (p.inA), .int .i64 (p.vH), .int .i64 (p.vA), .int .i64 (p.lH), .int .i64 (p.lA), .int .i64 (p.pH), .int .i64 (p.pA)] 77 → w'.cell? ⟨s, 4, none⟩ = _ := fun w' h => h.cell 4
  have hsk5 : ∀ w', Blk w' s #[.slice (some ⟨g, 0, none⟩) p.cells.length cp, .int .i64 (p.bottles), .int .i64 (p.inH), .int .i64 (p.inA), .int .i64 (p.vH), .int .i64 (p.vA), .int .i64 (p.lH), .int .i64 (p.lA), .int .i64 (p.pH), .int .i64 (p.pA)] 77 → w'.cell? ⟨s, 5, none⟩ = _ := fun w' h => h.cell 5
  have hsk6 : ∀ w', Blk w' s #[.slice (some ⟨g, 0, none⟩) p.cells.length cp, .int .i64 (p.bottles), .int .i64 (p.inH), .int .i64 (p.inA), .int .i64 (p.vH), .int .i64 (p.vA), .int .i64 (p.lH), .int .i64 (p.lA), .int .i64 (p.pH), .int .i64 (p.pA)] 77 → w'.cell? ⟨s, 6, none⟩ = _ := fun w' h => h.cell 6
  have hsk7 : ∀ w', Blk w' s #[.slice (some ⟨g, 0, none⟩) p.cells.length cp, .int .i64 (p.bottles), .int .i64 (p.inH), .int .i64 (p.inA), .int .i64 (p.vH), .int .i64 (p.vA), .int .i64 (p.lH), .int .i64 (p.lA), .int .i64 (p.pH), .int .i64 (p.pA)] 77 → w'.cell? ⟨s, 7, none⟩ = _ := fun w' h => h.cell 7
  have hsk8 : ∀ w', Blk w' s #[.slice (some ⟨g, 0, none⟩) p.cells.length cp, .int .i64 (p.bottles), .int .i64 (p.inH), .int .i64 (p.inA), .int .i64 (p.vH), .int .i64 (p.vA), .int .i64 (p.lH), .int .i64 (p.lA), .int .i64 (p.pH), .int .i64 (p.pA)] 77 → w'.cell? ⟨s, 8, none⟩ = _ := fun w' h => h.cell 8
  have hsk9 : ∀ w', Blk w' s #[.slice (some ⟨g, 0, none⟩) p.cells.length cp, .int .i64 (p.bottles), .int .i64 (p.inH), .int .i64 (p.inA), .int .i64 (p.vH), .int .i64 (p.vA), .int .i64 (p.lH), .int .i64 (p.lA), .int .i64 (p.pH), .int .i64 (p.pA)] 77 → w'.cell? ⟨s, 9, none⟩ = _ := fun w' h => h.cell 9
  have hsf0 : ∀ w', Blk w' s #[.slice (some ⟨g, 0, none⟩) p.cells.length cp, .int .i64 (p.bottles), .int .i64 (p.inH), .int .i64 (p.inA), .int .i64 (p.vH), .int .i64 (p.vA), .int .i64 (p.lH), .int .i64 (p.lA), .int .i64 (p.pH), .int .i64 (p.pA)] 77 → w'.frozen? ⟨s, 0, none⟩ = _ := fun w' h => h.free 0
  have hsf1 : ∀ w', Blk w' s #[.slice (some ⟨g, 0, none⟩) p.cells.length cp, .int .i64 (p.bottles), .int .i64 (p.inH), .int .i64 (p.inA), .int .i64 (p.vH), .int .i64 (p.vA), .int .i64 (p.lH), .int .i64 (p.lA), .int .i64 (p.pH), .int .i64 (p.pA)] 77 → w'.frozen? ⟨s, 1, none⟩ = _ := fun w' h => h.free 1
  have hsf2 : ∀ w', Blk w' s #[.slice (some ⟨g, 0, none⟩) p.cells.length cp, .int .i64 (p.bottles), .int .i64 (p.inH), .int .i64 (p.inA), .int .i64 (p.vH), .int .i64 (p.vA), .int .i64 (p.lH), .int .i64 (p.lA), .int .i64 (p.pH), .int .i64 (p.pA)] 77 → w'.frozen? ⟨s, 2, none⟩ = _ := fun w' h => h.free 2
  have hsf3 : ∀ w', Blk w' s #[.slice (some ⟨g, 0, none⟩) p.cells.length cp, .int .i64 (p.bottles), .int .i64 (p.inH), .int .i64 (p.inA), .int .i64 (p.vH), .int .i64 (p.vA), .int .i64 (p.lH), .int .i64 (p.lA), .int .i64 (p.pH), .int .i64 (p.pA)] 77 → w'.frozen? ⟨s, 3, none⟩ = _ := fun w' h => h.free 3
  have hsf4 : ∀ w', Blk w' s #[.slice (some ⟨g, 0, none⟩) p.cells.length cp, .int .i64 (p.bottles), .int .i64 (p.inH), .int .i64 (p.inA), .int .i64 (p.vH), .int .i64 (p.vA), .int .i64 (p.lH), .int .i64 (p.lA), .int .i64 (p.pH), .int .i64 (p.pA)] 77 → w'.frozen? ⟨s, 4, none⟩ = _ := fun w' h => h.free 4
  have hsf5 : ∀ w', Blk w' s #[.slice (some ⟨g, 0, none⟩) p.cells.length cp, .int .i64 (p.bottles), .int .i64 (p.inH), .int .i64 (p.inA), .int .i64 (p.vH), .int .i64 (p.vA), .int .i64 (p.lH), .int .i64 (p.lA), .int .i64 (p.pH), .int .i64 (p.pA)] 77 → w'.frozen? ⟨s, 5, none⟩ = _ := fun w' h => h.free 5
  have hsf6 : ∀ w', Blk w' s #[.slice (some ⟨g, 0, none⟩) p.cells.length cp, .int .i64 (p.bottles), .int .i64 (p.inH), .int .i64 (p.inA), .int .i64 (p.vH), .int .i64 (p.vA), .int .i64 (p.lH), .int .i64 (p.lA), .int .i64 (p.pH), .int .i64 (p.pA)] 77 → w'.frozen? ⟨s, 6, none⟩ = _ := fun w' h => h.free 6
  have hsf7 : ∀ w', Blk w' s #[.slice (some ⟨g, 0, none⟩) p.cells.length cp, .int .i64 (p.bottles), .int .i64 (p.inH), .int .i64 (p.inA), .int .i64 (p.vH), .int .i64 (p.vA), .int .i64 (p.lH), .int .i64 (p.lA), .int .i64 (p.pH), .int .i64 (p.pA)] 77 → w'.frozen? ⟨s, 7, none⟩ = _ := fun w' h => h.free 7
  have hsf8 : ∀ w', Blk w' s #[.slice (some ⟨g, 0, none⟩) p.cells.length cp, .int .i64 (p.bottles), .int .i64 (p.inH), .int .i64 (p.inA), .int .i64 (p.vH), .int .i64 (p.vA), .int .i64 (p.lH), .int .i64 (p.lA), .int .i64 (p.pH), .int .i64 (p.pA)] 77 → w'.frozen? ⟨s, 8, none⟩ = _ := fun w' h => h.free 8
  have hsf9 : ∀ w', Blk w' s #[.slice (some ⟨g, 0, none⟩) p.cells.length cp, .int .i64 (p.bottles), .int .i64 (p.inH), .int .i64 (p.inA), .int .i64 (p.vH), .int .i64 (p.vA), .int .i64 (p.lH), .int .i64 (p.lA), .int .i64 (p.pH), .int .i64 (p.pA)] 77 → w'.frozen? ⟨s, 9, none⟩ = _ := fun w' h => h.free 9
  simp at hsk0 hsk1 hsk2 hsk3 hsk4 hsk5 hsk6 hsk7 hsk8 hsk9
  have hdk0 : ∀ w', Blk w' w.heap.size #[.int .u8 d.kind, .int .i64 d.cell, .int .i64 d.to, .int .i64 d.n] 44 → w'.cell? ⟨w.heap.size, 0, none⟩ = _ := fun w' h => h.cell 0
  have hdk1 : ∀ w', Blk w' w.heap.size #[.int .u8 d.kind, .int .i64 d.cell, .int .i64 d.to, .int .i64 d.n] 44 → w'.cell? ⟨w.heap.size, 1, none⟩ = _ := fun w' h => h.cell 1
  have hdk2 : ∀ w', Blk w' w.heap.size #[.int .u8 d.kind, .int .i64 d.cell, .int .i64 d.to, .int .i64 d.n] 44 → w'.cell? ⟨w.heap.size, 2, none⟩ = _ := fun w' h => h.cell 2
  have hdk3 : ∀ w', Blk w' w.heap.size #[.int .u8 d.kind, .int .i64 d.cell, .int .i64 d.to, .int .i64 d.n] 44 → w'.cell? ⟨w.heap.size, 3, none⟩ = _ := fun w' h => h.cell 3
  have hdf0 : ∀ w', Blk w' w.heap.size #[.int .u8 d.kind, .int .i64 d.cell, .int .i64 d.to, .int .i64 d.n] 44 → w'.frozen? ⟨w.heap.size, 0, none⟩ = _ := fun w' h => h.free 0
  have hdf1 : ∀ w', Blk w' w.heap.size #[.int .u8 d.kind, .int .i64 d.cell, .int .i64 d.to, .int .i64 d.n] 44 → w'.frozen? ⟨w.heap.size, 1, none⟩ = _ := fun w' h => h.free 1
  have hdf2 : ∀ w', Blk w' w.heap.size #[.int .u8 d.kind, .int .i64 d.cell, .int .i64 d.to, .int .i64 d.n] 44 → w'.frozen? ⟨w.heap.size, 2, none⟩ = _ := fun w' h => h.free 2
  have hdf3 : ∀ w', Blk w' w.heap.size #[.int .u8 d.kind, .int .i64 d.cell, .int .i64 d.to, .int .i64 d.n] 44 → w'.frozen? ⟨w.heap.size, 3, none⟩ = _ := fun w' h => h.free 3
  simp at hdk0 hdk1 hdk2 hdk3
  go_cut [5, 6] (fun s5 s6 wx => ∃ gx, s5 = .pointer (some ⟨gx, 0, none⟩) ∧ s6 = .pointer (some ⟨g, d.to.toNat * 7, none⟩) ∧ Blk wx gx #[.int .i64 S, .int .i64 (d.n - S)] 24 ∧ Blk wx s #[.slice (some ⟨g, 0, none⟩) p.cells.length cp, .int .i64 (p.bottles), .int .i64 (p.inH), .int .i64 (p.inA), .int .i64 (p.vH), .int .i64 (p.vA), .int .i64 (p.lH), .int .i64 (p.lA), .int .i64 (p.pH), .int .i64 (p.pA)] 77 ∧ Mine 37 B wx (.slice (some ⟨g, 0, none⟩) p.cells.length cp) (p.cells.set d.cell.toNat (less x d.n)) ∧ Below B w wx ∧ w.heap.size ≤ wx.heap.size ∧ w.heap.size < gx)
  case first =>
    go_region_held3 (fun w' => Blk w' s #[.slice (some ⟨g, 0, none⟩) p.cells.length cp, .int .i64 (p.bottles), .int .i64 (p.inH), .int .i64 (p.inA), .int .i64 (p.vH), .int .i64 (p.vA), .int .i64 (p.lH), .int .i64 (p.lA), .int .i64 (p.pH), .int .i64 (p.pA)] 77 ∧ Blk w' w.heap.size #[.int .u8 d.kind, .int .i64 d.cell, .int .i64 d.to, .int .i64 d.n] 44) ((refine ⟨?_, ?_⟩ <;> ((repeat (first | with_reducible assumption | with_reducible refine Blk.drew ?_ | with_reducible refine Blk.alloc ?_ _ | ((with_reducible refine Blk.other ?_ ?_ _); rotate_left 1; (focus (have e0 := hsX.lt; have e9 := r0.lt; have e3 := Below.size hw2; simp at e3; first | (simp; omega) | (simp at *; omega)))) | (with_reducible refine Besides.blk hbes2 (by decide) ?_) | with_reducible refine Blk.keep ?_ (by with_reducible assumption))); done))) (first | (go_at_call 58; (with_reducible refine (HOUT _ ?_).mono ?_); (focus (repeat (first | with_reducible assumption | with_reducible refine Mine.drew ?_ | with_reducible refine Mine.alloc ?_ _ | with_reducible refine Mine.keep ?_ (by with_reducible assumption)))); rintro e w2 ⟨rfl, hm2, hw2, hbes2⟩; have hbB : Below B X w2 := (by first | exact ((Below.refl B X).drew).trans hw2 | exact (((Below.refl B X).alloc (by have e0 := hkX.size; omega) _).drew).trans hw2); have hsB : Blk w2 s #[.slice (some ⟨g, 0, none⟩) p.cells.length cp, .int .i64 (p.bottles), .int .i64 (p.inH), .int .i64 (p.inA), .int .i64 (p.vH), .int .i64 (p.vA), .int .i64 (p.lH), .int .i64 (p.lA), .int .i64 (p.pH), .int .i64 (p.pA)] 77 := (by (repeat (first | with_reducible assumption | with_reducible refine Blk.drew ?_ | with_reducible refine Blk.alloc ?_ _ | (with_reducible refine Besides.blk hbes2 (by decide) ?_) | with_reducible refine Blk.keep ?_ (by with_reducible assumption)))); have r0B : Blk w2 w.heap.size #[.int .u8 d.kind, .int .i64 d.cell, .int .i64 d.to, .int .i64 d.n] 44 := (by (repeat (first | with_reducible assumption | with_reducible refine Blk.drew ?_ | with_reducible refine Blk.alloc ?_ _ | (with_reducible refine Besides.blk hbes2 (by decide) ?_) | with_reducible refine Blk.keep ?_ (by with_reducible assumption)))); have hzB := hbB.size; (first | (refine Besides.thru (b := X.heap.size) (arr := ?_) (t := ?_) ?_ hbes2 ?_ ?_; rotate_left 2; (focus ((repeat with_reducible refine Blk.drew ?_); exact Blk.new' (by first | rfl | (simp; done)))); (focus decide); intro x2; have x2c0 := x2.cell 0; have x2f0 := x2.free 0; have x2c1 := x2.cell 1; have x2f1 := x2.free 1; have x2l := x2.lt; simp at x2c0 x2c1) | skip)) | fail)
    all_goals (go_wp2_with fail; go_meet)
    all_goals
      have e9 := r0.lt
      have e8 := hs.lt
      have ey := hkX.size
      have eb := hbB.size
    · exact ⟨_, rfl, rfl, Blk.new, hsB.alloc _, hm2.alloc _, ((hkX.mono hBw).trans hbB).alloc (by omega) _, by simp; omega, by omega⟩
    · exact ⟨_, rfl, rfl, (x2.set 0 _).set 1 _, (hsB.other (by simp; omega) _).other (by simp; omega) _, (hm2.other x2 (by decide) _).other (x2.set 0 _) (by decide) _, (((hkX.mono hBw).trans hbB).setCell (by simp; omega) _).setCell (by simp; omega) _, by simp [World.setCell]; omega, by omega⟩
  case rest =>
    clear hkX r0 hsX hmX hsk0 hsf0 hsk1 hsf1 hsk2 hsf2 hsk3 hsf3 hsk4 hsf4 hsk5 hsf5 hsk6 hsf6 hsk7 hsf7 hsk8 hsf8 hsk9 hsf9 hdk0 hdf0 hdk1 hdf1 hdk2 hdf2 hdk3 hdf3
    obtain ⟨gx, rfl, rfl, x0, hsX, hmX, hbX, hzX, hgx⟩ := hcut
    go_upto_region 4 with fail
    refine at_world (S := fun X => Blk X gx #[.int .i64 S, .int .i64 (d.n - S)] 24 ∧ Blk X s #[.slice (some ⟨g, 0, none⟩) p.cells.length cp, .int .i64 (p.bottles), .int .i64 (p.inH), .int .i64 (p.inA), .int .i64 (p.vH), .int .i64 (p.vA), .int .i64 (p.lH), .int .i64 (p.lA), .int .i64 (p.pH), .int .i64 (p.pA)] 77 ∧ Mine 37 B X (.slice (some ⟨g, 0, none⟩) p.cells.length cp) (p.cells.set d.cell.toNat (less x d.n)) ∧ Below B w X ∧ w.heap.size ≤ X.heap.size) ⟨x0, hsX, hmX, hbX, hzX⟩ ?_
    rintro X ⟨x0, hsX, hmX, hbX, hzX⟩
    obtain ⟨hj, hyj⟩ := List.getElem?_eq_some_iff.1 HY.out
    obtain ⟨_, cur, hge, _, hcur, c0, c1, c2, c3, c4, c5, c6⟩ := hmX.at hj
    cases hge
    rw [hyj] at c0 c1 c2 c3 c4 c5 c6
    clear hyj
    have y1 := fun q : Later X => q.some c1
    have y2 := fun q : Later X => q.some c2
    clear c0 c1 c2 c3 c4 c5 c6
    have x0c0 := fun g : Later X => (x0.later g).cell 0
    have x0f0 := fun g : Later X => (x0.later g).free 0
    have x0c1 := fun g : Later X => (x0.later g).cell 1
    have x0f1 := fun g : Later X => (x0.later g).free 1
    have x0l := fun g : Later X => (x0.later g).lt
    simp at x0c0 x0c1
    refine Later.tail 9 (by kernel_rfl) (by kernel_rfl) ?_
    simp only [List.take_succ_cons, List.take_zero, List.drop_succ_cons, List.drop_zero]
    repeat (first | go_big_quiet_skip | (go_big_quiet_want; go_big_quiet_op; first | go_big_quiet_on | (apply Exists.intro; refine ⟨fun g_ => ?_, ?_⟩; (focus (first | fail)); go_big_quiet_on)))
    refine wpQuiet_nil ?_
    intro gh
    refine wpList_plain rfl fun K1 hK1 => ?_
    have z1 := y1 gh
    have z2 := y2 gh
    have hcg := hcur.later gh
    have zf := hcg.free (d.to.toNat * 7 + 1)
    clear x0c0 x0f0 x0c1 x0f1 x0l
    go_wp2
    refine at_world (S := fun Y => Blk Y gx #[.int .i64 S, .int .i64 (d.n - S)] 24 ∧ Blk Y s #[.slice (some ⟨g, 0, none⟩) p.cells.length cp, .int .i64 (p.bottles), .int .i64 (p.inH), .int .i64 (p.inA), .int .i64 (p.vH), .int .i64 (p.vA), .int .i64 (p.lH), .int .i64 (p.lA), .int .i64 (p.pH), .int .i64 (p.pA)] 77 ∧ Mine 37 B Y (.slice (some ⟨g, 0, none⟩) p.cells.length cp) ((p.cells.set d.cell.toNat (less x d.n)).set d.to.toNat { y with helium := y.helium + S }) ∧ Below B w Y ∧ w.heap.size ≤ Y.heap.size) ⟨(x0.later gh).other (by simp; omega) _, (hsX.later gh).other (a := ⟨g, d.to.toNat * 7 + 1, none⟩) (fun he => by simp only at he; subst he; have := (hsX.later gh).symm.trans hcg; simp at this) _, (hmX.keep gh.ok).put (i := d.to.toNat) (j := 1) (c := y) (u := .int .i64 (y.helium + S)) { y with helium := y.helium + S } HY.out (by decide) rfl, (hbX.trans (gh.ok.mono (by omega))).setCell hBg _, Nat.le_trans hzX (Nat.le_trans gh.ok.size (by simp))⟩ ?_
    rintro Y ⟨x0, hsY, hmY, hbY, hzY⟩
    obtain ⟨_, cuy, hge, _, hcy, _, _, c2, _⟩ := hmY.at (i := d.to.toNat) (by simpa using hj)
    cases hge
    rw [List.getElem_set_self] at c2
    have y2 := fun q : Later Y => q.some c2
    clear c2
    have x0c0 := fun g : Later Y => (x0.later g).cell 0
    have x0f0 := fun g : Later Y => (x0.later g).free 0
    have x0c1 := fun g : Later Y => (x0.later g).cell 1
    have x0f1 := fun g : Later Y => (x0.later g).free 1
    have x0l := fun g : Later Y => (x0.later g).lt
    simp at x0c0 x0c1
    refine Later.tail 9 (by kernel_rfl) (by kernel_rfl) ?_
    simp only [List.take_succ_cons, List.take_zero, List.drop_succ_cons, List.drop_zero]
    repeat (first | go_big_quiet_skip | (go_big_quiet_want; go_big_quiet_op; first | go_big_quiet_on | (apply Exists.intro; refine ⟨fun g_ => ?_, ?_⟩; (focus (first | fail)); go_big_quiet_on)))
    refine wpQuiet_nil ?_
    intro gi
    refine wpList_plain rfl fun K1 hK1 => ?_
    have z2 := y2 gi
    have hcg := hcy.later gi
    have zf := hcg.free (d.to.toNat * 7 + 2)
    clear x0c0 x0f0 x0c1 x0f1 x0l
    go_wp2
    go_end0
    refine ⟨rfl, ⟨hB, ?_, ?_⟩, ?_⟩
    · exact ((hsY.later gi).other (a := ⟨g, d.to.toNat * 7 + 2, none⟩) (fun he => by simp only at he; subst he; have := (hsY.later gi).symm.trans hcg; simp at this) _).cast (by simp [plantCells, moveP, lessP])
    · have q := (hmY.keep gi.ok).put (i := d.to.toNat) (j := 2) (c := { y with helium := y.helium + S }) (u := .int .i64 (y.air + (d.n - S))) { y with helium := y.helium + S, air := y.air + (d.n - S) } (List.getElem?_set_self (by simpa using hj)) (by decide) rfl
      rw [List.set_set] at q
      have hyc : cellAt (lessP p d) d.to.toNat = y := by
        have := HY.out
        simp [cellAt, lessP, HAT.out, this]
      have e : (moveP p d).cells = ((p.cells.set d.cell.toNat (less x d.n)).set d.to.toNat { y with helium := y.helium + S, air := y.air + (d.n - S) }) := by
        show (lessP p d).cells.set _ (more (cellAt (lessP p d) d.to.toNat) (shareH (at_ p d) d.n) (d.n - shareH (at_ p d) d.n)) = _
        rw [hyc, HAT.out, HSS.out]
        simp [lessP, HAT.out, more]
      have el : (moveP p d).cells.length = p.cells.length := by rw [e]; simp
      rw [el, e]
      exact q
    · exact (hbY.trans (gi.ok.mono (by omega))).setCell hBg _

end Go.Proofs.YtamnnjdfjffhlaaGreatDoor

/-
  Ticks: each cell leaks.
-/
namespace Go.Proofs.YtamnnjdfjffhlaaGreatDoor
open Go.RowKit Bal Bal.Trim Bal.Gas
set_option linter.unusedVariables false
set_option linter.unusedSimpArgs false
set_option maxHeartbeats 8000000
set_option maxRecDepth 100000

theorem f_tick_no {B s cp : Nat} {ad : Option Addr} {p : Plant} {w : World} (d : Deed) (h : Shop 37 77 B w s ad cp p) (hp : plantB p = true) (he : rng [d.n] 1 1000 = false) : Calls Tryz.prog 26 #[.pointer (some ⟨s, 0, none⟩), .agg #[.int .u8 d.kind, .int .i64 d.cell, .int .i64 d.to, .int .i64 d.n]] w fun e w' => e = .panicked [{ v := refusal 2, recovered := false }] ∧ Kept w w' := by
  have H1 := Lib.hid he
  clear he
  go_enter Tryz.func26, Tryz.ntmps26
  go_wp2_with (first | (go_at_call 28; (with_reducible refine (f_ranged1 _ _ d.n _ _ _ (by simp)).mono ?_); rw [H1.out]; rintro e w1 ⟨rfl, rfl⟩) | (go_at_call 27; (with_reducible refine (f_need_no _ _).mono ?_); rintro e w1 ⟨rfl, rfl⟩))
  exact ⟨rfl, rfl, by (exact kpt)⟩
theorem f_outY {B cp g n0 : Nat} {xs : List Cell} {w : World} (h : Mine 37 B w (.slice (some ⟨g, 0, none⟩) n0 cp) xs) {i : Nat} {x : Cell} (hx : xs[i]? = some x) (hc : okC x) (n : Int) (h0 : 1 ≤ n) (h1 : n ≤ x.helium + x.air) :
    Calls Tryz.prog 58 #[.pointer (some ⟨g, i * 7, none⟩), .int .i64 n] w fun e w' => e = .returned (.agg #[.int .i64 (shareH x n), .int .i64 (n - shareH x n)]) ∧
      Mine 37 B w' (.slice (some ⟨g, 0, none⟩) n0 cp) (xs.set i (less x n)) ∧ Below B w w' ∧ Besides 37 w w' := by
  obtain rfl := h.row.1
  exact f_outX h hx hc n h0 h1
theorem less_zero (x : Cell) : less x 0 = x := by simp [less, shareH]
theorem leak_small {x : Cell} (h0 : 0 ≤ x.owed + (x.helium + x.air) * x.leak) (h : ¬ 0 < leakN x) : leakN x = 0 ∧ leakC x = { x with owed := x.owed + (x.helium + x.air) * x.leak } := by
  have hz : leakN x = 0 := by unfold leakN at *; omega
  refine ⟨hz, ?_⟩
  have hm : (x.owed + (x.helium + x.air) * x.leak) % 1000000 = x.owed + (x.helium + x.air) * x.leak := by unfold leakN at hz; omega
  unfold leakC
  rw [hz, less_zero, hm]
theorem f_tick_ok {B s cp : Nat} {ad : Option Addr} {p : Plant} {w : World} (d : Deed) (h : Shop 37 77 B w s ad cp p) (hp : plantB p = true) (he : rng [d.n] 1 1000 = true) : Calls Tryz.prog 26 #[.pointer (some ⟨s, 0, none⟩), .agg #[.int .u8 d.kind, .int .i64 d.cell, .int .i64 d.to, .int .i64 d.n]] w fun e w' => e = .returned (.tuple #[]) ∧ Shop 37 77 B w' s ad cp (tickP p d) ∧ Below B w w' := by
  have hn : 1 ≤ d.n ∧ d.n ≤ 1000 := by simpa [rng, inB] using he
  have H1 := Lib.hid he
  have HP := Lib.hid hp
  have hn12 : p.cells.length ≤ 12 := (plantB_iff.1 hp).1
  clear he hp
  obtain ⟨hB, hs, hm⟩ := h
  have hBw : B ≤ w.heap.size := by have := hs.lt; omega
  obtain ⟨N, hN⟩ : ∃ N : Nat, d.n = N := ⟨d.n.toNat, by omega⟩
  have HN := Lib.hid (show d.n.toNat = N by omega)
  have HNI := Lib.hid hN
  have hN1 : N ≤ 1000 := by omega
  clear hN
  have HLEN := Lib.hid (fun j => ticks_len p j)
  have HLEK := Lib.hid (fun j k => (tickTo_len (ticks p j) k).trans (ticks_len p j))
  have HBK := Lib.hid (fun j k (hk : k ≤ p.cells.length) => tickTo_B (ticks_B HP.out j) k (by rw [ticks_len]; exact hk))
  go_enter Tryz.func26, Tryz.ntmps26
  go_upto_region 3 with (first | (go_at_call 28; (with_reducible refine (f_ranged1 _ _ d.n _ _ _ (by simp)).mono ?_); rw [H1.out]; rintro e w1 ⟨rfl, rfl⟩) | (go_at_call 27; (with_reducible refine (f_need_ok _ _).mono ?_); rintro e w1 ⟨rfl, rfl⟩))
  rw [HNI.out]
  refine at_world (S := fun W => Blk W s #[.slice ad p.cells.length cp, .int .i64 (p.bottles), .int .i64 (p.inH), .int .i64 (p.inA), .int .i64 (p.vH), .int .i64 (p.vA), .int .i64 (p.lH), .int .i64 (p.lA), .int .i64 (p.pH), .int .i64 (p.pA)] 77 ∧ Mine 37 B W (.slice ad p.cells.length cp) p.cells ∧ Below B w W ∧ w.heap.size ≤ W.heap.size) ⟨hs.keep (by (exact kpt)), hm.keep (by (exact kpt)), by (repeat (first | with_reducible exact Below.refl _ _ | with_reducible refine Below.drew ?_ | ((with_reducible refine Below.alloc ?_ ?_ _); rotate_left 1; (focus (first | omega | (simp; omega)))))), by simp; omega⟩ ?_
  rintro W ⟨r0, hmW, hbW, hzW⟩
  go_loopw [14] (fun i wr => ∃ j : Nat, j ≤ N ∧ i = .int .i64 j ∧ Blk wr s #[.slice ad p.cells.length cp, .int .i64 ((ticks p j).bottles), .int .i64 ((ticks p j).inH), .int .i64 ((ticks p j).inA), .int .i64 ((ticks p j).vH), .int .i64 ((ticks p j).vA), .int .i64 ((ticks p j).lH), .int .i64 ((ticks p j).lA), .int .i64 ((ticks p j).pH), .int .i64 ((ticks p j).pA)] 77 ∧ Mine 37 B wr (.slice ad p.cells.length cp) (ticks p j).cells ∧ Below B w wr ∧ w.heap.size ≤ wr.heap.size) (fun i _ => N - (intOf i).toNat)
  case atStart => exact ⟨0, Nat.zero_le _, rfl, r0, hmW, hbW, hzW⟩
  case round =>
    clear r0 hmW hbW hzW
    obtain ⟨j, hj, rfl, r0, hmW, hbW, hzW⟩ := hrel
    by_cases hlt : j < N
    · have r0c0 := r0.cell 0
      have r0f0 := r0.free 0
      have r0c1 := r0.cell 1
      have r0f1 := r0.free 1
      have r0c2 := r0.cell 2
      have r0f2 := r0.free 2
      have r0c3 := r0.cell 3
      have r0f3 := r0.free 3
      have r0c4 := r0.cell 4
      have r0f4 := r0.free 4
      have r0c5 := r0.cell 5
      have r0f5 := r0.free 5
      have r0c6 := r0.cell 6
      have r0f6 := r0.free 6
      have r0c7 := r0.cell 7
      have r0f7 := r0.free 7
      have r0c8 := r0.cell 8
      have r0f8 := r0.free 8
      have r0c9 := r0.cell 9
      have r0f9 := r0.free 9
      have r0l := r0.lt
      simp at r0c0 r0c1 r0c2 r0c3 r0c4 r0c5 r0c6 r0c7 r0c8 r0c9
      go_wp2
      go_loopw [22] (fun i wq => ∃ k : Nat, k ≤ p.cells.length ∧ i = .int .i64 k ∧ Blk wq s #[.slice ad p.cells.length cp, .int .i64 ((tickTo (ticks p j) k).bottles), .int .i64 ((tickTo (ticks p j) k).inH), .int .i64 ((tickTo (ticks p j) k).inA), .int .i64 ((tickTo (ticks p j) k).vH), .int .i64 ((tickTo (ticks p j) k).vA), .int .i64 ((tickTo (ticks p j) k).lH), .int .i64 ((tickTo (ticks p j) k).lA), .int .i64 ((tickTo (ticks p j) k).pH), .int .i64 ((tickTo (ticks p j) k).pA)] 77 ∧ Mine 37 B wq (.slice ad p.cells.length cp) (tickTo (ticks p j) k).cells ∧ Below B w wq ∧ w.heap.size ≤ wq.heap.size) (fun i _ => p.cells.length - (intOf i).toNat)
      case atStart => exact ⟨0, Nat.zero_le _, rfl, r0, hmW, hbW, hzW⟩
      case round =>
        clear r0c0 r0f0 r0c1 r0f1 r0c2 r0f2 r0c3 r0f3 r0c4 r0f4 r0c5 r0f5 r0c6 r0f6 r0c7 r0f7 r0c8 r0f8 r0c9 r0f9 r0l r0 hmW hbW hzW
        obtain ⟨k, hk, rfl, r0, hmW, hbW, hzW⟩ := hrel
        have hqB := HBK.out j k hk
        have hql := HLEK.out j k
        have HNX := Lib.hid (show tickTo (ticks p j) (k + 1) = leakAt (tickTo (ticks p j) k) k from rfl)
        obtain ⟨q, hq⟩ : ∃ q, q = tickTo (ticks p j) k := ⟨_, rfl⟩
        rw [← hq] at r0 hmW hqB hql HNX
        by_cases hlk : k < p.cells.length
        · have hkq : k < q.cells.length := by omega
          clear hq
          have hb := plantB_iff.1 hqB
          have hcv : cellB q.cells[k] = true := hb.2.2.2.2.2.2.1 _ (List.getElem_mem hkq)
          have hat : cellAt q k = q.cells[k] := cellAt_get hkq
          obtain ⟨g, cur, rfl, hBg, hcur, c0, c1, c2, c3, c4, c5, c6⟩ := hmW.at hkq
          obtain ⟨x, hx⟩ : ∃ x, x = q.cells[k] := ⟨_, rfl⟩
          have HX := Lib.hid (show q.cells[k]? = some x by rw [hx]; simp [hkq])
          rw [← hx] at hcv hat c0 c1 c2 c3 c4 c5 c6
          have HAT := Lib.hid hat
          have hxb := cellB_iff.1 hcv
          have hlb := leak_bd hcv
          have HOK := Lib.hid (okC_of hcv)
          have hsmall := Lib.hid (fun h : ¬ 0 < leakN x => leak_small hlb.1.1 h)
          obtain ⟨_, _, _, _, ⟨⟨hb6, hb7⟩, ⟨hb8, hb9⟩⟩, _⟩ := hb
          clear hcv hat hx hqB
          have w1 := i64_inx (n := x.helium + x.air) (by omega)
          have w2 := i64_inx (n := (x.helium + x.air) * x.leak) (by omega)
          have w3 := i64_inx (n := x.owed + (x.helium + x.air) * x.leak) (by omega)
          obtain ⟨PR, hPR⟩ : ∃ y, y = (x.helium + x.air) * x.leak := ⟨_, rfl⟩
          obtain ⟨SUM, hSUM⟩ : ∃ y, y = x.owed + PR := ⟨_, rfl⟩
          have HSU := Lib.hid (show x.owed + (x.helium + x.air) * x.leak = SUM by rw [hSUM, hPR])
          have HPR := Lib.hid (show (x.helium + x.air) * x.leak = PR from hPR.symm)
          have HSM := Lib.hid (show x.owed + PR = SUM from hSUM.symm)
          rw [HSU.out] at hlb hsmall
          clear hSUM hPR
          have HL := Lib.hid (show SUM / 1000000 = leakN x by unfold leakN; rw [HSU.out])
          obtain ⟨L, hL⟩ : ∃ y, y = leakN x := ⟨_, rfl⟩
          rw [← hL] at hlb hsmall HL
          obtain ⟨hlb1, hlb2, hlb3, hlb4⟩ := hlb
          have HLL := Lib.hid hL
          clear hL
          have r0c0 := r0.cell 0
          have r0f0 := r0.free 0
          have r0c1 := r0.cell 1
          have r0f1 := r0.free 1
          have r0c2 := r0.cell 2
          have r0f2 := r0.free 2
          have r0c3 := r0.cell 3
          have r0f3 := r0.free 3
          have r0c4 := r0.cell 4
          have r0f4 := r0.free 4
          have r0c5 := r0.cell 5
          have r0f5 := r0.free 5
          have r0c6 := r0.cell 6
          have r0f6 := r0.free 6
          have r0c7 := r0.cell 7
          have r0f7 := r0.free 7
          have r0c8 := r0.cell 8
          have r0f8 := r0.free 8
          have r0c9 := r0.cell 9
          have r0f9 := r0.free 9
          have r0l := r0.lt
          simp at r0c0 r0c1 r0c2 r0c3 r0c4 r0c5 r0c6 r0c7 r0c8 r0c9
          go_upto_region 8 with fail
          clear r0c0 r0f0 r0c1 r0f1 r0c2 r0f2 r0c3 r0f3 r0c4 r0f4 r0c5 r0f5 r0c6 r0f6 r0c7 r0f7 r0c8 r0f8 r0c9 r0f9 r0l
          refine at_world (S := fun X => Blk X s #[.slice (some ⟨g, 0, none⟩) p.cells.length cp, .int .i64 (q.bottles), .int .i64 (q.inH), .int .i64 (q.inA), .int .i64 (q.vH), .int .i64 (q.vA), .int .i64 (q.lH), .int .i64 (q.lA), .int .i64 (q.pH), .int .i64 (q.pA)] 77 ∧ Mine 37 B X (.slice (some ⟨g, 0, none⟩) p.cells.length cp) q.cells ∧ Below B w X ∧ w.heap.size ≤ X.heap.size ∧ Blk X g cur 37 ∧ X.cell? ⟨g, k * 7, none⟩ = some (.int .i64 x.room) ∧ X.cell? ⟨g, k * 7 + 1, none⟩ = some (.int .i64 x.helium) ∧ X.cell? ⟨g, k * 7 + 2, none⟩ = some (.int .i64 x.air) ∧ X.cell? ⟨g, k * 7 + 3, none⟩ = some (.int .i64 x.wlo) ∧ X.cell? ⟨g, k * 7 + 4, none⟩ = some (.int .i64 x.whi) ∧ X.cell? ⟨g, k * 7 + 5, none⟩ = some (.int .i64 x.leak) ∧ X.cell? ⟨g, k * 7 + 6, none⟩ = some (.int .i64 x.owed)) ⟨r0, hmW, hbW, hzW, hcur, c0, c1, c2, c3, c4, c5, c6⟩ ?_
          clear r0 hmW hbW hzW hcur c0 c1 c2 c3 c4 c5 c6
          rintro X ⟨r1, hmX, hbX, hzX, hcur, c0, c1, c2, c3, c4, c5, c6⟩
          clear c0 c3 c4
          have y1 := fun q : Later X => q.some c1
          have y2 := fun q : Later X => q.some c2
          have y5 := fun q : Later X => q.some c5
          have y6 := fun q : Later X => q.some c6
          clear c1 c2 c5 c6
          refine Later.tail 21 (by kernel_rfl) (by kernel_rfl) ?_
          simp only [List.take_succ_cons, List.take_zero, List.drop_succ_cons, List.drop_zero]
          repeat (first | go_big_quiet_skip | (go_big_quiet_want; go_big_quiet_op; first | go_big_quiet_on | (apply Exists.intro; refine ⟨fun g_ => ?_, ?_⟩; (focus (first | fail)); go_big_quiet_on)))
          refine wpQuiet_nil ?_
          intro gg
          refine wpList_plain rfl fun K1 hK1 => ?_
          have z6 := y6 gg
          have hcg := hcur.later gg
          have zf := hcg.free (k * 7 + 6)
          clear w1 w2 w3
          go_upto_region 9 with fail
          rw [HSU.out]
          have HCO := Lib.hid (show (gg.val.setCell ⟨g, k * 7 + 6, none⟩ (.int .i64 SUM)).heap.size = gg.val.heap.size by simp [World.setCell])
          refine at_world (S := fun Y => Blk Y s #[.slice (some ⟨g, 0, none⟩) p.cells.length cp, .int .i64 (q.bottles), .int .i64 (q.inH), .int .i64 (q.inA), .int .i64 (q.vH), .int .i64 (q.vA), .int .i64 (q.lH), .int .i64 (q.lA), .int .i64 (q.pH), .int .i64 (q.pA)] 77 ∧ Mine 37 B Y (.slice (some ⟨g, 0, none⟩) p.cells.length cp) (q.cells.set k { x with owed := SUM }) ∧ Below B w Y ∧ w.heap.size ≤ Y.heap.size) ⟨(r1.later gg).other (a := ⟨g, k * 7 + 6, none⟩) (fun he => by simp only at he; subst he; have := (r1.later gg).symm.trans hcg; simp at this) _, (hmX.keep gg.ok).put (i := k) (j := 6) (c := x) (u := .int .i64 SUM) { x with owed := SUM } HX.out (by decide) rfl, (hbX.trans (gg.ok.mono (by omega))).setCell hBg _, by rw [HCO.out]; exact Nat.le_trans hzX gg.ok.size⟩ ?_
          rintro Y ⟨r1, hmY, hbY, hzY⟩
          clear z6 zf hcg
          have hkY : k < (q.cells.set k { x with owed := SUM }).length := by simpa using hkq
          have HXY := Lib.hid (show (q.cells.set k { x with owed := SUM })[k]? = some { x with owed := SUM } from List.getElem?_set_self hkq)
          obtain ⟨_, cuy, hge, _, hcy, _, _, _, _, _, _, c6⟩ := hmY.at hkY
          cases hge
          rw [List.getElem_set_self] at c6
          have hqq := HL.out
          by_cases hpos : 0 < L
          · have hlt1 : decide (0 < L) = true := by simp [hpos]
            obtain ⟨s0, s1, s2, s3⟩ := share_bd HOK.out (show 0 ≤ L by omega) hlb4
            obtain ⟨T, hT⟩ : ∃ T, T = shareH x L := ⟨_, rfl⟩
            have HTT := Lib.hid (show shareH x L = T from hT.symm)
            have HOUT := fun (W : World) (h : Mine 37 B W (.slice (some ⟨g, 0, none⟩) p.cells.length cp) (q.cells.set k { x with owed := SUM })) => f_outY h HXY.out (show okC { x with owed := SUM } from HOK.out) L (show 1 ≤ L by omega) hlb4
            rw [show shareH { x with owed := SUM } L = T from hT.symm] at HOUT
            rw [← hT] at s0 s1 s2 s3
            clear hT
            go_upto_region 11 with fail
            try rw [HL.out]
            clear hqq c6 hlt1
            refine at_world (S := fun X => Blk X s #[.slice (some ⟨g, 0, none⟩) p.cells.length cp, .int .i64 (q.bottles), .int .i64 (q.inH), .int .i64 (q.inA), .int .i64 (q.vH), .int .i64 (q.vA), .int .i64 (q.lH), .int .i64 (q.lA), .int .i64 (q.pH), .int .i64 (q.pA)] 77 ∧ Mine 37 B X (.slice (some ⟨g, 0, none⟩) p.cells.length cp) (q.cells.set k { x with owed := SUM }) ∧ Below B w X ∧ w.heap.size ≤ X.heap.size) ⟨r1, hmY, hbY, hzY⟩ ?_
            rintro X ⟨r1, hmX, hbX, hzX⟩
            refine held_walk (fun w' => Blk w' s #[.slice (some ⟨g, 0, none⟩) p.cells.length cp, .int .i64 (q.bottles), .int .i64 (q.inH), .int .i64 (q.inA), .int .i64 (q.vH), .int .i64 (q.vA), .int .i64 (q.lH), .int .i64 (q.lA), .int .i64 (q.pH), .int .i64 (q.pA)] 77) [(true, 0), (true, 1), (true, 2), (true, 3), (true, 4), (true, 5), (true, 6), (true, 7), (false, 8), (false, 9), (true, 10), (true, 11), (true, 12), (false, 13)] 13 (by kernel_rfl) (by kernel_rfl) (fun c a d v w h => by cases d <;> exact h) r1.drew ?_
            simp only [List.filterMap_cons, List.filterMap_nil, List.getElem?_cons_zero, List.getElem?_cons_succ, Option.map_some]
            iterate 8 ((first | (refine held_take ?_ ?_ (fun w' hS => ?_) ?_; rotate_left 1; (focus rfl); (focus (first | (go_simp; done) | (go_simp; with_reducible rfl) | (obtain hS := hS; have k0 := hS.cell 0; have k1 := hS.cell 1; have k2 := hS.cell 2; have k3 := hS.cell 3; have k4 := hS.cell 4; have k5 := hS.cell 5; have k6 := hS.cell 6; have k7 := hS.cell 7; have k8 := hS.cell 8; have k9 := hS.cell 9; simp at k0 k1 k2 k3 k4 k5 k6 k7 k8 k9; first | (go_simp; done) | (go_simp; with_reducible rfl))))) | (refine held_pass ?_ ?_; (focus rfl))); simp only [Act.put, List.setIfInBounds_toArray, List.set_cons_zero, List.set_cons_succ])
            refine held_one ?_
            refine wpList_plain rfl fun K1 hK1 => ?_
            go_wp2_with (go_at_call 58; (with_reducible refine (HOUT _ hmX.drew).mono ?_); rintro e w2 ⟨rfl, hm2, hw2, hbes2⟩)
            refine held_on (Besides.blk hbes2 (by decide) r1.drew) ?_
            refine held_one ?_
            refine wpList_plain rfl fun K1 hK1 => ?_
            go_wp2_with (go_at_call 55; (with_reducible refine (f_plus _ _ _ _ _ (by omega) (by omega) (by omega) (by omega)).mono ?_); rintro e w3 ⟨rfl, hb3⟩)
            refine held_on ((Besides.blk hbes2 (by decide) r1.drew).keep hb3) ?_
            iterate 3 ((first | (refine held_take ?_ ?_ (fun w' hS => ?_) ?_; rotate_left 1; (focus rfl); (focus (first | (go_simp; done) | (go_simp; with_reducible rfl) | (obtain hS := hS; have k0 := hS.cell 0; have k1 := hS.cell 1; have k2 := hS.cell 2; have k3 := hS.cell 3; have k4 := hS.cell 4; have k5 := hS.cell 5; have k6 := hS.cell 6; have k7 := hS.cell 7; have k8 := hS.cell 8; have k9 := hS.cell 9; simp at k0 k1 k2 k3 k4 k5 k6 k7 k8 k9; first | (go_simp; done) | (go_simp; with_reducible rfl))))) | (refine held_pass ?_ ?_; (focus rfl))); simp only [Act.put, List.setIfInBounds_toArray, List.set_cons_zero, List.set_cons_succ])
            refine held_one ?_
            refine wpList_plain rfl fun K1 hK1 => ?_
            have z1 : Blk w3 s #[.slice (some ⟨g, 0, none⟩) p.cells.length cp, .int .i64 (q.bottles), .int .i64 (q.inH), .int .i64 (q.inA), .int .i64 (q.vH), .int .i64 (q.vA), .int .i64 (q.lH), .int .i64 (q.lA), .int .i64 (q.pH), .int .i64 (q.pA)] 77 := (Besides.blk hbes2 (by decide) r1.drew).keep hb3
            have z1c0 := z1.cell 0
            have z1f0 := z1.free 0
            have z1c1 := z1.cell 1
            have z1f1 := z1.free 1
            have z1c2 := z1.cell 2
            have z1f2 := z1.free 2
            have z1c3 := z1.cell 3
            have z1f3 := z1.free 3
            have z1c4 := z1.cell 4
            have z1f4 := z1.free 4
            have z1c5 := z1.cell 5
            have z1f5 := z1.free 5
            have z1c6 := z1.cell 6
            have z1f6 := z1.free 6
            have z1c7 := z1.cell 7
            have z1f7 := z1.free 7
            have z1c8 := z1.cell 8
            have z1f8 := z1.free 8
            have z1c9 := z1.cell 9
            have z1f9 := z1.free 9
            have z1l := z1.lt
            simp at z1c0 z1c1 z1c2 z1c3 z1c4 z1c5 z1c6 z1c7 z1c8 z1c9
            go_wp2
            (first | refine held_end ?_ | (refine onward_on ?_; first | refine held_nil ?_ | refine ⟨.inl trivial, held_nil ?_⟩ | refine ⟨.inl rfl, held_nil ?_⟩))
            go_upto_region 12 with fail
            have e1 : X.heap.size ≤ w2.heap.size := hw2.size
            have e2 := hb3.size
            refine at_world (S := fun Z => Blk Z s #[.slice (some ⟨g, 0, none⟩) p.cells.length cp, .int .i64 (q.bottles), .int .i64 (q.inH), .int .i64 (q.inA), .int .i64 (q.vH), .int .i64 (q.vA), .int .i64 (q.lH + T), .int .i64 (q.lA + (L - T)), .int .i64 (q.pH), .int .i64 (q.pA)] 77 ∧ Mine 37 B Z (.slice (some ⟨g, 0, none⟩) p.cells.length cp) ((q.cells.set k { x with owed := SUM }).set k (less { x with owed := SUM } L)) ∧ Below B w Z ∧ w.heap.size ≤ Z.heap.size) ⟨(z1.set 6 _).set 7 _, ((hm2.keep hb3).other z1 (by decide) _).other (z1.set 6 _) (by decide) _, (((((hbX.drew).trans hw2).trans (hb3.mono (by omega))).setCell hB _).setCell hB _), by simp [World.setCell]; omega⟩ ?_
            rintro Z ⟨r1, hmZ, hbZ, hzZ⟩
            clear z1c0 z1f0 z1c1 z1f1 z1c2 z1f2 z1c3 z1f3 z1c4 z1f4 z1c5 z1f5 z1c6 z1f6 z1c7 z1f7 z1c8 z1f8 z1c9 z1f9 z1l
            have hkZ : k < ((q.cells.set k { x with owed := SUM }).set k (less { x with owed := SUM } L)).length := by simpa using hkq
            obtain ⟨_, cuz, hge, _, hcz, _, _, _, _, _, _, c6⟩ := hmZ.at hkZ
            cases hge
            rw [List.getElem_set_self] at c6
            have d6 : Z.cell? ⟨g, k * 7 + 6, none⟩ = some (.int .i64 SUM) := c6
            clear c6
            have zf := hcz.free (k * 7 + 6)
            go_wp2
            go_roundw
            case rel =>
              refine ⟨k + 1, by omega, by go_num, ?_, ?_, hbZ.setCell hBg _, by simpa [World.setCell] using hzZ⟩
              · rw [HNX.out]
                exact (r1.other (a := ⟨g, k * 7 + 6, none⟩) (fun he => by simp only at he; subst he; have := r1.symm.trans hcz; simp at this) _).cast (by simp [leakAt, HAT.out, ← HLL.out, HTT.out])
              · have q1 := hmZ.put (i := k) (j := 6) (c := less { x with owed := SUM } L) (u := .int .i64 (SUM % 1000000)) { less { x with owed := SUM } L with owed := SUM % 1000000 } (List.getElem?_set_self (by simpa using hkq)) (by decide) rfl
                rw [List.set_set, List.set_set] at q1
                rw [HNX.out]
                have e : leakC x = { less { x with owed := SUM } L with owed := SUM % 1000000 } := by
                  unfold leakC
                  rw [HSU.out, ← HLL.out]
                  rfl
                have ec : (leakAt q k).cells = q.cells.set k (leakC x) := by simp [leakAt, HAT.out]
                rw [ec, e]
                exact q1
            case measure => simp [intOf]; omega
          · have hlt1 : decide (0 < L) = false := by simp; omega
            obtain ⟨e1, e2⟩ := hsmall.out hpos
            have HL0 := Lib.hid e1
            have HE2 := Lib.hid e2
            clear e1 e2
            go_wp2
            go_roundw
            case rel => exact ⟨k + 1, by omega, by go_num, by rw [HNX.out]; exact r1.cast (by simp [leakAt, HAT.out, ← HLL.out, HL0.out, shareH]), by rw [HNX.out]; simpa [leakAt, HAT.out, HE2.out] using hmY, hbY, hzY⟩
            case measure => simp [intOf]; omega
        · obtain rfl : k = p.cells.length := by omega
          clear HNX
          go_wp2
          go_roundw
          case rel => exact ⟨j + 1, by omega, by go_num, by rw [hq] at r0; exact r0, by rw [hq] at hmW; exact hmW, hbW, hzW⟩
          case measure => simp [intOf]; omega
    · obtain rfl : j = N := by omega
      go_wp2
      go_end0
      exact ⟨rfl, ⟨hB, r0.cast (by simp [plantCells, tickP, HN.out, HLEN.out]), by simpa [tickP, HN.out, HLEN.out] using hmW⟩, hbW⟩

end Go.Proofs.YtamnnjdfjffhlaaGreatDoor

/-
  The reference: twins, ticks.
-/
namespace Go.Proofs.YtamnnjdfjffhlaaGreatDoor
open Go.RowKit Bal Bal.Trim Bal.Gas
set_option linter.unusedVariables false
set_option linter.unusedSimpArgs false
set_option maxHeartbeats 8000000
set_option maxRecDepth 100000

/-- THE COPY OF A LIST: append to an empty slice of the call's own; what is beside it stays -/
theorem wpList_copyO {α : Type} {enc : α → List Value} {P : Program} {w0 w : World} {ops : Array Oper} {rest : List Oper} {o : Oper} {a : Act} {Q : Exit → Act → World → Prop} (hgd : o.guard = none) (s x : Operand) (t : TypeId)
    (ho : o.op = .call { callee := .builtin .append, args := #[s, x], argTypes := #[t, t] })
    (base : Nat) (e : TypeId) (z : Value) (size bytes : Nat) (ht : P.underlying t = some (.slice e)) (hinfo : (P.info? e).map (fun i => (i.zero, i.size, i.bytes)) = some (some z, size, bytes))
    (hzs : z.cells.size = size) (hsz : 0 < size) (he : ∀ x : α, (enc x).length = size) (h1 : ∀ (x : α), ∀ u ∈ enc x, u.oneCell' = true)
    (n : Nat) (hn : n = w.heap.size) (hs : a.eval s = .slice (some ⟨n, 0, none⟩) 0 0)
    (ad : Option Addr) (c : Nat) (ys : List α) (hx : a.eval x = .slice ad ys.length c) (hc : ad = none → c = 0) (hrow : Row enc size w0.heap.size w0 ad ys) (hk : Kept w0 w) (hbase : base = w0.heap.size)
    (h63 : ys.length ≤ 1000000) (hbytes : bytes ≤ 100000)
    (h : ∀ ad' cp w', w'.ownsRow base e size (.slice ad' ys.length cp) ys.length (ys.flatMap enc) → (∀ b arr t', t' ≠ e → Blk w b arr t' → Blk w' b arr t') → Kept w0 w' → wpList P ops Q rest (a.put o.dst (.slice ad' ys.length cp)) w') :
    wpList P ops Q (o :: rest) a (w.alloc (.cells #[] e)) := by
  subst hbase
  obtain ⟨i, hi, hz, hsize, hby⟩ := info_parts hinfo
  have hsz0 := hk.size
  have hown0 : (w.alloc (.cells #[] e)).ownsRow w0.heap.size e size (.slice (some ⟨n, 0, none⟩) 0 0) ([] : List α).length (([] : List α).flatMap enc) := owns_made hn hsz0
  have hm : ys.length * bytes ≤ 1000000 * 100000 := Nat.mul_le_mul h63 hbytes
  refine wpList_append_list hgd s x t ho w0.heap.size e i z size bytes ht hi hz hsize hby hzs hsz he h1 _ [] hs hown0 ad c ys hx hc (hrow.keep (Kept.alloc hk _) (Nat.le_refl _)) (by simp [maxLen]; omega) (by simp; omega) (by show w0.heap.size ≤ (w.heap.push _).size; simp; omega) ?_
  intro v' w' hown hgrow
  have hk' : Kept w0 w' := Kept.grown (Kept.alloc hk _) hown0 (Nat.le_refl _) hgrow
  rw [List.nil_append] at hown
  obtain ⟨ad', cp', rfl, _⟩ := Row.of_owns he hown
  exact h ad' cp' w' hown (fun b arr t' hne hb => Blk.grown (hb.alloc _) hown0 hne hgrow) hk'

theorem r_Twin (p : Plant) (a : Option Addr) (cap : Nat) (w : World) (hx : Row Cell.cells 7 w.heap.size w a p.cells) (hn : p.cells.length ≤ 1000) (hz : a = none → cap = 0) :
    Calls Tryz.prog 7 #[.agg #[.slice a p.cells.length cap, .int .i64 p.bottles, .int .i64 p.inH, .int .i64 p.inA, .int .i64 p.vH, .int .i64 p.vA, .int .i64 p.lH, .int .i64 p.lA, .int .i64 p.pH, .int .i64 p.pA]] w fun e w' => ∃ ad cp, e = .returned (.agg #[.slice ad p.cells.length cp, .int .i64 p.bottles, .int .i64 p.inH, .int .i64 p.inA, .int .i64 p.vH, .int .i64 p.vA, .int .i64 p.lH, .int .i64 p.lA, .int .i64 p.pH, .int .i64 p.pA]) ∧ Mine 37 w.heap.size w' (.slice ad p.cells.length cp) p.cells ∧ Kept w w' := by
  go_enter Tryz.func7, Tryz.ntmps7
  go_wp2_with (at_builtin; refine wpList_copyO (enc := Cell.cells) (w0 := w) (w := (w.alloc (.cells #[.slice a p.cells.length cap, .int .i64 p.bottles, .int .i64 p.inH, .int .i64 p.inA, .int .i64 p.vH, .int .i64 p.vA, .int .i64 p.lH, .int .i64 p.lA, .int .i64 p.pH, .int .i64 p.pA] 26)).alloc (.cells #[.slice none 0 0, .int .i64 0, .int .i64 0, .int .i64 0, .int .i64 0, .int .i64 0, .int .i64 0, .int .i64 0, .int .i64 0, .int .i64 0] 26)) rfl _ _ 22 rfl w.heap.size 37 (.agg #[.int .i64 0, .int .i64 0, .int .i64 0, .int .i64 0, .int .i64 0, .int .i64 0, .int .i64 0]) 7 56 Tryz.underlying22 infoCell rfl (by decide) cells_len (fun x u hu => by simp [Cell.cells] at hu; rcases hu with rfl | rfl | rfl | rfl | rfl | rfl | rfl <;> rfl) _ (by simp) rfl a cap p.cells rfl hz hx (by (exact kpt)) rfl (by omega) (by decide) ?_; intro ad cp w9 hown hB hk9; have r0 : Blk w9 w.heap.size #[.slice a p.cells.length cap, .int .i64 p.bottles, .int .i64 p.inH, .int .i64 p.inA, .int .i64 p.vH, .int .i64 p.vA, .int .i64 p.lH, .int .i64 p.lA, .int .i64 p.pH, .int .i64 p.pA] 26 := hB _ _ _ (by decide) (by (exact blkc)); have r1 : Blk w9 (w.heap.size + 1) #[.slice none 0 0, .int .i64 0, .int .i64 0, .int .i64 0, .int .i64 0, .int .i64 0, .int .i64 0, .int .i64 0, .int .i64 0, .int .i64 0] 26 := hB _ _ _ (by decide) (by (exact blkc)); clear hB; have r0c0 := r0.cell 0; have r0f0 := r0.free 0; have r0c1 := r0.cell 1; have r0f1 := r0.free 1; have r0c2 := r0.cell 2; have r0f2 := r0.free 2; have r0c3 := r0.cell 3; have r0f3 := r0.free 3; have r0c4 := r0.cell 4; have r0f4 := r0.free 4; have r0c5 := r0.cell 5; have r0f5 := r0.free 5; have r0c6 := r0.cell 6; have r0f6 := r0.free 6; have r0c7 := r0.cell 7; have r0f7 := r0.free 7; have r0c8 := r0.cell 8; have r0f8 := r0.free 8; have r0c9 := r0.cell 9; have r0f9 := r0.free 9; have r0l := r0.lt; simp at r0c0 r0c1 r0c2 r0c3 r0c4 r0c5 r0c6 r0c7 r0c8 r0c9; have r1c0 := r1.cell 0; have r1f0 := r1.free 0; have r1c1 := r1.cell 1; have r1f1 := r1.free 1; have r1c2 := r1.cell 2; have r1f2 := r1.free 2; have r1c3 := r1.cell 3; have r1f3 := r1.free 3; have r1c4 := r1.cell 4; have r1f4 := r1.free 4; have r1c5 := r1.cell 5; have r1f5 := r1.free 5; have r1c6 := r1.cell 6; have r1f6 := r1.free 6; have r1c7 := r1.cell 7; have r1f7 := r1.free 7; have r1c8 := r1.cell 8; have r1f8 := r1.free 8; have r1c9 := r1.cell 9; have r1f9 := r1.free 9; have r1l := r1.lt; simp at r1c0 r1c1 r1c2 r1c3 r1c4 r1c5 r1c6 r1c7 r1c8 r1c9)
  refine bodyPost_ret (v := .agg #[.slice ad p.cells.length cp, .int .i64 p.bottles, .int .i64 p.inH, .int .i64 p.inA, .int .i64 p.vH, .int .i64 p.vA, .int .i64 p.lH, .int .i64 p.lA, .int .i64 p.pH, .int .i64 p.pA]) (by simp [results, Tryz.results7, go_sem, r1c0, r1f0, r1c1, r1f1, r1c2, r1f2, r1c3, r1f3, r1c4, r1f4, r1c5, r1f5, r1c6, r1f6, r1c7, r1f7, r1c8, r1f8, r1c9, r1f9, r0c0, r0f0, r0c1, r0f1, r0c2, r0f2, r0c3, r0f3, r0c4, r0f4, r0c5, r0f5, r0c6, r0f6, r0c7, r0f7, r0c8, r0f8, r0c9, r0f9]) rfl ⟨ad, cp, rfl, ?_, ?_⟩
  · have hm := Mine.of_owns hown
    have hn0 := hm.ne r0 (by decide)
    have hn1 := hm.ne r1 (by decide)
    (repeat (with_reducible refine Mine.off ?_ (by with_reducible assumption) _))
    exact hm
  · (exact kpt)

end Go.Proofs.YtamnnjdfjffhlaaGreatDoor

/-
  The program: Do, the closure that recovers.
-/
namespace Go.Proofs.YtamnnjdfjffhlaaGreatDoor
open Go.RowKit Bal Bal.Trim Bal.Gas
set_option linter.unusedVariables false
set_option linter.unusedSimpArgs false
set_option maxHeartbeats 8000000
set_option maxRecDepth 100000

theorem catch_idle (p q : Addr) (w : World) :
    CallsD Tryz.prog 19 #[.pointer (some p), .pointer (some q)] .returning w fun e u' w' => e = .returned (.tuple #[]) ∧ u' = .returning ∧ w' = w := by
  refine callsD_of_wpS Tryz.func19 rfl fun c₀ cs hu => ?_
  apply wpS_seq
  apply wpS_region
  simp [wpOpsS, go_sem, recoverD, hu, Tryz.ntmps19, Exit.thenS]
  refine wpS_of_wp ?_
  show Code.wp _ _ _ { tmps := #[.pointer (some p), .pointer (some q), .nilIface, .nilIface, undef, undef, undef, undef, undef, undef], defers := [] } w
  go_wp2
  exact ⟨rfl, .returning, by cases c₀; simp_all, .tuple #[], by simp [results, Tryz.results19, go_sem], rfl, rfl, rfl⟩
theorem catch_panics (b1 b2 : Nat) (n : Int) (w : World) (h1 : Blk w b1 #[.slice none 0 0, .int .i64 0, .int .i64 0, .int .i64 0, .int .i64 0, .int .i64 0, .int .i64 0, .int .i64 0, .int .i64 0, .int .i64 0] 26) (h2 : Blk w b2 #[.int .i64 0] 40) :
    CallsD Tryz.prog 19 #[.pointer (some ⟨b1, 0, none⟩), .pointer (some ⟨b2, 0, none⟩)] (.panicking [{ v := refusal n, recovered := false }]) w fun e u' w' => e = .returned (.tuple #[]) ∧ u' = .panicking [{ v := refusal n, recovered := true }] ∧
      Blk w' b1 #[.slice none 0 0, .int .i64 0, .int .i64 0, .int .i64 0, .int .i64 0, .int .i64 0, .int .i64 0, .int .i64 0, .int .i64 0, .int .i64 0] 26 ∧ Blk w' b2 #[.int .i64 n] 40 ∧ (∀ B, B ≤ b1 → B ≤ b2 → Below B w w') := by
  have hta : ∀ w : World, (Instr.typeAssert (.iface 69 (.agg #[.int .i64 n])) 20 69 false).run Tryz.prog w = .ok (.agg #[.int .i64 n]) w := fun w => by kernel_rfl
  have hfd : ∀ w : World, (Instr.field 69 (.agg #[.int .i64 n]) 0).run Tryz.prog w = .ok (.int .i64 n) w := fun w => by kernel_rfl
  refine callsD_of_wpS Tryz.func19 rfl fun c₀ cs hu => ?_
  apply wpS_seq
  apply wpS_region
  simp [wpOpsS, go_sem, recoverD, hu, Tryz.ntmps19, Exit.thenS]
  refine wpS_of_wp ?_
  show Code.wp _ _ _ { tmps := #[.pointer (some ⟨b1, 0, none⟩), .pointer (some ⟨b2, 0, none⟩), .iface 69 (.agg #[.int .i64 n]), .iface 69 (.agg #[.int .i64 n]), undef, undef, undef, undef, undef, undef], defers := [] } w
  go_wp2
  have h1c0 := h1.cell 0
  have h1f0 := h1.free 0
  have h1c1 := h1.cell 1
  have h1f1 := h1.free 1
  have h1c2 := h1.cell 2
  have h1f2 := h1.free 2
  have h1c3 := h1.cell 3
  have h1f3 := h1.free 3
  have h1c4 := h1.cell 4
  have h1f4 := h1.free 4
  have h1c5 := h1.cell 5
  have h1f5 := h1.free 5
  have h1c6 := h1.cell 6
  have h1f6 := h1.free 6
  have h1c7 := h1.cell 7
  have h1f7 := h1.free 7
  have h1c8 := h1.cell 8
  have h1f8 := h1.free 8
  have h1c9 := h1.cell 9
  have h1f9 := h1.free 9
  have h1l := h1.lt
  simp at h1c0 h1c1 h1c2 h1c3 h1c4 h1c5 h1c6 h1c7 h1c8 h1c9
  have h2c0 := h2.cell 0
  have h2f0 := h2.free 0
  have h2l := h2.lt
  simp at h2c0
  have hne : b1 ≠ b2 := fun he => by subst he; have := h1.symm.trans h2; simp at this
  go_region
  refine ⟨rfl, .panicking [{ v := refusal n, recovered := true }], rfl, .tuple #[], by simp [results, Tryz.results19, go_sem], rfl, rfl, ?_, ?_, fun B k1 k2 => ?_⟩
  · exact (Blk.drew ((((((((((((h1).set 0 _).set 1 _).set 2 _).set 3 _).set 4 _).set 5 _).set 6 _).set 7 _).set 8 _).set 9 _).other (by simp; omega) _)).cast (by simp)
  · exact (Blk.drew ((((((((((((h2).other (by simp; omega) _).other (by simp; omega) _).other (by simp; omega) _).other (by simp; omega) _).other (by simp; omega) _).other (by simp; omega) _).other (by simp; omega) _).other (by simp; omega) _).other (by simp; omega) _).other (by simp; omega) _).set 0 _)).cast (by simp)
  · exact Below.drew (((((((((((((Below.refl B w)).setCell k1 _).setCell k1 _).setCell k1 _).setCell k1 _).setCell k1 _).setCell k1 _).setCell k1 _).setCell k1 _).setCell k1 _).setCell k1 _).setCell k2 _)

end Go.Proofs.YtamnnjdfjffhlaaGreatDoor

/-
  The program: Do, its early ends.
-/
namespace Go.Proofs.YtamnnjdfjffhlaaGreatDoor
open Go.RowKit Bal Bal.Trim Bal.Gas
set_option linter.unusedVariables false
set_option linter.unusedSimpArgs false
set_option maxHeartbeats 8000000
set_option maxRecDepth 100000

theorem f_Do_bad (p : Plant) (d : Deed) (a : Option Addr) (cap : Nat) (w : World) (hx : Row Cell.cells 7 w.heap.size w a p.cells) (hc : p.cells.length ≤ cap) (hM : cap ≤ maxLen) (hz : a = none → cap = 0) (hp : plantB p = false) : Calls Tryz.prog 9 #[.agg #[.slice a p.cells.length cap, .int .i64 p.bottles, .int .i64 p.inH, .int .i64 p.inA, .int .i64 p.vH, .int .i64 p.vA, .int .i64 p.lH, .int .i64 p.lA, .int .i64 p.pH, .int .i64 p.pA], .agg #[.int .u8 d.kind, .int .i64 d.cell, .int .i64 d.to, .int .i64 d.n]] w fun e w' => e = .returned (.tuple #[.agg #[.slice none 0 0, .int .i64 0, .int .i64 0, .int .i64 0, .int .i64 0, .int .i64 0, .int .i64 0, .int .i64 0, .int .i64 0, .int .i64 0], .int .i64 32]) ∧ Kept w w' := by
  have HP := Lib.hid (show plantE p = 32 by simp [plantE, hp])
  clear hp
  go_enter_defers Tryz.func9, Tryz.ntmps9
  go_upto_region 3 with (go_at_call 18; (with_reducible refine (f_Check p a cap _ (hx.later (by (exact kpt)) (Nat.le_refl _)) hc hM).mono ?_); rw [HP.out]; rintro e w1 ⟨rfl, hb1⟩; refine Blk.thru (b := w.heap.size) (arr := ?_) (t := ?_) ?_ hb1 ?_; rotate_left 2; (focus (exact blk)); intro rr; have rrc0 := rr.cell 0; have rrf0 := rr.free 0; have rrc1 := rr.cell 1; have rrf1 := rr.free 1; have rrc2 := rr.cell 2; have rrf2 := rr.free 2; have rrc3 := rr.cell 3; have rrf3 := rr.free 3; have rrc4 := rr.cell 4; have rrf4 := rr.free 4; have rrc5 := rr.cell 5; have rrf5 := rr.free 5; have rrc6 := rr.cell 6; have rrf6 := rr.free 6; have rrc7 := rr.cell 7; have rrf7 := rr.free 7; have rrc8 := rr.cell 8; have rrf8 := rr.free 8; have rrc9 := rr.cell 9; have rrf9 := rr.free 9; have rrl := rr.lt; simp at rrc0 rrc1 rrc2 rrc3 rrc4 rrc5 rrc6 rrc7 rrc8 rrc9; refine Blk.thru (b := (w.heap.size + 1)) (arr := ?_) (t := ?_) ?_ hb1 ?_; rotate_left 2; (focus (exact blk)); intro rq; have rqc0 := rq.cell 0; have rqf0 := rq.free 0; have rqc1 := rq.cell 1; have rqf1 := rq.free 1; have rqc2 := rq.cell 2; have rqf2 := rq.free 2; have rqc3 := rq.cell 3; have rqf3 := rq.free 3; have rql := rq.lt; simp at rqc0 rqc1 rqc2 rqc3)
  refine at_world (S := fun W => Blk W w.heap.size #[.slice a p.cells.length cap, .int .i64 p.bottles, .int .i64 p.inH, .int .i64 p.inA, .int .i64 p.vH, .int .i64 p.vA, .int .i64 p.lH, .int .i64 p.lA, .int .i64 p.pH, .int .i64 p.pA] 26 ∧ Blk W (w.heap.size + 1) #[.int .u8 d.kind, .int .i64 d.cell, .int .i64 d.to, .int .i64 d.n] 44 ∧ Blk W (w.heap.size + 1 + 1) #[.slice none 0 0, .int .i64 0, .int .i64 0, .int .i64 0, .int .i64 0, .int .i64 0, .int .i64 0, .int .i64 0, .int .i64 0, .int .i64 0] 26 ∧ Blk W (w.heap.size + 1 + 1 + 1) #[.int .i64 0] 40 ∧ Kept w W) ⟨by (exact blkc), by (exact blkc), by (exact blkc), by (exact blkc), by (exact kpt)⟩ ?_
  rintro W ⟨b0, b1, b2, b3, hk⟩
  have b0c0 := b0.cell 0
  have b0f0 := b0.free 0
  have b0c1 := b0.cell 1
  have b0f1 := b0.free 1
  have b0c2 := b0.cell 2
  have b0f2 := b0.free 2
  have b0c3 := b0.cell 3
  have b0f3 := b0.free 3
  have b0c4 := b0.cell 4
  have b0f4 := b0.free 4
  have b0c5 := b0.cell 5
  have b0f5 := b0.free 5
  have b0c6 := b0.cell 6
  have b0f6 := b0.free 6
  have b0c7 := b0.cell 7
  have b0f7 := b0.free 7
  have b0c8 := b0.cell 8
  have b0f8 := b0.free 8
  have b0c9 := b0.cell 9
  have b0f9 := b0.free 9
  have b0l := b0.lt
  simp at b0c0 b0c1 b0c2 b0c3 b0c4 b0c5 b0c6 b0c7 b0c8 b0c9
  have b1c0 := b1.cell 0
  have b1f0 := b1.free 0
  have b1c1 := b1.cell 1
  have b1f1 := b1.free 1
  have b1c2 := b1.cell 2
  have b1f2 := b1.free 2
  have b1c3 := b1.cell 3
  have b1f3 := b1.free 3
  have b1l := b1.lt
  simp at b1c0 b1c1 b1c2 b1c3
  have b2c0 := b2.cell 0
  have b2f0 := b2.free 0
  have b2c1 := b2.cell 1
  have b2f1 := b2.free 1
  have b2c2 := b2.cell 2
  have b2f2 := b2.free 2
  have b2c3 := b2.cell 3
  have b2f3 := b2.free 3
  have b2c4 := b2.cell 4
  have b2f4 := b2.free 4
  have b2c5 := b2.cell 5
  have b2f5 := b2.free 5
  have b2c6 := b2.cell 6
  have b2f6 := b2.free 6
  have b2c7 := b2.cell 7
  have b2f7 := b2.free 7
  have b2c8 := b2.cell 8
  have b2f8 := b2.free 8
  have b2c9 := b2.cell 9
  have b2f9 := b2.free 9
  have b2l := b2.lt
  simp at b2c0 b2c1 b2c2 b2c3 b2c4 b2c5 b2c6 b2c7 b2c8 b2c9
  have b3c0 := b3.cell 0
  have b3f0 := b3.free 0
  have b3l := b3.lt
  simp at b3c0
  go_wp2
  exact (show ∃ v, (results _ _).run _ _ = .ok v _ ∧ _ from ⟨.tuple #[.agg #[.slice none 0 0, .int .i64 0, .int .i64 0, .int .i64 0, .int .i64 0, .int .i64 0, .int .i64 0, .int .i64 0, .int .i64 0, .int .i64 0], .int .i64 32], by simp [results, Tryz.results9, go_sem, b2c0, b2f0, b2c1, b2f1, b2c2, b2f2, b2c3, b2f3, b2c4, b2f4, b2c5, b2f5, b2c6, b2f6, b2c7, b2f7, b2c8, b2f8, b2c9, b2f9, b3c0, b3f0], rfl, by (exact kpt)⟩)
theorem f_Do_kind (p : Plant) (d : Deed) (a : Option Addr) (cap : Nat) (w : World) (hx : Row Cell.cells 7 w.heap.size w a p.cells) (hc : p.cells.length ≤ cap) (hM : cap ≤ maxLen) (hz : a = none → cap = 0) (hp : plantB p = true) (hk0 : -9223372036854775808 ≤ d.kind ∧ d.kind ≤ 9223372036854775807) (hk : inB d.kind 1 7 = false) : Calls Tryz.prog 9 #[.agg #[.slice a p.cells.length cap, .int .i64 p.bottles, .int .i64 p.inH, .int .i64 p.inA, .int .i64 p.vH, .int .i64 p.vA, .int .i64 p.lH, .int .i64 p.lA, .int .i64 p.pH, .int .i64 p.pA], .agg #[.int .u8 d.kind, .int .i64 d.cell, .int .i64 d.to, .int .i64 d.n]] w fun e w' => e = .returned (.tuple #[.agg #[.slice none 0 0, .int .i64 0, .int .i64 0, .int .i64 0, .int .i64 0, .int .i64 0, .int .i64 0, .int .i64 0, .int .i64 0, .int .i64 0], .int .i64 2]) ∧ Kept w w' := by
  have HP := Lib.hid (show plantE p = 0 by simp [plantE, hp])
  have H1 := Lib.hid (show rng [d.kind] 1 7 = false by simpa [rng] using hk)
  have hw := i64_inx hk0
  clear hp hk
  have hmf : ∀ (fn : Fn) (first cap : Array Value) (w : World), (Instr.makeFunc fn first cap).run Tryz.prog w = .ok (.func fn first cap) w := fun _ _ _ _ => rfl
  go_enter_defers Tryz.func9, Tryz.ntmps9
  go_upto_region 4 with (go_at_call 18; (with_reducible refine (f_Check p a cap _ (hx.later (by (exact kpt)) (Nat.le_refl _)) hc hM).mono ?_); rw [HP.out]; rintro e w1 ⟨rfl, hb1⟩; refine Blk.thru (b := w.heap.size) (arr := ?_) (t := ?_) ?_ hb1 ?_; rotate_left 2; (focus (exact blk)); intro rr; have rrc0 := rr.cell 0; have rrf0 := rr.free 0; have rrc1 := rr.cell 1; have rrf1 := rr.free 1; have rrc2 := rr.cell 2; have rrf2 := rr.free 2; have rrc3 := rr.cell 3; have rrf3 := rr.free 3; have rrc4 := rr.cell 4; have rrf4 := rr.free 4; have rrc5 := rr.cell 5; have rrf5 := rr.free 5; have rrc6 := rr.cell 6; have rrf6 := rr.free 6; have rrc7 := rr.cell 7; have rrf7 := rr.free 7; have rrc8 := rr.cell 8; have rrf8 := rr.free 8; have rrc9 := rr.cell 9; have rrf9 := rr.free 9; have rrl := rr.lt; simp at rrc0 rrc1 rrc2 rrc3 rrc4 rrc5 rrc6 rrc7 rrc8 rrc9; refine Blk.thru (b := (w.heap.size + 1)) (arr := ?_) (t := ?_) ?_ hb1 ?_; rotate_left 2; (focus (exact blk)); intro rq; have rqc0 := rq.cell 0; have rqf0 := rq.free 0; have rqc1 := rq.cell 1; have rqf1 := rq.free 1; have rqc2 := rq.cell 2; have rqf2 := rq.free 2; have rqc3 := rq.cell 3; have rqf3 := rq.free 3; have rql := rq.lt; simp at rqc0 rqc1 rqc2 rqc3)
  refine at_world (S := fun W => Blk W w.heap.size #[.slice a p.cells.length cap, .int .i64 p.bottles, .int .i64 p.inH, .int .i64 p.inA, .int .i64 p.vH, .int .i64 p.vA, .int .i64 p.lH, .int .i64 p.lA, .int .i64 p.pH, .int .i64 p.pA] 26 ∧ Blk W (w.heap.size + 1) #[.int .u8 d.kind, .int .i64 d.cell, .int .i64 d.to, .int .i64 d.n] 44 ∧ Blk W (w.heap.size + 1 + 1) #[.slice none 0 0, .int .i64 0, .int .i64 0, .int .i64 0, .int .i64 0, .int .i64 0, .int .i64 0, .int .i64 0, .int .i64 0, .int .i64 0] 26 ∧ Blk W (w.heap.size + 1 + 1 + 1) #[.int .i64 0] 40 ∧ Kept w W) ⟨by (exact blkc), by (exact blkc), by (exact blkc), by (exact blkc), by (exact kpt)⟩ ?_
  rintro W ⟨b0, b1, b2, b3, hk⟩
  have b0c0 := b0.cell 0
  have b0f0 := b0.free 0
  have b0c1 := b0.cell 1
  have b0f1 := b0.free 1
  have b0c2 := b0.cell 2
  have b0f2 := b0.free 2
  have b0c3 := b0.cell 3
  have b0f3 := b0.free 3
  have b0c4 := b0.cell 4
  have b0f4 := b0.free 4
  have b0c5 := b0.cell 5
  have b0f5 := b0.free 5
  have b0c6 := b0.cell 6
  have b0f6 := b0.free 6
  have b0c7 := b0.cell 7
  have b0f7 := b0.free 7
  have b0c8 := b0.cell 8
  have b0f8 := b0.free 8
  have b0c9 := b0.cell 9
  have b0f9 := b0.free 9
  have b0l := b0.lt
  simp at b0c0 b0c1 b0c2 b0c3 b0c4 b0c5 b0c6 b0c7 b0c8 b0c9
  have b1c0 := b1.cell 0
  have b1f0 := b1.free 0
  have b1c1 := b1.cell 1
  have b1f1 := b1.free 1
  have b1c2 := b1.cell 2
  have b1f2 := b1.free 2
  have b1c3 := b1.cell 3
  have b1f3 := b1.free 3
  have b1l := b1.lt
  simp at b1c0 b1c1 b1c2 b1c3
  have b2c0 := b2.cell 0
  have b2f0 := b2.free 0
  have b2c1 := b2.cell 1
  have b2f1 := b2.free 1
  have b2c2 := b2.cell 2
  have b2f2 := b2.free 2
  have b2c3 := b2.cell 3
  have b2f3 := b2.free 3
  have b2c4 := b2.cell 4
  have b2f4 := b2.free 4
  have b2c5 := b2.cell 5
  have b2f5 := b2.free 5
  have b2c6 := b2.cell 6
  have b2f6 := b2.free 6
  have b2c7 := b2.cell 7
  have b2f7 := b2.free 7
  have b2c8 := b2.cell 8
  have b2f8 := b2.free 8
  have b2c9 := b2.cell 9
  have b2f9 := b2.free 9
  have b2l := b2.lt
  simp at b2c0 b2c1 b2c2 b2c3 b2c4 b2c5 b2c6 b2c7 b2c8 b2c9
  have b3c0 := b3.cell 0
  have b3f0 := b3.free 0
  have b3l := b3.lt
  simp at b3c0
  go_wp2_with (first | (go_at_call 28; (with_reducible refine (f_ranged1 _ _ d.kind _ _ _ (by simp)).mono ?_); rw [H1.out]; rintro e w1 ⟨rfl, rfl⟩) | (go_at_call 27; (with_reducible refine (f_need_no _ _).mono ?_); rintro e w1 ⟨rfl, rfl⟩))
  refine leaves_cons (f := 19) (args := #[.pointer (some ⟨w.heap.size + 1 + 1, 0, none⟩), .pointer (some ⟨w.heap.size + 1 + 1 + 1, 0, none⟩)]) (by simp) (by simp [go_sem]) ?_
  refine (catch_panics _ _ 2 _ (by (exact blkc)) (by (exact blkc))).mono ?_
  rintro e u' w'' ⟨rfl, rfl, k1, k2, kb⟩
  have k1c0 := k1.cell 0
  have k1f0 := k1.free 0
  have k1c1 := k1.cell 1
  have k1f1 := k1.free 1
  have k1c2 := k1.cell 2
  have k1f2 := k1.free 2
  have k1c3 := k1.cell 3
  have k1f3 := k1.free 3
  have k1c4 := k1.cell 4
  have k1f4 := k1.free 4
  have k1c5 := k1.cell 5
  have k1f5 := k1.free 5
  have k1c6 := k1.cell 6
  have k1f6 := k1.free 6
  have k1c7 := k1.cell 7
  have k1f7 := k1.free 7
  have k1c8 := k1.cell 8
  have k1f8 := k1.free 8
  have k1c9 := k1.cell 9
  have k1f9 := k1.free 9
  have k1l := k1.lt
  simp at k1c0 k1c1 k1c2 k1c3 k1c4 k1c5 k1c6 k1c7 k1c8 k1c9
  have k2c0 := k2.cell 0
  have k2f0 := k2.free 0
  have k2l := k2.lt
  simp at k2c0
  exact (show ∃ v, (results _ _).run _ _ = .ok v _ ∧ _ from ⟨.tuple #[.agg #[.slice none 0 0, .int .i64 0, .int .i64 0, .int .i64 0, .int .i64 0, .int .i64 0, .int .i64 0, .int .i64 0, .int .i64 0, .int .i64 0], .int .i64 2], by simp [results, Tryz.results9, go_sem, k1c0, k1f0, k1c1, k1f1, k1c2, k1f2, k1c3, k1f3, k1c4, k1f4, k1c5, k1f5, k1c6, k1f6, k1c7, k1f7, k1c8, k1f8, k1c9, k1f9, k2c0, k2f0], rfl, by exact Below.trans (by (exact kpt)) (kb _ (by omega) (by omega))⟩)

end Go.Proofs.YtamnnjdfjffhlaaGreatDoor

/-
  The program's acts by their error.
-/
namespace Go.Proofs.YtamnnjdfjffhlaaGreatDoor
open Go.RowKit Bal Bal.Trim Bal.Gas
set_option linter.unusedVariables false
set_option linter.unusedSimpArgs false
set_option maxHeartbeats 4000000

theorem act1_no {B s cp : Nat} {ad : Option Addr} {p : Plant} {w : World} (d : Deed) (h : Shop 37 77 B w s ad cp p) (hp : plantB p = true) (hk : d.kind = 1) (he : errA p d ≠ 0) : Calls Tryz.prog 20 #[.pointer (some ⟨s, 0, none⟩), .agg #[.int .u8 d.kind, .int .i64 d.cell, .int .i64 d.to, .int .i64 d.n]] w fun e w' => e = .panicked [{ v := refusal (errA p d), recovered := false }] ∧ Kept w w' := by
  cases h1 : rng [d.n] 1 10000000
  · rw [show errA p d = 2 by simp [errA, hk, *]]
    exact f_buy_no d h hp h1
  · exact absurd (by simp [errA, hk, *]) he
theorem act1_ok {B s cp : Nat} {ad : Option Addr} {p : Plant} {w : World} (d : Deed) (h : Shop 37 77 B w s ad cp p) (hp : plantB p = true) (hk : d.kind = 1) (he : errA p d = 0) : Calls Tryz.prog 20 #[.pointer (some ⟨s, 0, none⟩), .agg #[.int .u8 d.kind, .int .i64 d.cell, .int .i64 d.to, .int .i64 d.n]] w fun e w' => e = .returned (.tuple #[]) ∧ Shop 37 77 B w' s ad cp (resA p d) ∧ Below B w w' := by
  cases h1 : rng [d.n] 1 10000000
  · simp [errA, hk, h1] at he
  · rw [show resA p d = buyP p d by simp [resA, hk]]
    exact f_buy_ok d h hp h1

theorem act2_no {B s cp : Nat} {ad : Option Addr} {p : Plant} {w : World} (d : Deed) (h : Shop 37 77 B w s ad cp p) (hp : plantB p = true) (hk : d.kind = 2) (he : errA p d ≠ 0) : Calls Tryz.prog 21 #[.pointer (some ⟨s, 0, none⟩), .agg #[.int .u8 d.kind, .int .i64 d.cell, .int .i64 d.to, .int .i64 d.n]] w fun e w' => e = .panicked [{ v := refusal (errA p d), recovered := false }] ∧ Kept w w' := by
  cases h1 : argB p d
  · rw [show errA p d = 2 by simp [errA, hk, *]]
    exact f_fill_no1 d h hp h1
  · by_cases h2 : p.bottles < d.n
    · rw [show errA p d = 6 by simp [errA, hk, *]]
      exact f_fill_no2 d h hp h1 h2
    · exact absurd (by simp [errA, hk, *]) he
theorem act2_ok {B s cp : Nat} {ad : Option Addr} {p : Plant} {w : World} (d : Deed) (h : Shop 37 77 B w s ad cp p) (hp : plantB p = true) (hk : d.kind = 2) (he : errA p d = 0) : Calls Tryz.prog 21 #[.pointer (some ⟨s, 0, none⟩), .agg #[.int .u8 d.kind, .int .i64 d.cell, .int .i64 d.to, .int .i64 d.n]] w fun e w' => e = .returned (.tuple #[]) ∧ Shop 37 77 B w' s ad cp (resA p d) ∧ Below B w w' := by
  cases h1 : argB p d
  · simp [errA, hk, h1] at he
  · by_cases h2 : p.bottles < d.n
    · simp [errA, hk, h1, h2] at he
    · rw [show resA p d = fillP p d by simp [resA, hk]]
      exact f_fill_ok d h hp h1 (by omega)

theorem act3_no {B s cp : Nat} {ad : Option Addr} {p : Plant} {w : World} (d : Deed) (h : Shop 37 77 B w s ad cp p) (hp : plantB p = true) (hk : d.kind = 3) (he : errA p d ≠ 0) : Calls Tryz.prog 22 #[.pointer (some ⟨s, 0, none⟩), .agg #[.int .u8 d.kind, .int .i64 d.cell, .int .i64 d.to, .int .i64 d.n]] w fun e w' => e = .panicked [{ v := refusal (errA p d), recovered := false }] ∧ Kept w w' := by
  cases h1 : argB p d
  · rw [show errA p d = 2 by simp [errA, hk, *]]
    exact f_valve_no1 d h hp h1
  · by_cases h2 : amount (at_ p d) < d.n
    · rw [show errA p d = 6 by simp [errA, hk, *]]
      exact f_valve_no2 d h hp h1 h2
    · exact absurd (by simp [errA, hk, *]) he
theorem act3_ok {B s cp : Nat} {ad : Option Addr} {p : Plant} {w : World} (d : Deed) (h : Shop 37 77 B w s ad cp p) (hp : plantB p = true) (hk : d.kind = 3) (he : errA p d = 0) : Calls Tryz.prog 22 #[.pointer (some ⟨s, 0, none⟩), .agg #[.int .u8 d.kind, .int .i64 d.cell, .int .i64 d.to, .int .i64 d.n]] w fun e w' => e = .returned (.tuple #[]) ∧ Shop 37 77 B w' s ad cp (resA p d) ∧ Below B w w' := by
  cases h1 : argB p d
  · simp [errA, hk, h1] at he
  · by_cases h2 : amount (at_ p d) < d.n
    · simp [errA, hk, h1, h2] at he
    · rw [show resA p d = valveP p d by simp [resA, hk]]
      exact f_valve_ok d h hp h1 h2

theorem act4_no {B s cp : Nat} {ad : Option Addr} {p : Plant} {w : World} (d : Deed) (h : Shop 37 77 B w s ad cp p) (hp : plantB p = true) (hk : d.kind = 4) (he : errA p d ≠ 0) : Calls Tryz.prog 23 #[.pointer (some ⟨s, 0, none⟩), .agg #[.int .u8 d.kind, .int .i64 d.cell, .int .i64 d.to, .int .i64 d.n]] w fun e w' => e = .panicked [{ v := refusal (errA p d), recovered := false }] ∧ Kept w w' := by
  cases h1 : argB p d
  · rw [show errA p d = 2 by simp [errA, hk, *]]
    exact f_move_no1 d h hp h1
  · cases h2 : rng [d.to] 0 (p.cells.length - 1)
    · have h5 : toB p d = false := by simp [toB, h2]
      rw [show errA p d = 2 by simp [errA, hk, *]]
      exact f_move_no2 d h hp h1 h2
    · by_cases h3 : d.to = d.cell
      · have h5 : toB p d = false := by simp [toB, h3]
        rw [show errA p d = 2 by simp [errA, hk, *]]
        exact f_move_no3 d h hp h1 h2 h3
      · have h5 : toB p d = true := by simp [toB, h2, h3]
        by_cases h4 : amount (at_ p d) < d.n
        · rw [show errA p d = 6 by simp [errA, hk, *]]
          exact f_move_no4 d h hp h1 h2 h3 h4
        · exact absurd (by simp [errA, hk, *]) he
theorem act4_ok {B s cp : Nat} {ad : Option Addr} {p : Plant} {w : World} (d : Deed) (h : Shop 37 77 B w s ad cp p) (hp : plantB p = true) (hk : d.kind = 4) (he : errA p d = 0) : Calls Tryz.prog 23 #[.pointer (some ⟨s, 0, none⟩), .agg #[.int .u8 d.kind, .int .i64 d.cell, .int .i64 d.to, .int .i64 d.n]] w fun e w' => e = .returned (.tuple #[]) ∧ Shop 37 77 B w' s ad cp (resA p d) ∧ Below B w w' := by
  cases h1 : argB p d
  · simp [errA, hk, h1] at he
  · cases h2 : rng [d.to] 0 (p.cells.length - 1)
    · simp [errA, hk, h1, toB, h2] at he
    · by_cases h3 : d.to = d.cell
      · simp [errA, hk, h1, toB, h3] at he
      · by_cases h4 : amount (at_ p d) < d.n
        · simp [errA, hk, h1, toB, h2, h3, h4] at he
        · rw [show resA p d = moveP p d by simp [resA, hk]]
          exact f_move_ok d h hp h1 h2 h3 h4

theorem act5_no {B s cp : Nat} {ad : Option Addr} {p : Plant} {w : World} (d : Deed) (h : Shop 37 77 B w s ad cp p) (hp : plantB p = true) (hk : d.kind = 5) (he : errA p d ≠ 0) : Calls Tryz.prog 24 #[.pointer (some ⟨s, 0, none⟩), .agg #[.int .u8 d.kind, .int .i64 d.cell, .int .i64 d.to, .int .i64 d.n]] w fun e w' => e = .panicked [{ v := refusal (errA p d), recovered := false }] ∧ Kept w w' := by
  cases h1 : argB p d
  · rw [show errA p d = 2 by simp [errA, hk, *]]
    exact f_purify_no1 d h hp h1
  · by_cases h2 : amount (at_ p d) < d.n
    · rw [show errA p d = 6 by simp [errA, hk, *]]
      exact f_purify_no2 d h hp h1 h2
    · exact absurd (by simp [errA, hk, *]) he
theorem act5_ok {B s cp : Nat} {ad : Option Addr} {p : Plant} {w : World} (d : Deed) (h : Shop 37 77 B w s ad cp p) (hp : plantB p = true) (hk : d.kind = 5) (he : errA p d = 0) : Calls Tryz.prog 24 #[.pointer (some ⟨s, 0, none⟩), .agg #[.int .u8 d.kind, .int .i64 d.cell, .int .i64 d.to, .int .i64 d.n]] w fun e w' => e = .returned (.tuple #[]) ∧ Shop 37 77 B w' s ad cp (resA p d) ∧ Below B w w' := by
  cases h1 : argB p d
  · simp [errA, hk, h1] at he
  · by_cases h2 : amount (at_ p d) < d.n
    · simp [errA, hk, h1, h2] at he
    · rw [show resA p d = purifyP p d by simp [resA, hk]]
      exact f_purify_ok d h hp h1 h2

theorem act6_no {B s cp : Nat} {ad : Option Addr} {p : Plant} {w : World} (d : Deed) (h : Shop 37 77 B w s ad cp p) (hp : plantB p = true) (hk : d.kind = 6) (he : errA p d ≠ 0) : Calls Tryz.prog 25 #[.pointer (some ⟨s, 0, none⟩), .agg #[.int .u8 d.kind, .int .i64 d.cell, .int .i64 d.to, .int .i64 d.n]] w fun e w' => e = .panicked [{ v := refusal (errA p d), recovered := false }] ∧ Kept w w' := by
  cases h1 : argB p d
  · rw [show errA p d = 2 by simp [errA, hk, *]]
    exact f_breathe_no d h hp h1
  · exact absurd (by simp [errA, hk, *]) he
theorem act6_ok {B s cp : Nat} {ad : Option Addr} {p : Plant} {w : World} (d : Deed) (h : Shop 37 77 B w s ad cp p) (hp : plantB p = true) (hk : d.kind = 6) (he : errA p d = 0) : Calls Tryz.prog 25 #[.pointer (some ⟨s, 0, none⟩), .agg #[.int .u8 d.kind, .int .i64 d.cell, .int .i64 d.to, .int .i64 d.n]] w fun e w' => e = .returned (.tuple #[]) ∧ Shop 37 77 B w' s ad cp (resA p d) ∧ Below B w w' := by
  cases h1 : argB p d
  · simp [errA, hk, h1] at he
  · rw [show resA p d = breatheP p d by simp [resA, hk]]
    exact f_breathe_ok d h hp h1

theorem act7_no {B s cp : Nat} {ad : Option Addr} {p : Plant} {w : World} (d : Deed) (h : Shop 37 77 B w s ad cp p) (hp : plantB p = true) (hk : d.kind = 7) (he : errA p d ≠ 0) : Calls Tryz.prog 26 #[.pointer (some ⟨s, 0, none⟩), .agg #[.int .u8 d.kind, .int .i64 d.cell, .int .i64 d.to, .int .i64 d.n]] w fun e w' => e = .panicked [{ v := refusal (errA p d), recovered := false }] ∧ Kept w w' := by
  cases h1 : rng [d.n] 1 1000
  · rw [show errA p d = 2 by simp [errA, hk, *]]
    exact f_tick_no d h hp h1
  · exact absurd (by simp [errA, hk, *]) he
theorem act7_ok {B s cp : Nat} {ad : Option Addr} {p : Plant} {w : World} (d : Deed) (h : Shop 37 77 B w s ad cp p) (hp : plantB p = true) (hk : d.kind = 7) (he : errA p d = 0) : Calls Tryz.prog 26 #[.pointer (some ⟨s, 0, none⟩), .agg #[.int .u8 d.kind, .int .i64 d.cell, .int .i64 d.to, .int .i64 d.n]] w fun e w' => e = .returned (.tuple #[]) ∧ Shop 37 77 B w' s ad cp (resA p d) ∧ Below B w w' := by
  cases h1 : rng [d.n] 1 1000
  · simp [errA, hk, h1] at he
  · rw [show resA p d = tickP p d by simp [resA, hk]]
    exact f_tick_ok d h hp h1

end Go.Proofs.YtamnnjdfjffhlaaGreatDoor

/-
  The reference: a tick.
-/
namespace Go.Proofs.YtamnnjdfjffhlaaGreatDoor
open Go.RowKit Bal Bal.Trim Bal.Gas
set_option linter.unusedVariables false
set_option linter.unusedSimpArgs false
set_option maxHeartbeats 8000000
set_option maxRecDepth 100000

theorem set_same {α : Type} {l : List α} {k : Nat} {x : α} (h : l[k]? = some x) : l.set k x = l := by
  obtain ⟨hk, rfl⟩ := List.getElem?_eq_some_iff.1 h
  exact List.set_getElem_self hk
end Go.Proofs.YtamnnjdfjffhlaaGreatDoor

/-
  The reference: Do, buy.
-/
namespace Go.Proofs.YtamnnjdfjffhlaaGreatDoor
open Go.RowKit Bal Bal.Trim Bal.Gas
set_option linter.unusedVariables false
set_option linter.unusedSimpArgs false
set_option maxHeartbeats 8000000
set_option maxRecDepth 100000

/-- what an act's last check makes of a plant, and its error -/
def endQ (q : Plant) : Plant := if plantB q then q else noPlant
def endE (q : Plant) : Int := if plantB q then 0 else 9
end Go.Proofs.YtamnnjdfjffhlaaGreatDoor

/-
  The program: Do, kind by kind.
-/
namespace Go.Proofs.YtamnnjdfjffhlaaGreatDoor
open Go.RowKit Bal Bal.Trim Bal.Gas
set_option linter.unusedVariables false
set_option linter.unusedSimpArgs false
set_option maxHeartbeats 8000000
set_option maxRecDepth 100000

theorem blk_below {W W' : World} {b B : Nat} {arr : Array Value} {t : TypeId} (h : Blk W b arr t) (hb : Below B W W') (hB : b < B) : Blk W' b arr t := (hb.block b hB).trans h
theorem f_CheckK {B n cp : Nat} {ad : Option Addr} {q : Plant} {w : World} (h : Mine 37 B w (.slice ad n cp) q.cells) : Calls Tryz.prog 18 #[.agg #[.slice ad n cp, .int .i64 q.bottles, .int .i64 q.inH, .int .i64 q.inA, .int .i64 q.vH, .int .i64 q.vA, .int .i64 q.lH, .int .i64 q.lA, .int .i64 q.pH, .int .i64 q.pA]] w fun e w' => e = .returned (.int .i64 (plantE q)) ∧ Kept w w' := by
  obtain ⟨h1, h2, h3, h4, h5⟩ := h.row
  subst h1
  exact f_Check q ad cp w h2 h3 h4

theorem f_DoX_no (p : Plant) (d : Deed) (a : Option Addr) (cap : Nat) (w : World) (hx : Row Cell.cells 7 w.heap.size w a p.cells) (hc : p.cells.length ≤ cap) (hM : cap ≤ maxLen) (hz : a = none → cap = 0) (fn : FuncId) (hcf : ∀ (args : Array Value) (w : World), (callFunc fn args).run Tryz.prog w = .ok (.enter fn args) w) (hp : plantB p = true) (hk17 : 1 ≤ d.kind ∧ d.kind ≤ 7) (hfn : (#[.nilFunc, .func (.func 20) #[] #[], .func (.func 21) #[] #[], .func (.func 22) #[] #[], .func (.func 23) #[] #[], .func (.func 24) #[] #[], .func (.func 25) #[] #[], .func (.func 26) #[] #[]] : Array Value)[d.kind.toNat]? = some (.func (.func fn) #[] #[])) (he : errA p d ≠ 0) (hact : ∀ (B s cp : Nat) (ad : Option Addr) (w : World), Shop 37 77 B w s ad cp p → Calls Tryz.prog fn #[.pointer (some ⟨s, 0, none⟩), .agg #[.int .u8 d.kind, .int .i64 d.cell, .int .i64 d.to, .int .i64 d.n]] w fun e w' => e = .panicked [{ v := refusal (errA p d), recovered := false }] ∧ Kept w w') : Calls Tryz.prog 9 #[.agg #[.slice a p.cells.length cap, .int .i64 p.bottles, .int .i64 p.inH, .int .i64 p.inA, .int .i64 p.vH, .int .i64 p.vA, .int .i64 p.lH, .int .i64 p.lA, .int .i64 p.pH, .int .i64 p.pA], .agg #[.int .u8 d.kind, .int .i64 d.cell, .int .i64 d.to, .int .i64 d.n]] w fun e w' => e = .returned (.tuple #[.agg #[.slice none 0 0, .int .i64 0, .int .i64 0, .int .i64 0, .int .i64 0, .int .i64 0, .int .i64 0, .int .i64 0, .int .i64 0, .int .i64 0], .int .i64 (errA p d)]) ∧ Kept w w' := by
  have HP := Lib.hid (show plantE p = 0 by simp [plantE, hp])
  have H1 := Lib.hid (show rng [d.kind] 1 7 = true by simp [rng, inB]; omega)
  have hw := i64_inx (n := d.kind) (by omega)
  have hn12 : p.cells.length ≤ 12 := (plantB_iff.1 hp).1
  have HFN := Lib.hid hfn
  have HACT := Lib.hid hact
  have HPP := Lib.hid hp
  have HE := Lib.hid he
  clear hfn hp he hact
  have hmf : ∀ (fn : Fn) (first cap : Array Value) (w : World), (Instr.makeFunc fn first cap).run Tryz.prog w = .ok (.func fn first cap) w := fun _ _ _ _ => rfl
  go_enter_defers Tryz.func9, Tryz.ntmps9
  go_upto_region 4 with (go_at_call 18; (with_reducible refine (f_Check p a cap _ (hx.later (by (exact kpt)) (Nat.le_refl _)) hc hM).mono ?_); rw [HP.out]; rintro e w1 ⟨rfl, hb1⟩; refine Blk.thru (b := w.heap.size) (arr := ?_) (t := ?_) ?_ hb1 ?_; rotate_left 2; (focus (exact blk)); intro rr; have rrc0 := rr.cell 0; have rrf0 := rr.free 0; have rrc1 := rr.cell 1; have rrf1 := rr.free 1; have rrc2 := rr.cell 2; have rrf2 := rr.free 2; have rrc3 := rr.cell 3; have rrf3 := rr.free 3; have rrc4 := rr.cell 4; have rrf4 := rr.free 4; have rrc5 := rr.cell 5; have rrf5 := rr.free 5; have rrc6 := rr.cell 6; have rrf6 := rr.free 6; have rrc7 := rr.cell 7; have rrf7 := rr.free 7; have rrc8 := rr.cell 8; have rrf8 := rr.free 8; have rrc9 := rr.cell 9; have rrf9 := rr.free 9; have rrl := rr.lt; simp at rrc0 rrc1 rrc2 rrc3 rrc4 rrc5 rrc6 rrc7 rrc8 rrc9; refine Blk.thru (b := (w.heap.size + 1)) (arr := ?_) (t := ?_) ?_ hb1 ?_; rotate_left 2; (focus (exact blk)); intro rq; have rqc0 := rq.cell 0; have rqf0 := rq.free 0; have rqc1 := rq.cell 1; have rqf1 := rq.free 1; have rqc2 := rq.cell 2; have rqf2 := rq.free 2; have rqc3 := rq.cell 3; have rqf3 := rq.free 3; have rql := rq.lt; simp at rqc0 rqc1 rqc2 rqc3)
  refine at_world (S := fun W => Blk W w.heap.size #[.slice a p.cells.length cap, .int .i64 p.bottles, .int .i64 p.inH, .int .i64 p.inA, .int .i64 p.vH, .int .i64 p.vA, .int .i64 p.lH, .int .i64 p.lA, .int .i64 p.pH, .int .i64 p.pA] 26 ∧ Blk W (w.heap.size + 1) #[.int .u8 d.kind, .int .i64 d.cell, .int .i64 d.to, .int .i64 d.n] 44 ∧ Blk W (w.heap.size + 1 + 1) #[.slice none 0 0, .int .i64 0, .int .i64 0, .int .i64 0, .int .i64 0, .int .i64 0, .int .i64 0, .int .i64 0, .int .i64 0, .int .i64 0] 26 ∧ Blk W (w.heap.size + 1 + 1 + 1) #[.int .i64 0] 40 ∧ Kept w W) ⟨by (exact blkc), by (exact blkc), by (exact blkc), by (exact blkc), by (exact kpt)⟩ ?_
  rintro W ⟨b0, b1, b2, b3, hk⟩
  have b0c0 := b0.cell 0
  have b0f0 := b0.free 0
  have b0c1 := b0.cell 1
  have b0f1 := b0.free 1
  have b0c2 := b0.cell 2
  have b0f2 := b0.free 2
  have b0c3 := b0.cell 3
  have b0f3 := b0.free 3
  have b0c4 := b0.cell 4
  have b0f4 := b0.free 4
  have b0c5 := b0.cell 5
  have b0f5 := b0.free 5
  have b0c6 := b0.cell 6
  have b0f6 := b0.free 6
  have b0c7 := b0.cell 7
  have b0f7 := b0.free 7
  have b0c8 := b0.cell 8
  have b0f8 := b0.free 8
  have b0c9 := b0.cell 9
  have b0f9 := b0.free 9
  have b0l := b0.lt
  simp at b0c0 b0c1 b0c2 b0c3 b0c4 b0c5 b0c6 b0c7 b0c8 b0c9
  have b1c0 := b1.cell 0
  have b1f0 := b1.free 0
  have b1c1 := b1.cell 1
  have b1f1 := b1.free 1
  have b1c2 := b1.cell 2
  have b1f2 := b1.free 2
  have b1c3 := b1.cell 3
  have b1f3 := b1.free 3
  have b1l := b1.lt
  simp at b1c0 b1c1 b1c2 b1c3
  have b2c0 := b2.cell 0
  have b2f0 := b2.free 0
  have b2c1 := b2.cell 1
  have b2f1 := b2.free 1
  have b2c2 := b2.cell 2
  have b2f2 := b2.free 2
  have b2c3 := b2.cell 3
  have b2f3 := b2.free 3
  have b2c4 := b2.cell 4
  have b2f4 := b2.free 4
  have b2c5 := b2.cell 5
  have b2f5 := b2.free 5
  have b2c6 := b2.cell 6
  have b2f6 := b2.free 6
  have b2c7 := b2.cell 7
  have b2f7 := b2.free 7
  have b2c8 := b2.cell 8
  have b2f8 := b2.free 8
  have b2c9 := b2.cell 9
  have b2f9 := b2.free 9
  have b2l := b2.lt
  simp at b2c0 b2c1 b2c2 b2c3 b2c4 b2c5 b2c6 b2c7 b2c8 b2c9
  have b3c0 := b3.cell 0
  have b3f0 := b3.free 0
  have b3l := b3.lt
  simp at b3c0
  go_upto_region 7 with (first | (go_at_call 28; (with_reducible refine (f_ranged1 _ _ d.kind _ _ _ (by simp)).mono ?_); rw [H1.out]; rintro e w1 ⟨rfl, rfl⟩) | (go_at_call 27; (with_reducible refine (f_need_ok _ _).mono ?_); rintro e w1 ⟨rfl, rfl⟩))
  clear b0c0 b0f0 b0c1 b0f1 b0c2 b0f2 b0c3 b0f3 b0c4 b0f4 b0c5 b0f5 b0c6 b0f6 b0c7 b0f7 b0c8 b0f8 b0c9 b0f9 b0l b1c0 b1f0 b1c1 b1f1 b1c2 b1f2 b1c3 b1f3 b1l b2c0 b2f0 b2c1 b2f1 b2c2 b2f2 b2c3 b2f3 b2c4 b2f4 b2c5 b2f5 b2c6 b2f6 b2c7 b2f7 b2c8 b2f8 b2c9 b2f9 b2l b3c0 b3f0 b3l
  refine at_world (S := fun X => Blk X w.heap.size #[.slice a p.cells.length cap, .int .i64 p.bottles, .int .i64 p.inH, .int .i64 p.inA, .int .i64 p.vH, .int .i64 p.vA, .int .i64 p.lH, .int .i64 p.lA, .int .i64 p.pH, .int .i64 p.pA] 26 ∧ Blk X (w.heap.size + 1) #[.int .u8 d.kind, .int .i64 d.cell, .int .i64 d.to, .int .i64 d.n] 44 ∧ Blk X (w.heap.size + 1 + 1) #[.slice none 0 0, .int .i64 0, .int .i64 0, .int .i64 0, .int .i64 0, .int .i64 0, .int .i64 0, .int .i64 0, .int .i64 0, .int .i64 0] 26 ∧ Blk X (w.heap.size + 1 + 1 + 1) #[.int .i64 0] 40 ∧ Blk X W.heap.size #[.nilFunc, .func (.func 20) #[] #[], .func (.func 21) #[] #[], .func (.func 22) #[] #[], .func (.func 23) #[] #[], .func (.func 24) #[] #[], .func (.func 25) #[] #[], .func (.func 26) #[] #[]] 73 ∧ Kept w X) ⟨by (exact blkc), by (exact blkc), by (exact blkc), by (exact blkc), by (exact blkc), by (exact kpt)⟩ ?_
  clear b0 b1 b2 b3 hk
  rintro X ⟨b0, b1, b2, b3, ba, hk⟩
  generalize W.heap.size = m at ba ⊢
  have b0c0 := b0.cell 0
  have b0f0 := b0.free 0
  have b0c1 := b0.cell 1
  have b0f1 := b0.free 1
  have b0c2 := b0.cell 2
  have b0f2 := b0.free 2
  have b0c3 := b0.cell 3
  have b0f3 := b0.free 3
  have b0c4 := b0.cell 4
  have b0f4 := b0.free 4
  have b0c5 := b0.cell 5
  have b0f5 := b0.free 5
  have b0c6 := b0.cell 6
  have b0f6 := b0.free 6
  have b0c7 := b0.cell 7
  have b0f7 := b0.free 7
  have b0c8 := b0.cell 8
  have b0f8 := b0.free 8
  have b0c9 := b0.cell 9
  have b0f9 := b0.free 9
  have b0l := b0.lt
  simp at b0c0 b0c1 b0c2 b0c3 b0c4 b0c5 b0c6 b0c7 b0c8 b0c9
  go_upto_region 9 with (go_at_call 29; (with_reducible refine (s_CloneC a cap p.cells _ (hx.later (by (exact kpt)) (Nat.le_refl _)) (by omega) hz).mono ?_); rintro e w2 ⟨v, rfl, hown, hb2⟩; obtain ⟨ad, cp, rfl, _⟩ := (Mine.of_owns hown).slice; refine Blk.thru (b := X.heap.size) (arr := ?_) (t := ?_) ?_ hb2 ?_; rotate_left 2; (focus (exact blk)); intro rs; have rsc0 := rs.cell 0; have rsf0 := rs.free 0; have rsc1 := rs.cell 1; have rsf1 := rs.free 1; have rsc2 := rs.cell 2; have rsf2 := rs.free 2; have rsc3 := rs.cell 3; have rsf3 := rs.free 3; have rsc4 := rs.cell 4; have rsf4 := rs.free 4; have rsc5 := rs.cell 5; have rsf5 := rs.free 5; have rsc6 := rs.cell 6; have rsf6 := rs.free 6; have rsc7 := rs.cell 7; have rsf7 := rs.free 7; have rsc8 := rs.cell 8; have rsf8 := rs.free 8; have rsc9 := rs.cell 9; have rsf9 := rs.free 9; have rsl := rs.lt; simp at rsc0 rsc1 rsc2 rsc3 rsc4 rsc5 rsc6 rsc7 rsc8 rsc9)
  have hsX := hk.size
  have l1 := b1.lt
  have l2 := b2.lt
  have l3 := b3.lt
  have la := ba.lt
  have x2 := rs.lt
  have hm2 := Mine.of_owns hown
  have xb1 := ((b1.alloc _).keep hb2)
  have xb2 := ((b2.alloc _).keep hb2)
  have xb3 := ((b3.alloc _).keep hb2)
  have xba := ((ba.alloc _).keep hb2)
  have hk2 := Kept.drop (Kept.alloc hk _) hb2
  refine at_world (S := fun Y => Blk Y (w.heap.size + 1) #[.int .u8 d.kind, .int .i64 d.cell, .int .i64 d.to, .int .i64 d.n] 44 ∧ Blk Y (w.heap.size + 1 + 1) #[.slice none 0 0, .int .i64 0, .int .i64 0, .int .i64 0, .int .i64 0, .int .i64 0, .int .i64 0, .int .i64 0, .int .i64 0, .int .i64 0] 26 ∧ Blk Y (w.heap.size + 1 + 1 + 1) #[.int .i64 0] 40 ∧ Blk Y m #[.nilFunc, .func (.func 20) #[] #[], .func (.func 21) #[] #[], .func (.func 22) #[] #[], .func (.func 23) #[] #[], .func (.func 24) #[] #[], .func (.func 25) #[] #[], .func (.func 26) #[] #[]] 73 ∧ Shop 37 77 X.heap.size Y X.heap.size ad cp p ∧ Kept w Y ∧ w.heap.size + 1 + 1 + 1 < X.heap.size) ⟨xb1.other (by simp; omega) _, xb2.other (by simp; omega) _, xb3.other (by simp; omega) _, xba.other (by simp; omega) _, ⟨Nat.le_refl _, (rs.set 0 _).cast (by simp [plantCells]), (hm2.base (by simp)).other rs (by decide) _⟩, hk2.setCell hk.size _, b3.lt⟩ ?_
  clear l1 l2 l3 la b0 b1 b2 b3 ba hk xb1 xb2 xb3 xba hk2 hsX hm2 x2 rs hown hb2 b0c0 b0f0 b0c1 b0f1 b0c2 b0f2 b0c3 b0f3 b0c4 b0f4 b0c5 b0f5 b0c6 b0f6 b0c7 b0f7 b0c8 b0f8 b0c9 b0f9 b0l
  rintro Y ⟨b1, b2, b3, ba, hsh, hk, hs⟩
  generalize X.heap.size = s at hs hsh ⊢
  have b1c0 := fun g : Later Y => (b1.later g).cell 0
  have b1f0 := fun g : Later Y => (b1.later g).free 0
  have b1c1 := fun g : Later Y => (b1.later g).cell 1
  have b1f1 := fun g : Later Y => (b1.later g).free 1
  have b1c2 := fun g : Later Y => (b1.later g).cell 2
  have b1f2 := fun g : Later Y => (b1.later g).free 2
  have b1c3 := fun g : Later Y => (b1.later g).cell 3
  have b1f3 := fun g : Later Y => (b1.later g).free 3
  have b1l := fun g : Later Y => (b1.later g).lt
  simp at b1c0 b1c1 b1c2 b1c3
  have ya : ∀ g : Later Y, g.val.cell? ⟨m, d.kind.toNat, none⟩ = some (.func (.func fn) #[] #[]) := fun g => by rw [(ba.later g).cell]; exact HFN.out
  refine Later.tail 6 (by kernel_rfl) (by kernel_rfl) ?_
  simp only [List.take_succ_cons, List.take_zero, List.drop_succ_cons, List.drop_zero]
  repeat (first | go_big_quiet_skip | (go_big_quiet_want; go_big_quiet_op; first | go_big_quiet_on | (apply Exists.intro; refine ⟨fun g_ => ?_, ?_⟩; (focus (first | fail)); go_big_quiet_on)))
  refine wpQuiet_nil ?_
  intro gg
  refine wpList_plain rfl fun K1 hK1 => ?_
  have n2 := b2.later gg
  have n3 := b3.later gg
  have hkg := Kept.drop hk gg.ok
  clear b1c0 b1f0 b1c1 b1f1 b1c2 b1f2 b1c3 b1f3 b1l
  go_wp2_with ((with_reducible refine (HACT.out _ _ _ _ _ (hsh.keep gg.ok)).mono ?_); rintro e w5 ⟨rfl, hb5⟩)
  have n2 := n2.keep hb5
  have n3 := n3.keep hb5
  have hkg := Kept.drop hkg hb5
  refine leaves_cons (f := 19) (args := #[.pointer (some ⟨w.heap.size + 1 + 1, 0, none⟩), .pointer (some ⟨w.heap.size + 1 + 1 + 1, 0, none⟩)]) (by simp) (by simp [go_sem]) ?_
  refine (catch_panics _ _ (errA p d) _ (by (exact blkc)) (by (exact blkc))).mono ?_
  rintro e u' w'' ⟨rfl, rfl, k1, k2, kb⟩
  have k1c0 := k1.cell 0
  have k1f0 := k1.free 0
  have k1c1 := k1.cell 1
  have k1f1 := k1.free 1
  have k1c2 := k1.cell 2
  have k1f2 := k1.free 2
  have k1c3 := k1.cell 3
  have k1f3 := k1.free 3
  have k1c4 := k1.cell 4
  have k1f4 := k1.free 4
  have k1c5 := k1.cell 5
  have k1f5 := k1.free 5
  have k1c6 := k1.cell 6
  have k1f6 := k1.free 6
  have k1c7 := k1.cell 7
  have k1f7 := k1.free 7
  have k1c8 := k1.cell 8
  have k1f8 := k1.free 8
  have k1c9 := k1.cell 9
  have k1f9 := k1.free 9
  have k1l := k1.lt
  simp at k1c0 k1c1 k1c2 k1c3 k1c4 k1c5 k1c6 k1c7 k1c8 k1c9
  have k2c0 := k2.cell 0
  have k2f0 := k2.free 0
  have k2l := k2.lt
  simp at k2c0
  exact (show ∃ v, (results _ _).run _ _ = .ok v _ ∧ _ from ⟨.tuple #[.agg #[.slice none 0 0, .int .i64 0, .int .i64 0, .int .i64 0, .int .i64 0, .int .i64 0, .int .i64 0, .int .i64 0, .int .i64 0, .int .i64 0], .int .i64 (errA p d)], by simp [results, Tryz.results9, go_sem, k1c0, k1f0, k1c1, k1f1, k1c2, k1f2, k1c3, k1f3, k1c4, k1f4, k1c5, k1f5, k1c6, k1f6, k1c7, k1f7, k1c8, k1f8, k1c9, k1f9, k2c0, k2f0], rfl, by exact Below.trans (by (exact kpt)) (kb _ (by omega) (by omega))⟩)
theorem f_DoX_ok (p : Plant) (d : Deed) (a : Option Addr) (cap : Nat) (w : World) (hx : Row Cell.cells 7 w.heap.size w a p.cells) (hc : p.cells.length ≤ cap) (hM : cap ≤ maxLen) (hz : a = none → cap = 0) (fn : FuncId) (hcf : ∀ (args : Array Value) (w : World), (callFunc fn args).run Tryz.prog w = .ok (.enter fn args) w) (hp : plantB p = true) (hk17 : 1 ≤ d.kind ∧ d.kind ≤ 7) (hfn : (#[.nilFunc, .func (.func 20) #[] #[], .func (.func 21) #[] #[], .func (.func 22) #[] #[], .func (.func 23) #[] #[], .func (.func 24) #[] #[], .func (.func 25) #[] #[], .func (.func 26) #[] #[]] : Array Value)[d.kind.toNat]? = some (.func (.func fn) #[] #[])) (he : errA p d = 0) (hact : ∀ (B s cp : Nat) (ad : Option Addr) (w : World), Shop 37 77 B w s ad cp p → Calls Tryz.prog fn #[.pointer (some ⟨s, 0, none⟩), .agg #[.int .u8 d.kind, .int .i64 d.cell, .int .i64 d.to, .int .i64 d.n]] w fun e w' => e = .returned (.tuple #[]) ∧ Shop 37 77 B w' s ad cp (resA p d) ∧ Below B w w') : Calls Tryz.prog 9 #[.agg #[.slice a p.cells.length cap, .int .i64 p.bottles, .int .i64 p.inH, .int .i64 p.inA, .int .i64 p.vH, .int .i64 p.vA, .int .i64 p.lH, .int .i64 p.lA, .int .i64 p.pH, .int .i64 p.pA], .agg #[.int .u8 d.kind, .int .i64 d.cell, .int .i64 d.to, .int .i64 d.n]] w fun e w' => ∃ v, e = .returned (.tuple #[.agg #[v, .int .i64 (endQ (resA p d)).bottles, .int .i64 (endQ (resA p d)).inH, .int .i64 (endQ (resA p d)).inA, .int .i64 (endQ (resA p d)).vH, .int .i64 (endQ (resA p d)).vA, .int .i64 (endQ (resA p d)).lH, .int .i64 (endQ (resA p d)).lA, .int .i64 (endQ (resA p d)).pH, .int .i64 (endQ (resA p d)).pA], .int .i64 (endE (resA p d))]) ∧ Mine 37 w.heap.size w' v ((endQ (resA p d))).cells ∧ Kept w w' := by
  obtain ⟨Q, hQ⟩ : ∃ Q, Q = resA p d := ⟨_, rfl⟩
  rw [← hQ]
  have HQ := Lib.hid hQ
  clear hQ
  have HP := Lib.hid (show plantE p = 0 by simp [plantE, hp])
  have H1 := Lib.hid (show rng [d.kind] 1 7 = true by simp [rng, inB]; omega)
  have hw := i64_inx (n := d.kind) (by omega)
  have hn12 : p.cells.length ≤ 12 := (plantB_iff.1 hp).1
  have HFN := Lib.hid hfn
  have HACT := Lib.hid hact
  have HPP := Lib.hid hp
  have HE := Lib.hid he
  clear hfn hp he hact
  have hmf : ∀ (fn : Fn) (first cap : Array Value) (w : World), (Instr.makeFunc fn first cap).run Tryz.prog w = .ok (.func fn first cap) w := fun _ _ _ _ => rfl
  go_enter_defers Tryz.func9, Tryz.ntmps9
  go_upto_region 4 with (go_at_call 18; (with_reducible refine (f_Check p a cap _ (hx.later (by (exact kpt)) (Nat.le_refl _)) hc hM).mono ?_); rw [HP.out]; rintro e w1 ⟨rfl, hb1⟩; refine Blk.thru (b := w.heap.size) (arr := ?_) (t := ?_) ?_ hb1 ?_; rotate_left 2; (focus (exact blk)); intro rr; have rrc0 := rr.cell 0; have rrf0 := rr.free 0; have rrc1 := rr.cell 1; have rrf1 := rr.free 1; have rrc2 := rr.cell 2; have rrf2 := rr.free 2; have rrc3 := rr.cell 3; have rrf3 := rr.free 3; have rrc4 := rr.cell 4; have rrf4 := rr.free 4; have rrc5 := rr.cell 5; have rrf5 := rr.free 5; have rrc6 := rr.cell 6; have rrf6 := rr.free 6; have rrc7 := rr.cell 7; have rrf7 := rr.free 7; have rrc8 := rr.cell 8; have rrf8 := rr.free 8; have rrc9 := rr.cell 9; have rrf9 := rr.free 9; have rrl := rr.lt; simp at rrc0 rrc1 rrc2 rrc3 rrc4 rrc5 rrc6 rrc7 rrc8 rrc9; refine Blk.thru (b := (w.heap.size + 1)) (arr := ?_) (t := ?_) ?_ hb1 ?_; rotate_left 2; (focus (exact blk)); intro rq; have rqc0 := rq.cell 0; have rqf0 := rq.free 0; have rqc1 := rq.cell 1; have rqf1 := rq.free 1; have rqc2 := rq.cell 2; have rqf2 := rq.free 2; have rqc3 := rq.cell 3; have rqf3 := rq.free 3; have rql := rq.lt; simp at rqc0 rqc1 rqc2 rqc3)
  refine at_world (S := fun W => Blk W w.heap.size #[.slice a p.cells.length cap, .int .i64 p.bottles, .int .i64 p.inH, .int .i64 p.inA, .int .i64 p.vH, .int .i64 p.vA, .int .i64 p.lH, .int .i64 p.lA, .int .i64 p.pH, .int .i64 p.pA] 26 ∧ Blk W (w.heap.size + 1) #[.int .u8 d.kind, .int .i64 d.cell, .int .i64 d.to, .int .i64 d.n] 44 ∧ Blk W (w.heap.size + 1 + 1) #[.slice none 0 0, .int .i64 0, .int .i64 0, .int .i64 0, .int .i64 0, .int .i64 0, .int .i64 0, .int .i64 0, .int .i64 0, .int .i64 0] 26 ∧ Blk W (w.heap.size + 1 + 1 + 1) #[.int .i64 0] 40 ∧ Kept w W) ⟨by (exact blkc), by (exact blkc), by (exact blkc), by (exact blkc), by (exact kpt)⟩ ?_
  rintro W ⟨b0, b1, b2, b3, hk⟩
  have b0c0 := b0.cell 0
  have b0f0 := b0.free 0
  have b0c1 := b0.cell 1
  have b0f1 := b0.free 1
  have b0c2 := b0.cell 2
  have b0f2 := b0.free 2
  have b0c3 := b0.cell 3
  have b0f3 := b0.free 3
  have b0c4 := b0.cell 4
  have b0f4 := b0.free 4
  have b0c5 := b0.cell 5
  have b0f5 := b0.free 5
  have b0c6 := b0.cell 6
  have b0f6 := b0.free 6
  have b0c7 := b0.cell 7
  have b0f7 := b0.free 7
  have b0c8 := b0.cell 8
  have b0f8 := b0.free 8
  have b0c9 := b0.cell 9
  have b0f9 := b0.free 9
  have b0l := b0.lt
  simp at b0c0 b0c1 b0c2 b0c3 b0c4 b0c5 b0c6 b0c7 b0c8 b0c9
  have b1c0 := b1.cell 0
  have b1f0 := b1.free 0
  have b1c1 := b1.cell 1
  have b1f1 := b1.free 1
  have b1c2 := b1.cell 2
  have b1f2 := b1.free 2
  have b1c3 := b1.cell 3
  have b1f3 := b1.free 3
  have b1l := b1.lt
  simp at b1c0 b1c1 b1c2 b1c3
  have b2c0 := b2.cell 0
  have b2f0 := b2.free 0
  have b2c1 := b2.cell 1
  have b2f1 := b2.free 1
  have b2c2 := b2.cell 2
  have b2f2 := b2.free 2
  have b2c3 := b2.cell 3
  have b2f3 := b2.free 3
  have b2c4 := b2.cell 4
  have b2f4 := b2.free 4
  have b2c5 := b2.cell 5
  have b2f5 := b2.free 5
  have b2c6 := b2.cell 6
  have b2f6 := b2.free 6
  have b2c7 := b2.cell 7
  have b2f7 := b2.free 7
  have b2c8 := b2.cell 8
  have b2f8 := b2.free 8
  have b2c9 := b2.cell 9
  have b2f9 := b2.free 9
  have b2l := b2.lt
  simp at b2c0 b2c1 b2c2 b2c3 b2c4 b2c5 b2c6 b2c7 b2c8 b2c9
  have b3c0 := b3.cell 0
  have b3f0 := b3.free 0
  have b3l := b3.lt
  simp at b3c0
  go_upto_region 7 with (first | (go_at_call 28; (with_reducible refine (f_ranged1 _ _ d.kind _ _ _ (by simp)).mono ?_); rw [H1.out]; rintro e w1 ⟨rfl, rfl⟩) | (go_at_call 27; (with_reducible refine (f_need_ok _ _).mono ?_); rintro e w1 ⟨rfl, rfl⟩))
  clear b0c0 b0f0 b0c1 b0f1 b0c2 b0f2 b0c3 b0f3 b0c4 b0f4 b0c5 b0f5 b0c6 b0f6 b0c7 b0f7 b0c8 b0f8 b0c9 b0f9 b0l b1c0 b1f0 b1c1 b1f1 b1c2 b1f2 b1c3 b1f3 b1l b2c0 b2f0 b2c1 b2f1 b2c2 b2f2 b2c3 b2f3 b2c4 b2f4 b2c5 b2f5 b2c6 b2f6 b2c7 b2f7 b2c8 b2f8 b2c9 b2f9 b2l b3c0 b3f0 b3l
  refine at_world (S := fun X => Blk X w.heap.size #[.slice a p.cells.length cap, .int .i64 p.bottles, .int .i64 p.inH, .int .i64 p.inA, .int .i64 p.vH, .int .i64 p.vA, .int .i64 p.lH, .int .i64 p.lA, .int .i64 p.pH, .int .i64 p.pA] 26 ∧ Blk X (w.heap.size + 1) #[.int .u8 d.kind, .int .i64 d.cell, .int .i64 d.to, .int .i64 d.n] 44 ∧ Blk X (w.heap.size + 1 + 1) #[.slice none 0 0, .int .i64 0, .int .i64 0, .int .i64 0, .int .i64 0, .int .i64 0, .int .i64 0, .int .i64 0, .int .i64 0, .int .i64 0] 26 ∧ Blk X (w.heap.size + 1 + 1 + 1) #[.int .i64 0] 40 ∧ Blk X W.heap.size #[.nilFunc, .func (.func 20) #[] #[], .func (.func 21) #[] #[], .func (.func 22) #[] #[], .func (.func 23) #[] #[], .func (.func 24) #[] #[], .func (.func 25) #[] #[], .func (.func 26) #[] #[]] 73 ∧ Kept w X) ⟨by (exact blkc), by (exact blkc), by (exact blkc), by (exact blkc), by (exact blkc), by (exact kpt)⟩ ?_
  clear b0 b1 b2 b3 hk
  rintro X ⟨b0, b1, b2, b3, ba, hk⟩
  generalize W.heap.size = m at ba ⊢
  have b0c0 := b0.cell 0
  have b0f0 := b0.free 0
  have b0c1 := b0.cell 1
  have b0f1 := b0.free 1
  have b0c2 := b0.cell 2
  have b0f2 := b0.free 2
  have b0c3 := b0.cell 3
  have b0f3 := b0.free 3
  have b0c4 := b0.cell 4
  have b0f4 := b0.free 4
  have b0c5 := b0.cell 5
  have b0f5 := b0.free 5
  have b0c6 := b0.cell 6
  have b0f6 := b0.free 6
  have b0c7 := b0.cell 7
  have b0f7 := b0.free 7
  have b0c8 := b0.cell 8
  have b0f8 := b0.free 8
  have b0c9 := b0.cell 9
  have b0f9 := b0.free 9
  have b0l := b0.lt
  simp at b0c0 b0c1 b0c2 b0c3 b0c4 b0c5 b0c6 b0c7 b0c8 b0c9
  go_upto_region 9 with (go_at_call 29; (with_reducible refine (s_CloneC a cap p.cells _ (hx.later (by (exact kpt)) (Nat.le_refl _)) (by omega) hz).mono ?_); rintro e w2 ⟨v, rfl, hown, hb2⟩; obtain ⟨ad, cp, rfl, _⟩ := (Mine.of_owns hown).slice; refine Blk.thru (b := X.heap.size) (arr := ?_) (t := ?_) ?_ hb2 ?_; rotate_left 2; (focus (exact blk)); intro rs; have rsc0 := rs.cell 0; have rsf0 := rs.free 0; have rsc1 := rs.cell 1; have rsf1 := rs.free 1; have rsc2 := rs.cell 2; have rsf2 := rs.free 2; have rsc3 := rs.cell 3; have rsf3 := rs.free 3; have rsc4 := rs.cell 4; have rsf4 := rs.free 4; have rsc5 := rs.cell 5; have rsf5 := rs.free 5; have rsc6 := rs.cell 6; have rsf6 := rs.free 6; have rsc7 := rs.cell 7; have rsf7 := rs.free 7; have rsc8 := rs.cell 8; have rsf8 := rs.free 8; have rsc9 := rs.cell 9; have rsf9 := rs.free 9; have rsl := rs.lt; simp at rsc0 rsc1 rsc2 rsc3 rsc4 rsc5 rsc6 rsc7 rsc8 rsc9)
  have hsX := hk.size
  have l1 := b1.lt
  have l2 := b2.lt
  have l3 := b3.lt
  have la := ba.lt
  have x2 := rs.lt
  have hm2 := Mine.of_owns hown
  have xb1 := ((b1.alloc _).keep hb2)
  have xb2 := ((b2.alloc _).keep hb2)
  have xb3 := ((b3.alloc _).keep hb2)
  have xba := ((ba.alloc _).keep hb2)
  have hk2 := Kept.drop (Kept.alloc hk _) hb2
  refine at_world (S := fun Y => Blk Y (w.heap.size + 1) #[.int .u8 d.kind, .int .i64 d.cell, .int .i64 d.to, .int .i64 d.n] 44 ∧ Blk Y (w.heap.size + 1 + 1) #[.slice none 0 0, .int .i64 0, .int .i64 0, .int .i64 0, .int .i64 0, .int .i64 0, .int .i64 0, .int .i64 0, .int .i64 0, .int .i64 0] 26 ∧ Blk Y (w.heap.size + 1 + 1 + 1) #[.int .i64 0] 40 ∧ Blk Y m #[.nilFunc, .func (.func 20) #[] #[], .func (.func 21) #[] #[], .func (.func 22) #[] #[], .func (.func 23) #[] #[], .func (.func 24) #[] #[], .func (.func 25) #[] #[], .func (.func 26) #[] #[]] 73 ∧ Shop 37 77 X.heap.size Y X.heap.size ad cp p ∧ Kept w Y ∧ w.heap.size + 1 + 1 + 1 < X.heap.size) ⟨xb1.other (by simp; omega) _, xb2.other (by simp; omega) _, xb3.other (by simp; omega) _, xba.other (by simp; omega) _, ⟨Nat.le_refl _, (rs.set 0 _).cast (by simp [plantCells]), (hm2.base (by simp)).other rs (by decide) _⟩, hk2.setCell hk.size _, b3.lt⟩ ?_
  clear l1 l2 l3 la b0 b1 b2 b3 ba hk xb1 xb2 xb3 xba hk2 hsX hm2 x2 rs hown hb2 b0c0 b0f0 b0c1 b0f1 b0c2 b0f2 b0c3 b0f3 b0c4 b0f4 b0c5 b0f5 b0c6 b0f6 b0c7 b0f7 b0c8 b0f8 b0c9 b0f9 b0l
  rintro Y ⟨b1, b2, b3, ba, hsh, hk, hs⟩
  generalize X.heap.size = s at hs hsh ⊢
  have b1c0 := fun g : Later Y => (b1.later g).cell 0
  have b1f0 := fun g : Later Y => (b1.later g).free 0
  have b1c1 := fun g : Later Y => (b1.later g).cell 1
  have b1f1 := fun g : Later Y => (b1.later g).free 1
  have b1c2 := fun g : Later Y => (b1.later g).cell 2
  have b1f2 := fun g : Later Y => (b1.later g).free 2
  have b1c3 := fun g : Later Y => (b1.later g).cell 3
  have b1f3 := fun g : Later Y => (b1.later g).free 3
  have b1l := fun g : Later Y => (b1.later g).lt
  simp at b1c0 b1c1 b1c2 b1c3
  have ya : ∀ g : Later Y, g.val.cell? ⟨m, d.kind.toNat, none⟩ = some (.func (.func fn) #[] #[]) := fun g => by rw [(ba.later g).cell]; exact HFN.out
  refine Later.tail 6 (by kernel_rfl) (by kernel_rfl) ?_
  simp only [List.take_succ_cons, List.take_zero, List.drop_succ_cons, List.drop_zero]
  repeat (first | go_big_quiet_skip | (go_big_quiet_want; go_big_quiet_op; first | go_big_quiet_on | (apply Exists.intro; refine ⟨fun g_ => ?_, ?_⟩; (focus (first | fail)); go_big_quiet_on)))
  refine wpQuiet_nil ?_
  intro gg
  refine wpList_plain rfl fun K1 hK1 => ?_
  have n2 := b2.later gg
  have n3 := b3.later gg
  have hkg := Kept.drop hk gg.ok
  clear b1c0 b1f0 b1c1 b1f1 b1c2 b1f2 b1c3 b1f3 b1l
  go_upto_region 10 with ((with_reducible refine (HACT.out _ _ _ _ _ (hsh.keep gg.ok)).mono ?_); rintro e w5 ⟨rfl, hsh5, hb5⟩)
  refine at_world (S := fun Z => Blk Z (w.heap.size + 1 + 1) #[.slice none 0 0, .int .i64 0, .int .i64 0, .int .i64 0, .int .i64 0, .int .i64 0, .int .i64 0, .int .i64 0, .int .i64 0, .int .i64 0] 26 ∧ Blk Z (w.heap.size + 1 + 1 + 1) #[.int .i64 0] 40 ∧ Blk Z s #[.slice ad Q.cells.length cp, .int .i64 Q.bottles, .int .i64 Q.inH, .int .i64 Q.inA, .int .i64 Q.vH, .int .i64 Q.vA, .int .i64 Q.lH, .int .i64 Q.lA, .int .i64 Q.pH, .int .i64 Q.pA] 77 ∧ Mine 37 s Z (.slice ad Q.cells.length cp) Q.cells ∧ Kept w Z) ⟨blk_below n2 hb5 (by omega), blk_below n3 hb5 (by omega), by rw [HQ.out]; exact hsh5.2.1, by rw [HQ.out]; exact hsh5.2.2, hkg.trans (hb5.mono (by omega))⟩ ?_
  clear b1 b2 b3 ba hk hsh n2 n3 hkg hsh5 hb5
  rintro Z ⟨b2, b3, r3, hm, hk⟩
  have r3c0 := r3.cell 0
  have r3f0 := r3.free 0
  have r3c1 := r3.cell 1
  have r3f1 := r3.free 1
  have r3c2 := r3.cell 2
  have r3f2 := r3.free 2
  have r3c3 := r3.cell 3
  have r3f3 := r3.free 3
  have r3c4 := r3.cell 4
  have r3f4 := r3.free 4
  have r3c5 := r3.cell 5
  have r3f5 := r3.free 5
  have r3c6 := r3.cell 6
  have r3f6 := r3.free 6
  have r3c7 := r3.cell 7
  have r3f7 := r3.free 7
  have r3c8 := r3.cell 8
  have r3f8 := r3.free 8
  have r3c9 := r3.cell 9
  have r3f9 := r3.free 9
  have r3l := r3.lt
  simp at r3c0 r3c1 r3c2 r3c3 r3c4 r3c5 r3c6 r3c7 r3c8 r3c9
  cases hpq : plantB Q
  · have HPQ := Lib.hid (show plantE Q = 32 by simp [plantE, hpq])
    have HPB := Lib.hid hpq
    clear hpq
    go_wp2_with (first | (go_at_call 18; (with_reducible refine (f_CheckK hm).mono ?_); rw [HPQ.out]; rintro e w6 ⟨rfl, hb6⟩) | (go_at_call 27; (with_reducible refine (f_need_no _ _).mono ?_); rintro e w1 ⟨rfl, rfl⟩))
    have n2 := b2.keep hb6
    have n3 := b3.keep hb6
    have hkg := Kept.drop hk hb6
    clear b2 b3 hk
    skip
    refine leaves_cons (f := 19) (args := #[.pointer (some ⟨w.heap.size + 1 + 1, 0, none⟩), .pointer (some ⟨w.heap.size + 1 + 1 + 1, 0, none⟩)]) (by simp) (by simp [go_sem]) ?_
    refine (catch_panics _ _ 9 _ (by (exact blkc)) (by (exact blkc))).mono ?_
    rintro e u' w'' ⟨rfl, rfl, k1, k2, kb⟩
    have k1c0 := k1.cell 0
    have k1f0 := k1.free 0
    have k1c1 := k1.cell 1
    have k1f1 := k1.free 1
    have k1c2 := k1.cell 2
    have k1f2 := k1.free 2
    have k1c3 := k1.cell 3
    have k1f3 := k1.free 3
    have k1c4 := k1.cell 4
    have k1f4 := k1.free 4
    have k1c5 := k1.cell 5
    have k1f5 := k1.free 5
    have k1c6 := k1.cell 6
    have k1f6 := k1.free 6
    have k1c7 := k1.cell 7
    have k1f7 := k1.free 7
    have k1c8 := k1.cell 8
    have k1f8 := k1.free 8
    have k1c9 := k1.cell 9
    have k1f9 := k1.free 9
    have k1l := k1.lt
    simp at k1c0 k1c1 k1c2 k1c3 k1c4 k1c5 k1c6 k1c7 k1c8 k1c9
    have k2c0 := k2.cell 0
    have k2f0 := k2.free 0
    have k2l := k2.lt
    simp at k2c0
    refine (show ∃ v, (results _ _).run _ _ = .ok v _ ∧ _ from ⟨.tuple #[.agg #[.slice none 0 0, .int .i64 0, .int .i64 0, .int .i64 0, .int .i64 0, .int .i64 0, .int .i64 0, .int .i64 0, .int .i64 0, .int .i64 0], .int .i64 9], by simp [results, Tryz.results9, go_sem, k1c0, k1f0, k1c1, k1f1, k1c2, k1f2, k1c3, k1f3, k1c4, k1f4, k1c5, k1f5, k1c6, k1f6, k1c7, k1f7, k1c8, k1f8, k1c9, k1f9, k2c0, k2f0], .slice none 0 0, by simp [endQ, endE, HPB.out, noPlant], by rw [show endQ Q = noPlant by simp [endQ, HPB.out]]; exact Mine.zero, by exact Below.trans (by (exact kpt)) (kb _ (by omega) (by omega))⟩)
  · have HPQ := Lib.hid (show plantE Q = 0 by simp [plantE, hpq])
    have HPB := Lib.hid hpq
    clear hpq
    go_upto_region 11 with (first | (go_at_call 18; (with_reducible refine (f_CheckK hm).mono ?_); rw [HPQ.out]; rintro e w6 ⟨rfl, hb6⟩) | (go_at_call 27; (with_reducible refine (f_need_ok _ _).mono ?_); rintro e w1 ⟨rfl, rfl⟩))
    clear r3c0 r3f0 r3c1 r3f1 r3c2 r3f2 r3c3 r3f3 r3c4 r3f4 r3c5 r3f5 r3c6 r3f6 r3c7 r3f7 r3c8 r3f8 r3c9 r3f9 r3l
    refine at_world (S := fun U => Blk U (w.heap.size + 1 + 1) #[.slice none 0 0, .int .i64 0, .int .i64 0, .int .i64 0, .int .i64 0, .int .i64 0, .int .i64 0, .int .i64 0, .int .i64 0, .int .i64 0] 26 ∧ Blk U (w.heap.size + 1 + 1 + 1) #[.int .i64 0] 40 ∧ Blk U s #[.slice ad Q.cells.length cp, .int .i64 Q.bottles, .int .i64 Q.inH, .int .i64 Q.inA, .int .i64 Q.vH, .int .i64 Q.vA, .int .i64 Q.lH, .int .i64 Q.lA, .int .i64 Q.pH, .int .i64 Q.pA] 77 ∧ Mine 37 s U (.slice ad Q.cells.length cp) Q.cells ∧ Kept w U) ⟨b2.keep hb6, b3.keep hb6, r3.keep hb6, hm.keep hb6, Kept.drop hk hb6⟩ ?_
    clear b2 b3 r3 hm hk hb6
    rintro U ⟨b2, b3, r3, hm, hk⟩
    have b2c0 := b2.cell 0
    have b2f0 := b2.free 0
    have b2c1 := b2.cell 1
    have b2f1 := b2.free 1
    have b2c2 := b2.cell 2
    have b2f2 := b2.free 2
    have b2c3 := b2.cell 3
    have b2f3 := b2.free 3
    have b2c4 := b2.cell 4
    have b2f4 := b2.free 4
    have b2c5 := b2.cell 5
    have b2f5 := b2.free 5
    have b2c6 := b2.cell 6
    have b2f6 := b2.free 6
    have b2c7 := b2.cell 7
    have b2f7 := b2.free 7
    have b2c8 := b2.cell 8
    have b2f8 := b2.free 8
    have b2c9 := b2.cell 9
    have b2f9 := b2.free 9
    have b2l := b2.lt
    simp at b2c0 b2c1 b2c2 b2c3 b2c4 b2c5 b2c6 b2c7 b2c8 b2c9
    have b3c0 := b3.cell 0
    have b3f0 := b3.free 0
    have b3l := b3.lt
    simp at b3c0
    have r3c0 := r3.cell 0
    have r3f0 := r3.free 0
    have r3c1 := r3.cell 1
    have r3f1 := r3.free 1
    have r3c2 := r3.cell 2
    have r3f2 := r3.free 2
    have r3c3 := r3.cell 3
    have r3f3 := r3.free 3
    have r3c4 := r3.cell 4
    have r3f4 := r3.free 4
    have r3c5 := r3.cell 5
    have r3f5 := r3.free 5
    have r3c6 := r3.cell 6
    have r3f6 := r3.free 6
    have r3c7 := r3.cell 7
    have r3f7 := r3.free 7
    have r3c8 := r3.cell 8
    have r3f8 := r3.free 8
    have r3c9 := r3.cell 9
    have r3f9 := r3.free 9
    have r3l := r3.lt
    simp at r3c0 r3c1 r3c2 r3c3 r3c4 r3c5 r3c6 r3c7 r3c8 r3c9
    go_wp2
    refine leaves_cons (f := 19) (args := #[.pointer (some ⟨w.heap.size + 1 + 1, 0, none⟩), .pointer (some ⟨w.heap.size + 1 + 1 + 1, 0, none⟩)]) (by simp) (by simp [go_sem]) ?_
    refine (catch_idle _ _ _).mono ?_
    rintro e u' w'' ⟨rfl, rfl, rfl⟩
    refine (show ∃ v, (results _ _).run _ _ = .ok v _ ∧ _ from ⟨.tuple #[.agg #[.slice ad Q.cells.length cp, .int .i64 Q.bottles, .int .i64 Q.inH, .int .i64 Q.inA, .int .i64 Q.vH, .int .i64 Q.vA, .int .i64 Q.lH, .int .i64 Q.lA, .int .i64 Q.pH, .int .i64 Q.pA], .int .i64 0], by simp [results, Tryz.results9, go_sem, b2c0, b2f0, b2c1, b2f1, b2c2, b2f2, b2c3, b2f3, b2c4, b2f4, b2c5, b2f5, b2c6, b2f6, b2c7, b2f7, b2c8, b2f8, b2c9, b2f9, b3c0, b3f0], .slice ad Q.cells.length cp, by simp [endQ, endE, HPB.out], ?_, by (exact kpt)⟩)
    rw [show endQ Q = Q by simp [endQ, HPB.out]]
    have hne := hm.ne b2 (by decide)
    have hne3 := hm.ne b3 (by decide)
    (repeat (first | with_reducible refine Mine.off ?_ hne _ | with_reducible refine Mine.off ?_ hne3 _))
    exact hm.base (by omega)

end Go.Proofs.YtamnnjdfjffhlaaGreatDoor

/-
  The program: Do.
-/
namespace Go.Proofs.YtamnnjdfjffhlaaGreatDoor
open Go.RowKit Bal Bal.Trim Bal.Gas
set_option linter.unusedVariables false
set_option linter.unusedSimpArgs false
set_option maxHeartbeats 8000000

theorem f_zero_end {p : Plant} {d : Deed} {a : Option Addr} {cap : Nat} {w : World} {n : Int} (h : Calls Tryz.prog 9 #[.agg #[.slice a p.cells.length cap, .int .i64 p.bottles, .int .i64 p.inH, .int .i64 p.inA, .int .i64 p.vH, .int .i64 p.vA, .int .i64 p.lH, .int .i64 p.lA, .int .i64 p.pH, .int .i64 p.pA], .agg #[.int .u8 d.kind, .int .i64 d.cell, .int .i64 d.to, .int .i64 d.n]] w fun e w' => e = .returned (.tuple #[.agg #[.slice none 0 0, .int .i64 0, .int .i64 0, .int .i64 0, .int .i64 0, .int .i64 0, .int .i64 0, .int .i64 0, .int .i64 0, .int .i64 0], .int .i64 n]) ∧ Kept w w') : Calls Tryz.prog 9 #[.agg #[.slice a p.cells.length cap, .int .i64 p.bottles, .int .i64 p.inH, .int .i64 p.inA, .int .i64 p.vH, .int .i64 p.vA, .int .i64 p.lH, .int .i64 p.lA, .int .i64 p.pH, .int .i64 p.pA], .agg #[.int .u8 d.kind, .int .i64 d.cell, .int .i64 d.to, .int .i64 d.n]] w fun e w' => ∃ v, e = .returned (.tuple #[.agg #[v, .int .i64 (noPlant).bottles, .int .i64 (noPlant).inH, .int .i64 (noPlant).inA, .int .i64 (noPlant).vH, .int .i64 (noPlant).vA, .int .i64 (noPlant).lH, .int .i64 (noPlant).lA, .int .i64 (noPlant).pH, .int .i64 (noPlant).pA], .int .i64 (n)]) ∧ Mine 37 w.heap.size w' v (noPlant).cells ∧ Kept w w' := by
  refine h.mono ?_
  rintro e w' ⟨rfl, hk⟩
  exact ⟨.slice none 0 0, rfl, Mine.zero, hk⟩
theorem f_Do (p : Plant) (d : Deed) (a : Option Addr) (cap : Nat) (w : World) (hx : Row Cell.cells 7 w.heap.size w a p.cells) (hc : p.cells.length ≤ cap) (hM : cap ≤ maxLen) (hz : a = none → cap = 0) (hu : 0 ≤ d.kind ∧ d.kind ≤ 255) : Calls Tryz.prog 9 #[.agg #[.slice a p.cells.length cap, .int .i64 p.bottles, .int .i64 p.inH, .int .i64 p.inA, .int .i64 p.vH, .int .i64 p.vA, .int .i64 p.lH, .int .i64 p.lA, .int .i64 p.pH, .int .i64 p.pA], .agg #[.int .u8 d.kind, .int .i64 d.cell, .int .i64 d.to, .int .i64 d.n]] w fun e w' => ∃ v, e = .returned (.tuple #[.agg #[v, .int .i64 (doQ p d).bottles, .int .i64 (doQ p d).inH, .int .i64 (doQ p d).inA, .int .i64 (doQ p d).vH, .int .i64 (doQ p d).vA, .int .i64 (doQ p d).lH, .int .i64 (doQ p d).lA, .int .i64 (doQ p d).pH, .int .i64 (doQ p d).pA], .int .i64 (doE p d)]) ∧ Mine 37 w.heap.size w' v (doQ p d).cells ∧ Kept w w' := by
  cases hp : plantB p
  · rw [show doE p d = 32 by simp [doE, hp], show doQ p d = noPlant by simp [doQ, doE, hp]]
    exact f_zero_end (f_Do_bad p d a cap w hx hc hM hz hp)
  · by_cases h17 : 1 ≤ d.kind ∧ d.kind ≤ 7
    · have key : d.kind = 1 ∨ d.kind = 2 ∨ d.kind = 3 ∨ d.kind = 4 ∨ d.kind = 5 ∨ d.kind = 6 ∨ d.kind = 7 := by omega
      rcases key with hk | hk | hk | hk | hk | hk | hk
      · by_cases he : errA p d = 0
        · rw [show doE p d = endE (resA p d) by simp [doE, hp, he, endE], show doQ p d = endQ (resA p d) by simp [doQ, doE, hp, he, endQ] <;> (split <;> simp_all)]
          exact f_DoX_ok p d a cap w hx hc hM hz 20 (fun _ _ => by kernel_rfl) hp h17 (by rw [hk]; rfl) he (fun _ _ _ _ _ h => act1_ok d h hp hk he)
        · rw [show doE p d = errA p d by simp [doE, hp, he], show doQ p d = noPlant by simp [doQ, doE, hp, he]]
          exact f_zero_end (f_DoX_no p d a cap w hx hc hM hz 20 (fun _ _ => by kernel_rfl) hp h17 (by rw [hk]; rfl) he (fun _ _ _ _ _ h => act1_no d h hp hk he))
      · by_cases he : errA p d = 0
        · rw [show doE p d = endE (resA p d) by simp [doE, hp, he, endE], show doQ p d = endQ (resA p d) by simp [doQ, doE, hp, he, endQ] <;> (split <;> simp_all)]
          exact f_DoX_ok p d a cap w hx hc hM hz 21 (fun _ _ => by kernel_rfl) hp h17 (by rw [hk]; rfl) he (fun _ _ _ _ _ h => act2_ok d h hp hk he)
        · rw [show doE p d = errA p d by simp [doE, hp, he], show doQ p d = noPlant by simp [doQ, doE, hp, he]]
          exact f_zero_end (f_DoX_no p d a cap w hx hc hM hz 21 (fun _ _ => by kernel_rfl) hp h17 (by rw [hk]; rfl) he (fun _ _ _ _ _ h => act2_no d h hp hk he))
      · by_cases he : errA p d = 0
        · rw [show doE p d = endE (resA p d) by simp [doE, hp, he, endE], show doQ p d = endQ (resA p d) by simp [doQ, doE, hp, he, endQ] <;> (split <;> simp_all)]
          exact f_DoX_ok p d a cap w hx hc hM hz 22 (fun _ _ => by kernel_rfl) hp h17 (by rw [hk]; rfl) he (fun _ _ _ _ _ h => act3_ok d h hp hk he)
        · rw [show doE p d = errA p d by simp [doE, hp, he], show doQ p d = noPlant by simp [doQ, doE, hp, he]]
          exact f_zero_end (f_DoX_no p d a cap w hx hc hM hz 22 (fun _ _ => by kernel_rfl) hp h17 (by rw [hk]; rfl) he (fun _ _ _ _ _ h => act3_no d h hp hk he))
      · by_cases he : errA p d = 0
        · rw [show doE p d = endE (resA p d) by simp [doE, hp, he, endE], show doQ p d = endQ (resA p d) by simp [doQ, doE, hp, he, endQ] <;> (split <;> simp_all)]
          exact f_DoX_ok p d a cap w hx hc hM hz 23 (fun _ _ => by kernel_rfl) hp h17 (by rw [hk]; rfl) he (fun _ _ _ _ _ h => act4_ok d h hp hk he)
        · rw [show doE p d = errA p d by simp [doE, hp, he], show doQ p d = noPlant by simp [doQ, doE, hp, he]]
          exact f_zero_end (f_DoX_no p d a cap w hx hc hM hz 23 (fun _ _ => by kernel_rfl) hp h17 (by rw [hk]; rfl) he (fun _ _ _ _ _ h => act4_no d h hp hk he))
      · by_cases he : errA p d = 0
        · rw [show doE p d = endE (resA p d) by simp [doE, hp, he, endE], show doQ p d = endQ (resA p d) by simp [doQ, doE, hp, he, endQ] <;> (split <;> simp_all)]
          exact f_DoX_ok p d a cap w hx hc hM hz 24 (fun _ _ => by kernel_rfl) hp h17 (by rw [hk]; rfl) he (fun _ _ _ _ _ h => act5_ok d h hp hk he)
        · rw [show doE p d = errA p d by simp [doE, hp, he], show doQ p d = noPlant by simp [doQ, doE, hp, he]]
          exact f_zero_end (f_DoX_no p d a cap w hx hc hM hz 24 (fun _ _ => by kernel_rfl) hp h17 (by rw [hk]; rfl) he (fun _ _ _ _ _ h => act5_no d h hp hk he))
      · by_cases he : errA p d = 0
        · rw [show doE p d = endE (resA p d) by simp [doE, hp, he, endE], show doQ p d = endQ (resA p d) by simp [doQ, doE, hp, he, endQ] <;> (split <;> simp_all)]
          exact f_DoX_ok p d a cap w hx hc hM hz 25 (fun _ _ => by kernel_rfl) hp h17 (by rw [hk]; rfl) he (fun _ _ _ _ _ h => act6_ok d h hp hk he)
        · rw [show doE p d = errA p d by simp [doE, hp, he], show doQ p d = noPlant by simp [doQ, doE, hp, he]]
          exact f_zero_end (f_DoX_no p d a cap w hx hc hM hz 25 (fun _ _ => by kernel_rfl) hp h17 (by rw [hk]; rfl) he (fun _ _ _ _ _ h => act6_no d h hp hk he))
      · by_cases he : errA p d = 0
        · rw [show doE p d = endE (resA p d) by simp [doE, hp, he, endE], show doQ p d = endQ (resA p d) by simp [doQ, doE, hp, he, endQ] <;> (split <;> simp_all)]
          exact f_DoX_ok p d a cap w hx hc hM hz 26 (fun _ _ => by kernel_rfl) hp h17 (by rw [hk]; rfl) he (fun _ _ _ _ _ h => act7_ok d h hp hk he)
        · rw [show doE p d = errA p d by simp [doE, hp, he], show doQ p d = noPlant by simp [doQ, doE, hp, he]]
          exact f_zero_end (f_DoX_no p d a cap w hx hc hM hz 26 (fun _ _ => by kernel_rfl) hp h17 (by rw [hk]; rfl) he (fun _ _ _ _ _ h => act7_no d h hp hk he))
    · have he : errA p d = 2 := by
        have k1 : d.kind ≠ 1 ∧ d.kind ≠ 2 ∧ d.kind ≠ 3 ∧ d.kind ≠ 4 ∧ d.kind ≠ 5 ∧ d.kind ≠ 6 ∧ d.kind ≠ 7 := by omega
        simp [errA, k1]
      rw [show doE p d = 2 by simp [doE, hp, he], show doQ p d = noPlant by simp [doQ, doE, hp, he]]
      exact f_zero_end (f_Do_kind p d a cap w hx hc hM hz hp (by omega) (by simp [inB]; omega))

end Go.Proofs.YtamnnjdfjffhlaaGreatDoor

/-
  The lifts of a cell.
-/
namespace Go.Proofs.YtamnnjdfjffhlaaGreatDoor
open Go.RowKit Bal Bal.Trim Bal.Gas
set_option linter.unusedVariables false
set_option linter.unusedSimpArgs false
set_option maxHeartbeats 800000

set_option maxRecDepth 10000
theorem i64_inA {n : Int} (h : -9223372036854775808 ≤ n ∧ n ≤ 9223372036854775807) : IntKind.i64.wrap n = n := by rw [IntKind.wrap_i64]; have := w64_in n h; unfold wrap64 at this; omega
theorem infoR : (Tryz.prog.info? 86).map (fun i => (i.zero, i.size, i.bytes)) = some (some (.agg #[.int .i64 0, .int .i64 0]), 2, 16) := by kernel_rfl
/-- what stands around the lift's loops: the arguments' boxes, the result, the cell in air, the two superheats -/
def LiftB (w w1 W : World) (c : Cell) (a : Air) : Prop :=
  Blk W w.heap.size #[.int .i64 c.room, .int .i64 c.helium, .int .i64 c.air, .int .i64 c.wlo, .int .i64 c.whi, .int .i64 c.leak, .int .i64 c.owed] 37 ∧ Blk W (w.heap.size + 1) #[.int .i64 a.plo, .int .i64 a.phi, .int .i64 a.tlo, .int .i64 a.thi] 30 ∧ Blk W (w.heap.size + 1 + 1) #[.int .i64 0, .int .i64 0] 28 ∧ Blk W w1.heap.size #[.int .i64 c.room, .int .i64 c.helium, .int .i64 c.air, .int .i64 c.wlo, .int .i64 c.whi, .int .i64 c.leak, .int .i64 c.owed, .int .i64 a.plo, .int .i64 a.phi, .int .i64 a.tlo, .int .i64 a.thi, .int .i64 (amount c), .int .i64 (heatLo c a), .int .i64 (heatHi c a)] 80 ∧ Kept w W
theorem LiftB.keep {w w1 W W' : World} {c : Cell} {a : Air} (h : LiftB w w1 W c a) (k : Kept W W') : LiftB w w1 W' c a :=
  ⟨h.1.keep k, h.2.1.keep k, h.2.2.1.keep k, h.2.2.2.1.keep k, Kept.drop h.2.2.2.2 k⟩
theorem LiftB.grown {w w1 W W' : World} {c : Cell} {a : Air} {k n : Nat} {v : Value} {xs : List Value} (h : LiftB w w1 W c a) (ho : W.ownsRow w.heap.size 86 k v n xs) (hg : W.grownBy W' v.ownBlock) : LiftB w w1 W' c a :=
  ⟨h.1.grown ho (by decide) hg, h.2.1.grown ho (by decide) hg, h.2.2.1.grown ho (by decide) hg, h.2.2.2.1.grown ho (by decide) hg, h.2.2.2.2.grown ho (Nat.le_refl _) hg⟩
def LiftOut (w w1 : World) (c : Cell) (a : Air) (s i : Value) (W : World) : Prop :=
  ∃ k : Nat, k ≤ 2 ∧ i = .int .i64 k ∧ W.ownsRow w.heap.size 86 2 s (2 * k) (((liftR c a).take (2 * k)).flatMap Ratio.cells) ∧ LiftB w w1 W c a ∧ Blk W (w1.heap.size + 1) #[.int .i64 c.wlo, .int .i64 c.whi] 3
def LiftIn (w w1 wr : World) (c : Cell) (a : Air) (k : Nat) (s j : Value) (W : World) : Prop :=
  ∃ m : Nat, m ≤ 2 ∧ j = .int .i64 m ∧ W.ownsRow w.heap.size 86 2 s (2 * k + m) (((liftR c a).take (2 * k + m)).flatMap Ratio.cells) ∧ LiftB w w1 W c a ∧ Blk W (w1.heap.size + 1) #[.int .i64 c.wlo, .int .i64 c.whi] 3 ∧ Blk W wr.heap.size #[.int .i64 a.tlo, .int .i64 a.thi] 3

theorem f_Lift_ok (c : Cell) (a : Air) (w : World) (hv : cellB c = true) (ha : airB a = true) :
    Calls Tryz.prog 11 #[.agg #[.int .i64 c.room, .int .i64 c.helium, .int .i64 c.air, .int .i64 c.wlo, .int .i64 c.whi, .int .i64 c.leak, .int .i64 c.owed], .agg #[.int .i64 a.plo, .int .i64 a.phi, .int .i64 a.tlo, .int .i64 a.thi]] w fun e w' => e = .returned (.tuple #[.agg #[.int .i64 (liftLo c a), .int .i64 (liftHi c a)], .int .i64 0]) ∧ Kept w w' := by
  obtain ⟨n0, n1, _⟩ := prod_bd hv ha
  obtain ⟨⟨h7, h8, h9⟩, h10, h11, h12⟩ := airB_iff.1 ha
  obtain ⟨_, ⟨u1, u2⟩, _, _, _, u3, u4, u5⟩ := cellB_iff.1 hv
  have b1 := pull_bd (x := c.wlo) hv (by omega)
  have b2 := pull_bd (x := c.whi) hv (by omega)
  have E1 := Lib.hid (lift_lo hv ha)
  have E2 := Lib.hid (lift_hi hv ha)
  have HR := Lib.hid (show ∀ x ∈ liftR c a, ratioOk x by intro x hx; simp only [liftR, List.mem_cons, List.not_mem_nil, or_false] at hx; rcases hx with rfl | rfl | rfl | rfl <;> refine ⟨?_, ?_, ?_, ?_⟩ <;> simp only <;> omega)
  have l1 : -1000000000000 ≤ liftLo c a ∧ liftLo c a ≤ 1000000000000 := by
    have d1 := div_bd (N := 174000000000) b1.1 b1.2 (show 0 < a.tlo by omega) (by omega)
    have d2 := div_bd (N := 174000000000) b1.1 b1.2 (show 0 < a.thi by omega) (by omega)
    unfold liftLo; omega
  have l2 : -1000000000000 ≤ liftHi c a ∧ liftHi c a ≤ 1000000000000 := by
    have d1 := div_bd (N := 174000000000) (a := -pull c c.whi) (by omega) (by omega) (show 0 < a.tlo by omega) (by omega)
    have d2 := div_bd (N := 174000000000) (a := -pull c c.whi) (by omega) (by omega) (show 0 < a.thi by omega) (by omega)
    unfold liftHi; omega
  have HV := Lib.hid hv
  have HA := Lib.hid ha
  clear hv ha
  unfold pull at b1 b2
  go_enter Tryz.func11, Tryz.ntmps11
  go_wp2_with (go_at_call 30; (with_reducible refine (f_put_good c a _ HV.out HA.out).mono ?_); rintro e w1 ⟨rfl, hb1⟩; obtain ⟨hc1, hf1, hl1⟩ := bcell3 hb1; refine Blk.thru (b := w.heap.size) (arr := ?_) (t := ?_) ?_ hb1 ?_; rotate_left 2; (focus (exact blk)); intro qa; have qac0 := qa.cell 0; have qaf0 := qa.free 0; have qac1 := qa.cell 1; have qaf1 := qa.free 1; have qac2 := qa.cell 2; have qaf2 := qa.free 2; have qac3 := qa.cell 3; have qaf3 := qa.free 3; have qac4 := qa.cell 4; have qaf4 := qa.free 4; have qac5 := qa.cell 5; have qaf5 := qa.free 5; have qac6 := qa.cell 6; have qaf6 := qa.free 6; have qal := qa.lt; simp at qac0 qac1 qac2 qac3 qac4 qac5 qac6; refine Blk.thru (b := w.heap.size + 1) (arr := ?_) (t := ?_) ?_ hb1 ?_; rotate_left 2; (focus (exact blk)); intro qb; have qbc0 := qb.cell 0; have qbf0 := qb.free 0; have qbc1 := qb.cell 1; have qbf1 := qb.free 1; have qbc2 := qb.cell 2; have qbf2 := qb.free 2; have qbc3 := qb.cell 3; have qbf3 := qb.free 3; have qbl := qb.lt; simp at qbc0 qbc1 qbc2 qbc3)
  refine at_world (S := fun W => LiftB w w1 W c a ∧ Blk W (w1.heap.size + 1) #[.int .i64 c.wlo, .int .i64 c.whi] 3) ⟨⟨by (exact blk), by (exact blk), by (exact blk), by (exact blkc), by (exact kpt)⟩, by (exact blkc)⟩ ?_
  clear hc1 hf1 hl1 qac0 qaf0 qac1 qaf1 qac2 qaf2 qac3 qaf3 qac4 qaf4 qac5 qaf5 qac6 qaf6 qbc0 qbf0 qbc1 qbf1 qbc2 qbf2 qbc3 qbf3 qal qbl qa qb
  rintro W ⟨hb, q1⟩
  go_loopw [8, 33] (fun s i wr => LiftOut w w1 c a s i wr) (fun _ i _ => 2 - (intOf i).toNat)
  case atStart => exact ⟨0, by omega, rfl, owns_nil (α := Ratio) (enc := Ratio.cells), hb, q1⟩
  case round =>
    clear hb q1
    obtain ⟨k, hk2, rfl, hown, hb, q1⟩ := hrel
    rcases (show k = 0 ∨ k = 1 ∨ k = 2 by omega) with rfl | rfl | rfl
    · skip
      obtain ⟨r0, r1, r2, r3, hk⟩ := hb
      have r1c0 := r1.cell 0
      have r1f0 := r1.free 0
      have r1c1 := r1.cell 1
      have r1f1 := r1.free 1
      have r1c2 := r1.cell 2
      have r1f2 := r1.free 2
      have r1c3 := r1.cell 3
      have r1f3 := r1.free 3
      have r1l := r1.lt
      simp at r1c0 r1c1 r1c2 r1c3
      have q1c0 := q1.cell 0
      have q1f0 := q1.free 0
      have q1c1 := q1.cell 1
      have q1f1 := q1.free 1
      have q1l := q1.lt
      simp at q1c0 q1c1
      have sz := hk.size
      go_wp2
      have hown2 := hown.alloc (.cells #[.int .i64 a.tlo, .int .i64 a.thi] 3)
      go_loopw [8, 45] (fun s j wq => LiftIn w w1 wr c a 0 s j wq) (fun _ j _ => 2 - (intOf j).toNat)
      case atStart => exact ⟨0, by omega, rfl, hown2, LiftB.keep ⟨r0, r1, r2, r3, hk⟩ (Kept.alloc (Below.refl _ _) _), Blk.alloc q1 _, Blk.new⟩
      case round =>
        clear r0 r1 r2 r3 hk q1 hown hown2 r1c0 r1f0 r1c1 r1f1 r1c2 r1f2 r1c3 r1f3 q1c0 q1c1 q1f0 q1f1 r1l q1l
        obtain ⟨m, hm, rfl, hown, hb, q1, q2⟩ := hrel
        rcases (show m = 0 ∨ m = 1 ∨ m = 2 by omega) with rfl | rfl | rfl
        · skip
          obtain ⟨r0, r1, r2, r3, hk⟩ := hb
          have r3c0 := r3.cell 0
          have r3f0 := r3.free 0
          have r3c1 := r3.cell 1
          have r3f1 := r3.free 1
          have r3c2 := r3.cell 2
          have r3f2 := r3.free 2
          have r3c3 := r3.cell 3
          have r3f3 := r3.free 3
          have r3c4 := r3.cell 4
          have r3f4 := r3.free 4
          have r3c5 := r3.cell 5
          have r3f5 := r3.free 5
          have r3c6 := r3.cell 6
          have r3f6 := r3.free 6
          have r3c7 := r3.cell 7
          have r3f7 := r3.free 7
          have r3c8 := r3.cell 8
          have r3f8 := r3.free 8
          have r3c9 := r3.cell 9
          have r3f9 := r3.free 9
          have r3c10 := r3.cell 10
          have r3f10 := r3.free 10
          have r3c11 := r3.cell 11
          have r3f11 := r3.free 11
          have r3l := r3.lt
          simp at r3c0 r3c1 r3c2 r3c3 r3c4 r3c5 r3c6 r3c7 r3c8 r3c9 r3c10 r3c11
          have q1c0 := q1.cell 0
          have q1f0 := q1.free 0
          have q1c1 := q1.cell 1
          have q1f1 := q1.free 1
          have q1l := q1.lt
          simp at q1c0 q1c1
          have q2c0 := q2.cell 0
          have q2f0 := q2.free 0
          have q2c1 := q2.cell 1
          have q2f1 := q2.free 1
          have q2l := q2.lt
          simp at q2c0 q2c1
          have sz := hk.size
          go_wp2_with (at_builtin; obtain ⟨i0, hi, hz0, hz1, hz2⟩ := info_parts infoR; refine wpList_append_own _ rfl _ _ 83 rfl w.heap.size 86 i0 (.agg #[.int .i64 0, .int .i64 0]) 2 16 Tryz.underlying83 hi hz0 hz1 hz2 rfl (by decide) _ _ _ rfl (hown.alloc _) ⟨wr.heap.size, 0, none⟩ 1 1 [.int .i64 (pull c c.wlo), .int .i64 a.tlo] rfl rfl (cell_two_new _ _ _ _) (fun x hx => by simp at hx; rcases hx with rfl | rfl <;> rfl) (by unfold maxLen; omega) (by omega) (by simp; omega) ?_; intro v' w3 hown' hgrow hnil; clear hi hz0 hz1 hz2)
          go_roundw
          case rel =>
            have hb2 : LiftB w w1 w3 c a := LiftB.grown (LiftB.keep ⟨r0, r1, r2, r3, hk⟩ (Kept.alloc (Below.refl _ _) _)) (hown.alloc _) hgrow
            repeat (apply Exists.intro)
            refine ⟨?_, rfl⟩
            refine ⟨0 + 1, by omega, by go_num, ?_, hb2, (Blk.alloc q1 _).grown (hown.alloc _) (by decide) hgrow, (Blk.alloc q2 _).grown (hown.alloc _) (by decide) hgrow⟩
            simpa [liftR, Ratio.cells] using hown'
          case measure => simp [intOf]
        · skip
          obtain ⟨r0, r1, r2, r3, hk⟩ := hb
          have r3c0 := r3.cell 0
          have r3f0 := r3.free 0
          have r3c1 := r3.cell 1
          have r3f1 := r3.free 1
          have r3c2 := r3.cell 2
          have r3f2 := r3.free 2
          have r3c3 := r3.cell 3
          have r3f3 := r3.free 3
          have r3c4 := r3.cell 4
          have r3f4 := r3.free 4
          have r3c5 := r3.cell 5
          have r3f5 := r3.free 5
          have r3c6 := r3.cell 6
          have r3f6 := r3.free 6
          have r3c7 := r3.cell 7
          have r3f7 := r3.free 7
          have r3c8 := r3.cell 8
          have r3f8 := r3.free 8
          have r3c9 := r3.cell 9
          have r3f9 := r3.free 9
          have r3c10 := r3.cell 10
          have r3f10 := r3.free 10
          have r3c11 := r3.cell 11
          have r3f11 := r3.free 11
          have r3l := r3.lt
          simp at r3c0 r3c1 r3c2 r3c3 r3c4 r3c5 r3c6 r3c7 r3c8 r3c9 r3c10 r3c11
          have q1c0 := q1.cell 0
          have q1f0 := q1.free 0
          have q1c1 := q1.cell 1
          have q1f1 := q1.free 1
          have q1l := q1.lt
          simp at q1c0 q1c1
          have q2c0 := q2.cell 0
          have q2f0 := q2.free 0
          have q2c1 := q2.cell 1
          have q2f1 := q2.free 1
          have q2l := q2.lt
          simp at q2c0 q2c1
          have sz := hk.size
          go_wp2_with (at_builtin; obtain ⟨i0, hi, hz0, hz1, hz2⟩ := info_parts infoR; refine wpList_append_own _ rfl _ _ 83 rfl w.heap.size 86 i0 (.agg #[.int .i64 0, .int .i64 0]) 2 16 Tryz.underlying83 hi hz0 hz1 hz2 rfl (by decide) _ _ _ rfl (hown.alloc _) ⟨wr.heap.size, 0, none⟩ 1 1 [.int .i64 (pull c c.wlo), .int .i64 a.thi] rfl rfl (cell_two_new _ _ _ _) (fun x hx => by simp at hx; rcases hx with rfl | rfl <;> rfl) (by unfold maxLen; omega) (by omega) (by simp; omega) ?_; intro v' w3 hown' hgrow hnil; clear hi hz0 hz1 hz2)
          go_roundw
          case rel =>
            have hb2 : LiftB w w1 w3 c a := LiftB.grown (LiftB.keep ⟨r0, r1, r2, r3, hk⟩ (Kept.alloc (Below.refl _ _) _)) (hown.alloc _) hgrow
            repeat (apply Exists.intro)
            refine ⟨?_, rfl⟩
            refine ⟨1 + 1, by omega, by go_num, ?_, hb2, (Blk.alloc q1 _).grown (hown.alloc _) (by decide) hgrow, (Blk.alloc q2 _).grown (hown.alloc _) (by decide) hgrow⟩
            simpa [liftR, Ratio.cells] using hown'
          case measure => simp [intOf]
        · go_wp2
          go_roundw
          case rel =>
            first
            | exact ⟨0 + 1, by omega, by go_num, hown, hb, q1⟩
            | (apply Exists.intro; repeat (apply Exists.intro); refine ⟨?_, rfl⟩; exact ⟨0 + 1, by omega, by go_num, hown, hb, q1⟩)
          case measure => simp [intOf]
    · skip
      obtain ⟨r0, r1, r2, r3, hk⟩ := hb
      have r1c0 := r1.cell 0
      have r1f0 := r1.free 0
      have r1c1 := r1.cell 1
      have r1f1 := r1.free 1
      have r1c2 := r1.cell 2
      have r1f2 := r1.free 2
      have r1c3 := r1.cell 3
      have r1f3 := r1.free 3
      have r1l := r1.lt
      simp at r1c0 r1c1 r1c2 r1c3
      have q1c0 := q1.cell 0
      have q1f0 := q1.free 0
      have q1c1 := q1.cell 1
      have q1f1 := q1.free 1
      have q1l := q1.lt
      simp at q1c0 q1c1
      have sz := hk.size
      go_wp2
      have hown2 := hown.alloc (.cells #[.int .i64 a.tlo, .int .i64 a.thi] 3)
      go_loopw [8, 45] (fun s j wq => LiftIn w w1 wr c a 1 s j wq) (fun _ j _ => 2 - (intOf j).toNat)
      case atStart => exact ⟨0, by omega, rfl, hown2, LiftB.keep ⟨r0, r1, r2, r3, hk⟩ (Kept.alloc (Below.refl _ _) _), Blk.alloc q1 _, Blk.new⟩
      case round =>
        clear r0 r1 r2 r3 hk q1 hown hown2 r1c0 r1f0 r1c1 r1f1 r1c2 r1f2 r1c3 r1f3 q1c0 q1c1 q1f0 q1f1 r1l q1l
        obtain ⟨m, hm, rfl, hown, hb, q1, q2⟩ := hrel
        rcases (show m = 0 ∨ m = 1 ∨ m = 2 by omega) with rfl | rfl | rfl
        · skip
          obtain ⟨r0, r1, r2, r3, hk⟩ := hb
          have r3c0 := r3.cell 0
          have r3f0 := r3.free 0
          have r3c1 := r3.cell 1
          have r3f1 := r3.free 1
          have r3c2 := r3.cell 2
          have r3f2 := r3.free 2
          have r3c3 := r3.cell 3
          have r3f3 := r3.free 3
          have r3c4 := r3.cell 4
          have r3f4 := r3.free 4
          have r3c5 := r3.cell 5
          have r3f5 := r3.free 5
          have r3c6 := r3.cell 6
          have r3f6 := r3.free 6
          have r3c7 := r3.cell 7
          have r3f7 := r3.free 7
          have r3c8 := r3.cell 8
          have r3f8 := r3.free 8
          have r3c9 := r3.cell 9
          have r3f9 := r3.free 9
          have r3c10 := r3.cell 10
          have r3f10 := r3.free 10
          have r3c11 := r3.cell 11
          have r3f11 := r3.free 11
          have r3l := r3.lt
          simp at r3c0 r3c1 r3c2 r3c3 r3c4 r3c5 r3c6 r3c7 r3c8 r3c9 r3c10 r3c11
          have q1c0 := q1.cell 0
          have q1f0 := q1.free 0
          have q1c1 := q1.cell 1
          have q1f1 := q1.free 1
          have q1l := q1.lt
          simp at q1c0 q1c1
          have q2c0 := q2.cell 0
          have q2f0 := q2.free 0
          have q2c1 := q2.cell 1
          have q2f1 := q2.free 1
          have q2l := q2.lt
          simp at q2c0 q2c1
          have sz := hk.size
          go_wp2_with (at_builtin; obtain ⟨i0, hi, hz0, hz1, hz2⟩ := info_parts infoR; refine wpList_append_own _ rfl _ _ 83 rfl w.heap.size 86 i0 (.agg #[.int .i64 0, .int .i64 0]) 2 16 Tryz.underlying83 hi hz0 hz1 hz2 rfl (by decide) _ _ _ rfl (hown.alloc _) ⟨wr.heap.size, 0, none⟩ 1 1 [.int .i64 (pull c c.whi), .int .i64 a.tlo] rfl rfl (cell_two_new _ _ _ _) (fun x hx => by simp at hx; rcases hx with rfl | rfl <;> rfl) (by unfold maxLen; omega) (by omega) (by simp; omega) ?_; intro v' w3 hown' hgrow hnil; clear hi hz0 hz1 hz2)
          go_roundw
          case rel =>
            have hb2 : LiftB w w1 w3 c a := LiftB.grown (LiftB.keep ⟨r0, r1, r2, r3, hk⟩ (Kept.alloc (Below.refl _ _) _)) (hown.alloc _) hgrow
            repeat (apply Exists.intro)
            refine ⟨?_, rfl⟩
            refine ⟨0 + 1, by omega, by go_num, ?_, hb2, (Blk.alloc q1 _).grown (hown.alloc _) (by decide) hgrow, (Blk.alloc q2 _).grown (hown.alloc _) (by decide) hgrow⟩
            simpa [liftR, Ratio.cells] using hown'
          case measure => simp [intOf]
        · skip
          obtain ⟨r0, r1, r2, r3, hk⟩ := hb
          have r3c0 := r3.cell 0
          have r3f0 := r3.free 0
          have r3c1 := r3.cell 1
          have r3f1 := r3.free 1
          have r3c2 := r3.cell 2
          have r3f2 := r3.free 2
          have r3c3 := r3.cell 3
          have r3f3 := r3.free 3
          have r3c4 := r3.cell 4
          have r3f4 := r3.free 4
          have r3c5 := r3.cell 5
          have r3f5 := r3.free 5
          have r3c6 := r3.cell 6
          have r3f6 := r3.free 6
          have r3c7 := r3.cell 7
          have r3f7 := r3.free 7
          have r3c8 := r3.cell 8
          have r3f8 := r3.free 8
          have r3c9 := r3.cell 9
          have r3f9 := r3.free 9
          have r3c10 := r3.cell 10
          have r3f10 := r3.free 10
          have r3c11 := r3.cell 11
          have r3f11 := r3.free 11
          have r3l := r3.lt
          simp at r3c0 r3c1 r3c2 r3c3 r3c4 r3c5 r3c6 r3c7 r3c8 r3c9 r3c10 r3c11
          have q1c0 := q1.cell 0
          have q1f0 := q1.free 0
          have q1c1 := q1.cell 1
          have q1f1 := q1.free 1
          have q1l := q1.lt
          simp at q1c0 q1c1
          have q2c0 := q2.cell 0
          have q2f0 := q2.free 0
          have q2c1 := q2.cell 1
          have q2f1 := q2.free 1
          have q2l := q2.lt
          simp at q2c0 q2c1
          have sz := hk.size
          go_wp2_with (at_builtin; obtain ⟨i0, hi, hz0, hz1, hz2⟩ := info_parts infoR; refine wpList_append_own _ rfl _ _ 83 rfl w.heap.size 86 i0 (.agg #[.int .i64 0, .int .i64 0]) 2 16 Tryz.underlying83 hi hz0 hz1 hz2 rfl (by decide) _ _ _ rfl (hown.alloc _) ⟨wr.heap.size, 0, none⟩ 1 1 [.int .i64 (pull c c.whi), .int .i64 a.thi] rfl rfl (cell_two_new _ _ _ _) (fun x hx => by simp at hx; rcases hx with rfl | rfl <;> rfl) (by unfold maxLen; omega) (by omega) (by simp; omega) ?_; intro v' w3 hown' hgrow hnil; clear hi hz0 hz1 hz2)
          go_roundw
          case rel =>
            have hb2 : LiftB w w1 w3 c a := LiftB.grown (LiftB.keep ⟨r0, r1, r2, r3, hk⟩ (Kept.alloc (Below.refl _ _) _)) (hown.alloc _) hgrow
            repeat (apply Exists.intro)
            refine ⟨?_, rfl⟩
            refine ⟨1 + 1, by omega, by go_num, ?_, hb2, (Blk.alloc q1 _).grown (hown.alloc _) (by decide) hgrow, (Blk.alloc q2 _).grown (hown.alloc _) (by decide) hgrow⟩
            simpa [liftR, Ratio.cells] using hown'
          case measure => simp [intOf]
        · go_wp2
          go_roundw
          case rel =>
            first
            | exact ⟨1 + 1, by omega, by go_num, hown, hb, q1⟩
            | (apply Exists.intro; repeat (apply Exists.intro); refine ⟨?_, rfl⟩; exact ⟨1 + 1, by omega, by go_num, hown, hb, q1⟩)
          case measure => simp [intOf]
    · obtain ⟨r0, r1, r2, r3, hk⟩ := hb
      have hown' : wr.ownsRow w.heap.size 86 2 _ (liftR c a).length ((liftR c a).flatMap Ratio.cells) := hown
      obtain ⟨ad, cap, rfl, hrow, hc4, hcm⟩ := Row.of_owns (enc := Ratio.cells) (k := 2) (fun _ => rfl) hown'
      have HW := i64_inA (n := 25 * c.helium) (by omega)
      have hc2 : 2 ≤ (liftR c a).length := by simp [liftR]
      have hcm2 : cap ≤ 9223372036854775807 := by unfold maxLen at hcm; omega
      have k0 : ∀ w', Kept wr w' → w'.cell? ⟨w.heap.size, 1, none⟩ = some (.int .i64 c.helium) := fun w' h => by rw [(r0.keep h).cell 1]; rfl
      go_wp2
      go_upto_region 14 with fail
      go_cut [13, 14] (fun s13 s14 wx => ∃ g, s13 = .pointer (some ⟨g, 0, none⟩) ∧ s14 = .int .i64 (25 * c.helium) ∧ Blk wx g #[.int .i64 (leastLo (liftR c a)), .int .i64 (leastHi (liftR c a))] 28 ∧ Blk wx (w.heap.size + 1 + 1) #[.int .i64 0, .int .i64 0] 28 ∧ Kept w wx)
      case first =>
        go_region_held3 (fun w' => Kept wr w') (exact kpt) (first | (go_at_call 31; (with_reducible refine (f_least _ _ _ (liftR c a) _ rfl (B := 0) (hrow.later (by (exact kpt)) (Nat.le_refl _)) hc2 hc4 hcm2 HR.out).mono ?_); rintro e w1 ⟨rfl, hb1⟩; obtain ⟨hc1, hf1, hl1⟩ := bcell3 hb1))
        all_goals (go_wp2_with fail; go_meet)
        all_goals
          refine ⟨_, rfl, rfl, ?_, ?_, ?_⟩
          · (exact blkc)
          · (exact blkc)
          · (exact kpt)
      case rest =>
        obtain ⟨g, rfl, rfl, p1, p0, hkx⟩ := hcut
        have p1c0 := p1.cell 0
        have p1f0 := p1.free 0
        have p1c1 := p1.cell 1
        have p1f1 := p1.free 1
        have p1l := p1.lt
        simp at p1c0 p1c1
        have p0c0 := p0.cell 0
        have p0f0 := p0.free 0
        have p0c1 := p0.cell 1
        have p0f1 := p0.free 1
        have p0l := p0.lt
        simp at p0c0 p0c1
        have e1 := E1.out
        have e2 := E2.out
        go_wp2
        exact bodyPost_ret (v := .tuple #[.agg #[.int .i64 (liftLo c a), .int .i64 (liftHi c a)], .int .i64 0]) (by simp [results, Tryz.results11, go_sem, p0c0, p0c1, p0f0, p0f1]) rfl ⟨rfl, by (exact kpt)⟩

end Go.Proofs.YtamnnjdfjffhlaaGreatDoor

/-
  An argument that is a struct of numbers, opened. No program in sight.
-/
namespace Bal
open Go Go.RowKit Go.WideShapes
section
variable {H : Type} {enc : TypeId × Value → H} {P : Program} {w : World} {base : Nat} {spare : Nat → Bool} {held : Bool}
theorem open_agg {α : Type} {enc' : α → List Value} {wf : α → Prop} {ls : List Leaf} (hdec : ∀ cs, LeavesOk ls cs → ∃ x : α, cs = enc' x ∧ wf x) {t : TypeId} {fs : Array Field} {n : Nat} {v : Value} {d : DataW H} {ps : List MemPlace} {r : Reach} {b0 : Nat}
    (ht : P.underlying t = some (.struct fs)) (hls : leaves P n t = some ls) (hval : Value.okWide P w r b0 t v) (hd : DataW.Trod enc P w base spare held t v d ps) :
    ∃ x : α, v = .agg (enc' x).toArray ∧ wf x := by
  obtain ⟨cs, rfl, _⟩ := okWide_struct ht hval
  obtain ⟨fuel, hf⟩ := hd
  obtain ⟨x, e, hw⟩ := hdec _ (leaves_ok n _ _ _ _ _ hls hf)
  refine ⟨x, ?_, hw⟩
  rw [← e]
  simp [Value.cells]
end
end Bal

/-
  A plant that came in, opened: its cells, its numbers.
-/
namespace Go.Proofs.YtamnnjdfjffhlaaGreatDoor
open Go.RowKit Go.ChangeShapes Go.WideShapes Go.ChangeAt Bal Bal.Trim Bal.Gas
set_option linter.unusedVariables false
set_option maxRecDepth 100000
theorem trod_field {H : Type} {enc : TypeId × Value → H} {P : Program} {w : World} {base fuel : Nat} {spare : Nat → Bool} {held : Bool} {fs : Array Field} {cs : List Value} {xs : List (DataW H × List MemPlace)} (hxl : xs.length = fs.size)
    (hg : ∀ (i : Nat) (f : Field), fs[i]? = some f → DataW.trod enc P w base spare held fuel f.type ((cs.drop f.offset).take (P.cellsOf f.type)) = xs[i]?) (i : Nat) (f : Field) (hi : fs[i]? = some f) :
    ∃ x, DataW.trod enc P w base spare held fuel f.type ((cs.drop f.offset).take (P.cellsOf f.type)) = some x := by
  have hlt : i < fs.size := (Array.getElem?_eq_some_iff.1 hi).1
  refine ⟨xs[i]'(by omega), ?_⟩
  rw [hg i f hi]
  exact List.getElem?_eq_getElem (by omega)
theorem pair_leaves {H : Type} {enc : TypeId × Value → H} {w : World} {base fuel : Nat} {spare : Nat → Bool} {held : Bool} {cs : List Value} {x : DataW H × List MemPlace} (h : DataW.trod enc Tryz.prog w base spare held fuel 24 cs = some x) :
    ∃ a b : Int, cs = [.int .i64 a, .int .i64 b] := by
  have hl := leaves_ok (P := Tryz.prog) 4 24 [.int .i64, .int .i64] fuel cs x (by kernel_rfl) h
  obtain ⟨hl, h⟩ := hl
  match cs, hl with
  | [v0, v1], _ =>
    obtain ⟨_, e0, n0, rfl, w0⟩ := h 0 (.int .i64) rfl; simp at e0; subst e0
    obtain ⟨_, e1, n1, rfl, w1⟩ := h 1 (.int .i64) rfl; simp at e1; subst e1
    exact ⟨n0, n1, rfl⟩
theorem open_plant {H : Type} {enc : TypeId × Value → H} {w : World} {base : Nat} {spare : Nat → Bool} {held : Bool} {v : Value} {d : DataW H} {ps : List MemPlace} {r : Reach} {b0 : Nat}
    (hval : Value.okWide Tryz.prog w r b0 26 v) (hd : DataW.Trod enc Tryz.prog w base spare held 26 v d ps) :
    ∃ (a : Option Addr) (c : Nat) (p : Plant), v = .agg (plantCells (.slice a p.cells.length c) p) ∧
      Row Cell.cells 7 w.heap.size w a p.cells ∧ p.cells.length ≤ c ∧ c ≤ maxLen ∧ (a = none → c = 0) := by
  obtain ⟨cs, rfl, hsz⟩ := okWide_struct Tryz.underlying26 hval
  obtain ⟨fuel, hf⟩ := hd
  obtain ⟨zs, n, _, _, hcl, hxl, hg⟩ := DataW.trod_struct Tryz.underlying26 hf
  have hc5 : Tryz.prog.cellsOf 26 = 10 := by kernel_rfl
  have k1 : Tryz.prog.cellsOf 3 = 1 := by kernel_rfl
  have k2 : Tryz.prog.cellsOf 22 = 1 := by kernel_rfl
  have k3 : Tryz.prog.cellsOf 24 = 2 := by kernel_rfl
  obtain ⟨x0, h0⟩ := trod_field hxl hg 0 _ rfl
  obtain ⟨x1, h1⟩ := trod_field hxl hg 1 _ rfl
  obtain ⟨x2, h2⟩ := trod_field hxl hg 2 _ rfl
  obtain ⟨x3, h3⟩ := trod_field hxl hg 3 _ rfl
  obtain ⟨x4, h4⟩ := trod_field hxl hg 4 _ rfl
  obtain ⟨x5, h5⟩ := trod_field hxl hg 5 _ rfl
  have g0 : DataW.trod enc Tryz.prog w base spare held n 22 (((Value.agg cs).cells.toList.drop 0).take (Tryz.prog.cellsOf 22)) = some x0 := h0
  have g1 : DataW.trod enc Tryz.prog w base spare held n 3 (((Value.agg cs).cells.toList.drop 1).take (Tryz.prog.cellsOf 3)) = some x1 := h1
  have g2 : DataW.trod enc Tryz.prog w base spare held n 24 (((Value.agg cs).cells.toList.drop 2).take (Tryz.prog.cellsOf 24)) = some x2 := h2
  have g3 : DataW.trod enc Tryz.prog w base spare held n 24 (((Value.agg cs).cells.toList.drop 4).take (Tryz.prog.cellsOf 24)) = some x3 := h3
  have g4 : DataW.trod enc Tryz.prog w base spare held n 24 (((Value.agg cs).cells.toList.drop 6).take (Tryz.prog.cellsOf 24)) = some x4 := h4
  have g5 : DataW.trod enc Tryz.prog w base spare held n 24 (((Value.agg cs).cells.toList.drop 8).take (Tryz.prog.cellsOf 24)) = some x5 := h5
  clear h0 h1 h2 h3 h4 h5
  rw [k2] at g0
  rw [k1] at g1
  rw [k3] at g2 g3 g4 g5
  obtain ⟨a, c, xs, e0, hl0, hm0, row0, _, z0⟩ := open_typed (n := 4) (fun _ h => Cell.of_leaves h) Tryz.underlying22 (by kernel_rfl) (by kernel_rfl) (by decide) g0
  obtain ⟨q1, e1, _, _⟩ := DataW.trod_int Tryz.underlying3 g1
  obtain ⟨q2h, q2a, e2⟩ := pair_leaves g2
  obtain ⟨q3h, q3a, e3⟩ := pair_leaves g3
  obtain ⟨q4h, q4a, e4⟩ := pair_leaves g4
  obtain ⟨q5h, q5a, e5⟩ := pair_leaves g5
  refine ⟨a, c, ⟨xs, q1, q2h, q2a, q3h, q3a, q4h, q4a, q5h, q5a⟩, ?_, row0, hl0, hm0, z0⟩
  obtain ⟨l⟩ := cs
  rw [hc5] at hsz
  match l, hsz with
  | [c0, c1, c2, c3, c4, c5, c6, c7, c8, c9], _ =>
    simp [Value.cells] at e0 e1 e2 e3 e4 e5
    simp [plantCells, e0, e1, e2, e3, e4, e5]
end Go.Proofs.YtamnnjdfjffhlaaGreatDoor

/-
  Bounds of numbers that came in.
-/
namespace Go.Proofs.YtamnnjdfjffhlaaGreatDoor
open Go Go.RowKit
theorem wf_u16 {n : Int} (h : (Lit.int .u16 n).wf = true) : 0 ≤ n ∧ n ≤ 65535 := by
  simp only [Lit.wf, Bool.and_eq_true, decide_eq_true_eq] at h
  have e1 : IntKind.min .u16 = 0 := by decide
  have e2 : IntKind.max .u16 = 65535 := by decide
  rw [e1, e2] at h
  exact h
theorem wf_u8o {n : Int} (h : (Lit.int .u8 n).wf = true) : 0 ≤ n ∧ n ≤ 255 := by
  simp only [Lit.wf, Bool.and_eq_true, decide_eq_true_eq] at h
  have e1 : IntKind.min .u8 = 0 := by decide
  have e2 : IntKind.max .u8 = 255 := by decide
  rw [e1, e2] at h
  exact h
theorem wf_i64 {n : Int} (h : (Lit.int .i64 n).wf = true) : -9223372036854775808 ≤ n ∧ n ≤ 9223372036854775807 := by
  simp only [Lit.wf, Bool.and_eq_true, decide_eq_true_eq] at h
  have e1 : IntKind.min .i64 = -9223372036854775808 := by decide
  have e2 : IntKind.max .i64 = 9223372036854775807 := by decide
  rw [e1, e2] at h
  exact h
end Go.Proofs.YtamnnjdfjffhlaaGreatDoor

/-
  The words of a string that is known sign by sign: for the facts on how a program was made. No program in sight.
-/
namespace Bal
open Go
theorem words_cons : ∀ (w r : List Char), w.all (fun c => c != Char.ofNat 32) = true → wordsSigns (w ++ Char.ofNat 32 :: r) = w :: wordsSigns r
  | [], r, _ => by simp [wordsSigns]
  | c :: w, r, h => by
    simp only [List.all_cons, Bool.and_eq_true, bne_iff_ne, ne_eq] at h
    obtain ⟨h1, h2⟩ := h
    have ih := words_cons w r h2
    rw [List.cons_append]
    simp [wordsSigns, ih]
theorem words_last : ∀ (w : List Char), w.all (fun c => c != Char.ofNat 32) = true → wordsSigns w = [w]
  | [], _ => by simp [wordsSigns]
  | c :: w, h => by
    simp only [List.all_cons, Bool.and_eq_true, bne_iff_ne, ne_eq] at h
    obtain ⟨h1, h2⟩ := h
    simp [wordsSigns, words_last w h2]
/-! A program that was cut, behind a harness. (With the program a variable the kernel never unfolds it.) -/
section
variable {P : Program} {w0 w1 : List Char} {r : List (List Char)}
theorem behind_cut (h : wordsSigns P.initOrder.toList = w0 :: w1 :: [Char.ofNat 99, Char.ofNat 117, Char.ofNat 116] :: r) (h0 : w0 = "harness".toList) (h1 : isSumSigns w1 = true) : behindMainWord (wordsSigns P.initOrder.toList) = [Char.ofNat 99, Char.ofNat 117, Char.ofNat 116] :: r := by
  rw [h]
  have e : (w0 == "harness".toList) = true := by rw [h0]; simp
  simp only [behindMainWord, e, h1, Bool.true_or, Bool.and_self, if_true]
theorem make_cut (h : wordsSigns P.initOrder.toList = w0 :: w1 :: [Char.ofNat 99, Char.ofNat 117, Char.ofNat 116] :: r) (h0 : w0 = "harness".toList) (h1 : isSumSigns w1 = true) : P.make = some .cut := by
  unfold Program.make
  rw [behind_cut h h0 h1]
  rfl
theorem lifts_cut (h : wordsSigns P.initOrder.toList = w0 :: w1 :: [Char.ofNat 99, Char.ofNat 117, Char.ofNat 116] :: r) (h0 : w0 = "harness".toList) (h1 : isSumSigns w1 = true) : P.liftsFinal = false := by
  unfold Program.liftsFinal Program.headLifts
  rw [behind_cut h h0 h1]
  rfl
theorem enter_cut (h : wordsSigns P.initOrder.toList = w0 :: w1 :: [Char.ofNat 99, Char.ofNat 117, Char.ofNat 116] :: r) (h0 : w0 = "harness".toList) (h1 : isSumSigns w1 = true) (l : P.laysLater = false) (b : P.bearsReflect = false) (d : P.doorFits [] = true) : P.mayEnter = true := by
  unfold Program.mayEnter
  rw [behind_cut h h0 h1]
  have e : stripLifts liftWords ([Char.ofNat 99, Char.ofNat 117, Char.ofNat 116] :: r) = ([], [Char.ofNat 99, Char.ofNat 117, Char.ofNat 116] :: r) := rfl
  simp only [e, l, b, d]
  rfl
end
end Bal

/-
  How the program was made: its words, and what follows for every row of the seat.
-/
namespace Go.Proofs.YtamnnjdfjffhlaaGreatDoor
open Bal
set_option maxRecDepth 100000
def initW0 : List Char := List.map Char.ofNat [104, 97, 114, 110, 101, 115, 115]
def initW1 : List Char := List.map Char.ofNat [55, 55, 57, 102, 54, 55, 48, 48, 48, 54, 54, 57, 49, 100, 50, 98, 98, 98, 51, 49, 49, 51, 101, 98, 51, 48, 49, 100, 55, 48, 101, 49, 57, 48, 49, 53, 50, 98, 98, 55, 99, 57, 48, 51, 101, 56, 100, 57, 53, 49, 56, 56, 100, 102, 101, 53, 50, 53, 52, 54, 48, 55, 57, 55]
def initW2 : List Char := List.map Char.ofNat [99, 117, 116]
def initW3 : List Char := List.map Char.ofNat [97, 116]
def initW4 : List Char := List.map Char.ofNat [98, 97, 108, 108, 111, 110, 101, 116, 47, 98, 97, 108, 108, 111, 110, 101, 116, 116, 111, 112, 46, 84, 111, 112, 83, 104, 101, 101, 116, 101, 100]
def initL : List Char := initW0 ++ Char.ofNat 32 :: (initW1 ++ Char.ofNat 32 :: (initW2 ++ Char.ofNat 32 :: (initW3 ++ Char.ofNat 32 :: initW4)))
theorem init_is : Tryz.prog.initOrder = String.ofList initL := by kernel_rfl
theorem init_words : wordsSigns Tryz.prog.initOrder.toList = [initW0, initW1, initW2, initW3, initW4] := by
  rw [init_is, String.toList_ofList]
  unfold initL
  rw [words_cons _ _ (by decide), words_cons _ _ (by decide), words_cons _ _ (by decide), words_cons _ _ (by decide), words_last _ (by decide)]
theorem init_cut : wordsSigns Tryz.prog.initOrder.toList = initW0 :: initW1 :: [Char.ofNat 99, Char.ofNat 117, Char.ofNat 116] :: [initW3, initW4] := init_words
theorem init_sum : isSumSigns initW1 = true := by decide
theorem make_is : Tryz.prog.make = some .cut := make_cut init_cut rfl init_sum
theorem liftsFinal_is : Tryz.prog.liftsFinal = false := lifts_cut init_cut rfl init_sum
theorem mayEnter_is : Tryz.prog.mayEnter = true := enter_cut init_cut rfl init_sum (by kernel_rfl) (by kernel_rfl) (by kernel_rfl)
end Go.Proofs.YtamnnjdfjffhlaaGreatDoor

/-
  The structs of the trim statements as cells of memory. No program in sight.
-/
namespace Bal.Trim
open Go Go.RowKit

def Load.cells (x : Load) : List Value := [.int .i64 x.alo, .int .i64 x.ahi, .int .i64 x.wlo, .int .i64 x.whi]
theorem Load.row {B : Nat} {w : World} {a : Option Addr} {xs : List Load} (h : Row Load.cells 4 B w a xs) (i : Nat) (hi : i < xs.length) :
    ∃ b off, a = some ⟨b, off, none⟩ ∧ b < B ∧ w.cell? ⟨b, off + i * 4, none⟩ = some (.int .i64 xs[i].alo) ∧ w.cell? ⟨b, off + i * 4 + 1, none⟩ = some (.int .i64 xs[i].ahi) ∧ w.cell? ⟨b, off + i * 4 + 2, none⟩ = some (.int .i64 xs[i].wlo) ∧ w.cell? ⟨b, off + i * 4 + 3, none⟩ = some (.int .i64 xs[i].whi) := by
  obtain ⟨b, off, ha, hb, hc⟩ := h i xs[i] (by simp [hi])
  exact ⟨b, off, ha, hb, hc 0 _ rfl, hc 1 _ rfl, hc 2 _ rfl, hc 3 _ rfl⟩
theorem Load.of_leaves {cs : List Value} (h : LeavesOk [.int .i64, .int .i64, .int .i64, .int .i64] cs) : ∃ x : Load, cs = x.cells ∧ (Lit.int .i64 x.alo).wf = true ∧ (Lit.int .i64 x.ahi).wf = true ∧ (Lit.int .i64 x.wlo).wf = true ∧ (Lit.int .i64 x.whi).wf = true := by
  obtain ⟨hl, h⟩ := h
  match cs, hl with
  | [v0, v1, v2, v3], _ =>
    obtain ⟨_, e0, n0, rfl, w0⟩ := h 0 (.int .i64) rfl; simp at e0; subst e0
    obtain ⟨_, e1, n1, rfl, w1⟩ := h 1 (.int .i64) rfl; simp at e1; subst e1
    obtain ⟨_, e2, n2, rfl, w2⟩ := h 2 (.int .i64) rfl; simp at e2; subst e2
    obtain ⟨_, e3, n3, rfl, w3⟩ := h 3 (.int .i64) rfl; simp at e3; subst e3
    exact ⟨⟨n0, n1, n2, n3⟩, rfl, w0, w1, w2, w3⟩

def Limit.cells (x : Limit) : List Value := [.int .i64 x.a, .int .i64 x.b, .int .i64 x.c]
theorem Limit.row {B : Nat} {w : World} {a : Option Addr} {xs : List Limit} (h : Row Limit.cells 3 B w a xs) (i : Nat) (hi : i < xs.length) :
    ∃ b off, a = some ⟨b, off, none⟩ ∧ b < B ∧ w.cell? ⟨b, off + i * 3, none⟩ = some (.int .i64 xs[i].a) ∧ w.cell? ⟨b, off + i * 3 + 1, none⟩ = some (.int .i64 xs[i].b) ∧ w.cell? ⟨b, off + i * 3 + 2, none⟩ = some (.int .i64 xs[i].c) := by
  obtain ⟨b, off, ha, hb, hc⟩ := h i xs[i] (by simp [hi])
  exact ⟨b, off, ha, hb, hc 0 _ rfl, hc 1 _ rfl, hc 2 _ rfl⟩
theorem Limit.of_leaves {cs : List Value} (h : LeavesOk [.int .i64, .int .i64, .int .i64] cs) : ∃ x : Limit, cs = x.cells ∧ (Lit.int .i64 x.a).wf = true ∧ (Lit.int .i64 x.b).wf = true ∧ (Lit.int .i64 x.c).wf = true := by
  obtain ⟨hl, h⟩ := h
  match cs, hl with
  | [v0, v1, v2], _ =>
    obtain ⟨_, e0, n0, rfl, w0⟩ := h 0 (.int .i64) rfl; simp at e0; subst e0
    obtain ⟨_, e1, n1, rfl, w1⟩ := h 1 (.int .i64) rfl; simp at e1; subst e1
    obtain ⟨_, e2, n2, rfl, w2⟩ := h 2 (.int .i64) rfl; simp at e2; subst e2
    exact ⟨⟨n0, n1, n2⟩, rfl, w0, w1, w2⟩

def Frm.cells (x : Frm) : List Value := [.int .i64 x.pos, .int .i64 x.shear, .int .i64 x.bend]
theorem Frm.row {B : Nat} {w : World} {a : Option Addr} {xs : List Frm} (h : Row Frm.cells 3 B w a xs) (i : Nat) (hi : i < xs.length) :
    ∃ b off, a = some ⟨b, off, none⟩ ∧ b < B ∧ w.cell? ⟨b, off + i * 3, none⟩ = some (.int .i64 xs[i].pos) ∧ w.cell? ⟨b, off + i * 3 + 1, none⟩ = some (.int .i64 xs[i].shear) ∧ w.cell? ⟨b, off + i * 3 + 2, none⟩ = some (.int .i64 xs[i].bend) := by
  obtain ⟨b, off, ha, hb, hc⟩ := h i xs[i] (by simp [hi])
  exact ⟨b, off, ha, hb, hc 0 _ rfl, hc 1 _ rfl, hc 2 _ rfl⟩
theorem Frm.of_leaves {cs : List Value} (h : LeavesOk [.int .i64, .int .i64, .int .i64] cs) : ∃ x : Frm, cs = x.cells ∧ (Lit.int .i64 x.pos).wf = true ∧ (Lit.int .i64 x.shear).wf = true ∧ (Lit.int .i64 x.bend).wf = true := by
  obtain ⟨hl, h⟩ := h
  match cs, hl with
  | [v0, v1, v2], _ =>
    obtain ⟨_, e0, n0, rfl, w0⟩ := h 0 (.int .i64) rfl; simp at e0; subst e0
    obtain ⟨_, e1, n1, rfl, w1⟩ := h 1 (.int .i64) rfl; simp at e1; subst e1
    obtain ⟨_, e2, n2, rfl, w2⟩ := h 2 (.int .i64) rfl; simp at e2; subst e2
    exact ⟨⟨n0, n1, n2⟩, rfl, w0, w1, w2⟩

def Put.cells (x : Put) : List Value := [.int .i64 x.pos, .int .i64 x.wt]
theorem Put.row {B : Nat} {w : World} {a : Option Addr} {xs : List Put} (h : Row Put.cells 2 B w a xs) (i : Nat) (hi : i < xs.length) :
    ∃ b off, a = some ⟨b, off, none⟩ ∧ b < B ∧ w.cell? ⟨b, off + i * 2, none⟩ = some (.int .i64 xs[i].pos) ∧ w.cell? ⟨b, off + i * 2 + 1, none⟩ = some (.int .i64 xs[i].wt) := by
  obtain ⟨b, off, ha, hb, hc⟩ := h i xs[i] (by simp [hi])
  exact ⟨b, off, ha, hb, hc 0 _ rfl, hc 1 _ rfl⟩
theorem Put.of_leaves {cs : List Value} (h : LeavesOk [.int .i64, .int .i64] cs) : ∃ x : Put, cs = x.cells ∧ (Lit.int .i64 x.pos).wf = true ∧ (Lit.int .i64 x.wt).wf = true := by
  obtain ⟨hl, h⟩ := h
  match cs, hl with
  | [v0, v1], _ =>
    obtain ⟨_, e0, n0, rfl, w0⟩ := h 0 (.int .i64) rfl; simp at e0; subst e0
    obtain ⟨_, e1, n1, rfl, w1⟩ := h 1 (.int .i64) rfl; simp at e1; subst e1
    exact ⟨⟨n0, n1⟩, rfl, w0, w1⟩

def Hold.cells (x : Hold) : List Value := [.int .i64 x.pos, .int .i64 x.room]
theorem Hold.row {B : Nat} {w : World} {a : Option Addr} {xs : List Hold} (h : Row Hold.cells 2 B w a xs) (i : Nat) (hi : i < xs.length) :
    ∃ b off, a = some ⟨b, off, none⟩ ∧ b < B ∧ w.cell? ⟨b, off + i * 2, none⟩ = some (.int .i64 xs[i].pos) ∧ w.cell? ⟨b, off + i * 2 + 1, none⟩ = some (.int .i64 xs[i].room) := by
  obtain ⟨b, off, ha, hb, hc⟩ := h i xs[i] (by simp [hi])
  exact ⟨b, off, ha, hb, hc 0 _ rfl, hc 1 _ rfl⟩
theorem Hold.of_leaves {cs : List Value} (h : LeavesOk [.int .i64, .int .i64] cs) : ∃ x : Hold, cs = x.cells ∧ (Lit.int .i64 x.pos).wf = true ∧ (Lit.int .i64 x.room).wf = true := by
  obtain ⟨hl, h⟩ := h
  match cs, hl with
  | [v0, v1], _ =>
    obtain ⟨_, e0, n0, rfl, w0⟩ := h 0 (.int .i64) rfl; simp at e0; subst e0
    obtain ⟨_, e1, n1, rfl, w1⟩ := h 1 (.int .i64) rfl; simp at e1; subst e1
    exact ⟨⟨n0, n1⟩, rfl, w0, w1⟩

def Parcel.cells (x : Parcel) : List Value := [.int .i64 x.wt, .int .i64 x.cls]
theorem Parcel.row {B : Nat} {w : World} {a : Option Addr} {xs : List Parcel} (h : Row Parcel.cells 2 B w a xs) (i : Nat) (hi : i < xs.length) :
    ∃ b off, a = some ⟨b, off, none⟩ ∧ b < B ∧ w.cell? ⟨b, off + i * 2, none⟩ = some (.int .i64 xs[i].wt) ∧ w.cell? ⟨b, off + i * 2 + 1, none⟩ = some (.int .i64 xs[i].cls) := by
  obtain ⟨b, off, ha, hb, hc⟩ := h i xs[i] (by simp [hi])
  exact ⟨b, off, ha, hb, hc 0 _ rfl, hc 1 _ rfl⟩
theorem Parcel.of_leaves {cs : List Value} (h : LeavesOk [.int .i64, .int .i64] cs) : ∃ x : Parcel, cs = x.cells ∧ (Lit.int .i64 x.wt).wf = true ∧ (Lit.int .i64 x.cls).wf = true := by
  obtain ⟨hl, h⟩ := h
  match cs, hl with
  | [v0, v1], _ =>
    obtain ⟨_, e0, n0, rfl, w0⟩ := h 0 (.int .i64) rfl; simp at e0; subst e0
    obtain ⟨_, e1, n1, rfl, w1⟩ := h 1 (.int .i64) rfl; simp at e1; subst e1
    exact ⟨⟨n0, n1⟩, rfl, w0, w1⟩

def Rule.cells (x : Rule) : List Value := [.int .i64 x.a, .int .i64 x.b, .int .i64 x.apart]
theorem Rule.row {B : Nat} {w : World} {a : Option Addr} {xs : List Rule} (h : Row Rule.cells 3 B w a xs) (i : Nat) (hi : i < xs.length) :
    ∃ b off, a = some ⟨b, off, none⟩ ∧ b < B ∧ w.cell? ⟨b, off + i * 3, none⟩ = some (.int .i64 xs[i].a) ∧ w.cell? ⟨b, off + i * 3 + 1, none⟩ = some (.int .i64 xs[i].b) ∧ w.cell? ⟨b, off + i * 3 + 2, none⟩ = some (.int .i64 xs[i].apart) := by
  obtain ⟨b, off, ha, hb, hc⟩ := h i xs[i] (by simp [hi])
  exact ⟨b, off, ha, hb, hc 0 _ rfl, hc 1 _ rfl, hc 2 _ rfl⟩
theorem Rule.of_leaves {cs : List Value} (h : LeavesOk [.int .i64, .int .i64, .int .i64] cs) : ∃ x : Rule, cs = x.cells ∧ (Lit.int .i64 x.a).wf = true ∧ (Lit.int .i64 x.b).wf = true ∧ (Lit.int .i64 x.apart).wf = true := by
  obtain ⟨hl, h⟩ := h
  match cs, hl with
  | [v0, v1, v2], _ =>
    obtain ⟨_, e0, n0, rfl, w0⟩ := h 0 (.int .i64) rfl; simp at e0; subst e0
    obtain ⟨_, e1, n1, rfl, w1⟩ := h 1 (.int .i64) rfl; simp at e1; subst e1
    obtain ⟨_, e2, n2, rfl, w2⟩ := h 2 (.int .i64) rfl; simp at e2; subst e2
    exact ⟨⟨n0, n1, n2⟩, rfl, w0, w1, w2⟩

end Bal.Trim

/-
  What the checks of loads, limits and frames compute, in the program and in the reference.
-/
namespace Go.Proofs.YtamnnjdfjffhlaaGreatDoor.Trim04
open Go.RowKit Bal Bal.Trim
set_option linter.unusedVariables false
set_option linter.unusedSimpArgs false
set_option maxHeartbeats 400000

theorem f_ranged (n lo hi : Int) (w : World) :
    Calls Tryz.prog 91 #[.int .i64 n, .int .i64 lo, .int .i64 hi] w fun e w' => e = .returned (.bool (inB n lo hi)) ∧ w = w' := by
  go_enter Tryz.func91, Tryz.ntmps91
  go_wp2
  all_goals (go_ret; refine ⟨?_, rfl⟩; simp [inB, *])
  all_goals omega

theorem f_span (lo hi m : Int) (w : World) (h0 : 0 ≤ m) (h1 : m ≤ 1000000000000000000) :
    Calls Tryz.prog 81 #[.agg #[.int .i64 lo, .int .i64 hi], .int .i64 m] w fun e w' => e = .returned (.bool (spanB lo hi m)) ∧ Kept w w' := by
  go_enter Tryz.func81, Tryz.ntmps81
  go_wp2
  all_goals (go_ret; refine ⟨?_, (Below.refl _ _).alloc (Nat.le_refl _) _⟩; simp [spanB, *])
  all_goals omega

theorem f_load (x : Load) (w : World) :
    Calls Tryz.prog 80 #[.agg #[.int .i64 x.alo, .int .i64 x.ahi, .int .i64 x.wlo, .int .i64 x.whi]] w fun e w' => e = .returned (.bool (loadB x)) ∧ Kept w w' := by
  go_enter Tryz.func80, Tryz.ntmps80
  go_wp2_with (first | (go_at_call 81; refine (f_span _ _ _ _ (by omega) (by omega)).mono ?_; rintro e w1 ⟨rfl, hb1⟩; obtain ⟨hc1, hf1⟩ := bcell hb1))
  all_goals (go_ret; refine ⟨?_, by (repeat (first | exact Below.refl _ _ | assumption | (refine Kept.drop ?_ (by assumption)) | (refine Kept.alloc ?_ _) | (refine Below.setCell ?_ (by first | exact Nat.le_refl _ | (simp; done) | (simp; omega) | exact Below.size (by assumption)) _) | (refine Below.drew ?_)))⟩; simp [loadB, *])

theorem f_limited (x : Limit) (w : World) :
    Calls Tryz.prog 66 #[.agg #[.int .i64 x.a, .int .i64 x.b, .int .i64 x.c]] w fun e w' => e = .returned (.bool (limitB x)) ∧ Kept w w' := by
  go_enter Tryz.func66, Tryz.ntmps66
  go_wp2_with (first | (go_at_call 91; refine (f_ranged _ _ _ _).mono ?_; rintro e w1 ⟨rfl, rfl⟩))
  all_goals (go_ret; refine ⟨?_, by (repeat (first | exact Below.refl _ _ | assumption | (refine Kept.drop ?_ (by assumption)) | (refine Kept.alloc ?_ _) | (refine Below.setCell ?_ (by first | exact Nat.le_refl _ | (simp; done) | (simp; omega) | exact Below.size (by assumption)) _) | (refine Below.drew ?_)))⟩; simp [limitB, *])

theorem f_checked_Load (a : Option Addr) (cap : Nat) (xs : List Load) (w : World) (hx : Row Load.cells 4 w.heap.size w a xs) (hc : xs.length ≤ cap) (hM : cap ≤ maxLen) :
    Calls Tryz.prog 79 #[.slice a xs.length cap, .int .i64 40, .func (.func 80) #[] #[], .int .i64 40] w
      fun e w' => e = .returned (.int .i64 (checkList loadB 40 40 xs)) ∧ Kept w w' := by
  unfold maxLen at hM
  by_cases hm : 40 < xs.length
  · rw [checkList_many hm]
    go_enter Tryz.func79, Tryz.ntmps79
    go_wp2
    go_ret
    exact ⟨rfl, Below.refl _ _⟩
  · go_enter Tryz.func79, Tryz.ntmps79
    go_wp2
    go_loopw [17] (fun i wr => Upto loadB xs w i wr) (fun i _ => xs.length - (intOf i).toNat)
    case atStart => exact ⟨0, Nat.zero_le _, rfl, by simp, Below.refl _ _⟩
    case round =>
      obtain ⟨k, hk, rfl, ha', hbel⟩ := hrel
      have ha := Lib.hid ha'
      clear ha'
      by_cases hlt : k < xs.length
      · obtain ⟨b, off, rfl, hb, h0, h1, h2, h3⟩ := Load.row (hx.later hbel (Nat.le_refl _)) k hlt
        cases hv : loadB xs[k]
        all_goals
          go_wp2_with (go_at_call 80; refine (f_load xs[k] _).mono ?_; rintro e w1 ⟨rfl, hb1⟩)
        · go_ret
          exact ⟨ret_int (checkList_bad hm k hlt hv).symm, by (repeat (first | exact Below.refl _ _ | assumption | (refine Kept.drop ?_ (by assumption)) | (refine Kept.alloc ?_ _) | (refine Below.setCell ?_ (by first | exact Nat.le_refl _ | (simp; done) | (simp; omega) | exact Below.size (by assumption)) _) | (refine Below.drew ?_)))⟩
        · go_round
          case rel => exact ⟨k + 1, by omega, by go_num, take_all hlt ha.out hv, by (repeat (first | exact Below.refl _ _ | assumption | (refine Kept.drop ?_ (by assumption)) | (refine Kept.alloc ?_ _) | (refine Below.setCell ?_ (by first | exact Nat.le_refl _ | (simp; done) | (simp; omega) | exact Below.size (by assumption)) _) | (refine Below.drew ?_)))⟩
          case measure => simp [intOf]; omega
      · go_wp2
        go_ret
        exact ⟨ret_int (checkList_ok hm (by rw [← ha.out, List.take_of_length_le (by omega)])).symm, hbel⟩

theorem f_checked_Limit (a : Option Addr) (cap : Nat) (xs : List Limit) (w : World) (hx : Row Limit.cells 3 w.heap.size w a xs) (hc : xs.length ≤ cap) (hM : cap ≤ maxLen) :
    Calls Tryz.prog 65 #[.slice a xs.length cap, .int .i64 12, .func (.func 66) #[] #[], .int .i64 41] w
      fun e w' => e = .returned (.int .i64 (checkList limitB 12 41 xs)) ∧ Kept w w' := by
  unfold maxLen at hM
  by_cases hm : 12 < xs.length
  · rw [checkList_many hm]
    go_enter Tryz.func65, Tryz.ntmps65
    go_wp2
    go_ret
    exact ⟨rfl, Below.refl _ _⟩
  · go_enter Tryz.func65, Tryz.ntmps65
    go_wp2
    go_loopw [17] (fun i wr => Upto limitB xs w i wr) (fun i _ => xs.length - (intOf i).toNat)
    case atStart => exact ⟨0, Nat.zero_le _, rfl, by simp, Below.refl _ _⟩
    case round =>
      obtain ⟨k, hk, rfl, ha', hbel⟩ := hrel
      have ha := Lib.hid ha'
      clear ha'
      by_cases hlt : k < xs.length
      · obtain ⟨b, off, rfl, hb, h0, h1, h2⟩ := Limit.row (hx.later hbel (Nat.le_refl _)) k hlt
        cases hv : limitB xs[k]
        all_goals
          go_wp2_with (go_at_call 66; refine (f_limited xs[k] _).mono ?_; rintro e w1 ⟨rfl, hb1⟩)
        · go_ret
          exact ⟨ret_int (checkList_bad hm k hlt hv).symm, by (repeat (first | exact Below.refl _ _ | assumption | (refine Kept.drop ?_ (by assumption)) | (refine Kept.alloc ?_ _) | (refine Below.setCell ?_ (by first | exact Nat.le_refl _ | (simp; done) | (simp; omega) | exact Below.size (by assumption)) _) | (refine Below.drew ?_)))⟩
        · go_round
          case rel => exact ⟨k + 1, by omega, by go_num, take_all hlt ha.out hv, by (repeat (first | exact Below.refl _ _ | assumption | (refine Kept.drop ?_ (by assumption)) | (refine Kept.alloc ?_ _) | (refine Below.setCell ?_ (by first | exact Nat.le_refl _ | (simp; done) | (simp; omega) | exact Below.size (by assumption)) _) | (refine Below.drew ?_)))⟩
          case measure => simp [intOf]; omega
      · go_wp2
        go_ret
        exact ⟨ret_int (checkList_ok hm (by rw [← ha.out, List.take_of_length_le (by omega)])).symm, hbel⟩

theorem f_CheckLoads (a : Option Addr) (cap : Nat) (xs : List Load) (w : World) (hx : Row Load.cells 4 w.heap.size w a xs) (hc : xs.length ≤ cap) (hM : cap ≤ maxLen) :
    Calls Tryz.prog 48 #[.slice a xs.length cap] w fun e w' => e = .returned (.int .i64 (checkLoads xs)) ∧ Kept w w' := by
  go_enter Tryz.func48, Tryz.ntmps48
  go_wp2_with (go_at_call 79; refine (f_checked_Load _ _ _ _ hx hc hM).mono ?_; rintro e w1 ⟨rfl, hb1⟩)
  go_ret
  exact ⟨rfl, hb1⟩

theorem f_CheckLimits (a : Option Addr) (cap : Nat) (xs : List Limit) (w : World) (hx : Row Limit.cells 3 w.heap.size w a xs) (hc : xs.length ≤ cap) (hM : cap ≤ maxLen) :
    Calls Tryz.prog 33 #[.slice a xs.length cap] w fun e w' => e = .returned (.int .i64 (checkLimits xs)) ∧ Kept w w' := by
  go_enter Tryz.func33, Tryz.ntmps33
  go_wp2_with (go_at_call 65; refine (f_checked_Limit _ _ _ _ hx hc hM).mono ?_; rintro e w1 ⟨rfl, hb1⟩)
  go_ret
  exact ⟨rfl, hb1⟩

end Go.Proofs.YtamnnjdfjffhlaaGreatDoor.Trim04

/-
  Heaviness and moment, in the program and in the reference.
-/
namespace Go.Proofs.YtamnnjdfjffhlaaGreatDoor.Trim04
open Go.RowKit Bal Bal.Trim
set_option linter.unusedVariables false
set_option linter.unusedSimpArgs false
set_option maxHeartbeats 400000

theorem s_min (a : Option Addr) (n cap : Nat) (xs : List Int) (w : World) (hn : xs.length = n) {B : Nat} (hx : Row icell 1 B w a xs) (h0 : 0 < n) (h1 : n ≤ 1000000) :
    Calls Tryz.prog 82 #[.slice a n cap] w fun e w' => e = .returned (.int .i64 (lmin xs)) ∧ w = w' := by
  subst hn
  obtain ⟨b, off, rfl, hb, c0⟩ := int_row hx 0 h0
  have c00 : w.cell? ⟨b, off, none⟩ = some (.int .i64 xs[0]) := by simpa using c0
  clear c0
  have hlt1 : (0 : Int) < xs.length := by omega
  go_enter Tryz.func82, Tryz.ntmps82
  go_wp2
  go_loop [3, 4] (fun m i => ∃ k : Nat, 0 < k ∧ k ≤ xs.length ∧ i = .int .i64 k ∧ m = .int .i64 (lmin (xs.take k))) (fun _ i => xs.length - (intOf i).toNat)
  case atStart => exact ⟨1, by omega, by omega, rfl, by cases xs with | nil => simp at h0 | cons x xs => simp [lmin]⟩
  case round =>
    obtain ⟨k, hk0, hk, rfl, rfl⟩ := hrel
    by_cases hlt : k < xs.length
    · obtain ⟨b', off', hab, _, ck⟩ := int_row hx k hlt
      simp only [Option.some.injEq, Addr.mk.injEq, and_true] at hab
      obtain ⟨rfl, rfl⟩ := hab
      have HT := Lib.hid (lmin_take hk0 hlt)
      go_wp2
      all_goals
        go_round
        case rel => exact ⟨k + 1, by omega, by omega, by go_num, by rw [HT.out, ite_min]⟩
        case measure => simp [intOf]; omega
    · go_wp2
      go_ret
      exact ⟨ret_int (by rw [List.take_of_length_le (by omega)]), rfl⟩

theorem s_max (a : Option Addr) (n cap : Nat) (xs : List Int) (w : World) (hn : xs.length = n) {B : Nat} (hx : Row icell 1 B w a xs) (h0 : 0 < n) (h1 : n ≤ 1000000) :
    Calls Tryz.prog 83 #[.slice a n cap] w fun e w' => e = .returned (.int .i64 (lmax xs)) ∧ w = w' := by
  subst hn
  obtain ⟨b, off, rfl, hb, c0⟩ := int_row hx 0 h0
  have c00 : w.cell? ⟨b, off, none⟩ = some (.int .i64 xs[0]) := by simpa using c0
  clear c0
  have hlt1 : (0 : Int) < xs.length := by omega
  go_enter Tryz.func83, Tryz.ntmps83
  go_wp2
  go_loop [3, 4] (fun m i => ∃ k : Nat, 0 < k ∧ k ≤ xs.length ∧ i = .int .i64 k ∧ m = .int .i64 (lmax (xs.take k))) (fun _ i => xs.length - (intOf i).toNat)
  case atStart => exact ⟨1, by omega, by omega, rfl, by cases xs with | nil => simp at h0 | cons x xs => simp [lmax]⟩
  case round =>
    obtain ⟨k, hk0, hk, rfl, rfl⟩ := hrel
    by_cases hlt : k < xs.length
    · obtain ⟨b', off', hab, _, ck⟩ := int_row hx k hlt
      simp only [Option.some.injEq, Addr.mk.injEq, and_true] at hab
      obtain ⟨rfl, rfl⟩ := hab
      have HT := Lib.hid (lmax_take hk0 hlt)
      go_wp2
      all_goals
        go_round
        case rel => exact ⟨k + 1, by omega, by omega, by go_num, by rw [HT.out, ite_max]⟩
        case measure => simp [intOf]; omega
    · go_wp2
      go_ret
      exact ⟨ret_int (by rw [List.take_of_length_le (by omega)]), rfl⟩

theorem f_bal1 (x : Load) (w : World) :
    Calls Tryz.prog 50 #[.agg #[.int .i64 x.alo, .int .i64 x.ahi, .int .i64 x.wlo, .int .i64 x.whi]] w fun e w' => e = .returned (.agg #[.int .i64 (x.wlo), .int .i64 (x.whi)]) ∧ Kept w w' := by
  go_enter Tryz.func50, Tryz.ntmps50
  go_wp2
  exact bodyPost_ret (v := .agg #[.int .i64 (x.wlo), .int .i64 (x.whi)]) (by simp [results, Tryz.results50, go_sem]) rfl ⟨rfl, by (exact kpt)⟩

theorem s_min4 (p q r s : Int) (t : TypeId) (W : World) (n : Nat) (hn : n = W.heap.size) :
    Calls Tryz.prog 82 #[.slice (some ⟨n, 0, none⟩) 4 4] (W.alloc (.cells #[.int .i64 p, .int .i64 q, .int .i64 r, .int .i64 s] t))
      fun e w' => e = .returned (.int .i64 (min (min (min p q) r) s)) ∧ W.alloc (.cells #[.int .i64 p, .int .i64 q, .int .i64 r, .int .i64 s] t) = w' := by
  subst hn
  exact s_min _ 4 4 [p, q, r, s] _ rfl (Row.fresh (enc := icell) (fun _ => rfl) rfl) (by decide) (by decide)

theorem s_max4 (p q r s : Int) (t : TypeId) (W : World) (n : Nat) (hn : n = W.heap.size) :
    Calls Tryz.prog 83 #[.slice (some ⟨n, 0, none⟩) 4 4] (W.alloc (.cells #[.int .i64 p, .int .i64 q, .int .i64 r, .int .i64 s] t))
      fun e w' => e = .returned (.int .i64 (max (max (max p q) r) s)) ∧ W.alloc (.cells #[.int .i64 p, .int .i64 q, .int .i64 r, .int .i64 s] t) = w' := by
  subst hn
  exact s_max _ 4 4 [p, q, r, s] _ rfl (Row.fresh (enc := icell) (fun _ => rfl) rfl) (by decide) (by decide)

theorem f_times (a b c d : Int) (w : World) (h1 : -40000 ≤ a) (h2 : a ≤ 40000) (h3 : -40000 ≤ b) (h4 : b ≤ 40000) (h5 : -1073741824 ≤ c) (h6 : c ≤ 1073741824) (h7 : -1073741824 ≤ d) (h8 : d ≤ 1073741824) :
    Calls Tryz.prog 52 #[.agg #[.int .i64 (a), .int .i64 (b)], .agg #[.int .i64 (c), .int .i64 (d)]] w fun e w' => e = .returned (.agg #[.int .i64 (tLo a b c d), .int .i64 (tHi a b c d)]) ∧ Kept w w' := by
  obtain ⟨p1, p2⟩ := mul_bd (A := 40000) (B := 1073741824) h1 h2 h5 h6
  obtain ⟨p3, p4⟩ := mul_bd (A := 40000) (B := 1073741824) h1 h2 h7 h8
  obtain ⟨p5, p6⟩ := mul_bd (A := 40000) (B := 1073741824) h3 h4 h5 h6
  obtain ⟨p7, p8⟩ := mul_bd (A := 40000) (B := 1073741824) h3 h4 h7 h8
  go_enter Tryz.func52, Tryz.ntmps52
  go_wp2_with (first | (go_at_call 82; refine (s_min4 _ _ _ _ _ _ _ (by simp)).mono ?_; rintro e w1 ⟨rfl, rfl⟩) | (go_at_call 83; refine (s_max4 _ _ _ _ _ _ _ (by simp)).mono ?_; rintro e w1 ⟨rfl, rfl⟩))
  exact bodyPost_ret (v := .agg #[.int .i64 (tLo a b c d), .int .i64 (tHi a b c d)]) (by simp [results, Tryz.results52, go_sem, tLo, tHi]) rfl ⟨rfl, by (exact kpt)⟩

theorem f_bal2 (x : Load) (w : World) (hv : loadB x = true) :
    Calls Tryz.prog 51 #[.agg #[.int .i64 x.alo, .int .i64 x.ahi, .int .i64 x.wlo, .int .i64 x.whi]] w fun e w' => e = .returned (.agg #[.int .i64 (mLo x), .int .i64 (mHi x)]) ∧ Kept w w' := by
  obtain ⟨⟨h1, h2, h3, h4⟩, ⟨h5, h6, h7, h8⟩, _⟩ := loadB_bd hv
  clear hv
  go_enter Tryz.func51, Tryz.ntmps51
  go_wp2_with (go_at_call 52; (with_reducible refine (f_times _ _ _ _ _ (by omega) (by omega) (by omega) (by omega) (by omega) (by omega) (by omega) (by omega)).mono ?_); rintro e w1 ⟨rfl, hb1⟩; obtain ⟨hc1, hf1, hl1⟩ := bcell3 hb1)
  exact bodyPost_ret (v := .agg #[.int .i64 (mLo x), .int .i64 (mHi x)]) (by simp [results, Tryz.results51, go_sem, hc1, hf1, mLo, mHi]) rfl ⟨rfl, by (exact kpt)⟩

/-- added has passed k loads: the sums so far lie in the second block of its own -/
def Added (gLo gHi : Load → Int) (xs : List Load) (w : World) (i : Value) (wr : World) : Prop :=
  ∃ k : Nat, k ≤ xs.length ∧ i = .int .i64 k ∧ Blk wr (w.heap.size + 1) #[.int .i64 (sumBy gLo (xs.take k)), .int .i64 (sumBy gHi (xs.take k))] 28 ∧ Blk wr w.heap.size #[.int .i64 0, .int .i64 0] 28 ∧ Kept w wr

theorem f_added_bal1 (a : Option Addr) (cap : Nat) (xs : List Load) (w : World) (hx : Row Load.cells 4 w.heap.size w a xs) (hc : xs.length ≤ cap) (hM : cap ≤ maxLen) (hn : xs.length ≤ 40) (hv : ∀ x ∈ xs, loadB x = true)
    (hg : ∀ x, loadB x = true → (-50000000000000 ≤ Load.wlo x ∧ Load.wlo x ≤ 50000000000000) ∧ (-50000000000000 ≤ Load.whi x ∧ Load.whi x ≤ 50000000000000)) :
    Calls Tryz.prog 49 #[.slice a xs.length cap, .func (.func 50) #[] #[]] w fun e w' => e = .returned (.agg #[.int .i64 (sumBy (Load.wlo) xs), .int .i64 (sumBy (Load.whi) xs)]) ∧ Kept w w' := by
  unfold maxLen at hM
  have bLo := fun k => sumBy_take_bd (Load.wlo) 50000000000000 2000000000000000 xs 40 hn (by omega) (by omega) (fun x h => (hg x (hv x h)).1) k
  have bHi := fun k => sumBy_take_bd (Load.whi) 50000000000000 2000000000000000 xs 40 hn (by omega) (by omega) (fun x h => (hg x (hv x h)).2) k
  have HLo := Lib.hid bLo
  have HHi := Lib.hid bHi
  clear bLo bHi
  have HG := Lib.hid hg
  have HV := Lib.hid hv
  clear hg hv
  go_enter Tryz.func49, Tryz.ntmps49
  go_wp2
  go_loopw [11] (fun i wr => Added (Load.wlo) (Load.whi) xs w i wr) (fun i _ => xs.length - (intOf i).toNat)
  case atStart => exact ⟨0, Nat.zero_le _, rfl, by simpa using Blk.new (w := w.alloc (.cells #[.int .i64 0, .int .i64 0] 28)), Blk.alloc Blk.new _, by (exact kpt)⟩
  case round =>
    obtain ⟨k, hk, rfl, q1, q0, hbel⟩ := hrel
    have t0 := q1.cell 0
    have t1 := q1.cell 1
    have t2 := q1.free 0
    have t3 := q1.free 1
    have t4 := q0.cell 0
    have t5 := q0.cell 1
    have t6 := q0.free 0
    have t7 := q0.free 1
    have l1 := q1.lt
    have l0 := q0.lt
    simp at t0 t1 t4 t5
    by_cases hlt : k < xs.length
    · obtain ⟨b, off, rfl, hb, h0, h1, h2, h3⟩ := Load.row (hx.later hbel (Nat.le_refl _)) k hlt
      obtain ⟨u1, u2⟩ := HLo.out k
      obtain ⟨u3, u4⟩ := HHi.out k
      obtain ⟨⟨u5, u6⟩, u7, u8⟩ := HG.out xs[k] (HV.out _ (List.getElem_mem hlt))
      go_wp2_with (go_at_call 50; refine (f_bal1 xs[k] _).mono ?_; rintro e w1 ⟨rfl, hb1⟩; have q1' := (q1.alloc _).keep hb1; have q0' := (q0.alloc _).keep hb1; have t0' := q1'.cell 0; have t1' := q1'.cell 1; have t2' := q1'.free 0; have t3' := q1'.free 1; have l1' := q1'.lt; simp at t0' t1')
      go_round
      case rel =>
        refine ⟨k + 1, by omega, by go_num, ?_, ?_, by (exact kpt)⟩
        · rw [sumBy_take _ _ _ hlt, sumBy_take _ _ _ hlt]
          exact Blk.alloc (by simpa using (q1'.set 0 (.int .i64 (sumBy (Load.wlo) (xs.take k) + Load.wlo xs[k]))).set 1 (.int .i64 (sumBy (Load.whi) (xs.take k) + Load.whi xs[k]))) _
        · exact Blk.alloc ((q0'.other (by simp) _).other (by simp) _) _
      case measure => simp [intOf]; omega
    · have hk' : k = xs.length := by omega
      subst hk'
      rw [List.take_length] at t0 t1
      go_wp2
      exact bodyPost_ret (v := .agg #[.int .i64 (sumBy (Load.wlo) xs), .int .i64 (sumBy (Load.whi) xs)]) (by simp [results, Tryz.results49, go_sem, t4, t5, t6, t7]) rfl ⟨rfl, by (exact kpt)⟩

theorem f_added_bal2 (a : Option Addr) (cap : Nat) (xs : List Load) (w : World) (hx : Row Load.cells 4 w.heap.size w a xs) (hc : xs.length ≤ cap) (hM : cap ≤ maxLen) (hn : xs.length ≤ 40) (hv : ∀ x ∈ xs, loadB x = true)
    (hg : ∀ x, loadB x = true → (-50000000000000 ≤ mLo x ∧ mLo x ≤ 50000000000000) ∧ (-50000000000000 ≤ mHi x ∧ mHi x ≤ 50000000000000)) :
    Calls Tryz.prog 49 #[.slice a xs.length cap, .func (.func 51) #[] #[]] w fun e w' => e = .returned (.agg #[.int .i64 (sumBy (mLo) xs), .int .i64 (sumBy (mHi) xs)]) ∧ Kept w w' := by
  unfold maxLen at hM
  have bLo := fun k => sumBy_take_bd (mLo) 50000000000000 2000000000000000 xs 40 hn (by omega) (by omega) (fun x h => (hg x (hv x h)).1) k
  have bHi := fun k => sumBy_take_bd (mHi) 50000000000000 2000000000000000 xs 40 hn (by omega) (by omega) (fun x h => (hg x (hv x h)).2) k
  have HLo := Lib.hid bLo
  have HHi := Lib.hid bHi
  clear bLo bHi
  have HG := Lib.hid hg
  have HV := Lib.hid hv
  clear hg hv
  go_enter Tryz.func49, Tryz.ntmps49
  go_wp2
  go_loopw [11] (fun i wr => Added (mLo) (mHi) xs w i wr) (fun i _ => xs.length - (intOf i).toNat)
  case atStart => exact ⟨0, Nat.zero_le _, rfl, by simpa using Blk.new (w := w.alloc (.cells #[.int .i64 0, .int .i64 0] 28)), Blk.alloc Blk.new _, by (exact kpt)⟩
  case round =>
    obtain ⟨k, hk, rfl, q1, q0, hbel⟩ := hrel
    have t0 := q1.cell 0
    have t1 := q1.cell 1
    have t2 := q1.free 0
    have t3 := q1.free 1
    have t4 := q0.cell 0
    have t5 := q0.cell 1
    have t6 := q0.free 0
    have t7 := q0.free 1
    have l1 := q1.lt
    have l0 := q0.lt
    simp at t0 t1 t4 t5
    by_cases hlt : k < xs.length
    · obtain ⟨b, off, rfl, hb, h0, h1, h2, h3⟩ := Load.row (hx.later hbel (Nat.le_refl _)) k hlt
      obtain ⟨u1, u2⟩ := HLo.out k
      obtain ⟨u3, u4⟩ := HHi.out k
      obtain ⟨⟨u5, u6⟩, u7, u8⟩ := HG.out xs[k] (HV.out _ (List.getElem_mem hlt))
      go_wp2_with (go_at_call 51; refine (f_bal2 xs[k] _ (HV.out _ (List.getElem_mem hlt))).mono ?_; rintro e w1 ⟨rfl, hb1⟩; have q1' := (q1.alloc _).keep hb1; have q0' := (q0.alloc _).keep hb1; have t0' := q1'.cell 0; have t1' := q1'.cell 1; have t2' := q1'.free 0; have t3' := q1'.free 1; have l1' := q1'.lt; simp at t0' t1')
      go_round
      case rel =>
        refine ⟨k + 1, by omega, by go_num, ?_, ?_, by (exact kpt)⟩
        · rw [sumBy_take _ _ _ hlt, sumBy_take _ _ _ hlt]
          exact Blk.alloc (by simpa using (q1'.set 0 (.int .i64 (sumBy (mLo) (xs.take k) + mLo xs[k]))).set 1 (.int .i64 (sumBy (mHi) (xs.take k) + mHi xs[k]))) _
        · exact Blk.alloc ((q0'.other (by simp) _).other (by simp) _) _
      case measure => simp [intOf]; omega
    · have hk' : k = xs.length := by omega
      subst hk'
      rw [List.take_length] at t0 t1
      go_wp2
      exact bodyPost_ret (v := .agg #[.int .i64 (sumBy (mLo) xs), .int .i64 (sumBy (mHi) xs)]) (by simp [results, Tryz.results49, go_sem, t4, t5, t6, t7]) rfl ⟨rfl, by (exact kpt)⟩

theorem bal1_bd (x : Load) (h : loadB x = true) : (-50000000000000 ≤ x.wlo ∧ x.wlo ≤ 50000000000000) ∧ (-50000000000000 ≤ x.whi ∧ x.whi ≤ 50000000000000) := by
  have := loadB_bd h
  omega
theorem bal2_bd (x : Load) (h : loadB x = true) : (-50000000000000 ≤ mLo x ∧ mLo x ≤ 50000000000000) ∧ (-50000000000000 ≤ mHi x ∧ mHi x ≤ 50000000000000) := by
  have h1 := loadB_bd h
  have h2 := t_bd (A := 20000) (B := 1073741824) (a := x.alo) (b := x.ahi) (c := x.wlo) (d := x.whi) (by omega) (by omega)
  unfold mLo mHi
  omega

theorem f_Balance (a : Option Addr) (cap : Nat) (xs : List Load) (w : World) (hx : Row Load.cells 4 w.heap.size w a xs) (hc : xs.length ≤ cap) (hM : cap ≤ maxLen) :
    Calls Tryz.prog 17 #[.slice a xs.length cap] w fun e w' => e = .returned (.tuple #[.agg #[.int .i64 (ifOk (checkLoads xs) (sumBy Load.wlo xs)), .int .i64 (ifOk (checkLoads xs) (sumBy Load.whi xs))], .agg #[.int .i64 (ifOk (checkLoads xs) (sumBy mLo xs)), .int .i64 (ifOk (checkLoads xs) (sumBy mHi xs))], .int .i64 (checkLoads xs)]) ∧ Kept w w' := by
  by_cases he : checkLoads xs = 0
  · obtain ⟨hn, hv⟩ := checkLoads_ok he
    have HE := Lib.hid he
    have hb : (checkLoads xs != 0) = false := by simp [he]
    have HV := Lib.hid hv
    clear hv he
    go_enter Tryz.func17, Tryz.ntmps17
    go_wp2_with (first | (go_at_call 48; refine (f_CheckLoads _ _ _ _ (hx.later (by (exact kpt)) (Nat.le_refl _)) hc hM).mono ?_; rintro e w1 ⟨rfl, hb1⟩; refine Blk.thru (b := w.heap.size) (arr := ?_) (t := ?_) ?_ hb1 ?_; rotate_left 2; (focus (exact blk)); intro r0; have r0c0 := r0.cell 0; have r0f0 := r0.free 0; have r0c1 := r0.cell 1; have r0f1 := r0.free 1; have r0l := r0.lt; simp at r0c0 r0c1; refine Blk.thru (b := w.heap.size + 1) (arr := ?_) (t := ?_) ?_ hb1 ?_; rotate_left 2; (focus (exact blk)); intro r1; have r1c0 := r1.cell 0; have r1f0 := r1.free 0; have r1c1 := r1.cell 1; have r1f1 := r1.free 1; have r1l := r1.lt; simp at r1c0 r1c1) | (go_at_call 49; refine (f_added_bal1 _ _ _ _ (hx.later (by (exact kpt)) (Nat.le_refl _)) hc hM hn HV.out bal1_bd).mono ?_; rintro e w1 ⟨rfl, hb1⟩; refine Blk.thru (b := w.heap.size) (arr := ?_) (t := ?_) ?_ hb1 ?_; rotate_left 2; (focus (exact blk)); intro r0; have r0c0 := r0.cell 0; have r0f0 := r0.free 0; have r0c1 := r0.cell 1; have r0f1 := r0.free 1; have r0l := r0.lt; simp at r0c0 r0c1; refine Blk.thru (b := w.heap.size + 1) (arr := ?_) (t := ?_) ?_ hb1 ?_; rotate_left 2; (focus (exact blk)); intro r1; have r1c0 := r1.cell 0; have r1f0 := r1.free 0; have r1c1 := r1.cell 1; have r1f1 := r1.free 1; have r1l := r1.lt; simp at r1c0 r1c1))
    refine at_world (S := fun W => Blk W w.heap.size #[.int .i64 (sumBy Load.wlo xs), .int .i64 (sumBy Load.whi xs)] 28 ∧ Blk W (w.heap.size + 1) #[.int .i64 0, .int .i64 0] 28 ∧ Kept w W) ?_ ?_
    · exact ⟨by simpa using (r0.set 0 (.int .i64 (sumBy Load.wlo xs))).set 1 (.int .i64 (sumBy Load.whi xs)), (r1.other (by simp) _).other (by simp) _, by (exact kpt)⟩
    rintro W ⟨r0, r1, hk⟩
    have r0c0 := fun g : Later W => (r0.later g).cell 0
    have r0f0 := fun g : Later W => (r0.later g).free 0
    have r0c1 := fun g : Later W => (r0.later g).cell 1
    have r0f1 := fun g : Later W => (r0.later g).free 1
    have r0l := fun g : Later W => (r0.later g).lt
    simp at r0c0 r0c1
    have r1c0 := fun g : Later W => (r1.later g).cell 0
    have r1f0 := fun g : Later W => (r1.later g).free 0
    have r1c1 := fun g : Later W => (r1.later g).cell 1
    have r1f1 := fun g : Later W => (r1.later g).free 1
    have r1l := fun g : Later W => (r1.later g).lt
    simp at r1c0 r1c1
    refine Later.tail 3 (by kernel_rfl) (by kernel_rfl) ?_
    simp only [List.take_succ_cons, List.take_zero, List.drop_succ_cons, List.drop_zero]
    repeat (first | go_big_quiet_skip | (go_big_quiet_want; go_big_quiet_op; first | go_big_quiet_on | (apply Exists.intro; refine ⟨fun g => ?_, ?_⟩; (focus (first | (go_at_call 49; exact Later.call (f_added_bal2 _ _ _ _ (hx.later (Kept.drop hk g.ok) (Nat.le_refl _)) hc hM hn HV.out bal2_bd)))); go_big_quiet_on)))
    refine wpQuiet_nil ?_
    intro g
    have hkg := Kept.drop hk g.ok
    go_wp2
    have z : ∀ v, ifOk (checkLoads xs) v = v := fun v => if_pos HE.out
    simp only [z]
    exact bodyPost_ret (v := .tuple #[.agg #[.int .i64 (sumBy Load.wlo xs), .int .i64 (sumBy Load.whi xs)], .agg #[.int .i64 (sumBy mLo xs), .int .i64 (sumBy mHi xs)], .int .i64 0]) (by simp [results, Tryz.results17, go_sem, r0c0, r0c1, r1c0, r1c1, r0f0, r0f1, r1f0, r1f1]) rfl ⟨by rw [HE.out], by (exact kpt)⟩
  · have hb : (checkLoads xs != 0) = true := by simp [he]
    have HE := Lib.hid he
    clear he
    go_enter Tryz.func17, Tryz.ntmps17
    go_wp2_with (first | (go_at_call 48; refine (f_CheckLoads _ _ _ _ (hx.later (by (exact kpt)) (Nat.le_refl _)) hc hM).mono ?_; rintro e w1 ⟨rfl, hb1⟩; refine Blk.thru (b := w.heap.size) (arr := ?_) (t := ?_) ?_ hb1 ?_; rotate_left 2; (focus (exact blk)); intro r0; have r0c0 := r0.cell 0; have r0f0 := r0.free 0; have r0c1 := r0.cell 1; have r0f1 := r0.free 1; have r0l := r0.lt; simp at r0c0 r0c1; refine Blk.thru (b := w.heap.size + 1) (arr := ?_) (t := ?_) ?_ hb1 ?_; rotate_left 2; (focus (exact blk)); intro r1; have r1c0 := r1.cell 0; have r1f0 := r1.free 0; have r1c1 := r1.cell 1; have r1f1 := r1.free 1; have r1l := r1.lt; simp at r1c0 r1c1))
    have z : ∀ v, ifOk (checkLoads xs) v = 0 := fun v => if_neg HE.out
    simp only [z]
    exact bodyPost_ret (v := .tuple #[.agg #[.int .i64 (0), .int .i64 (0)], .agg #[.int .i64 (0), .int .i64 (0)], .int .i64 (checkLoads xs)]) (by simp [results, Tryz.results17, go_sem, r0c0, r0c1, r1c0, r1c1]) rfl ⟨rfl, by (exact kpt)⟩

end Go.Proofs.YtamnnjdfjffhlaaGreatDoor.Trim04

/-
  Limits at work, in the program: the value of a put, the worst corner of a load, the worst choice.
-/
namespace Go.Proofs.YtamnnjdfjffhlaaGreatDoor.Trim04
open Go.RowKit Bal Bal.Trim
set_option linter.unusedVariables false
set_option linter.unusedSimpArgs false
set_option maxHeartbeats 800000

set_option maxRecDepth 10000

theorem f_value (m : Limit) (p : Put) (w : World) (hm : limitB m = true) (hp : putB p) :
    Calls Tryz.prog 108 #[.agg #[.int .i64 m.a, .int .i64 m.b, .int .i64 m.c], .agg #[.int .i64 p.pos, .int .i64 p.wt]] w fun e w' => e = .returned (.int .i64 (vOf m p)) ∧ Kept w w' := by
  obtain ⟨⟨h1, h2⟩, ⟨h3, h4⟩, h5, h6⟩ := put_bd hm hp
  clear hm hp
  go_enter Tryz.func108, Tryz.ntmps108
  go_wp2
  go_ret
  exact ⟨rfl, by (exact kpt)⟩

/-- the best corner so far -/
def bestK (m : Limit) (x : Load) : Nat → Put
  | 0 => ⟨x.alo, x.wlo⟩
  | 1 => best1 m x
  | 2 => best2 m x
  | _ => best m x
def nextC (x : Load) : Nat → Put
  | 0 => ⟨x.ahi, x.wlo⟩
  | 1 => ⟨x.alo, x.whi⟩
  | _ => ⟨x.ahi, x.whi⟩
theorem bestK_succ (m : Limit) (x : Load) (k : Nat) (hk : k < 3) : bestK m x (k + 1) = better m (bestK m x k) (nextC x k) := by
  rcases (show k = 0 ∨ k = 1 ∨ k = 2 by omega) with rfl | rfl | rfl <;> rfl
theorem bestK_B {m : Limit} {x : Load} (h : loadB x = true) (k : Nat) : putB (bestK m x k) := by
  match k with
  | 0 => exact corner_B h (by simp [bestK, corners])
  | 1 => exact corner_B h (best1_mem m x)
  | 2 => exact corner_B h (best2_mem m x)
  | (n + 3) => exact corner_B h (best_mem m x)
theorem nextC_B {x : Load} (h : loadB x = true) (k : Nat) : putB (nextC x k) := by
  match k with
  | 0 => exact corner_B h (by simp [nextC, corners])
  | 1 => exact corner_B h (by simp [nextC, corners])
  | (n + 2) => exact corner_B h (by simp [nextC, corners])
theorem better_lt {m : Limit} {b p : Put} (h : vOf m b < vOf m p) : better m b p = p := if_pos h
theorem better_ge {m : Limit} {b p : Put} (h : ¬ vOf m b < vOf m p) : better m b p = b := if_neg h
def CornerW (w w1 : World) (m : Limit) (x : Load) (B : Put) (wr : World) : Prop :=
  Blk wr w.heap.size #[.int .i64 m.a, .int .i64 m.b, .int .i64 m.c] 159 ∧ Blk wr (w.heap.size + 1 + 1) #[.int .i64 0, .int .i64 0] 177 ∧ Blk wr (w.heap.size + 1 + 1 + 1) #[.int .i64 B.pos, .int .i64 B.wt] 177 ∧ Blk wr w1.heap.size #[.int .i64 x.ahi, .int .i64 x.wlo, .int .i64 x.alo, .int .i64 x.whi, .int .i64 x.ahi, .int .i64 x.whi] 177 ∧ Kept w wr
def CornerRel (w w1 : World) (m : Limit) (x : Load) (mo i : Value) (wr : World) : Prop :=
  ∃ (k : Nat) (B : Put), k ≤ 3 ∧ i = .int .i64 k ∧ B = bestK m x k ∧ mo = .int .i64 (vOf m B) ∧ CornerW w w1 m x B wr

theorem f_corner (m : Limit) (x : Load) (w : World) (hm : limitB m = true) (hx : loadB x = true) :
    Calls Tryz.prog 93 #[.agg #[.int .i64 m.a, .int .i64 m.b, .int .i64 m.c], .agg #[.int .i64 x.alo, .int .i64 x.ahi, .int .i64 x.wlo, .int .i64 x.whi]] w fun e w' => e = .returned (.tuple #[.agg #[.int .i64 (best m x).pos, .int .i64 (best m x).wt], .int .i64 (vOf m (best m x))]) ∧ Kept w w' := by
  have HM := Lib.hid hm
  have HX := Lib.hid hx
  have HB0 := Lib.hid (show putB ⟨x.alo, x.wlo⟩ from corner_B hx (by simp [corners]))
  clear hm hx
  go_enter Tryz.func93, Tryz.ntmps93
  go_wp2_with (go_at_call 108; (with_reducible refine (f_value m ⟨x.alo, x.wlo⟩ _ HM.out HB0.out).mono ?_); rintro e w1 ⟨rfl, hb1⟩; obtain ⟨hc1, hf1, hl1⟩ := bcell3 hb1; refine Blk.thru (b := w.heap.size + 1) (arr := ?_) (t := ?_) ?_ hb1 ?_; rotate_left 2; (focus (exact blk)); intro qx; have qxc0 := qx.cell 0; have qxf0 := qx.free 0; have qxc1 := qx.cell 1; have qxf1 := qx.free 1; have qxc2 := qx.cell 2; have qxf2 := qx.free 2; have qxc3 := qx.cell 3; have qxf3 := qx.free 3; have qxl := qx.lt; simp at qxc0 qxc1 qxc2 qxc3; refine Blk.thru (b := w.heap.size) (arr := ?_) (t := ?_) ?_ hb1 ?_; rotate_left 2; (focus (exact blk)); intro qs; have qsc0 := qs.cell 0; have qsf0 := qs.free 0; have qsc1 := qs.cell 1; have qsf1 := qs.free 1; have qsc2 := qs.cell 2; have qsf2 := qs.free 2; have qsl := qs.lt; simp at qsc0 qsc1 qsc2)
  go_loopw [7, 44] (fun mo i wr => CornerRel w w1 m x mo i wr) (fun _ i _ => 3 - (intOf i).toNat)
  case atStart => exact ⟨0, ⟨x.alo, x.wlo⟩, by omega, rfl, rfl, rfl, by (exact blk), by (exact blk), by (exact blkc), by (exact blkc), by (exact kpt)⟩
  case round =>
    clear hc1 hf1 hl1
    obtain ⟨k, Bk, hk3, rfl, hBk, rfl, q0, q2, q3, q4, hk⟩ := hrel
    by_cases hk' : k < 3
    · have HS := Lib.hid (bestK_succ m x k hk')
      have HB := Lib.hid (bestK_B (m := m) HX.out k)
      have HN := Lib.hid (nextC_B HX.out k)
      rw [← hBk] at HS HB
      clear hBk
      by_cases hc : vOf m Bk < vOf m (nextC x k)
      · have HC := Lib.hid (better_lt hc)
        rcases (show k = 0 ∨ k = 1 ∨ k = 2 by omega) with rfl | rfl | rfl
        · simp only [nextC] at hc HC HN HS
          have q0c0 := q0.cell 0
          have q0f0 := q0.free 0
          have q0c1 := q0.cell 1
          have q0f1 := q0.free 1
          have q0c2 := q0.cell 2
          have q0f2 := q0.free 2
          have q0l := q0.lt
          simp at q0c0 q0c1 q0c2
          have q2c0 := q2.cell 0
          have q2f0 := q2.free 0
          have q2c1 := q2.cell 1
          have q2f1 := q2.free 1
          have q2l := q2.lt
          simp at q2c0 q2c1
          have q3c0 := q3.cell 0
          have q3f0 := q3.free 0
          have q3c1 := q3.cell 1
          have q3f1 := q3.free 1
          have q3l := q3.lt
          simp at q3c0 q3c1
          have q4c0 := q4.cell 0
          have q4f0 := q4.free 0
          have q4c1 := q4.cell 1
          have q4f1 := q4.free 1
          have q4c2 := q4.cell 2
          have q4f2 := q4.free 2
          have q4c3 := q4.cell 3
          have q4f3 := q4.free 3
          have q4c4 := q4.cell 4
          have q4f4 := q4.free 4
          have q4c5 := q4.cell 5
          have q4f5 := q4.free 5
          have q4l := q4.lt
          simp at q4c0 q4c1 q4c2 q4c3 q4c4 q4c5
          go_wp2_with (first | (go_at_call 108; (with_reducible refine (f_value m ⟨x.ahi, x.wlo⟩ _ HM.out HN.out).mono ?_); rintro e w1 ⟨rfl, hb1⟩; obtain ⟨hc1, hf1, hl1⟩ := bcell3 hb1; refine Blk.thru (b := wr.heap.size) (arr := ?_) (t := ?_) ?_ hb1 ?_; rotate_left 2; (focus (exact blk)); intro qy; have qyc0 := qy.cell 0; have qyf0 := qy.free 0; have qyc1 := qy.cell 1; have qyf1 := qy.free 1; have qyl := qy.lt; simp at qyc0 qyc1) | (go_at_call 108; (with_reducible refine (f_value m ⟨x.alo, x.whi⟩ _ HM.out HN.out).mono ?_); rintro e w1 ⟨rfl, hb1⟩; obtain ⟨hc1, hf1, hl1⟩ := bcell3 hb1; refine Blk.thru (b := wr.heap.size) (arr := ?_) (t := ?_) ?_ hb1 ?_; rotate_left 2; (focus (exact blk)); intro qy; have qyc0 := qy.cell 0; have qyf0 := qy.free 0; have qyc1 := qy.cell 1; have qyf1 := qy.free 1; have qyl := qy.lt; simp at qyc0 qyc1) | (go_at_call 108; (with_reducible refine (f_value m ⟨x.ahi, x.whi⟩ _ HM.out HN.out).mono ?_); rintro e w1 ⟨rfl, hb1⟩; obtain ⟨hc1, hf1, hl1⟩ := bcell3 hb1; refine Blk.thru (b := wr.heap.size) (arr := ?_) (t := ?_) ?_ hb1 ?_; rotate_left 2; (focus (exact blk)); intro qy; have qyc0 := qy.cell 0; have qyf0 := qy.free 0; have qyc1 := qy.cell 1; have qyf1 := qy.free 1; have qyl := qy.lt; simp at qyc0 qyc1))
          go_round
          case rel => exact ⟨1, ⟨x.ahi, x.wlo⟩, by omega, by go_num, by rw [HS.out, HC.out], rfl, by (exact blk), by (exact blk), by (exact blkc), by (exact blk), by (exact kpt)⟩
          case measure => simp [intOf]
        · simp only [nextC] at hc HC HN HS
          have q0c0 := q0.cell 0
          have q0f0 := q0.free 0
          have q0c1 := q0.cell 1
          have q0f1 := q0.free 1
          have q0c2 := q0.cell 2
          have q0f2 := q0.free 2
          have q0l := q0.lt
          simp at q0c0 q0c1 q0c2
          have q2c0 := q2.cell 0
          have q2f0 := q2.free 0
          have q2c1 := q2.cell 1
          have q2f1 := q2.free 1
          have q2l := q2.lt
          simp at q2c0 q2c1
          have q3c0 := q3.cell 0
          have q3f0 := q3.free 0
          have q3c1 := q3.cell 1
          have q3f1 := q3.free 1
          have q3l := q3.lt
          simp at q3c0 q3c1
          have q4c0 := q4.cell 0
          have q4f0 := q4.free 0
          have q4c1 := q4.cell 1
          have q4f1 := q4.free 1
          have q4c2 := q4.cell 2
          have q4f2 := q4.free 2
          have q4c3 := q4.cell 3
          have q4f3 := q4.free 3
          have q4c4 := q4.cell 4
          have q4f4 := q4.free 4
          have q4c5 := q4.cell 5
          have q4f5 := q4.free 5
          have q4l := q4.lt
          simp at q4c0 q4c1 q4c2 q4c3 q4c4 q4c5
          go_wp2_with (first | (go_at_call 108; (with_reducible refine (f_value m ⟨x.ahi, x.wlo⟩ _ HM.out HN.out).mono ?_); rintro e w1 ⟨rfl, hb1⟩; obtain ⟨hc1, hf1, hl1⟩ := bcell3 hb1; refine Blk.thru (b := wr.heap.size) (arr := ?_) (t := ?_) ?_ hb1 ?_; rotate_left 2; (focus (exact blk)); intro qy; have qyc0 := qy.cell 0; have qyf0 := qy.free 0; have qyc1 := qy.cell 1; have qyf1 := qy.free 1; have qyl := qy.lt; simp at qyc0 qyc1) | (go_at_call 108; (with_reducible refine (f_value m ⟨x.alo, x.whi⟩ _ HM.out HN.out).mono ?_); rintro e w1 ⟨rfl, hb1⟩; obtain ⟨hc1, hf1, hl1⟩ := bcell3 hb1; refine Blk.thru (b := wr.heap.size) (arr := ?_) (t := ?_) ?_ hb1 ?_; rotate_left 2; (focus (exact blk)); intro qy; have qyc0 := qy.cell 0; have qyf0 := qy.free 0; have qyc1 := qy.cell 1; have qyf1 := qy.free 1; have qyl := qy.lt; simp at qyc0 qyc1) | (go_at_call 108; (with_reducible refine (f_value m ⟨x.ahi, x.whi⟩ _ HM.out HN.out).mono ?_); rintro e w1 ⟨rfl, hb1⟩; obtain ⟨hc1, hf1, hl1⟩ := bcell3 hb1; refine Blk.thru (b := wr.heap.size) (arr := ?_) (t := ?_) ?_ hb1 ?_; rotate_left 2; (focus (exact blk)); intro qy; have qyc0 := qy.cell 0; have qyf0 := qy.free 0; have qyc1 := qy.cell 1; have qyf1 := qy.free 1; have qyl := qy.lt; simp at qyc0 qyc1))
          go_round
          case rel => exact ⟨2, ⟨x.alo, x.whi⟩, by omega, by go_num, by rw [HS.out, HC.out], rfl, by (exact blk), by (exact blk), by (exact blkc), by (exact blk), by (exact kpt)⟩
          case measure => simp [intOf]
        · simp only [nextC] at hc HC HN HS
          have q0c0 := q0.cell 0
          have q0f0 := q0.free 0
          have q0c1 := q0.cell 1
          have q0f1 := q0.free 1
          have q0c2 := q0.cell 2
          have q0f2 := q0.free 2
          have q0l := q0.lt
          simp at q0c0 q0c1 q0c2
          have q2c0 := q2.cell 0
          have q2f0 := q2.free 0
          have q2c1 := q2.cell 1
          have q2f1 := q2.free 1
          have q2l := q2.lt
          simp at q2c0 q2c1
          have q3c0 := q3.cell 0
          have q3f0 := q3.free 0
          have q3c1 := q3.cell 1
          have q3f1 := q3.free 1
          have q3l := q3.lt
          simp at q3c0 q3c1
          have q4c0 := q4.cell 0
          have q4f0 := q4.free 0
          have q4c1 := q4.cell 1
          have q4f1 := q4.free 1
          have q4c2 := q4.cell 2
          have q4f2 := q4.free 2
          have q4c3 := q4.cell 3
          have q4f3 := q4.free 3
          have q4c4 := q4.cell 4
          have q4f4 := q4.free 4
          have q4c5 := q4.cell 5
          have q4f5 := q4.free 5
          have q4l := q4.lt
          simp at q4c0 q4c1 q4c2 q4c3 q4c4 q4c5
          go_wp2_with (first | (go_at_call 108; (with_reducible refine (f_value m ⟨x.ahi, x.wlo⟩ _ HM.out HN.out).mono ?_); rintro e w1 ⟨rfl, hb1⟩; obtain ⟨hc1, hf1, hl1⟩ := bcell3 hb1; refine Blk.thru (b := wr.heap.size) (arr := ?_) (t := ?_) ?_ hb1 ?_; rotate_left 2; (focus (exact blk)); intro qy; have qyc0 := qy.cell 0; have qyf0 := qy.free 0; have qyc1 := qy.cell 1; have qyf1 := qy.free 1; have qyl := qy.lt; simp at qyc0 qyc1) | (go_at_call 108; (with_reducible refine (f_value m ⟨x.alo, x.whi⟩ _ HM.out HN.out).mono ?_); rintro e w1 ⟨rfl, hb1⟩; obtain ⟨hc1, hf1, hl1⟩ := bcell3 hb1; refine Blk.thru (b := wr.heap.size) (arr := ?_) (t := ?_) ?_ hb1 ?_; rotate_left 2; (focus (exact blk)); intro qy; have qyc0 := qy.cell 0; have qyf0 := qy.free 0; have qyc1 := qy.cell 1; have qyf1 := qy.free 1; have qyl := qy.lt; simp at qyc0 qyc1) | (go_at_call 108; (with_reducible refine (f_value m ⟨x.ahi, x.whi⟩ _ HM.out HN.out).mono ?_); rintro e w1 ⟨rfl, hb1⟩; obtain ⟨hc1, hf1, hl1⟩ := bcell3 hb1; refine Blk.thru (b := wr.heap.size) (arr := ?_) (t := ?_) ?_ hb1 ?_; rotate_left 2; (focus (exact blk)); intro qy; have qyc0 := qy.cell 0; have qyf0 := qy.free 0; have qyc1 := qy.cell 1; have qyf1 := qy.free 1; have qyl := qy.lt; simp at qyc0 qyc1))
          go_round
          case rel => exact ⟨3, ⟨x.ahi, x.whi⟩, by omega, by go_num, by rw [HS.out, HC.out], rfl, by (exact blk), by (exact blk), by (exact blkc), by (exact blk), by (exact kpt)⟩
          case measure => simp [intOf]
      · have HC := Lib.hid (better_ge hc)
        rcases (show k = 0 ∨ k = 1 ∨ k = 2 by omega) with rfl | rfl | rfl
        · simp only [nextC] at hc HC HN HS
          have q0c0 := q0.cell 0
          have q0f0 := q0.free 0
          have q0c1 := q0.cell 1
          have q0f1 := q0.free 1
          have q0c2 := q0.cell 2
          have q0f2 := q0.free 2
          have q0l := q0.lt
          simp at q0c0 q0c1 q0c2
          have q2c0 := q2.cell 0
          have q2f0 := q2.free 0
          have q2c1 := q2.cell 1
          have q2f1 := q2.free 1
          have q2l := q2.lt
          simp at q2c0 q2c1
          have q3c0 := q3.cell 0
          have q3f0 := q3.free 0
          have q3c1 := q3.cell 1
          have q3f1 := q3.free 1
          have q3l := q3.lt
          simp at q3c0 q3c1
          have q4c0 := q4.cell 0
          have q4f0 := q4.free 0
          have q4c1 := q4.cell 1
          have q4f1 := q4.free 1
          have q4c2 := q4.cell 2
          have q4f2 := q4.free 2
          have q4c3 := q4.cell 3
          have q4f3 := q4.free 3
          have q4c4 := q4.cell 4
          have q4f4 := q4.free 4
          have q4c5 := q4.cell 5
          have q4f5 := q4.free 5
          have q4l := q4.lt
          simp at q4c0 q4c1 q4c2 q4c3 q4c4 q4c5
          go_wp2_with (first | (go_at_call 108; (with_reducible refine (f_value m ⟨x.ahi, x.wlo⟩ _ HM.out HN.out).mono ?_); rintro e w1 ⟨rfl, hb1⟩; obtain ⟨hc1, hf1, hl1⟩ := bcell3 hb1; refine Blk.thru (b := wr.heap.size) (arr := ?_) (t := ?_) ?_ hb1 ?_; rotate_left 2; (focus (exact blk)); intro qy; have qyc0 := qy.cell 0; have qyf0 := qy.free 0; have qyc1 := qy.cell 1; have qyf1 := qy.free 1; have qyl := qy.lt; simp at qyc0 qyc1) | (go_at_call 108; (with_reducible refine (f_value m ⟨x.alo, x.whi⟩ _ HM.out HN.out).mono ?_); rintro e w1 ⟨rfl, hb1⟩; obtain ⟨hc1, hf1, hl1⟩ := bcell3 hb1; refine Blk.thru (b := wr.heap.size) (arr := ?_) (t := ?_) ?_ hb1 ?_; rotate_left 2; (focus (exact blk)); intro qy; have qyc0 := qy.cell 0; have qyf0 := qy.free 0; have qyc1 := qy.cell 1; have qyf1 := qy.free 1; have qyl := qy.lt; simp at qyc0 qyc1) | (go_at_call 108; (with_reducible refine (f_value m ⟨x.ahi, x.whi⟩ _ HM.out HN.out).mono ?_); rintro e w1 ⟨rfl, hb1⟩; obtain ⟨hc1, hf1, hl1⟩ := bcell3 hb1; refine Blk.thru (b := wr.heap.size) (arr := ?_) (t := ?_) ?_ hb1 ?_; rotate_left 2; (focus (exact blk)); intro qy; have qyc0 := qy.cell 0; have qyf0 := qy.free 0; have qyc1 := qy.cell 1; have qyf1 := qy.free 1; have qyl := qy.lt; simp at qyc0 qyc1))
          go_round
          case rel => exact ⟨1, Bk, by omega, by go_num, by rw [HS.out, HC.out], rfl, by (exact blk), by (exact blk), by (exact blk), by (exact blk), by (exact kpt)⟩
          case measure => simp [intOf]
        · simp only [nextC] at hc HC HN HS
          have q0c0 := q0.cell 0
          have q0f0 := q0.free 0
          have q0c1 := q0.cell 1
          have q0f1 := q0.free 1
          have q0c2 := q0.cell 2
          have q0f2 := q0.free 2
          have q0l := q0.lt
          simp at q0c0 q0c1 q0c2
          have q2c0 := q2.cell 0
          have q2f0 := q2.free 0
          have q2c1 := q2.cell 1
          have q2f1 := q2.free 1
          have q2l := q2.lt
          simp at q2c0 q2c1
          have q3c0 := q3.cell 0
          have q3f0 := q3.free 0
          have q3c1 := q3.cell 1
          have q3f1 := q3.free 1
          have q3l := q3.lt
          simp at q3c0 q3c1
          have q4c0 := q4.cell 0
          have q4f0 := q4.free 0
          have q4c1 := q4.cell 1
          have q4f1 := q4.free 1
          have q4c2 := q4.cell 2
          have q4f2 := q4.free 2
          have q4c3 := q4.cell 3
          have q4f3 := q4.free 3
          have q4c4 := q4.cell 4
          have q4f4 := q4.free 4
          have q4c5 := q4.cell 5
          have q4f5 := q4.free 5
          have q4l := q4.lt
          simp at q4c0 q4c1 q4c2 q4c3 q4c4 q4c5
          go_wp2_with (first | (go_at_call 108; (with_reducible refine (f_value m ⟨x.ahi, x.wlo⟩ _ HM.out HN.out).mono ?_); rintro e w1 ⟨rfl, hb1⟩; obtain ⟨hc1, hf1, hl1⟩ := bcell3 hb1; refine Blk.thru (b := wr.heap.size) (arr := ?_) (t := ?_) ?_ hb1 ?_; rotate_left 2; (focus (exact blk)); intro qy; have qyc0 := qy.cell 0; have qyf0 := qy.free 0; have qyc1 := qy.cell 1; have qyf1 := qy.free 1; have qyl := qy.lt; simp at qyc0 qyc1) | (go_at_call 108; (with_reducible refine (f_value m ⟨x.alo, x.whi⟩ _ HM.out HN.out).mono ?_); rintro e w1 ⟨rfl, hb1⟩; obtain ⟨hc1, hf1, hl1⟩ := bcell3 hb1; refine Blk.thru (b := wr.heap.size) (arr := ?_) (t := ?_) ?_ hb1 ?_; rotate_left 2; (focus (exact blk)); intro qy; have qyc0 := qy.cell 0; have qyf0 := qy.free 0; have qyc1 := qy.cell 1; have qyf1 := qy.free 1; have qyl := qy.lt; simp at qyc0 qyc1) | (go_at_call 108; (with_reducible refine (f_value m ⟨x.ahi, x.whi⟩ _ HM.out HN.out).mono ?_); rintro e w1 ⟨rfl, hb1⟩; obtain ⟨hc1, hf1, hl1⟩ := bcell3 hb1; refine Blk.thru (b := wr.heap.size) (arr := ?_) (t := ?_) ?_ hb1 ?_; rotate_left 2; (focus (exact blk)); intro qy; have qyc0 := qy.cell 0; have qyf0 := qy.free 0; have qyc1 := qy.cell 1; have qyf1 := qy.free 1; have qyl := qy.lt; simp at qyc0 qyc1))
          go_round
          case rel => exact ⟨2, Bk, by omega, by go_num, by rw [HS.out, HC.out], rfl, by (exact blk), by (exact blk), by (exact blk), by (exact blk), by (exact kpt)⟩
          case measure => simp [intOf]
        · simp only [nextC] at hc HC HN HS
          have q0c0 := q0.cell 0
          have q0f0 := q0.free 0
          have q0c1 := q0.cell 1
          have q0f1 := q0.free 1
          have q0c2 := q0.cell 2
          have q0f2 := q0.free 2
          have q0l := q0.lt
          simp at q0c0 q0c1 q0c2
          have q2c0 := q2.cell 0
          have q2f0 := q2.free 0
          have q2c1 := q2.cell 1
          have q2f1 := q2.free 1
          have q2l := q2.lt
          simp at q2c0 q2c1
          have q3c0 := q3.cell 0
          have q3f0 := q3.free 0
          have q3c1 := q3.cell 1
          have q3f1 := q3.free 1
          have q3l := q3.lt
          simp at q3c0 q3c1
          have q4c0 := q4.cell 0
          have q4f0 := q4.free 0
          have q4c1 := q4.cell 1
          have q4f1 := q4.free 1
          have q4c2 := q4.cell 2
          have q4f2 := q4.free 2
          have q4c3 := q4.cell 3
          have q4f3 := q4.free 3
          have q4c4 := q4.cell 4
          have q4f4 := q4.free 4
          have q4c5 := q4.cell 5
          have q4f5 := q4.free 5
          have q4l := q4.lt
          simp at q4c0 q4c1 q4c2 q4c3 q4c4 q4c5
          go_wp2_with (first | (go_at_call 108; (with_reducible refine (f_value m ⟨x.ahi, x.wlo⟩ _ HM.out HN.out).mono ?_); rintro e w1 ⟨rfl, hb1⟩; obtain ⟨hc1, hf1, hl1⟩ := bcell3 hb1; refine Blk.thru (b := wr.heap.size) (arr := ?_) (t := ?_) ?_ hb1 ?_; rotate_left 2; (focus (exact blk)); intro qy; have qyc0 := qy.cell 0; have qyf0 := qy.free 0; have qyc1 := qy.cell 1; have qyf1 := qy.free 1; have qyl := qy.lt; simp at qyc0 qyc1) | (go_at_call 108; (with_reducible refine (f_value m ⟨x.alo, x.whi⟩ _ HM.out HN.out).mono ?_); rintro e w1 ⟨rfl, hb1⟩; obtain ⟨hc1, hf1, hl1⟩ := bcell3 hb1; refine Blk.thru (b := wr.heap.size) (arr := ?_) (t := ?_) ?_ hb1 ?_; rotate_left 2; (focus (exact blk)); intro qy; have qyc0 := qy.cell 0; have qyf0 := qy.free 0; have qyc1 := qy.cell 1; have qyf1 := qy.free 1; have qyl := qy.lt; simp at qyc0 qyc1) | (go_at_call 108; (with_reducible refine (f_value m ⟨x.ahi, x.whi⟩ _ HM.out HN.out).mono ?_); rintro e w1 ⟨rfl, hb1⟩; obtain ⟨hc1, hf1, hl1⟩ := bcell3 hb1; refine Blk.thru (b := wr.heap.size) (arr := ?_) (t := ?_) ?_ hb1 ?_; rotate_left 2; (focus (exact blk)); intro qy; have qyc0 := qy.cell 0; have qyf0 := qy.free 0; have qyc1 := qy.cell 1; have qyf1 := qy.free 1; have qyl := qy.lt; simp at qyc0 qyc1))
          go_round
          case rel => exact ⟨3, Bk, by omega, by go_num, by rw [HS.out, HC.out], rfl, by (exact blk), by (exact blk), by (exact blk), by (exact blk), by (exact kpt)⟩
          case measure => simp [intOf]
    · obtain rfl : k = 3 := by omega
      have q2c0 := q2.cell 0
      have q2f0 := q2.free 0
      have q2c1 := q2.cell 1
      have q2f1 := q2.free 1
      have q2l := q2.lt
      simp at q2c0 q2c1
      have q3c0 := q3.cell 0
      have q3f0 := q3.free 0
      have q3c1 := q3.cell 1
      have q3f1 := q3.free 1
      have q3l := q3.lt
      simp at q3c0 q3c1
      obtain rfl : Bk = best m x := hBk
      go_wp2
      exact bodyPost_ret (v := .tuple #[.agg #[.int .i64 (best m x).pos, .int .i64 (best m x).wt], .int .i64 (vOf m (best m x))]) (by simp [results, Tryz.results93, go_sem, q2c0, q2c1, q2f0, q2f1, q3c0, q3c1, q2l, q3l]) rfl ⟨rfl, by (exact kpt)⟩

theorem infoP : (Tryz.prog.info? 177).map (fun i => (i.zero, i.size, i.bytes)) = some (some (.agg #[.int .i64 0, .int .i64 0]), 2, 16) := by kernel_rfl
def WorstRel (w : World) (m : Limit) (xs : List Load) (s cv i : Value) (wr : World) : Prop :=
  ∃ k : Nat, k ≤ xs.length ∧ i = .int .i64 k ∧ s = .int .i64 (sumBy (fun x => vOf m (best m x)) (xs.take k)) ∧ wr.ownsRow w.heap.size 177 2 cv k ((choice m (xs.take k)).flatMap Put.cells) ∧ Kept w wr
theorem choice_snoc (m : Limit) (xs : List Load) (k : Nat) (hk : k < xs.length) : (choice m (xs.take (k + 1))).flatMap Put.cells = (choice m (xs.take k)).flatMap Put.cells ++ [.int .i64 (best m xs[k]).pos, .int .i64 (best m xs[k]).wt] := by
  rw [List.take_succ_eq_append_getElem hk]
  simp only [choice, List.map_append, List.map_cons, List.map_nil, List.flatMap_append, List.flatMap_cons, List.flatMap_nil, List.append_nil]
  rfl

theorem f_worst (m : Limit) (a : Option Addr) (cap : Nat) (xs : List Load) (w : World) (hx : Row Load.cells 4 w.heap.size w a xs) (hc : xs.length ≤ cap) (hM : cap ≤ maxLen) (hn : xs.length ≤ 40) (hm : limitB m = true) (hv : ∀ x ∈ xs, loadB x = true) :
    Calls Tryz.prog 92 #[.slice a xs.length cap, .func (.func 93) #[.agg #[.int .i64 m.a, .int .i64 m.b, .int .i64 m.c]] #[]] w fun e w' =>
      ∃ v, e = .returned (.tuple #[.int .i64 (worstV m xs), v]) ∧ w'.ownsRow w.heap.size 177 2 v (choice m xs).length ((choice m xs).flatMap Put.cells) ∧ Kept w w' := by
  unfold maxLen at hM
  have HSUM := Lib.hid (fun k => sumBy_take_bd (fun x => vOf m (best m x)) 22000000000000000 880000000000000000 xs 40 hn (by omega) (by omega) (fun x h => best_bd hm (hv x h)) k)
  have HW := Lib.hid (worstV_eq m xs)
  have HM := Lib.hid hm
  have HV := Lib.hid hv
  clear hm hv
  go_enter Tryz.func92, Tryz.ntmps92
  go_wp2
  go_loopw [6, 7, 14] (fun s cv i wr => WorstRel w m xs s cv i wr) (fun _ _ i _ => xs.length - (intOf i).toNat)
  case atStart => exact ⟨0, Nat.zero_le _, rfl, rfl, owns_nil (α := Put) (enc := Put.cells), Below.refl _ _⟩
  case round =>
    obtain ⟨k, hk, rfl, rfl, hown, hkk⟩ := hrel
    by_cases hlt : k < xs.length
    · obtain ⟨b, off, rfl, hb, h0, h1, h2, h3⟩ := Load.row (hx.later hkk (Nat.le_refl _)) k hlt
      obtain ⟨u1, u2⟩ := HSUM.out k
      have HX := Lib.hid (HV.out xs[k] (List.getElem_mem hlt))
      obtain ⟨u3, u4⟩ := best_bd HM.out HX.out
      have hks := hkk.size
      go_wp2_with (first | (go_at_call 93; (with_reducible refine (f_corner m xs[k] _ HM.out HX.out).mono ?_); rintro e w1 ⟨rfl, hb1⟩; obtain ⟨hc1, hf1, hl1⟩ := bcell3 hb1; have hs1 := hb1.size; simp at hs1) | (at_builtin; obtain ⟨i0, hi, hz0, hz1, hz2⟩ := info_parts infoP; refine wpList_append_own _ rfl _ _ 96 rfl w.heap.size 177 i0 (.agg #[.int .i64 0, .int .i64 0]) 2 16 Tryz.underlying96 hi hz0 hz1 hz2 rfl (by decide) _ _ _ rfl (((owns_keep (hown.alloc _) hb1).alloc _).alloc _) ⟨w1.heap.size + 1, 0, none⟩ 1 1 [.int .i64 (best m xs[k]).pos, .int .i64 (best m xs[k]).wt] rfl rfl (cell_two_at (by simp) _ _ _) (fun x hx => by simp at hx; rcases hx with rfl | rfl <;> rfl) (by unfold maxLen; omega) (by omega) (by simp; omega) ?_; intro v' w3 hown' hgrow hnil; clear hi hz0 hz1 hz2))
      have hk3 : Kept w w3 := Kept.grown (Kept.alloc (Kept.alloc (Kept.drop (Kept.alloc hkk _) hb1) _) _) (((owns_keep (hown.alloc _) hb1).alloc _).alloc _) (Nat.le_refl _) hgrow
      go_roundw
      case rel =>
        have hown2 : w3.ownsRow w.heap.size 177 2 v' (k + 1) ((choice m (xs.take (k + 1))).flatMap Put.cells) := by rw [choice_snoc m xs k hlt]; exact hown'
        first
        | exact ⟨k + 1, by omega, by go_num, by rw [sumBy_take _ _ _ hlt], hown2, hk3⟩
        | (apply Exists.intro; repeat (apply Exists.intro); refine ⟨?_, rfl⟩; exact ⟨k + 1, by omega, by go_num, by rw [sumBy_take _ _ _ hlt], hown2, hk3⟩)
      case measure => simp [intOf]; omega
    · obtain rfl : k = xs.length := by omega
      rw [List.take_length] at hown
      have hown2 := hown
      rw [show xs.length = (choice m xs).length from (choice_len m xs).symm] at hown2
      obtain ⟨ad, cp, rfl, _⟩ := owns_row (enc := Put.cells) (k := 2) (fun _ => rfl) hown2
      go_wp2
      exact bodyPost_ret (v := .tuple #[.int .i64 (sumBy (fun x => vOf m (best m x)) (xs.take xs.length)), .slice ad (choice m xs).length cp]) (by simp [results, Tryz.results92, go_sem]) rfl ⟨_, by rw [HW.out, List.take_length], hown2, hkk⟩

end Go.Proofs.YtamnnjdfjffhlaaGreatDoor.Trim04
