/-
  Acts that take a share out of a cell: valve, purify.
-/
import Derived.Test.YtemafanncejeiaaGasDG
import Derived.Test.YtemafanncejeiaaHeld
namespace Go.Proofs.Ytemafanncejeiaa
open Go.RowKit Bal Bal.Trim Bal.Gas
set_option linter.unusedVariables false
set_option linter.unusedSimpArgs false
set_option maxHeartbeats 4000000
set_option maxRecDepth 10000

theorem f_outX_none {B cp g : Nat} {xs : List Cell} {w : World} (h : Mine 25 B w (.slice (some ⟨g, 0, none⟩) xs.length cp) xs) {i : Nat} {x : Cell} (hx : xs[i]? = some x) (hc : okC x) (n : Int) (h1 : x.helium + x.air < n) :
    Calls Try.prog 136 #[.pointer (some ⟨g, i * 7, none⟩), .int .i64 n] w fun e w' => e = .panicked [{ v := refusal 6, recovered := false }] ∧ Kept w w' := by
  obtain ⟨hi, rfl⟩ := List.getElem?_eq_some_iff.1 hx
  exact f_out_none h hi hc n h1
theorem f_outX {B cp g : Nat} {xs : List Cell} {w : World} (h : Mine 25 B w (.slice (some ⟨g, 0, none⟩) xs.length cp) xs) {i : Nat} {x : Cell} (hx : xs[i]? = some x) (hc : okC x) (n : Int) (h0 : 1 ≤ n) (h1 : n ≤ x.helium + x.air) :
    Calls Try.prog 136 #[.pointer (some ⟨g, i * 7, none⟩), .int .i64 n] w fun e w' => e = .returned (.agg #[.int .i64 (shareH x n), .int .i64 (n - shareH x n)]) ∧
      Mine 25 B w' (.slice (some ⟨g, 0, none⟩) xs.length cp) (xs.set i (less x n)) ∧ Below B w w' ∧ Besides 25 w w' := by
  obtain ⟨hi, rfl⟩ := List.getElem?_eq_some_iff.1 hx
  exact f_out_ok h hi hc n h0 h1
theorem Besides.thru {T : TypeId} {w w' : World} {b : Nat} {arr : Array Value} {t : TypeId} {G : Prop} (hb : Blk w b arr t) (h : Besides T w w') (hne : t ≠ T) (k : Blk w' b arr t → G) : G := k (h b arr t hne hb)
theorem alloc_pair (ρ : Operand → Value) (o : Oper) (ho : o.op = .alloc 61) (w : World) : (execOp ρ o).run Try.prog w = .ok (.value (.pointer (some ⟨w.heap.size, 0, none⟩))) (w.alloc (.cells #[.int .i64 0, .int .i64 0] 61)) := by
  obtain ⟨_, op, _, _, _, _⟩ := o
  simp only at ho
  subst ho
  simp [execOp, go_sem]
theorem makes_pair {W : World} {ops : Array Oper} {q : Nat} {oq : Oper} (h : ops[q]? = some oq) (hg : oq.guard = none) (ho : oq.op = .alloc 61) : makesB Try.prog ops (fun w' => ∃ g : Later W, w' = g.val) (some q) :=
  ⟨oq, h, hg, fun a w ⟨g, hw⟩ => ⟨_, _, ⟨⟨w.alloc _, by subst hw; exact (g.ok).alloc g.ok.size _⟩, rfl⟩, alloc_pair _ _ ho w⟩⟩

theorem f_valve_no1 {B s cp : Nat} {ad : Option Addr} {p : Plant} {w : World} (d : Deed) (h : Shop 25 174 B w s ad cp p) (hp : plantB p = true) (ha : argB p d = false) : Calls Try.prog 108 #[.pointer (some ⟨s, 0, none⟩), .agg #[.int .u8 d.kind, .int .i64 d.cell, .int .i64 d.to, .int .i64 d.n]] w fun e w' => e = .panicked [{ v := refusal 2, recovered := false }] ∧ Kept w w' := by
  have hn12 : p.cells.length ≤ 12 := (plantB_iff.1 hp).1
  have HA := Lib.hid ha
  obtain ⟨hB, hs, hm⟩ := h
  clear ha hp
  go_enter Try.func108, Try.ntmps108
  go_upto_region 1 with fail
  refine at_world (S := fun W => Blk W w.heap.size #[.int .u8 d.kind, .int .i64 d.cell, .int .i64 d.to, .int .i64 d.n] 65 ∧ Blk W s #[.slice ad p.cells.length cp, .int .i64 (p.bottles), .int .i64 (p.inH), .int .i64 (p.inA), .int .i64 (p.vH), .int .i64 (p.vA), .int .i64 (p.lH), .int .i64 (p.lA), .int .i64 (p.pH), .int .i64 (p.pA)] 174 ∧ Kept w W) ⟨by (exact blkc), hs.keep (by (exact kpt)), by (exact kpt)⟩ ?_
  rintro W ⟨r0, hsW, hk⟩
  have r0c0 := fun g : Later W => (r0.later g).cell 0
  have r0f0 := fun g : Later W => (r0.later g).free 0
  have r0c1 := fun g : Later W => (r0.later g).cell 1
  have r0f1 := fun g : Later W => (r0.later g).free 1
  have r0c2 := fun g : Later W => (r0.later g).cell 2
  have r0f2 := fun g : Later W => (r0.later g).free 2
  have r0c3 := fun g : Later W => (r0.later g).cell 3
  have r0f3 := fun g : Later W => (r0.later g).free 3
  have r0l := fun g : Later W => (r0.later g).lt
  simp at r0c0 r0c1 r0c2 r0c3
  have hsWc0 := fun g : Later W => (hsW.later g).cell 0
  have hsWf0 := fun g : Later W => (hsW.later g).free 0
  have hsWc1 := fun g : Later W => (hsW.later g).cell 1
  have hsWf1 := fun g : Later W => (hsW.later g).free 1
  have hsWc2 := fun g : Later W => (hsW.later g).cell 2
  have hsWf2 := fun g : Later W => (hsW.later g).free 2
  have hsWc3 := fun g : Later W => (hsW.later g).cell 3
  have hsWf3 := fun g : Later W => (hsW.later g).free 3
  have hsWc4 := fun g : Later W => (hsW.later g).cell 4
  have hsWf4 := fun g : Later W => (hsW.later g).free 4
  have hsWc5 := fun g : Later W => (hsW.later g).cell 5
  have hsWf5 := fun g : Later W => (hsW.later g).free 5
  have hsWc6 := fun g : Later W => (hsW.later g).cell 6
  have hsWf6 := fun g : Later W => (hsW.later g).free 6
  have hsWc7 := fun g : Later W => (hsW.later g).cell 7
  have hsWf7 := fun g : Later W => (hsW.later g).free 7
  have hsWc8 := fun g : Later W => (hsW.later g).cell 8
  have hsWf8 := fun g : Later W => (hsW.later g).free 8
  have hsWc9 := fun g : Later W => (hsW.later g).cell 9
  have hsWf9 := fun g : Later W => (hsW.later g).free 9
  have hsWl := fun g : Later W => (hsW.later g).lt
  simp at hsWc0 hsWc1 hsWc2 hsWc3 hsWc4 hsWc5 hsWc6 hsWc7 hsWc8 hsWc9
  refine later_dies [0, 1, 2, 3, 4, 5, 6, 7, 9, 10] 8 none (by kernel_rfl) (by kernel_rfl) (fun c a d v w h => by cases d <;> exact h) trivial ?_
  simp only [List.filterMap_cons, List.filterMap_nil, List.getElem?_cons_zero, List.getElem?_cons_succ, List.map_cons, List.map_nil]
  repeat (refine wpSteps_quiet ?_; (first | go_big_quiet_skip | (go_big_quiet_want; go_big_quiet_op; first | go_big_quiet_on | (apply Exists.intro; refine ⟨fun g_ => ?_, ?_⟩; (focus (first | fail)); go_big_quiet_on))); refine wpQuiet_nil ?_)
  refine wpSteps_nil ?_
  refine ⟨DiesAt.of rfl rfl (fun w' hw' => ?_), fun _ _ h => by cases h⟩
  obtain ⟨gg, rfl⟩ := hw'
  simp only [Go.wp_at_succ, Go.wp_at_zero]
  go_simp
  (with_reducible refine (f_cell_no s ad cp p d _ (hsW.later gg) hn12 HA.out).mono ?_)
  rintro e w1 ⟨rfl, hb1⟩
  have hkg := Kept.drop hk gg.ok
  exact ⟨rfl, rfl, by (exact kpt)⟩
theorem f_valve_no2 {B s cp : Nat} {ad : Option Addr} {p : Plant} {w : World} (d : Deed) (h : Shop 25 174 B w s ad cp p) (hp : plantB p = true) (ha : argB p d = true) (hl : amount (at_ p d) < d.n) : Calls Try.prog 108 #[.pointer (some ⟨s, 0, none⟩), .agg #[.int .u8 d.kind, .int .i64 d.cell, .int .i64 d.to, .int .i64 d.n]] w fun e w' => e = .panicked [{ v := refusal 6, recovered := false }] ∧ Kept w w' := by
  have hn12 : p.cells.length ≤ 12 := (plantB_iff.1 hp).1
  have hb := plantB_iff.1 hp
  have hi : d.cell.toNat < p.cells.length := by
    have h1 : rng [d.cell] 0 (p.cells.length - 1) = true := by unfold argB at ha; simp only [Bool.and_eq_true] at ha; exact ha.1
    have : 0 ≤ d.cell ∧ d.cell ≤ p.cells.length - 1 := by simpa [rng, inB] using h1
    omega
  have hn : 1 ≤ d.n ∧ d.n ≤ 10000000 := by
    have h1 : rng [d.n] 1 10000000 = true := by unfold argB at ha; simp only [Bool.and_eq_true] at ha; exact ha.2
    simpa [rng, inB] using h1
  have hcv : cellB p.cells[d.cell.toNat] = true := hb.2.2.2.2.2.2.1 _ (List.getElem_mem hi)
  have hat : at_ p d = p.cells[d.cell.toNat] := cellAt_get hi
  have HA := Lib.hid ha
  obtain ⟨hB, hs, hm⟩ := h
  have hBw : B ≤ w.heap.size := by have := hs.lt; omega
  obtain ⟨g, _, rfl, hBg, hbg, _⟩ := hm.at hi
  have hgl := hbg.lt
  clear hbg
  obtain ⟨x, hx⟩ : ∃ x, x = p.cells[d.cell.toNat] := ⟨_, rfl⟩
  have HX := Lib.hid (show p.cells[d.cell.toNat]? = some x by rw [hx]; simp [hi])
  rw [← hx] at hcv hat
  have hxb := cellB_iff.1 hcv
  have HAT := Lib.hid hat
  have HXX := Lib.hid hx
  clear ha hat hx
  have hlt : x.helium + x.air < d.n := by rw [HAT.out] at hl; exact hl
  have HOK := Lib.hid (okC_of hcv)
  clear hp hb hl
  go_enter Try.func108, Try.ntmps108
  go_upto_region 1 with fail
  refine at_world (S := fun W => Blk W w.heap.size #[.int .u8 d.kind, .int .i64 d.cell, .int .i64 d.to, .int .i64 d.n] 65 ∧ Blk W s #[.slice (some ⟨g, 0, none⟩) p.cells.length cp, .int .i64 (p.bottles), .int .i64 (p.inH), .int .i64 (p.inA), .int .i64 (p.vH), .int .i64 (p.vA), .int .i64 (p.lH), .int .i64 (p.lA), .int .i64 (p.pH), .int .i64 (p.pA)] 174 ∧ Mine 25 B W (.slice (some ⟨g, 0, none⟩) p.cells.length cp) p.cells ∧ Kept w W) ⟨by (exact blkc), hs.keep (by (exact kpt)), hm.keep (by (exact kpt)), by (exact kpt)⟩ ?_
  rintro W ⟨r0, hsW, hmW, hk⟩
  have r0c0 := fun g : Later W => (r0.later g).cell 0
  have r0f0 := fun g : Later W => (r0.later g).free 0
  have r0c1 := fun g : Later W => (r0.later g).cell 1
  have r0f1 := fun g : Later W => (r0.later g).free 1
  have r0c2 := fun g : Later W => (r0.later g).cell 2
  have r0f2 := fun g : Later W => (r0.later g).free 2
  have r0c3 := fun g : Later W => (r0.later g).cell 3
  have r0f3 := fun g : Later W => (r0.later g).free 3
  have r0l := fun g : Later W => (r0.later g).lt
  simp at r0c0 r0c1 r0c2 r0c3
  have hsWc0 := fun g : Later W => (hsW.later g).cell 0
  have hsWf0 := fun g : Later W => (hsW.later g).free 0
  have hsWc1 := fun g : Later W => (hsW.later g).cell 1
  have hsWf1 := fun g : Later W => (hsW.later g).free 1
  have hsWc2 := fun g : Later W => (hsW.later g).cell 2
  have hsWf2 := fun g : Later W => (hsW.later g).free 2
  have hsWc3 := fun g : Later W => (hsW.later g).cell 3
  have hsWf3 := fun g : Later W => (hsW.later g).free 3
  have hsWc4 := fun g : Later W => (hsW.later g).cell 4
  have hsWf4 := fun g : Later W => (hsW.later g).free 4
  have hsWc5 := fun g : Later W => (hsW.later g).cell 5
  have hsWf5 := fun g : Later W => (hsW.later g).free 5
  have hsWc6 := fun g : Later W => (hsW.later g).cell 6
  have hsWf6 := fun g : Later W => (hsW.later g).free 6
  have hsWc7 := fun g : Later W => (hsW.later g).cell 7
  have hsWf7 := fun g : Later W => (hsW.later g).free 7
  have hsWc8 := fun g : Later W => (hsW.later g).cell 8
  have hsWf8 := fun g : Later W => (hsW.later g).free 8
  have hsWc9 := fun g : Later W => (hsW.later g).cell 9
  have hsWf9 := fun g : Later W => (hsW.later g).free 9
  have hsWl := fun g : Later W => (hsW.later g).lt
  simp at hsWc0 hsWc1 hsWc2 hsWc3 hsWc4 hsWc5 hsWc6 hsWc7 hsWc8 hsWc9
  refine later_dies [0, 1, 2, 3, 4, 5, 6, 7, 8, 9, 10] 11 none (by kernel_rfl) (by kernel_rfl) (fun c a d v w h => by cases d <;> exact h) trivial ?_
  simp only [List.filterMap_cons, List.filterMap_nil, List.getElem?_cons_zero, List.getElem?_cons_succ, List.map_cons, List.map_nil]
  repeat (refine wpSteps_quiet ?_; (first | go_big_quiet_skip | (go_big_quiet_want; go_big_quiet_op; first | go_big_quiet_on | (apply Exists.intro; refine ⟨fun g_ => ?_, ?_⟩; (focus (first | (go_at_call 135; exact Later.call (f_cell_ok s g cp p d _ (hsW.later g_) hn12 HA.out)))); go_big_quiet_on))); refine wpQuiet_nil ?_)
  refine wpSteps_nil ?_
  refine ⟨DiesAt.of rfl rfl (fun w' hw' => ?_), fun _ _ h => by cases h⟩
  obtain ⟨gg, rfl⟩ := hw'
  simp only [Go.wp_at_succ, Go.wp_at_zero]
  go_simp
  (with_reducible refine (f_outX_none (hmW.keep gg.ok) HX.out HOK.out d.n hlt).mono ?_)
  rintro e w1 ⟨rfl, hb1⟩
  have hkg := Kept.drop hk gg.ok
  exact ⟨rfl, rfl, by (exact kpt)⟩
theorem f_valve_ok {B s cp : Nat} {ad : Option Addr} {p : Plant} {w : World} (d : Deed) (h : Shop 25 174 B w s ad cp p) (hp : plantB p = true) (ha : argB p d = true) (hl : ¬ amount (at_ p d) < d.n) : Calls Try.prog 108 #[.pointer (some ⟨s, 0, none⟩), .agg #[.int .u8 d.kind, .int .i64 d.cell, .int .i64 d.to, .int .i64 d.n]] w fun e w' => e = .returned (.tuple #[]) ∧ Shop 25 174 B w' s ad cp (valveP p d) ∧ Below B w w' := by
  have hn12 : p.cells.length ≤ 12 := (plantB_iff.1 hp).1
  have hb := plantB_iff.1 hp
  have hi : d.cell.toNat < p.cells.length := by
    have h1 : rng [d.cell] 0 (p.cells.length - 1) = true := by unfold argB at ha; simp only [Bool.and_eq_true] at ha; exact ha.1
    have : 0 ≤ d.cell ∧ d.cell ≤ p.cells.length - 1 := by simpa [rng, inB] using h1
    omega
  have hn : 1 ≤ d.n ∧ d.n ≤ 10000000 := by
    have h1 : rng [d.n] 1 10000000 = true := by unfold argB at ha; simp only [Bool.and_eq_true] at ha; exact ha.2
    simpa [rng, inB] using h1
  have hcv : cellB p.cells[d.cell.toNat] = true := hb.2.2.2.2.2.2.1 _ (List.getElem_mem hi)
  have hat : at_ p d = p.cells[d.cell.toNat] := cellAt_get hi
  have HA := Lib.hid ha
  obtain ⟨hB, hs, hm⟩ := h
  have hBw : B ≤ w.heap.size := by have := hs.lt; omega
  obtain ⟨g, _, rfl, hBg, hbg, _⟩ := hm.at hi
  have hgl := hbg.lt
  clear hbg
  obtain ⟨x, hx⟩ : ∃ x, x = p.cells[d.cell.toNat] := ⟨_, rfl⟩
  have HX := Lib.hid (show p.cells[d.cell.toNat]? = some x by rw [hx]; simp [hi])
  rw [← hx] at hcv hat
  have hxb := cellB_iff.1 hcv
  have HAT := Lib.hid hat
  have HXX := Lib.hid hx
  clear ha hat hx
  have hle : d.n ≤ x.helium + x.air := by rw [HAT.out] at hl; unfold amount at hl; omega
  have HOK := Lib.hid (okC_of hcv)
  obtain ⟨s0, s1, s2, s3⟩ := share_bd HOK.out (show 0 ≤ d.n by omega) hle
  obtain ⟨S, hS⟩ : ∃ S, S = shareH x d.n := ⟨_, rfl⟩
  have HSS := Lib.hid (show shareH x d.n = S from hS.symm)
  have HOUT := fun (W : World) (q : Mine 25 B W (.slice (some ⟨g, 0, none⟩) p.cells.length cp) p.cells) => f_outX q HX.out HOK.out d.n hn.1 hle
  rw [← hS] at s0 s1 s2 s3 HOUT
  obtain ⟨_, hb1, ⟨hb2, hb3⟩, ⟨hb4, hb5⟩, ⟨hb6, hb7⟩, ⟨hb8, hb9⟩, _⟩ := hb
  clear hS hl
  clear hp
  go_enter Try.func108, Try.ntmps108
  go_upto_region 1 with fail
  refine at_world (S := fun W => Blk W w.heap.size #[.int .u8 d.kind, .int .i64 d.cell, .int .i64 d.to, .int .i64 d.n] 65 ∧ Blk W s #[.slice (some ⟨g, 0, none⟩) p.cells.length cp, .int .i64 (p.bottles), .int .i64 (p.inH), .int .i64 (p.inA), .int .i64 (p.vH), .int .i64 (p.vA), .int .i64 (p.lH), .int .i64 (p.lA), .int .i64 (p.pH), .int .i64 (p.pA)] 174 ∧ Mine 25 B W (.slice (some ⟨g, 0, none⟩) p.cells.length cp) p.cells ∧ Kept w W) ⟨by (exact blkc), hs.keep (by (exact kpt)), hm.keep (by (exact kpt)), by (exact kpt)⟩ ?_
  rintro W ⟨r0, hsW, hmW, hk⟩
  refine held_walk (fun w' => Blk w' s #[.slice (some ⟨g, 0, none⟩) p.cells.length cp, .int .i64 (p.bottles), .int .i64 (p.inH), .int .i64 (p.inA), .int .i64 (p.vH), .int .i64 (p.vA), .int .i64 (p.lH), .int .i64 (p.lA), .int .i64 (p.pH), .int .i64 (p.pA)] 174 ∧ Blk w' w.heap.size #[.int .u8 d.kind, .int .i64 d.cell, .int .i64 d.to, .int .i64 d.n] 65) [(true, 0), (true, 1), (true, 2), (true, 3), (true, 4), (true, 5), (true, 6), (true, 7), (true, 9), (true, 10), (false, 8), (false, 11), (false, 12), (true, 13), (true, 14), (true, 15), (false, 16)] 16 (by kernel_rfl) (by kernel_rfl) (fun c a d v w h => by cases d <;> exact h) ⟨hsW.drew, r0.drew⟩ ?_
  simp only [List.filterMap_cons, List.filterMap_nil, List.getElem?_cons_zero, List.getElem?_cons_succ, Option.map_some]
  iterate 10 ((first | (refine held_take ?_ ?_ (fun w' hS => ?_) ?_; rotate_left 1; (focus rfl); (focus (first | (go_simp; done) | (go_simp; with_reducible rfl) | (obtain ⟨S1, S2⟩ := hS; have k0 := S1.cell 0; have k1 := S1.cell 1; have k2 := S1.cell 2; have k3 := S1.cell 3; have k4 := S1.cell 4; have k5 := S1.cell 5; have k6 := S1.cell 6; have k7 := S1.cell 7; have k8 := S1.cell 8; have k9 := S1.cell 9; have j0 := S2.cell 0; have j1 := S2.cell 1; have j2 := S2.cell 2; have j3 := S2.cell 3; simp at k0 k1 k2 k3 k4 k5 k6 k7 k8 k9 j0 j1 j2 j3; first | (go_simp; done) | (go_simp; with_reducible rfl))))) | (refine held_pass ?_ ?_; (focus rfl))); simp only [Act.put, List.setIfInBounds_toArray, List.set_cons_zero, List.set_cons_succ])
  refine held_one ?_
  refine wpList_plain rfl fun K1 hK1 => ?_
  go_wp2_with (go_at_call 135; (with_reducible refine (f_cell_ok s g cp p d _ hsW.drew hn12 HA.out).mono ?_); rintro e w1 ⟨rfl, hb1⟩)
  refine held_on ⟨hsW.drew.keep hb1, r0.drew.keep hb1⟩ ?_
  refine held_one ?_
  refine wpList_plain rfl fun K1 hK1 => ?_
  go_wp2_with (go_at_call 136; (with_reducible refine (HOUT _ (hmW.drew.keep hb1)).mono ?_); rintro e w2 ⟨rfl, hm2, hw2, hbes2⟩)
  refine held_on ⟨(hsW.drew.keep hb1 |> hbes2.blk (by decide)), (r0.drew.keep hb1 |> hbes2.blk (by decide))⟩ ?_
  refine held_one ?_
  refine wpList_plain rfl fun K1 hK1 => ?_
  go_wp2_with (go_at_call 123; (with_reducible refine (f_plus _ _ _ _ _ (by omega) (by omega) (by omega) (by omega)).mono ?_); rintro e w3 ⟨rfl, hb3⟩)
  refine held_on ⟨(hbes2.blk (by decide) (hsW.drew.keep hb1)).keep hb3, (hbes2.blk (by decide) (r0.drew.keep hb1)).keep hb3⟩ ?_
  iterate 3 ((first | (refine held_take ?_ ?_ (fun w' hS => ?_) ?_; rotate_left 1; (focus rfl); (focus (first | (go_simp; done) | (go_simp; with_reducible rfl) | (obtain ⟨S1, S2⟩ := hS; have k0 := S1.cell 0; have k1 := S1.cell 1; have k2 := S1.cell 2; have k3 := S1.cell 3; have k4 := S1.cell 4; have k5 := S1.cell 5; have k6 := S1.cell 6; have k7 := S1.cell 7; have k8 := S1.cell 8; have k9 := S1.cell 9; have j0 := S2.cell 0; have j1 := S2.cell 1; have j2 := S2.cell 2; have j3 := S2.cell 3; simp at k0 k1 k2 k3 k4 k5 k6 k7 k8 k9 j0 j1 j2 j3; first | (go_simp; done) | (go_simp; with_reducible rfl))))) | (refine held_pass ?_ ?_; (focus rfl))); simp only [Act.put, List.setIfInBounds_toArray, List.set_cons_zero, List.set_cons_succ])
  refine held_one ?_
  refine wpList_plain rfl fun K1 hK1 => ?_
  have z1 : Blk w3 s #[.slice (some ⟨g, 0, none⟩) p.cells.length cp, .int .i64 (p.bottles), .int .i64 (p.inH), .int .i64 (p.inA), .int .i64 (p.vH), .int .i64 (p.vA), .int .i64 (p.lH), .int .i64 (p.lA), .int .i64 (p.pH), .int .i64 (p.pA)] 174 := (hbes2.blk (by decide) (hsW.drew.keep hb1)).keep hb3
  have z1c0 := z1.cell 0
  have z1f0 := z1.free 0
  have z1c1 := z1.cell 1
  have z1f1 := z1.free 1
  have z1c2 := z1.cell 2
  have z1f2 := z1.free 2
  have z1c3 := z1.cell 3
  have z1f3 := z1.free 3
  have z1c4 := z1.cell 4
  have z1f4 := z1.free 4
  have z1c5 := z1.cell 5
  have z1f5 := z1.free 5
  have z1c6 := z1.cell 6
  have z1f6 := z1.free 6
  have z1c7 := z1.cell 7
  have z1f7 := z1.free 7
  have z1c8 := z1.cell 8
  have z1f8 := z1.free 8
  have z1c9 := z1.cell 9
  have z1f9 := z1.free 9
  have z1l := z1.lt
  simp at z1c0 z1c1 z1c2 z1c3 z1c4 z1c5 z1c6 z1c7 z1c8 z1c9
  go_wp2
  (first | refine held_end ?_ | (refine onward_on ?_; refine held_nil ?_))
  go_wp2
  go_end0
  refine ⟨rfl, ⟨hB, ?_, ?_⟩, ?_⟩
  · exact ((z1.set 4 (.int .i64 (p.vH + S))).set 5 (.int .i64 (p.vA + (d.n - S)))).cast (by simp [plantCells, valveP, lessP, HAT.out, HSS.out])
  · have q := ((hm2.keep hb3).other z1 (by decide) (o := 4) (.int .i64 (p.vH + S))).other (z1.set 4 (.int .i64 (p.vH + S))) (by decide) (o := 5) (.int .i64 (p.vA + (d.n - S)))
    simpa [valveP, lessP, HAT.out] using q
  · have e0 := hk.size
    have e1 : W.heap.size ≤ w1.heap.size := hb1.size
    have e2 := hw2.size
    have q := ((((hk.mono hBw).drew).trans (hb1.mono (show B ≤ W.heap.size by omega))).trans hw2).trans (hb3.mono (by omega))
    exact (q.setCell hB _).setCell hB _

theorem f_purify_no1 {B s cp : Nat} {ad : Option Addr} {p : Plant} {w : World} (d : Deed) (h : Shop 25 174 B w s ad cp p) (hp : plantB p = true) (ha : argB p d = false) : Calls Try.prog 110 #[.pointer (some ⟨s, 0, none⟩), .agg #[.int .u8 d.kind, .int .i64 d.cell, .int .i64 d.to, .int .i64 d.n]] w fun e w' => e = .panicked [{ v := refusal 2, recovered := false }] ∧ Kept w w' := by
  have hn12 : p.cells.length ≤ 12 := (plantB_iff.1 hp).1
  have HA := Lib.hid ha
  obtain ⟨hB, hs, hm⟩ := h
  clear ha hp
  go_enter Try.func110, Try.ntmps110
  go_upto_region 1 with fail
  refine at_world (S := fun W => Blk W w.heap.size #[.int .u8 d.kind, .int .i64 d.cell, .int .i64 d.to, .int .i64 d.n] 65 ∧ Blk W s #[.slice ad p.cells.length cp, .int .i64 (p.bottles), .int .i64 (p.inH), .int .i64 (p.inA), .int .i64 (p.vH), .int .i64 (p.vA), .int .i64 (p.lH), .int .i64 (p.lA), .int .i64 (p.pH), .int .i64 (p.pA)] 174 ∧ Kept w W) ⟨by (exact blkc), hs.keep (by (exact kpt)), by (exact kpt)⟩ ?_
  rintro W ⟨r0, hsW, hk⟩
  have r0c0 := fun g : Later W => (r0.later g).cell 0
  have r0f0 := fun g : Later W => (r0.later g).free 0
  have r0c1 := fun g : Later W => (r0.later g).cell 1
  have r0f1 := fun g : Later W => (r0.later g).free 1
  have r0c2 := fun g : Later W => (r0.later g).cell 2
  have r0f2 := fun g : Later W => (r0.later g).free 2
  have r0c3 := fun g : Later W => (r0.later g).cell 3
  have r0f3 := fun g : Later W => (r0.later g).free 3
  have r0l := fun g : Later W => (r0.later g).lt
  simp at r0c0 r0c1 r0c2 r0c3
  have hsWc0 := fun g : Later W => (hsW.later g).cell 0
  have hsWf0 := fun g : Later W => (hsW.later g).free 0
  have hsWc1 := fun g : Later W => (hsW.later g).cell 1
  have hsWf1 := fun g : Later W => (hsW.later g).free 1
  have hsWc2 := fun g : Later W => (hsW.later g).cell 2
  have hsWf2 := fun g : Later W => (hsW.later g).free 2
  have hsWc3 := fun g : Later W => (hsW.later g).cell 3
  have hsWf3 := fun g : Later W => (hsW.later g).free 3
  have hsWc4 := fun g : Later W => (hsW.later g).cell 4
  have hsWf4 := fun g : Later W => (hsW.later g).free 4
  have hsWc5 := fun g : Later W => (hsW.later g).cell 5
  have hsWf5 := fun g : Later W => (hsW.later g).free 5
  have hsWc6 := fun g : Later W => (hsW.later g).cell 6
  have hsWf6 := fun g : Later W => (hsW.later g).free 6
  have hsWc7 := fun g : Later W => (hsW.later g).cell 7
  have hsWf7 := fun g : Later W => (hsW.later g).free 7
  have hsWc8 := fun g : Later W => (hsW.later g).cell 8
  have hsWf8 := fun g : Later W => (hsW.later g).free 8
  have hsWc9 := fun g : Later W => (hsW.later g).cell 9
  have hsWf9 := fun g : Later W => (hsW.later g).free 9
  have hsWl := fun g : Later W => (hsW.later g).lt
  simp at hsWc0 hsWc1 hsWc2 hsWc3 hsWc4 hsWc5 hsWc6 hsWc7 hsWc8 hsWc9
  refine later_dies [0, 1, 3, 4] 2 (some 6) (by kernel_rfl) (by kernel_rfl) (fun c a d v w h => by cases d <;> exact h) (makes_pair rfl rfl rfl) ?_
  simp only [List.filterMap_cons, List.filterMap_nil, List.getElem?_cons_zero, List.getElem?_cons_succ, List.map_cons, List.map_nil]
  repeat (refine wpSteps_quiet ?_; (first | go_big_quiet_skip | (go_big_quiet_want; go_big_quiet_op; first | go_big_quiet_on | (apply Exists.intro; refine ⟨fun g_ => ?_, ?_⟩; (focus (first | fail)); go_big_quiet_on))); refine wpQuiet_nil ?_)
  refine wpSteps_nil ?_
  refine ⟨DiesAt.of rfl rfl (fun w' hw' => ?_), fun _ oq hq ho v => ?_⟩
  · obtain ⟨gg, rfl⟩ := hw'
    simp only [Go.wp_at_succ, Go.wp_at_zero]
    go_simp
    (with_reducible refine (f_cell_no s ad cp p d _ (hsW.later gg) hn12 HA.out).mono ?_)
    rintro e w1 ⟨rfl, hb1⟩
    have hkg := Kept.drop hk gg.ok
    exact ⟨rfl, rfl, by (exact kpt)⟩
  · cases hq
    obtain rfl : _ = oq := Option.some.inj ho
    simp only [Act.put, List.setIfInBounds_toArray, List.set_cons_zero, List.set_cons_succ]
    refine DiesAt.of rfl rfl (fun w' hw' => ?_)
    obtain ⟨gg, rfl⟩ := hw'
    simp only [Go.wp_at_succ, Go.wp_at_zero]
    go_simp
    (with_reducible refine (f_cell_no s ad cp p d _ (hsW.later gg) hn12 HA.out).mono ?_)
    rintro e w1 ⟨rfl, hb1⟩
    have hkg := Kept.drop hk gg.ok
    exact ⟨rfl, rfl, by (exact kpt)⟩
theorem f_purify_no2 {B s cp : Nat} {ad : Option Addr} {p : Plant} {w : World} (d : Deed) (h : Shop 25 174 B w s ad cp p) (hp : plantB p = true) (ha : argB p d = true) (hl : amount (at_ p d) < d.n) : Calls Try.prog 110 #[.pointer (some ⟨s, 0, none⟩), .agg #[.int .u8 d.kind, .int .i64 d.cell, .int .i64 d.to, .int .i64 d.n]] w fun e w' => e = .panicked [{ v := refusal 6, recovered := false }] ∧ Kept w w' := by
  have hn12 : p.cells.length ≤ 12 := (plantB_iff.1 hp).1
  have hb := plantB_iff.1 hp
  have hi : d.cell.toNat < p.cells.length := by
    have h1 : rng [d.cell] 0 (p.cells.length - 1) = true := by unfold argB at ha; simp only [Bool.and_eq_true] at ha; exact ha.1
    have : 0 ≤ d.cell ∧ d.cell ≤ p.cells.length - 1 := by simpa [rng, inB] using h1
    omega
  have hn : 1 ≤ d.n ∧ d.n ≤ 10000000 := by
    have h1 : rng [d.n] 1 10000000 = true := by unfold argB at ha; simp only [Bool.and_eq_true] at ha; exact ha.2
    simpa [rng, inB] using h1
  have hcv : cellB p.cells[d.cell.toNat] = true := hb.2.2.2.2.2.2.1 _ (List.getElem_mem hi)
  have hat : at_ p d = p.cells[d.cell.toNat] := cellAt_get hi
  have HA := Lib.hid ha
  obtain ⟨hB, hs, hm⟩ := h
  have hBw : B ≤ w.heap.size := by have := hs.lt; omega
  obtain ⟨g, _, rfl, hBg, hbg, _⟩ := hm.at hi
  have hgl := hbg.lt
  clear hbg
  obtain ⟨x, hx⟩ : ∃ x, x = p.cells[d.cell.toNat] := ⟨_, rfl⟩
  have HX := Lib.hid (show p.cells[d.cell.toNat]? = some x by rw [hx]; simp [hi])
  rw [← hx] at hcv hat
  have hxb := cellB_iff.1 hcv
  have HAT := Lib.hid hat
  have HXX := Lib.hid hx
  clear ha hat hx
  have hlt : x.helium + x.air < d.n := by rw [HAT.out] at hl; exact hl
  have HOK := Lib.hid (okC_of hcv)
  clear hp hb hl
  go_enter Try.func110, Try.ntmps110
  go_upto_region 1 with fail
  refine at_world (S := fun W => Blk W w.heap.size #[.int .u8 d.kind, .int .i64 d.cell, .int .i64 d.to, .int .i64 d.n] 65 ∧ Blk W s #[.slice (some ⟨g, 0, none⟩) p.cells.length cp, .int .i64 (p.bottles), .int .i64 (p.inH), .int .i64 (p.inA), .int .i64 (p.vH), .int .i64 (p.vA), .int .i64 (p.lH), .int .i64 (p.lA), .int .i64 (p.pH), .int .i64 (p.pA)] 174 ∧ Mine 25 B W (.slice (some ⟨g, 0, none⟩) p.cells.length cp) p.cells ∧ Kept w W) ⟨by (exact blkc), hs.keep (by (exact kpt)), hm.keep (by (exact kpt)), by (exact kpt)⟩ ?_
  rintro W ⟨r0, hsW, hmW, hk⟩
  have r0c0 := fun g : Later W => (r0.later g).cell 0
  have r0f0 := fun g : Later W => (r0.later g).free 0
  have r0c1 := fun g : Later W => (r0.later g).cell 1
  have r0f1 := fun g : Later W => (r0.later g).free 1
  have r0c2 := fun g : Later W => (r0.later g).cell 2
  have r0f2 := fun g : Later W => (r0.later g).free 2
  have r0c3 := fun g : Later W => (r0.later g).cell 3
  have r0f3 := fun g : Later W => (r0.later g).free 3
  have r0l := fun g : Later W => (r0.later g).lt
  simp at r0c0 r0c1 r0c2 r0c3
  have hsWc0 := fun g : Later W => (hsW.later g).cell 0
  have hsWf0 := fun g : Later W => (hsW.later g).free 0
  have hsWc1 := fun g : Later W => (hsW.later g).cell 1
  have hsWf1 := fun g : Later W => (hsW.later g).free 1
  have hsWc2 := fun g : Later W => (hsW.later g).cell 2
  have hsWf2 := fun g : Later W => (hsW.later g).free 2
  have hsWc3 := fun g : Later W => (hsW.later g).cell 3
  have hsWf3 := fun g : Later W => (hsW.later g).free 3
  have hsWc4 := fun g : Later W => (hsW.later g).cell 4
  have hsWf4 := fun g : Later W => (hsW.later g).free 4
  have hsWc5 := fun g : Later W => (hsW.later g).cell 5
  have hsWf5 := fun g : Later W => (hsW.later g).free 5
  have hsWc6 := fun g : Later W => (hsW.later g).cell 6
  have hsWf6 := fun g : Later W => (hsW.later g).free 6
  have hsWc7 := fun g : Later W => (hsW.later g).cell 7
  have hsWf7 := fun g : Later W => (hsW.later g).free 7
  have hsWc8 := fun g : Later W => (hsW.later g).cell 8
  have hsWf8 := fun g : Later W => (hsW.later g).free 8
  have hsWc9 := fun g : Later W => (hsW.later g).cell 9
  have hsWf9 := fun g : Later W => (hsW.later g).free 9
  have hsWl := fun g : Later W => (hsW.later g).lt
  simp at hsWc0 hsWc1 hsWc2 hsWc3 hsWc4 hsWc5 hsWc6 hsWc7 hsWc8 hsWc9
  refine later_dies [0, 1, 2, 3, 4] 5 (some 6) (by kernel_rfl) (by kernel_rfl) (fun c a d v w h => by cases d <;> exact h) (makes_pair rfl rfl rfl) ?_
  simp only [List.filterMap_cons, List.filterMap_nil, List.getElem?_cons_zero, List.getElem?_cons_succ, List.map_cons, List.map_nil]
  repeat (refine wpSteps_quiet ?_; (first | go_big_quiet_skip | (go_big_quiet_want; go_big_quiet_op; first | go_big_quiet_on | (apply Exists.intro; refine ⟨fun g_ => ?_, ?_⟩; (focus (first | (go_at_call 135; exact Later.call (f_cell_ok s g cp p d _ (hsW.later g_) hn12 HA.out)))); go_big_quiet_on))); refine wpQuiet_nil ?_)
  refine wpSteps_nil ?_
  refine ⟨DiesAt.of rfl rfl (fun w' hw' => ?_), fun _ oq hq ho v => ?_⟩
  · obtain ⟨gg, rfl⟩ := hw'
    simp only [Go.wp_at_succ, Go.wp_at_zero]
    go_simp
    (with_reducible refine (f_outX_none (hmW.keep gg.ok) HX.out HOK.out d.n hlt).mono ?_)
    rintro e w1 ⟨rfl, hb1⟩
    have hkg := Kept.drop hk gg.ok
    exact ⟨rfl, rfl, by (exact kpt)⟩
  · cases hq
    obtain rfl : _ = oq := Option.some.inj ho
    simp only [Act.put, List.setIfInBounds_toArray, List.set_cons_zero, List.set_cons_succ]
    refine DiesAt.of rfl rfl (fun w' hw' => ?_)
    obtain ⟨gg, rfl⟩ := hw'
    simp only [Go.wp_at_succ, Go.wp_at_zero]
    go_simp
    (with_reducible refine (f_outX_none (hmW.keep gg.ok) HX.out HOK.out d.n hlt).mono ?_)
    rintro e w1 ⟨rfl, hb1⟩
    have hkg := Kept.drop hk gg.ok
    exact ⟨rfl, rfl, by (exact kpt)⟩
theorem f_purify_ok {B s cp : Nat} {ad : Option Addr} {p : Plant} {w : World} (d : Deed) (h : Shop 25 174 B w s ad cp p) (hp : plantB p = true) (ha : argB p d = true) (hl : ¬ amount (at_ p d) < d.n) : Calls Try.prog 110 #[.pointer (some ⟨s, 0, none⟩), .agg #[.int .u8 d.kind, .int .i64 d.cell, .int .i64 d.to, .int .i64 d.n]] w fun e w' => e = .returned (.tuple #[]) ∧ Shop 25 174 B w' s ad cp (purifyP p d) ∧ Below B w w' := by
  have hn12 : p.cells.length ≤ 12 := (plantB_iff.1 hp).1
  have hb := plantB_iff.1 hp
  have hi : d.cell.toNat < p.cells.length := by
    have h1 : rng [d.cell] 0 (p.cells.length - 1) = true := by unfold argB at ha; simp only [Bool.and_eq_true] at ha; exact ha.1
    have : 0 ≤ d.cell ∧ d.cell ≤ p.cells.length - 1 := by simpa [rng, inB] using h1
    omega
  have hn : 1 ≤ d.n ∧ d.n ≤ 10000000 := by
    have h1 : rng [d.n] 1 10000000 = true := by unfold argB at ha; simp only [Bool.and_eq_true] at ha; exact ha.2
    simpa [rng, inB] using h1
  have hcv : cellB p.cells[d.cell.toNat] = true := hb.2.2.2.2.2.2.1 _ (List.getElem_mem hi)
  have hat : at_ p d = p.cells[d.cell.toNat] := cellAt_get hi
  have HA := Lib.hid ha
  obtain ⟨hB, hs, hm⟩ := h
  have hBw : B ≤ w.heap.size := by have := hs.lt; omega
  obtain ⟨g, _, rfl, hBg, hbg, _⟩ := hm.at hi
  have hgl := hbg.lt
  clear hbg
  obtain ⟨x, hx⟩ : ∃ x, x = p.cells[d.cell.toNat] := ⟨_, rfl⟩
  have HX := Lib.hid (show p.cells[d.cell.toNat]? = some x by rw [hx]; simp [hi])
  rw [← hx] at hcv hat
  have hxb := cellB_iff.1 hcv
  have HAT := Lib.hid hat
  have HXX := Lib.hid hx
  clear ha hat hx
  have hle : d.n ≤ x.helium + x.air := by rw [HAT.out] at hl; unfold amount at hl; omega
  have HOK := Lib.hid (okC_of hcv)
  obtain ⟨s0, s1, s2, s3⟩ := share_bd HOK.out (show 0 ≤ d.n by omega) hle
  obtain ⟨S, hS⟩ : ∃ S, S = shareH x d.n := ⟨_, rfl⟩
  have HSS := Lib.hid (show shareH x d.n = S from hS.symm)
  have HOUT := fun (W : World) (q : Mine 25 B W (.slice (some ⟨g, 0, none⟩) p.cells.length cp) p.cells) => f_outX q HX.out HOK.out d.n hn.1 hle
  rw [← hS] at s0 s1 s2 s3 HOUT
  obtain ⟨_, hb1, ⟨hb2, hb3⟩, ⟨hb4, hb5⟩, ⟨hb6, hb7⟩, ⟨hb8, hb9⟩, _⟩ := hb
  clear hS hl
  clear hp
  go_enter Try.func110, Try.ntmps110
  go_upto_region 1 with fail
  refine at_world (S := fun W => Blk W w.heap.size #[.int .u8 d.kind, .int .i64 d.cell, .int .i64 d.to, .int .i64 d.n] 65 ∧ Blk W s #[.slice (some ⟨g, 0, none⟩) p.cells.length cp, .int .i64 (p.bottles), .int .i64 (p.inH), .int .i64 (p.inA), .int .i64 (p.vH), .int .i64 (p.vA), .int .i64 (p.lH), .int .i64 (p.lA), .int .i64 (p.pH), .int .i64 (p.pA)] 174 ∧ Mine 25 B W (.slice (some ⟨g, 0, none⟩) p.cells.length cp) p.cells ∧ Kept w W) ⟨by (exact blkc), hs.keep (by (exact kpt)), hm.keep (by (exact kpt)), by (exact kpt)⟩ ?_
  rintro W ⟨r0, hsW, hmW, hk⟩
  have hdk0 : ∀ w', Blk w' w.heap.size #[.int .u8 d.kind, .int .i64 d.cell, .int .i64 d.to, .int .i64 d.n] 65 → w'.cell? ⟨w.heap.size, 0, none⟩ = _ := fun w' h => h.cell 0
  have hdk1 : ∀ w', Blk w' w.heap.size #[.int .u8 d.kind, .int .i64 d.cell, .int .i64 d.to, .int .i64 d.n] 65 → w'.cell? ⟨w.heap.size, 1, none⟩ = _ := fun w' h => h.cell 1
  have hdk2 : ∀ w', Blk w' w.heap.size #[.int .u8 d.kind, .int .i64 d.cell, .int .i64 d.to, .int .i64 d.n] 65 → w'.cell? ⟨w.heap.size, 2, none⟩ = _ := fun w' h => h.cell 2
  have hdk3 : ∀ w', Blk w' w.heap.size #[.int .u8 d.kind, .int .i64 d.cell, .int .i64 d.to, .int .i64 d.n] 65 → w'.cell? ⟨w.heap.size, 3, none⟩ = _ := fun w' h => h.cell 3
  have hdf0 : ∀ w', Blk w' w.heap.size #[.int .u8 d.kind, .int .i64 d.cell, .int .i64 d.to, .int .i64 d.n] 65 → w'.frozen? ⟨w.heap.size, 0, none⟩ = _ := fun w' h => h.free 0
  have hdf1 : ∀ w', Blk w' w.heap.size #[.int .u8 d.kind, .int .i64 d.cell, .int .i64 d.to, .int .i64 d.n] 65 → w'.frozen? ⟨w.heap.size, 1, none⟩ = _ := fun w' h => h.free 1
  have hdf2 : ∀ w', Blk w' w.heap.size #[.int .u8 d.kind, .int .i64 d.cell, .int .i64 d.to, .int .i64 d.n] 65 → w'.frozen? ⟨w.heap.size, 2, none⟩ = _ := fun w' h => h.free 2
  have hdf3 : ∀ w', Blk w' w.heap.size #[.int .u8 d.kind, .int .i64 d.cell, .int .i64 d.to, .int .i64 d.n] 65 → w'.frozen? ⟨w.heap.size, 3, none⟩ = _ := fun w' h => h.free 3
  simp at hdk0 hdk1 hdk2 hdk3
  go_cut [4] (fun s4 wx => ∃ gx, s4 = .pointer (some ⟨gx, 0, none⟩) ∧ Blk wx gx #[.int .i64 S, .int .i64 (d.n - S)] 61 ∧ Blk wx s #[.slice (some ⟨g, 0, none⟩) p.cells.length cp, .int .i64 (p.bottles), .int .i64 (p.inH), .int .i64 (p.inA), .int .i64 (p.vH), .int .i64 (p.vA), .int .i64 (p.lH), .int .i64 (p.lA), .int .i64 (p.pH), .int .i64 (p.pA)] 174 ∧ Blk wx w.heap.size #[.int .u8 d.kind, .int .i64 d.cell, .int .i64 d.to, .int .i64 d.n] 65 ∧ Mine 25 B wx (.slice (some ⟨g, 0, none⟩) p.cells.length cp) (p.cells.set d.cell.toNat (less x d.n)) ∧ Below B w wx ∧ w.heap.size ≤ wx.heap.size ∧ w.heap.size < gx)
  case first =>
    go_region_held3 (fun w' => Blk w' w.heap.size #[.int .u8 d.kind, .int .i64 d.cell, .int .i64 d.to, .int .i64 d.n] 65) (((repeat (first | with_reducible assumption | with_reducible refine Blk.drew ?_ | with_reducible refine Blk.alloc ?_ _ | ((with_reducible refine Blk.other ?_ ?_ _); rotate_left 1; (focus (have e0 := r0.lt; have e2 := Kept.size hb1; have e3 := Below.size hw2; simp at e2 e3; first | (simp; omega) | (simp at *; omega)))) | (with_reducible refine Besides.blk hbes2 (by decide) ?_) | with_reducible refine Blk.keep ?_ (by with_reducible assumption))); done)) (first | (go_at_call 135; (with_reducible refine (f_cell_ok s g cp p d _ (hs.keep (by (exact kpt))) hn12 HA.out).mono ?_); rintro e w1 ⟨rfl, hb1⟩; have hbA : Below B W w1 := (by first | exact ((Below.refl B W).drew).trans (hb1.mono (by simp; have e0 := hk.size; omega)) | exact (((Below.refl B W).alloc (by have e0 := hk.size; omega) _).drew).trans (hb1.mono (by simp; have e0 := hk.size; omega))); (try (refine Blk.thru (b := W.heap.size) (arr := ?_) (t := ?_) ?_ hb1 ?_; rotate_left 2; (focus ((repeat with_reducible refine Blk.drew ?_); exact Blk.new' (by first | rfl | (simp; done)))); intro x1; have x1c0 := x1.cell 0; have x1f0 := x1.free 0; have x1c1 := x1.cell 1; have x1f1 := x1.free 1; have x1l := x1.lt; simp at x1c0 x1c1))) | (go_at_call 136; (with_reducible refine (HOUT _ ?_).mono ?_); (focus (repeat (first | with_reducible assumption | with_reducible refine Mine.drew ?_ | with_reducible refine Mine.alloc ?_ _ | with_reducible refine Mine.keep ?_ (by with_reducible assumption)))); rintro e w2 ⟨rfl, hm2, hw2, hbes2⟩; have hbB : Below B W w2 := (by first | exact hbA.trans hw2 | exact (hbA.alloc (by have e0 := hk.size; have e1 := hbA.size; omega) _).trans hw2); have hsB : Blk w2 s #[.slice (some ⟨g, 0, none⟩) p.cells.length cp, .int .i64 (p.bottles), .int .i64 (p.inH), .int .i64 (p.inA), .int .i64 (p.vH), .int .i64 (p.vA), .int .i64 (p.lH), .int .i64 (p.lA), .int .i64 (p.pH), .int .i64 (p.pA)] 174 := (by have hsW1 := hsW; (repeat (first | with_reducible assumption | with_reducible refine Blk.drew ?_ | with_reducible refine Blk.alloc ?_ _ | (with_reducible refine Besides.blk hbes2 (by decide) ?_) | with_reducible refine Blk.keep ?_ (by with_reducible assumption)))); have r0B : Blk w2 w.heap.size #[.int .u8 d.kind, .int .i64 d.cell, .int .i64 d.to, .int .i64 d.n] 65 := (by (repeat (first | with_reducible assumption | with_reducible refine Blk.drew ?_ | with_reducible refine Blk.alloc ?_ _ | (with_reducible refine Besides.blk hbes2 (by decide) ?_) | with_reducible refine Blk.keep ?_ (by with_reducible assumption)))); have hzB := hbB.size; (first | (refine Besides.thru x1 hbes2 (by decide) ?_; intro x2; have x2c0 := x2.cell 0; have x2f0 := x2.free 0; have x2c1 := x2.cell 1; have x2f1 := x2.free 1; have x2l := x2.lt; simp at x2c0 x2c1) | (refine Besides.thru (b := w1.heap.size) (arr := ?_) (t := ?_) ?_ hbes2 ?_ ?_; rotate_left 2; (focus ((repeat with_reducible refine Blk.drew ?_); exact Blk.new' (by first | rfl | (simp; done)))); (focus decide); intro x2; have x2c0 := x2.cell 0; have x2f0 := x2.free 0; have x2c1 := x2.cell 1; have x2f1 := x2.free 1; have x2l := x2.lt; simp at x2c0 x2c1) | skip)) | fail)
    all_goals (go_wp2_with fail; go_meet)
    all_goals
      have e9 := r0.lt
      have e8 := hs.lt
      have ez := hbA.size
      have ey := hw2.size
    · refine ⟨_, rfl, Blk.new, hsB.alloc _, r0B.alloc _, hm2.alloc _, ((hk.mono hBw).trans hbB).alloc (by have := hk.size; omega) _, by simp; have := hk.size; omega, by omega⟩
    all_goals
      try simp at ey
      refine ⟨_, rfl, (x2.set 0 _).set 1 _, (hsB.other (by simp; omega) _).other (by simp; omega) _, (r0B.other (by simp; omega) _).other (by simp; omega) _, (hm2.other x2 (by decide) _).other (x2.set 0 _) (by decide) _, (((hk.mono hBw).trans hbB).setCell (by simp; omega) _).setCell (by simp; omega) _, by simp [World.setCell]; omega, by omega⟩
  case rest =>
    clear hk r0 hsW hmW hdk0 hdf0 hdk1 hdf1 hdk2 hdf2 hdk3 hdf3
    obtain ⟨gx, rfl, x0, hsW, r0, hmW, hbW, hzW, hgx⟩ := hcut
    have x0c0 := x0.cell 0
    have x0f0 := x0.free 0
    have x0c1 := x0.cell 1
    have x0f1 := x0.free 1
    have x0l := x0.lt
    simp at x0c0 x0c1
    go_upto_region 3 with fail
    clear x0c0 x0f0 x0c1 x0f1 x0l
    refine at_world (S := fun X => Blk X gx #[.int .i64 S, .int .i64 (d.n - S)] 61 ∧ Blk X s #[.slice (some ⟨g, 0, none⟩) p.cells.length cp, .int .i64 (p.bottles), .int .i64 (p.inH), .int .i64 (p.inA), .int .i64 (p.vH), .int .i64 (p.vA), .int .i64 (p.lH), .int .i64 (p.lA), .int .i64 (p.pH), .int .i64 (p.pA)] 174 ∧ Blk X w.heap.size #[.int .u8 d.kind, .int .i64 d.cell, .int .i64 d.to, .int .i64 d.n] 65 ∧ Mine 25 B X (.slice (some ⟨g, 0, none⟩) p.cells.length cp) (p.cells.set d.cell.toNat (less x d.n)) ∧ Below B w X ∧ w.heap.size ≤ X.heap.size) ⟨x0, hsW, r0, hmW, hbW, hzW⟩ ?_
    rintro X ⟨x0, hsX, r0, hmX, hbX, hzX⟩
    have x0c0 := fun g : Later X => (x0.later g).cell 0
    have x0f0 := fun g : Later X => (x0.later g).free 0
    have x0c1 := fun g : Later X => (x0.later g).cell 1
    have x0f1 := fun g : Later X => (x0.later g).free 1
    have x0l := fun g : Later X => (x0.later g).lt
    simp at x0c0 x0c1
    have r0c0 := fun g : Later X => (r0.later g).cell 0
    have r0f0 := fun g : Later X => (r0.later g).free 0
    have r0c1 := fun g : Later X => (r0.later g).cell 1
    have r0f1 := fun g : Later X => (r0.later g).free 1
    have r0c2 := fun g : Later X => (r0.later g).cell 2
    have r0f2 := fun g : Later X => (r0.later g).free 2
    have r0c3 := fun g : Later X => (r0.later g).cell 3
    have r0f3 := fun g : Later X => (r0.later g).free 3
    have r0l := fun g : Later X => (r0.later g).lt
    simp at r0c0 r0c1 r0c2 r0c3
    have hsXc0 := fun g : Later X => (hsX.later g).cell 0
    have hsXf0 := fun g : Later X => (hsX.later g).free 0
    have hsXc1 := fun g : Later X => (hsX.later g).cell 1
    have hsXf1 := fun g : Later X => (hsX.later g).free 1
    have hsXc2 := fun g : Later X => (hsX.later g).cell 2
    have hsXf2 := fun g : Later X => (hsX.later g).free 2
    have hsXc3 := fun g : Later X => (hsX.later g).cell 3
    have hsXf3 := fun g : Later X => (hsX.later g).free 3
    have hsXc4 := fun g : Later X => (hsX.later g).cell 4
    have hsXf4 := fun g : Later X => (hsX.later g).free 4
    have hsXc5 := fun g : Later X => (hsX.later g).cell 5
    have hsXf5 := fun g : Later X => (hsX.later g).free 5
    have hsXc6 := fun g : Later X => (hsX.later g).cell 6
    have hsXf6 := fun g : Later X => (hsX.later g).free 6
    have hsXc7 := fun g : Later X => (hsX.later g).cell 7
    have hsXf7 := fun g : Later X => (hsX.later g).free 7
    have hsXc8 := fun g : Later X => (hsX.later g).cell 8
    have hsXf8 := fun g : Later X => (hsX.later g).free 8
    have hsXc9 := fun g : Later X => (hsX.later g).cell 9
    have hsXf9 := fun g : Later X => (hsX.later g).free 9
    have hsXl := fun g : Later X => (hsX.later g).lt
    simp at hsXc0 hsXc1 hsXc2 hsXc3 hsXc4 hsXc5 hsXc6 hsXc7 hsXc8 hsXc9
    have L0 : 0 ≤ S / 50 ∧ S / 50 ≤ S := by omega
    refine Later.tail 13 (by kernel_rfl) (by kernel_rfl) ?_
    simp only [List.take_succ_cons, List.take_zero, List.drop_succ_cons, List.drop_zero]
    repeat (first | go_big_quiet_skip | (go_big_quiet_want; go_big_quiet_op; first | go_big_quiet_on | (apply Exists.intro; refine ⟨fun g_ => ?_, ?_⟩; (focus (first | fail)); go_big_quiet_on)))
    refine wpQuiet_nil ?_
    intro gh
    refine wpList_plain rfl fun K1 hK1 => ?_
    have q0 := r0.later gh
    have q1 := hsX.later gh
    have q2 := x0.later gh
    clear x0c0 x0f0 x0c1 x0f1 x0l r0c0 r0f0 r0c1 r0f1 r0c2 r0f2 r0c3 r0f3 r0l hsXc0 hsXf0 hsXc1 hsXf1 hsXc2 hsXf2 hsXc3 hsXf3 hsXc4 hsXf4 hsXc5 hsXf5 hsXc6 hsXf6 hsXc7 hsXf7 hsXc8 hsXf8 hsXc9 hsXf9 hsXl
    have q1c0 := q1.cell 0
    have q1f0 := q1.free 0
    have q1c1 := q1.cell 1
    have q1f1 := q1.free 1
    have q1c2 := q1.cell 2
    have q1f2 := q1.free 2
    have q1c3 := q1.cell 3
    have q1f3 := q1.free 3
    have q1c4 := q1.cell 4
    have q1f4 := q1.free 4
    have q1c5 := q1.cell 5
    have q1f5 := q1.free 5
    have q1c6 := q1.cell 6
    have q1f6 := q1.free 6
    have q1c7 := q1.cell 7
    have q1f7 := q1.free 7
    have q1c8 := q1.cell 8
    have q1f8 := q1.free 8
    have q1c9 := q1.cell 9
    have q1f9 := q1.free 9
    have q1l := q1.lt
    simp at q1c0 q1c1 q1c2 q1c3 q1c4 q1c5 q1c6 q1c7 q1c8 q1c9
    go_wp2
    refine at_world (S := fun Y => Blk Y gx #[.int .i64 S, .int .i64 (d.n - S)] 61 ∧ Blk Y s #[.slice (some ⟨g, 0, none⟩) p.cells.length cp, .int .i64 (p.bottles + (S - S / 50)), .int .i64 (p.inH), .int .i64 (p.inA), .int .i64 (p.vH), .int .i64 (p.vA), .int .i64 (p.lH), .int .i64 (p.lA), .int .i64 (p.pH), .int .i64 (p.pA)] 174 ∧ Blk Y w.heap.size #[.int .u8 d.kind, .int .i64 d.cell, .int .i64 d.to, .int .i64 d.n] 65 ∧ Mine 25 B Y (.slice (some ⟨g, 0, none⟩) p.cells.length cp) (p.cells.set d.cell.toNat (less x d.n)) ∧ Below B w Y ∧ w.heap.size ≤ Y.heap.size) ⟨q2.other (by simp; have := hs.lt; omega) _, q1.set 1 _, q0.other (by simp; have := hs.lt; omega) _, (hmX.keep gh.ok).other q1 (by decide) _, (hbX.trans (gh.ok.mono (by omega))).setCell hB _, Nat.le_trans hzX (Nat.le_trans gh.ok.size (by simp))⟩ ?_
    rintro Y ⟨x0, hsY, r0, hmY, hbY, hzY⟩
    clear q1c0 q1f0 q1c1 q1f1 q1c2 q1f2 q1c3 q1f3 q1c4 q1f4 q1c5 q1f5 q1c6 q1f6 q1c7 q1f7 q1c8 q1f8 q1c9 q1f9 q1l q0 q1 q2
    have x0c0 := fun g : Later Y => (x0.later g).cell 0
    have x0f0 := fun g : Later Y => (x0.later g).free 0
    have x0c1 := fun g : Later Y => (x0.later g).cell 1
    have x0f1 := fun g : Later Y => (x0.later g).free 1
    have x0l := fun g : Later Y => (x0.later g).lt
    simp at x0c0 x0c1
    have r0c0 := fun g : Later Y => (r0.later g).cell 0
    have r0f0 := fun g : Later Y => (r0.later g).free 0
    have r0c1 := fun g : Later Y => (r0.later g).cell 1
    have r0f1 := fun g : Later Y => (r0.later g).free 1
    have r0c2 := fun g : Later Y => (r0.later g).cell 2
    have r0f2 := fun g : Later Y => (r0.later g).free 2
    have r0c3 := fun g : Later Y => (r0.later g).cell 3
    have r0f3 := fun g : Later Y => (r0.later g).free 3
    have r0l := fun g : Later Y => (r0.later g).lt
    simp at r0c0 r0c1 r0c2 r0c3
    have hsYc0 := fun g : Later Y => (hsY.later g).cell 0
    have hsYf0 := fun g : Later Y => (hsY.later g).free 0
    have hsYc1 := fun g : Later Y => (hsY.later g).cell 1
    have hsYf1 := fun g : Later Y => (hsY.later g).free 1
    have hsYc2 := fun g : Later Y => (hsY.later g).cell 2
    have hsYf2 := fun g : Later Y => (hsY.later g).free 2
    have hsYc3 := fun g : Later Y => (hsY.later g).cell 3
    have hsYf3 := fun g : Later Y => (hsY.later g).free 3
    have hsYc4 := fun g : Later Y => (hsY.later g).cell 4
    have hsYf4 := fun g : Later Y => (hsY.later g).free 4
    have hsYc5 := fun g : Later Y => (hsY.later g).cell 5
    have hsYf5 := fun g : Later Y => (hsY.later g).free 5
    have hsYc6 := fun g : Later Y => (hsY.later g).cell 6
    have hsYf6 := fun g : Later Y => (hsY.later g).free 6
    have hsYc7 := fun g : Later Y => (hsY.later g).cell 7
    have hsYf7 := fun g : Later Y => (hsY.later g).free 7
    have hsYc8 := fun g : Later Y => (hsY.later g).cell 8
    have hsYf8 := fun g : Later Y => (hsY.later g).free 8
    have hsYc9 := fun g : Later Y => (hsY.later g).cell 9
    have hsYf9 := fun g : Later Y => (hsY.later g).free 9
    have hsYl := fun g : Later Y => (hsY.later g).lt
    simp at hsYc0 hsYc1 hsYc2 hsYc3 hsYc4 hsYc5 hsYc6 hsYc7 hsYc8 hsYc9
    refine Later.tail 14 (by kernel_rfl) (by kernel_rfl) ?_
    simp only [List.take_succ_cons, List.take_zero, List.drop_succ_cons, List.drop_zero]
    repeat (first | go_big_quiet_skip | (go_big_quiet_want; go_big_quiet_op; first | go_big_quiet_on | (apply Exists.intro; refine ⟨fun g_ => ?_, ?_⟩; (focus (first | (go_at_call 123; exact Later.call (f_plus _ _ _ _ _ (by omega) (by omega) (by omega) (by omega))))); go_big_quiet_on)))
    refine wpQuiet_nil ?_
    intro gi
    refine wpList_plain rfl fun K1 hK1 => ?_
    have q1 := hsY.later gi
    clear x0c0 x0f0 x0c1 x0f1 x0l r0c0 r0f0 r0c1 r0f1 r0c2 r0f2 r0c3 r0f3 r0l hsYc0 hsYf0 hsYc1 hsYf1 hsYc2 hsYf2 hsYc3 hsYf3 hsYc4 hsYf4 hsYc5 hsYf5 hsYc6 hsYf6 hsYc7 hsYf7 hsYc8 hsYf8 hsYc9 hsYf9 hsYl
    have q1c0 := q1.cell 0
    have q1f0 := q1.free 0
    have q1c1 := q1.cell 1
    have q1f1 := q1.free 1
    have q1c2 := q1.cell 2
    have q1f2 := q1.free 2
    have q1c3 := q1.cell 3
    have q1f3 := q1.free 3
    have q1c4 := q1.cell 4
    have q1f4 := q1.free 4
    have q1c5 := q1.cell 5
    have q1f5 := q1.free 5
    have q1c6 := q1.cell 6
    have q1f6 := q1.free 6
    have q1c7 := q1.cell 7
    have q1f7 := q1.free 7
    have q1c8 := q1.cell 8
    have q1f8 := q1.free 8
    have q1c9 := q1.cell 9
    have q1f9 := q1.free 9
    have q1l := q1.lt
    simp at q1c0 q1c1 q1c2 q1c3 q1c4 q1c5 q1c6 q1c7 q1c8 q1c9
    go_wp2
    go_end0
    refine ⟨rfl, ⟨hB, ?_, ?_⟩, ?_⟩
    · exact ((q1.set 8 (.int .i64 (p.pH + S / 50))).set 9 (.int .i64 (p.pA + (d.n - S)))).cast (by simp [plantCells, purifyP, lessP, HAT.out, HSS.out])
    · have q := ((hmY.keep gi.ok).other q1 (by decide) (o := 8) (.int .i64 (p.pH + S / 50))).other (q1.set 8 (.int .i64 (p.pH + S / 50))) (by decide) (o := 9) (.int .i64 (p.pA + (d.n - S)))
      simpa [purifyP, lessP, HAT.out] using q
    · exact ((hbY.trans (gi.ok.mono (by omega))).setCell hB _).setCell hB _

end Go.Proofs.Ytemafanncejeiaa
