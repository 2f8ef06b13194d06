/-
  Shares and ticks in the reference.
-/
import Derived.Test.YtemafanncejeiaaGasDC
import Derived.Test.YtemafanncejeiaaGasDK
namespace Go.Proofs.Ytemafanncejeiaa
open Go.RowKit Bal Bal.Trim Bal.Gas
set_option linter.unusedVariables false
set_option linter.unusedSimpArgs false
set_option maxHeartbeats 8000000
set_option maxRecDepth 100000

theorem r_share (x : Cell) (n : Int) (w : World) (hv : cellB x = true) (h0 : 1 ≤ n) (h1 : n ≤ x.helium + x.air) :
    Calls Try.prog 138 #[.agg #[.int .i64 x.room, .int .i64 x.helium, .int .i64 x.air, .int .i64 x.wlo, .int .i64 x.whi, .int .i64 x.leak, .int .i64 x.owed], .int .i64 n] w fun e w' => e = .returned (.agg #[.int .i64 (shareH x n), .int .i64 (n - shareH x n)]) ∧ Kept w w' := by
  obtain ⟨s0, s1, s2, s3⟩ := share_bd (okC_of hv) (show 0 ≤ n by omega) h1
  obtain ⟨u1, u2⟩ := okC_of hv
  have hw : amount x = x.helium + x.air := rfl
  have m1 : 0 ≤ n * x.helium := Int.mul_nonneg (by omega) u1.1
  have m2 := (mul_bd (A := 20000000) (B := 10000000) (x := n) (y := x.helium) (by omega) (by omega) (by omega) (by omega)).2
  have hw2 := i64_inx (n := n * x.helium) (by omega)
  obtain ⟨AM, hAM⟩ : ∃ y, y = amount x := ⟨_, rfl⟩
  have hd : 0 < AM := by omega
  have HAM := Lib.hid (show amount x = AM from hAM.symm)
  obtain ⟨S, hS⟩ : ∃ S, S = shareH x n := ⟨_, rfl⟩
  have HS := Lib.hid (show n * x.helium / AM = S by rw [hS, hAM]; rfl)
  rw [← hS] at s0 s1 s2 s3 ⊢
  have hnz : (AM == 0) = false := by simp; omega
  have hnz2 : ¬ AM = 0 := by omega
  have HAC := fun (W : World) => r_amount x W hv
  rw [← hAM] at HAC
  clear hS hAM hw hv
  go_enter Try.func138, Try.ntmps138
  go_upto_region 1 with fail
  refine at_world (S := fun W => Blk W w.heap.size #[.int .i64 x.room, .int .i64 x.helium, .int .i64 x.air, .int .i64 x.wlo, .int .i64 x.whi, .int .i64 x.leak, .int .i64 x.owed] 25 ∧ Blk W (w.heap.size + 1) #[.int .i64 0, .int .i64 0] 61 ∧ Kept w W) ⟨by (exact blkc), by (exact blkc), by (exact kpt)⟩ ?_
  rintro W ⟨r0, r1, hk⟩
  have r0c0 := fun g : Later W => (r0.later g).cell 0
  have r0f0 := fun g : Later W => (r0.later g).free 0
  have r0c1 := fun g : Later W => (r0.later g).cell 1
  have r0f1 := fun g : Later W => (r0.later g).free 1
  have r0c2 := fun g : Later W => (r0.later g).cell 2
  have r0f2 := fun g : Later W => (r0.later g).free 2
  have r0c3 := fun g : Later W => (r0.later g).cell 3
  have r0f3 := fun g : Later W => (r0.later g).free 3
  have r0c4 := fun g : Later W => (r0.later g).cell 4
  have r0f4 := fun g : Later W => (r0.later g).free 4
  have r0c5 := fun g : Later W => (r0.later g).cell 5
  have r0f5 := fun g : Later W => (r0.later g).free 5
  have r0c6 := fun g : Later W => (r0.later g).cell 6
  have r0f6 := fun g : Later W => (r0.later g).free 6
  have r0l := fun g : Later W => (r0.later g).lt
  simp at r0c0 r0c1 r0c2 r0c3 r0c4 r0c5 r0c6
  refine Later.region (by kernel_rfl) (by kernel_rfl) ?_
  repeat (first | go_big_quiet_skip | (go_big_quiet_want; go_big_quiet_op; first | go_big_quiet_on | (apply Exists.intro; refine ⟨fun g => ?_, ?_⟩; (focus (first | (go_at_call 85; exact Later.call (HAC _)))); go_big_quiet_on)))
  refine wpQuiet_nil ?_
  intro gg
  rw [HS.out]
  have q1 := r1.later gg
  have hkg := Kept.drop hk gg.ok
  clear r0c0 r0f0 r0c1 r0f1 r0c2 r0f2 r0c3 r0f3 r0c4 r0f4 r0c5 r0f5 r0c6 r0f6 r0l
  have q1c0 := q1.cell 0
  have q1f0 := q1.free 0
  have q1c1 := q1.cell 1
  have q1f1 := q1.free 1
  have q1l := q1.lt
  simp at q1c0 q1c1
  go_wp2
  exact bodyPost_ret (v := .agg #[.int .i64 S, .int .i64 (n - S)]) (by simp [results, Try.results138, go_sem, q1c0, q1c1, q1f0, q1f1]) rfl ⟨rfl, by (exact kpt)⟩

theorem r_taken {B g n0 cp : Nat} {p : Plant} {w : World} (h : Mine 25 B w (.slice (some ⟨g, 0, none⟩) n0 cp) p.cells) (i : Int) {x : Cell} (hi : 0 ≤ i) (hx : p.cells[i.toNat]? = some x) (hv : cellB x = true) (hl : p.cells.length ≤ 12) (n : Int) (h0 : 1 ≤ n) (h1 : n ≤ x.helium + x.air) :
    Calls Try.prog 118 #[.agg #[.slice (some ⟨g, 0, none⟩) n0 cp, .int .i64 p.bottles, .int .i64 p.inH, .int .i64 p.inA, .int .i64 p.vH, .int .i64 p.vA, .int .i64 p.lH, .int .i64 p.lA, .int .i64 p.pH, .int .i64 p.pA], .int .i64 i, .int .i64 n] w fun e w' => e = .returned (.agg #[.int .i64 (shareH x n), .int .i64 (n - shareH x n)]) ∧ Mine 25 B w' (.slice (some ⟨g, 0, none⟩) n0 cp) (p.cells.set i.toNat (less x n)) ∧ Below B w w' ∧ Besides 25 w w' := by
  obtain ⟨s0, s1, s2, s3⟩ := share_bd (okC_of hv) (show 0 ≤ n by omega) h1
  obtain ⟨u1, u2⟩ := okC_of hv
  have HSH := fun (W : World) => r_share x n W hv h0 h1
  obtain ⟨S, hS⟩ : ∃ S, S = shareH x n := ⟨_, rfl⟩
  have HL : Hid (less x n = { x with helium := x.helium - S, air := x.air - (n - S) }) := by rw [hS]; exact rfl
  rw [← hS] at s0 s1 s2 s3 HSH ⊢
  clear hS hv
  obtain ⟨hlt, hxe⟩ := List.getElem?_eq_some_iff.1 hx
  have HX := Lib.hid hx
  clear hx
  obtain rfl := h.row.1
  have hi2 : i < (p.cells.length : Int) := by omega
  obtain ⟨_, cur, hge, hBg, hcur, c0, c1, c2, c3, c4, c5, c6⟩ := h.at hlt
  cases hge
  rw [hxe] at c0 c1 c2 c3 c4 c5 c6
  have HXE := Lib.hid hxe
  have hgl := hcur.lt
  have hcl : p.cells.length ≤ cp ∧ cp ≤ maxLen := ⟨h.row.2.2.1, h.row.2.2.2.1⟩
  unfold maxLen at hcl
  clear hcur hxe
  go_enter Try.func118, Try.ntmps118
  go_upto_region 2 with (first | (go_at_call 138; (with_reducible refine (HSH _).mono ?_); rintro e w1 ⟨rfl, hb1⟩; refine Blk.thru (b := w.heap.size) (arr := ?_) (t := ?_) ?_ hb1 ?_; rotate_left 2; (focus (exact blk)); intro r0; have r0c0 := r0.cell 0; have r0f0 := r0.free 0; have r0c1 := r0.cell 1; have r0f1 := r0.free 1; have r0c2 := r0.cell 2; have r0f2 := r0.free 2; have r0c3 := r0.cell 3; have r0f3 := r0.free 3; have r0c4 := r0.cell 4; have r0f4 := r0.free 4; have r0c5 := r0.cell 5; have r0f5 := r0.free 5; have r0c6 := r0.cell 6; have r0f6 := r0.free 6; have r0c7 := r0.cell 7; have r0f7 := r0.free 7; have r0c8 := r0.cell 8; have r0f8 := r0.free 8; have r0c9 := r0.cell 9; have r0f9 := r0.free 9; have r0l := r0.lt; simp at r0c0 r0c1 r0c2 r0c3 r0c4 r0c5 r0c6 r0c7 r0c8 r0c9; refine Blk.thru (b := w.heap.size + 1) (arr := ?_) (t := ?_) ?_ hb1 ?_; rotate_left 2; (focus (exact blk)); intro r1; have r1c0 := r1.cell 0; have r1f0 := r1.free 0; have r1c1 := r1.cell 1; have r1f1 := r1.free 1; have r1l := r1.lt; simp at r1c0 r1c1; obtain ⟨hc1, hf1, hl1⟩ := bcell3 hb1))
  have hz1 := hl1 (w.heap.size + 1)
  have hszz : w.heap.size + 1 < w1.heap.size := by have := Below.size hb1; simp at this; omega
  refine at_world (S := fun W => Blk W w.heap.size #[.slice (some ⟨g, 0, none⟩) p.cells.length cp, .int .i64 p.bottles, .int .i64 p.inH, .int .i64 p.inA, .int .i64 p.vH, .int .i64 p.vA, .int .i64 p.lH, .int .i64 p.lA, .int .i64 p.pH, .int .i64 p.pA] 63 ∧ Blk W (w.heap.size + 1) #[.int .i64 0, .int .i64 0] 61 ∧ Blk W w1.heap.size #[.int .i64 S, .int .i64 (n - S)] 61 ∧ Mine 25 B W (.slice (some ⟨g, 0, none⟩) p.cells.length cp) p.cells ∧ Kept w W ∧ w.heap.size + 1 < w1.heap.size) ⟨by (exact blkc), by (exact blkc), by (exact blkc), h.keep (by (exact kpt)), by (exact kpt), hszz⟩ ?_
  obtain ⟨sb, hsbe⟩ : ∃ sb, sb = w1.heap.size := ⟨_, rfl⟩
  rw [← hsbe]
  clear hsbe r0c0 r0f0 r0c1 r0f1 r0c2 r0f2 r0c3 r0f3 r0c4 r0f4 r0c5 r0f5 r0c6 r0f6 r0c7 r0f7 r0c8 r0f8 r0c9 r0f9 r0l r1c0 r1f0 r1c1 r1f1 r1l r0 r1 hz1 hszz hc1 hf1 hl1 c0 c1 c2 c3 c4 c5 c6
  rintro W ⟨r0, r1, r2, hmW, hk, hsb⟩
  obtain ⟨_, cur, hge, _, hcur, _, c1, c2, _⟩ := hmW.at hlt
  cases hge
  rw [HXE.out] at c1 c2
  have y1 := fun q : Later W => q.some c1
  have y2 := fun q : Later W => q.some c2
  clear c1 c2
  have r0c0 := fun g : Later W => (r0.later g).cell 0
  have r0f0 := fun g : Later W => (r0.later g).free 0
  have r0c1 := fun g : Later W => (r0.later g).cell 1
  have r0f1 := fun g : Later W => (r0.later g).free 1
  have r0c2 := fun g : Later W => (r0.later g).cell 2
  have r0f2 := fun g : Later W => (r0.later g).free 2
  have r0c3 := fun g : Later W => (r0.later g).cell 3
  have r0f3 := fun g : Later W => (r0.later g).free 3
  have r0c4 := fun g : Later W => (r0.later g).cell 4
  have r0f4 := fun g : Later W => (r0.later g).free 4
  have r0c5 := fun g : Later W => (r0.later g).cell 5
  have r0f5 := fun g : Later W => (r0.later g).free 5
  have r0c6 := fun g : Later W => (r0.later g).cell 6
  have r0f6 := fun g : Later W => (r0.later g).free 6
  have r0c7 := fun g : Later W => (r0.later g).cell 7
  have r0f7 := fun g : Later W => (r0.later g).free 7
  have r0c8 := fun g : Later W => (r0.later g).cell 8
  have r0f8 := fun g : Later W => (r0.later g).free 8
  have r0c9 := fun g : Later W => (r0.later g).cell 9
  have r0f9 := fun g : Later W => (r0.later g).free 9
  have r0l := fun g : Later W => (r0.later g).lt
  simp at r0c0 r0c1 r0c2 r0c3 r0c4 r0c5 r0c6 r0c7 r0c8 r0c9
  have r2c0 := fun g : Later W => (r2.later g).cell 0
  have r2f0 := fun g : Later W => (r2.later g).free 0
  have r2c1 := fun g : Later W => (r2.later g).cell 1
  have r2f1 := fun g : Later W => (r2.later g).free 1
  have r2l := fun g : Later W => (r2.later g).lt
  simp at r2c0 r2c1
  refine Later.tail 11 (by kernel_rfl) (by kernel_rfl) ?_
  simp only [List.take_succ_cons, List.take_zero, List.drop_succ_cons, List.drop_zero]
  repeat (first | go_big_quiet_skip | (go_big_quiet_want; go_big_quiet_op; first | go_big_quiet_on | (apply Exists.intro; refine ⟨fun g_ => ?_, ?_⟩; (focus (first | fail)); go_big_quiet_on)))
  refine wpQuiet_nil ?_
  intro gg
  refine wpList_plain rfl fun K1 hK1 => ?_
  have z1 := y1 gg
  have z2 := y2 gg
  have hcg := hcur.later gg
  have zf := hcg.free (i.toNat * 7 + 1)
  clear r0c0 r0f0 r0c1 r0f1 r0c2 r0f2 r0c3 r0f3 r0c4 r0f4 r0c5 r0f5 r0c6 r0f6 r0c7 r0f7 r0c8 r0f8 r0c9 r0f9 r0l r2c0 r2f0 r2c1 r2f1 r2l y1 y2
  go_wp2
  refine at_world (S := fun X => Blk X w.heap.size #[.slice (some ⟨g, 0, none⟩) p.cells.length cp, .int .i64 p.bottles, .int .i64 p.inH, .int .i64 p.inA, .int .i64 p.vH, .int .i64 p.vA, .int .i64 p.lH, .int .i64 p.lA, .int .i64 p.pH, .int .i64 p.pA] 63 ∧ Blk X (w.heap.size + 1) #[.int .i64 0, .int .i64 0] 61 ∧ Blk X sb #[.int .i64 S, .int .i64 (n - S)] 61 ∧ Mine 25 B X (.slice (some ⟨g, 0, none⟩) p.cells.length cp) (p.cells.set i.toNat { x with helium := x.helium - S }) ∧ Below B w X ∧ Besides 25 w X ∧ w.heap.size ≤ X.heap.size) ⟨(r0.later gg).other (a := ⟨g, i.toNat * 7 + 1, none⟩) (by simp; omega) _, (r1.later gg).other (a := ⟨g, i.toNat * 7 + 1, none⟩) (by simp; omega) _, (r2.later gg).other (a := ⟨g, i.toNat * 7 + 1, none⟩) (by simp; omega) _, (hmW.keep gg.ok).put (i := i.toNat) (j := 1) (c := x) (u := .int .i64 (x.helium - S)) { x with helium := x.helium - S } HX.out (by decide) rfl, ((hk.mono (by omega)).trans (gg.ok.mono (by have := hk.size; omega))).setCell hBg _, (Besides.keep (Kept.drop hk gg.ok)).trans (Besides.put hcg _), by have := hk.size; have := gg.ok.size; simp [World.setCell]; omega⟩ ?_
  rintro X ⟨r0, r1, r2, hmX, hbX, hxX, hzX⟩
  clear z1 z2 zf
  obtain ⟨_, cuX, hge, _, hcX, _, _, c2, _⟩ := hmX.at (i := i.toNat) (by simpa using hlt)
  cases hge
  rw [List.getElem_set_self] at c2
  have y2 := fun q : Later X => q.some c2
  clear c2
  have r0c0 := fun g : Later X => (r0.later g).cell 0
  have r0f0 := fun g : Later X => (r0.later g).free 0
  have r0c1 := fun g : Later X => (r0.later g).cell 1
  have r0f1 := fun g : Later X => (r0.later g).free 1
  have r0c2 := fun g : Later X => (r0.later g).cell 2
  have r0f2 := fun g : Later X => (r0.later g).free 2
  have r0c3 := fun g : Later X => (r0.later g).cell 3
  have r0f3 := fun g : Later X => (r0.later g).free 3
  have r0c4 := fun g : Later X => (r0.later g).cell 4
  have r0f4 := fun g : Later X => (r0.later g).free 4
  have r0c5 := fun g : Later X => (r0.later g).cell 5
  have r0f5 := fun g : Later X => (r0.later g).free 5
  have r0c6 := fun g : Later X => (r0.later g).cell 6
  have r0f6 := fun g : Later X => (r0.later g).free 6
  have r0c7 := fun g : Later X => (r0.later g).cell 7
  have r0f7 := fun g : Later X => (r0.later g).free 7
  have r0c8 := fun g : Later X => (r0.later g).cell 8
  have r0f8 := fun g : Later X => (r0.later g).free 8
  have r0c9 := fun g : Later X => (r0.later g).cell 9
  have r0f9 := fun g : Later X => (r0.later g).free 9
  have r0l := fun g : Later X => (r0.later g).lt
  simp at r0c0 r0c1 r0c2 r0c3 r0c4 r0c5 r0c6 r0c7 r0c8 r0c9
  have r2c0 := fun g : Later X => (r2.later g).cell 0
  have r2f0 := fun g : Later X => (r2.later g).free 0
  have r2c1 := fun g : Later X => (r2.later g).cell 1
  have r2f1 := fun g : Later X => (r2.later g).free 1
  have r2l := fun g : Later X => (r2.later g).lt
  simp at r2c0 r2c1
  refine Later.tail 11 (by kernel_rfl) (by kernel_rfl) ?_
  simp only [List.take_succ_cons, List.take_zero, List.drop_succ_cons, List.drop_zero]
  repeat (first | go_big_quiet_skip | (go_big_quiet_want; go_big_quiet_op; first | go_big_quiet_on | (apply Exists.intro; refine ⟨fun g_ => ?_, ?_⟩; (focus (first | fail)); go_big_quiet_on)))
  refine wpQuiet_nil ?_
  intro gh
  refine wpList_plain rfl fun K1 hK1 => ?_
  have z2 := y2 gh
  have hch := hcX.later gh
  have zf := hch.free (i.toNat * 7 + 2)
  have q1 := r1.later gh
  have q2 := r2.later gh
  have hg1 : ¬ g = w.heap.size + 1 := by omega
  have hg1' : ¬ w.heap.size + 1 = g := by omega
  have hg2 : ¬ g = sb := by omega
  have hg2' : ¬ sb = g := by omega
  have hg3 : ¬ sb = w.heap.size + 1 := by omega
  have hg3' : ¬ w.heap.size + 1 = sb := by omega
  clear r0c0 r0f0 r0c1 r0f1 r0c2 r0f2 r0c3 r0f3 r0c4 r0f4 r0c5 r0f5 r0c6 r0f6 r0c7 r0f7 r0c8 r0f8 r0c9 r0f9 r0l r2c0 r2f0 r2c1 r2f1 r2l y2
  have q1c0 := q1.cell 0
  have q1f0 := q1.free 0
  have q1c1 := q1.cell 1
  have q1f1 := q1.free 1
  have q1l := q1.lt
  simp at q1c0 q1c1
  have q2c0 := q2.cell 0
  have q2f0 := q2.free 0
  have q2c1 := q2.cell 1
  have q2f1 := q2.free 1
  have q2l := q2.lt
  simp at q2c0 q2c1
  go_wp2
  refine bodyPost_ret (v := .agg #[.int .i64 S, .int .i64 (n - S)]) (by simp [results, Try.results118, go_sem, q1c0, q1c1, q1f0, q1f1, q2c0, q2c1, hg1, hg1', hg2, hg2', hg3, hg3']) rfl ⟨rfl, ?_, ?_, ?_⟩
  · have p2 := (hmX.keep gh.ok).put (i := i.toNat) (j := 2) (c := { x with helium := x.helium - S }) { x with helium := x.helium - S, air := x.air - (n - S) } (List.getElem?_set_self hlt) (by decide) (u := .int .i64 (x.air - (n - S))) rfl
    rw [List.set_set] at p2
    rw [HL.out]
    have b1 := q1.other (a := ⟨g, i.toNat * 7 + 2, none⟩) (by simp; omega) (.int .i64 (x.air - (n - S)))
    exact (p2.other b1 (by decide) _).other (b1.set 0 _) (by decide) _
  · exact (((hbX.trans (gh.ok.mono (by omega))).setCell hBg _).setCell (by simp; omega) _).setCell (by simp; omega) _
  · have p1 := hxX.trans ((Besides.keep (T := 25) gh.ok).trans (Besides.put hch (o := i.toNat * 7 + 2) (.int .i64 (x.air - (n - S)))))
    exact (p1.past (by omega) _).past (by omega) _

def mixedB (k : Int) : Bool := decide (k = 3) || decide (k = 4) || decide (k = 5)
theorem r_mixed (k : Int) (w : World) : Calls Try.prog 117 #[.int .u8 k] w fun e w' => e = .returned (.bool (mixedB k)) ∧ w = w' := by
  by_cases h3 : k = 3
  · subst h3
    go_enter Try.func117, Try.ntmps117
    go_wp2
    go_ret
    exact ⟨rfl, rfl⟩
  · by_cases h4 : k = 4
    · subst h4
      go_enter Try.func117, Try.ntmps117
      go_wp2
      go_ret
      exact ⟨rfl, rfl⟩
    · by_cases h5 : k = 5
      · subst h5
        go_enter Try.func117, Try.ntmps117
        go_wp2
        go_ret
        exact ⟨rfl, rfl⟩
      · have e3 : (k == 3) = false := by simp [h3]
        have e4 : (k == 4) = false := by simp [h4]
        have e5 : (k == 5) = false := by simp [h5]
        have d3 : decide (k = 3) = false := by simp [h3]
        have d4 : decide (k = 4) = false := by simp [h4]
        have d5 : decide (k = 5) = false := by simp [h5]
        have HE := Lib.hid (show mixedB k = false by simp [mixedB, h3, h4, h5])
        clear h3 h4 h5
        go_enter Try.func117, Try.ntmps117
        go_wp2
        go_ret
        exact ⟨ret_bool HE.out.symm, rfl⟩

end Go.Proofs.Ytemafanncejeiaa
