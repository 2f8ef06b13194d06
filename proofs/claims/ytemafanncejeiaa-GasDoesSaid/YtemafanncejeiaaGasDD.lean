/-
  Plants: a share taken out of a cell.
-/
import Derived.Test.YtemafanncejeiaaGasDA
import Derived.Deep.RegionHeld3
import Derived.Deep.DeepCutAuto
namespace Go.Proofs.Ytemafanncejeiaa
open Go.RowKit Bal Bal.Trim Bal.Gas
set_option linter.unusedVariables false
set_option linter.unusedSimpArgs false
set_option maxHeartbeats 4000000
set_option maxRecDepth 10000

theorem i64_inx {n : Int} (h : -9223372036854775808 ≤ n ∧ n ≤ 9223372036854775807) : IntKind.i64.wrap n = n := by rw [IntKind.wrap_i64]; have := w64_in n h; unfold wrap64 at this; omega
theorem f_out_none {B cp g : Nat} {xs : List Cell} {w : World} (h : Mine 25 B w (.slice (some ⟨g, 0, none⟩) xs.length cp) xs) {i : Nat} (hi : i < xs.length) (hc : okC xs[i]) (n : Int) (h1 : xs[i].helium + xs[i].air < n) :
    Calls Try.prog 136 #[.pointer (some ⟨g, i * 7, none⟩), .int .i64 n] w fun e w' => e = .panicked [{ v := refusal 6, recovered := false }] ∧ Kept w w' := by
  obtain ⟨u1, u2⟩ := hc
  obtain ⟨x, hx⟩ : ∃ x, x = xs[i] := ⟨_, rfl⟩
  rw [← hx] at h1 u1 u2
  have hlt : decide (n ≤ x.helium + x.air) = false := by simp; omega
  have hw := i64_inx (n := x.helium + x.air) (by omega)
  go_enter Try.func136, Try.ntmps136
  go_upto_region 1 with fail
  refine at_world (S := fun W => Kept w W) (by (exact kpt)) ?_
  rintro W hk
  obtain ⟨g', cur, he, hB, hb, c0, c1, c2, c3, c4, c5, c6⟩ := (h.keep hk).at hi
  cases he
  rw [← hx] at c0 c1 c2 c3 c4 c5 c6
  clear hx
  have x1 := fun q : Later W => q.some c1
  have x2 := fun q : Later W => q.some c2
  clear c0 c1 c2 c3 c4 c5 c6
  refine Later.tail 11 (by kernel_rfl) (by kernel_rfl) ?_
  simp only [List.take_succ_cons, List.take_zero, List.drop_succ_cons, List.drop_zero]
  repeat (first | go_big_quiet_skip | (go_big_quiet_want; go_big_quiet_op; first | go_big_quiet_on | (apply Exists.intro; refine ⟨fun g => ?_, ?_⟩; (focus (first | fail)); go_big_quiet_on)))
  refine wpQuiet_nil ?_
  intro gg
  refine wpList_plain rfl fun K1 hK1 => ?_
  have hkg := Kept.drop hk gg.ok
  go_wp2_with (go_at_call 113; (with_reducible refine (f_need_no _ _).mono ?_); rintro e w1 ⟨rfl, rfl⟩)
  exact ⟨rfl, rfl, hkg⟩
theorem f_out_ok {B cp g : Nat} {xs : List Cell} {w : World} (h : Mine 25 B w (.slice (some ⟨g, 0, none⟩) xs.length cp) xs) {i : Nat} (hi : i < xs.length) (hc : okC xs[i]) (n : Int) (h0 : 1 ≤ n) (h1 : n ≤ xs[i].helium + xs[i].air) :
    Calls Try.prog 136 #[.pointer (some ⟨g, i * 7, none⟩), .int .i64 n] w fun e w' => e = .returned (.agg #[.int .i64 (shareH xs[i] n), .int .i64 (n - shareH xs[i] n)]) ∧
      Mine 25 B w' (.slice (some ⟨g, 0, none⟩) xs.length cp) (xs.set i (less xs[i] n)) ∧ Below B w w' ∧ Besides 25 w w' := by
  obtain ⟨s0, s1, s2, s3⟩ := share_bd hc (show 0 ≤ n by omega) h1
  obtain ⟨u1, u2⟩ := hc
  have HX := Lib.hid (show xs[i]? = some xs[i] by simp [hi])
  obtain ⟨x, hx⟩ : ∃ x, x = xs[i] := ⟨_, rfl⟩
  rw [← hx] at h1 u1 u2 s0 s1 s2 s3 HX ⊢
  have hlt : decide (n ≤ x.helium + x.air) = true := by simp; omega
  have hw := i64_inx (n := x.helium + x.air) (by omega)
  have m1 : 0 ≤ n * x.helium := Int.mul_nonneg (by omega) u1.1
  have m2 := (mul_bd (A := 20000000) (B := 10000000) (x := n) (y := x.helium) (by omega) (by omega) (by omega) (by omega)).2
  have hw2 := i64_inx (n := n * x.helium) (by omega)
  have hd : 0 < x.helium + x.air := by omega
  obtain ⟨S, hS⟩ : ∃ S, S = shareH x n := ⟨_, rfl⟩
  have HS := Lib.hid (show n * x.helium / (x.helium + x.air) = S by rw [hS]; rfl)
  have HL : Hid (less x n = { x with helium := x.helium - S, air := x.air - (n - S) }) := by rw [hS]; exact rfl
  rw [← hS] at s0 s1 s2 s3 ⊢
  clear hS
  go_enter Try.func136, Try.ntmps136
  go_upto_region 1 with fail
  refine at_world (S := fun W => Blk W w.heap.size #[.int .i64 0, .int .i64 0] 61 ∧ Kept w W) ⟨by (exact blkc), by (exact kpt)⟩ ?_
  rintro W ⟨r0, hk⟩
  obtain ⟨g', cur, he, hB, hb, c0, c1, c2, c3, c4, c5, c6⟩ := (h.keep hk).at hi
  cases he
  rw [← hx] at c0 c1 c2 c3 c4 c5 c6
  clear hx
  have x1 := fun q : Later W => q.some c1
  have x2 := fun q : Later W => q.some c2
  clear c0 c1 c2 c3 c4 c5 c6
  refine Later.tail 11 (by kernel_rfl) (by kernel_rfl) ?_
  simp only [List.take_succ_cons, List.take_zero, List.drop_succ_cons, List.drop_zero]
  repeat (first | go_big_quiet_skip | (go_big_quiet_want; go_big_quiet_op; first | go_big_quiet_on | (apply Exists.intro; refine ⟨fun g => ?_, ?_⟩; (focus (first | fail)); go_big_quiet_on)))
  refine wpQuiet_nil ?_
  intro gg
  refine wpList_plain rfl fun K1 hK1 => ?_
  have hkg := Kept.drop hk gg.ok
  have x3 := x1 gg
  have x4 := x2 gg
  go_wp2_with (go_at_call 113; (with_reducible refine (f_need_ok _ _).mono ?_); rintro e w1 ⟨rfl, rfl⟩)
  have y1 := fun q : Later gg.val => q.some x3
  have y2 := fun q : Later gg.val => q.some x4
  have hnz : ((x.helium + x.air) == 0) = false := by simp; omega
  have hnz2 : ¬ (x.helium + x.air) = 0 := by omega
  refine Later.region (by kernel_rfl) (by kernel_rfl) ?_
  repeat (first | go_big_quiet_skip | (go_big_quiet_want; go_big_quiet_op; first | go_big_quiet_on | (apply Exists.intro; refine ⟨fun g => ?_, ?_⟩; (focus (first | fail)); go_big_quiet_on)))
  refine wpQuiet_nil ?_
  intro gh
  rw [HS.out]
  have z1 := y1 gh
  have z2 := y2 gh
  obtain ⟨g0, cur0, he0, hB0, hb0, _⟩ := h.at hi
  cases he0
  have hgl := hb0.lt
  have hne : ¬ g = w.heap.size := by omega
  have hne' : ¬ w.heap.size = g := by omega
  have hbh : Blk gh.val g cur 25 := (hb.later gg).later gh
  have hf1 := hbh.free (i * 7 + 1)
  have hf2 := hbh.free (i * 7 + 2)
  have r1 : Blk gh.val w.heap.size #[.int .i64 0, .int .i64 0] 61 := (r0.later gg).later gh
  have r1c0 := r1.cell 0
  have r1f0 := r1.free 0
  have r1c1 := r1.cell 1
  have r1f1 := r1.free 1
  have r1l := r1.lt
  simp at r1c0 r1c1
  have hkh : Kept w gh.val := Kept.drop (Kept.drop hk gg.ok) gh.ok
  clear x1 x2 x3 x4 y1 y2 hw hw2 hlt hnz hnz2 m1 m2 hd
  go_wp2
  refine bodyPost_ret (v := .agg #[.int .i64 S, .int .i64 (n - S)]) (by simp [results, Try.results136, go_sem, r1c0, r1c1, r1f0, r1f1, hne, hne']) rfl ⟨rfl, ?_, ?_, ?_⟩
  · have q1 := (h.keep hkh).put (j := 1) { x with helium := x.helium - S } HX.out (by decide) (u := .int .i64 (x.helium - S)) rfl
    have q2 := q1.put (i := i) (j := 2) (c := { x with helium := x.helium - S }) { x with helium := x.helium - S, air := x.air - (n - S) } (by simp [hi]) (by decide) (u := .int .i64 (x.air - (n - S))) rfl
    rw [List.set_set] at q2
    rw [HL.out]
    have b1 := (r1.other (a := ⟨g, i * 7 + 1, none⟩) hne (.int .i64 (x.helium - S))).other (a := ⟨g, i * 7 + 2, none⟩) hne (.int .i64 (x.air - (n - S)))
    have b2 := b1.set 0 (.int .i64 S)
    exact (q2.other b1 (by decide) _).other b2 (by decide) _
  · exact ((((hkh.mono (by omega)).setCell (show B ≤ g from hB) _).setCell (show B ≤ g from hB) _).setCell (show B ≤ w.heap.size by omega) _).setCell (show B ≤ w.heap.size by omega) _
  · have q1 := (Besides.keep (T := 25) hkh).trans (Besides.put hbh (o := i * 7 + 1) (.int .i64 (x.helium - S)))
    have q2 := q1.trans (Besides.put (hbh.set (i * 7 + 1) (.int .i64 (x.helium - S))) (o := i * 7 + 2) (.int .i64 (x.air - (n - S))))
    exact (q2.past (Nat.le_refl _) _).past (Nat.le_refl _) _

end Go.Proofs.Ytemafanncejeiaa
