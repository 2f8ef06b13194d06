/-
  GasHeld, the statement: for every input the call returns true and leaves the input alone.
-/
import Derived.Test.YtemafanncejeiaaGasBaseM
import Derived.Test.YtemafanncejeiaaRows
set_option linter.unusedVariables false
set_option linter.unusedSimpArgs false
namespace Bal.Gas
open Bal.Trim
theorem insG_in {lo hi : Int} (n : Int) (h : lo ≤ hi) : lo ≤ insG lo hi n ∧ insG lo hi n ≤ hi := by
  unfold insG
  have h1 := Int.emod_nonneg n (show hi - lo + 1 ≠ 0 by omega)
  have h2 := Int.emod_lt_of_pos n (show 0 < hi - lo + 1 by omega)
  omega
end Bal.Gas

/-
  GasHeld: whatever there is lies in the spans that are told: the walk.
-/
namespace Go.Proofs.Ytemafanncejeiaa
open Go.RowKit Bal Bal.Trim Bal.Gas
set_option linter.unusedVariables false
set_option linter.unusedSimpArgs false
set_option maxHeartbeats 4000000
set_option maxRecDepth 100000

theorem law_GasHeld_bad (c : Cell) (a : Air) (x y z : Int) (w : World) (E : Int) (hE : E = 31 ∨ E = 30) (hA : asked c a = E) : Calls Try.prog 12 #[.agg #[.int .i64 c.room, .int .i64 c.helium, .int .i64 c.air, .int .i64 c.wlo, .int .i64 c.whi, .int .i64 c.leak, .int .i64 c.owed], .agg #[.int .i64 a.plo, .int .i64 a.phi, .int .i64 a.tlo, .int .i64 a.thi], .int .u16 x, .int .u16 y, .int .u16 z] w fun e w' => e = .returned (.bool true) ∧ Kept w w' := by
  have EA := Lib.hid hA
  clear hA
  rcases hE with rfl | rfl
  all_goals
    go_enter Try.func12, Try.ntmps12
    go_wp2_with (first | (go_at_call 68; (with_reducible refine (o_alive _).mono ?_); rintro e wa ⟨rfl, hba⟩; refine Blk.thru (b := w.heap.size) (arr := ?_) (t := ?_) ?_ hba ?_; rotate_left 2; (focus (exact blk)); intro xa; have xac0 := xa.cell 0; have xaf0 := xa.free 0; have xac1 := xa.cell 1; have xaf1 := xa.free 1; have xac2 := xa.cell 2; have xaf2 := xa.free 2; have xac3 := xa.cell 3; have xaf3 := xa.free 3; have xac4 := xa.cell 4; have xaf4 := xa.free 4; have xac5 := xa.cell 5; have xaf5 := xa.free 5; have xac6 := xa.cell 6; have xaf6 := xa.free 6; have xal := xa.lt; simp at xac0 xac1 xac2 xac3 xac4 xac5 xac6; refine Blk.thru (b := w.heap.size + 1) (arr := ?_) (t := ?_) ?_ hba ?_; rotate_left 2; (focus (exact blk)); intro ya; have yac0 := ya.cell 0; have yaf0 := ya.free 0; have yac1 := ya.cell 1; have yaf1 := ya.free 1; have yac2 := ya.cell 2; have yaf2 := ya.free 2; have yac3 := ya.cell 3; have yaf3 := ya.free 3; have yal := ya.lt; simp at yac0 yac1 yac2 yac3) | (go_at_call 22; (with_reducible refine (f_VolumeC c a _).mono ?_); rw [EA.out]; rintro e wV ⟨rfl, hbV⟩; refine Blk.thru (b := w.heap.size) (arr := ?_) (t := ?_) ?_ hbV ?_; rotate_left 2; (focus (exact blk)); intro xwV; have xwVc0 := xwV.cell 0; have xwVf0 := xwV.free 0; have xwVc1 := xwV.cell 1; have xwVf1 := xwV.free 1; have xwVc2 := xwV.cell 2; have xwVf2 := xwV.free 2; have xwVc3 := xwV.cell 3; have xwVf3 := xwV.free 3; have xwVc4 := xwV.cell 4; have xwVf4 := xwV.free 4; have xwVc5 := xwV.cell 5; have xwVf5 := xwV.free 5; have xwVc6 := xwV.cell 6; have xwVf6 := xwV.free 6; have xwVl := xwV.lt; simp at xwVc0 xwVc1 xwVc2 xwVc3 xwVc4 xwVc5 xwVc6; refine Blk.thru (b := w.heap.size + 1) (arr := ?_) (t := ?_) ?_ hbV ?_; rotate_left 2; (focus (exact blk)); intro ywV; have ywVc0 := ywV.cell 0; have ywVf0 := ywV.free 0; have ywVc1 := ywV.cell 1; have ywVf1 := ywV.free 1; have ywVc2 := ywV.cell 2; have ywVf2 := ywV.free 2; have ywVc3 := ywV.cell 3; have ywVf3 := ywV.free 3; have ywVl := ywV.lt; simp at ywVc0 ywVc1 ywVc2 ywVc3) | (go_at_call 30; (with_reducible refine (f_LiftC c a _).mono ?_); rw [EA.out]; rintro e wL ⟨rfl, hbL⟩; refine Blk.thru (b := w.heap.size) (arr := ?_) (t := ?_) ?_ hbL ?_; rotate_left 2; (focus (exact blk)); intro xwL; have xwLc0 := xwL.cell 0; have xwLf0 := xwL.free 0; have xwLc1 := xwL.cell 1; have xwLf1 := xwL.free 1; have xwLc2 := xwL.cell 2; have xwLf2 := xwL.free 2; have xwLc3 := xwL.cell 3; have xwLf3 := xwL.free 3; have xwLc4 := xwL.cell 4; have xwLf4 := xwL.free 4; have xwLc5 := xwL.cell 5; have xwLf5 := xwL.free 5; have xwLc6 := xwL.cell 6; have xwLf6 := xwL.free 6; have xwLl := xwL.lt; simp at xwLc0 xwLc1 xwLc2 xwLc3 xwLc4 xwLc5 xwLc6; refine Blk.thru (b := w.heap.size + 1) (arr := ?_) (t := ?_) ?_ hbL ?_; rotate_left 2; (focus (exact blk)); intro ywL; have ywLc0 := ywL.cell 0; have ywLf0 := ywL.free 0; have ywLc1 := ywL.cell 1; have ywLf1 := ywL.free 1; have ywLc2 := ywL.cell 2; have ywLf2 := ywL.free 2; have ywLc3 := ywL.cell 3; have ywLf3 := ywL.free 3; have ywLl := ywL.lt; simp at ywLc0 ywLc1 ywLc2 ywLc3) | (go_at_call 32; (with_reducible refine (f_CeilingC c a.tlo a.thi _).mono ?_); rintro e wC ⟨rfl, hbC⟩; refine Blk.thru (b := w.heap.size) (arr := ?_) (t := ?_) ?_ hbC ?_; rotate_left 2; (focus (exact blk)); intro xwC; have xwCc0 := xwC.cell 0; have xwCf0 := xwC.free 0; have xwCc1 := xwC.cell 1; have xwCf1 := xwC.free 1; have xwCc2 := xwC.cell 2; have xwCf2 := xwC.free 2; have xwCc3 := xwC.cell 3; have xwCf3 := xwC.free 3; have xwCc4 := xwC.cell 4; have xwCf4 := xwC.free 4; have xwCc5 := xwC.cell 5; have xwCf5 := xwC.free 5; have xwCc6 := xwC.cell 6; have xwCf6 := xwC.free 6; have xwCl := xwC.lt; simp at xwCc0 xwCc1 xwCc2 xwCc3 xwCc4 xwCc5 xwCc6; refine Blk.thru (b := w.heap.size + 1) (arr := ?_) (t := ?_) ?_ hbC ?_; rotate_left 2; (focus (exact blk)); intro ywC; have ywCc0 := ywC.cell 0; have ywCf0 := ywC.free 0; have ywCc1 := ywC.cell 1; have ywCf1 := ywC.free 1; have ywCc2 := ywC.cell 2; have ywCf2 := ywC.free 2; have ywCc3 := ywC.cell 3; have ywCf3 := ywC.free 3; have ywCl := ywC.lt; simp at ywCc0 ywCc1 ywCc2 ywCc3))
    go_ret
    exact ⟨rfl, by (exact kpt)⟩

theorem law_GasHeld_ok (c : Cell) (a : Air) (x y z : Int) (w : World) (hx : 0 ≤ x ∧ x ≤ 65535) (hy : 0 ≤ y ∧ y ≤ 65535) (hz : 0 ≤ z ∧ z ≤ 65535) (hc : cellB c = true) (ha : airB a = true) : Calls Try.prog 12 #[.agg #[.int .i64 c.room, .int .i64 c.helium, .int .i64 c.air, .int .i64 c.wlo, .int .i64 c.whi, .int .i64 c.leak, .int .i64 c.owed], .agg #[.int .i64 a.plo, .int .i64 a.phi, .int .i64 a.tlo, .int .i64 a.thi], .int .u16 x, .int .u16 y, .int .u16 z] w fun e w' => e = .returned (.bool true) ∧ Kept w w' := by
  obtain ⟨⟨b1, b2, b3⟩, b4, b5, b6⟩ := airB_iff.1 ha
  obtain ⟨⟨r1, r2⟩, ⟨e1, e2⟩, ⟨e3, e4⟩, _, _, u3, u4, u5⟩ := cellB_iff.1 hc
  have hs : spanIn a.tlo a.thi 1500 3500 = true := spanIn_iff.2 ⟨b4, b5, b6⟩
  have i1 := insG_in x b2
  have i2 := insG_in y b5
  have i3 := insG_in z u4
  have KI1 := Lib.hid (fun W => o_inside a.plo a.phi x W (by omega) b2 (by omega) hx)
  have KI2 := Lib.hid (fun W => o_inside a.tlo a.thi y W (by omega) b5 (by omega) hy)
  have KI3 := Lib.hid (fun W => o_inside c.wlo c.whi z W (by omega) u4 (by omega) hz)
  obtain ⟨p, hp⟩ : ∃ n, n = insG a.plo a.phi x := ⟨_, rfl⟩
  obtain ⟨t, ht⟩ : ∃ n, n = insG a.tlo a.thi y := ⟨_, rfl⟩
  obtain ⟨v, hv⟩ : ∃ n, n = insG c.wlo c.whi z := ⟨_, rfl⟩
  rw [← hp] at i1 KI1
  rw [← ht] at i2 KI2
  rw [← hv] at i3 KI3
  clear hp ht hv
  have H1 := held_vol hc ha i1 i2 i3
  have H2 := held_lift hc ha i2 i3
  have H3 := held_ceil hc hs i2 i3
  have KV0 := fun W => f_Volume_ok c a W hc ha
  have KL0 := fun W => f_Lift_ok c a W hc ha
  have KC0 := fun W => f_Ceiling_ok c a.tlo a.thi W hc hs
  obtain ⟨⟨⟨s1, s2⟩, s3, s4⟩, ⟨⟨s5, s6⟩, s7, s8⟩, ⟨s9, s10⟩, s11, s12⟩ := span_bd hc ha
  obtain ⟨VL, hVL⟩ : ∃ n, n = volLo c a := ⟨_, rfl⟩
  obtain ⟨VH, hVH⟩ : ∃ n, n = volHi c a := ⟨_, rfl⟩
  obtain ⟨LL, hLL⟩ : ∃ n, n = liftLo c a := ⟨_, rfl⟩
  obtain ⟨LH, hLH⟩ : ∃ n, n = liftHi c a := ⟨_, rfl⟩
  obtain ⟨UL, hUL⟩ : ∃ n, n = ceilLo c a.tlo := ⟨_, rfl⟩
  obtain ⟨UH, hUH⟩ : ∃ n, n = ceilHi c a.thi := ⟨_, rfl⟩
  rw [← hVL, ← hVH] at KV0 H1
  rw [← hLL, ← hLH] at KL0 H2
  rw [← hUL, ← hUH] at KC0 H3
  rw [← hVL] at s1 s2
  rw [← hVH] at s3 s4
  rw [← hLL] at s5 s6
  rw [← hLH] at s7 s8
  rw [← hUL] at s9 s10
  rw [← hUH] at s11 s12
  have KV := Lib.hid KV0
  have KL := Lib.hid KL0
  have KC := Lib.hid KC0
  clear KV0 KL0 KC0 hVL hVH hLL hLH hUL hUH
  have m1 := mul_bd (A := 76000000000) (B := 12000) (x := VL) (y := p) (by omega) (by omega) (by omega) (by omega)
  have m2 := mul_bd (A := 76000000000) (B := 12000) (x := VH) (y := p) (by omega) (by omega) (by omega) (by omega)
  have m3 := mul_bd (A := 200000000000) (B := 3500) (x := LL) (y := t) (by omega) (by omega) (by omega) (by omega)
  have m4 := mul_bd (A := 200000000000) (B := 3500) (x := LH) (y := t) (by omega) (by omega) (by omega) (by omega)
  have m5 := mul_bd (A := 76000000000) (B := 10000000) (x := UL) (y := c.room) (by omega) (by omega) (by omega) (by omega)
  have m6 := mul_bd (A := 76000000000) (B := 10000000) (x := UH) (y := c.room) (by omega) (by omega) (by omega) (by omega)
  have m7 := mul_bd (A := 20000000) (B := 3800) (x := c.helium + c.air) (y := t + v) (by omega) (by omega) (by omega) (by omega)
  have m8 := mul_bd (A := 580000000) (B := 3800) (x := 29 * (c.helium + c.air)) (y := t + v) (by omega) (by omega) (by omega) (by omega)
  have m9 := mul_bd (A := 3500) (B := 330000000) (x := t) (y := 4 * c.helium + 29 * c.air) (by omega) (by omega) (by omega) (by omega)
  have w1 := i64_inH (n := c.helium + c.air) (by omega)
  have w2 := i64_inH (n := 29 * (c.helium + c.air)) (by omega)
  have w3 := i64_inH (n := t + v) (by omega)
  have w4 := i64_inH (n := 29 * (c.helium + c.air) * (t + v)) (by omega)
  have w5 := i64_inH (n := 4 * c.helium) (by omega)
  have w6 := i64_inH (n := 29 * c.air) (by omega)
  have w7 := i64_inH (n := 4 * c.helium + 29 * c.air) (by omega)
  have w8 := i64_inH (n := t * (4 * c.helium + 29 * c.air)) (by omega)
  have w9 := i64_inH (n := 29 * (c.helium + c.air) * (t + v) - t * (4 * c.helium + 29 * c.air)) (by omega)
  have w10 := i64_inH (n := (c.helium + c.air) * (t + v)) (by omega)
  have KO1 := Lib.hid (show ∀ W, Calls Try.prog 72 #[.agg #[.int .i64 VL, .int .i64 VH], .int .i64 ((c.helium + c.air) * (t + v)), .int .i64 p] W fun e w' => e = .returned (.bool true) ∧ Kept W w' from fun W => by
    have k := o_over VL VH ((c.helium + c.air) * (t + v)) p W (by omega) (by omega)
    rwa [show overG VL VH ((c.helium + c.air) * (t + v)) p = true by simp only [overG, Bool.and_eq_true, decide_eq_true_eq]; exact H1] at k)
  have KO2 := Lib.hid (show ∀ W, Calls Try.prog 72 #[.agg #[.int .i64 LL, .int .i64 LH], .int .i64 (29 * (c.helium + c.air) * (t + v) - t * (4 * c.helium + 29 * c.air)), .int .i64 t] W fun e w' => e = .returned (.bool true) ∧ Kept W w' from fun W => by
    have k := o_over LL LH (29 * (c.helium + c.air) * (t + v) - t * (4 * c.helium + 29 * c.air)) t W (by omega) (by omega)
    rwa [show overG LL LH (29 * (c.helium + c.air) * (t + v) - t * (4 * c.helium + 29 * c.air)) t = true by simp only [overG, Bool.and_eq_true, decide_eq_true_eq]; exact H2] at k)
  have KO3 := Lib.hid (show ∀ W, Calls Try.prog 72 #[.agg #[.int .i64 UL, .int .i64 UH], .int .i64 ((c.helium + c.air) * (t + v)), .int .i64 c.room] W fun e w' => e = .returned (.bool true) ∧ Kept W w' from fun W => by
    have k := o_over UL UH ((c.helium + c.air) * (t + v)) c.room W (by omega) (by omega)
    rwa [show overG UL UH ((c.helium + c.air) * (t + v)) c.room = true by simp only [overG, Bool.and_eq_true, decide_eq_true_eq]; exact H3] at k)
  clear H1 H2 H3 m1 m2 m3 m4 m5 m6 m7 m8 m9 s1 s2 s3 s4 s5 s6 s7 s8 s9 s10 s11 s12
  go_enter Try.func12, Try.ntmps12
  go_upto_region 9 with (first | (go_at_call 68; (with_reducible refine (o_alive _).mono ?_); rintro e wa ⟨rfl, hba⟩; refine Blk.thru (b := w.heap.size) (arr := ?_) (t := ?_) ?_ hba ?_; rotate_left 2; (focus (exact blk)); intro xa; have xac0 := xa.cell 0; have xaf0 := xa.free 0; have xac1 := xa.cell 1; have xaf1 := xa.free 1; have xac2 := xa.cell 2; have xaf2 := xa.free 2; have xac3 := xa.cell 3; have xaf3 := xa.free 3; have xac4 := xa.cell 4; have xaf4 := xa.free 4; have xac5 := xa.cell 5; have xaf5 := xa.free 5; have xac6 := xa.cell 6; have xaf6 := xa.free 6; have xal := xa.lt; simp at xac0 xac1 xac2 xac3 xac4 xac5 xac6; refine Blk.thru (b := w.heap.size + 1) (arr := ?_) (t := ?_) ?_ hba ?_; rotate_left 2; (focus (exact blk)); intro ya; have yac0 := ya.cell 0; have yaf0 := ya.free 0; have yac1 := ya.cell 1; have yaf1 := ya.free 1; have yac2 := ya.cell 2; have yaf2 := ya.free 2; have yac3 := ya.cell 3; have yaf3 := ya.free 3; have yal := ya.lt; simp at yac0 yac1 yac2 yac3) | (go_at_call 22; (with_reducible refine (KV.out _).mono ?_); rintro e wV ⟨rfl, hbV⟩; refine Blk.thru (b := w.heap.size) (arr := ?_) (t := ?_) ?_ hbV ?_; rotate_left 2; (focus (exact blk)); intro xwV; have xwVc0 := xwV.cell 0; have xwVf0 := xwV.free 0; have xwVc1 := xwV.cell 1; have xwVf1 := xwV.free 1; have xwVc2 := xwV.cell 2; have xwVf2 := xwV.free 2; have xwVc3 := xwV.cell 3; have xwVf3 := xwV.free 3; have xwVc4 := xwV.cell 4; have xwVf4 := xwV.free 4; have xwVc5 := xwV.cell 5; have xwVf5 := xwV.free 5; have xwVc6 := xwV.cell 6; have xwVf6 := xwV.free 6; have xwVl := xwV.lt; simp at xwVc0 xwVc1 xwVc2 xwVc3 xwVc4 xwVc5 xwVc6; refine Blk.thru (b := w.heap.size + 1) (arr := ?_) (t := ?_) ?_ hbV ?_; rotate_left 2; (focus (exact blk)); intro ywV; have ywVc0 := ywV.cell 0; have ywVf0 := ywV.free 0; have ywVc1 := ywV.cell 1; have ywVf1 := ywV.free 1; have ywVc2 := ywV.cell 2; have ywVf2 := ywV.free 2; have ywVc3 := ywV.cell 3; have ywVf3 := ywV.free 3; have ywVl := ywV.lt; simp at ywVc0 ywVc1 ywVc2 ywVc3) | (go_at_call 30; (with_reducible refine (KL.out _).mono ?_); rintro e wL ⟨rfl, hbL⟩; refine Blk.thru (b := w.heap.size) (arr := ?_) (t := ?_) ?_ hbL ?_; rotate_left 2; (focus (exact blk)); intro xwL; have xwLc0 := xwL.cell 0; have xwLf0 := xwL.free 0; have xwLc1 := xwL.cell 1; have xwLf1 := xwL.free 1; have xwLc2 := xwL.cell 2; have xwLf2 := xwL.free 2; have xwLc3 := xwL.cell 3; have xwLf3 := xwL.free 3; have xwLc4 := xwL.cell 4; have xwLf4 := xwL.free 4; have xwLc5 := xwL.cell 5; have xwLf5 := xwL.free 5; have xwLc6 := xwL.cell 6; have xwLf6 := xwL.free 6; have xwLl := xwL.lt; simp at xwLc0 xwLc1 xwLc2 xwLc3 xwLc4 xwLc5 xwLc6; refine Blk.thru (b := w.heap.size + 1) (arr := ?_) (t := ?_) ?_ hbL ?_; rotate_left 2; (focus (exact blk)); intro ywL; have ywLc0 := ywL.cell 0; have ywLf0 := ywL.free 0; have ywLc1 := ywL.cell 1; have ywLf1 := ywL.free 1; have ywLc2 := ywL.cell 2; have ywLf2 := ywL.free 2; have ywLc3 := ywL.cell 3; have ywLf3 := ywL.free 3; have ywLl := ywL.lt; simp at ywLc0 ywLc1 ywLc2 ywLc3) | (go_at_call 32; (with_reducible refine (KC.out _).mono ?_); rintro e wC ⟨rfl, hbC⟩; refine Blk.thru (b := w.heap.size) (arr := ?_) (t := ?_) ?_ hbC ?_; rotate_left 2; (focus (exact blk)); intro xwC; have xwCc0 := xwC.cell 0; have xwCf0 := xwC.free 0; have xwCc1 := xwC.cell 1; have xwCf1 := xwC.free 1; have xwCc2 := xwC.cell 2; have xwCf2 := xwC.free 2; have xwCc3 := xwC.cell 3; have xwCf3 := xwC.free 3; have xwCc4 := xwC.cell 4; have xwCf4 := xwC.free 4; have xwCc5 := xwC.cell 5; have xwCf5 := xwC.free 5; have xwCc6 := xwC.cell 6; have xwCf6 := xwC.free 6; have xwCl := xwC.lt; simp at xwCc0 xwCc1 xwCc2 xwCc3 xwCc4 xwCc5 xwCc6; refine Blk.thru (b := w.heap.size + 1) (arr := ?_) (t := ?_) ?_ hbC ?_; rotate_left 2; (focus (exact blk)); intro ywC; have ywCc0 := ywC.cell 0; have ywCf0 := ywC.free 0; have ywCc1 := ywC.cell 1; have ywCf1 := ywC.free 1; have ywCc2 := ywC.cell 2; have ywCf2 := ywC.free 2; have ywCc3 := ywC.cell 3; have ywCf3 := ywC.free 3; have ywCl := ywC.lt; simp at ywCc0 ywCc1 ywCc2 ywCc3))
  refine at_world (S := fun V => Blk V (w.heap.size) #[.int .i64 c.room, .int .i64 c.helium, .int .i64 c.air, .int .i64 c.wlo, .int .i64 c.whi, .int .i64 c.leak, .int .i64 c.owed] 25 ∧ Blk V (w.heap.size + 1) #[.int .i64 a.plo, .int .i64 a.phi, .int .i64 a.tlo, .int .i64 a.thi] 27 ∧ Blk V (wV.heap.size) #[.int .i64 VL, .int .i64 VH] 23 ∧ Blk V (wL.heap.size) #[.int .i64 LL, .int .i64 LH] 23 ∧ Blk V (wC.heap.size) #[.int .i64 UL, .int .i64 UH] 23 ∧ Kept w V) ⟨by (exact blkc), by (exact blkc), by (exact blkc), by (exact blkc), by (exact blkc), by (exact kpt)⟩ ?_
  rintro V ⟨q0, q1, qv, ql, qc, hkV⟩
  have q0c0 := fun g : Later V => (q0.later g).cell 0
  have q0f0 := fun g : Later V => (q0.later g).free 0
  have q0c1 := fun g : Later V => (q0.later g).cell 1
  have q0f1 := fun g : Later V => (q0.later g).free 1
  have q0c2 := fun g : Later V => (q0.later g).cell 2
  have q0f2 := fun g : Later V => (q0.later g).free 2
  have q0c3 := fun g : Later V => (q0.later g).cell 3
  have q0f3 := fun g : Later V => (q0.later g).free 3
  have q0c4 := fun g : Later V => (q0.later g).cell 4
  have q0f4 := fun g : Later V => (q0.later g).free 4
  have q0c5 := fun g : Later V => (q0.later g).cell 5
  have q0f5 := fun g : Later V => (q0.later g).free 5
  have q0c6 := fun g : Later V => (q0.later g).cell 6
  have q0f6 := fun g : Later V => (q0.later g).free 6
  have q0l := fun g : Later V => (q0.later g).lt
  simp at q0c0 q0c1 q0c2 q0c3 q0c4 q0c5 q0c6
  have q1c0 := fun g : Later V => (q1.later g).cell 0
  have q1f0 := fun g : Later V => (q1.later g).free 0
  have q1c1 := fun g : Later V => (q1.later g).cell 1
  have q1f1 := fun g : Later V => (q1.later g).free 1
  have q1c2 := fun g : Later V => (q1.later g).cell 2
  have q1f2 := fun g : Later V => (q1.later g).free 2
  have q1c3 := fun g : Later V => (q1.later g).cell 3
  have q1f3 := fun g : Later V => (q1.later g).free 3
  have q1l := fun g : Later V => (q1.later g).lt
  simp at q1c0 q1c1 q1c2 q1c3
  refine Later.region (by kernel_rfl) (by kernel_rfl) ?_
  repeat (first | go_big_quiet_skip | (go_big_quiet_want; go_big_quiet_op; first | go_big_quiet_on | (apply Exists.intro; refine ⟨fun g_ => ?_, ?_⟩; (focus (first | (go_at_call 71; with_reducible exact Later.call (KI1.out _)) | (go_at_call 71; with_reducible exact Later.call (KI2.out _)) | (go_at_call 71; with_reducible exact Later.call (KI3.out _)))); go_big_quiet_on)))
  refine wpQuiet_nil ?_
  intro gg
  clear q0c0 q0f0 q0c1 q0f1 q0c2 q0f2 q0c3 q0f3 q0c4 q0f4 q0c5 q0f5 q0c6 q0f6 q0l q1c0 q1f0 q1c1 q1f1 q1c2 q1f2 q1c3 q1f3 q1l
  have nq0 := q0.later gg
  have nq1 := q1.later gg
  have nqv := qv.later gg
  have nql := ql.later gg
  have nqc := qc.later gg
  have hkg := Kept.drop hkV gg.ok
  clear hkV q0 q1 qv ql qc
  have nq0c0 := nq0.cell 0
  have nq0f0 := nq0.free 0
  have nq0c1 := nq0.cell 1
  have nq0f1 := nq0.free 1
  have nq0c2 := nq0.cell 2
  have nq0f2 := nq0.free 2
  have nq0c3 := nq0.cell 3
  have nq0f3 := nq0.free 3
  have nq0c4 := nq0.cell 4
  have nq0f4 := nq0.free 4
  have nq0c5 := nq0.cell 5
  have nq0f5 := nq0.free 5
  have nq0c6 := nq0.cell 6
  have nq0f6 := nq0.free 6
  have nq0l := nq0.lt
  simp at nq0c0 nq0c1 nq0c2 nq0c3 nq0c4 nq0c5 nq0c6
  have nq1c0 := nq1.cell 0
  have nq1f0 := nq1.free 0
  have nq1c1 := nq1.cell 1
  have nq1f1 := nq1.free 1
  have nq1c2 := nq1.cell 2
  have nq1f2 := nq1.free 2
  have nq1c3 := nq1.cell 3
  have nq1f3 := nq1.free 3
  have nq1l := nq1.lt
  simp at nq1c0 nq1c1 nq1c2 nq1c3
  have nqvc0 := nqv.cell 0
  have nqvf0 := nqv.free 0
  have nqvc1 := nqv.cell 1
  have nqvf1 := nqv.free 1
  have nqvl := nqv.lt
  simp at nqvc0 nqvc1
  have nqlc0 := nql.cell 0
  have nqlf0 := nql.free 0
  have nqlc1 := nql.cell 1
  have nqlf1 := nql.free 1
  have nqll := nql.lt
  simp at nqlc0 nqlc1
  have nqcc0 := nqc.cell 0
  have nqcf0 := nqc.free 0
  have nqcc1 := nqc.cell 1
  have nqcf1 := nqc.free 1
  have nqcl := nqc.lt
  simp at nqcc0 nqcc1
  go_wp2_with (first | (go_at_call 72; (with_reducible refine (KO1.out _).mono ?_); rintro e wo1 ⟨rfl, hbo1⟩; refine Blk.thru (b := w.heap.size) (arr := ?_) (t := ?_) ?_ hbo1 ?_; rotate_left 2; (focus (exact blk)); intro zwo1q0; have zwo1q0c0 := zwo1q0.cell 0; have zwo1q0f0 := zwo1q0.free 0; have zwo1q0c1 := zwo1q0.cell 1; have zwo1q0f1 := zwo1q0.free 1; have zwo1q0c2 := zwo1q0.cell 2; have zwo1q0f2 := zwo1q0.free 2; have zwo1q0c3 := zwo1q0.cell 3; have zwo1q0f3 := zwo1q0.free 3; have zwo1q0c4 := zwo1q0.cell 4; have zwo1q0f4 := zwo1q0.free 4; have zwo1q0c5 := zwo1q0.cell 5; have zwo1q0f5 := zwo1q0.free 5; have zwo1q0c6 := zwo1q0.cell 6; have zwo1q0f6 := zwo1q0.free 6; have zwo1q0l := zwo1q0.lt; simp at zwo1q0c0 zwo1q0c1 zwo1q0c2 zwo1q0c3 zwo1q0c4 zwo1q0c5 zwo1q0c6; refine Blk.thru (b := wV.heap.size) (arr := ?_) (t := ?_) ?_ hbo1 ?_; rotate_left 2; (focus (exact blk)); intro zwo1qv; have zwo1qvc0 := zwo1qv.cell 0; have zwo1qvf0 := zwo1qv.free 0; have zwo1qvc1 := zwo1qv.cell 1; have zwo1qvf1 := zwo1qv.free 1; have zwo1qvl := zwo1qv.lt; simp at zwo1qvc0 zwo1qvc1; refine Blk.thru (b := wL.heap.size) (arr := ?_) (t := ?_) ?_ hbo1 ?_; rotate_left 2; (focus (exact blk)); intro zwo1ql; have zwo1qlc0 := zwo1ql.cell 0; have zwo1qlf0 := zwo1ql.free 0; have zwo1qlc1 := zwo1ql.cell 1; have zwo1qlf1 := zwo1ql.free 1; have zwo1qll := zwo1ql.lt; simp at zwo1qlc0 zwo1qlc1; refine Blk.thru (b := wC.heap.size) (arr := ?_) (t := ?_) ?_ hbo1 ?_; rotate_left 2; (focus (exact blk)); intro zwo1qc; have zwo1qcc0 := zwo1qc.cell 0; have zwo1qcf0 := zwo1qc.free 0; have zwo1qcc1 := zwo1qc.cell 1; have zwo1qcf1 := zwo1qc.free 1; have zwo1qcl := zwo1qc.lt; simp at zwo1qcc0 zwo1qcc1) | (go_at_call 72; (with_reducible refine (KO2.out _).mono ?_); rintro e wo2 ⟨rfl, hbo2⟩; refine Blk.thru (b := w.heap.size) (arr := ?_) (t := ?_) ?_ hbo2 ?_; rotate_left 2; (focus (exact blk)); intro zwo2q0; have zwo2q0c0 := zwo2q0.cell 0; have zwo2q0f0 := zwo2q0.free 0; have zwo2q0c1 := zwo2q0.cell 1; have zwo2q0f1 := zwo2q0.free 1; have zwo2q0c2 := zwo2q0.cell 2; have zwo2q0f2 := zwo2q0.free 2; have zwo2q0c3 := zwo2q0.cell 3; have zwo2q0f3 := zwo2q0.free 3; have zwo2q0c4 := zwo2q0.cell 4; have zwo2q0f4 := zwo2q0.free 4; have zwo2q0c5 := zwo2q0.cell 5; have zwo2q0f5 := zwo2q0.free 5; have zwo2q0c6 := zwo2q0.cell 6; have zwo2q0f6 := zwo2q0.free 6; have zwo2q0l := zwo2q0.lt; simp at zwo2q0c0 zwo2q0c1 zwo2q0c2 zwo2q0c3 zwo2q0c4 zwo2q0c5 zwo2q0c6; refine Blk.thru (b := wV.heap.size) (arr := ?_) (t := ?_) ?_ hbo2 ?_; rotate_left 2; (focus (exact blk)); intro zwo2qv; have zwo2qvc0 := zwo2qv.cell 0; have zwo2qvf0 := zwo2qv.free 0; have zwo2qvc1 := zwo2qv.cell 1; have zwo2qvf1 := zwo2qv.free 1; have zwo2qvl := zwo2qv.lt; simp at zwo2qvc0 zwo2qvc1; refine Blk.thru (b := wL.heap.size) (arr := ?_) (t := ?_) ?_ hbo2 ?_; rotate_left 2; (focus (exact blk)); intro zwo2ql; have zwo2qlc0 := zwo2ql.cell 0; have zwo2qlf0 := zwo2ql.free 0; have zwo2qlc1 := zwo2ql.cell 1; have zwo2qlf1 := zwo2ql.free 1; have zwo2qll := zwo2ql.lt; simp at zwo2qlc0 zwo2qlc1; refine Blk.thru (b := wC.heap.size) (arr := ?_) (t := ?_) ?_ hbo2 ?_; rotate_left 2; (focus (exact blk)); intro zwo2qc; have zwo2qcc0 := zwo2qc.cell 0; have zwo2qcf0 := zwo2qc.free 0; have zwo2qcc1 := zwo2qc.cell 1; have zwo2qcf1 := zwo2qc.free 1; have zwo2qcl := zwo2qc.lt; simp at zwo2qcc0 zwo2qcc1) | (go_at_call 72; (with_reducible refine (KO3.out _).mono ?_); rintro e wo3 ⟨rfl, hbo3⟩; refine Blk.thru (b := w.heap.size) (arr := ?_) (t := ?_) ?_ hbo3 ?_; rotate_left 2; (focus (exact blk)); intro zwo3q0; have zwo3q0c0 := zwo3q0.cell 0; have zwo3q0f0 := zwo3q0.free 0; have zwo3q0c1 := zwo3q0.cell 1; have zwo3q0f1 := zwo3q0.free 1; have zwo3q0c2 := zwo3q0.cell 2; have zwo3q0f2 := zwo3q0.free 2; have zwo3q0c3 := zwo3q0.cell 3; have zwo3q0f3 := zwo3q0.free 3; have zwo3q0c4 := zwo3q0.cell 4; have zwo3q0f4 := zwo3q0.free 4; have zwo3q0c5 := zwo3q0.cell 5; have zwo3q0f5 := zwo3q0.free 5; have zwo3q0c6 := zwo3q0.cell 6; have zwo3q0f6 := zwo3q0.free 6; have zwo3q0l := zwo3q0.lt; simp at zwo3q0c0 zwo3q0c1 zwo3q0c2 zwo3q0c3 zwo3q0c4 zwo3q0c5 zwo3q0c6; refine Blk.thru (b := wV.heap.size) (arr := ?_) (t := ?_) ?_ hbo3 ?_; rotate_left 2; (focus (exact blk)); intro zwo3qv; have zwo3qvc0 := zwo3qv.cell 0; have zwo3qvf0 := zwo3qv.free 0; have zwo3qvc1 := zwo3qv.cell 1; have zwo3qvf1 := zwo3qv.free 1; have zwo3qvl := zwo3qv.lt; simp at zwo3qvc0 zwo3qvc1; refine Blk.thru (b := wL.heap.size) (arr := ?_) (t := ?_) ?_ hbo3 ?_; rotate_left 2; (focus (exact blk)); intro zwo3ql; have zwo3qlc0 := zwo3ql.cell 0; have zwo3qlf0 := zwo3ql.free 0; have zwo3qlc1 := zwo3ql.cell 1; have zwo3qlf1 := zwo3ql.free 1; have zwo3qll := zwo3ql.lt; simp at zwo3qlc0 zwo3qlc1; refine Blk.thru (b := wC.heap.size) (arr := ?_) (t := ?_) ?_ hbo3 ?_; rotate_left 2; (focus (exact blk)); intro zwo3qc; have zwo3qcc0 := zwo3qc.cell 0; have zwo3qcf0 := zwo3qc.free 0; have zwo3qcc1 := zwo3qc.cell 1; have zwo3qcf1 := zwo3qc.free 1; have zwo3qcl := zwo3qc.lt; simp at zwo3qcc0 zwo3qcc1))
  go_ret
  exact ⟨rfl, by (exact kpt)⟩
theorem law_GasHeld (c : Cell) (a : Air) (x y z : Int) (w : World) (hx : 0 ≤ x ∧ x ≤ 65535) (hy : 0 ≤ y ∧ y ≤ 65535) (hz : 0 ≤ z ∧ z ≤ 65535) : Calls Try.prog 12 #[.agg #[.int .i64 c.room, .int .i64 c.helium, .int .i64 c.air, .int .i64 c.wlo, .int .i64 c.whi, .int .i64 c.leak, .int .i64 c.owed], .agg #[.int .i64 a.plo, .int .i64 a.phi, .int .i64 a.tlo, .int .i64 a.thi], .int .u16 x, .int .u16 y, .int .u16 z] w fun e w' => e = .returned (.bool true) ∧ Kept w w' := by
  cases hc : cellB c
  · exact law_GasHeld_bad c a x y z w 31 (.inl rfl) (by simp [asked, hc])
  · cases ha : airB a
    · exact law_GasHeld_bad c a x y z w 30 (.inr rfl) (by simp [asked, hc, checkAir, ha])
    · exact law_GasHeld_ok c a x y z w hx hy hz hc ha

end Go.Proofs.Ytemafanncejeiaa

/-
  GasHeld, the statement: for every input the call returns true and leaves the input alone.
-/
namespace Go.Proofs.Ytemafanncejeiaa.gasHeld
open Go.ChangeShapes Go.WideShapes Go.ChangeAt Go.RowKit Bal Bal.Trim Bal.Gas
open Go.ChangeMaps (open_string shut_string)
set_option linter.unusedVariables false

theorem own : ownKnob Try.prog.godebug = none := by kernel_rfl
theorem laidOut : laidOutB Try.prog = true := by kernel_rfl

set_option maxRecDepth 100000 in
theorem lifted (os : Os) (started : os.Started) (H : Type) (enc : TypeId × Value → H) :
    ReturnsInHanded {} Try.checked os 12 .any (Rows.gasHeldSpec.pre6 enc Try.prog Try.f12 Rows.gasHeldRow.domain false) (Rows.gasHeldSpec.post enc Try.prog Try.f12 false true false false) := by
  refine returnsInHanded_of_change (C := Try.checked) own started (by kernel_rfl) Try.func12
    (ChangeSpec.witness6 (enc := enc) (C := Try.checked) false ⟨#[], #[.agg #[.int .i64 0, .int .i64 0, .int .i64 0, .int .i64 0, .int .i64 0, .int .i64 0, .int .i64 0], .agg #[.int .i64 0, .int .i64 0, .int .i64 0, .int .i64 0], .int .u16 0, .int .u16 0, .int .u16 0], []⟩ 8 (by kernel_rfl) (by kernel_rfl) (by kernel_rfl) (by kernel_rfl)) ?_
  intro W base args ds gs before hval0 hW hcnd _
  have hval : ∀ (j : Nat) t v, Try.f12.params[j]? = some t → args[j]? = some v → Value.okWide Try.prog W .any base t v := hval0
  have hW' := hW
  obtain ⟨p, q, hA0, hV, rfl, hfz, hnd⟩ := hW
  have hA : DataW.TrodAll enc Try.prog W 0 (fun _ => true) true Try.f12.params.toList args.toList ds p := hA0
  rw [Try.params12] at hA hval
  obtain ⟨v0, vs0, d0, ds0, p0, q0, hargs, rfl, rfl, h0, r0⟩ := trodAll_cons hA
  obtain ⟨v1, vs1, d1, ds1, p1, q1, rfl, rfl, rfl, h1, r1⟩ := trodAll_cons r0
  obtain ⟨v2, vs2, d2, ds2, p2, q2, rfl, rfl, rfl, h2, r2⟩ := trodAll_cons r1
  obtain ⟨v3, vs3, d3, ds3, p3, q3, rfl, rfl, rfl, h3, r3⟩ := trodAll_cons r2
  obtain ⟨v4, vs4, d4, ds4, p4, q4, rfl, rfl, rfl, h4, r4⟩ := trodAll_cons r3
  obtain ⟨rfl, rfl, rfl⟩ := trodAll_nil r4
  obtain rfl : args = #[v0, v1, v2, v3, v4] := by cases args; simp_all
  obtain ⟨rfl, rfl⟩ := trodVars_none hV
  have k0 := h0
  have lt0 : ∀ x ∈ p0, x.block < W.heap.size := by obtain ⟨m, hm⟩ := k0; exact DataW.trod_lt m _ _ _ hm
  obtain ⟨a0, rfl, wf0⟩ := open_agg (n := 5) (fun _ h => Cell.of_leaves h) Try.underlying25 (by kernel_rfl) (hval 0 25 v0 rfl rfl) h0
  have k1 := h1
  have lt1 : ∀ x ∈ p1, x.block < W.heap.size := by obtain ⟨m, hm⟩ := k1; exact DataW.trod_lt m _ _ _ hm
  obtain ⟨a1, rfl, wf1⟩ := open_agg (n := 5) (fun _ h => Air.of_leaves h) Try.underlying27 (by kernel_rfl) (hval 1 27 v1 rfl rfl) h1
  obtain ⟨a2, rfl, rfl, rfl, w2⟩ := open_int Try.underlying114 (hval 2 114 v2 rfl rfl) h2
  obtain ⟨a3, rfl, rfl, rfl, w3⟩ := open_int Try.underlying114 (hval 3 114 v3 rfl rfl) h3
  obtain ⟨a4, rfl, rfl, rfl, w4⟩ := open_int Try.underlying114 (hval 4 114 v4 rfl rfl) h4
  clear hA0 hval0
  refine (law_GasHeld a0 a1 a2 a3 a4 W (wf_u16 w2) (wf_u16 w3) (wf_u16 w4)).mono fun e W' ⟨he, bel⟩ => ?_
  subst he
  exact ⟨_, rfl, _, _, _, [], _, [], hW', trodAll_mk1 (shut_bool Try.underlying4 _), (trodAll_cons_mk (Below.trod laidOut (by kernel_rfl) (of_decide_eq_true (by kernel_rfl)) k0 bel lt0) (trodAll_cons_mk (Below.trod laidOut (by kernel_rfl) (of_decide_eq_true (by kernel_rfl)) k1 bel lt1) (trodAll_cons_mk (shut_int Try.underlying114 w2) (trodAll_cons_mk (shut_int Try.underlying114 w3) (trodAll_cons_mk (shut_int Try.underlying114 w4) trodAll_mk0))))), rfl, bel.frame _, fun h => by cases h⟩

theorem joined : joinedFacts Try.prog 12 Try.f12 Rows.gasHeldSpec Rows.gasHeldRow = true := by
  unfold joinedFacts
  rw [mayEnter_is, liftsFinal_is, make_is]
  kernel_rfl
theorem over : Rows.gasHeldRow.holds Try.pinned (OpenSpec.ofChange Rows.gasHeldSpec) :=
  OpenClaim.holds_of_wide 12 Try.f12 rfl rfl rfl rfl rfl rfl rfl ⟨rfl, rfl, rfl, rfl, rfl⟩ rfl rfl rfl rfl rfl (by kernel_rfl) Try.func12 joined
    (of_decide_eq_true (by kernel_rfl)) (by unfold Func.isWrapper; first | (rw [if_pos (by decide +kernel)]; kernel_rfl) | (rw [if_neg (by decide +kernel)]; exact ⟨rfl, rfl⟩))
    (fun os started H enc _ => lifted os started H enc)
end Go.Proofs.Ytemafanncejeiaa.gasHeld

namespace Go.Proofs.Ytemafanncejeiaa
theorem gasHeld_holds : Rows.GasHeldSaid := gasHeld.over
#print axioms gasHeld_holds
end Go.Proofs.Ytemafanncejeiaa
