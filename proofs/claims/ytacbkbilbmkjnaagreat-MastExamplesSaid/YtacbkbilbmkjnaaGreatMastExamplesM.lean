/-
  MastExamples, the statement: the call returns true.
-/
import Derived.Test.YtacbkbilbmkjnaaGreatMastBaseZM
import Derived.Test.YtacbkbilbmkjnaaGreatRows
set_option linter.unusedVariables false
set_option linter.unusedSimpArgs false
/-
  MastExamples: the chapter's examples, limits and numbers of errors: the walk.
-/
namespace Go.Proofs.YtacbkbilbmkjnaaGreat
open Go.RowKit Bal Bal.Trim Bal.Mast
set_option linter.unusedVariables false
set_option linter.unusedSimpArgs false
set_option maxHeartbeats 4000000
set_option maxRecDepth 100000

theorem a_crossX (x y LO HI : Int) (h1 : crossLo exWind ⟨x, y⟩ = LO) (h2 : crossHi exWind ⟨x, y⟩ = HI) (h3 : crossE exWind ⟨x, y⟩ = 0) (w : World) : Calls Tryz.prog 19 #[.agg #[.int .i64 0, .int .i64 30, .int .i64 40, .int .i64 40], .agg #[.int .i64 x, .int .i64 y]] w fun z w' => z = .returned (.tuple #[.agg #[.int .i64 LO, .int .i64 HI], .int .i64 0]) ∧ Kept w w' := by
  have := f_Cross exWind ⟨x, y⟩ w
  rw [h1, h2, h3] at this
  exact this
theorem a_turn (m T N E : Int) (h1 : turnI exPort.axes 0 exWind m = T) (h2 : turnN exPort.axes 0 exWind m = N) (h3 : turnE exPort.axes 0 exWind m = E) (a : Option Addr) (w : World) (hx : Row Axis.cells 2 w.heap.size w a exPort.axes) :
    Calls Tryz.prog 33 #[.slice a 3 3, .int .i64 0, .agg #[.int .i64 0, .int .i64 30, .int .i64 40, .int .i64 40], .int .i64 m] w fun z w' => z = .returned (.tuple #[.int .i64 T, .int .i64 N, .int .i64 E]) ∧ Kept w w' := by
  have := f_Turn a 3 exPort.axes 0 exWind m w hx (by decide) (by decide) (by decide)
  rw [h1, h2, h3] at this
  exact this
theorem a_man7 (a : Option Addr) (w : World) (hx : Row Span.cells 2 w.heap.size w a exPort.pulls) : Calls Tryz.prog 13 #[.slice a 3 3, .int .i64 7, .int .i64 100] w fun z w' => ∃ ad cp, z = .returned (.tuple #[.slice ad 0 cp, .int .i64 75]) ∧ Kept w w' := by
  refine (f_Man a 3 exPort.pulls 7 100 w hx (by decide) (by decide) (by decide)).mono ?_
  rintro z w' ⟨v, rfl, ho, hk⟩
  rw [show manL exPort.pulls 7 100 = [] by decide +kernel] at ho
  rw [show manE exPort.pulls 7 100 = 75 by decide +kernel]
  obtain ⟨ad, cp, rfl, hr, h1, h2⟩ := owns_row (enc := icell) (k := 1) (fun _ => rfl) ho
  exact ⟨ad, cp, rfl, hk⟩
theorem exTwice {E i k : Int} {s : List Int} (h : TwRes exTab E s i k) : E = 0 ∧ s = [4] ∧ i = 0 ∧ k = 1 := by
  rcases h with ⟨h, _⟩ | ⟨_, r, hr, rfl, rfl, rfl, rfl⟩
  · rw [exTab_ok] at h; cases h
  · have h1 := firstL_ext (valid_even exTab_ok) W2 1 0 [] rfl (by rfl) (by rfl)
    have h2 : firstL exTab W2 ((List.range' 0 1).map (starts exTab)) [] = some [4] := by decide +kernel
    rw [h2] at h1
    have := FirstExt.unique hr h1
    subst this
    exact ⟨rfl, rfl, by decide +kernel, by decide +kernel⟩
theorem a_twice (a e : Option Addr) (g2 g3 : Nat) (w : World) (ht : TabAt ⟨[⟨0, 9⟩], a, 1, exRows g2 g3, e, 2⟩ w) : Calls Tryz.prog 30 #[.agg #[.slice a 1 1, .slice e 2 2]] w fun z w' => ∃ ad cp, z = .returned (.tuple #[.slice ad 1 cp, .int .i64 0, .int .i64 1, .int .i64 0]) ∧ Row icell 1 w'.heap.size w' ad [4] ∧ 1 ≤ cp ∧ cp ≤ maxLen ∧ Kept w w' := by
  refine (f_Twice [⟨0, 9⟩] a 1 (exRows g2 g3) e 2 w ht (by decide) (by simp [exRows]) (fun x hx => by simp only [exRows, List.mem_cons, List.not_mem_nil, or_false] at hx; rcases hx with rfl | rfl <;> simp)).mono ?_
  rintro z w' ⟨ad, cp, s, E, i, k, hr, rfl, hrow, h1, h2, hk⟩
  rw [exTab_is] at hr
  obtain ⟨rfl, rfl, rfl, rfl⟩ := exTwice hr
  exact ⟨ad, cp, rfl, hrow, h1, h2, hk⟩
theorem a_calmX (w : World) : Calls Tryz.prog 22 #[.agg #[.int .i64 0, .int .i64 30, .int .i64 40, .int .i64 40], .agg #[.int .i64 1, .int .i64 0], .int .i64 2001] w fun z w' => z = .returned (.tuple #[.bool false, .int .i64 2]) ∧ Kept w w' := by
  have := f_Calm exWind ⟨1, 0⟩ 2001 w
  rw [show calmB exWind ⟨1, 0⟩ 2001 = false by decide +kernel, show calmE exWind ⟨1, 0⟩ 2001 = 2 by decide +kernel] at this
  exact this
theorem a_plan6 (a e : Option Addr) (w : World) (hx : Row Axis.cells 2 w.heap.size w a exPort.axes) (hy : Row Span.cells 2 w.heap.size w e exPort.pulls) : Calls Tryz.prog 17 #[.agg #[.slice a 3 3, .int .i64 12, .int .i64 100, .slice e 3 3, .int .i64 25], .agg #[.int .u8 0, .int .i64 0, .int .i64 0, .bool false, .bool false], .agg #[.int .i64 0, .int .i64 30, .int .i64 40, .int .i64 40], .int .u8 6] w fun z w' => ∃ ad cp, z = .returned (.tuple #[.slice ad 0 cp, .int .i64 2]) ∧ Kept w w' := by
  refine (f_Plan a 3 e 3 exPort w hx (by decide) (by decide) hy (by decide) (by decide) (by decide) (by decide) noBerth (by decide) exWind 6 ⟨by decide, by decide⟩).mono ?_
  rintro z w' ⟨v, l, E, hr, rfl, ho, hk⟩
  have hok : planErr exPort noBerth exWind 6 = 2 := by decide +kernel
  obtain ⟨rfl, rfl⟩ : E = 2 ∧ l = [] := by
    rcases hr with ⟨_, h, h'⟩ | ⟨_, h, _⟩
    · exact ⟨h.trans hok, h'⟩
    · rw [hok] at h; cases h
  obtain ⟨ad, cp, rfl, hr, h1, h2⟩ := owns_row (enc := Deed.cells) (k := 2) deed_len ho
  exact ⟨ad, cp, rfl, hk⟩
theorem a_do14 (a e : Option Addr) (w : World) (hx : Row Axis.cells 2 w.heap.size w a exPort.axes) (hy : Row Span.cells 2 w.heap.size w e exPort.pulls) : Calls Tryz.prog 23 #[.agg #[.slice a 3 3, .int .i64 12, .int .i64 100, .slice e 3 3, .int .i64 25], .agg #[.int .u8 0, .int .i64 0, .int .i64 0, .bool false, .bool false], .agg #[.int .u8 14, .int .i64 0, .int .i64 0, .int .i64 0, .int .i64 0, .int .i64 0]] w fun z w' => z = .returned (.tuple #[.agg #[.int .u8 0, .int .i64 0, .int .i64 0, .bool false, .bool false], .int .i64 0, .int .i64 2]) ∧ Kept w w' := by
  have := f_Do a 3 e 3 exPort w hx (by decide) (by decide) hy (by decide) (by decide) (by decide) (by decide) noBerth (by decide) ⟨⟨14, 0⟩, ⟨0, 0, 0, 0⟩⟩ ⟨by decide, by decide⟩
  rw [show doB exPort noBerth ⟨⟨14, 0⟩, ⟨0, 0, 0, 0⟩⟩ = noBerth by decide +kernel, show doRule exPort noBerth ⟨⟨14, 0⟩, ⟨0, 0, 0, 0⟩⟩ = 0 by decide +kernel, show doE exPort noBerth ⟨⟨14, 0⟩, ⟨0, 0, 0, 0⟩⟩ = 2 by decide +kernel] at this
  exact this
theorem a_axis0 (w : World) : Calls Tryz.prog 38 #[.agg #[.int .i64 0, .int .i64 0]] w fun z w' => z = .returned (.int .i64 70) ∧ Kept w w' := by
  have := f_CheckAxis ⟨0, 0⟩ w
  rw [show checkAxis ⟨0, 0⟩ = 70 by decide] at this
  exact this
theorem a_wind1 (w : World) : Calls Tryz.prog 39 #[.agg #[.int .i64 1, .int .i64 0, .int .i64 0, .int .i64 0]] w fun z w' => z = .returned (.int .i64 71) ∧ Kept w w' := by
  have := f_CheckWind ⟨1, 0, 0, 0⟩ w
  rw [show checkWind ⟨1, 0, 0, 0⟩ = 71 by decide] at this
  exact this
theorem a_port0 (w : World) : Calls Tryz.prog 40 #[.agg #[.slice none 0 0, .int .i64 0, .int .i64 0, .slice none 0 0, .int .i64 0]] w fun z w' => z = .returned (.int .i64 72) ∧ Kept w w' := by
  have := f_CheckPort none 0 none 0 ⟨[], 0, 0, [], 0⟩ w Row.nil (by decide) (by decide) Row.nil (by decide) (by decide) (by decide) (by decide)
  rw [show checkPort ⟨[], 0, 0, [], 0⟩ = 72 by decide] at this
  exact this
theorem a_berth2 (n : Int) (hn : checkBerth exPort ⟨2, 0, n, false, false⟩ = 73) (a e : Option Addr) (w : World) (hx : Row Axis.cells 2 w.heap.size w a exPort.axes) (hy : Row Span.cells 2 w.heap.size w e exPort.pulls) : Calls Tryz.prog 24 #[.agg #[.slice a 3 3, .int .i64 12, .int .i64 100, .slice e 3 3, .int .i64 25], .agg #[.int .u8 2, .int .i64 0, .int .i64 n, .bool false, .bool false]] w fun z w' => z = .returned (.int .i64 73) ∧ Kept w w' := by
  have := f_CheckBerth a 3 e 3 exPort w hx (by decide) (by decide) hy (by decide) (by decide) (by decide) (by decide) ⟨2, 0, n, false, false⟩ (by show (0 : Int) ≤ 2; decide)
  rw [hn] at this
  exact this
theorem a_rows0 (w : World) : Calls Tryz.prog 26 #[.agg #[.slice none 0 0, .slice none 0 0]] w fun z w' => z = .returned (.int .i64 76) ∧ Kept w w' := by
  have ht : TabAt ⟨[], none, 0, [], none, 0⟩ w := ⟨Row.nil, Row.nil, (fun x hx => by cases hx), (by decide), (by decide), (by decide), (by decide), (fun x hx => by cases hx)⟩
  have := f_CheckRows [] none 0 [] none 0 w ht (by decide) (by decide) (fun x hx => by cases hx)
  rw [show checkRows (tbOf [] []) = 76 by decide] at this
  exact this
theorem fieldA (v0 v1 v2 v3 v4 : Value) (w : World) : (Instr.field 25 (.agg #[v0, v1, v2, v3, v4]) 0).run Tryz.prog w = .ok v0 w := by kernel_rfl
attribute [local go_sem] fieldA fieldP

theorem law_MastExamples (w : World) : Calls Tryz.prog 10 #[] w fun z w' => z = .returned (.bool true) ∧ Kept w w' := by
  have HC1 := Lib.hid (fun W => a_crossX 0 1 0 30 (by decide +kernel) (by decide +kernel) (by decide +kernel) W)
  have HC2 := Lib.hid (fun W => a_crossX 1 0 40 40 (by decide +kernel) (by decide +kernel) (by decide +kernel) W)
  have HT1 := Lib.hid (fun a W h => a_turn 25 1 1 0 (by decide +kernel) (by decide +kernel) (by decide +kernel) a W h)
  have HT2 := Lib.hid (fun a W h => a_turn 39 1 1 0 (by decide +kernel) (by decide +kernel) (by decide +kernel) a W h)
  have HT3 := Lib.hid (fun a W h => a_turn 40 0 0 0 (by decide +kernel) (by decide +kernel) (by decide +kernel) a W h)
  have HT4 := Lib.hid (fun a W h => a_turn 23 0 0 6 (by decide +kernel) (by decide +kernel) (by decide +kernel) a W h)
  have HD3 := Lib.hid (show decR exTab [3] = (0, 0) by decide +kernel)
  have HD4 := Lib.hid (show decR exTab [4] = (0, 77) by decide +kernel)
  have HD9 := Lib.hid (show decR exTab [9] = (0, 6) by decide +kernel)
  have HD10 := Lib.hid (show decR exTab [10] = (0, 2) by decide +kernel)
  have HB1 := Lib.hid (show checkBerth exPort ⟨2, 0, 0, false, false⟩ = 73 by decide +kernel)
  have HB2 := Lib.hid (show checkBerth exPort ⟨2, 0, 7, false, false⟩ = 73 by decide +kernel)
  go_enter Tryz.func10, Tryz.ntmps10
  go_upto_region 2 with (first | (go_at_call 34; (with_reducible refine (o_wind _).mono ?_); rintro z wA ⟨rfl, hbA⟩) | (go_at_call 19; (with_reducible refine (HC1.out _).mono ?_); rintro z wB ⟨rfl, hbB⟩))
  refine at_world (S := fun W1 => Blk W1 wB.heap.size #[.int .i64 0, .int .i64 30] 34 ∧ Kept w W1) ⟨by (exact blkc), by (exact kpt)⟩ ?_
  obtain ⟨n1, hn1⟩ : ∃ n, n = wB.heap.size := ⟨_, rfl⟩
  rw [← hn1]
  clear hn1
  rintro W1 ⟨q1, hk⟩
  go_upto_region 3 with (first | (go_at_call 34; (with_reducible refine (o_wind _).mono ?_); rintro z wA ⟨rfl, hbA⟩) | (go_at_call 19; (with_reducible refine (HC2.out _).mono ?_); rintro z wB ⟨rfl, hbB⟩))
  refine at_world (S := fun W2 => Blk W2 n1 #[.int .i64 0, .int .i64 30] 34 ∧ Blk W2 wB.heap.size #[.int .i64 40, .int .i64 40] 34 ∧ Kept w W2) ⟨by (exact blk), by (exact blkc), by (exact kpt)⟩ ?_
  obtain ⟨n2, hn2⟩ : ∃ n, n = wB.heap.size := ⟨_, rfl⟩
  rw [← hn2]
  clear q1 hk hn2
  rintro W2 ⟨q1, q2, hk⟩
  go_upto_region 4 with (first | (go_at_call 35; (with_reducible refine (o_port _).mono ?_); rintro z wD ⟨gD, hD, rfl, hxD, hyD, hbD⟩) | (go_at_call 34; (with_reducible refine (o_wind _).mono ?_); rintro z wE ⟨rfl, hbE⟩) | (go_at_call 33; (with_reducible refine (HT1.out _ _ (hxD.later (by (exact kpt)) (Nat.le_refl _))).mono ?_); rintro z wDt ⟨rfl, hbDt⟩))
  refine at_world (S := fun W3 => Blk W3 n1 #[.int .i64 0, .int .i64 30] 34 ∧ Blk W3 n2 #[.int .i64 40, .int .i64 40] 34 ∧ Kept w W3) ⟨by (exact blk), by (exact blk), by (exact kpt)⟩ ?_
  clear q1 q2 hk
  rintro W3 ⟨q1, q2, hk⟩
  go_upto_region 5 with (first | (go_at_call 35; (with_reducible refine (o_port _).mono ?_); rintro z wD ⟨gD, hD, rfl, hxD, hyD, hbD⟩) | (go_at_call 34; (with_reducible refine (o_wind _).mono ?_); rintro z wE ⟨rfl, hbE⟩) | (go_at_call 33; (with_reducible refine (HT2.out _ _ (hxD.later (by (exact kpt)) (Nat.le_refl _))).mono ?_); rintro z wDt ⟨rfl, hbDt⟩))
  refine at_world (S := fun W4 => Blk W4 n1 #[.int .i64 0, .int .i64 30] 34 ∧ Blk W4 n2 #[.int .i64 40, .int .i64 40] 34 ∧ Kept w W4) ⟨by (exact blk), by (exact blk), by (exact kpt)⟩ ?_
  clear q1 q2 hk
  rintro W4 ⟨q1, q2, hk⟩
  go_upto_region 6 with (first | (go_at_call 35; (with_reducible refine (o_port _).mono ?_); rintro z wD ⟨gD, hD, rfl, hxD, hyD, hbD⟩) | (go_at_call 34; (with_reducible refine (o_wind _).mono ?_); rintro z wE ⟨rfl, hbE⟩) | (go_at_call 33; (with_reducible refine (HT3.out _ _ (hxD.later (by (exact kpt)) (Nat.le_refl _))).mono ?_); rintro z wDt ⟨rfl, hbDt⟩))
  refine at_world (S := fun W5 => Blk W5 n1 #[.int .i64 0, .int .i64 30] 34 ∧ Blk W5 n2 #[.int .i64 40, .int .i64 40] 34 ∧ Kept w W5) ⟨by (exact blk), by (exact blk), by (exact kpt)⟩ ?_
  clear q1 q2 hk
  rintro W5 ⟨q1, q2, hk⟩
  go_upto_region 7 with (first | (go_at_call 35; (with_reducible refine (o_port _).mono ?_); rintro z wD ⟨gD, hD, rfl, hxD, hyD, hbD⟩) | (go_at_call 13; (with_reducible refine (a_man7 _ _ (hyD.later (by (exact kpt)) (Nat.le_refl _))).mono ?_); rintro z wM ⟨aM, cM, rfl, hbM⟩))
  refine at_world (S := fun W6 => Blk W6 n1 #[.int .i64 0, .int .i64 30] 34 ∧ Blk W6 n2 #[.int .i64 40, .int .i64 40] 34 ∧ Kept w W6) ⟨by (exact blk), by (exact blk), by (exact kpt)⟩ ?_
  clear q1 q2 hk
  rintro W6 ⟨q1, q2, hk⟩
  go_upto_region 8 with (first | (go_at_call 35; (with_reducible refine (o_port _).mono ?_); rintro z wD ⟨gD, hD, rfl, hxD, hyD, hbD⟩) | (go_at_call 34; (with_reducible refine (o_wind _).mono ?_); rintro z wE ⟨rfl, hbE⟩) | (go_at_call 33; (with_reducible refine (HT4.out _ _ (hxD.later (by (exact kpt)) (Nat.le_refl _))).mono ?_); rintro z wDt ⟨rfl, hbDt⟩))
  refine at_world (S := fun W7 => Blk W7 n1 #[.int .i64 0, .int .i64 30] 34 ∧ Blk W7 n2 #[.int .i64 40, .int .i64 40] 34 ∧ Kept w W7) ⟨by (exact blk), by (exact blk), by (exact kpt)⟩ ?_
  clear q1 q2 hk
  rintro W7 ⟨q1, q2, hk⟩
  have q1c0 := q1.cell 0
  have q1f0 := q1.free 0
  have q1c1 := q1.cell 1
  have q1f1 := q1.free 1
  have q1l := q1.lt
  simp at q1c0 q1c1
  have q2c0 := q2.cell 0
  have q2f0 := q2.free 0
  have q2c1 := q2.cell 1
  have q2f1 := q2.free 1
  have q2l := q2.lt
  simp at q2c0 q2c1
  go_upto_region 10 with (go_at_call 11; (with_reducible refine (o_alive _).mono ?_); rintro z wA ⟨rfl, hbA⟩; refine Blk.thru (b := n1) (arr := ?_) (t := ?_) ?_ hbA ?_; rotate_left 2; (focus (exact blk)); intro u1; have u1c0 := u1.cell 0; have u1f0 := u1.free 0; have u1c1 := u1.cell 1; have u1f1 := u1.free 1; have u1l := u1.lt; simp at u1c0 u1c1; refine Blk.thru (b := n2) (arr := ?_) (t := ?_) ?_ hbA ?_; rotate_left 2; (focus (exact blk)); intro u2; have u2c0 := u2.cell 0; have u2f0 := u2.free 0; have u2c1 := u2.cell 1; have u2f1 := u2.free 1; have u2l := u2.lt; simp at u2c0 u2c1)
  refine at_world (S := fun W8 => Kept w W8) (by (exact kpt)) ?_
  clear hk
  rintro W8 hk
  go_upto_region 11 with (first | (go_at_call 36; (with_reducible refine (o_table _).mono ?_); rintro z wF ⟨gF, kF, lF, hF, rfl, htF, hbF⟩) | (go_at_call 30; (with_reducible refine (a_twice _ _ _ _ _ (htF.later (by (exact kpt)))).mono ?_); rintro z wG ⟨aG, cG, rfl, hG, hG1, hG2, hbG⟩))
  refine at_world (S := fun W9 => Row icell 1 W9.heap.size W9 aG [4] ∧ Kept w W9) ⟨(hG.later (by (exact kpt)) (Nat.le_refl _)), by (exact kpt)⟩ ?_
  clear hk
  rintro W9 ⟨r3, hk⟩
  go_upto_region 12 with (first | (go_at_call 36; (with_reducible refine (o_table _).mono ?_); rintro z wF ⟨gF, kF, lF, hF, rfl, htF, hbF⟩) | (go_at_call 28; (with_reducible refine (a_dec 0 3 0 0 _ HD3.out _ _ _ _ _ (htF.later (by (exact kpt))) ?_).mono ?_); (focus (exact blk)); rintro z wH ⟨rfl, hbH⟩))
  refine at_world (S := fun W10 => Row icell 1 W10.heap.size W10 aG [4] ∧ Kept w W10) ⟨(r3.later (by (exact kpt)) (Nat.le_refl _)), by (exact kpt)⟩ ?_
  clear r3 hk
  rintro W10 ⟨r3, hk⟩
  go_upto_region 13 with (first | (go_at_call 36; (with_reducible refine (o_table _).mono ?_); rintro z wF ⟨gF, kF, lF, hF, rfl, htF, hbF⟩) | (go_at_call 28; (with_reducible refine (a_dec 0 4 0 77 _ HD4.out _ _ _ _ _ (htF.later (by (exact kpt))) ?_).mono ?_); (focus (exact blk)); rintro z wH ⟨rfl, hbH⟩))
  refine at_world (S := fun W11 => Row icell 1 W11.heap.size W11 aG [4] ∧ Kept w W11) ⟨(r3.later (by (exact kpt)) (Nat.le_refl _)), by (exact kpt)⟩ ?_
  clear r3 hk
  rintro W11 ⟨r3, hk⟩
  go_upto_region 14 with (first | (go_at_call 36; (with_reducible refine (o_table _).mono ?_); rintro z wF ⟨gF, kF, lF, hF, rfl, htF, hbF⟩) | (go_at_call 28; (with_reducible refine (a_dec 0 9 0 6 _ HD9.out _ _ _ _ _ (htF.later (by (exact kpt))) ?_).mono ?_); (focus (exact blk)); rintro z wH ⟨rfl, hbH⟩))
  refine at_world (S := fun W12 => Row icell 1 W12.heap.size W12 aG [4] ∧ Kept w W12) ⟨(r3.later (by (exact kpt)) (Nat.le_refl _)), by (exact kpt)⟩ ?_
  clear r3 hk
  rintro W12 ⟨r3, hk⟩
  go_upto_region 15 with (first | (go_at_call 36; (with_reducible refine (o_table _).mono ?_); rintro z wF ⟨gF, kF, lF, hF, rfl, htF, hbF⟩) | (go_at_call 28; (with_reducible refine (a_dec 0 10 0 2 _ HD10.out _ _ _ _ _ (htF.later (by (exact kpt))) ?_).mono ?_); (focus (exact blk)); rintro z wH ⟨rfl, hbH⟩))
  refine at_world (S := fun W13 => Row icell 1 W13.heap.size W13 aG [4] ∧ Kept w W13) ⟨(r3.later (by (exact kpt)) (Nat.le_refl _)), by (exact kpt)⟩ ?_
  clear r3 hk
  rintro W13 ⟨r3, hk⟩
  go_upto_region 16 with (first | (go_at_call 34; (with_reducible refine (o_wind _).mono ?_); rintro z wA ⟨rfl, hbA⟩) | (go_at_call 22; (with_reducible refine (a_calmX _).mono ?_); rintro z wB ⟨rfl, hbB⟩))
  refine at_world (S := fun W14 => Row icell 1 W14.heap.size W14 aG [4] ∧ Kept w W14) ⟨(r3.later (by (exact kpt)) (Nat.le_refl _)), by (exact kpt)⟩ ?_
  clear r3 hk
  rintro W14 ⟨r3, hk⟩
  go_upto_region 17 with (first | (go_at_call 35; (with_reducible refine (o_port _).mono ?_); rintro z wD ⟨gD, hD, rfl, hxD, hyD, hbD⟩) | (go_at_call 34; (with_reducible refine (o_wind _).mono ?_); rintro z wE ⟨rfl, hbE⟩) | (go_at_call 17; (with_reducible refine (a_plan6 _ _ _ (hxD.later (by (exact kpt)) (Nat.le_refl _)) (hyD.later (by (exact kpt)) (Nat.le_refl _))).mono ?_); rintro z wL ⟨aL, cL, rfl, hbL⟩))
  refine at_world (S := fun W15 => Row icell 1 W15.heap.size W15 aG [4] ∧ Kept w W15) ⟨(r3.later (by (exact kpt)) (Nat.le_refl _)), by (exact kpt)⟩ ?_
  clear r3 hk
  rintro W15 ⟨r3, hk⟩
  go_wp2_with (first | (go_at_call 35; (with_reducible refine (o_port _).mono ?_); rintro z wD ⟨gD, hD, rfl, hxD, hyD, hbD⟩) | (go_at_call 23; (with_reducible refine (a_do14 _ _ _ (hxD.later (by (exact kpt)) (Nat.le_refl _)) (hyD.later (by (exact kpt)) (Nat.le_refl _))).mono ?_); rintro z wD ⟨rfl, hbD⟩) | (go_at_call 37; (with_reducible refine (a_ints1 _ _ _ 4 _ (r3.later (by (exact kpt)) (Nat.le_refl _)) hG1 hG2 ?_).mono ?_); (focus (exact blk)); rintro e w9 ⟨rfl, hb9⟩) | (go_at_call 38; (with_reducible refine (a_axis0 _).mono ?_); rintro z wp ⟨rfl, hbp⟩) | (go_at_call 39; (with_reducible refine (a_wind1 _).mono ?_); rintro z wq ⟨rfl, hbq⟩) | (go_at_call 40; (with_reducible refine (a_port0 _).mono ?_); rintro z wr ⟨rfl, hbr⟩) | (go_at_call 24; (with_reducible refine (a_berth2 0 HB1.out _ _ _ (hxD.later (by (exact kpt)) (Nat.le_refl _)) (hyD.later (by (exact kpt)) (Nat.le_refl _))).mono ?_); rintro z ws ⟨rfl, hbs⟩) | (go_at_call 24; (with_reducible refine (a_berth2 7 HB2.out _ _ _ (hxD.later (by (exact kpt)) (Nat.le_refl _)) (hyD.later (by (exact kpt)) (Nat.le_refl _))).mono ?_); rintro z wt ⟨rfl, hbt⟩) | (go_at_call 26; (with_reducible refine (a_rows0 _).mono ?_); rintro z wu ⟨rfl, hbu⟩))
  go_ret
  exact ⟨rfl, by (exact kpt)⟩
end Go.Proofs.YtacbkbilbmkjnaaGreat

/-
  MastExamples, the statement: the call returns true.
-/
namespace Go.Proofs.YtacbkbilbmkjnaaGreat.mastExamples
open Go.ChangeShapes Go.WideShapes Go.ChangeAt Go.RowKit Bal Bal.Trim Bal.Mast
open Go.ChangeMaps (open_string shut_string)
set_option linter.unusedVariables false

theorem own : ownKnob Tryz.prog.godebug = none := by kernel_rfl
theorem laidOut : laidOutB Tryz.prog = true := by kernel_rfl

set_option maxRecDepth 100000 in
theorem lifted (os : Os) (started : os.Started) (H : Type) (enc : TypeId × Value → H) :
    ReturnsInHanded {} Tryz.checked os 10 .any (Rows.mastExamplesSpec.pre6 enc Tryz.prog Tryz.f10 Rows.mastExamplesRow.domain false) (Rows.mastExamplesSpec.post enc Tryz.prog Tryz.f10 false true false false) := by
  refine returnsInHanded_of_change (C := Tryz.checked) own started (by kernel_rfl) Tryz.func10
    (ChangeSpec.witness6 (enc := enc) (C := Tryz.checked) false ⟨#[], #[], []⟩ 8 (by kernel_rfl) (by kernel_rfl) (by kernel_rfl) (by kernel_rfl)) ?_
  intro W base args ds gs before hval0 hW hcnd _
  have hval : ∀ (j : Nat) t v, Tryz.f10.params[j]? = some t → args[j]? = some v → Value.okWide Tryz.prog W .any base t v := hval0
  have hW' := hW
  obtain ⟨p, q, hA0, hV, rfl, hfz, hnd⟩ := hW
  have hA : DataW.TrodAll enc Tryz.prog W 0 (fun _ => true) true Tryz.f10.params.toList args.toList ds p := hA0
  rw [Tryz.params10] at hA hval
  obtain ⟨hargs, rfl, rfl⟩ := trodAll_nil hA
  obtain rfl : args = #[] := by cases args; simp_all
  obtain ⟨rfl, rfl⟩ := trodVars_none hV
  clear hA0 hval0
  refine (law_MastExamples W).mono fun e W' ⟨he, bel⟩ => ?_
  subst he
  exact ⟨_, rfl, _, _, _, [], _, [], hW', trodAll_mk1 (shut_bool Tryz.underlying4 _), trodAll_mk0, rfl, bel.frame _, fun h => by cases h⟩

theorem joined : joinedFacts Tryz.prog 10 Tryz.f10 Rows.mastExamplesSpec Rows.mastExamplesRow = true := by
  unfold joinedFacts
  rw [mayEnter_is, liftsFinal_is, make_is]
  kernel_rfl
theorem over : Rows.mastExamplesRow.holds Tryz.pinned (OpenSpec.ofChange Rows.mastExamplesSpec) :=
  OpenClaim.holds_of_wide 10 Tryz.f10 rfl rfl rfl rfl rfl rfl rfl ⟨rfl, rfl, rfl, rfl, rfl⟩ rfl rfl rfl rfl rfl (by kernel_rfl) Tryz.func10 joined
    (of_decide_eq_true (by kernel_rfl)) (by unfold Func.isWrapper; first | (rw [if_pos (by decide +kernel)]; kernel_rfl) | (rw [if_neg (by decide +kernel)]; exact ⟨rfl, rfl⟩))
    (fun os started H enc _ => lifted os started H enc)
end Go.Proofs.YtacbkbilbmkjnaaGreat.mastExamples

namespace Go.Proofs.YtacbkbilbmkjnaaGreat
theorem mastExamples_holds : Rows.MastExamplesSaid := mastExamples.over
#print axioms mastExamples_holds
end Go.Proofs.YtacbkbilbmkjnaaGreat
