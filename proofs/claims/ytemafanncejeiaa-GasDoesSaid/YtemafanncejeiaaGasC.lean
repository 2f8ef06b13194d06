/-
  A cell in air: its volumes, and how it fits.
-/
import Derived.Test.YtemafanncejeiaaGasB
namespace Go.Proofs.Ytemafanncejeiaa
open Go.RowKit Bal Bal.Trim Bal.Gas
set_option linter.unusedVariables false
set_option linter.unusedSimpArgs false
set_option maxHeartbeats 400000

theorem f_put_bad (c : Cell) (a : Air) (w : World) (hv : cellB c = false) :
    Calls Try.prog 80 #[.agg #[.int .i64 c.room, .int .i64 c.helium, .int .i64 c.air, .int .i64 c.wlo, .int .i64 c.whi, .int .i64 c.leak, .int .i64 c.owed], .agg #[.int .i64 a.plo, .int .i64 a.phi, .int .i64 a.tlo, .int .i64 a.thi]] w fun e w' => e = .returned (.tuple #[.agg #[.int .i64 0, .int .i64 0, .int .i64 0, .int .i64 0, .int .i64 0, .int .i64 0, .int .i64 0, .int .i64 0, .int .i64 0, .int .i64 0, .int .i64 0, .int .i64 0, .int .i64 0, .int .i64 0], .int .i64 31]) ∧ Kept w w' := by
  have he : checkCell c = 31 := by unfold checkCell; rw [hv]; rfl
  go_enter Try.func80, Try.ntmps80
  go_wp2_with (go_at_call 28; (with_reducible refine (f_CheckCell _ _).mono ?_); rintro e w1 ⟨rfl, hb1⟩; obtain ⟨hc1, hf1, hl1⟩ := bcell3 hb1)
  exact bodyPost_ret (v := .tuple #[.agg #[.int .i64 0, .int .i64 0, .int .i64 0, .int .i64 0, .int .i64 0, .int .i64 0, .int .i64 0, .int .i64 0, .int .i64 0, .int .i64 0, .int .i64 0, .int .i64 0, .int .i64 0, .int .i64 0], .int .i64 31]) (by simp [results, Try.results80, go_sem, hc1, hf1]) rfl ⟨rfl, by (exact kpt)⟩

theorem f_put_ok (c : Cell) (a : Air) (w : World) (hv : cellB c = true) :
    Calls Try.prog 80 #[.agg #[.int .i64 c.room, .int .i64 c.helium, .int .i64 c.air, .int .i64 c.wlo, .int .i64 c.whi, .int .i64 c.leak, .int .i64 c.owed], .agg #[.int .i64 a.plo, .int .i64 a.phi, .int .i64 a.tlo, .int .i64 a.thi]] w fun e w' => e = .returned (.tuple #[.agg #[.int .i64 c.room, .int .i64 c.helium, .int .i64 c.air, .int .i64 c.wlo, .int .i64 c.whi, .int .i64 c.leak, .int .i64 c.owed, .int .i64 a.plo, .int .i64 a.phi, .int .i64 a.tlo, .int .i64 a.thi, .int .i64 (c.helium + c.air), .int .i64 (wrap64 (a.tlo + c.wlo)), .int .i64 (wrap64 (a.thi + c.whi))], .int .i64 (checkAir a)]) ∧ Kept w w' := by
  have he : checkCell c = 0 := by unfold checkCell; rw [hv]; rfl
  obtain ⟨_, ⟨u1, u2⟩, ⟨u3, u4⟩, _⟩ := cellB_iff.1 hv
  clear hv
  go_enter Try.func80, Try.ntmps80
  go_wp2_with (go_at_call 28; (with_reducible refine (f_CheckCell _ _).mono ?_); rintro e w1 ⟨rfl, hb1⟩)
  refine at_world (S := fun W => Blk W w.heap.size #[.int .i64 c.room, .int .i64 c.helium, .int .i64 c.air, .int .i64 c.wlo, .int .i64 c.whi, .int .i64 c.leak, .int .i64 c.owed] 25 ∧ Blk W (w.heap.size + 1) #[.int .i64 a.plo, .int .i64 a.phi, .int .i64 a.tlo, .int .i64 a.thi] 27 ∧ Blk W (w.heap.size + 1 + 1) #[.int .i64 0, .int .i64 0, .int .i64 0, .int .i64 0, .int .i64 0, .int .i64 0, .int .i64 0, .int .i64 0, .int .i64 0, .int .i64 0, .int .i64 0, .int .i64 0, .int .i64 0, .int .i64 0] 144 ∧ Kept w W) ⟨by (exact blk), by (exact blk), by (exact blk), by (exact kpt)⟩ ?_
  rintro W ⟨r0, r1, r2, hk⟩
  have r0c0 := fun g : Later W => (r0.later g).cell 0
  have r0f0 := fun g : Later W => (r0.later g).free 0
  have r0c1 := fun g : Later W => (r0.later g).cell 1
  have r0f1 := fun g : Later W => (r0.later g).free 1
  have r0c2 := fun g : Later W => (r0.later g).cell 2
  have r0f2 := fun g : Later W => (r0.later g).free 2
  have r0c3 := fun g : Later W => (r0.later g).cell 3
  have r0f3 := fun g : Later W => (r0.later g).free 3
  have r0c4 := fun g : Later W => (r0.later g).cell 4
  have r0f4 := fun g : Later W => (r0.later g).free 4
  have r0c5 := fun g : Later W => (r0.later g).cell 5
  have r0f5 := fun g : Later W => (r0.later g).free 5
  have r0c6 := fun g : Later W => (r0.later g).cell 6
  have r0f6 := fun g : Later W => (r0.later g).free 6
  have r0l := fun g : Later W => (r0.later g).lt
  simp at r0c0 r0c1 r0c2 r0c3 r0c4 r0c5 r0c6
  have r1c0 := fun g : Later W => (r1.later g).cell 0
  have r1f0 := fun g : Later W => (r1.later g).free 0
  have r1c1 := fun g : Later W => (r1.later g).cell 1
  have r1f1 := fun g : Later W => (r1.later g).free 1
  have r1c2 := fun g : Later W => (r1.later g).cell 2
  have r1f2 := fun g : Later W => (r1.later g).free 2
  have r1c3 := fun g : Later W => (r1.later g).cell 3
  have r1f3 := fun g : Later W => (r1.later g).free 3
  have r1l := fun g : Later W => (r1.later g).lt
  simp at r1c0 r1c1 r1c2 r1c3
  have r2c0 := fun g : Later W => (r2.later g).cell 0
  have r2f0 := fun g : Later W => (r2.later g).free 0
  have r2c1 := fun g : Later W => (r2.later g).cell 1
  have r2f1 := fun g : Later W => (r2.later g).free 1
  have r2c2 := fun g : Later W => (r2.later g).cell 2
  have r2f2 := fun g : Later W => (r2.later g).free 2
  have r2c3 := fun g : Later W => (r2.later g).cell 3
  have r2f3 := fun g : Later W => (r2.later g).free 3
  have r2c4 := fun g : Later W => (r2.later g).cell 4
  have r2f4 := fun g : Later W => (r2.later g).free 4
  have r2c5 := fun g : Later W => (r2.later g).cell 5
  have r2f5 := fun g : Later W => (r2.later g).free 5
  have r2c6 := fun g : Later W => (r2.later g).cell 6
  have r2f6 := fun g : Later W => (r2.later g).free 6
  have r2c7 := fun g : Later W => (r2.later g).cell 7
  have r2f7 := fun g : Later W => (r2.later g).free 7
  have r2c8 := fun g : Later W => (r2.later g).cell 8
  have r2f8 := fun g : Later W => (r2.later g).free 8
  have r2c9 := fun g : Later W => (r2.later g).cell 9
  have r2f9 := fun g : Later W => (r2.later g).free 9
  have r2c10 := fun g : Later W => (r2.later g).cell 10
  have r2f10 := fun g : Later W => (r2.later g).free 10
  have r2c11 := fun g : Later W => (r2.later g).cell 11
  have r2f11 := fun g : Later W => (r2.later g).free 11
  have r2c12 := fun g : Later W => (r2.later g).cell 12
  have r2f12 := fun g : Later W => (r2.later g).free 12
  have r2c13 := fun g : Later W => (r2.later g).cell 13
  have r2f13 := fun g : Later W => (r2.later g).free 13
  have r2l := fun g : Later W => (r2.later g).lt
  simp at r2c0 r2c1 r2c2 r2c3 r2c4 r2c5 r2c6 r2c7 r2c8 r2c9 r2c10 r2c11 r2c12 r2c13
  refine later_mix [(false, 0), (false, 1), (false, 2), (false, 3), (false, 4), (false, 5), (false, 6), (false, 7), (false, 8), (false, 9), (false, 10), (false, 11), (false, 12), (false, 13), (false, 14)] 15 [16] (by kernel_rfl) (by kernel_rfl) ?_
  simp only [List.filterMap_cons, List.filterMap_nil, List.getElem?_cons_zero, List.getElem?_cons_succ, Option.map_some]
  repeat (refine wpSteps_quiet ?_; (first | go_big_quiet_skip | (go_big_quiet_want; go_big_quiet_op; first | go_big_quiet_on | (apply Exists.intro; refine ⟨fun g => ?_, ?_⟩; (focus (first | (go_at_call 93; exact Later.call (f_heated _ _ _ _ _)) | (go_at_call 26; exact Later.call (f_CheckAir a _)))); go_big_quiet_on))); refine wpQuiet_nil ?_)
  refine wpSteps_nil ?_
  intro gg
  have hkg := Kept.drop hk gg.ok
  go_wp2
  refine NoPanic.normal ?_
  go_wp2
  exact bodyPost_ret (v := .tuple #[.agg #[.int .i64 c.room, .int .i64 c.helium, .int .i64 c.air, .int .i64 c.wlo, .int .i64 c.whi, .int .i64 c.leak, .int .i64 c.owed, .int .i64 a.plo, .int .i64 a.phi, .int .i64 a.tlo, .int .i64 a.thi, .int .i64 (c.helium + c.air), .int .i64 (wrap64 (a.tlo + c.wlo)), .int .i64 (wrap64 (a.thi + c.whi))], .int .i64 (checkAir a)]) (by simp [results, Try.results80, go_sem, r2c0, r2f0, r2c1, r2f1, r2c2, r2f2, r2c3, r2f3, r2c4, r2f4, r2c5, r2f5, r2c6, r2f6, r2c7, r2f7, r2c8, r2f8, r2c9, r2f9, r2c10, r2f10, r2c11, r2f11, r2c12, r2f12, r2c13, r2f13]) rfl ⟨rfl, by (exact kpt)⟩

end Go.Proofs.Ytemafanncejeiaa
