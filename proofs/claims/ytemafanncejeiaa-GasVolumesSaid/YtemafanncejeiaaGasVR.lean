/-
  Volumes and fits in the reference.
-/
import Derived.Test.YtemafanncejeiaaGasRA
namespace Go.Proofs.Ytemafanncejeiaa
open Go.RowKit Bal Bal.Trim Bal.Gas
set_option linter.unusedVariables false
set_option linter.unusedSimpArgs false
set_option maxHeartbeats 400000

theorem r_Volume_bad (c : Cell) (a : Air) (w : World) (hv : cellB c = false) :
    Calls Try.prog 23 #[.agg #[.int .i64 c.room, .int .i64 c.helium, .int .i64 c.air, .int .i64 c.wlo, .int .i64 c.whi, .int .i64 c.leak, .int .i64 c.owed], .agg #[.int .i64 a.plo, .int .i64 a.phi, .int .i64 a.tlo, .int .i64 a.thi]] w fun e w' => e = .returned (.tuple #[.agg #[.int .i64 0, .int .i64 0], .int .i64 31]) ∧ Kept w w' := by
  go_enter Try.func23, Try.ntmps23
  go_wp2_with (go_at_call 82; (with_reducible refine (r_asked c a _).mono ?_); rw [asked_cell hv]; rintro e w1 ⟨rfl, hb1⟩; obtain ⟨hc1, hf1, hl1⟩ := bcell3 hb1)
  exact bodyPost_ret (v := .tuple #[.agg #[.int .i64 0, .int .i64 0], .int .i64 31]) (by simp [results, Try.results23, go_sem, hc1, hf1, hl1]) rfl ⟨rfl, by (repeat (first | with_reducible exact Below.refl _ _ | with_reducible assumption | with_reducible refine Kept.drop ?_ (by with_reducible assumption) | with_reducible refine Kept.alloc ?_ _ | ((with_reducible refine Below.setCell ?_ ?_ _); rotate_left 1; (focus (first | exact Nat.le_refl _ | (simp; done) | (simp; omega) | exact Below.size (by with_reducible assumption) | (refine Kept.size ?_; (repeat (first | with_reducible exact Below.refl _ _ | with_reducible assumption | with_reducible refine Kept.drop ?_ (by with_reducible assumption) | with_reducible refine Kept.alloc ?_ _ | with_reducible refine Below.drew ?_)))))) | with_reducible refine Below.drew ?_))⟩

theorem r_Volume_air (c : Cell) (a : Air) (w : World) (hv : cellB c = true) (ha : airB a = false) :
    Calls Try.prog 23 #[.agg #[.int .i64 c.room, .int .i64 c.helium, .int .i64 c.air, .int .i64 c.wlo, .int .i64 c.whi, .int .i64 c.leak, .int .i64 c.owed], .agg #[.int .i64 a.plo, .int .i64 a.phi, .int .i64 a.tlo, .int .i64 a.thi]] w fun e w' => e = .returned (.tuple #[.agg #[.int .i64 0, .int .i64 0], .int .i64 30]) ∧ Kept w w' := by
  go_enter Try.func23, Try.ntmps23
  go_wp2_with (go_at_call 82; (with_reducible refine (r_asked c a _).mono ?_); rw [asked_air hv ha]; rintro e w1 ⟨rfl, hb1⟩; obtain ⟨hc1, hf1, hl1⟩ := bcell3 hb1)
  exact bodyPost_ret (v := .tuple #[.agg #[.int .i64 0, .int .i64 0], .int .i64 30]) (by simp [results, Try.results23, go_sem, hc1, hf1, hl1]) rfl ⟨rfl, by (repeat (first | with_reducible exact Below.refl _ _ | with_reducible assumption | with_reducible refine Kept.drop ?_ (by with_reducible assumption) | with_reducible refine Kept.alloc ?_ _ | ((with_reducible refine Below.setCell ?_ ?_ _); rotate_left 1; (focus (first | exact Nat.le_refl _ | (simp; done) | (simp; omega) | exact Below.size (by with_reducible assumption) | (refine Kept.size ?_; (repeat (first | with_reducible exact Below.refl _ _ | with_reducible assumption | with_reducible refine Kept.drop ?_ (by with_reducible assumption) | with_reducible refine Kept.alloc ?_ _ | with_reducible refine Below.drew ?_)))))) | with_reducible refine Below.drew ?_))⟩

theorem r_Volume_ok (c : Cell) (a : Air) (w : World) (hv : cellB c = true) (ha : airB a = true) :
    Calls Try.prog 23 #[.agg #[.int .i64 c.room, .int .i64 c.helium, .int .i64 c.air, .int .i64 c.wlo, .int .i64 c.whi, .int .i64 c.leak, .int .i64 c.owed], .agg #[.int .i64 a.plo, .int .i64 a.phi, .int .i64 a.tlo, .int .i64 a.thi]] w fun e w' => e = .returned (.tuple #[.agg #[.int .i64 (volLo c a), .int .i64 (volHi c a)], .int .i64 0]) ∧ Kept w w' := by
  obtain ⟨n0, n1, ⟨p0, p1, p2⟩, q0, q1, q2, q3⟩ := prod_bd hv ha
  obtain ⟨⟨h7, h8, h9⟩, h10, h11, h12⟩ := airB_iff.1 ha
  have HB := Lib.hid (show -1000000 ≤ a.tlo ∧ a.tlo ≤ 1000000 ∧ -1000000 ≤ a.thi ∧ a.thi ≤ 1000000 ∧ -1000000 ≤ c.wlo ∧ c.wlo ≤ 1000000 ∧ -1000000 ≤ c.whi ∧ c.whi ≤ 1000000 by have := cellB_iff.1 hv; omega)
  have K1 := Lib.hid (show 0 < a.phi ∧ a.phi ≤ 1000000000000000 ∧ -1000000000000000 ≤ amount c * heatLo c a ∧ amount c * heatLo c a ≤ 1000000000000000 by omega)
  have K2 := Lib.hid (show 0 < a.plo ∧ a.plo ≤ 1000000000000000 ∧ -1000000000000000 ≤ amount c * heatHi c a ∧ amount c * heatHi c a ≤ 1000000000000000 by omega)
  have HV := Lib.hid hv
  have HA := Lib.hid (asked_ok hv ha)
  clear hv ha
  go_enter Try.func23, Try.ntmps23
  go_wp2_with (first | (go_at_call 82; (with_reducible refine (r_asked c a _).mono ?_); rw [HA.out]; rintro e w1 ⟨rfl, hb1⟩; obtain ⟨hc1, hf1, hl1⟩ := bcell3 hb1) | (go_at_call 83; (with_reducible refine (r_heat_ok a.tlo a.thi c.wlo c.whi _ HB.out).mono ?_); rintro e w1 ⟨rfl, hb1⟩; obtain ⟨hc1, hf1, hl1⟩ := bcell3 hb1))
  refine at_world (S := fun W => Blk W w.heap.size #[.int .i64 c.room, .int .i64 c.helium, .int .i64 c.air, .int .i64 c.wlo, .int .i64 c.whi, .int .i64 c.leak, .int .i64 c.owed] 25 ∧ Blk W (w.heap.size + 1) #[.int .i64 a.plo, .int .i64 a.phi, .int .i64 a.tlo, .int .i64 a.thi] 27 ∧ Blk W (w.heap.size + 1 + 1) #[.int .i64 0, .int .i64 0] 23 ∧ Blk W w1.heap.size #[.int .i64 (heatLo c a), .int .i64 (heatHi c a)] 23 ∧ Kept w W) ⟨by (repeat (first | with_reducible assumption | ((with_reducible refine Blk.new' ?_); first | with_reducible rfl | (simp; done) | (simp [World.drew]; done)) | with_reducible refine Blk.alloc ?_ _ | ((with_reducible refine Blk.set (arr := ?_) ?_ _ _); rotate_left 1) | ((with_reducible refine Blk.other ?_ ?_ _); rotate_left 1; (focus (first | (simp; done) | (simp; omega) | (refine Nat.ne_of_gt (Blk.lt (arr := ?_) (t := ?_) ?_); rotate_left 2; focus (repeat (first | with_reducible assumption | ((with_reducible refine Blk.new' ?_); first | with_reducible rfl | (simp; done) | (simp [World.drew]; done)) | with_reducible refine Blk.alloc ?_ _ | with_reducible refine Blk.keep ?_ (by with_reducible assumption) | with_reducible refine Blk.drew ?_))) | (refine Nat.ne_of_lt (Blk.lt (arr := ?_) (t := ?_) ?_); rotate_left 2; focus (repeat (first | with_reducible assumption | ((with_reducible refine Blk.new' ?_); first | with_reducible rfl | (simp; done) | (simp [World.drew]; done)) | with_reducible refine Blk.alloc ?_ _ | with_reducible refine Blk.keep ?_ (by with_reducible assumption) | with_reducible refine Blk.drew ?_)))))) | with_reducible refine Blk.keep ?_ (by with_reducible assumption) | with_reducible refine Blk.drew ?_)), by (repeat (first | with_reducible assumption | ((with_reducible refine Blk.new' ?_); first | with_reducible rfl | (simp; done) | (simp [World.drew]; done)) | with_reducible refine Blk.alloc ?_ _ | ((with_reducible refine Blk.set (arr := ?_) ?_ _ _); rotate_left 1) | ((with_reducible refine Blk.other ?_ ?_ _); rotate_left 1; (focus (first | (simp; done) | (simp; omega) | (refine Nat.ne_of_gt (Blk.lt (arr := ?_) (t := ?_) ?_); rotate_left 2; focus (repeat (first | with_reducible assumption | ((with_reducible refine Blk.new' ?_); first | with_reducible rfl | (simp; done) | (simp [World.drew]; done)) | with_reducible refine Blk.alloc ?_ _ | with_reducible refine Blk.keep ?_ (by with_reducible assumption) | with_reducible refine Blk.drew ?_))) | (refine Nat.ne_of_lt (Blk.lt (arr := ?_) (t := ?_) ?_); rotate_left 2; focus (repeat (first | with_reducible assumption | ((with_reducible refine Blk.new' ?_); first | with_reducible rfl | (simp; done) | (simp [World.drew]; done)) | with_reducible refine Blk.alloc ?_ _ | with_reducible refine Blk.keep ?_ (by with_reducible assumption) | with_reducible refine Blk.drew ?_)))))) | with_reducible refine Blk.keep ?_ (by with_reducible assumption) | with_reducible refine Blk.drew ?_)), by (repeat (first | with_reducible assumption | ((with_reducible refine Blk.new' ?_); first | with_reducible rfl | (simp; done) | (simp [World.drew]; done)) | with_reducible refine Blk.alloc ?_ _ | ((with_reducible refine Blk.set (arr := ?_) ?_ _ _); rotate_left 1) | ((with_reducible refine Blk.other ?_ ?_ _); rotate_left 1; (focus (first | (simp; done) | (simp; omega) | (refine Nat.ne_of_gt (Blk.lt (arr := ?_) (t := ?_) ?_); rotate_left 2; focus (repeat (first | with_reducible assumption | ((with_reducible refine Blk.new' ?_); first | with_reducible rfl | (simp; done) | (simp [World.drew]; done)) | with_reducible refine Blk.alloc ?_ _ | with_reducible refine Blk.keep ?_ (by with_reducible assumption) | with_reducible refine Blk.drew ?_))) | (refine Nat.ne_of_lt (Blk.lt (arr := ?_) (t := ?_) ?_); rotate_left 2; focus (repeat (first | with_reducible assumption | ((with_reducible refine Blk.new' ?_); first | with_reducible rfl | (simp; done) | (simp [World.drew]; done)) | with_reducible refine Blk.alloc ?_ _ | with_reducible refine Blk.keep ?_ (by with_reducible assumption) | with_reducible refine Blk.drew ?_)))))) | with_reducible refine Blk.keep ?_ (by with_reducible assumption) | with_reducible refine Blk.drew ?_)), by (refine Blk.cast (arr := ?_) ?_ ?_; rotate_left 1; (focus (repeat (first | with_reducible assumption | ((with_reducible refine Blk.new' ?_); first | with_reducible rfl | (simp; done) | (simp [World.drew]; done)) | with_reducible refine Blk.alloc ?_ _ | ((with_reducible refine Blk.set (arr := ?_) ?_ _ _); rotate_left 1) | ((with_reducible refine Blk.other ?_ ?_ _); rotate_left 1; (focus (first | (simp; done) | (simp; omega) | (refine Nat.ne_of_gt (Blk.lt (arr := ?_) (t := ?_) ?_); rotate_left 2; focus (repeat (first | with_reducible assumption | ((with_reducible refine Blk.new' ?_); first | with_reducible rfl | (simp; done) | (simp [World.drew]; done)) | with_reducible refine Blk.alloc ?_ _ | with_reducible refine Blk.keep ?_ (by with_reducible assumption) | with_reducible refine Blk.drew ?_))) | (refine Nat.ne_of_lt (Blk.lt (arr := ?_) (t := ?_) ?_); rotate_left 2; focus (repeat (first | with_reducible assumption | ((with_reducible refine Blk.new' ?_); first | with_reducible rfl | (simp; done) | (simp [World.drew]; done)) | with_reducible refine Blk.alloc ?_ _ | with_reducible refine Blk.keep ?_ (by with_reducible assumption) | with_reducible refine Blk.drew ?_)))))) | with_reducible refine Blk.keep ?_ (by with_reducible assumption) | with_reducible refine Blk.drew ?_))); (first | rfl | (simp; done))), by (repeat (first | with_reducible exact Below.refl _ _ | with_reducible assumption | with_reducible refine Kept.drop ?_ (by with_reducible assumption) | with_reducible refine Kept.alloc ?_ _ | ((with_reducible refine Below.setCell ?_ ?_ _); rotate_left 1; (focus (first | exact Nat.le_refl _ | (simp; done) | (simp; omega) | exact Below.size (by with_reducible assumption) | (refine Kept.size ?_; (repeat (first | with_reducible exact Below.refl _ _ | with_reducible assumption | with_reducible refine Kept.drop ?_ (by with_reducible assumption) | with_reducible refine Kept.alloc ?_ _ | with_reducible refine Below.drew ?_)))))) | with_reducible refine Below.drew ?_))⟩ ?_
  rintro W ⟨r0, r1, r2, r3, hk⟩
  have r0c0 := fun g : Later W => (r0.later g).cell 0
  have r0f0 := fun g : Later W => (r0.later g).free 0
  have r0c1 := fun g : Later W => (r0.later g).cell 1
  have r0f1 := fun g : Later W => (r0.later g).free 1
  have r0c2 := fun g : Later W => (r0.later g).cell 2
  have r0f2 := fun g : Later W => (r0.later g).free 2
  have r0c3 := fun g : Later W => (r0.later g).cell 3
  have r0f3 := fun g : Later W => (r0.later g).free 3
  have r0c4 := fun g : Later W => (r0.later g).cell 4
  have r0f4 := fun g : Later W => (r0.later g).free 4
  have r0c5 := fun g : Later W => (r0.later g).cell 5
  have r0f5 := fun g : Later W => (r0.later g).free 5
  have r0c6 := fun g : Later W => (r0.later g).cell 6
  have r0f6 := fun g : Later W => (r0.later g).free 6
  have r0l := fun g : Later W => (r0.later g).lt
  simp at r0c0 r0c1 r0c2 r0c3 r0c4 r0c5 r0c6
  have r1c0 := fun g : Later W => (r1.later g).cell 0
  have r1f0 := fun g : Later W => (r1.later g).free 0
  have r1c1 := fun g : Later W => (r1.later g).cell 1
  have r1f1 := fun g : Later W => (r1.later g).free 1
  have r1c2 := fun g : Later W => (r1.later g).cell 2
  have r1f2 := fun g : Later W => (r1.later g).free 2
  have r1c3 := fun g : Later W => (r1.later g).cell 3
  have r1f3 := fun g : Later W => (r1.later g).free 3
  have r1l := fun g : Later W => (r1.later g).lt
  simp at r1c0 r1c1 r1c2 r1c3
  have r2c0 := fun g : Later W => (r2.later g).cell 0
  have r2f0 := fun g : Later W => (r2.later g).free 0
  have r2c1 := fun g : Later W => (r2.later g).cell 1
  have r2f1 := fun g : Later W => (r2.later g).free 1
  have r2l := fun g : Later W => (r2.later g).lt
  simp at r2c0 r2c1
  have r3c0 := fun g : Later W => (r3.later g).cell 0
  have r3f0 := fun g : Later W => (r3.later g).free 0
  have r3c1 := fun g : Later W => (r3.later g).cell 1
  have r3f1 := fun g : Later W => (r3.later g).free 1
  have r3l := fun g : Later W => (r3.later g).lt
  simp at r3c0 r3c1
  refine later_mix [(false, 0), (false, 1), (false, 2), (false, 3), (false, 4), (false, 5), (false, 6), (false, 7), (false, 8), (false, 9), (false, 10), (false, 11), (false, 12), (false, 13), (false, 14), (false, 15), (false, 16), (false, 17), (false, 18)] 19 [20] (by kernel_rfl) (by kernel_rfl) ?_
  simp only [List.filterMap_cons, List.filterMap_nil, List.getElem?_cons_zero, List.getElem?_cons_succ, Option.map_some]
  repeat (refine wpSteps_quiet ?_; (first | go_big_quiet_skip | (go_big_quiet_want; go_big_quiet_op; first | go_big_quiet_on | (apply Exists.intro; refine ⟨fun g => ?_, ?_⟩; (focus (first | (go_at_call 85; exact Later.call (r_amount c _ HV.out)) | (go_at_call 84; exact Later.call_same (r_floor _ _ _ K1.out.1 K1.out.2.1 K1.out.2.2.1 K1.out.2.2.2)) | (go_at_call 86; exact Later.call_same (r_ceil _ _ _ K2.out.1 K2.out.2.1 K2.out.2.2.1 K2.out.2.2.2)))); go_big_quiet_on))); refine wpQuiet_nil ?_)
  refine wpSteps_nil ?_
  intro gg
  have hkg := Kept.drop hk gg.ok
  go_wp2
  refine NoPanic.normal ?_
  go_wp2
  exact bodyPost_ret (v := .tuple #[.agg #[.int .i64 (amount c * heatLo c a / a.phi), .int .i64 (-(-(amount c * heatHi c a) / a.plo))], .int .i64 0]) (by simp [results, Try.results23, go_sem, r2c0, r2f0, r2c1, r2f1]) rfl ⟨rfl, by (repeat (first | with_reducible exact Below.refl _ _ | with_reducible assumption | with_reducible refine Kept.drop ?_ (by with_reducible assumption) | with_reducible refine Kept.alloc ?_ _ | ((with_reducible refine Below.setCell ?_ ?_ _); rotate_left 1; (focus (first | exact Nat.le_refl _ | (simp; done) | (simp; omega) | exact Below.size (by with_reducible assumption) | (refine Kept.size ?_; (repeat (first | with_reducible exact Below.refl _ _ | with_reducible assumption | with_reducible refine Kept.drop ?_ (by with_reducible assumption) | with_reducible refine Kept.alloc ?_ _ | with_reducible refine Below.drew ?_)))))) | with_reducible refine Below.drew ?_))⟩

end Go.Proofs.Ytemafanncejeiaa
