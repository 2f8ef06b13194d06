/-
  How a cell fits its room, in the reference.
-/
import Derived.Test.YtemafanncejeiaaGasRA
namespace Go.Proofs.Ytemafanncejeiaa
open Go.RowKit Bal Bal.Trim Bal.Gas
set_option linter.unusedVariables false
set_option linter.unusedSimpArgs false
set_option maxHeartbeats 400000

theorem r_state (c : Cell) (a : Air) (w : World) (hv : cellB c = true) (ha : airB a = true) :
    Calls Try.prog 87 #[.agg #[.int .i64 c.room, .int .i64 c.helium, .int .i64 c.air, .int .i64 c.wlo, .int .i64 c.whi, .int .i64 c.leak, .int .i64 c.owed], .agg #[.int .i64 a.plo, .int .i64 a.phi, .int .i64 a.tlo, .int .i64 a.thi]] w fun e w' => e = .returned (.int .u8 (state c a)) ∧ Kept w w' := by
  obtain ⟨n0, n1, ⟨p0, p1, p2⟩, q0, q1, q2, q3⟩ := prod_bd hv ha
  obtain ⟨⟨h7, h8, h9⟩, h10, h11, h12⟩ := airB_iff.1 ha
  have HB := Lib.hid (show -1000000 ≤ a.tlo ∧ a.tlo ≤ 1000000 ∧ -1000000 ≤ a.thi ∧ a.thi ≤ 1000000 ∧ -1000000 ≤ c.wlo ∧ c.wlo ≤ 1000000 ∧ -1000000 ≤ c.whi ∧ c.whi ≤ 1000000 by have := cellB_iff.1 hv; omega)
  have HV := Lib.hid hv
  clear hv ha
  have p0' : 0 ≤ amount c * (a.tlo + c.wlo) := p0
  have p1' : amount c * (a.tlo + c.wlo) ≤ amount c * (a.thi + c.whi) := p1
  have p2' : amount c * (a.thi + c.whi) ≤ 76000000000 := p2
  clear p0 p1 p2
  simp only [state, heatLo, heatHi]
  by_cases c1 : amount c * (a.thi + c.whi) ≤ c.room * a.plo
  · simp only [c1, if_true]
    go_enter Try.func87, Try.ntmps87
    go_wp2_with (go_at_call 83; (with_reducible refine (r_heat_ok a.tlo a.thi c.wlo c.whi _ HB.out).mono ?_); rintro e w1 ⟨rfl, hb1⟩; obtain ⟨hc1, hf1, hl1⟩ := bcell3 hb1)
    refine at_world (S := fun W => Blk W w.heap.size #[.int .i64 c.room, .int .i64 c.helium, .int .i64 c.air, .int .i64 c.wlo, .int .i64 c.whi, .int .i64 c.leak, .int .i64 c.owed] 25 ∧ Blk W (w.heap.size + 1) #[.int .i64 a.plo, .int .i64 a.phi, .int .i64 a.tlo, .int .i64 a.thi] 27 ∧ Blk W w1.heap.size #[.int .i64 (a.tlo + c.wlo), .int .i64 (a.thi + c.whi)] 23 ∧ Kept w W) ⟨by (repeat (first | with_reducible assumption | ((with_reducible refine Blk.new' ?_); first | with_reducible rfl | (simp; done) | (simp [World.drew]; done)) | with_reducible refine Blk.alloc ?_ _ | ((with_reducible refine Blk.set (arr := ?_) ?_ _ _); rotate_left 1) | ((with_reducible refine Blk.other ?_ ?_ _); rotate_left 1; (focus (first | (simp; done) | (simp; omega) | (refine Nat.ne_of_gt (Blk.lt (arr := ?_) (t := ?_) ?_); rotate_left 2; focus (repeat (first | with_reducible assumption | ((with_reducible refine Blk.new' ?_); first | with_reducible rfl | (simp; done) | (simp [World.drew]; done)) | with_reducible refine Blk.alloc ?_ _ | with_reducible refine Blk.keep ?_ (by with_reducible assumption) | with_reducible refine Blk.drew ?_))) | (refine Nat.ne_of_lt (Blk.lt (arr := ?_) (t := ?_) ?_); rotate_left 2; focus (repeat (first | with_reducible assumption | ((with_reducible refine Blk.new' ?_); first | with_reducible rfl | (simp; done) | (simp [World.drew]; done)) | with_reducible refine Blk.alloc ?_ _ | with_reducible refine Blk.keep ?_ (by with_reducible assumption) | with_reducible refine Blk.drew ?_)))))) | with_reducible refine Blk.keep ?_ (by with_reducible assumption) | with_reducible refine Blk.drew ?_)), by (repeat (first | with_reducible assumption | ((with_reducible refine Blk.new' ?_); first | with_reducible rfl | (simp; done) | (simp [World.drew]; done)) | with_reducible refine Blk.alloc ?_ _ | ((with_reducible refine Blk.set (arr := ?_) ?_ _ _); rotate_left 1) | ((with_reducible refine Blk.other ?_ ?_ _); rotate_left 1; (focus (first | (simp; done) | (simp; omega) | (refine Nat.ne_of_gt (Blk.lt (arr := ?_) (t := ?_) ?_); rotate_left 2; focus (repeat (first | with_reducible assumption | ((with_reducible refine Blk.new' ?_); first | with_reducible rfl | (simp; done) | (simp [World.drew]; done)) | with_reducible refine Blk.alloc ?_ _ | with_reducible refine Blk.keep ?_ (by with_reducible assumption) | with_reducible refine Blk.drew ?_))) | (refine Nat.ne_of_lt (Blk.lt (arr := ?_) (t := ?_) ?_); rotate_left 2; focus (repeat (first | with_reducible assumption | ((with_reducible refine Blk.new' ?_); first | with_reducible rfl | (simp; done) | (simp [World.drew]; done)) | with_reducible refine Blk.alloc ?_ _ | with_reducible refine Blk.keep ?_ (by with_reducible assumption) | with_reducible refine Blk.drew ?_)))))) | with_reducible refine Blk.keep ?_ (by with_reducible assumption) | with_reducible refine Blk.drew ?_)), by (repeat (first | with_reducible assumption | ((with_reducible refine Blk.new' ?_); first | with_reducible rfl | (simp; done) | (simp [World.drew]; done)) | with_reducible refine Blk.alloc ?_ _ | ((with_reducible refine Blk.set (arr := ?_) ?_ _ _); rotate_left 1) | ((with_reducible refine Blk.other ?_ ?_ _); rotate_left 1; (focus (first | (simp; done) | (simp; omega) | (refine Nat.ne_of_gt (Blk.lt (arr := ?_) (t := ?_) ?_); rotate_left 2; focus (repeat (first | with_reducible assumption | ((with_reducible refine Blk.new' ?_); first | with_reducible rfl | (simp; done) | (simp [World.drew]; done)) | with_reducible refine Blk.alloc ?_ _ | with_reducible refine Blk.keep ?_ (by with_reducible assumption) | with_reducible refine Blk.drew ?_))) | (refine Nat.ne_of_lt (Blk.lt (arr := ?_) (t := ?_) ?_); rotate_left 2; focus (repeat (first | with_reducible assumption | ((with_reducible refine Blk.new' ?_); first | with_reducible rfl | (simp; done) | (simp [World.drew]; done)) | with_reducible refine Blk.alloc ?_ _ | with_reducible refine Blk.keep ?_ (by with_reducible assumption) | with_reducible refine Blk.drew ?_)))))) | with_reducible refine Blk.keep ?_ (by with_reducible assumption) | with_reducible refine Blk.drew ?_)), by (repeat (first | with_reducible exact Below.refl _ _ | with_reducible assumption | with_reducible refine Kept.drop ?_ (by with_reducible assumption) | with_reducible refine Kept.alloc ?_ _ | ((with_reducible refine Below.setCell ?_ ?_ _); rotate_left 1; (focus (first | exact Nat.le_refl _ | (simp; done) | (simp; omega) | exact Below.size (by with_reducible assumption) | (refine Kept.size ?_; (repeat (first | with_reducible exact Below.refl _ _ | with_reducible assumption | with_reducible refine Kept.drop ?_ (by with_reducible assumption) | with_reducible refine Kept.alloc ?_ _ | with_reducible refine Below.drew ?_)))))) | with_reducible refine Below.drew ?_))⟩ ?_
    rintro W ⟨r0, r1, r3, hk⟩
    have r0c0 := fun g : Later W => (r0.later g).cell 0
    have r0f0 := fun g : Later W => (r0.later g).free 0
    have r0c1 := fun g : Later W => (r0.later g).cell 1
    have r0f1 := fun g : Later W => (r0.later g).free 1
    have r0c2 := fun g : Later W => (r0.later g).cell 2
    have r0f2 := fun g : Later W => (r0.later g).free 2
    have r0c3 := fun g : Later W => (r0.later g).cell 3
    have r0f3 := fun g : Later W => (r0.later g).free 3
    have r0c4 := fun g : Later W => (r0.later g).cell 4
    have r0f4 := fun g : Later W => (r0.later g).free 4
    have r0c5 := fun g : Later W => (r0.later g).cell 5
    have r0f5 := fun g : Later W => (r0.later g).free 5
    have r0c6 := fun g : Later W => (r0.later g).cell 6
    have r0f6 := fun g : Later W => (r0.later g).free 6
    have r0l := fun g : Later W => (r0.later g).lt
    simp at r0c0 r0c1 r0c2 r0c3 r0c4 r0c5 r0c6
    have r1c0 := fun g : Later W => (r1.later g).cell 0
    have r1f0 := fun g : Later W => (r1.later g).free 0
    have r1c1 := fun g : Later W => (r1.later g).cell 1
    have r1f1 := fun g : Later W => (r1.later g).free 1
    have r1c2 := fun g : Later W => (r1.later g).cell 2
    have r1f2 := fun g : Later W => (r1.later g).free 2
    have r1c3 := fun g : Later W => (r1.later g).cell 3
    have r1f3 := fun g : Later W => (r1.later g).free 3
    have r1l := fun g : Later W => (r1.later g).lt
    simp at r1c0 r1c1 r1c2 r1c3
    have r3c0 := fun g : Later W => (r3.later g).cell 0
    have r3f0 := fun g : Later W => (r3.later g).free 0
    have r3c1 := fun g : Later W => (r3.later g).cell 1
    have r3f1 := fun g : Later W => (r3.later g).free 1
    have r3l := fun g : Later W => (r3.later g).lt
    simp at r3c0 r3c1
    refine Later.region (by kernel_rfl) (by kernel_rfl) ?_
    repeat (first | go_big_quiet_skip | (go_big_quiet_want; go_big_quiet_op; first | go_big_quiet_on | (apply Exists.intro; refine ⟨fun g => ?_, ?_⟩; (focus (first | (go_at_call 85; exact Later.call (r_amount c _ HV.out)))); go_big_quiet_on)))
    refine wpQuiet_nil ?_
    intro gg
    have hkgg := Kept.drop hk gg.ok
    go_wp2
    exact bodyPost_ret (by simp [results, Try.results87, go_sem]) rfl ⟨rfl, by (repeat (first | with_reducible exact Below.refl _ _ | with_reducible assumption | with_reducible refine Kept.drop ?_ (by with_reducible assumption) | with_reducible refine Kept.alloc ?_ _ | ((with_reducible refine Below.setCell ?_ ?_ _); rotate_left 1; (focus (first | exact Nat.le_refl _ | (simp; done) | (simp; omega) | exact Below.size (by with_reducible assumption) | (refine Kept.size ?_; (repeat (first | with_reducible exact Below.refl _ _ | with_reducible assumption | with_reducible refine Kept.drop ?_ (by with_reducible assumption) | with_reducible refine Kept.alloc ?_ _ | with_reducible refine Below.drew ?_)))))) | with_reducible refine Below.drew ?_))⟩
  · simp only [c1, if_false]
    by_cases c2 : c.room * a.phi < amount c * (a.tlo + c.wlo)
    all_goals
      simp only [c2, if_true, if_false]
      go_enter Try.func87, Try.ntmps87
      go_wp2_with (go_at_call 83; (with_reducible refine (r_heat_ok a.tlo a.thi c.wlo c.whi _ HB.out).mono ?_); rintro e w1 ⟨rfl, hb1⟩; obtain ⟨hc1, hf1, hl1⟩ := bcell3 hb1)
      refine at_world (S := fun W => Blk W w.heap.size #[.int .i64 c.room, .int .i64 c.helium, .int .i64 c.air, .int .i64 c.wlo, .int .i64 c.whi, .int .i64 c.leak, .int .i64 c.owed] 25 ∧ Blk W (w.heap.size + 1) #[.int .i64 a.plo, .int .i64 a.phi, .int .i64 a.tlo, .int .i64 a.thi] 27 ∧ Blk W w1.heap.size #[.int .i64 (a.tlo + c.wlo), .int .i64 (a.thi + c.whi)] 23 ∧ Kept w W) ⟨by (repeat (first | with_reducible assumption | ((with_reducible refine Blk.new' ?_); first | with_reducible rfl | (simp; done) | (simp [World.drew]; done)) | with_reducible refine Blk.alloc ?_ _ | ((with_reducible refine Blk.set (arr := ?_) ?_ _ _); rotate_left 1) | ((with_reducible refine Blk.other ?_ ?_ _); rotate_left 1; (focus (first | (simp; done) | (simp; omega) | (refine Nat.ne_of_gt (Blk.lt (arr := ?_) (t := ?_) ?_); rotate_left 2; focus (repeat (first | with_reducible assumption | ((with_reducible refine Blk.new' ?_); first | with_reducible rfl | (simp; done) | (simp [World.drew]; done)) | with_reducible refine Blk.alloc ?_ _ | with_reducible refine Blk.keep ?_ (by with_reducible assumption) | with_reducible refine Blk.drew ?_))) | (refine Nat.ne_of_lt (Blk.lt (arr := ?_) (t := ?_) ?_); rotate_left 2; focus (repeat (first | with_reducible assumption | ((with_reducible refine Blk.new' ?_); first | with_reducible rfl | (simp; done) | (simp [World.drew]; done)) | with_reducible refine Blk.alloc ?_ _ | with_reducible refine Blk.keep ?_ (by with_reducible assumption) | with_reducible refine Blk.drew ?_)))))) | with_reducible refine Blk.keep ?_ (by with_reducible assumption) | with_reducible refine Blk.drew ?_)), by (repeat (first | with_reducible assumption | ((with_reducible refine Blk.new' ?_); first | with_reducible rfl | (simp; done) | (simp [World.drew]; done)) | with_reducible refine Blk.alloc ?_ _ | ((with_reducible refine Blk.set (arr := ?_) ?_ _ _); rotate_left 1) | ((with_reducible refine Blk.other ?_ ?_ _); rotate_left 1; (focus (first | (simp; done) | (simp; omega) | (refine Nat.ne_of_gt (Blk.lt (arr := ?_) (t := ?_) ?_); rotate_left 2; focus (repeat (first | with_reducible assumption | ((with_reducible refine Blk.new' ?_); first | with_reducible rfl | (simp; done) | (simp [World.drew]; done)) | with_reducible refine Blk.alloc ?_ _ | with_reducible refine Blk.keep ?_ (by with_reducible assumption) | with_reducible refine Blk.drew ?_))) | (refine Nat.ne_of_lt (Blk.lt (arr := ?_) (t := ?_) ?_); rotate_left 2; focus (repeat (first | with_reducible assumption | ((with_reducible refine Blk.new' ?_); first | with_reducible rfl | (simp; done) | (simp [World.drew]; done)) | with_reducible refine Blk.alloc ?_ _ | with_reducible refine Blk.keep ?_ (by with_reducible assumption) | with_reducible refine Blk.drew ?_)))))) | with_reducible refine Blk.keep ?_ (by with_reducible assumption) | with_reducible refine Blk.drew ?_)), by (repeat (first | with_reducible assumption | ((with_reducible refine Blk.new' ?_); first | with_reducible rfl | (simp; done) | (simp [World.drew]; done)) | with_reducible refine Blk.alloc ?_ _ | ((with_reducible refine Blk.set (arr := ?_) ?_ _ _); rotate_left 1) | ((with_reducible refine Blk.other ?_ ?_ _); rotate_left 1; (focus (first | (simp; done) | (simp; omega) | (refine Nat.ne_of_gt (Blk.lt (arr := ?_) (t := ?_) ?_); rotate_left 2; focus (repeat (first | with_reducible assumption | ((with_reducible refine Blk.new' ?_); first | with_reducible rfl | (simp; done) | (simp [World.drew]; done)) | with_reducible refine Blk.alloc ?_ _ | with_reducible refine Blk.keep ?_ (by with_reducible assumption) | with_reducible refine Blk.drew ?_))) | (refine Nat.ne_of_lt (Blk.lt (arr := ?_) (t := ?_) ?_); rotate_left 2; focus (repeat (first | with_reducible assumption | ((with_reducible refine Blk.new' ?_); first | with_reducible rfl | (simp; done) | (simp [World.drew]; done)) | with_reducible refine Blk.alloc ?_ _ | with_reducible refine Blk.keep ?_ (by with_reducible assumption) | with_reducible refine Blk.drew ?_)))))) | with_reducible refine Blk.keep ?_ (by with_reducible assumption) | with_reducible refine Blk.drew ?_)), by (repeat (first | with_reducible exact Below.refl _ _ | with_reducible assumption | with_reducible refine Kept.drop ?_ (by with_reducible assumption) | with_reducible refine Kept.alloc ?_ _ | ((with_reducible refine Below.setCell ?_ ?_ _); rotate_left 1; (focus (first | exact Nat.le_refl _ | (simp; done) | (simp; omega) | exact Below.size (by with_reducible assumption) | (refine Kept.size ?_; (repeat (first | with_reducible exact Below.refl _ _ | with_reducible assumption | with_reducible refine Kept.drop ?_ (by with_reducible assumption) | with_reducible refine Kept.alloc ?_ _ | with_reducible refine Below.drew ?_)))))) | with_reducible refine Below.drew ?_))⟩ ?_
      rintro W ⟨r0, r1, r3, hk⟩
      have r0c0 := fun g : Later W => (r0.later g).cell 0
      have r0f0 := fun g : Later W => (r0.later g).free 0
      have r0c1 := fun g : Later W => (r0.later g).cell 1
      have r0f1 := fun g : Later W => (r0.later g).free 1
      have r0c2 := fun g : Later W => (r0.later g).cell 2
      have r0f2 := fun g : Later W => (r0.later g).free 2
      have r0c3 := fun g : Later W => (r0.later g).cell 3
      have r0f3 := fun g : Later W => (r0.later g).free 3
      have r0c4 := fun g : Later W => (r0.later g).cell 4
      have r0f4 := fun g : Later W => (r0.later g).free 4
      have r0c5 := fun g : Later W => (r0.later g).cell 5
      have r0f5 := fun g : Later W => (r0.later g).free 5
      have r0c6 := fun g : Later W => (r0.later g).cell 6
      have r0f6 := fun g : Later W => (r0.later g).free 6
      have r0l := fun g : Later W => (r0.later g).lt
      simp at r0c0 r0c1 r0c2 r0c3 r0c4 r0c5 r0c6
      have r1c0 := fun g : Later W => (r1.later g).cell 0
      have r1f0 := fun g : Later W => (r1.later g).free 0
      have r1c1 := fun g : Later W => (r1.later g).cell 1
      have r1f1 := fun g : Later W => (r1.later g).free 1
      have r1c2 := fun g : Later W => (r1.later g).cell 2
      have r1f2 := fun g : Later W => (r1.later g).free 2
      have r1c3 := fun g : Later W => (r1.later g).cell 3
      have r1f3 := fun g : Later W => (r1.later g).free 3
      have r1l := fun g : Later W => (r1.later g).lt
      simp at r1c0 r1c1 r1c2 r1c3
      have r3c0 := fun g : Later W => (r3.later g).cell 0
      have r3f0 := fun g : Later W => (r3.later g).free 0
      have r3c1 := fun g : Later W => (r3.later g).cell 1
      have r3f1 := fun g : Later W => (r3.later g).free 1
      have r3l := fun g : Later W => (r3.later g).lt
      simp at r3c0 r3c1
      refine Later.region (by kernel_rfl) (by kernel_rfl) ?_
      repeat (first | go_big_quiet_skip | (go_big_quiet_want; go_big_quiet_op; first | go_big_quiet_on | (apply Exists.intro; refine ⟨fun g => ?_, ?_⟩; (focus (first | (go_at_call 85; exact Later.call (r_amount c _ HV.out)))); go_big_quiet_on)))
      refine wpQuiet_nil ?_
      intro gg
      have hkgg := Kept.drop hk gg.ok
      go_wp2

      have s0 := r0.later gg
      have s1 := r1.later gg
      have s3 := r3.later gg
      clear r0c0 r0c1 r0c2 r0c3 r0c4 r0c5 r0c6 r1c0 r1c1 r1c2 r1c3 r3c0 r3c1 r0f0 r0f1 r0f2 r0f3 r0f4 r0f5 r0f6 r1f0 r1f1 r1f2 r1f3 r3f0 r3f1 r0l r1l r3l
      have s0c0 := fun g : Later gg.val => (s0.later g).cell 0
      have s0f0 := fun g : Later gg.val => (s0.later g).free 0
      have s0c1 := fun g : Later gg.val => (s0.later g).cell 1
      have s0f1 := fun g : Later gg.val => (s0.later g).free 1
      have s0c2 := fun g : Later gg.val => (s0.later g).cell 2
      have s0f2 := fun g : Later gg.val => (s0.later g).free 2
      have s0c3 := fun g : Later gg.val => (s0.later g).cell 3
      have s0f3 := fun g : Later gg.val => (s0.later g).free 3
      have s0c4 := fun g : Later gg.val => (s0.later g).cell 4
      have s0f4 := fun g : Later gg.val => (s0.later g).free 4
      have s0c5 := fun g : Later gg.val => (s0.later g).cell 5
      have s0f5 := fun g : Later gg.val => (s0.later g).free 5
      have s0c6 := fun g : Later gg.val => (s0.later g).cell 6
      have s0f6 := fun g : Later gg.val => (s0.later g).free 6
      have s0l := fun g : Later gg.val => (s0.later g).lt
      simp at s0c0 s0c1 s0c2 s0c3 s0c4 s0c5 s0c6
      have s1c0 := fun g : Later gg.val => (s1.later g).cell 0
      have s1f0 := fun g : Later gg.val => (s1.later g).free 0
      have s1c1 := fun g : Later gg.val => (s1.later g).cell 1
      have s1f1 := fun g : Later gg.val => (s1.later g).free 1
      have s1c2 := fun g : Later gg.val => (s1.later g).cell 2
      have s1f2 := fun g : Later gg.val => (s1.later g).free 2
      have s1c3 := fun g : Later gg.val => (s1.later g).cell 3
      have s1f3 := fun g : Later gg.val => (s1.later g).free 3
      have s1l := fun g : Later gg.val => (s1.later g).lt
      simp at s1c0 s1c1 s1c2 s1c3
      have s3c0 := fun g : Later gg.val => (s3.later g).cell 0
      have s3f0 := fun g : Later gg.val => (s3.later g).free 0
      have s3c1 := fun g : Later gg.val => (s3.later g).cell 1
      have s3f1 := fun g : Later gg.val => (s3.later g).free 1
      have s3l := fun g : Later gg.val => (s3.later g).lt
      simp at s3c0 s3c1
      refine Later.region (by kernel_rfl) (by kernel_rfl) ?_
      repeat (first | go_big_quiet_skip | (go_big_quiet_want; go_big_quiet_op; first | go_big_quiet_on | (apply Exists.intro; refine ⟨fun g => ?_, ?_⟩; (focus (first | (go_at_call 85; exact Later.call (r_amount c _ HV.out)))); go_big_quiet_on)))
      refine wpQuiet_nil ?_
      intro gh
      have hkgh := Kept.drop hkgg gh.ok
      go_wp2

      exact bodyPost_ret (by simp [results, Try.results87, go_sem]) rfl ⟨rfl, by (repeat (first | with_reducible exact Below.refl _ _ | with_reducible assumption | with_reducible refine Kept.drop ?_ (by with_reducible assumption) | with_reducible refine Kept.alloc ?_ _ | ((with_reducible refine Below.setCell ?_ ?_ _); rotate_left 1; (focus (first | exact Nat.le_refl _ | (simp; done) | (simp; omega) | exact Below.size (by with_reducible assumption) | (refine Kept.size ?_; (repeat (first | with_reducible exact Below.refl _ _ | with_reducible assumption | with_reducible refine Kept.drop ?_ (by with_reducible assumption) | with_reducible refine Kept.alloc ?_ _ | with_reducible refine Below.drew ?_)))))) | with_reducible refine Below.drew ?_))⟩

theorem r_Fits_bad (c : Cell) (a : Air) (w : World) (hv : cellB c = false) :
    Calls Try.prog 25 #[.agg #[.int .i64 c.room, .int .i64 c.helium, .int .i64 c.air, .int .i64 c.wlo, .int .i64 c.whi, .int .i64 c.leak, .int .i64 c.owed], .agg #[.int .i64 a.plo, .int .i64 a.phi, .int .i64 a.tlo, .int .i64 a.thi]] w fun e w' => e = .returned (.tuple #[.int .u8 0, .int .i64 31]) ∧ Kept w w' := by
  go_enter Try.func25, Try.ntmps25
  go_wp2_with (go_at_call 82; (with_reducible refine (r_asked c a _).mono ?_); rw [asked_cell hv]; rintro e w1 ⟨rfl, hb1⟩; obtain ⟨hc1, hf1, hl1⟩ := bcell3 hb1)
  exact bodyPost_ret (by simp [results, Try.results25, go_sem]) rfl ⟨rfl, by (repeat (first | with_reducible exact Below.refl _ _ | with_reducible assumption | with_reducible refine Kept.drop ?_ (by with_reducible assumption) | with_reducible refine Kept.alloc ?_ _ | ((with_reducible refine Below.setCell ?_ ?_ _); rotate_left 1; (focus (first | exact Nat.le_refl _ | (simp; done) | (simp; omega) | exact Below.size (by with_reducible assumption) | (refine Kept.size ?_; (repeat (first | with_reducible exact Below.refl _ _ | with_reducible assumption | with_reducible refine Kept.drop ?_ (by with_reducible assumption) | with_reducible refine Kept.alloc ?_ _ | with_reducible refine Below.drew ?_)))))) | with_reducible refine Below.drew ?_))⟩

theorem r_Fits_air (c : Cell) (a : Air) (w : World) (hv : cellB c = true) (ha : airB a = false) :
    Calls Try.prog 25 #[.agg #[.int .i64 c.room, .int .i64 c.helium, .int .i64 c.air, .int .i64 c.wlo, .int .i64 c.whi, .int .i64 c.leak, .int .i64 c.owed], .agg #[.int .i64 a.plo, .int .i64 a.phi, .int .i64 a.tlo, .int .i64 a.thi]] w fun e w' => e = .returned (.tuple #[.int .u8 0, .int .i64 30]) ∧ Kept w w' := by
  go_enter Try.func25, Try.ntmps25
  go_wp2_with (go_at_call 82; (with_reducible refine (r_asked c a _).mono ?_); rw [asked_air hv ha]; rintro e w1 ⟨rfl, hb1⟩; obtain ⟨hc1, hf1, hl1⟩ := bcell3 hb1)
  exact bodyPost_ret (by simp [results, Try.results25, go_sem]) rfl ⟨rfl, by (repeat (first | with_reducible exact Below.refl _ _ | with_reducible assumption | with_reducible refine Kept.drop ?_ (by with_reducible assumption) | with_reducible refine Kept.alloc ?_ _ | ((with_reducible refine Below.setCell ?_ ?_ _); rotate_left 1; (focus (first | exact Nat.le_refl _ | (simp; done) | (simp; omega) | exact Below.size (by with_reducible assumption) | (refine Kept.size ?_; (repeat (first | with_reducible exact Below.refl _ _ | with_reducible assumption | with_reducible refine Kept.drop ?_ (by with_reducible assumption) | with_reducible refine Kept.alloc ?_ _ | with_reducible refine Below.drew ?_)))))) | with_reducible refine Below.drew ?_))⟩

theorem r_Fits_ok (c : Cell) (a : Air) (w : World) (hv : cellB c = true) (ha : airB a = true) :
    Calls Try.prog 25 #[.agg #[.int .i64 c.room, .int .i64 c.helium, .int .i64 c.air, .int .i64 c.wlo, .int .i64 c.whi, .int .i64 c.leak, .int .i64 c.owed], .agg #[.int .i64 a.plo, .int .i64 a.phi, .int .i64 a.tlo, .int .i64 a.thi]] w fun e w' => e = .returned (.tuple #[.int .u8 (state c a), .int .i64 0]) ∧ Kept w w' := by
  have HV := Lib.hid hv
  have HB := Lib.hid ha
  have HA := Lib.hid (asked_ok hv ha)
  clear hv ha
  go_enter Try.func25, Try.ntmps25
  go_wp2_with (first | (go_at_call 82; (with_reducible refine (r_asked c a _).mono ?_); rw [HA.out]; rintro e w1 ⟨rfl, hb1⟩; obtain ⟨hc1, hf1, hl1⟩ := bcell3 hb1) | (go_at_call 87; (with_reducible refine (r_state c a _ HV.out HB.out).mono ?_); rintro e w1 ⟨rfl, hb1⟩; obtain ⟨hc1, hf1, hl1⟩ := bcell3 hb1))
  exact bodyPost_ret (by simp [results, Try.results25, go_sem]) rfl ⟨rfl, by (repeat (first | with_reducible exact Below.refl _ _ | with_reducible assumption | with_reducible refine Kept.drop ?_ (by with_reducible assumption) | with_reducible refine Kept.alloc ?_ _ | ((with_reducible refine Below.setCell ?_ ?_ _); rotate_left 1; (focus (first | exact Nat.le_refl _ | (simp; done) | (simp; omega) | exact Below.size (by with_reducible assumption) | (refine Kept.size ?_; (repeat (first | with_reducible exact Below.refl _ _ | with_reducible assumption | with_reducible refine Kept.drop ?_ (by with_reducible assumption) | with_reducible refine Kept.alloc ?_ _ | with_reducible refine Below.drew ?_)))))) | with_reducible refine Below.drew ?_))⟩

end Go.Proofs.Ytemafanncejeiaa
