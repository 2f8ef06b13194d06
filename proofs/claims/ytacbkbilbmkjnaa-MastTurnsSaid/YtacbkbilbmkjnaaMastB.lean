/-
  Crosswinds, in the program and in the reference.
-/
import Derived.Test.YtacbkbilbmkjnaaMastA
import Derived.Test.YtacbkbilbmkjnaaOrder
import Derived.Deep.DeepCutAuto
namespace Go.Proofs.Ytacbkbilbmkjnaa
open Go.RowKit Bal Bal.Trim Bal.Mast
set_option linter.unusedVariables false
set_option linter.unusedSimpArgs false
set_option maxHeartbeats 800000
set_option maxRecDepth 10000

theorem s_min (a : Option Addr) (n cap : Nat) (xs : List Int) (w : World) (hn : xs.length = n) {B : Nat} (hx : Row icell 1 B w a xs) (h0 : 0 < n) (h1 : n ≤ 1000000) :
    Calls Try.prog 92 #[.slice a n cap] w fun e w' => e = .returned (.int .i64 (lmin xs)) ∧ w = w' := by
  subst hn
  obtain ⟨b, off, rfl, hb, c0⟩ := int_row hx 0 h0
  have c00 : w.cell? ⟨b, off, none⟩ = some (.int .i64 xs[0]) := by simpa using c0
  clear c0
  have hlt1 : (0 : Int) < xs.length := by omega
  go_enter Try.func92, Try.ntmps92
  go_wp2
  go_loop [3, 4] (fun m i => ∃ k : Nat, 0 < k ∧ k ≤ xs.length ∧ i = .int .i64 k ∧ m = .int .i64 (lmin (xs.take k))) (fun _ i => xs.length - (intOf i).toNat)
  case atStart => exact ⟨1, by omega, by omega, rfl, by cases xs with | nil => simp at h0 | cons x xs => simp [lmin]⟩
  case round =>
    obtain ⟨k, hk0, hk, rfl, rfl⟩ := hrel
    by_cases hlt : k < xs.length
    · obtain ⟨b', off', hab, _, ck⟩ := int_row hx k hlt
      simp only [Option.some.injEq, Addr.mk.injEq, and_true] at hab
      obtain ⟨rfl, rfl⟩ := hab
      have HT := Lib.hid (lmin_take hk0 hlt)
      go_wp2
      all_goals
        go_round
        case rel => exact ⟨k + 1, by omega, by omega, by go_num, by rw [HT.out, ite_min]⟩
        case measure => simp [intOf]; omega
    · go_wp2
      go_ret
      exact ⟨ret_int (by rw [List.take_of_length_le (by omega)]), rfl⟩

theorem s_max (a : Option Addr) (n cap : Nat) (xs : List Int) (w : World) (hn : xs.length = n) {B : Nat} (hx : Row icell 1 B w a xs) (h0 : 0 < n) (h1 : n ≤ 1000000) :
    Calls Try.prog 93 #[.slice a n cap] w fun e w' => e = .returned (.int .i64 (lmax xs)) ∧ w = w' := by
  subst hn
  obtain ⟨b, off, rfl, hb, c0⟩ := int_row hx 0 h0
  have c00 : w.cell? ⟨b, off, none⟩ = some (.int .i64 xs[0]) := by simpa using c0
  clear c0
  have hlt1 : (0 : Int) < xs.length := by omega
  go_enter Try.func93, Try.ntmps93
  go_wp2
  go_loop [3, 4] (fun m i => ∃ k : Nat, 0 < k ∧ k ≤ xs.length ∧ i = .int .i64 k ∧ m = .int .i64 (lmax (xs.take k))) (fun _ i => xs.length - (intOf i).toNat)
  case atStart => exact ⟨1, by omega, by omega, rfl, by cases xs with | nil => simp at h0 | cons x xs => simp [lmax]⟩
  case round =>
    obtain ⟨k, hk0, hk, rfl, rfl⟩ := hrel
    by_cases hlt : k < xs.length
    · obtain ⟨b', off', hab, _, ck⟩ := int_row hx k hlt
      simp only [Option.some.injEq, Addr.mk.injEq, and_true] at hab
      obtain ⟨rfl, rfl⟩ := hab
      have HT := Lib.hid (lmax_take hk0 hlt)
      go_wp2
      all_goals
        go_round
        case rel => exact ⟨k + 1, by omega, by omega, by go_num, by rw [HT.out, ite_max]⟩
        case measure => simp [intOf]; omega
    · go_wp2
      go_ret
      exact ⟨ret_int (by rw [List.take_of_length_le (by omega)]), rfl⟩

theorem s_minW (v : Wind) (a : Axis) (t : TypeId) (W : World) (n : Nat) (hn : n = W.heap.size) :
    Calls Try.prog 92 #[.slice (some ⟨n, 0, none⟩) 4 4] (W.alloc (.cells #[.int .i64 (v.xlo * a.y - v.ylo * a.x), .int .i64 (v.xlo * a.y - v.yhi * a.x), .int .i64 (v.xhi * a.y - v.ylo * a.x), .int .i64 (v.xhi * a.y - v.yhi * a.x)] t))
      fun e w' => e = .returned (.int .i64 (least v a)) ∧ W.alloc (.cells #[.int .i64 (v.xlo * a.y - v.ylo * a.x), .int .i64 (v.xlo * a.y - v.yhi * a.x), .int .i64 (v.xhi * a.y - v.ylo * a.x), .int .i64 (v.xhi * a.y - v.yhi * a.x)] t) = w' := by
  subst hn
  exact s_min _ 4 4 [c0 v a, c1 v a, c2 v a, c3 v a] _ rfl (Row.fresh (enc := icell) (fun _ => rfl) rfl) (by decide) (by decide)

theorem s_maxW (v : Wind) (a : Axis) (t : TypeId) (W : World) (n : Nat) (hn : n = W.heap.size) :
    Calls Try.prog 93 #[.slice (some ⟨n, 0, none⟩) 4 4] (W.alloc (.cells #[.int .i64 (v.xlo * a.y - v.ylo * a.x), .int .i64 (v.xlo * a.y - v.yhi * a.x), .int .i64 (v.xhi * a.y - v.ylo * a.x), .int .i64 (v.xhi * a.y - v.yhi * a.x)] t))
      fun e w' => e = .returned (.int .i64 (most v a)) ∧ W.alloc (.cells #[.int .i64 (v.xlo * a.y - v.ylo * a.x), .int .i64 (v.xlo * a.y - v.yhi * a.x), .int .i64 (v.xhi * a.y - v.ylo * a.x), .int .i64 (v.xhi * a.y - v.yhi * a.x)] t) = w' := by
  subst hn
  exact s_max _ 4 4 [c0 v a, c1 v a, c2 v a, c3 v a] _ rfl (Row.fresh (enc := icell) (fun _ => rfl) rfl) (by decide) (by decide)

theorem far_cases (v : Wind) (a : Axis) : (0 < least v a ∧ 0 ≤ most v a ∧ least v a ≤ most v a ∧ near v a = least v a ∧ far v a = most v a) ∨ (most v a < 0 ∧ least v a ≤ 0 ∧ least v a ≤ most v a ∧ near v a = -most v a ∧ far v a = -least v a) ∨
    (least v a ≤ 0 ∧ 0 ≤ most v a ∧ -least v a ≤ most v a ∧ near v a = 0 ∧ far v a = most v a) ∨ (least v a ≤ 0 ∧ 0 ≤ most v a ∧ most v a < -least v a ∧ near v a = 0 ∧ far v a = -least v a) := by
  have := least_le_most v a
  unfold near far
  omega

attribute [local go_sem] ite_max ite_min

theorem f_across (v : Wind) (a : Axis) (w : World) (hw : windB v = true) (ha : axisB a = true) :
    Calls Try.prog 44 #[.agg #[.int .i64 v.xlo, .int .i64 v.xhi, .int .i64 v.ylo, .int .i64 v.yhi], .agg #[.int .i64 a.x, .int .i64 a.y]] w fun e w' => e = .returned (.tuple #[.int .i64 (near v a * near v a), .int .i64 (far v a * far v a), .int .i64 (long a)]) ∧ Kept w w' := by
  obtain ⟨⟨h1, h2, h3⟩, h4, h5, h6⟩ := windB_iff.1 hw
  obtain ⟨⟨k1, k2⟩, k3, k4⟩ := corner_bd (u := v.xlo) (v := v.ylo) (by omega) (by omega) ha
  obtain ⟨⟨k5, k6⟩, k7, k8⟩ := corner_bd (u := v.xhi) (v := v.yhi) (by omega) (by omega) ha
  obtain ⟨⟨n0, n1⟩, n2, ⟨n3, n4⟩, n5, n6⟩ := far_bd hw ha
  obtain ⟨⟨x1, x2⟩, ⟨y1, y2⟩, _⟩ := axisB_iff.1 ha
  have p1 := mul_bd (A := 4000000) (B := 4000000) (x := near v a) (y := near v a) (by omega) (by omega) (by omega) (by omega)
  have p2 := mul_bd (A := 4000000) (B := 4000000) (x := far v a) (y := far v a) (by omega) (by omega) (by omega) (by omega)
  have p3 := mul_bd (A := 1000) (B := 1000) (x := a.x) (y := a.x) (by omega) (by omega) (by omega) (by omega)
  have p4 := mul_bd (A := 1000) (B := 1000) (x := a.y) (y := a.y) (by omega) (by omega) (by omega) (by omega)
  clear hw ha
  have HN : max (max (least v a) (-most v a)) 0 = near v a := rfl
  have HF : max (-least v a) (most v a) = far v a := rfl
  have HL : a.x * a.x + a.y * a.y = long a := rfl
  go_enter Try.func44, Try.ntmps44
  go_upto_region 5 with (first | (go_at_call 92; refine (s_minW v a _ _ _ (by simp)).mono ?_; rintro e w1 ⟨rfl, rfl⟩) | (go_at_call 93; refine (s_maxW v a _ _ _ (by simp)).mono ?_; rintro e w1 ⟨rfl, rfl⟩))
  refine at_world (S := fun W => Blk W (w.heap.size + 1) #[.int .i64 a.x, .int .i64 a.y] 27 ∧ Kept w W) ⟨by (refine Blk.cast (arr := ?_) ?_ ?_; rotate_left 1; (focus (repeat (first | with_reducible assumption | ((with_reducible refine Blk.new' ?_); first | with_reducible rfl | (simp; done) | (simp [World.drew]; done)) | with_reducible refine Blk.alloc ?_ _ | ((with_reducible refine Blk.set (arr := ?_) ?_ _ _); rotate_left 1) | ((with_reducible refine Blk.other ?_ ?_ _); rotate_left 1; (focus (first | (simp; done) | (simp; omega) | (refine Nat.ne_of_gt (Blk.lt (arr := ?_) (t := ?_) ?_); rotate_left 2; focus (repeat (first | with_reducible assumption | ((with_reducible refine Blk.new' ?_); first | with_reducible rfl | (simp; done) | (simp [World.drew]; done)) | with_reducible refine Blk.alloc ?_ _ | with_reducible refine Blk.keep ?_ (by with_reducible assumption) | with_reducible refine Blk.drew ?_))) | (refine Nat.ne_of_lt (Blk.lt (arr := ?_) (t := ?_) ?_); rotate_left 2; focus (repeat (first | with_reducible assumption | ((with_reducible refine Blk.new' ?_); first | with_reducible rfl | (simp; done) | (simp [World.drew]; done)) | with_reducible refine Blk.alloc ?_ _ | with_reducible refine Blk.keep ?_ (by with_reducible assumption) | with_reducible refine Blk.drew ?_)))))) | with_reducible refine Blk.keep ?_ (by with_reducible assumption) | with_reducible refine Blk.drew ?_))); (first | rfl | (simp; done))), by (repeat (first | with_reducible exact Below.refl _ _ | with_reducible assumption | with_reducible refine Kept.drop ?_ (by with_reducible assumption) | with_reducible refine Kept.alloc ?_ _ | ((with_reducible refine Below.setCell ?_ ?_ _); rotate_left 1; (focus (first | exact Nat.le_refl _ | (simp; done) | (simp; omega) | exact Below.size (by with_reducible assumption) | (refine Kept.size ?_; (repeat (first | with_reducible exact Below.refl _ _ | with_reducible assumption | with_reducible refine Kept.drop ?_ (by with_reducible assumption) | with_reducible refine Kept.alloc ?_ _ | with_reducible refine Below.drew ?_)))))) | with_reducible refine Below.drew ?_))⟩ ?_
  rintro W ⟨r1, hk⟩
  have r1c0 := fun g : Later W => (r1.later g).cell 0
  have r1f0 := fun g : Later W => (r1.later g).free 0
  have r1c1 := fun g : Later W => (r1.later g).cell 1
  have r1f1 := fun g : Later W => (r1.later g).free 1
  have r1l := fun g : Later W => (r1.later g).lt
  simp at r1c0 r1c1
  refine Later.region (by kernel_rfl) (by kernel_rfl) ?_
  repeat (first | go_big_quiet_skip | (go_big_quiet_want; go_big_quiet_op; first | go_big_quiet_on | (apply Exists.intro; refine ⟨fun g => ?_, ?_⟩; (focus (first | fail)); go_big_quiet_on)))
  refine wpQuiet_nil ?_
  intro gg
  have hkgg := Kept.drop hk gg.ok
  go_wp2
  exact bodyPost_ret (v := .tuple #[.int .i64 (near v a * near v a), .int .i64 (far v a * far v a), .int .i64 (long a)]) (by simp [results, Try.results44, go_sem, HN, HF, HL]) rfl ⟨rfl, by (repeat (first | with_reducible exact Below.refl _ _ | with_reducible assumption | with_reducible refine Kept.drop ?_ (by with_reducible assumption) | with_reducible refine Kept.alloc ?_ _ | ((with_reducible refine Below.setCell ?_ ?_ _); rotate_left 1; (focus (first | exact Nat.le_refl _ | (simp; done) | (simp; omega) | exact Below.size (by with_reducible assumption) | (refine Kept.size ?_; (repeat (first | with_reducible exact Below.refl _ _ | with_reducible assumption | with_reducible refine Kept.drop ?_ (by with_reducible assumption) | with_reducible refine Kept.alloc ?_ _ | with_reducible refine Below.drew ?_)))))) | with_reducible refine Below.drew ?_))⟩

theorem f_calm (v : Wind) (a : Axis) (m : Int) (w : World) (hw : windB v = true) (ha : axisB a = true) (hm : inB m 0 2000 = true) :
    Calls Try.prog 52 #[.agg #[.int .i64 v.xlo, .int .i64 v.xhi, .int .i64 v.ylo, .int .i64 v.yhi], .agg #[.int .i64 a.x, .int .i64 a.y], .int .i64 m] w fun e w' => e = .returned (.bool (calmS v a m)) ∧ Kept w w' := by
  obtain ⟨l1, l2⟩ := long_pos ha
  simp only [inB, Bool.and_eq_true, decide_eq_true_eq] at hm
  have p1 := mul_bd (A := 2000) (B := 2000) (x := m) (y := m) (by omega) (by omega) (by omega) (by omega)
  have p2 := mul_bd (A := 4000000) (B := 2000000) (x := m * m) (y := long a) (by omega) (by omega) (by omega) (by omega)
  have HW := Lib.hid hw
  have HA := Lib.hid ha
  clear hw ha
  go_enter Try.func52, Try.ntmps52
  go_wp2_with (go_at_call 44; (with_reducible refine (f_across v a _ HW.out HA.out).mono ?_); rintro e w1 ⟨rfl, hb1⟩; obtain ⟨hc1, hf1, hl1⟩ := bcell3 hb1)
  go_ret
  exact ⟨ret_bool (by simp [calmS]), by (repeat (first | with_reducible exact Below.refl _ _ | with_reducible assumption | with_reducible refine Kept.drop ?_ (by with_reducible assumption) | with_reducible refine Kept.alloc ?_ _ | ((with_reducible refine Below.setCell ?_ ?_ _); rotate_left 1; (focus (first | exact Nat.le_refl _ | (simp; done) | (simp; omega) | exact Below.size (by with_reducible assumption) | (refine Kept.size ?_; (repeat (first | with_reducible exact Below.refl _ _ | with_reducible assumption | with_reducible refine Kept.drop ?_ (by with_reducible assumption) | with_reducible refine Kept.alloc ?_ _ | with_reducible refine Below.drew ?_)))))) | with_reducible refine Below.drew ?_))⟩

theorem r_long (a : Axis) (w : World) (ha : axisB a = true) :
    Calls Try.prog 49 #[.agg #[.int .i64 a.x, .int .i64 a.y]] w fun e w' => e = .returned (.int .i64 (long a)) ∧ Kept w w' := by
  obtain ⟨⟨x1, x2⟩, ⟨y1, y2⟩, _⟩ := axisB_iff.1 ha
  have p3 := mul_bd (A := 1000) (B := 1000) (x := a.x) (y := a.x) (by omega) (by omega) (by omega) (by omega)
  have p4 := mul_bd (A := 1000) (B := 1000) (x := a.y) (y := a.y) (by omega) (by omega) (by omega) (by omega)
  clear ha
  go_enter Try.func49, Try.ntmps49
  go_wp2
  go_ret
  exact ⟨rfl, by (repeat (first | with_reducible exact Below.refl _ _ | with_reducible assumption | with_reducible refine Kept.drop ?_ (by with_reducible assumption) | with_reducible refine Kept.alloc ?_ _ | ((with_reducible refine Below.setCell ?_ ?_ _); rotate_left 1; (focus (first | exact Nat.le_refl _ | (simp; done) | (simp; omega) | exact Below.size (by with_reducible assumption) | (refine Kept.size ?_; (repeat (first | with_reducible exact Below.refl _ _ | with_reducible assumption | with_reducible refine Kept.drop ?_ (by with_reducible assumption) | with_reducible refine Kept.alloc ?_ _ | with_reducible refine Below.drew ?_)))))) | with_reducible refine Below.drew ?_))⟩

def CrossRel (v : Wind) (a : Axis) (l h i : Value) : Prop := (i = .int .i64 1 ∧ l = .int .i64 (c0 v a) ∧ h = .int .i64 (c0 v a)) ∨ (i = .int .i64 2 ∧ l = .int .i64 (min (c0 v a) (c1 v a)) ∧ h = .int .i64 (max (c0 v a) (c1 v a))) ∨ (i = .int .i64 3 ∧ l = .int .i64 (min (min (c0 v a) (c1 v a)) (c2 v a)) ∧ h = .int .i64 (max (max (c0 v a) (c1 v a)) (c2 v a))) ∨ (i = .int .i64 4 ∧ l = .int .i64 (least v a) ∧ h = .int .i64 (most v a))
theorem r_cross (v : Wind) (a : Axis) (w : World) (hw : windB v = true) (ha : axisB a = true) :
    Calls Try.prog 48 #[.agg #[.int .i64 v.xlo, .int .i64 v.xhi, .int .i64 v.ylo, .int .i64 v.yhi], .agg #[.int .i64 a.x, .int .i64 a.y]] w fun e w' => e = .returned (.tuple #[.int .i64 (near v a), .int .i64 (far v a)]) ∧ Kept w w' := by
  obtain ⟨⟨h1, h2, h3⟩, h4, h5, h6⟩ := windB_iff.1 hw
  obtain ⟨⟨k1, k2⟩, k3, k4⟩ := corner_bd (u := v.xlo) (v := v.ylo) (by omega) (by omega) ha
  obtain ⟨⟨k5, k6⟩, k7, k8⟩ := corner_bd (u := v.xhi) (v := v.yhi) (by omega) (by omega) ha
  obtain ⟨⟨n0, n1⟩, n2, ⟨n3, n4⟩, n5, n6⟩ := far_bd hw ha
  obtain ⟨⟨x1, x2⟩, ⟨y1, y2⟩, _⟩ := axisB_iff.1 ha
  have p1 := mul_bd (A := 4000000) (B := 4000000) (x := near v a) (y := near v a) (by omega) (by omega) (by omega) (by omega)
  have p2 := mul_bd (A := 4000000) (B := 4000000) (x := far v a) (y := far v a) (by omega) (by omega) (by omega) (by omega)
  have p3 := mul_bd (A := 1000) (B := 1000) (x := a.x) (y := a.x) (by omega) (by omega) (by omega) (by omega)
  have p4 := mul_bd (A := 1000) (B := 1000) (x := a.y) (y := a.y) (by omega) (by omega) (by omega) (by omega)
  clear hw ha
  clear p1 p2 p3 p4
  have LM := Lib.hid (least_le_most v a)
  clear n0 n1 n2
  go_enter Try.func48, Try.ntmps48
  go_upto_region 2 with fail
  refine at_world (S := fun W => Blk W (w.heap.size + 1 + 1) #[.int .i64 (c0 v a), .int .i64 (c1 v a), .int .i64 (c2 v a), .int .i64 (c3 v a)] 3 ∧ Kept w W) ⟨by (refine Blk.cast (arr := ?_) ?_ ?_; rotate_left 1; (focus (repeat (first | with_reducible assumption | ((with_reducible refine Blk.new' ?_); first | with_reducible rfl | (simp; done) | (simp [World.drew]; done)) | with_reducible refine Blk.alloc ?_ _ | ((with_reducible refine Blk.set (arr := ?_) ?_ _ _); rotate_left 1) | ((with_reducible refine Blk.other ?_ ?_ _); rotate_left 1; (focus (first | (simp; done) | (simp; omega) | (refine Nat.ne_of_gt (Blk.lt (arr := ?_) (t := ?_) ?_); rotate_left 2; focus (repeat (first | with_reducible assumption | ((with_reducible refine Blk.new' ?_); first | with_reducible rfl | (simp; done) | (simp [World.drew]; done)) | with_reducible refine Blk.alloc ?_ _ | with_reducible refine Blk.keep ?_ (by with_reducible assumption) | with_reducible refine Blk.drew ?_))) | (refine Nat.ne_of_lt (Blk.lt (arr := ?_) (t := ?_) ?_); rotate_left 2; focus (repeat (first | with_reducible assumption | ((with_reducible refine Blk.new' ?_); first | with_reducible rfl | (simp; done) | (simp [World.drew]; done)) | with_reducible refine Blk.alloc ?_ _ | with_reducible refine Blk.keep ?_ (by with_reducible assumption) | with_reducible refine Blk.drew ?_)))))) | with_reducible refine Blk.keep ?_ (by with_reducible assumption) | with_reducible refine Blk.drew ?_))); (first | rfl | (simp; done))), by (repeat (first | with_reducible exact Below.refl _ _ | with_reducible assumption | with_reducible refine Kept.drop ?_ (by with_reducible assumption) | with_reducible refine Kept.alloc ?_ _ | ((with_reducible refine Below.setCell ?_ ?_ _); rotate_left 1; (focus (first | exact Nat.le_refl _ | (simp; done) | (simp; omega) | exact Below.size (by with_reducible assumption) | (refine Kept.size ?_; (repeat (first | with_reducible exact Below.refl _ _ | with_reducible assumption | with_reducible refine Kept.drop ?_ (by with_reducible assumption) | with_reducible refine Kept.alloc ?_ _ | with_reducible refine Below.drew ?_)))))) | with_reducible refine Below.drew ?_))⟩ ?_
  rintro W ⟨r1, hk⟩
  clear k1 k2 k3 k4 k5 k6 k7 k8
  have r1c0 := fun g : Later W => (r1.later g).cell 0
  have r1f0 := fun g : Later W => (r1.later g).free 0
  have r1c1 := fun g : Later W => (r1.later g).cell 1
  have r1f1 := fun g : Later W => (r1.later g).free 1
  have r1c2 := fun g : Later W => (r1.later g).cell 2
  have r1f2 := fun g : Later W => (r1.later g).free 2
  have r1c3 := fun g : Later W => (r1.later g).cell 3
  have r1f3 := fun g : Later W => (r1.later g).free 3
  have r1l := fun g : Later W => (r1.later g).lt
  simp at r1c0 r1c1 r1c2 r1c3
  refine Later.region (by kernel_rfl) (by kernel_rfl) ?_
  repeat (first | go_big_quiet_skip | (go_big_quiet_want; go_big_quiet_op; first | go_big_quiet_on | (apply Exists.intro; refine ⟨fun g => ?_, ?_⟩; (focus (first | fail)); go_big_quiet_on)))
  refine wpQuiet_nil ?_
  intro gg
  have hkgg := Kept.drop hk gg.ok
  clear r1c0 r1c1 r1c2 r1c3 r1f0 r1f1 r1f2 r1f3 r1l
  have r2 := r1.later gg
  clear r1
  have r2c0 := r2.cell 0
  have r2f0 := r2.free 0
  have r2c1 := r2.cell 1
  have r2f1 := r2.free 1
  have r2c2 := r2.cell 2
  have r2f2 := r2.free 2
  have r2c3 := r2.cell 3
  have r2f3 := r2.free 3
  have r2l := r2.lt
  simp at r2c0 r2c1 r2c2 r2c3
  go_wp2
  go_loop [7, 8, 9] (fun l h i => CrossRel v a l h i) (fun _ _ i => 4 - (intOf i).toNat)
  case atStart => exact .inl ⟨rfl, rfl, rfl⟩
  case round =>
    rcases hrel with ⟨rfl, rfl, rfl⟩ | ⟨rfl, rfl, rfl⟩ | ⟨rfl, rfl, rfl⟩ | ⟨rfl, rfl, rfl⟩
    · clear n3 n4 n5 n6
      go_wp2
      all_goals
        go_round
        case rel => exact .inr (.inl ⟨rfl, by (first | rfl | (refine congrArg (Value.int .i64) ?_; first | omega | (unfold least; omega) | (unfold most; omega))), by (first | rfl | (refine congrArg (Value.int .i64) ?_; first | omega | (unfold least; omega) | (unfold most; omega)))⟩)
        case measure => decide
    · clear n3 n4 n5 n6
      go_wp2
      all_goals
        go_round
        case rel => exact .inr (.inr (.inl ⟨rfl, by (first | rfl | (refine congrArg (Value.int .i64) ?_; first | omega | (unfold least; omega) | (unfold most; omega))), by (first | rfl | (refine congrArg (Value.int .i64) ?_; first | omega | (unfold least; omega) | (unfold most; omega)))⟩))
        case measure => decide
    · clear n3 n4 n5 n6
      go_wp2
      all_goals
        go_round
        case rel => exact .inr (.inr (.inr ⟨rfl, by (first | rfl | (refine congrArg (Value.int .i64) ?_; first | omega | (unfold least; omega) | (unfold most; omega))), by (first | rfl | (refine congrArg (Value.int .i64) ?_; first | omega | (unfold least; omega) | (unfold most; omega)))⟩))
        case measure => decide
    · have lm := LM.out
      by_cases h1 : least v a ≤ 0 <;> by_cases h2 : 0 ≤ most v a
      all_goals
        first
        | (exfalso; omega)
        | (go_wp2; all_goals exact bodyPost_ret (v := .tuple #[.int .i64 (near v a), .int .i64 (far v a)]) (by first | (simp [results, Try.results48, go_sem, near, far]; done) | (simp [results, Try.results48, go_sem, near, far]; omega) | (simp [results, Try.results48, go_sem, near, far]; constructor <;> omega)) rfl ⟨rfl, by (repeat (first | with_reducible exact Below.refl _ _ | with_reducible assumption | with_reducible refine Kept.drop ?_ (by with_reducible assumption) | with_reducible refine Kept.alloc ?_ _ | ((with_reducible refine Below.setCell ?_ ?_ _); rotate_left 1; (focus (first | exact Nat.le_refl _ | (simp; done) | (simp; omega) | exact Below.size (by with_reducible assumption) | (refine Kept.size ?_; (repeat (first | with_reducible exact Below.refl _ _ | with_reducible assumption | with_reducible refine Kept.drop ?_ (by with_reducible assumption) | with_reducible refine Kept.alloc ?_ _ | with_reducible refine Below.drew ?_)))))) | with_reducible refine Below.drew ?_))⟩)

end Go.Proofs.Ytacbkbilbmkjnaa
