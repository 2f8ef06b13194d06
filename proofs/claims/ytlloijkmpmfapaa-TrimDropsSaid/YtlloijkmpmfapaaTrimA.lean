/-
  What the checks of loads, limits and frames compute, in the program and in the reference.
-/
import Derived.Test.YtlloijkmpmfapaaProg
import Derived.Test.YtlloijkmpmfapaaTrimMem
import Derived.Deep.QuietTactic
import Derived.BigQuiet
namespace Go.Proofs.Ytlloijkmpmfapaa
open Go.RowKit Bal Bal.Trim
set_option linter.unusedVariables false
set_option linter.unusedSimpArgs false
set_option maxHeartbeats 400000

theorem f_ranged (n lo hi : Int) (w : World) :
    Calls Try.prog 68 #[.int .i64 n, .int .i64 lo, .int .i64 hi] w fun e w' => e = .returned (.bool (inB n lo hi)) ∧ w = w' := by
  go_enter Try.func68, Try.ntmps68
  go_wp2
  all_goals (go_ret; refine ⟨?_, rfl⟩; simp [inB, *])
  all_goals omega

theorem r_within (n lo hi : Int) (w : World) :
    Calls Try.prog 70 #[.int .i64 n, .int .i64 lo, .int .i64 hi] w fun e w' => e = .returned (.bool (inB n lo hi)) ∧ w = w' := by
  go_enter Try.func70, Try.ntmps70
  go_wp2
  all_goals (go_ret; refine ⟨?_, rfl⟩; simp [inB, *])
  all_goals omega

theorem f_place (n : Int) (w : World) :
    Calls Try.prog 67 #[.int .i64 n] w fun e w' => e = .returned (.bool (inB n (-20000) 20000)) ∧ w = w' := by
  go_enter Try.func67, Try.ntmps67
  go_wp2_with (go_at_call 68; refine (f_ranged _ _ _ _).mono ?_; rintro e w1 ⟨rfl, rfl⟩)
  go_ret
  exact ⟨rfl, rfl⟩

theorem r_place (n : Int) (w : World) :
    Calls Try.prog 69 #[.int .i64 n] w fun e w' => e = .returned (.bool (inB n (-20000) 20000)) ∧ w = w' := by
  go_enter Try.func69, Try.ntmps69
  go_wp2_with (go_at_call 70; refine (r_within _ _ _ _).mono ?_; rintro e w1 ⟨rfl, rfl⟩)
  go_ret
  exact ⟨rfl, rfl⟩

theorem f_span (lo hi m : Int) (w : World) (h0 : 0 ≤ m) (h1 : m ≤ 1000000000000000000) :
    Calls Try.prog 60 #[.agg #[.int .i64 lo, .int .i64 hi], .int .i64 m] w fun e w' => e = .returned (.bool (spanB lo hi m)) ∧ Kept w w' := by
  go_enter Try.func60, Try.ntmps60
  go_wp2
  all_goals (go_ret; refine ⟨?_, (Below.refl _ _).alloc (Nat.le_refl _) _⟩; simp [spanB, *])
  all_goals omega

theorem r_spanned (lo hi m : Int) (w : World) (h0 : 0 ≤ m) (h1 : m ≤ 1000000000000000000) :
    Calls Try.prog 61 #[.agg #[.int .i64 lo, .int .i64 hi], .int .i64 m] w fun e w' => e = .returned (.bool (spanB lo hi m)) ∧ Kept w w' := by
  go_enter Try.func61, Try.ntmps61
  go_wp2
  all_goals (go_ret; refine ⟨?_, (Below.refl _ _).alloc (Nat.le_refl _) _⟩; simp [spanB, *])
  all_goals omega

theorem f_load (x : Load) (w : World) :
    Calls Try.prog 59 #[.agg #[.int .i64 x.alo, .int .i64 x.ahi, .int .i64 x.wlo, .int .i64 x.whi]] w fun e w' => e = .returned (.bool (loadB x)) ∧ Kept w w' := by
  go_enter Try.func59, Try.ntmps59
  go_wp2_with (first | (go_at_call 60; refine (f_span _ _ _ _ (by omega) (by omega)).mono ?_; rintro e w1 ⟨rfl, hb1⟩; obtain ⟨hc1, hf1⟩ := bcell hb1))
  all_goals (go_ret; refine ⟨?_, by (repeat (first | exact Below.refl _ _ | assumption | (refine Kept.drop ?_ (by assumption)) | (refine Kept.alloc ?_ _) | (refine Below.setCell ?_ (by first | exact Nat.le_refl _ | (simp; done) | (simp; omega) | exact Below.size (by assumption)) _) | (refine Below.drew ?_)))⟩; simp [loadB, *])

theorem f_limited (x : Limit) (w : World) :
    Calls Try.prog 63 #[.agg #[.int .i64 x.a, .int .i64 x.b, .int .i64 x.c]] w fun e w' => e = .returned (.bool (limitB x)) ∧ Kept w w' := by
  go_enter Try.func63, Try.ntmps63
  go_wp2_with (first | (go_at_call 68; refine (f_ranged _ _ _ _).mono ?_; rintro e w1 ⟨rfl, rfl⟩))
  all_goals (go_ret; refine ⟨?_, by (repeat (first | exact Below.refl _ _ | assumption | (refine Kept.drop ?_ (by assumption)) | (refine Kept.alloc ?_ _) | (refine Below.setCell ?_ (by first | exact Nat.le_refl _ | (simp; done) | (simp; omega) | exact Below.size (by assumption)) _) | (refine Below.drew ?_)))⟩; simp [limitB, *])

theorem f_frame (x : Frm) (w : World) :
    Calls Try.prog 66 #[.agg #[.int .i64 x.pos, .int .i64 x.shear, .int .i64 x.bend]] w fun e w' => e = .returned (.bool (frameB x)) ∧ Kept w w' := by
  go_enter Try.func66, Try.ntmps66
  go_wp2_with (first | (go_at_call 67; refine (f_place _ _).mono ?_; rintro e w1 ⟨rfl, rfl⟩) | (go_at_call 68; refine (f_ranged _ _ _ _).mono ?_; rintro e w1 ⟨rfl, rfl⟩))
  all_goals (go_ret; refine ⟨?_, by (repeat (first | exact Below.refl _ _ | assumption | (refine Kept.drop ?_ (by assumption)) | (refine Kept.alloc ?_ _) | (refine Below.setCell ?_ (by first | exact Nat.le_refl _ | (simp; done) | (simp; omega) | exact Below.size (by assumption)) _) | (refine Below.drew ?_)))⟩; simp [frameB, *])

theorem r_limit (x : Limit) (w : World) :
    Calls Try.prog 64 #[.agg #[.int .i64 x.a, .int .i64 x.b, .int .i64 x.c]] w fun e w' => e = .returned (.bool (limitB x)) ∧ Kept w w' := by
  go_enter Try.func64, Try.ntmps64
  go_wp2_with (first | (go_at_call 70; refine (r_within _ _ _ _).mono ?_; rintro e w1 ⟨rfl, rfl⟩))
  all_goals (go_ret; refine ⟨?_, by (repeat (first | exact Below.refl _ _ | assumption | (refine Kept.drop ?_ (by assumption)) | (refine Kept.alloc ?_ _) | (refine Below.setCell ?_ (by first | exact Nat.le_refl _ | (simp; done) | (simp; omega) | exact Below.size (by assumption)) _) | (refine Below.drew ?_)))⟩; simp [limitB, *])

theorem f_checked_Load (a : Option Addr) (cap : Nat) (xs : List Load) (w : World) (hx : Row Load.cells 4 w.heap.size w a xs) (hc : xs.length ≤ cap) (hM : cap ≤ maxLen) :
    Calls Try.prog 58 #[.slice a xs.length cap, .int .i64 40, .func (.func 59) #[] #[], .int .i64 40] w
      fun e w' => e = .returned (.int .i64 (checkList loadB 40 40 xs)) ∧ Kept w w' := by
  unfold maxLen at hM
  by_cases hm : 40 < xs.length
  · rw [checkList_many hm]
    go_enter Try.func58, Try.ntmps58
    go_wp2
    go_ret
    exact ⟨rfl, Below.refl _ _⟩
  · go_enter Try.func58, Try.ntmps58
    go_wp2
    go_loopw [17] (fun i wr => Upto loadB xs w i wr) (fun i _ => xs.length - (intOf i).toNat)
    case atStart => exact ⟨0, Nat.zero_le _, rfl, by simp, Below.refl _ _⟩
    case round =>
      obtain ⟨k, hk, rfl, ha', hbel⟩ := hrel
      have ha := Lib.hid ha'
      clear ha'
      by_cases hlt : k < xs.length
      · obtain ⟨b, off, rfl, hb, h0, h1, h2, h3⟩ := Load.row (hx.later hbel (Nat.le_refl _)) k hlt
        cases hv : loadB xs[k]
        all_goals
          go_wp2_with (go_at_call 59; refine (f_load xs[k] _).mono ?_; rintro e w1 ⟨rfl, hb1⟩)
        · go_ret
          exact ⟨ret_int (checkList_bad hm k hlt hv).symm, by (repeat (first | exact Below.refl _ _ | assumption | (refine Kept.drop ?_ (by assumption)) | (refine Kept.alloc ?_ _) | (refine Below.setCell ?_ (by first | exact Nat.le_refl _ | (simp; done) | (simp; omega) | exact Below.size (by assumption)) _) | (refine Below.drew ?_)))⟩
        · go_round
          case rel => exact ⟨k + 1, by omega, by go_num, take_all hlt ha.out hv, by (repeat (first | exact Below.refl _ _ | assumption | (refine Kept.drop ?_ (by assumption)) | (refine Kept.alloc ?_ _) | (refine Below.setCell ?_ (by first | exact Nat.le_refl _ | (simp; done) | (simp; omega) | exact Below.size (by assumption)) _) | (refine Below.drew ?_)))⟩
          case measure => simp [intOf]; omega
      · go_wp2
        go_ret
        exact ⟨ret_int (checkList_ok hm (by rw [← ha.out, List.take_of_length_le (by omega)])).symm, hbel⟩

theorem f_checked_Limit (a : Option Addr) (cap : Nat) (xs : List Limit) (w : World) (hx : Row Limit.cells 3 w.heap.size w a xs) (hc : xs.length ≤ cap) (hM : cap ≤ maxLen) :
    Calls Try.prog 62 #[.slice a xs.length cap, .int .i64 12, .func (.func 63) #[] #[], .int .i64 41] w
      fun e w' => e = .returned (.int .i64 (checkList limitB 12 41 xs)) ∧ Kept w w' := by
  unfold maxLen at hM
  by_cases hm : 12 < xs.length
  · rw [checkList_many hm]
    go_enter Try.func62, Try.ntmps62
    go_wp2
    go_ret
    exact ⟨rfl, Below.refl _ _⟩
  · go_enter Try.func62, Try.ntmps62
    go_wp2
    go_loopw [17] (fun i wr => Upto limitB xs w i wr) (fun i _ => xs.length - (intOf i).toNat)
    case atStart => exact ⟨0, Nat.zero_le _, rfl, by simp, Below.refl _ _⟩
    case round =>
      obtain ⟨k, hk, rfl, ha', hbel⟩ := hrel
      have ha := Lib.hid ha'
      clear ha'
      by_cases hlt : k < xs.length
      · obtain ⟨b, off, rfl, hb, h0, h1, h2⟩ := Limit.row (hx.later hbel (Nat.le_refl _)) k hlt
        cases hv : limitB xs[k]
        all_goals
          go_wp2_with (go_at_call 63; refine (f_limited xs[k] _).mono ?_; rintro e w1 ⟨rfl, hb1⟩)
        · go_ret
          exact ⟨ret_int (checkList_bad hm k hlt hv).symm, by (repeat (first | exact Below.refl _ _ | assumption | (refine Kept.drop ?_ (by assumption)) | (refine Kept.alloc ?_ _) | (refine Below.setCell ?_ (by first | exact Nat.le_refl _ | (simp; done) | (simp; omega) | exact Below.size (by assumption)) _) | (refine Below.drew ?_)))⟩
        · go_round
          case rel => exact ⟨k + 1, by omega, by go_num, take_all hlt ha.out hv, by (repeat (first | exact Below.refl _ _ | assumption | (refine Kept.drop ?_ (by assumption)) | (refine Kept.alloc ?_ _) | (refine Below.setCell ?_ (by first | exact Nat.le_refl _ | (simp; done) | (simp; omega) | exact Below.size (by assumption)) _) | (refine Below.drew ?_)))⟩
          case measure => simp [intOf]; omega
      · go_wp2
        go_ret
        exact ⟨ret_int (checkList_ok hm (by rw [← ha.out, List.take_of_length_le (by omega)])).symm, hbel⟩

theorem f_checked_Frm (a : Option Addr) (cap : Nat) (xs : List Frm) (w : World) (hx : Row Frm.cells 3 w.heap.size w a xs) (hc : xs.length ≤ cap) (hM : cap ≤ maxLen) :
    Calls Try.prog 65 #[.slice a xs.length cap, .int .i64 12, .func (.func 66) #[] #[], .int .i64 42] w
      fun e w' => e = .returned (.int .i64 (checkList frameB 12 42 xs)) ∧ Kept w w' := by
  unfold maxLen at hM
  by_cases hm : 12 < xs.length
  · rw [checkList_many hm]
    go_enter Try.func65, Try.ntmps65
    go_wp2
    go_ret
    exact ⟨rfl, Below.refl _ _⟩
  · go_enter Try.func65, Try.ntmps65
    go_wp2
    go_loopw [17] (fun i wr => Upto frameB xs w i wr) (fun i _ => xs.length - (intOf i).toNat)
    case atStart => exact ⟨0, Nat.zero_le _, rfl, by simp, Below.refl _ _⟩
    case round =>
      obtain ⟨k, hk, rfl, ha', hbel⟩ := hrel
      have ha := Lib.hid ha'
      clear ha'
      by_cases hlt : k < xs.length
      · obtain ⟨b, off, rfl, hb, h0, h1, h2⟩ := Frm.row (hx.later hbel (Nat.le_refl _)) k hlt
        cases hv : frameB xs[k]
        all_goals
          go_wp2_with (go_at_call 66; refine (f_frame xs[k] _).mono ?_; rintro e w1 ⟨rfl, hb1⟩)
        · go_ret
          exact ⟨ret_int (checkList_bad hm k hlt hv).symm, by (repeat (first | exact Below.refl _ _ | assumption | (refine Kept.drop ?_ (by assumption)) | (refine Kept.alloc ?_ _) | (refine Below.setCell ?_ (by first | exact Nat.le_refl _ | (simp; done) | (simp; omega) | exact Below.size (by assumption)) _) | (refine Below.drew ?_)))⟩
        · go_round
          case rel => exact ⟨k + 1, by omega, by go_num, take_all hlt ha.out hv, by (repeat (first | exact Below.refl _ _ | assumption | (refine Kept.drop ?_ (by assumption)) | (refine Kept.alloc ?_ _) | (refine Below.setCell ?_ (by first | exact Nat.le_refl _ | (simp; done) | (simp; omega) | exact Below.size (by assumption)) _) | (refine Below.drew ?_)))⟩
          case measure => simp [intOf]; omega
      · go_wp2
        go_ret
        exact ⟨ret_int (checkList_ok hm (by rw [← ha.out, List.take_of_length_le (by omega)])).symm, hbel⟩

theorem f_CheckLoads (a : Option Addr) (cap : Nat) (xs : List Load) (w : World) (hx : Row Load.cells 4 w.heap.size w a xs) (hc : xs.length ≤ cap) (hM : cap ≤ maxLen) :
    Calls Try.prog 19 #[.slice a xs.length cap] w fun e w' => e = .returned (.int .i64 (checkLoads xs)) ∧ Kept w w' := by
  go_enter Try.func19, Try.ntmps19
  go_wp2_with (go_at_call 58; refine (f_checked_Load _ _ _ _ hx hc hM).mono ?_; rintro e w1 ⟨rfl, hb1⟩)
  go_ret
  exact ⟨rfl, hb1⟩

theorem f_CheckLimits (a : Option Addr) (cap : Nat) (xs : List Limit) (w : World) (hx : Row Limit.cells 3 w.heap.size w a xs) (hc : xs.length ≤ cap) (hM : cap ≤ maxLen) :
    Calls Try.prog 21 #[.slice a xs.length cap] w fun e w' => e = .returned (.int .i64 (checkLimits xs)) ∧ Kept w w' := by
  go_enter Try.func21, Try.ntmps21
  go_wp2_with (go_at_call 62; refine (f_checked_Limit _ _ _ _ hx hc hM).mono ?_; rintro e w1 ⟨rfl, hb1⟩)
  go_ret
  exact ⟨rfl, hb1⟩

theorem f_CheckFrames (a : Option Addr) (cap : Nat) (xs : List Frm) (w : World) (hx : Row Frm.cells 3 w.heap.size w a xs) (hc : xs.length ≤ cap) (hM : cap ≤ maxLen) :
    Calls Try.prog 23 #[.slice a xs.length cap] w fun e w' => e = .returned (.int .i64 (checkFrames xs)) ∧ Kept w w' := by
  go_enter Try.func23, Try.ntmps23
  go_wp2_with (go_at_call 65; refine (f_checked_Frm _ _ _ _ hx hc hM).mono ?_; rintro e w1 ⟨rfl, hb1⟩)
  go_ret
  exact ⟨rfl, hb1⟩

theorem r_CheckLoads (a : Option Addr) (cap : Nat) (xs : List Load) (w : World) (hx : Row Load.cells 4 w.heap.size w a xs) (hc : xs.length ≤ cap) (hM : cap ≤ maxLen) :
    Calls Try.prog 20 #[.slice a xs.length cap] w fun e w' => e = .returned (.int .i64 (checkLoads xs)) ∧ Kept w w' := by
  unfold maxLen at hM
  unfold checkLoads
  by_cases hm : 40 < xs.length
  · rw [checkList_many hm]
    go_enter Try.func20, Try.ntmps20
    go_wp2
    go_ret
    exact ⟨rfl, Below.refl _ _⟩
  · go_enter Try.func20, Try.ntmps20
    go_wp2
    go_loopw [3] (fun i wr => Upto loadB xs w i wr) (fun i _ => xs.length - (intOf i).toNat)
    case atStart => exact ⟨0, Nat.zero_le _, rfl, by simp, Below.refl _ _⟩
    case round =>
      obtain ⟨k, hk, rfl, ha', hbel⟩ := hrel
      have ha := Lib.hid ha'
      clear ha'
      by_cases hlt : k < xs.length
      · obtain ⟨b, off, rfl, hb, h0, h1, h2, h3⟩ := Load.row (hx.later hbel (Nat.le_refl _)) k hlt
        cases c1 : spanB xs[k].alo xs[k].ahi 20000 <;> cases c2 : spanB xs[k].wlo xs[k].whi 1073741824
        all_goals
          go_wp2_with (first | (go_at_call 61; refine (r_spanned _ _ _ _ (by omega) (by omega)).mono ?_; rintro e w1 ⟨rfl, hb1⟩; obtain ⟨hc1, hf1⟩ := bcell hb1))
        all_goals first
          | (go_ret; refine ⟨ret_int (checkList_bad hm k hlt ?_).symm, ?_⟩; (focus (simp [loadB, *])); (repeat (first | exact Below.refl _ _ | assumption | (refine Kept.drop ?_ (by assumption)) | (refine Kept.alloc ?_ _) | (refine Below.setCell ?_ (by first | exact Nat.le_refl _ | (simp; done) | (simp; omega) | exact Below.size (by assumption)) _) | (refine Below.drew ?_))))
          | (go_round; (case rel => (refine ⟨k + 1, by omega, by go_num, take_all hlt ha.out ?_, ?_⟩; (focus (simp [loadB, *])); (repeat (first | exact Below.refl _ _ | assumption | (refine Kept.drop ?_ (by assumption)) | (refine Kept.alloc ?_ _) | (refine Below.setCell ?_ (by first | exact Nat.le_refl _ | (simp; done) | (simp; omega) | exact Below.size (by assumption)) _) | (refine Below.drew ?_))))); (case measure => simp [intOf]; omega))
      · go_wp2
        go_ret
        exact ⟨ret_int (checkList_ok hm (by rw [← ha.out, List.take_of_length_le (by omega)])).symm, hbel⟩

theorem r_CheckLimits (a : Option Addr) (cap : Nat) (xs : List Limit) (w : World) (hx : Row Limit.cells 3 w.heap.size w a xs) (hc : xs.length ≤ cap) (hM : cap ≤ maxLen) :
    Calls Try.prog 22 #[.slice a xs.length cap] w fun e w' => e = .returned (.int .i64 (checkLimits xs)) ∧ Kept w w' := by
  unfold maxLen at hM
  unfold checkLimits
  by_cases hm : 12 < xs.length
  · rw [checkList_many hm]
    go_enter Try.func22, Try.ntmps22
    go_wp2
    go_ret
    exact ⟨rfl, Below.refl _ _⟩
  · go_enter Try.func22, Try.ntmps22
    go_wp2
    go_loopw [3] (fun i wr => Upto limitB xs w i wr) (fun i _ => xs.length - (intOf i).toNat)
    case atStart => exact ⟨0, Nat.zero_le _, rfl, by simp, Below.refl _ _⟩
    case round =>
      obtain ⟨k, hk, rfl, ha', hbel⟩ := hrel
      have ha := Lib.hid ha'
      clear ha'
      by_cases hlt : k < xs.length
      · obtain ⟨b, off, rfl, hb, h0, h1, h2⟩ := Limit.row (hx.later hbel (Nat.le_refl _)) k hlt
        cases c1 : limitB xs[k]
        all_goals
          go_wp2_with (first | (go_at_call 64; refine (r_limit xs[k] _).mono ?_; rintro e w1 ⟨rfl, hb1⟩; obtain ⟨hc1, hf1⟩ := bcell hb1))
        all_goals first
          | (go_ret; refine ⟨ret_int (checkList_bad hm k hlt ?_).symm, ?_⟩; (focus (simp [c1, *])); (repeat (first | exact Below.refl _ _ | assumption | (refine Kept.drop ?_ (by assumption)) | (refine Kept.alloc ?_ _) | (refine Below.setCell ?_ (by first | exact Nat.le_refl _ | (simp; done) | (simp; omega) | exact Below.size (by assumption)) _) | (refine Below.drew ?_))))
          | (go_round; (case rel => (refine ⟨k + 1, by omega, by go_num, take_all hlt ha.out ?_, ?_⟩; (focus (simp [c1, *])); (repeat (first | exact Below.refl _ _ | assumption | (refine Kept.drop ?_ (by assumption)) | (refine Kept.alloc ?_ _) | (refine Below.setCell ?_ (by first | exact Nat.le_refl _ | (simp; done) | (simp; omega) | exact Below.size (by assumption)) _) | (refine Below.drew ?_))))); (case measure => simp [intOf]; omega))
      · go_wp2
        go_ret
        exact ⟨ret_int (checkList_ok hm (by rw [← ha.out, List.take_of_length_le (by omega)])).symm, hbel⟩

theorem r_CheckFrames (a : Option Addr) (cap : Nat) (xs : List Frm) (w : World) (hx : Row Frm.cells 3 w.heap.size w a xs) (hc : xs.length ≤ cap) (hM : cap ≤ maxLen) :
    Calls Try.prog 24 #[.slice a xs.length cap] w fun e w' => e = .returned (.int .i64 (checkFrames xs)) ∧ Kept w w' := by
  unfold maxLen at hM
  unfold checkFrames
  by_cases hm : 12 < xs.length
  · rw [checkList_many hm]
    go_enter Try.func24, Try.ntmps24
    go_wp2
    go_ret
    exact ⟨rfl, Below.refl _ _⟩
  · go_enter Try.func24, Try.ntmps24
    go_wp2
    go_loopw [3] (fun i wr => Upto frameB xs w i wr) (fun i _ => xs.length - (intOf i).toNat)
    case atStart => exact ⟨0, Nat.zero_le _, rfl, by simp, Below.refl _ _⟩
    case round =>
      obtain ⟨k, hk, rfl, ha', hbel⟩ := hrel
      have ha := Lib.hid ha'
      clear ha'
      by_cases hlt : k < xs.length
      · obtain ⟨b, off, rfl, hb, h0, h1, h2⟩ := Frm.row (hx.later hbel (Nat.le_refl _)) k hlt
        cases c1 : inB xs[k].pos (-20000) 20000 <;> cases c2 : inB xs[k].shear 0 1000000000000 <;> cases c3 : inB xs[k].bend 0 10000000000000000
        all_goals
          go_wp2_with (first | (go_at_call 69; refine (r_place _ _).mono ?_; rintro e w1 ⟨rfl, rfl⟩) | (go_at_call 70; refine (r_within _ _ _ _).mono ?_; rintro e w1 ⟨rfl, rfl⟩))
        all_goals first
          | (go_ret; refine ⟨ret_int (checkList_bad hm k hlt ?_).symm, ?_⟩; (focus (simp [frameB, *])); (repeat (first | exact Below.refl _ _ | assumption | (refine Kept.drop ?_ (by assumption)) | (refine Kept.alloc ?_ _) | (refine Below.setCell ?_ (by first | exact Nat.le_refl _ | (simp; done) | (simp; omega) | exact Below.size (by assumption)) _) | (refine Below.drew ?_))))
          | (go_round; (case rel => (refine ⟨k + 1, by omega, by go_num, take_all hlt ha.out ?_, ?_⟩; (focus (simp [frameB, *])); (repeat (first | exact Below.refl _ _ | assumption | (refine Kept.drop ?_ (by assumption)) | (refine Kept.alloc ?_ _) | (refine Below.setCell ?_ (by first | exact Nat.le_refl _ | (simp; done) | (simp; omega) | exact Below.size (by assumption)) _) | (refine Below.drew ?_))))); (case measure => simp [intOf]; omega))
      · go_wp2
        go_ret
        exact ⟨ret_int (checkList_ok hm (by rw [← ha.out, List.take_of_length_le (by omega)])).symm, hbel⟩

theorem r_great (a b c d : Int) (w : World) :
    Calls Try.prog 18 #[.int .i64 a, .int .i64 b, .int .i64 c, .int .i64 d] w fun e w' => e = .returned (.bool (great a b c d)) ∧ w = w' := by
  go_enter Try.func18, Try.ntmps18
  go_wp2
  all_goals (go_ret; refine ⟨?_, rfl⟩; simp [great, *])
  all_goals omega

end Go.Proofs.Ytlloijkmpmfapaa
