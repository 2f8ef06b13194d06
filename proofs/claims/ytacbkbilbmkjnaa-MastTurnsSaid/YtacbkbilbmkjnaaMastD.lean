/-
  Axes of a port, lines of a port: what is valid, in the program and in the reference.
-/
import Derived.Test.YtacbkbilbmkjnaaMastC
import Derived.Test.YtacbkbilbmkjnaaMastPlain3
namespace Go.Proofs.Ytacbkbilbmkjnaa
open Go.RowKit Bal Bal.Trim Bal.Mast
set_option linter.unusedVariables false
set_option linter.unusedSimpArgs false
set_option maxHeartbeats 800000
set_option maxRecDepth 10000

theorem f_turnable1 (a : Axis) (w : World) :
    Calls Try.prog 97 #[.agg #[.int .i64 a.x, .int .i64 a.y]] w fun e w' => e = .returned (.bool (!axisB a)) ∧ Kept w w' := by
  have he : (!axisB a) = decide (¬ checkAxis a = 0) := by unfold checkAxis; cases axisB a <;> simp
  rw [he]
  obtain ⟨C, hC⟩ : ∃ C, C = checkAxis a := ⟨_, rfl⟩
  have HC := fun w => f_CheckAxis a w
  rw [← hC] at HC ⊢
  clear hC he
  go_enter Try.func97, Try.ntmps97
  go_wp2_with (go_at_call 13; (with_reducible refine (HC _).mono ?_); rintro e w1 ⟨rfl, hb1⟩; obtain ⟨hc1, hf1, hl1⟩ := bcell3 hb1)
  all_goals (go_ret; exact ⟨ret_bool (by first | rfl | (by_cases h : C = 0 <;> simp [h])), by (repeat (first | with_reducible exact Below.refl _ _ | with_reducible assumption | with_reducible refine Kept.drop ?_ (by with_reducible assumption) | with_reducible refine Kept.alloc ?_ _ | ((with_reducible refine Below.setCell ?_ ?_ _); rotate_left 1; (focus (first | exact Nat.le_refl _ | (simp; done) | (simp; omega) | exact Below.size (by with_reducible assumption) | (refine Kept.size ?_; (repeat (first | with_reducible exact Below.refl _ _ | with_reducible assumption | with_reducible refine Kept.drop ?_ (by with_reducible assumption) | with_reducible refine Kept.alloc ?_ _ | with_reducible refine Below.drew ?_)))))) | with_reducible refine Below.drew ?_))⟩)

def lineB (s : Span) : Bool := spanIn s.lo s.hi 0 1000000
theorem f_lines1 (a : Span) (w : World) :
    Calls Try.prog 98 #[.agg #[.int .i64 a.lo, .int .i64 a.hi]] w fun e w' => e = .returned (.bool (!lineB a)) ∧ Kept w w' := by
  have HC := fun w => f_span a.lo a.hi 0 1000000 w
  have he : lineB a = spanIn a.lo a.hi 0 1000000 := rfl
  rw [← he] at HC
  clear he
  go_enter Try.func98, Try.ntmps98
  go_wp2_with (go_at_call 55; (with_reducible refine (HC _).mono ?_); rintro e w1 ⟨rfl, hb1⟩; obtain ⟨hc1, hf1, hl1⟩ := bcell3 hb1)
  go_ret
  exact ⟨ret_bool (by first | rfl | simp), by (repeat (first | with_reducible exact Below.refl _ _ | with_reducible assumption | with_reducible refine Kept.drop ?_ (by with_reducible assumption) | with_reducible refine Kept.alloc ?_ _ | ((with_reducible refine Below.setCell ?_ ?_ _); rotate_left 1; (focus (first | exact Nat.le_refl _ | (simp; done) | (simp; omega) | exact Below.size (by with_reducible assumption) | (refine Kept.size ?_; (repeat (first | with_reducible exact Below.refl _ _ | with_reducible assumption | with_reducible refine Kept.drop ?_ (by with_reducible assumption) | with_reducible refine Kept.alloc ?_ _ | with_reducible refine Below.drew ?_)))))) | with_reducible refine Below.drew ?_))⟩

theorem s_IndexAxis (a : Option Addr) (cap : Nat) (xs : List Axis) (w : World) (hx : Row Axis.cells 2 w.heap.size w a xs) (h1 : xs.length ≤ 1000000) :
    Calls Try.prog 126 #[.slice a xs.length cap, .func (.func 97) #[] #[]] w fun e w' => (∃ r : Int, e = .returned (.int .i64 r) ∧ decide (r < 0) = xs.all axisB ∧ -1 ≤ r) ∧ Kept w w' := by
  obtain ⟨R, hR⟩ : ∃ R, R = xs.all axisB := ⟨_, rfl⟩
  have HR := Lib.hid hR
  rw [← hR]
  clear hR
  go_enter Try.func126, Try.ntmps126
  go_wp2
  go_loopw [8] (fun i wr => Upto axisB xs w i wr) (fun i _ => xs.length - (intOf i).toNat)
  case atStart => exact ⟨0, Nat.zero_le _, rfl, by simp, Below.refl _ _⟩
  case round =>
    obtain ⟨k, hk, rfl, ha', hb'⟩ := hrel
    have ha := Lib.hid ha'
    have hb := Lib.hid hb'
    clear ha'
    by_cases hlt : k < xs.length
    · obtain ⟨b, off, rfl, hbl, h0, h1⟩ := Axis.row (hx.later hb' (Nat.le_refl _)) k hlt
      have hbad : axisB xs[k] = false → R = false := fun hv => by
        rw [HR.out, Bool.eq_false_iff]
        intro h
        rw [List.all_eq_true.1 h _ (List.getElem_mem hlt)] at hv
        cases hv
      have HB := Lib.hid hbad
      clear hbad hb'
      have HT := Lib.hid (fun h => take_all (valid := axisB) hlt ha.out h)
      have hcall := fun w => f_turnable1 xs[k] w
      obtain ⟨x, hx0⟩ : ∃ x, x = xs[k] := ⟨_, rfl⟩
      rw [← hx0] at HB HT h0 h1 hcall
      clear hx0
      obtain ⟨V, hV⟩ : ∃ V, V = axisB x := ⟨_, rfl⟩
      rw [← hV] at hcall HB HT
      clear hV
      cases V with
      | false =>
        have HF := Lib.hid (HB.out rfl)
        clear HB
        go_wp2_with (go_at_call 97; refine (hcall _).mono ?_; rintro e w1 ⟨rfl, hb1⟩)
        go_ret
        refine ⟨⟨k, rfl, ?_, by omega⟩, Kept.drop hb.out (by (repeat (first | with_reducible exact Below.refl _ _ | with_reducible assumption | with_reducible refine Kept.drop ?_ (by with_reducible assumption) | with_reducible refine Kept.alloc ?_ _ | ((with_reducible refine Below.setCell ?_ ?_ _); rotate_left 1; (focus (first | exact Nat.le_refl _ | (simp; done) | (simp; omega) | exact Below.size (by with_reducible assumption) | (refine Kept.size ?_; (repeat (first | with_reducible exact Below.refl _ _ | with_reducible assumption | with_reducible refine Kept.drop ?_ (by with_reducible assumption) | with_reducible refine Kept.alloc ?_ _ | with_reducible refine Below.drew ?_)))))) | with_reducible refine Below.drew ?_)))⟩
        rw [HF.out, decide_eq_false_iff_not]; omega
      | true =>
        have HF := Lib.hid (HT.out rfl)
        clear HT
        go_wp2_with (go_at_call 97; refine (hcall _).mono ?_; rintro e w1 ⟨rfl, hb1⟩)
        go_roundw
        case rel => exact ⟨k + 1, by omega, by go_num, HF.out, Kept.drop hb.out (by (repeat (first | with_reducible exact Below.refl _ _ | with_reducible assumption | with_reducible refine Kept.drop ?_ (by with_reducible assumption) | with_reducible refine Kept.alloc ?_ _ | ((with_reducible refine Below.setCell ?_ ?_ _); rotate_left 1; (focus (first | exact Nat.le_refl _ | (simp; done) | (simp; omega) | exact Below.size (by with_reducible assumption) | (refine Kept.size ?_; (repeat (first | with_reducible exact Below.refl _ _ | with_reducible assumption | with_reducible refine Kept.drop ?_ (by with_reducible assumption) | with_reducible refine Kept.alloc ?_ _ | with_reducible refine Below.drew ?_)))))) | with_reducible refine Below.drew ?_)))⟩
        case measure => simp [intOf]; omega
    · obtain rfl : k = xs.length := by omega
      have HF := Lib.hid (show R = true by rw [HR.out, ← ha.out, List.take_length])
      clear hb'
      go_wp2
      go_ret
      refine ⟨⟨-1, rfl, ?_, by omega⟩, hb.out⟩
      rw [HF.out]; rfl

theorem s_ContainsAxis (a : Option Addr) (cap : Nat) (xs : List Axis) (w : World) (hx : Row Axis.cells 2 w.heap.size w a xs) (h1 : xs.length ≤ 1000000) :
    Calls Try.prog 96 #[.slice a xs.length cap, .func (.func 97) #[] #[]] w fun e w' => e = .returned (.bool (!xs.all axisB)) ∧ Kept w w' := by
  obtain ⟨R, hR⟩ : ∃ R, R = xs.all axisB := ⟨_, rfl⟩
  have hcall := s_IndexAxis a cap xs w hx h1
  rw [← hR] at hcall ⊢
  clear hR
  go_enter Try.func96, Try.ntmps96
  go_wp2_with (go_at_call 126; refine hcall.mono ?_; rintro e w1 ⟨⟨r, rfl, hr1, hr2⟩, hb1⟩)
  go_ret
  refine ⟨ret_bool ?_, hb1⟩
  rw [← hr1, ← decide_not]
  exact decide_eq_decide.2 (by omega)

theorem s_IndexSpan (a : Option Addr) (cap : Nat) (xs : List Span) (w : World) (hx : Row Span.cells 2 w.heap.size w a xs) (h1 : xs.length ≤ 1000000) :
    Calls Try.prog 124 #[.slice a xs.length cap, .func (.func 98) #[] #[]] w fun e w' => (∃ r : Int, e = .returned (.int .i64 r) ∧ decide (r < 0) = xs.all lineB ∧ -1 ≤ r) ∧ Kept w w' := by
  obtain ⟨R, hR⟩ : ∃ R, R = xs.all lineB := ⟨_, rfl⟩
  have HR := Lib.hid hR
  rw [← hR]
  clear hR
  go_enter Try.func124, Try.ntmps124
  go_wp2
  go_loopw [8] (fun i wr => Upto lineB xs w i wr) (fun i _ => xs.length - (intOf i).toNat)
  case atStart => exact ⟨0, Nat.zero_le _, rfl, by simp, Below.refl _ _⟩
  case round =>
    obtain ⟨k, hk, rfl, ha', hb'⟩ := hrel
    have ha := Lib.hid ha'
    have hb := Lib.hid hb'
    clear ha'
    by_cases hlt : k < xs.length
    · obtain ⟨b, off, rfl, hbl, h0, h1⟩ := Span.row (hx.later hb' (Nat.le_refl _)) k hlt
      have hbad : lineB xs[k] = false → R = false := fun hv => by
        rw [HR.out, Bool.eq_false_iff]
        intro h
        rw [List.all_eq_true.1 h _ (List.getElem_mem hlt)] at hv
        cases hv
      have HB := Lib.hid hbad
      clear hbad hb'
      have HT := Lib.hid (fun h => take_all (valid := lineB) hlt ha.out h)
      have hcall := fun w => f_lines1 xs[k] w
      obtain ⟨x, hx0⟩ : ∃ x, x = xs[k] := ⟨_, rfl⟩
      rw [← hx0] at HB HT h0 h1 hcall
      clear hx0
      obtain ⟨V, hV⟩ : ∃ V, V = lineB x := ⟨_, rfl⟩
      rw [← hV] at hcall HB HT
      clear hV
      cases V with
      | false =>
        have HF := Lib.hid (HB.out rfl)
        clear HB
        go_wp2_with (go_at_call 98; refine (hcall _).mono ?_; rintro e w1 ⟨rfl, hb1⟩)
        go_ret
        refine ⟨⟨k, rfl, ?_, by omega⟩, Kept.drop hb.out (by (repeat (first | with_reducible exact Below.refl _ _ | with_reducible assumption | with_reducible refine Kept.drop ?_ (by with_reducible assumption) | with_reducible refine Kept.alloc ?_ _ | ((with_reducible refine Below.setCell ?_ ?_ _); rotate_left 1; (focus (first | exact Nat.le_refl _ | (simp; done) | (simp; omega) | exact Below.size (by with_reducible assumption) | (refine Kept.size ?_; (repeat (first | with_reducible exact Below.refl _ _ | with_reducible assumption | with_reducible refine Kept.drop ?_ (by with_reducible assumption) | with_reducible refine Kept.alloc ?_ _ | with_reducible refine Below.drew ?_)))))) | with_reducible refine Below.drew ?_)))⟩
        rw [HF.out, decide_eq_false_iff_not]; omega
      | true =>
        have HF := Lib.hid (HT.out rfl)
        clear HT
        go_wp2_with (go_at_call 98; refine (hcall _).mono ?_; rintro e w1 ⟨rfl, hb1⟩)
        go_roundw
        case rel => exact ⟨k + 1, by omega, by go_num, HF.out, Kept.drop hb.out (by (repeat (first | with_reducible exact Below.refl _ _ | with_reducible assumption | with_reducible refine Kept.drop ?_ (by with_reducible assumption) | with_reducible refine Kept.alloc ?_ _ | ((with_reducible refine Below.setCell ?_ ?_ _); rotate_left 1; (focus (first | exact Nat.le_refl _ | (simp; done) | (simp; omega) | exact Below.size (by with_reducible assumption) | (refine Kept.size ?_; (repeat (first | with_reducible exact Below.refl _ _ | with_reducible assumption | with_reducible refine Kept.drop ?_ (by with_reducible assumption) | with_reducible refine Kept.alloc ?_ _ | with_reducible refine Below.drew ?_)))))) | with_reducible refine Below.drew ?_)))⟩
        case measure => simp [intOf]; omega
    · obtain rfl : k = xs.length := by omega
      have HF := Lib.hid (show R = true by rw [HR.out, ← ha.out, List.take_length])
      clear hb'
      go_wp2
      go_ret
      refine ⟨⟨-1, rfl, ?_, by omega⟩, hb.out⟩
      rw [HF.out]; rfl

theorem s_ContainsSpan (a : Option Addr) (cap : Nat) (xs : List Span) (w : World) (hx : Row Span.cells 2 w.heap.size w a xs) (h1 : xs.length ≤ 1000000) :
    Calls Try.prog 89 #[.slice a xs.length cap, .func (.func 98) #[] #[]] w fun e w' => e = .returned (.bool (!xs.all lineB)) ∧ Kept w w' := by
  obtain ⟨R, hR⟩ : ∃ R, R = xs.all lineB := ⟨_, rfl⟩
  have hcall := s_IndexSpan a cap xs w hx h1
  rw [← hR] at hcall ⊢
  clear hR
  go_enter Try.func89, Try.ntmps89
  go_wp2_with (go_at_call 124; refine hcall.mono ?_; rintro e w1 ⟨⟨r, rfl, hr1, hr2⟩, hb1⟩)
  go_ret
  refine ⟨ret_bool ?_, hb1⟩
  rw [← hr1, ← decide_not]
  exact decide_eq_decide.2 (by omega)

theorem turnable_rng (xs : List Axis) : turnable xs = (rng [(xs.length : Int)] 1 32 && xs.all axisB) := by
  unfold turnable
  congr 1
  rw [Bool.eq_iff_iff]
  simp [rng, inB]
  omega
theorem f_turnable (a : Option Addr) (cap : Nat) (xs : List Axis) (w : World) (hx : Row Axis.cells 2 w.heap.size w a xs) (h1 : xs.length ≤ 1000000) :
    Calls Try.prog 56 #[.slice a xs.length cap] w fun e w' => e = .returned (.bool (turnable xs)) ∧ Kept w w' := by
  rw [turnable_rng]
  have HC := fun (W : World) (hk : Kept w W) => s_ContainsAxis a cap xs W (hx.later hk (Nat.le_refl _)) h1
  obtain ⟨R, hR⟩ : ∃ R, R = xs.all axisB := ⟨_, rfl⟩
  rw [← hR] at HC ⊢
  clear hR
  go_enter Try.func56, Try.ntmps56
  go_wp2_with (first | (go_at_call 51; (with_reducible refine (f_ranged_1 _ _ _ _ _ _ (by simp)).mono ?_); rintro e w1 ⟨rfl, hb1⟩) | (go_at_call 96; refine (HC _ (by (repeat (first | with_reducible exact Below.refl _ _ | with_reducible assumption | with_reducible refine Kept.drop ?_ (by with_reducible assumption) | with_reducible refine Kept.alloc ?_ _ | ((with_reducible refine Below.setCell ?_ ?_ _); rotate_left 1; (focus (first | exact Nat.le_refl _ | (simp; done) | (simp; omega) | exact Below.size (by with_reducible assumption) | (refine Kept.size ?_; (repeat (first | with_reducible exact Below.refl _ _ | with_reducible assumption | with_reducible refine Kept.drop ?_ (by with_reducible assumption) | with_reducible refine Kept.alloc ?_ _ | with_reducible refine Below.drew ?_)))))) | with_reducible refine Below.drew ?_)))).mono ?_; rintro e w1 ⟨rfl, hb1⟩))
  all_goals (go_ret; exact ⟨ret_bool (by simp [*]), by (repeat (first | with_reducible exact Below.refl _ _ | with_reducible assumption | with_reducible refine Kept.drop ?_ (by with_reducible assumption) | with_reducible refine Kept.alloc ?_ _ | ((with_reducible refine Below.setCell ?_ ?_ _); rotate_left 1; (focus (first | exact Nat.le_refl _ | (simp; done) | (simp; omega) | exact Below.size (by with_reducible assumption) | (refine Kept.size ?_; (repeat (first | with_reducible exact Below.refl _ _ | with_reducible assumption | with_reducible refine Kept.drop ?_ (by with_reducible assumption) | with_reducible refine Kept.alloc ?_ _ | with_reducible refine Below.drew ?_)))))) | with_reducible refine Below.drew ?_))⟩)

theorem f_lines (a : Option Addr) (cap : Nat) (xs : List Span) (w : World) (hx : Row Span.cells 2 w.heap.size w a xs) (h1 : xs.length ≤ 1000000) :
    Calls Try.prog 58 #[.slice a xs.length cap] w fun e w' => e = .returned (.bool (linesB xs)) ∧ Kept w w' := by
  have he : linesB xs = (decide (xs.length ≤ 8) && xs.all lineB) := rfl
  rw [he]
  have HC := fun (W : World) (hk : Kept w W) => s_ContainsSpan a cap xs W (hx.later hk (Nat.le_refl _)) h1
  obtain ⟨R, hR⟩ : ∃ R, R = xs.all lineB := ⟨_, rfl⟩
  rw [← hR] at HC ⊢
  clear hR he
  by_cases h8 : xs.length ≤ 8
  all_goals
    go_enter Try.func58, Try.ntmps58
    go_wp2_with (go_at_call 89; refine (HC _ (by (repeat (first | with_reducible exact Below.refl _ _ | with_reducible assumption | with_reducible refine Kept.drop ?_ (by with_reducible assumption) | with_reducible refine Kept.alloc ?_ _ | ((with_reducible refine Below.setCell ?_ ?_ _); rotate_left 1; (focus (first | exact Nat.le_refl _ | (simp; done) | (simp; omega) | exact Below.size (by with_reducible assumption) | (refine Kept.size ?_; (repeat (first | with_reducible exact Below.refl _ _ | with_reducible assumption | with_reducible refine Kept.drop ?_ (by with_reducible assumption) | with_reducible refine Kept.alloc ?_ _ | with_reducible refine Below.drew ?_)))))) | with_reducible refine Below.drew ?_)))).mono ?_; rintro e w1 ⟨rfl, hb1⟩)
    all_goals (go_ret; exact ⟨ret_bool (by simp [h8]), by (repeat (first | with_reducible exact Below.refl _ _ | with_reducible assumption | with_reducible refine Kept.drop ?_ (by with_reducible assumption) | with_reducible refine Kept.alloc ?_ _ | ((with_reducible refine Below.setCell ?_ ?_ _); rotate_left 1; (focus (first | exact Nat.le_refl _ | (simp; done) | (simp; omega) | exact Below.size (by with_reducible assumption) | (refine Kept.size ?_; (repeat (first | with_reducible exact Below.refl _ _ | with_reducible assumption | with_reducible refine Kept.drop ?_ (by with_reducible assumption) | with_reducible refine Kept.alloc ?_ _ | with_reducible refine Below.drew ?_)))))) | with_reducible refine Below.drew ?_))⟩)

theorem r_axes (a : Option Addr) (cap : Nat) (xs : List Axis) (w : World) (hx : Row Axis.cells 2 w.heap.size w a xs) (h1 : xs.length ≤ 1000000) :
    Calls Try.prog 57 #[.slice a xs.length cap] w fun e w' => e = .returned (.bool (turnable xs)) ∧ Kept w w' := by
  rw [turnable_rng]
  obtain ⟨R, hR⟩ : ∃ R, R = xs.all axisB := ⟨_, rfl⟩
  have HR := Lib.hid hR
  rw [← hR]
  clear hR
  cases hg : rng [(xs.length : Int)] 1 32
  · have HI := Lib.hid (show inB (xs.length : Int) 1 32 = false by simpa [rng] using hg)
    clear hg
    go_enter Try.func57, Try.ntmps57
    go_wp2_with (go_at_call 53; (with_reducible refine (r_within _ _ _ _).mono ?_); rw [HI.out]; rintro e w1 ⟨rfl, rfl⟩)
    go_ret
    exact ⟨ret_bool (by simp), by (repeat (first | with_reducible exact Below.refl _ _ | with_reducible assumption | with_reducible refine Kept.drop ?_ (by with_reducible assumption) | with_reducible refine Kept.alloc ?_ _ | ((with_reducible refine Below.setCell ?_ ?_ _); rotate_left 1; (focus (first | exact Nat.le_refl _ | (simp; done) | (simp; omega) | exact Below.size (by with_reducible assumption) | (refine Kept.size ?_; (repeat (first | with_reducible exact Below.refl _ _ | with_reducible assumption | with_reducible refine Kept.drop ?_ (by with_reducible assumption) | with_reducible refine Kept.alloc ?_ _ | with_reducible refine Below.drew ?_)))))) | with_reducible refine Below.drew ?_))⟩
  have HI := Lib.hid (show inB (xs.length : Int) 1 32 = true by simpa [rng] using hg)
  clear hg
  skip
  go_enter Try.func57, Try.ntmps57
  go_wp2_with (go_at_call 53; (with_reducible refine (r_within _ _ _ _).mono ?_); rw [HI.out]; rintro e w1 ⟨rfl, rfl⟩)
  go_loopw [3] (fun i wr => Upto axisB xs w i wr) (fun i _ => xs.length - (intOf i).toNat)
  case atStart => exact ⟨0, Nat.zero_le _, rfl, by simp, by (repeat (first | with_reducible exact Below.refl _ _ | with_reducible assumption | with_reducible refine Kept.drop ?_ (by with_reducible assumption) | with_reducible refine Kept.alloc ?_ _ | ((with_reducible refine Below.setCell ?_ ?_ _); rotate_left 1; (focus (first | exact Nat.le_refl _ | (simp; done) | (simp; omega) | exact Below.size (by with_reducible assumption) | (refine Kept.size ?_; (repeat (first | with_reducible exact Below.refl _ _ | with_reducible assumption | with_reducible refine Kept.drop ?_ (by with_reducible assumption) | with_reducible refine Kept.alloc ?_ _ | with_reducible refine Below.drew ?_)))))) | with_reducible refine Below.drew ?_))⟩
  case round =>
    obtain ⟨k, hk, rfl, ha', hb'⟩ := hrel
    have ha := Lib.hid ha'
    have hb := Lib.hid hb'
    clear ha'
    by_cases hlt : k < xs.length
    · obtain ⟨b, off, rfl, hbl, h0, h1⟩ := Axis.row (hx.later hb' (Nat.le_refl _)) k hlt
      have hbad : axisB xs[k] = false → R = false := fun hv => by
        rw [HR.out, Bool.eq_false_iff]
        intro h
        rw [List.all_eq_true.1 h _ (List.getElem_mem hlt)] at hv
        cases hv
      have HB := Lib.hid hbad
      clear hbad hb'
      have HT := Lib.hid (fun h => take_all (valid := axisB) hlt ha.out h)
      have hcall := fun w => r_Axis xs[k] w
      obtain ⟨x, hx0⟩ : ∃ x, x = xs[k] := ⟨_, rfl⟩
      rw [← hx0] at HB HT h0 h1 hcall
      clear hx0
      skip
      obtain ⟨V, hV⟩ : ∃ V, V = axisB x := ⟨_, rfl⟩
      rw [← hV] at hcall HB HT
      clear hV
      cases V with
      | false =>
        have HF := Lib.hid (HB.out rfl)
        clear HB
        go_wp2_with (go_at_call 47; refine (hcall _).mono ?_; rintro e w1 ⟨rfl, hb1⟩)
        go_ret
        exact ⟨ret_bool (by rw [HF.out]; first | rfl | simp), Kept.drop hb.out (by (repeat (first | with_reducible exact Below.refl _ _ | with_reducible assumption | with_reducible refine Kept.drop ?_ (by with_reducible assumption) | with_reducible refine Kept.alloc ?_ _ | ((with_reducible refine Below.setCell ?_ ?_ _); rotate_left 1; (focus (first | exact Nat.le_refl _ | (simp; done) | (simp; omega) | exact Below.size (by with_reducible assumption) | (refine Kept.size ?_; (repeat (first | with_reducible exact Below.refl _ _ | with_reducible assumption | with_reducible refine Kept.drop ?_ (by with_reducible assumption) | with_reducible refine Kept.alloc ?_ _ | with_reducible refine Below.drew ?_)))))) | with_reducible refine Below.drew ?_)))⟩
      | true =>
        have HF := Lib.hid (HT.out rfl)
        clear HT
        go_wp2_with (go_at_call 47; refine (hcall _).mono ?_; rintro e w1 ⟨rfl, hb1⟩)
        go_roundw
        case rel => exact ⟨k + 1, by omega, by go_num, HF.out, Kept.drop hb.out (by (repeat (first | with_reducible exact Below.refl _ _ | with_reducible assumption | with_reducible refine Kept.drop ?_ (by with_reducible assumption) | with_reducible refine Kept.alloc ?_ _ | ((with_reducible refine Below.setCell ?_ ?_ _); rotate_left 1; (focus (first | exact Nat.le_refl _ | (simp; done) | (simp; omega) | exact Below.size (by with_reducible assumption) | (refine Kept.size ?_; (repeat (first | with_reducible exact Below.refl _ _ | with_reducible assumption | with_reducible refine Kept.drop ?_ (by with_reducible assumption) | with_reducible refine Kept.alloc ?_ _ | with_reducible refine Below.drew ?_)))))) | with_reducible refine Below.drew ?_)))⟩
        case measure => simp [intOf]; omega
    · obtain rfl : k = xs.length := by omega
      have HF := Lib.hid (show R = true by rw [HR.out, ← ha.out, List.take_length])
      clear hb'
      go_wp2
      go_ret
      exact ⟨ret_bool (by rw [HF.out]; first | rfl | simp [*]), hb.out⟩

theorem r_pulls (a : Option Addr) (cap : Nat) (xs : List Span) (w : World) (hx : Row Span.cells 2 w.heap.size w a xs) (h1 : xs.length ≤ 1000000) :
    Calls Try.prog 60 #[.slice a xs.length cap] w fun e w' => e = .returned (.bool (linesB xs)) ∧ Kept w w' := by
  have he : linesB xs = (decide (xs.length ≤ 8) && xs.all lineB) := rfl
  rw [he]
  clear he
  obtain ⟨R, hR⟩ : ∃ R, R = xs.all lineB := ⟨_, rfl⟩
  have HR := Lib.hid hR
  rw [← hR]
  clear hR
  by_cases h8 : xs.length ≤ 8
  case neg =>
    go_enter Try.func60, Try.ntmps60
    go_wp2
    go_ret
    exact ⟨ret_bool (by simp [h8]), by (repeat (first | with_reducible exact Below.refl _ _ | with_reducible assumption | with_reducible refine Kept.drop ?_ (by with_reducible assumption) | with_reducible refine Kept.alloc ?_ _ | ((with_reducible refine Below.setCell ?_ ?_ _); rotate_left 1; (focus (first | exact Nat.le_refl _ | (simp; done) | (simp; omega) | exact Below.size (by with_reducible assumption) | (refine Kept.size ?_; (repeat (first | with_reducible exact Below.refl _ _ | with_reducible assumption | with_reducible refine Kept.drop ?_ (by with_reducible assumption) | with_reducible refine Kept.alloc ?_ _ | with_reducible refine Below.drew ?_)))))) | with_reducible refine Below.drew ?_))⟩
  skip
  go_enter Try.func60, Try.ntmps60
  go_wp2
  go_loopw [3] (fun i wr => Upto lineB xs w i wr) (fun i _ => xs.length - (intOf i).toNat)
  case atStart => exact ⟨0, Nat.zero_le _, rfl, by simp, by (repeat (first | with_reducible exact Below.refl _ _ | with_reducible assumption | with_reducible refine Kept.drop ?_ (by with_reducible assumption) | with_reducible refine Kept.alloc ?_ _ | ((with_reducible refine Below.setCell ?_ ?_ _); rotate_left 1; (focus (first | exact Nat.le_refl _ | (simp; done) | (simp; omega) | exact Below.size (by with_reducible assumption) | (refine Kept.size ?_; (repeat (first | with_reducible exact Below.refl _ _ | with_reducible assumption | with_reducible refine Kept.drop ?_ (by with_reducible assumption) | with_reducible refine Kept.alloc ?_ _ | with_reducible refine Below.drew ?_)))))) | with_reducible refine Below.drew ?_))⟩
  case round =>
    obtain ⟨k, hk, rfl, ha', hb'⟩ := hrel
    have ha := Lib.hid ha'
    have hb := Lib.hid hb'
    clear ha'
    by_cases hlt : k < xs.length
    · obtain ⟨b, off, rfl, hbl, h0, h1⟩ := Span.row (hx.later hb' (Nat.le_refl _)) k hlt
      have hbad : lineB xs[k] = false → R = false := fun hv => by
        rw [HR.out, Bool.eq_false_iff]
        intro h
        rw [List.all_eq_true.1 h _ (List.getElem_mem hlt)] at hv
        cases hv
      have HB := Lib.hid hbad
      clear hbad hb'
      have HT := Lib.hid (fun h => take_all (valid := lineB) hlt ha.out h)
      have hcall := fun w => r_spanned xs[k].lo xs[k].hi 0 1000000 w
      obtain ⟨x, hx0⟩ : ∃ x, x = xs[k] := ⟨_, rfl⟩
      rw [← hx0] at HB HT h0 h1 hcall
      clear hx0
      have he : spanIn x.lo x.hi 0 1000000 = lineB x := rfl
      rw [he] at hcall
      clear he
      obtain ⟨V, hV⟩ : ∃ V, V = lineB x := ⟨_, rfl⟩
      rw [← hV] at hcall HB HT
      clear hV
      cases V with
      | false =>
        have HF := Lib.hid (HB.out rfl)
        clear HB
        go_wp2_with (go_at_call 91; refine (hcall _).mono ?_; rintro e w1 ⟨rfl, hb1⟩)
        go_ret
        exact ⟨ret_bool (by rw [HF.out]; first | rfl | simp), Kept.drop hb.out (by (repeat (first | with_reducible exact Below.refl _ _ | with_reducible assumption | with_reducible refine Kept.drop ?_ (by with_reducible assumption) | with_reducible refine Kept.alloc ?_ _ | ((with_reducible refine Below.setCell ?_ ?_ _); rotate_left 1; (focus (first | exact Nat.le_refl _ | (simp; done) | (simp; omega) | exact Below.size (by with_reducible assumption) | (refine Kept.size ?_; (repeat (first | with_reducible exact Below.refl _ _ | with_reducible assumption | with_reducible refine Kept.drop ?_ (by with_reducible assumption) | with_reducible refine Kept.alloc ?_ _ | with_reducible refine Below.drew ?_)))))) | with_reducible refine Below.drew ?_)))⟩
      | true =>
        have HF := Lib.hid (HT.out rfl)
        clear HT
        go_wp2_with (go_at_call 91; refine (hcall _).mono ?_; rintro e w1 ⟨rfl, hb1⟩)
        go_roundw
        case rel => exact ⟨k + 1, by omega, by go_num, HF.out, Kept.drop hb.out (by (repeat (first | with_reducible exact Below.refl _ _ | with_reducible assumption | with_reducible refine Kept.drop ?_ (by with_reducible assumption) | with_reducible refine Kept.alloc ?_ _ | ((with_reducible refine Below.setCell ?_ ?_ _); rotate_left 1; (focus (first | exact Nat.le_refl _ | (simp; done) | (simp; omega) | exact Below.size (by with_reducible assumption) | (refine Kept.size ?_; (repeat (first | with_reducible exact Below.refl _ _ | with_reducible assumption | with_reducible refine Kept.drop ?_ (by with_reducible assumption) | with_reducible refine Kept.alloc ?_ _ | with_reducible refine Below.drew ?_)))))) | with_reducible refine Below.drew ?_)))⟩
        case measure => simp [intOf]; omega
    · obtain rfl : k = xs.length := by omega
      have HF := Lib.hid (show R = true by rw [HR.out, ← ha.out, List.take_length])
      clear hb'
      go_wp2
      go_ret
      exact ⟨ret_bool (by rw [HF.out]; first | rfl | simp [*]), hb.out⟩

end Go.Proofs.Ytacbkbilbmkjnaa
