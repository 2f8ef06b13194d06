/-
  Ranges, axes, winds and roots, in the program and in the reference.
-/
import Derived.Test.YtacbkbilbmkjnaaProg
import Derived.Test.YtacbkbilbmkjnaaMastMem
import Derived.Test.YtacbkbilbmkjnaaLater
import Derived.Deep.QuietTactic
import Derived.BigQuiet
namespace Go.Proofs.Ytacbkbilbmkjnaa
open Go.RowKit Bal Bal.Trim Bal.Mast
set_option linter.unusedVariables false
set_option linter.unusedSimpArgs false
set_option maxHeartbeats 800000
set_option maxRecDepth 10000

theorem f_ranged1 (lo hi n : Int) (w : World) (bl bh : Nat) (hl : w.cell? ⟨bl, 0, none⟩ = some (.int .i64 lo)) (hh : w.cell? ⟨bh, 0, none⟩ = some (.int .i64 hi)) :
    Calls Try.prog 95 #[.int .i64 n, .pointer (some ⟨bl, 0, none⟩), .pointer (some ⟨bh, 0, none⟩)] w fun e w' => e = .returned (.bool (!inB n lo hi)) ∧ w = w' := by
  have he : (!inB n lo hi) = (decide (n < lo) || decide (hi < n)) := by
    rw [Bool.eq_iff_iff]; first | (simp [inB]; done) | (simp [inB]; omega)
  rw [he]
  by_cases h1 : n < lo <;> by_cases h2 : hi < n
  all_goals
    go_enter Try.func95, Try.ntmps95
    go_wp2
    go_ret
    exact ⟨ret_bool (by simp [*]), rfl⟩

theorem s_IndexR (lo hi : Int) (bl bh : Nat) (a : Option Addr) (cap : Nat) (xs : List Int) (w : World) (hl : w.cell? ⟨bl, 0, none⟩ = some (.int .i64 lo)) (hh : w.cell? ⟨bh, 0, none⟩ = some (.int .i64 hi)) {B : Nat} (hx : Row icell 1 B w a xs) (h1 : xs.length ≤ 1000000) :
    Calls Try.prog 125 #[.slice a xs.length cap, .func (.func 95) #[] #[.pointer (some ⟨bl, 0, none⟩), .pointer (some ⟨bh, 0, none⟩)]] w fun e w' => (∃ r : Int, e = .returned (.int .i64 r) ∧ decide (r < 0) = rng xs lo hi ∧ -1 ≤ r) ∧ w = w' := by
  obtain ⟨R, hR⟩ : ∃ R, R = rng xs lo hi := ⟨_, rfl⟩
  have HR := Lib.hid hR
  rw [← hR]
  clear hR
  go_enter Try.func125, Try.ntmps125
  go_wp2
  go_loop [8] (fun i => ∃ k : Nat, k ≤ xs.length ∧ i = .int .i64 k ∧ (xs.take k).all (fun n => inB n lo hi) = true) (fun i => xs.length - (intOf i).toNat)
  case atStart => exact ⟨0, Nat.zero_le _, rfl, by simp⟩
  case round =>
    obtain ⟨k, hk, rfl, ha'⟩ := hrel
    have ha := Lib.hid ha'
    clear ha'
    by_cases hlt : k < xs.length
    · obtain ⟨b, off, rfl, _, ck⟩ := int_row hx k hlt
      have hbad : inB xs[k] lo hi = false → R = false := fun hv => by
        rw [HR.out]
        unfold rng
        rw [Bool.eq_false_iff]
        intro h
        rw [List.all_eq_true.1 h _ (List.getElem_mem hlt)] at hv
        cases hv
      have HB := Lib.hid hbad
      clear hbad
      have HT := Lib.hid (fun h => take_all (valid := fun n => inB n lo hi) hlt ha.out h)
      have hcall := f_ranged1 lo hi xs[k] w bl bh hl hh
      obtain ⟨x, hx0⟩ : ∃ x, x = xs[k] := ⟨_, rfl⟩
      rw [← hx0] at HB HT ck hcall
      clear hx0
      cases hq : inB x lo hi with
      | false =>
        rw [hq] at hcall
        have HF := Lib.hid (HB.out hq)
        clear hq HB
        go_wp2_with (go_at_call 95; refine hcall.mono ?_; rintro e w1 ⟨rfl, rfl⟩)
        go_ret
        refine ⟨⟨k, rfl, ?_, by omega⟩, rfl⟩
        rw [HF.out, decide_eq_false_iff_not]; omega
      | true =>
        rw [hq] at hcall
        have HF := Lib.hid (HT.out hq)
        clear hq HT
        go_wp2_with (go_at_call 95; refine hcall.mono ?_; rintro e w1 ⟨rfl, rfl⟩)
        go_round
        case rel => exact ⟨k + 1, by omega, by go_num, HF.out⟩
        case measure => simp [intOf]; omega
    · obtain rfl : k = xs.length := by omega
      have HF := Lib.hid (show R = true by rw [HR.out]; unfold rng; rw [← ha.out, List.take_length])
      go_wp2
      go_ret
      refine ⟨⟨-1, rfl, ?_, by omega⟩, rfl⟩
      rw [HF.out]; rfl

theorem s_ContainsR (lo hi : Int) (bl bh : Nat) (a : Option Addr) (cap : Nat) (xs : List Int) (w : World) (hl : w.cell? ⟨bl, 0, none⟩ = some (.int .i64 lo)) (hh : w.cell? ⟨bh, 0, none⟩ = some (.int .i64 hi)) {B : Nat} (hx : Row icell 1 B w a xs) (h1 : xs.length ≤ 1000000) :
    Calls Try.prog 94 #[.slice a xs.length cap, .func (.func 95) #[] #[.pointer (some ⟨bl, 0, none⟩), .pointer (some ⟨bh, 0, none⟩)]] w fun e w' => e = .returned (.bool (!rng xs lo hi)) ∧ w = w' := by
  obtain ⟨R, hR⟩ : ∃ R, R = rng xs lo hi := ⟨_, rfl⟩
  have hcall := s_IndexR lo hi bl bh a cap xs w hl hh hx h1
  rw [← hR] at hcall ⊢
  clear hR
  go_enter Try.func94, Try.ntmps94
  go_wp2_with (go_at_call 125; refine hcall.mono ?_; rintro e w1 ⟨⟨r, rfl, hr1, hr2⟩, rfl⟩)
  go_ret
  refine ⟨ret_bool ?_, rfl⟩
  rw [← hr1, ← decide_not]
  exact decide_eq_decide.2 (by omega)

theorem f_ranged (lo hi : Int) (a : Option Addr) (n cap : Nat) (xs : List Int) (w : World) (hn : xs.length = n) (hx : Row icell 1 w.heap.size w a xs) (h1 : n ≤ 1000000) :
    Calls Try.prog 51 #[.int .i64 lo, .int .i64 hi, .slice a n cap] w fun e w' => e = .returned (.bool (rng xs lo hi)) ∧ Kept w w' := by
  subst hn
  obtain ⟨R, hR⟩ : ∃ R, R = rng xs lo hi := ⟨_, rfl⟩
  have hcall := fun (W : World) (hl : W.cell? ⟨w.heap.size, 0, none⟩ = some (.int .i64 lo)) (hh : W.cell? ⟨w.heap.size + 1, 0, none⟩ = some (.int .i64 hi)) (hx : Row icell 1 W.heap.size W a xs) => s_ContainsR lo hi w.heap.size (w.heap.size + 1) a cap xs W hl hh hx h1
  rw [← hR] at hcall ⊢
  clear hR
  go_enter Try.func51, Try.ntmps51
  go_wp2_with (go_at_call 94; refine (hcall _ (by simp [*]) (by simp [*]) (hx.later (by (repeat (first | with_reducible exact Below.refl _ _ | with_reducible assumption | with_reducible refine Kept.drop ?_ (by with_reducible assumption) | with_reducible refine Kept.alloc ?_ _ | ((with_reducible refine Below.setCell ?_ ?_ _); rotate_left 1; (focus (first | exact Nat.le_refl _ | (simp; done) | (simp; omega) | exact Below.size (by with_reducible assumption) | (refine Kept.size ?_; (repeat (first | with_reducible exact Below.refl _ _ | with_reducible assumption | with_reducible refine Kept.drop ?_ (by with_reducible assumption) | with_reducible refine Kept.alloc ?_ _ | with_reducible refine Below.drew ?_)))))) | with_reducible refine Below.drew ?_))) (Nat.le_refl _))).mono ?_; rintro e w1 ⟨rfl, rfl⟩)
  go_ret
  exact ⟨ret_bool (by simp), by (repeat (first | with_reducible exact Below.refl _ _ | with_reducible assumption | with_reducible refine Kept.drop ?_ (by with_reducible assumption) | with_reducible refine Kept.alloc ?_ _ | ((with_reducible refine Below.setCell ?_ ?_ _); rotate_left 1; (focus (first | exact Nat.le_refl _ | (simp; done) | (simp; omega) | exact Below.size (by with_reducible assumption) | (refine Kept.size ?_; (repeat (first | with_reducible exact Below.refl _ _ | with_reducible assumption | with_reducible refine Kept.drop ?_ (by with_reducible assumption) | with_reducible refine Kept.alloc ?_ _ | with_reducible refine Below.drew ?_)))))) | with_reducible refine Below.drew ?_))⟩

theorem f_ranged_1 (lo hi p : Int) (t : TypeId) (W : World) (m : Nat) (hm : m = W.heap.size) :
    Calls Try.prog 51 #[.int .i64 lo, .int .i64 hi, .slice (some ⟨m, 0, none⟩) 1 1] (W.alloc (.cells #[.int .i64 p] t))
      fun e w' => e = .returned (.bool (rng [p] lo hi)) ∧ Kept (W.alloc (.cells #[.int .i64 p] t)) w' := by
  subst hm
  exact f_ranged lo hi _ 1 1 [p] _ rfl ((Row.fresh (enc := icell) (fun _ => rfl) rfl).up (by simp)) (by decide)

theorem f_ranged_2 (lo hi p q : Int) (t : TypeId) (W : World) (m : Nat) (hm : m = W.heap.size) :
    Calls Try.prog 51 #[.int .i64 lo, .int .i64 hi, .slice (some ⟨m, 0, none⟩) 2 2] (W.alloc (.cells #[.int .i64 p, .int .i64 q] t))
      fun e w' => e = .returned (.bool (rng [p, q] lo hi)) ∧ Kept (W.alloc (.cells #[.int .i64 p, .int .i64 q] t)) w' := by
  subst hm
  exact f_ranged lo hi _ 2 2 [p, q] _ rfl ((Row.fresh (enc := icell) (fun _ => rfl) rfl).up (by simp)) (by decide)

theorem f_span (x y lo hi : Int) (w : World) :
    Calls Try.prog 55 #[.agg #[.int .i64 x, .int .i64 y], .int .i64 lo, .int .i64 hi] w fun e w' => e = .returned (.bool (spanIn x y lo hi)) ∧ Kept w w' := by
  go_enter Try.func55, Try.ntmps55
  go_wp2_with (go_at_call 51; (with_reducible refine (f_ranged_2 _ _ _ _  _ _ _ (by simp)).mono ?_); rintro e w1 ⟨rfl, hb1⟩; obtain ⟨hc1, hf1, hl1⟩ := bcell3 hb1)
  all_goals (go_ret; refine ⟨ret_bool ?_, by (repeat (first | with_reducible exact Below.refl _ _ | with_reducible assumption | with_reducible refine Kept.drop ?_ (by with_reducible assumption) | with_reducible refine Kept.alloc ?_ _ | ((with_reducible refine Below.setCell ?_ ?_ _); rotate_left 1; (focus (first | exact Nat.le_refl _ | (simp; done) | (simp; omega) | exact Below.size (by with_reducible assumption) | (refine Kept.size ?_; (repeat (first | with_reducible exact Below.refl _ _ | with_reducible assumption | with_reducible refine Kept.drop ?_ (by with_reducible assumption) | with_reducible refine Kept.alloc ?_ _ | with_reducible refine Below.drew ?_)))))) | with_reducible refine Below.drew ?_))⟩; simp [spanIn, *])
  all_goals omega

theorem f_CheckAxis (a : Axis) (w : World) :
    Calls Try.prog 13 #[.agg #[.int .i64 a.x, .int .i64 a.y]] w fun e w' => e = .returned (.int .i64 (checkAxis a)) ∧ Kept w w' := by
  have he : checkAxis a = if rng [a.x, a.y] (-1000) 1000 then (if a.x = 0 ∧ a.y = 0 then 70 else 0) else 70 := by
    unfold checkAxis; rw [axisB_rng]
    cases rng [a.x, a.y] (-1000) 1000
    · simp
    · by_cases h : a.x = 0 <;> by_cases h' : a.y = 0 <;> simp [h, h']
  rw [he]
  clear he
  obtain ⟨ax, ay⟩ := a
  simp only
  cases hr : rng [ax, ay] (-1000) 1000 <;> by_cases h : ax = 0 <;> by_cases h' : ay = 0 <;> (try subst h) <;> (try subst h')
  all_goals
    go_enter Try.func13, Try.ntmps13
    go_wp2_with (go_at_call 51; (with_reducible refine (f_ranged_2 _ _ _ _  _ _ _ (by simp)).mono ?_); rintro e w1 ⟨rfl, hb1⟩; obtain ⟨hc1, hf1, hl1⟩ := bcell3 hb1)
    all_goals (go_ret; exact ⟨ret_int (by simp [*]), by (repeat (first | with_reducible exact Below.refl _ _ | with_reducible assumption | with_reducible refine Kept.drop ?_ (by with_reducible assumption) | with_reducible refine Kept.alloc ?_ _ | ((with_reducible refine Below.setCell ?_ ?_ _); rotate_left 1; (focus (first | exact Nat.le_refl _ | (simp; done) | (simp; omega) | exact Below.size (by with_reducible assumption) | (refine Kept.size ?_; (repeat (first | with_reducible exact Below.refl _ _ | with_reducible assumption | with_reducible refine Kept.drop ?_ (by with_reducible assumption) | with_reducible refine Kept.alloc ?_ _ | with_reducible refine Below.drew ?_)))))) | with_reducible refine Below.drew ?_))⟩)

theorem f_CheckWind (a : Wind) (w : World) :
    Calls Try.prog 15 #[.agg #[.int .i64 a.xlo, .int .i64 a.xhi, .int .i64 a.ylo, .int .i64 a.yhi]] w fun e w' => e = .returned (.int .i64 (checkWind a)) ∧ Kept w w' := by
  go_enter Try.func15, Try.ntmps15
  go_wp2_with (go_at_call 55; (with_reducible refine (f_span _ _ _ _ _).mono ?_); rintro e w1 ⟨rfl, hb1⟩; obtain ⟨hc1, hf1, hl1⟩ := bcell3 hb1)
  all_goals (go_ret; refine ⟨ret_int ?_, by (repeat (first | with_reducible exact Below.refl _ _ | with_reducible assumption | with_reducible refine Kept.drop ?_ (by with_reducible assumption) | with_reducible refine Kept.alloc ?_ _ | ((with_reducible refine Below.setCell ?_ ?_ _); rotate_left 1; (focus (first | exact Nat.le_refl _ | (simp; done) | (simp; omega) | exact Below.size (by with_reducible assumption) | (refine Kept.size ?_; (repeat (first | with_reducible exact Below.refl _ _ | with_reducible assumption | with_reducible refine Kept.drop ?_ (by with_reducible assumption) | with_reducible refine Kept.alloc ?_ _ | with_reducible refine Below.drew ?_)))))) | with_reducible refine Below.drew ?_))⟩; simp_all [checkWind, windB_spans])

theorem r_within (n lo hi : Int) (w : World) :
    Calls Try.prog 53 #[.int .i64 n, .int .i64 lo, .int .i64 hi] w fun e w' => e = .returned (.bool (inB n lo hi)) ∧ w = w' := by
  go_enter Try.func53, Try.ntmps53
  go_wp2
  all_goals (go_ret; exact ⟨ret_bool (by first | (simp_all [inB]; done) | (simp_all [inB]; omega)), rfl⟩)

theorem r_spanned (x y lo hi : Int) (w : World) :
    Calls Try.prog 91 #[.agg #[.int .i64 x, .int .i64 y], .int .i64 lo, .int .i64 hi] w fun e w' => e = .returned (.bool (spanIn x y lo hi)) ∧ Kept w w' := by
  have he : spanIn x y lo hi = (decide (lo ≤ x) && decide (x ≤ y) && decide (y ≤ hi)) := by
    simp only [spanIn, rng, inB, List.all_cons, List.all_nil, Bool.and_true]
    rw [Bool.eq_iff_iff]
    simp
    omega
  rw [he]
  by_cases h1 : lo ≤ x <;> by_cases h2 : x ≤ y <;> by_cases h3 : y ≤ hi
  all_goals
    go_enter Try.func91, Try.ntmps91
    go_wp2
    all_goals (go_ret; exact ⟨ret_bool (by simp [*]), by (repeat (first | with_reducible exact Below.refl _ _ | with_reducible assumption | with_reducible refine Kept.drop ?_ (by with_reducible assumption) | with_reducible refine Kept.alloc ?_ _ | ((with_reducible refine Below.setCell ?_ ?_ _); rotate_left 1; (focus (first | exact Nat.le_refl _ | (simp; done) | (simp; omega) | exact Below.size (by with_reducible assumption) | (refine Kept.size ?_; (repeat (first | with_reducible exact Below.refl _ _ | with_reducible assumption | with_reducible refine Kept.drop ?_ (by with_reducible assumption) | with_reducible refine Kept.alloc ?_ _ | with_reducible refine Below.drew ?_)))))) | with_reducible refine Below.drew ?_))⟩)

theorem r_Axis (a : Axis) (w : World) :
    Calls Try.prog 47 #[.agg #[.int .i64 a.x, .int .i64 a.y]] w fun e w' => e = .returned (.bool (axisB a)) ∧ Kept w w' := by
  have he : axisB a = (inB a.x (-1000) 1000 && inB a.y (-1000) 1000 && !(decide (a.x = 0) && decide (a.y = 0))) := by
    rw [axisB_rng]; simp [rng]
  rw [he]
  clear he
  obtain ⟨ax, ay⟩ := a
  simp only
  cases h1 : inB ax (-1000) 1000 <;> cases h2 : inB ay (-1000) 1000 <;> by_cases h : ax = 0 <;> by_cases h' : ay = 0 <;> (try subst h) <;> (try subst h')
  all_goals
    go_enter Try.func47, Try.ntmps47
    go_wp2_with (go_at_call 53; (with_reducible refine (r_within _ _ _ _).mono ?_); rintro e w1 ⟨rfl, rfl⟩)
    all_goals (go_ret; exact ⟨ret_bool (by simp [*]), by (repeat (first | with_reducible exact Below.refl _ _ | with_reducible assumption | with_reducible refine Kept.drop ?_ (by with_reducible assumption) | with_reducible refine Kept.alloc ?_ _ | ((with_reducible refine Below.setCell ?_ ?_ _); rotate_left 1; (focus (first | exact Nat.le_refl _ | (simp; done) | (simp; omega) | exact Below.size (by with_reducible assumption) | (refine Kept.size ?_; (repeat (first | with_reducible exact Below.refl _ _ | with_reducible assumption | with_reducible refine Kept.drop ?_ (by with_reducible assumption) | with_reducible refine Kept.alloc ?_ _ | with_reducible refine Below.drew ?_)))))) | with_reducible refine Below.drew ?_))⟩)

theorem r_CheckAxis (a : Axis) (w : World) :
    Calls Try.prog 14 #[.agg #[.int .i64 a.x, .int .i64 a.y]] w fun e w' => e = .returned (.int .i64 (checkAxis a)) ∧ Kept w w' := by
  go_enter Try.func14, Try.ntmps14
  go_wp2_with (go_at_call 47; (with_reducible refine (r_Axis _ _).mono ?_); rintro e w1 ⟨rfl, hb1⟩; obtain ⟨hc1, hf1, hl1⟩ := bcell3 hb1)
  all_goals (go_ret; refine ⟨ret_int ?_, by (repeat (first | with_reducible exact Below.refl _ _ | with_reducible assumption | with_reducible refine Kept.drop ?_ (by with_reducible assumption) | with_reducible refine Kept.alloc ?_ _ | ((with_reducible refine Below.setCell ?_ ?_ _); rotate_left 1; (focus (first | exact Nat.le_refl _ | (simp; done) | (simp; omega) | exact Below.size (by with_reducible assumption) | (refine Kept.size ?_; (repeat (first | with_reducible exact Below.refl _ _ | with_reducible assumption | with_reducible refine Kept.drop ?_ (by with_reducible assumption) | with_reducible refine Kept.alloc ?_ _ | with_reducible refine Below.drew ?_)))))) | with_reducible refine Below.drew ?_))⟩; simp_all [checkAxis])

theorem r_Wind (a : Wind) (w : World) :
    Calls Try.prog 46 #[.agg #[.int .i64 a.xlo, .int .i64 a.xhi, .int .i64 a.ylo, .int .i64 a.yhi]] w fun e w' => e = .returned (.bool (windB a)) ∧ Kept w w' := by
  rw [windB_spans]
  go_enter Try.func46, Try.ntmps46
  go_wp2_with (go_at_call 91; (with_reducible refine (r_spanned _ _ _ _ _).mono ?_); rintro e w1 ⟨rfl, hb1⟩; obtain ⟨hc1, hf1, hl1⟩ := bcell3 hb1)
  all_goals (go_ret; refine ⟨ret_bool ?_, by (repeat (first | with_reducible exact Below.refl _ _ | with_reducible assumption | with_reducible refine Kept.drop ?_ (by with_reducible assumption) | with_reducible refine Kept.alloc ?_ _ | ((with_reducible refine Below.setCell ?_ ?_ _); rotate_left 1; (focus (first | exact Nat.le_refl _ | (simp; done) | (simp; omega) | exact Below.size (by with_reducible assumption) | (refine Kept.size ?_; (repeat (first | with_reducible exact Below.refl _ _ | with_reducible assumption | with_reducible refine Kept.drop ?_ (by with_reducible assumption) | with_reducible refine Kept.alloc ?_ _ | with_reducible refine Below.drew ?_)))))) | with_reducible refine Below.drew ?_))⟩; simp_all)

theorem r_CheckWind (a : Wind) (w : World) :
    Calls Try.prog 16 #[.agg #[.int .i64 a.xlo, .int .i64 a.xhi, .int .i64 a.ylo, .int .i64 a.yhi]] w fun e w' => e = .returned (.int .i64 (checkWind a)) ∧ Kept w w' := by
  go_enter Try.func16, Try.ntmps16
  go_wp2_with (go_at_call 46; (with_reducible refine (r_Wind _ _).mono ?_); rintro e w1 ⟨rfl, hb1⟩; obtain ⟨hc1, hf1, hl1⟩ := bcell3 hb1)
  all_goals (go_ret; refine ⟨ret_int ?_, by (repeat (first | with_reducible exact Below.refl _ _ | with_reducible assumption | with_reducible refine Kept.drop ?_ (by with_reducible assumption) | with_reducible refine Kept.alloc ?_ _ | ((with_reducible refine Below.setCell ?_ ?_ _); rotate_left 1; (focus (first | exact Nat.le_refl _ | (simp; done) | (simp; omega) | exact Below.size (by with_reducible assumption) | (refine Kept.size ?_; (repeat (first | with_reducible exact Below.refl _ _ | with_reducible assumption | with_reducible refine Kept.drop ?_ (by with_reducible assumption) | with_reducible refine Kept.alloc ?_ _ | with_reducible refine Below.drew ?_)))))) | with_reducible refine Below.drew ?_))⟩; simp_all [checkWind])

theorem f_root (x n : Int) (w : World) (hn : 1 ≤ n) (hn2 : n ≤ 2000000) (hx0 : 0 ≤ x) (hx : x ≤ 8000000 * n) :
    Calls Try.prog 45 #[.int .i64 x, .int .i64 n] w fun e w' => e = .returned (.int .i64 (rt x n)) ∧ w = w' := by
  have HT := Lib.hid (root_top hn hx)
  have HR := Lib.hid (fun lo h0 h1 h2 => rt_half (lo := lo) hn hx h0 h1 h2)
  go_enter Try.func45, Try.ntmps45
  go_wp2
  go_loop [5, 6] (fun l h => ∃ lo hi : Int, 0 ≤ lo ∧ lo < hi ∧ hi ≤ 4001 ∧ l = .int .i64 lo ∧ h = .int .i64 hi ∧ lo * lo * n ≤ x ∧ x < hi * hi * n) (fun l h => (intOf h - intOf l).toNat)
  case atStart => exact ⟨0, 4001, by omega, by omega, by omega, rfl, rfl, by simpa using hx0, by have := HT.out; omega⟩
  case round =>
    obtain ⟨lo, hi, h0, h1, h2, rfl, rfl, h3, h4⟩ := hrel
    have H3 := Lib.hid h3
    have H4 := Lib.hid h4
    clear h3 h4
    by_cases hlt : 1 < hi - lo
    · obtain ⟨m, hm⟩ : ∃ m, m = (lo + hi) / 2 := ⟨_, rfl⟩
      have hm1 : lo < m ∧ m < hi := by omega
      have HD : (lo + hi).tdiv 2 = m := by rw [Int.tdiv_eq_ediv_of_nonneg (by omega), hm]
      have HE : (lo + hi) / 2 = m := hm.symm
      clear hm
      have p1 : 0 ≤ m * m ∧ m * m ≤ 16008001 := by
        have := mul_bd (A := 4001) (B := 4001) (x := m) (y := m) (by omega) (by omega) (by omega) (by omega)
        exact ⟨Int.mul_nonneg (by omega) (by omega), by omega⟩
      have p2 : 0 ≤ m * m * n ∧ m * m * n ≤ 33000000000000 := by
        have := mul_bd (A := 16008001) (B := 2000000) (x := m * m) (y := n) (by omega) (by omega) (by omega) (by omega)
        exact ⟨Int.mul_nonneg (by omega) (by omega), by omega⟩
      by_cases hc : m * m * n ≤ x
      · have HC := Lib.hid hc
        go_wp2
        go_round
        case rel => exact ⟨m, hi, by omega, by omega, h2, rfl, rfl, HC.out, H4.out⟩
        case measure => simp [intOf]; omega
      · have HC := Lib.hid (show x < m * m * n by omega)
        go_wp2
        go_round
        case rel => exact ⟨lo, m, h0, by omega, by omega, rfl, rfl, H3.out, HC.out⟩
        case measure => simp [intOf]; omega
    · obtain rfl : hi = lo + 1 := by omega
      have HF := Lib.hid (HR.out lo h0 H3.out H4.out)
      go_wp2
      go_ret
      exact ⟨ret_int HF.out.symm, rfl⟩

theorem r_root (n : Int) (w : World) (hn0 : 0 ≤ n) (hn : n ≤ 8000000) :
    Calls Try.prog 50 #[.int .i64 n] w fun e w' => e = .returned (.int .i64 (rt n 1)) ∧ w = w' := by
  have HR := Lib.hid (fun lo h0 h1 h2 => rt_one (lo := lo) hn h0 h1 h2)
  go_enter Try.func50, Try.ntmps50
  go_wp2
  go_loop [4] (fun h => ∃ hi : Int, 1 ≤ hi ∧ hi ≤ 8000 ∧ h = .int .i64 hi) (fun h => (8001 - intOf h).toNat)
  case atStart => exact ⟨1, by omega, by omega, rfl⟩
  case round =>
    obtain ⟨hi, h1, h2, rfl⟩ := hrel
    have p1 := mul_bd (A := 8000) (B := 8000) (x := hi) (y := hi) (by omega) (by omega) (by omega) (by omega)
    by_cases hc : hi * hi ≤ n
    · have hb : hi ≤ 2828 := by
        rcases Int.lt_or_le 2828 hi with h | h
        · exfalso
          have : 2829 * 2829 ≤ hi * hi := Int.mul_le_mul (by omega) (by omega) (by omega) (by omega)
          omega
        · exact h
      go_wp2
      go_round
      case rel => exact ⟨hi * 2, by omega, by omega, rfl⟩
      case measure => simp [intOf]; omega
    · have HS := Lib.hid (show n < hi * hi by omega)
      go_wp2
      clear p1 hc
      go_loop [3, 4] (fun l h => ∃ lo hi : Int, 0 ≤ lo ∧ lo < hi ∧ hi ≤ 8000 ∧ l = .int .i64 lo ∧ h = .int .i64 hi ∧ lo * lo ≤ n ∧ n < hi * hi) (fun l h => (intOf h - intOf l).toNat)
      case atStart => exact ⟨0, hi, by omega, by omega, h2, rfl, rfl, by omega, HS.out⟩
      case round =>
        clear h1 h2 HS
        obtain ⟨lo, hi, h0, h1, h2, rfl, rfl, h3, h4⟩ := hrel
        have H3 := Lib.hid h3
        have H4 := Lib.hid h4
        clear h3 h4
        by_cases hlt : 1 < hi - lo
        · obtain ⟨m, hm⟩ : ∃ m, m = (lo + hi) / 2 := ⟨_, rfl⟩
          have hm1 : lo < m ∧ m < hi := by omega
          have HD : (lo + hi).tdiv 2 = m := by rw [Int.tdiv_eq_ediv_of_nonneg (by omega), hm]
          have HE : (lo + hi) / 2 = m := hm.symm
          clear hm
          have p1 := mul_bd (A := 8000) (B := 8000) (x := m) (y := m) (by omega) (by omega) (by omega) (by omega)
          by_cases hc : m * m ≤ n
          · have HC := Lib.hid hc
            go_wp2
            go_round
            case rel => exact ⟨m, hi, by omega, by omega, h2, rfl, rfl, HC.out, H4.out⟩
            case measure => simp [intOf]; omega
          · have HC := Lib.hid (show n < m * m by omega)
            go_wp2
            go_round
            case rel => exact ⟨lo, m, h0, by omega, by omega, rfl, rfl, H3.out, HC.out⟩
            case measure => simp [intOf]; omega
        · obtain rfl : hi = lo + 1 := by omega
          have HF := Lib.hid (HR.out lo h0 H3.out H4.out)
          go_wp2
          go_ret
          exact ⟨ret_int HF.out.symm, rfl⟩

end Go.Proofs.Ytacbkbilbmkjnaa
