/-
  Ranges, ratios and validity of cells and air, in the program and in the reference.
-/
import Derived.Test.YtemafanncejeiaaProg
import Derived.Test.YtemafanncejeiaaGasMem
import Derived.Test.YtemafanncejeiaaLater
import Derived.Deep.QuietTactic
import Derived.BigQuiet
namespace Go.Proofs.Ytemafanncejeiaa
open Go.RowKit Bal Bal.Trim Bal.Gas
set_option linter.unusedVariables false
set_option linter.unusedSimpArgs false
set_option maxHeartbeats 400000

theorem f_ranged (lo hi : Int) (a : Option Addr) (n cap : Nat) (xs : List Int) (w : World) (hn : xs.length = n) {B : Nat} (hx : Row icell 1 B w a xs) (h1 : n ≤ 1000000) :
    Calls Try.prog 91 #[.int .i64 lo, .int .i64 hi, .slice a n cap] w fun e w' => e = .returned (.bool (rng xs lo hi)) ∧ w = w' := by
  subst hn
  go_enter Try.func91, Try.ntmps91
  go_wp2
  go_loop [11] (fun i => ∃ k : Nat, k ≤ xs.length ∧ i = .int .i64 k ∧ (xs.take k).all (fun n => inB n lo hi) = true) (fun i => xs.length - (intOf i).toNat)
  case atStart => exact ⟨0, Nat.zero_le _, rfl, by simp⟩
  case round =>
    obtain ⟨k, hk, rfl, ha'⟩ := hrel
    have ha := Lib.hid ha'
    clear ha'
    by_cases hlt : k < xs.length
    · obtain ⟨b, off, rfl, _, ck⟩ := int_row hx k hlt
      have hbad : inB xs[k] lo hi = false → rng xs lo hi = false := fun hv => by
        unfold rng
        rw [Bool.eq_false_iff]
        intro h
        rw [List.all_eq_true.1 h _ (List.getElem_mem hlt)] at hv
        cases hv
      have HB := Lib.hid hbad
      clear hbad
      by_cases c1 : xs[k] < lo
      · go_wp2
        go_ret
        exact ⟨ret_bool (HB.out (by simp [inB]; omega)).symm, rfl⟩
      · by_cases c2 : hi < xs[k]
        · go_wp2
          go_ret
          exact ⟨ret_bool (HB.out (by simp [inB]; omega)).symm, rfl⟩
        · go_wp2
          go_round
          case rel => exact ⟨k + 1, by omega, by go_num, take_all hlt ha.out (by simp [inB]; omega)⟩
          case measure => simp [intOf]; omega
    · go_wp2
      go_ret
      have he : rng xs lo hi = true := by unfold rng; rw [← ha.out, List.take_of_length_le (by omega)]
      exact ⟨ret_bool he.symm, rfl⟩

theorem f_ranged1 (lo hi p : Int) (t : TypeId) (W : World) (m : Nat) (hm : m = W.heap.size) :
    Calls Try.prog 91 #[.int .i64 lo, .int .i64 hi, .slice (some ⟨m, 0, none⟩) 1 1] (W.alloc (.cells #[.int .i64 p] t))
      fun e w' => e = .returned (.bool (rng [p] lo hi)) ∧ W.alloc (.cells #[.int .i64 p] t) = w' := by
  subst hm
  exact f_ranged lo hi _ 1 1 [p] _ rfl (Row.fresh (enc := icell) (fun _ => rfl) rfl) (by decide)

theorem f_ranged2 (lo hi p q : Int) (t : TypeId) (W : World) (m : Nat) (hm : m = W.heap.size) :
    Calls Try.prog 91 #[.int .i64 lo, .int .i64 hi, .slice (some ⟨m, 0, none⟩) 2 2] (W.alloc (.cells #[.int .i64 p, .int .i64 q] t))
      fun e w' => e = .returned (.bool (rng [p, q] lo hi)) ∧ W.alloc (.cells #[.int .i64 p, .int .i64 q] t) = w' := by
  subst hm
  exact f_ranged lo hi _ 2 2 [p, q] _ rfl (Row.fresh (enc := icell) (fun _ => rfl) rfl) (by decide)

theorem f_ranged3 (lo hi p q r : Int) (t : TypeId) (W : World) (m : Nat) (hm : m = W.heap.size) :
    Calls Try.prog 91 #[.int .i64 lo, .int .i64 hi, .slice (some ⟨m, 0, none⟩) 3 3] (W.alloc (.cells #[.int .i64 p, .int .i64 q, .int .i64 r] t))
      fun e w' => e = .returned (.bool (rng [p, q, r] lo hi)) ∧ W.alloc (.cells #[.int .i64 p, .int .i64 q, .int .i64 r] t) = w' := by
  subst hm
  exact f_ranged lo hi _ 3 3 [p, q, r] _ rfl (Row.fresh (enc := icell) (fun _ => rfl) rfl) (by decide)

theorem f_span (x y lo hi : Int) (w : World) :
    Calls Try.prog 88 #[.agg #[.int .i64 x, .int .i64 y], .int .i64 lo, .int .i64 hi] w fun e w' => e = .returned (.bool (spanIn x y lo hi)) ∧ Kept w w' := by
  go_enter Try.func88, Try.ntmps88
  go_wp2_with (go_at_call 91; (with_reducible refine (f_ranged2 _ _ _ _  _ _ _ (by simp)).mono ?_); rintro e w1 ⟨rfl, rfl⟩)
  all_goals (go_ret; refine ⟨?_, by (exact kpt)⟩; simp [spanIn, *])
  all_goals omega

theorem f_temps (x y : Int) (w : World) :
    Calls Try.prog 89 #[.agg #[.int .i64 x, .int .i64 y]] w fun e w' => e = .returned (.bool (spanIn x y 1500 3500)) ∧ Kept w w' := by
  go_enter Try.func89, Try.ntmps89
  go_wp2_with (go_at_call 88; (with_reducible refine (f_span _ _ _ _ _).mono ?_); rintro e w1 ⟨rfl, hb1⟩; obtain ⟨hc1, hf1, hl1⟩ := bcell3 hb1)
  go_ret
  exact ⟨rfl, by (exact kpt)⟩

theorem f_CheckAir (a : Air) (w : World) :
    Calls Try.prog 26 #[.agg #[.int .i64 a.plo, .int .i64 a.phi, .int .i64 a.tlo, .int .i64 a.thi]] w fun e w' => e = .returned (.int .i64 (checkAir a)) ∧ Kept w w' := by
  go_enter Try.func26, Try.ntmps26
  go_wp2_with (first | (go_at_call 88; (with_reducible refine (f_span _ _ _ _ _).mono ?_); rintro e w1 ⟨rfl, hb1⟩; obtain ⟨hc1, hf1, hl1⟩ := bcell3 hb1) | (go_at_call 89; (with_reducible refine (f_temps _ _ _).mono ?_); rintro e w1 ⟨rfl, hb1⟩; obtain ⟨hc1, hf1, hl1⟩ := bcell3 hb1))
  all_goals (go_ret; refine ⟨ret_int ?_, by (exact kpt)⟩; simp_all [checkAir, airB])

theorem f_CheckCell (c : Cell) (w : World) :
    Calls Try.prog 28 #[.agg #[.int .i64 c.room, .int .i64 c.helium, .int .i64 c.air, .int .i64 c.wlo, .int .i64 c.whi, .int .i64 c.leak, .int .i64 c.owed]] w fun e w' => e = .returned (.int .i64 (checkCell c)) ∧ Kept w w' := by
  go_enter Try.func28, Try.ntmps28
  go_wp2_with (first | (go_at_call 91; (with_reducible refine (f_ranged1 _ _ _  _ _ _ (by simp)).mono ?_); rintro e w1 ⟨rfl, rfl⟩) | (go_at_call 91; (with_reducible refine (f_ranged2 _ _ _ _  _ _ _ (by simp)).mono ?_); rintro e w1 ⟨rfl, rfl⟩) | (go_at_call 88; (with_reducible refine (f_span _ _ _ _ _).mono ?_); rintro e w1 ⟨rfl, hb1⟩; obtain ⟨hc1, hf1, hl1⟩ := bcell3 hb1))
  all_goals (go_ret; refine ⟨ret_int ?_, by (exact kpt)⟩; simp_all [checkCell, cellB, cellFits])

end Go.Proofs.Ytemafanncejeiaa
