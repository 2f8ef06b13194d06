/-
  The program's acts by their error.
-/
import Derived.Test.YtemafanncejeiaaGasDX
namespace Go.Proofs.Ytemafanncejeiaa
open Go.RowKit Bal Bal.Trim Bal.Gas
set_option linter.unusedVariables false
set_option linter.unusedSimpArgs false
set_option maxHeartbeats 4000000

theorem act1_no {B s cp : Nat} {ad : Option Addr} {p : Plant} {w : World} (d : Deed) (h : Shop 25 174 B w s ad cp p) (hp : plantB p = true) (hk : d.kind = 1) (he : errA p d ≠ 0) : Calls Try.prog 106 #[.pointer (some ⟨s, 0, none⟩), .agg #[.int .u8 d.kind, .int .i64 d.cell, .int .i64 d.to, .int .i64 d.n]] w fun e w' => e = .panicked [{ v := refusal (errA p d), recovered := false }] ∧ Kept w w' := by
  cases h1 : rng [d.n] 1 10000000
  · rw [show errA p d = 2 by simp [errA, hk, *]]
    exact f_buy_no d h hp h1
  · exact absurd (by simp [errA, hk, *]) he
theorem act1_ok {B s cp : Nat} {ad : Option Addr} {p : Plant} {w : World} (d : Deed) (h : Shop 25 174 B w s ad cp p) (hp : plantB p = true) (hk : d.kind = 1) (he : errA p d = 0) : Calls Try.prog 106 #[.pointer (some ⟨s, 0, none⟩), .agg #[.int .u8 d.kind, .int .i64 d.cell, .int .i64 d.to, .int .i64 d.n]] w fun e w' => e = .returned (.tuple #[]) ∧ Shop 25 174 B w' s ad cp (resA p d) ∧ Below B w w' := by
  cases h1 : rng [d.n] 1 10000000
  · simp [errA, hk, h1] at he
  · rw [show resA p d = buyP p d by simp [resA, hk]]
    exact f_buy_ok d h hp h1

theorem act2_no {B s cp : Nat} {ad : Option Addr} {p : Plant} {w : World} (d : Deed) (h : Shop 25 174 B w s ad cp p) (hp : plantB p = true) (hk : d.kind = 2) (he : errA p d ≠ 0) : Calls Try.prog 107 #[.pointer (some ⟨s, 0, none⟩), .agg #[.int .u8 d.kind, .int .i64 d.cell, .int .i64 d.to, .int .i64 d.n]] w fun e w' => e = .panicked [{ v := refusal (errA p d), recovered := false }] ∧ Kept w w' := by
  cases h1 : argB p d
  · rw [show errA p d = 2 by simp [errA, hk, *]]
    exact f_fill_no1 d h hp h1
  · by_cases h2 : p.bottles < d.n
    · rw [show errA p d = 6 by simp [errA, hk, *]]
      exact f_fill_no2 d h hp h1 h2
    · exact absurd (by simp [errA, hk, *]) he
theorem act2_ok {B s cp : Nat} {ad : Option Addr} {p : Plant} {w : World} (d : Deed) (h : Shop 25 174 B w s ad cp p) (hp : plantB p = true) (hk : d.kind = 2) (he : errA p d = 0) : Calls Try.prog 107 #[.pointer (some ⟨s, 0, none⟩), .agg #[.int .u8 d.kind, .int .i64 d.cell, .int .i64 d.to, .int .i64 d.n]] w fun e w' => e = .returned (.tuple #[]) ∧ Shop 25 174 B w' s ad cp (resA p d) ∧ Below B w w' := by
  cases h1 : argB p d
  · simp [errA, hk, h1] at he
  · by_cases h2 : p.bottles < d.n
    · simp [errA, hk, h1, h2] at he
    · rw [show resA p d = fillP p d by simp [resA, hk]]
      exact f_fill_ok d h hp h1 (by omega)

theorem act3_no {B s cp : Nat} {ad : Option Addr} {p : Plant} {w : World} (d : Deed) (h : Shop 25 174 B w s ad cp p) (hp : plantB p = true) (hk : d.kind = 3) (he : errA p d ≠ 0) : Calls Try.prog 108 #[.pointer (some ⟨s, 0, none⟩), .agg #[.int .u8 d.kind, .int .i64 d.cell, .int .i64 d.to, .int .i64 d.n]] w fun e w' => e = .panicked [{ v := refusal (errA p d), recovered := false }] ∧ Kept w w' := by
  cases h1 : argB p d
  · rw [show errA p d = 2 by simp [errA, hk, *]]
    exact f_valve_no1 d h hp h1
  · by_cases h2 : amount (at_ p d) < d.n
    · rw [show errA p d = 6 by simp [errA, hk, *]]
      exact f_valve_no2 d h hp h1 h2
    · exact absurd (by simp [errA, hk, *]) he
theorem act3_ok {B s cp : Nat} {ad : Option Addr} {p : Plant} {w : World} (d : Deed) (h : Shop 25 174 B w s ad cp p) (hp : plantB p = true) (hk : d.kind = 3) (he : errA p d = 0) : Calls Try.prog 108 #[.pointer (some ⟨s, 0, none⟩), .agg #[.int .u8 d.kind, .int .i64 d.cell, .int .i64 d.to, .int .i64 d.n]] w fun e w' => e = .returned (.tuple #[]) ∧ Shop 25 174 B w' s ad cp (resA p d) ∧ Below B w w' := by
  cases h1 : argB p d
  · simp [errA, hk, h1] at he
  · by_cases h2 : amount (at_ p d) < d.n
    · simp [errA, hk, h1, h2] at he
    · rw [show resA p d = valveP p d by simp [resA, hk]]
      exact f_valve_ok d h hp h1 h2

theorem act4_no {B s cp : Nat} {ad : Option Addr} {p : Plant} {w : World} (d : Deed) (h : Shop 25 174 B w s ad cp p) (hp : plantB p = true) (hk : d.kind = 4) (he : errA p d ≠ 0) : Calls Try.prog 109 #[.pointer (some ⟨s, 0, none⟩), .agg #[.int .u8 d.kind, .int .i64 d.cell, .int .i64 d.to, .int .i64 d.n]] w fun e w' => e = .panicked [{ v := refusal (errA p d), recovered := false }] ∧ Kept w w' := by
  cases h1 : argB p d
  · rw [show errA p d = 2 by simp [errA, hk, *]]
    exact f_move_no1 d h hp h1
  · cases h2 : rng [d.to] 0 (p.cells.length - 1)
    · have h5 : toB p d = false := by simp [toB, h2]
      rw [show errA p d = 2 by simp [errA, hk, *]]
      exact f_move_no2 d h hp h1 h2
    · by_cases h3 : d.to = d.cell
      · have h5 : toB p d = false := by simp [toB, h3]
        rw [show errA p d = 2 by simp [errA, hk, *]]
        exact f_move_no3 d h hp h1 h2 h3
      · have h5 : toB p d = true := by simp [toB, h2, h3]
        by_cases h4 : amount (at_ p d) < d.n
        · rw [show errA p d = 6 by simp [errA, hk, *]]
          exact f_move_no4 d h hp h1 h2 h3 h4
        · exact absurd (by simp [errA, hk, *]) he
theorem act4_ok {B s cp : Nat} {ad : Option Addr} {p : Plant} {w : World} (d : Deed) (h : Shop 25 174 B w s ad cp p) (hp : plantB p = true) (hk : d.kind = 4) (he : errA p d = 0) : Calls Try.prog 109 #[.pointer (some ⟨s, 0, none⟩), .agg #[.int .u8 d.kind, .int .i64 d.cell, .int .i64 d.to, .int .i64 d.n]] w fun e w' => e = .returned (.tuple #[]) ∧ Shop 25 174 B w' s ad cp (resA p d) ∧ Below B w w' := by
  cases h1 : argB p d
  · simp [errA, hk, h1] at he
  · cases h2 : rng [d.to] 0 (p.cells.length - 1)
    · simp [errA, hk, h1, toB, h2] at he
    · by_cases h3 : d.to = d.cell
      · simp [errA, hk, h1, toB, h3] at he
      · by_cases h4 : amount (at_ p d) < d.n
        · simp [errA, hk, h1, toB, h2, h3, h4] at he
        · rw [show resA p d = moveP p d by simp [resA, hk]]
          exact f_move_ok d h hp h1 h2 h3 h4

theorem act5_no {B s cp : Nat} {ad : Option Addr} {p : Plant} {w : World} (d : Deed) (h : Shop 25 174 B w s ad cp p) (hp : plantB p = true) (hk : d.kind = 5) (he : errA p d ≠ 0) : Calls Try.prog 110 #[.pointer (some ⟨s, 0, none⟩), .agg #[.int .u8 d.kind, .int .i64 d.cell, .int .i64 d.to, .int .i64 d.n]] w fun e w' => e = .panicked [{ v := refusal (errA p d), recovered := false }] ∧ Kept w w' := by
  cases h1 : argB p d
  · rw [show errA p d = 2 by simp [errA, hk, *]]
    exact f_purify_no1 d h hp h1
  · by_cases h2 : amount (at_ p d) < d.n
    · rw [show errA p d = 6 by simp [errA, hk, *]]
      exact f_purify_no2 d h hp h1 h2
    · exact absurd (by simp [errA, hk, *]) he
theorem act5_ok {B s cp : Nat} {ad : Option Addr} {p : Plant} {w : World} (d : Deed) (h : Shop 25 174 B w s ad cp p) (hp : plantB p = true) (hk : d.kind = 5) (he : errA p d = 0) : Calls Try.prog 110 #[.pointer (some ⟨s, 0, none⟩), .agg #[.int .u8 d.kind, .int .i64 d.cell, .int .i64 d.to, .int .i64 d.n]] w fun e w' => e = .returned (.tuple #[]) ∧ Shop 25 174 B w' s ad cp (resA p d) ∧ Below B w w' := by
  cases h1 : argB p d
  · simp [errA, hk, h1] at he
  · by_cases h2 : amount (at_ p d) < d.n
    · simp [errA, hk, h1, h2] at he
    · rw [show resA p d = purifyP p d by simp [resA, hk]]
      exact f_purify_ok d h hp h1 h2

theorem act6_no {B s cp : Nat} {ad : Option Addr} {p : Plant} {w : World} (d : Deed) (h : Shop 25 174 B w s ad cp p) (hp : plantB p = true) (hk : d.kind = 6) (he : errA p d ≠ 0) : Calls Try.prog 111 #[.pointer (some ⟨s, 0, none⟩), .agg #[.int .u8 d.kind, .int .i64 d.cell, .int .i64 d.to, .int .i64 d.n]] w fun e w' => e = .panicked [{ v := refusal (errA p d), recovered := false }] ∧ Kept w w' := by
  cases h1 : argB p d
  · rw [show errA p d = 2 by simp [errA, hk, *]]
    exact f_breathe_no d h hp h1
  · exact absurd (by simp [errA, hk, *]) he
theorem act6_ok {B s cp : Nat} {ad : Option Addr} {p : Plant} {w : World} (d : Deed) (h : Shop 25 174 B w s ad cp p) (hp : plantB p = true) (hk : d.kind = 6) (he : errA p d = 0) : Calls Try.prog 111 #[.pointer (some ⟨s, 0, none⟩), .agg #[.int .u8 d.kind, .int .i64 d.cell, .int .i64 d.to, .int .i64 d.n]] w fun e w' => e = .returned (.tuple #[]) ∧ Shop 25 174 B w' s ad cp (resA p d) ∧ Below B w w' := by
  cases h1 : argB p d
  · simp [errA, hk, h1] at he
  · rw [show resA p d = breatheP p d by simp [resA, hk]]
    exact f_breathe_ok d h hp h1

theorem act7_no {B s cp : Nat} {ad : Option Addr} {p : Plant} {w : World} (d : Deed) (h : Shop 25 174 B w s ad cp p) (hp : plantB p = true) (hk : d.kind = 7) (he : errA p d ≠ 0) : Calls Try.prog 112 #[.pointer (some ⟨s, 0, none⟩), .agg #[.int .u8 d.kind, .int .i64 d.cell, .int .i64 d.to, .int .i64 d.n]] w fun e w' => e = .panicked [{ v := refusal (errA p d), recovered := false }] ∧ Kept w w' := by
  cases h1 : rng [d.n] 1 1000
  · rw [show errA p d = 2 by simp [errA, hk, *]]
    exact f_tick_no d h hp h1
  · exact absurd (by simp [errA, hk, *]) he
theorem act7_ok {B s cp : Nat} {ad : Option Addr} {p : Plant} {w : World} (d : Deed) (h : Shop 25 174 B w s ad cp p) (hp : plantB p = true) (hk : d.kind = 7) (he : errA p d = 0) : Calls Try.prog 112 #[.pointer (some ⟨s, 0, none⟩), .agg #[.int .u8 d.kind, .int .i64 d.cell, .int .i64 d.to, .int .i64 d.n]] w fun e w' => e = .returned (.tuple #[]) ∧ Shop 25 174 B w' s ad cp (resA p d) ∧ Below B w w' := by
  cases h1 : rng [d.n] 1 1000
  · simp [errA, hk, h1] at he
  · rw [show resA p d = tickP p d by simp [resA, hk]]
    exact f_tick_ok d h hp h1

end Go.Proofs.Ytemafanncejeiaa
