/-
  The reference: sizes of acts, twins, ticks.
-/
import Derived.Test.YtemafanncejeiaaGasDL
namespace Go.Proofs.Ytemafanncejeiaa
open Go.RowKit Bal Bal.Trim Bal.Gas
set_option linter.unusedVariables false
set_option linter.unusedSimpArgs false
set_option maxHeartbeats 8000000
set_option maxRecDepth 100000

def sizedE (p : Plant) (d : Deed) : Int :=
  if d.kind = 7 ∧ inB d.n 1 1000 = true then 0 else if d.kind < 1 ∨ 6 < d.kind ∨ inB d.n 1 10000000 = false then 2
  else if d.kind ≠ 1 ∧ inB d.cell 0 (p.cells.length - 1) = false then 2 else if d.kind = 4 ∧ (inB d.to 0 (p.cells.length - 1) = false ∨ d.to = d.cell) then 2 else 0

theorem r_sized1 (p : Plant) (d : Deed) (a : Option Addr) (cap : Nat) (w : World) (hc : p.cells.length ≤ cap) (hM : cap ≤ maxLen) (hk : d.kind = 7) (hn : inB d.n 1 1000 = true) :
    Calls Try.prog 116 #[.agg #[.slice a p.cells.length cap, .int .i64 p.bottles, .int .i64 p.inH, .int .i64 p.inA, .int .i64 p.vH, .int .i64 p.vA, .int .i64 p.lH, .int .i64 p.lA, .int .i64 p.pH, .int .i64 p.pA], .agg #[.int .u8 d.kind, .int .i64 d.cell, .int .i64 d.to, .int .i64 d.n]] w fun e w' => e = .returned (.int .i64 0) ∧ Kept w w' := by
  unfold maxLen at hM
  have hwl := i64_inx (n := (p.cells.length : Int) - 1) (by omega)
  have e7 : (d.kind == 7) = true := by simp; omega
  have g7 : decide (d.kind = 7) = true := by simp; omega
  have HN1 := Lib.hid hn
  clear hk hn
  go_enter Try.func116, Try.ntmps116
  go_wp2_with (first | (go_at_call 104; (with_reducible refine (r_within d.n 1 1000 _).mono ?_); rw [HN1.out]; rintro e w1 ⟨rfl, rfl⟩))
  go_ret
  exact ⟨rfl, by (exact kpt)⟩

theorem r_sized2 (p : Plant) (d : Deed) (a : Option Addr) (cap : Nat) (w : World) (hc : p.cells.length ≤ cap) (hM : cap ≤ maxLen) (hk : d.kind = 7) (hn : inB d.n 1 1000 = false) :
    Calls Try.prog 116 #[.agg #[.slice a p.cells.length cap, .int .i64 p.bottles, .int .i64 p.inH, .int .i64 p.inA, .int .i64 p.vH, .int .i64 p.vA, .int .i64 p.lH, .int .i64 p.lA, .int .i64 p.pH, .int .i64 p.pA], .agg #[.int .u8 d.kind, .int .i64 d.cell, .int .i64 d.to, .int .i64 d.n]] w fun e w' => e = .returned (.int .i64 2) ∧ Kept w w' := by
  unfold maxLen at hM
  have hwl := i64_inx (n := (p.cells.length : Int) - 1) (by omega)
  have e7 : (d.kind == 7) = true := by simp; omega
  have g7 : decide (d.kind = 7) = true := by simp; omega
  have HN1 := Lib.hid hn
  have l1 : ¬ d.kind < 1 := by omega
  have l6 : 6 < d.kind := by omega
  clear hk hn
  go_enter Try.func116, Try.ntmps116
  go_wp2_with (first | (go_at_call 104; (with_reducible refine (r_within d.n 1 1000 _).mono ?_); rw [HN1.out]; rintro e w1 ⟨rfl, rfl⟩))
  go_ret
  exact ⟨rfl, by (exact kpt)⟩

theorem r_sized3 (p : Plant) (d : Deed) (a : Option Addr) (cap : Nat) (w : World) (hc : p.cells.length ≤ cap) (hM : cap ≤ maxLen) (hk : d.kind < 1) :
    Calls Try.prog 116 #[.agg #[.slice a p.cells.length cap, .int .i64 p.bottles, .int .i64 p.inH, .int .i64 p.inA, .int .i64 p.vH, .int .i64 p.vA, .int .i64 p.lH, .int .i64 p.lA, .int .i64 p.pH, .int .i64 p.pA], .agg #[.int .u8 d.kind, .int .i64 d.cell, .int .i64 d.to, .int .i64 d.n]] w fun e w' => e = .returned (.int .i64 2) ∧ Kept w w' := by
  unfold maxLen at hM
  have hwl := i64_inx (n := (p.cells.length : Int) - 1) (by omega)
  have e7 : (d.kind == 7) = false := by simp; omega
  have g7 : decide (d.kind = 7) = false := by simp; omega
  go_enter Try.func116, Try.ntmps116
  go_wp2_with (first | fail)
  go_ret
  exact ⟨rfl, by (exact kpt)⟩

theorem r_sized4 (p : Plant) (d : Deed) (a : Option Addr) (cap : Nat) (w : World) (hc : p.cells.length ≤ cap) (hM : cap ≤ maxLen) (hk : 6 < d.kind) (hk7 : d.kind ≠ 7) :
    Calls Try.prog 116 #[.agg #[.slice a p.cells.length cap, .int .i64 p.bottles, .int .i64 p.inH, .int .i64 p.inA, .int .i64 p.vH, .int .i64 p.vA, .int .i64 p.lH, .int .i64 p.lA, .int .i64 p.pH, .int .i64 p.pA], .agg #[.int .u8 d.kind, .int .i64 d.cell, .int .i64 d.to, .int .i64 d.n]] w fun e w' => e = .returned (.int .i64 2) ∧ Kept w w' := by
  unfold maxLen at hM
  have hwl := i64_inx (n := (p.cells.length : Int) - 1) (by omega)
  have e7 : (d.kind == 7) = false := by simp; omega
  have g7 : decide (d.kind = 7) = false := by simp; omega
  have l1 : ¬ d.kind < 1 := by omega
  clear hk7
  go_enter Try.func116, Try.ntmps116
  go_wp2_with (first | fail)
  go_ret
  exact ⟨rfl, by (exact kpt)⟩

theorem r_sized5 (p : Plant) (d : Deed) (a : Option Addr) (cap : Nat) (w : World) (hc : p.cells.length ≤ cap) (hM : cap ≤ maxLen) (hk1 : 1 ≤ d.kind) (hk6 : d.kind ≤ 6) (hn : inB d.n 1 10000000 = false) :
    Calls Try.prog 116 #[.agg #[.slice a p.cells.length cap, .int .i64 p.bottles, .int .i64 p.inH, .int .i64 p.inA, .int .i64 p.vH, .int .i64 p.vA, .int .i64 p.lH, .int .i64 p.lA, .int .i64 p.pH, .int .i64 p.pA], .agg #[.int .u8 d.kind, .int .i64 d.cell, .int .i64 d.to, .int .i64 d.n]] w fun e w' => e = .returned (.int .i64 2) ∧ Kept w w' := by
  unfold maxLen at hM
  have hwl := i64_inx (n := (p.cells.length : Int) - 1) (by omega)
  have e7 : (d.kind == 7) = false := by simp; omega
  have g7 : decide (d.kind = 7) = false := by simp; omega
  have l1 : ¬ d.kind < 1 := by omega
  have l6 : ¬ 6 < d.kind := by omega
  have HN2 := Lib.hid hn
  clear hk1 hk6 hn
  go_enter Try.func116, Try.ntmps116
  go_wp2_with (first | (go_at_call 104; (with_reducible refine (r_within d.n 1 10000000 _).mono ?_); rw [HN2.out]; rintro e w1 ⟨rfl, rfl⟩))
  go_ret
  exact ⟨rfl, by (exact kpt)⟩

theorem r_sized6 (p : Plant) (d : Deed) (a : Option Addr) (cap : Nat) (w : World) (hc : p.cells.length ≤ cap) (hM : cap ≤ maxLen) (hk : d.kind = 1) (hn : inB d.n 1 10000000 = true) :
    Calls Try.prog 116 #[.agg #[.slice a p.cells.length cap, .int .i64 p.bottles, .int .i64 p.inH, .int .i64 p.inA, .int .i64 p.vH, .int .i64 p.vA, .int .i64 p.lH, .int .i64 p.lA, .int .i64 p.pH, .int .i64 p.pA], .agg #[.int .u8 d.kind, .int .i64 d.cell, .int .i64 d.to, .int .i64 d.n]] w fun e w' => e = .returned (.int .i64 0) ∧ Kept w w' := by
  unfold maxLen at hM
  have hwl := i64_inx (n := (p.cells.length : Int) - 1) (by omega)
  have e7 : (d.kind == 7) = false := by simp; omega
  have g7 : decide (d.kind = 7) = false := by simp; omega
  have l1 : ¬ d.kind < 1 := by omega
  have l6 : ¬ 6 < d.kind := by omega
  have HN2 := Lib.hid hn
  have n1 : (d.kind != 1) = false := by simp; omega
  have e4 : (d.kind == 4) = false := by simp; omega
  have g4 : decide (d.kind = 4) = false := by simp; omega
  clear hk hn
  go_enter Try.func116, Try.ntmps116
  go_wp2_with (first | (go_at_call 104; (with_reducible refine (r_within d.n 1 10000000 _).mono ?_); rw [HN2.out]; rintro e w1 ⟨rfl, rfl⟩))
  go_ret
  exact ⟨rfl, by (exact kpt)⟩

theorem r_sized7 (p : Plant) (d : Deed) (a : Option Addr) (cap : Nat) (w : World) (hc : p.cells.length ≤ cap) (hM : cap ≤ maxLen) (hk1 : 2 ≤ d.kind) (hk6 : d.kind ≤ 6) (hn : inB d.n 1 10000000 = true) (hcl : inB d.cell 0 (p.cells.length - 1) = false) :
    Calls Try.prog 116 #[.agg #[.slice a p.cells.length cap, .int .i64 p.bottles, .int .i64 p.inH, .int .i64 p.inA, .int .i64 p.vH, .int .i64 p.vA, .int .i64 p.lH, .int .i64 p.lA, .int .i64 p.pH, .int .i64 p.pA], .agg #[.int .u8 d.kind, .int .i64 d.cell, .int .i64 d.to, .int .i64 d.n]] w fun e w' => e = .returned (.int .i64 2) ∧ Kept w w' := by
  unfold maxLen at hM
  have hwl := i64_inx (n := (p.cells.length : Int) - 1) (by omega)
  have e7 : (d.kind == 7) = false := by simp; omega
  have g7 : decide (d.kind = 7) = false := by simp; omega
  have l1 : ¬ d.kind < 1 := by omega
  have l6 : ¬ 6 < d.kind := by omega
  have HN2 := Lib.hid hn
  have n1 : (d.kind != 1) = true := by simp; omega
  have HC0 := Lib.hid hcl
  clear hk1 hk6 hn hcl
  go_enter Try.func116, Try.ntmps116
  go_wp2_with (first | (go_at_call 104; (with_reducible refine (r_within d.n 1 10000000 _).mono ?_); rw [HN2.out]; rintro e w1 ⟨rfl, rfl⟩) | (go_at_call 104; (with_reducible refine (r_within d.cell 0 (↑p.cells.length - 1) _).mono ?_); rw [HC0.out]; rintro e w1 ⟨rfl, rfl⟩))
  go_ret
  exact ⟨rfl, by (exact kpt)⟩

theorem r_sized8 (p : Plant) (d : Deed) (a : Option Addr) (cap : Nat) (w : World) (hc : p.cells.length ≤ cap) (hM : cap ≤ maxLen) (hk1 : 2 ≤ d.kind) (hk6 : d.kind ≤ 6) (hk4 : d.kind ≠ 4) (hn : inB d.n 1 10000000 = true) (hcl : inB d.cell 0 (p.cells.length - 1) = true) :
    Calls Try.prog 116 #[.agg #[.slice a p.cells.length cap, .int .i64 p.bottles, .int .i64 p.inH, .int .i64 p.inA, .int .i64 p.vH, .int .i64 p.vA, .int .i64 p.lH, .int .i64 p.lA, .int .i64 p.pH, .int .i64 p.pA], .agg #[.int .u8 d.kind, .int .i64 d.cell, .int .i64 d.to, .int .i64 d.n]] w fun e w' => e = .returned (.int .i64 0) ∧ Kept w w' := by
  unfold maxLen at hM
  have hwl := i64_inx (n := (p.cells.length : Int) - 1) (by omega)
  have e7 : (d.kind == 7) = false := by simp; omega
  have g7 : decide (d.kind = 7) = false := by simp; omega
  have l1 : ¬ d.kind < 1 := by omega
  have l6 : ¬ 6 < d.kind := by omega
  have HN2 := Lib.hid hn
  have n1 : (d.kind != 1) = true := by simp; omega
  have e4 : (d.kind == 4) = false := by simp; omega
  have g4 : decide (d.kind = 4) = false := by simp; omega
  have HC0 := Lib.hid hcl
  clear hk1 hk6 hk4 hn hcl
  go_enter Try.func116, Try.ntmps116
  go_wp2_with (first | (go_at_call 104; (with_reducible refine (r_within d.n 1 10000000 _).mono ?_); rw [HN2.out]; rintro e w1 ⟨rfl, rfl⟩) | (go_at_call 104; (with_reducible refine (r_within d.cell 0 (↑p.cells.length - 1) _).mono ?_); rw [HC0.out]; rintro e w1 ⟨rfl, rfl⟩))
  go_ret
  exact ⟨rfl, by (exact kpt)⟩

theorem r_sized9 (p : Plant) (d : Deed) (a : Option Addr) (cap : Nat) (w : World) (hc : p.cells.length ≤ cap) (hM : cap ≤ maxLen) (hk : d.kind = 4) (hn : inB d.n 1 10000000 = true) (hcl : inB d.cell 0 (p.cells.length - 1) = true) (ht : inB d.to 0 (p.cells.length - 1) = false) :
    Calls Try.prog 116 #[.agg #[.slice a p.cells.length cap, .int .i64 p.bottles, .int .i64 p.inH, .int .i64 p.inA, .int .i64 p.vH, .int .i64 p.vA, .int .i64 p.lH, .int .i64 p.lA, .int .i64 p.pH, .int .i64 p.pA], .agg #[.int .u8 d.kind, .int .i64 d.cell, .int .i64 d.to, .int .i64 d.n]] w fun e w' => e = .returned (.int .i64 2) ∧ Kept w w' := by
  unfold maxLen at hM
  have hwl := i64_inx (n := (p.cells.length : Int) - 1) (by omega)
  have e7 : (d.kind == 7) = false := by simp; omega
  have g7 : decide (d.kind = 7) = false := by simp; omega
  have l1 : ¬ d.kind < 1 := by omega
  have l6 : ¬ 6 < d.kind := by omega
  have HN2 := Lib.hid hn
  have n1 : (d.kind != 1) = true := by simp; omega
  have e4 : (d.kind == 4) = true := by simp; omega
  have g4 : decide (d.kind = 4) = true := by simp; omega
  have HC0 := Lib.hid hcl
  have HT0 := Lib.hid ht
  clear hk hn hcl ht
  go_enter Try.func116, Try.ntmps116
  go_wp2_with (first | (go_at_call 104; (with_reducible refine (r_within d.n 1 10000000 _).mono ?_); rw [HN2.out]; rintro e w1 ⟨rfl, rfl⟩) | (go_at_call 104; (with_reducible refine (r_within d.cell 0 (↑p.cells.length - 1) _).mono ?_); rw [HC0.out]; rintro e w1 ⟨rfl, rfl⟩) | (go_at_call 104; (with_reducible refine (r_within d.to 0 (↑p.cells.length - 1) _).mono ?_); rw [HT0.out]; rintro e w1 ⟨rfl, rfl⟩))
  go_ret
  exact ⟨rfl, by (exact kpt)⟩

theorem r_sized10 (p : Plant) (d : Deed) (a : Option Addr) (cap : Nat) (w : World) (hc : p.cells.length ≤ cap) (hM : cap ≤ maxLen) (hk : d.kind = 4) (hn : inB d.n 1 10000000 = true) (hcl : inB d.cell 0 (p.cells.length - 1) = true) (ht : inB d.to 0 (p.cells.length - 1) = true) (he : d.to = d.cell) :
    Calls Try.prog 116 #[.agg #[.slice a p.cells.length cap, .int .i64 p.bottles, .int .i64 p.inH, .int .i64 p.inA, .int .i64 p.vH, .int .i64 p.vA, .int .i64 p.lH, .int .i64 p.lA, .int .i64 p.pH, .int .i64 p.pA], .agg #[.int .u8 d.kind, .int .i64 d.cell, .int .i64 d.to, .int .i64 d.n]] w fun e w' => e = .returned (.int .i64 2) ∧ Kept w w' := by
  unfold maxLen at hM
  have hwl := i64_inx (n := (p.cells.length : Int) - 1) (by omega)
  have e7 : (d.kind == 7) = false := by simp; omega
  have g7 : decide (d.kind = 7) = false := by simp; omega
  have l1 : ¬ d.kind < 1 := by omega
  have l6 : ¬ 6 < d.kind := by omega
  have HN2 := Lib.hid hn
  have n1 : (d.kind != 1) = true := by simp; omega
  have e4 : (d.kind == 4) = true := by simp; omega
  have g4 : decide (d.kind = 4) = true := by simp; omega
  have t0 : (d.to == d.cell) = true := by simp [he]
  have t1 : decide (d.to = d.cell) = true := by simp [he]
  have HC0 := Lib.hid hcl
  have HT0 := Lib.hid ht
  clear hk hn hcl ht he
  go_enter Try.func116, Try.ntmps116
  go_wp2_with (first | (go_at_call 104; (with_reducible refine (r_within d.to 0 (↑p.cells.length - 1) _).mono ?_); rw [HT0.out]; rintro e w1 ⟨rfl, rfl⟩) | (go_at_call 104; (with_reducible refine (r_within d.n 1 10000000 _).mono ?_); rw [HN2.out]; rintro e w1 ⟨rfl, rfl⟩) | (go_at_call 104; (with_reducible refine (r_within d.cell 0 (↑p.cells.length - 1) _).mono ?_); rw [HC0.out]; rintro e w1 ⟨rfl, rfl⟩))
  go_ret
  exact ⟨rfl, by (exact kpt)⟩

theorem r_sized11 (p : Plant) (d : Deed) (a : Option Addr) (cap : Nat) (w : World) (hc : p.cells.length ≤ cap) (hM : cap ≤ maxLen) (hk : d.kind = 4) (hn : inB d.n 1 10000000 = true) (hcl : inB d.cell 0 (p.cells.length - 1) = true) (ht : inB d.to 0 (p.cells.length - 1) = true) (he : d.to ≠ d.cell) :
    Calls Try.prog 116 #[.agg #[.slice a p.cells.length cap, .int .i64 p.bottles, .int .i64 p.inH, .int .i64 p.inA, .int .i64 p.vH, .int .i64 p.vA, .int .i64 p.lH, .int .i64 p.lA, .int .i64 p.pH, .int .i64 p.pA], .agg #[.int .u8 d.kind, .int .i64 d.cell, .int .i64 d.to, .int .i64 d.n]] w fun e w' => e = .returned (.int .i64 0) ∧ Kept w w' := by
  unfold maxLen at hM
  have hwl := i64_inx (n := (p.cells.length : Int) - 1) (by omega)
  have e7 : (d.kind == 7) = false := by simp; omega
  have g7 : decide (d.kind = 7) = false := by simp; omega
  have l1 : ¬ d.kind < 1 := by omega
  have l6 : ¬ 6 < d.kind := by omega
  have HN2 := Lib.hid hn
  have n1 : (d.kind != 1) = true := by simp; omega
  have e4 : (d.kind == 4) = true := by simp; omega
  have g4 : decide (d.kind = 4) = true := by simp; omega
  have t0 : (d.to == d.cell) = false := by simp [he]
  have t1 : decide (d.to = d.cell) = false := by simp [he]
  have HC0 := Lib.hid hcl
  have HT0 := Lib.hid ht
  clear hk hn hcl ht he
  go_enter Try.func116, Try.ntmps116
  go_wp2_with (first | (go_at_call 104; (with_reducible refine (r_within d.to 0 (↑p.cells.length - 1) _).mono ?_); rw [HT0.out]; rintro e w1 ⟨rfl, rfl⟩) | (go_at_call 104; (with_reducible refine (r_within d.n 1 10000000 _).mono ?_); rw [HN2.out]; rintro e w1 ⟨rfl, rfl⟩) | (go_at_call 104; (with_reducible refine (r_within d.cell 0 (↑p.cells.length - 1) _).mono ?_); rw [HC0.out]; rintro e w1 ⟨rfl, rfl⟩))
  go_ret
  exact ⟨rfl, by (exact kpt)⟩

end Go.Proofs.Ytemafanncejeiaa
