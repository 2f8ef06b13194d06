/-
  The program: Do, the closure that recovers.
-/
import Derived.Test.YtemafanncejeiaaGasDK
import Derived.Test.YtemafanncejeiaaGasDN
import Derived.Recover
namespace Go.Proofs.Ytemafanncejeiaa
open Go.RowKit Bal Bal.Trim Bal.Gas
set_option linter.unusedVariables false
set_option linter.unusedSimpArgs false
set_option maxHeartbeats 8000000
set_option maxRecDepth 100000

theorem catch_idle (p q : Addr) (w : World) :
    CallsD Try.prog 105 #[.pointer (some p), .pointer (some q)] .returning w fun e u' w' => e = .returned (.tuple #[]) ∧ u' = .returning ∧ w' = w := by
  refine callsD_of_wpS Try.func105 rfl fun c₀ cs hu => ?_
  apply wpS_seq
  apply wpS_region
  simp [wpOpsS, go_sem, recoverD, hu, Try.ntmps105, Exit.thenS]
  refine wpS_of_wp ?_
  show Code.wp _ _ _ { tmps := #[.pointer (some p), .pointer (some q), .nilIface, .nilIface, undef, undef, undef, undef, undef, undef], defers := [] } w
  go_wp2
  exact ⟨rfl, .returning, by cases c₀; simp_all, .tuple #[], by simp [results, Try.results105, go_sem], rfl, rfl, rfl⟩
theorem catch_panics (b1 b2 : Nat) (n : Int) (w : World) (h1 : Blk w b1 #[.slice none 0 0, .int .i64 0, .int .i64 0, .int .i64 0, .int .i64 0, .int .i64 0, .int .i64 0, .int .i64 0, .int .i64 0, .int .i64 0] 63) (h2 : Blk w b2 #[.int .i64 0] 28) :
    CallsD Try.prog 105 #[.pointer (some ⟨b1, 0, none⟩), .pointer (some ⟨b2, 0, none⟩)] (.panicking [{ v := refusal n, recovered := false }]) w fun e u' w' => e = .returned (.tuple #[]) ∧ u' = .panicking [{ v := refusal n, recovered := true }] ∧
      Blk w' b1 #[.slice none 0 0, .int .i64 0, .int .i64 0, .int .i64 0, .int .i64 0, .int .i64 0, .int .i64 0, .int .i64 0, .int .i64 0, .int .i64 0] 63 ∧ Blk w' b2 #[.int .i64 n] 28 ∧ (∀ B, B ≤ b1 → B ≤ b2 → Below B w w') := by
  have hta : ∀ w : World, (Instr.typeAssert (.iface 167 (.agg #[.int .i64 n])) 20 167 false).run Try.prog w = .ok (.agg #[.int .i64 n]) w := fun w => by kernel_rfl
  have hfd : ∀ w : World, (Instr.field 167 (.agg #[.int .i64 n]) 0).run Try.prog w = .ok (.int .i64 n) w := fun w => by kernel_rfl
  refine callsD_of_wpS Try.func105 rfl fun c₀ cs hu => ?_
  apply wpS_seq
  apply wpS_region
  simp [wpOpsS, go_sem, recoverD, hu, Try.ntmps105, Exit.thenS]
  refine wpS_of_wp ?_
  show Code.wp _ _ _ { tmps := #[.pointer (some ⟨b1, 0, none⟩), .pointer (some ⟨b2, 0, none⟩), .iface 167 (.agg #[.int .i64 n]), .iface 167 (.agg #[.int .i64 n]), undef, undef, undef, undef, undef, undef], defers := [] } w
  go_wp2
  have h1c0 := h1.cell 0
  have h1f0 := h1.free 0
  have h1c1 := h1.cell 1
  have h1f1 := h1.free 1
  have h1c2 := h1.cell 2
  have h1f2 := h1.free 2
  have h1c3 := h1.cell 3
  have h1f3 := h1.free 3
  have h1c4 := h1.cell 4
  have h1f4 := h1.free 4
  have h1c5 := h1.cell 5
  have h1f5 := h1.free 5
  have h1c6 := h1.cell 6
  have h1f6 := h1.free 6
  have h1c7 := h1.cell 7
  have h1f7 := h1.free 7
  have h1c8 := h1.cell 8
  have h1f8 := h1.free 8
  have h1c9 := h1.cell 9
  have h1f9 := h1.free 9
  have h1l := h1.lt
  simp at h1c0 h1c1 h1c2 h1c3 h1c4 h1c5 h1c6 h1c7 h1c8 h1c9
  have h2c0 := h2.cell 0
  have h2f0 := h2.free 0
  have h2l := h2.lt
  simp at h2c0
  have hne : b1 ≠ b2 := fun he => by subst he; have := h1.symm.trans h2; simp at this
  go_region
  refine ⟨rfl, .panicking [{ v := refusal n, recovered := true }], rfl, .tuple #[], by simp [results, Try.results105, go_sem], rfl, rfl, ?_, ?_, fun B k1 k2 => ?_⟩
  · exact (Blk.drew ((((((((((((h1).set 0 _).set 1 _).set 2 _).set 3 _).set 4 _).set 5 _).set 6 _).set 7 _).set 8 _).set 9 _).other (by simp; omega) _)).cast (by simp)
  · exact (Blk.drew ((((((((((((h2).other (by simp; omega) _).other (by simp; omega) _).other (by simp; omega) _).other (by simp; omega) _).other (by simp; omega) _).other (by simp; omega) _).other (by simp; omega) _).other (by simp; omega) _).other (by simp; omega) _).other (by simp; omega) _).set 0 _)).cast (by simp)
  · exact Below.drew (((((((((((((Below.refl B w)).setCell k1 _).setCell k1 _).setCell k1 _).setCell k1 _).setCell k1 _).setCell k1 _).setCell k1 _).setCell k1 _).setCell k1 _).setCell k1 _).setCell k2 _)

end Go.Proofs.Ytemafanncejeiaa
