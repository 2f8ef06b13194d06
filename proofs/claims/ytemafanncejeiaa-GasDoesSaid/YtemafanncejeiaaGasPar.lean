/-
  Structs as cells of memory. No program in sight.
-/
import Derived.Test.YtemafanncejeiaaMem
import Derived.Test.YtemafanncejeiaaGasPlain5
namespace Bal.Gas
open Go Go.RowKit Bal

def Par.cells (x : Par) : List Value := [.int .i64 x.h, .int .i64 x.a]
theorem Par.row {B : Nat} {w : World} {a : Option Addr} {xs : List Par} (h : Row Par.cells 2 B w a xs) (i : Nat) (hi : i < xs.length) :
    ∃ b off, a = some ⟨b, off, none⟩ ∧ b < B ∧ w.cell? ⟨b, off + i * 2, none⟩ = some (.int .i64 xs[i].h) ∧ w.cell? ⟨b, off + i * 2 + 1, none⟩ = some (.int .i64 xs[i].a) := by
  obtain ⟨b, off, ha, hb, hc⟩ := h i xs[i] (by simp [hi])
  exact ⟨b, off, ha, hb, hc 0 _ rfl, hc 1 _ rfl⟩
theorem Par.of_leaves {cs : List Value} (h : LeavesOk [.int .i64, .int .i64] cs) : ∃ x : Par, cs = x.cells ∧ (Lit.int .i64 x.h).wf = true ∧ (Lit.int .i64 x.a).wf = true := by
  obtain ⟨hl, h⟩ := h
  match cs, hl with
  | [v0, v1], _ =>
    obtain ⟨_, e0, n0, rfl, w0⟩ := h 0 (.int .i64) rfl; simp at e0; subst e0
    obtain ⟨_, e1, n1, rfl, w1⟩ := h 1 (.int .i64) rfl; simp at e1; subst e1
    exact ⟨⟨n0, n1⟩, rfl, w0, w1⟩

end Bal.Gas
