/-
  Structs as cells of memory. No program in sight.
-/
import Derived.Test.YtemafanncejeiaaMem
import Derived.Test.YtemafanncejeiaaGasPlain5
namespace Bal.Gas
open Go Go.RowKit Bal

def Deed.cells (x : Deed) : List Value := [.int .u8 x.kind, .int .i64 x.cell, .int .i64 x.to, .int .i64 x.n]
theorem Deed.row {B : Nat} {w : World} {a : Option Addr} {xs : List Deed} (h : Row Deed.cells 4 B w a xs) (i : Nat) (hi : i < xs.length) :
    ∃ b off, a = some ⟨b, off, none⟩ ∧ b < B ∧ w.cell? ⟨b, off + i * 4, none⟩ = some (.int .u8 xs[i].kind) ∧ w.cell? ⟨b, off + i * 4 + 1, none⟩ = some (.int .i64 xs[i].cell) ∧ w.cell? ⟨b, off + i * 4 + 2, none⟩ = some (.int .i64 xs[i].to) ∧ w.cell? ⟨b, off + i * 4 + 3, none⟩ = some (.int .i64 xs[i].n) := by
  obtain ⟨b, off, ha, hb, hc⟩ := h i xs[i] (by simp [hi])
  exact ⟨b, off, ha, hb, hc 0 _ rfl, hc 1 _ rfl, hc 2 _ rfl, hc 3 _ rfl⟩
theorem Deed.of_leaves {cs : List Value} (h : LeavesOk [.int .u8, .int .i64, .int .i64, .int .i64] cs) : ∃ x : Deed, cs = x.cells ∧ (Lit.int .u8 x.kind).wf = true ∧ (Lit.int .i64 x.cell).wf = true ∧ (Lit.int .i64 x.to).wf = true ∧ (Lit.int .i64 x.n).wf = true := by
  obtain ⟨hl, h⟩ := h
  match cs, hl with
  | [v0, v1, v2, v3], _ =>
    obtain ⟨_, e0, n0, rfl, w0⟩ := h 0 (.int .u8) rfl; simp at e0; subst e0
    obtain ⟨_, e1, n1, rfl, w1⟩ := h 1 (.int .i64) rfl; simp at e1; subst e1
    obtain ⟨_, e2, n2, rfl, w2⟩ := h 2 (.int .i64) rfl; simp at e2; subst e2
    obtain ⟨_, e3, n3, rfl, w3⟩ := h 3 (.int .i64) rfl; simp at e3; subst e3
    exact ⟨⟨n0, n1, n2, n3⟩, rfl, w0, w1, w2, w3⟩

end Bal.Gas
