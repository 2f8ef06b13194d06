/-
  Structs as cells of memory. No program in sight.
-/
import Derived.Test.YtacbkbilbmkjnaaMem
import Derived.Test.YtacbkbilbmkjnaaMastPlain2
namespace Bal.Mast
open Go Go.RowKit Bal

def Wind.cells (x : Wind) : List Value := [.int .i64 x.xlo, .int .i64 x.xhi, .int .i64 x.ylo, .int .i64 x.yhi]
theorem Wind.row {B : Nat} {w : World} {a : Option Addr} {xs : List Wind} (h : Row Wind.cells 4 B w a xs) (i : Nat) (hi : i < xs.length) :
    ∃ b off, a = some ⟨b, off, none⟩ ∧ b < B ∧ w.cell? ⟨b, off + i * 4, none⟩ = some (.int .i64 xs[i].xlo) ∧ w.cell? ⟨b, off + i * 4 + 1, none⟩ = some (.int .i64 xs[i].xhi) ∧ w.cell? ⟨b, off + i * 4 + 2, none⟩ = some (.int .i64 xs[i].ylo) ∧ w.cell? ⟨b, off + i * 4 + 3, none⟩ = some (.int .i64 xs[i].yhi) := by
  obtain ⟨b, off, ha, hb, hc⟩ := h i xs[i] (by simp [hi])
  exact ⟨b, off, ha, hb, hc 0 _ rfl, hc 1 _ rfl, hc 2 _ rfl, hc 3 _ rfl⟩
theorem Wind.of_leaves {cs : List Value} (h : LeavesOk [.int .i64, .int .i64, .int .i64, .int .i64] cs) : ∃ x : Wind, cs = x.cells ∧ (Lit.int .i64 x.xlo).wf = true ∧ (Lit.int .i64 x.xhi).wf = true ∧ (Lit.int .i64 x.ylo).wf = true ∧ (Lit.int .i64 x.yhi).wf = true := by
  obtain ⟨hl, h⟩ := h
  match cs, hl with
  | [v0, v1, v2, v3], _ =>
    obtain ⟨_, e0, n0, rfl, w0⟩ := h 0 (.int .i64) rfl; simp at e0; subst e0
    obtain ⟨_, e1, n1, rfl, w1⟩ := h 1 (.int .i64) rfl; simp at e1; subst e1
    obtain ⟨_, e2, n2, rfl, w2⟩ := h 2 (.int .i64) rfl; simp at e2; subst e2
    obtain ⟨_, e3, n3, rfl, w3⟩ := h 3 (.int .i64) rfl; simp at e3; subst e3
    exact ⟨⟨n0, n1, n2, n3⟩, rfl, w0, w1, w2, w3⟩

def Axis.cells (x : Axis) : List Value := [.int .i64 x.x, .int .i64 x.y]
theorem Axis.row {B : Nat} {w : World} {a : Option Addr} {xs : List Axis} (h : Row Axis.cells 2 B w a xs) (i : Nat) (hi : i < xs.length) :
    ∃ b off, a = some ⟨b, off, none⟩ ∧ b < B ∧ w.cell? ⟨b, off + i * 2, none⟩ = some (.int .i64 xs[i].x) ∧ w.cell? ⟨b, off + i * 2 + 1, none⟩ = some (.int .i64 xs[i].y) := by
  obtain ⟨b, off, ha, hb, hc⟩ := h i xs[i] (by simp [hi])
  exact ⟨b, off, ha, hb, hc 0 _ rfl, hc 1 _ rfl⟩
theorem Axis.of_leaves {cs : List Value} (h : LeavesOk [.int .i64, .int .i64] cs) : ∃ x : Axis, cs = x.cells ∧ (Lit.int .i64 x.x).wf = true ∧ (Lit.int .i64 x.y).wf = true := by
  obtain ⟨hl, h⟩ := h
  match cs, hl with
  | [v0, v1], _ =>
    obtain ⟨_, e0, n0, rfl, w0⟩ := h 0 (.int .i64) rfl; simp at e0; subst e0
    obtain ⟨_, e1, n1, rfl, w1⟩ := h 1 (.int .i64) rfl; simp at e1; subst e1
    exact ⟨⟨n0, n1⟩, rfl, w0, w1⟩

def Span.cells (x : Span) : List Value := [.int .i64 x.lo, .int .i64 x.hi]
theorem Span.row {B : Nat} {w : World} {a : Option Addr} {xs : List Span} (h : Row Span.cells 2 B w a xs) (i : Nat) (hi : i < xs.length) :
    ∃ b off, a = some ⟨b, off, none⟩ ∧ b < B ∧ w.cell? ⟨b, off + i * 2, none⟩ = some (.int .i64 xs[i].lo) ∧ w.cell? ⟨b, off + i * 2 + 1, none⟩ = some (.int .i64 xs[i].hi) := by
  obtain ⟨b, off, ha, hb, hc⟩ := h i xs[i] (by simp [hi])
  exact ⟨b, off, ha, hb, hc 0 _ rfl, hc 1 _ rfl⟩
theorem Span.of_leaves {cs : List Value} (h : LeavesOk [.int .i64, .int .i64] cs) : ∃ x : Span, cs = x.cells ∧ (Lit.int .i64 x.lo).wf = true ∧ (Lit.int .i64 x.hi).wf = true := by
  obtain ⟨hl, h⟩ := h
  match cs, hl with
  | [v0, v1], _ =>
    obtain ⟨_, e0, n0, rfl, w0⟩ := h 0 (.int .i64) rfl; simp at e0; subst e0
    obtain ⟨_, e1, n1, rfl, w1⟩ := h 1 (.int .i64) rfl; simp at e1; subst e1
    exact ⟨⟨n0, n1⟩, rfl, w0, w1⟩

end Bal.Mast
