/-
  Structs as cells of memory. No program in sight.
-/
import Derived.Test.YtemafanncejeiaaMem
import Derived.Test.YtemafanncejeiaaGasPlain
namespace Bal.Gas
open Go Go.RowKit Bal

def Cell.cells (x : Cell) : List Value := [.int .i64 x.room, .int .i64 x.helium, .int .i64 x.air, .int .i64 x.wlo, .int .i64 x.whi, .int .i64 x.leak, .int .i64 x.owed]
theorem Cell.row {B : Nat} {w : World} {a : Option Addr} {xs : List Cell} (h : Row Cell.cells 7 B w a xs) (i : Nat) (hi : i < xs.length) :
    ∃ b off, a = some ⟨b, off, none⟩ ∧ b < B ∧ w.cell? ⟨b, off + i * 7, none⟩ = some (.int .i64 xs[i].room) ∧ w.cell? ⟨b, off + i * 7 + 1, none⟩ = some (.int .i64 xs[i].helium) ∧ w.cell? ⟨b, off + i * 7 + 2, none⟩ = some (.int .i64 xs[i].air) ∧ w.cell? ⟨b, off + i * 7 + 3, none⟩ = some (.int .i64 xs[i].wlo) ∧ w.cell? ⟨b, off + i * 7 + 4, none⟩ = some (.int .i64 xs[i].whi) ∧ w.cell? ⟨b, off + i * 7 + 5, none⟩ = some (.int .i64 xs[i].leak) ∧ w.cell? ⟨b, off + i * 7 + 6, none⟩ = some (.int .i64 xs[i].owed) := by
  obtain ⟨b, off, ha, hb, hc⟩ := h i xs[i] (by simp [hi])
  exact ⟨b, off, ha, hb, hc 0 _ rfl, hc 1 _ rfl, hc 2 _ rfl, hc 3 _ rfl, hc 4 _ rfl, hc 5 _ rfl, hc 6 _ rfl⟩
theorem Cell.of_leaves {cs : List Value} (h : LeavesOk [.int .i64, .int .i64, .int .i64, .int .i64, .int .i64, .int .i64, .int .i64] cs) : ∃ x : Cell, cs = x.cells ∧ (Lit.int .i64 x.room).wf = true ∧ (Lit.int .i64 x.helium).wf = true ∧ (Lit.int .i64 x.air).wf = true ∧ (Lit.int .i64 x.wlo).wf = true ∧ (Lit.int .i64 x.whi).wf = true ∧ (Lit.int .i64 x.leak).wf = true ∧ (Lit.int .i64 x.owed).wf = true := by
  obtain ⟨hl, h⟩ := h
  match cs, hl with
  | [v0, v1, v2, v3, v4, v5, v6], _ =>
    obtain ⟨_, e0, n0, rfl, w0⟩ := h 0 (.int .i64) rfl; simp at e0; subst e0
    obtain ⟨_, e1, n1, rfl, w1⟩ := h 1 (.int .i64) rfl; simp at e1; subst e1
    obtain ⟨_, e2, n2, rfl, w2⟩ := h 2 (.int .i64) rfl; simp at e2; subst e2
    obtain ⟨_, e3, n3, rfl, w3⟩ := h 3 (.int .i64) rfl; simp at e3; subst e3
    obtain ⟨_, e4, n4, rfl, w4⟩ := h 4 (.int .i64) rfl; simp at e4; subst e4
    obtain ⟨_, e5, n5, rfl, w5⟩ := h 5 (.int .i64) rfl; simp at e5; subst e5
    obtain ⟨_, e6, n6, rfl, w6⟩ := h 6 (.int .i64) rfl; simp at e6; subst e6
    exact ⟨⟨n0, n1, n2, n3, n4, n5, n6⟩, rfl, w0, w1, w2, w3, w4, w5, w6⟩

def Air.cells (x : Air) : List Value := [.int .i64 x.plo, .int .i64 x.phi, .int .i64 x.tlo, .int .i64 x.thi]
theorem Air.row {B : Nat} {w : World} {a : Option Addr} {xs : List Air} (h : Row Air.cells 4 B w a xs) (i : Nat) (hi : i < xs.length) :
    ∃ b off, a = some ⟨b, off, none⟩ ∧ b < B ∧ w.cell? ⟨b, off + i * 4, none⟩ = some (.int .i64 xs[i].plo) ∧ w.cell? ⟨b, off + i * 4 + 1, none⟩ = some (.int .i64 xs[i].phi) ∧ w.cell? ⟨b, off + i * 4 + 2, none⟩ = some (.int .i64 xs[i].tlo) ∧ w.cell? ⟨b, off + i * 4 + 3, none⟩ = some (.int .i64 xs[i].thi) := by
  obtain ⟨b, off, ha, hb, hc⟩ := h i xs[i] (by simp [hi])
  exact ⟨b, off, ha, hb, hc 0 _ rfl, hc 1 _ rfl, hc 2 _ rfl, hc 3 _ rfl⟩
theorem Air.of_leaves {cs : List Value} (h : LeavesOk [.int .i64, .int .i64, .int .i64, .int .i64] cs) : ∃ x : Air, cs = x.cells ∧ (Lit.int .i64 x.plo).wf = true ∧ (Lit.int .i64 x.phi).wf = true ∧ (Lit.int .i64 x.tlo).wf = true ∧ (Lit.int .i64 x.thi).wf = true := by
  obtain ⟨hl, h⟩ := h
  match cs, hl with
  | [v0, v1, v2, v3], _ =>
    obtain ⟨_, e0, n0, rfl, w0⟩ := h 0 (.int .i64) rfl; simp at e0; subst e0
    obtain ⟨_, e1, n1, rfl, w1⟩ := h 1 (.int .i64) rfl; simp at e1; subst e1
    obtain ⟨_, e2, n2, rfl, w2⟩ := h 2 (.int .i64) rfl; simp at e2; subst e2
    obtain ⟨_, e3, n3, rfl, w3⟩ := h 3 (.int .i64) rfl; simp at e3; subst e3
    exact ⟨⟨n0, n1, n2, n3⟩, rfl, w0, w1, w2, w3⟩

def Hull.cells (x : Hull) : List Value := [.int .i64 x.room, .int .i64 x.gas, .int .i64 x.ballonet, .int .i64 x.bag, .int .i64 x.wlo, .int .i64 x.whi, .int .i64 x.least, .int .i64 x.most]
theorem Hull.row {B : Nat} {w : World} {a : Option Addr} {xs : List Hull} (h : Row Hull.cells 8 B w a xs) (i : Nat) (hi : i < xs.length) :
    ∃ b off, a = some ⟨b, off, none⟩ ∧ b < B ∧ w.cell? ⟨b, off + i * 8, none⟩ = some (.int .i64 xs[i].room) ∧ w.cell? ⟨b, off + i * 8 + 1, none⟩ = some (.int .i64 xs[i].gas) ∧ w.cell? ⟨b, off + i * 8 + 2, none⟩ = some (.int .i64 xs[i].ballonet) ∧ w.cell? ⟨b, off + i * 8 + 3, none⟩ = some (.int .i64 xs[i].bag) ∧ w.cell? ⟨b, off + i * 8 + 4, none⟩ = some (.int .i64 xs[i].wlo) ∧ w.cell? ⟨b, off + i * 8 + 5, none⟩ = some (.int .i64 xs[i].whi) ∧ w.cell? ⟨b, off + i * 8 + 6, none⟩ = some (.int .i64 xs[i].least) ∧ w.cell? ⟨b, off + i * 8 + 7, none⟩ = some (.int .i64 xs[i].most) := by
  obtain ⟨b, off, ha, hb, hc⟩ := h i xs[i] (by simp [hi])
  exact ⟨b, off, ha, hb, hc 0 _ rfl, hc 1 _ rfl, hc 2 _ rfl, hc 3 _ rfl, hc 4 _ rfl, hc 5 _ rfl, hc 6 _ rfl, hc 7 _ rfl⟩
theorem Hull.of_leaves {cs : List Value} (h : LeavesOk [.int .i64, .int .i64, .int .i64, .int .i64, .int .i64, .int .i64, .int .i64, .int .i64] cs) : ∃ x : Hull, cs = x.cells ∧ (Lit.int .i64 x.room).wf = true ∧ (Lit.int .i64 x.gas).wf = true ∧ (Lit.int .i64 x.ballonet).wf = true ∧ (Lit.int .i64 x.bag).wf = true ∧ (Lit.int .i64 x.wlo).wf = true ∧ (Lit.int .i64 x.whi).wf = true ∧ (Lit.int .i64 x.least).wf = true ∧ (Lit.int .i64 x.most).wf = true := by
  obtain ⟨hl, h⟩ := h
  match cs, hl with
  | [v0, v1, v2, v3, v4, v5, v6, v7], _ =>
    obtain ⟨_, e0, n0, rfl, w0⟩ := h 0 (.int .i64) rfl; simp at e0; subst e0
    obtain ⟨_, e1, n1, rfl, w1⟩ := h 1 (.int .i64) rfl; simp at e1; subst e1
    obtain ⟨_, e2, n2, rfl, w2⟩ := h 2 (.int .i64) rfl; simp at e2; subst e2
    obtain ⟨_, e3, n3, rfl, w3⟩ := h 3 (.int .i64) rfl; simp at e3; subst e3
    obtain ⟨_, e4, n4, rfl, w4⟩ := h 4 (.int .i64) rfl; simp at e4; subst e4
    obtain ⟨_, e5, n5, rfl, w5⟩ := h 5 (.int .i64) rfl; simp at e5; subst e5
    obtain ⟨_, e6, n6, rfl, w6⟩ := h 6 (.int .i64) rfl; simp at e6; subst e6
    obtain ⟨_, e7, n7, rfl, w7⟩ := h 7 (.int .i64) rfl; simp at e7; subst e7
    exact ⟨⟨n0, n1, n2, n3, n4, n5, n6, n7⟩, rfl, w0, w1, w2, w3, w4, w5, w6, w7⟩

def Ratio.cells (x : Ratio) : List Value := [.int .i64 x.num, .int .i64 x.den]
theorem Ratio.row {B : Nat} {w : World} {a : Option Addr} {xs : List Ratio} (h : Row Ratio.cells 2 B w a xs) (i : Nat) (hi : i < xs.length) :
    ∃ b off, a = some ⟨b, off, none⟩ ∧ b < B ∧ w.cell? ⟨b, off + i * 2, none⟩ = some (.int .i64 xs[i].num) ∧ w.cell? ⟨b, off + i * 2 + 1, none⟩ = some (.int .i64 xs[i].den) := by
  obtain ⟨b, off, ha, hb, hc⟩ := h i xs[i] (by simp [hi])
  exact ⟨b, off, ha, hb, hc 0 _ rfl, hc 1 _ rfl⟩
theorem Ratio.of_leaves {cs : List Value} (h : LeavesOk [.int .i64, .int .i64] cs) : ∃ x : Ratio, cs = x.cells ∧ (Lit.int .i64 x.num).wf = true ∧ (Lit.int .i64 x.den).wf = true := by
  obtain ⟨hl, h⟩ := h
  match cs, hl with
  | [v0, v1], _ =>
    obtain ⟨_, e0, n0, rfl, w0⟩ := h 0 (.int .i64) rfl; simp at e0; subst e0
    obtain ⟨_, e1, n1, rfl, w1⟩ := h 1 (.int .i64) rfl; simp at e1; subst e1
    exact ⟨⟨n0, n1⟩, rfl, w0, w1⟩

end Bal.Gas
