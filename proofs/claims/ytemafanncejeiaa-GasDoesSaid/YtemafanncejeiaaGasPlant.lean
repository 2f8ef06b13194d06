/-
  A plant that came in, opened: its cells, its numbers.
-/
import Derived.Test.YtemafanncejeiaaGasMine
import Derived.Test.YtemafanncejeiaaAgg
import Derived.Test.YtemafanncejeiaaProg
namespace Go.Proofs.Ytemafanncejeiaa
open Go.RowKit Go.ChangeShapes Go.WideShapes Go.ChangeAt Bal Bal.Trim Bal.Gas
set_option linter.unusedVariables false
set_option maxRecDepth 100000
theorem trod_field {H : Type} {enc : TypeId × Value → H} {P : Program} {w : World} {base fuel : Nat} {spare : Nat → Bool} {held : Bool} {fs : Array Field} {cs : List Value} {xs : List (DataW H × List MemPlace)} (hxl : xs.length = fs.size)
    (hg : ∀ (i : Nat) (f : Field), fs[i]? = some f → DataW.trod enc P w base spare held fuel f.type ((cs.drop f.offset).take (P.cellsOf f.type)) = xs[i]?) (i : Nat) (f : Field) (hi : fs[i]? = some f) :
    ∃ x, DataW.trod enc P w base spare held fuel f.type ((cs.drop f.offset).take (P.cellsOf f.type)) = some x := by
  have hlt : i < fs.size := (Array.getElem?_eq_some_iff.1 hi).1
  refine ⟨xs[i]'(by omega), ?_⟩
  rw [hg i f hi]
  exact List.getElem?_eq_getElem (by omega)
theorem pair_leaves {H : Type} {enc : TypeId × Value → H} {w : World} {base fuel : Nat} {spare : Nat → Bool} {held : Bool} {cs : List Value} {x : DataW H × List MemPlace} (h : DataW.trod enc Try.prog w base spare held fuel 61 cs = some x) :
    ∃ a b : Int, cs = [.int .i64 a, .int .i64 b] := by
  have hl := leaves_ok (P := Try.prog) 4 61 [.int .i64, .int .i64] fuel cs x (by kernel_rfl) h
  obtain ⟨hl, h⟩ := hl
  match cs, hl with
  | [v0, v1], _ =>
    obtain ⟨_, e0, n0, rfl, w0⟩ := h 0 (.int .i64) rfl; simp at e0; subst e0
    obtain ⟨_, e1, n1, rfl, w1⟩ := h 1 (.int .i64) rfl; simp at e1; subst e1
    exact ⟨n0, n1, rfl⟩
theorem open_plant {H : Type} {enc : TypeId × Value → H} {w : World} {base : Nat} {spare : Nat → Bool} {held : Bool} {v : Value} {d : DataW H} {ps : List MemPlace} {r : Reach} {b0 : Nat}
    (hval : Value.okWide Try.prog w r b0 63 v) (hd : DataW.Trod enc Try.prog w base spare held 63 v d ps) :
    ∃ (a : Option Addr) (c : Nat) (p : Plant), v = .agg (plantCells (.slice a p.cells.length c) p) ∧
      Row Cell.cells 7 w.heap.size w a p.cells ∧ p.cells.length ≤ c ∧ c ≤ maxLen ∧ (a = none → c = 0) := by
  obtain ⟨cs, rfl, hsz⟩ := okWide_struct Try.underlying63 hval
  obtain ⟨fuel, hf⟩ := hd
  obtain ⟨zs, n, _, _, hcl, hxl, hg⟩ := DataW.trod_struct Try.underlying63 hf
  have hc5 : Try.prog.cellsOf 63 = 10 := by kernel_rfl
  have k1 : Try.prog.cellsOf 3 = 1 := by kernel_rfl
  have k2 : Try.prog.cellsOf 59 = 1 := by kernel_rfl
  have k3 : Try.prog.cellsOf 61 = 2 := by kernel_rfl
  obtain ⟨x0, h0⟩ := trod_field hxl hg 0 _ rfl
  obtain ⟨x1, h1⟩ := trod_field hxl hg 1 _ rfl
  obtain ⟨x2, h2⟩ := trod_field hxl hg 2 _ rfl
  obtain ⟨x3, h3⟩ := trod_field hxl hg 3 _ rfl
  obtain ⟨x4, h4⟩ := trod_field hxl hg 4 _ rfl
  obtain ⟨x5, h5⟩ := trod_field hxl hg 5 _ rfl
  have g0 : DataW.trod enc Try.prog w base spare held n 59 (((Value.agg cs).cells.toList.drop 0).take (Try.prog.cellsOf 59)) = some x0 := h0
  have g1 : DataW.trod enc Try.prog w base spare held n 3 (((Value.agg cs).cells.toList.drop 1).take (Try.prog.cellsOf 3)) = some x1 := h1
  have g2 : DataW.trod enc Try.prog w base spare held n 61 (((Value.agg cs).cells.toList.drop 2).take (Try.prog.cellsOf 61)) = some x2 := h2
  have g3 : DataW.trod enc Try.prog w base spare held n 61 (((Value.agg cs).cells.toList.drop 4).take (Try.prog.cellsOf 61)) = some x3 := h3
  have g4 : DataW.trod enc Try.prog w base spare held n 61 (((Value.agg cs).cells.toList.drop 6).take (Try.prog.cellsOf 61)) = some x4 := h4
  have g5 : DataW.trod enc Try.prog w base spare held n 61 (((Value.agg cs).cells.toList.drop 8).take (Try.prog.cellsOf 61)) = some x5 := h5
  clear h0 h1 h2 h3 h4 h5
  rw [k2] at g0
  rw [k1] at g1
  rw [k3] at g2 g3 g4 g5
  obtain ⟨a, c, xs, e0, hl0, hm0, row0, _, z0⟩ := open_typed (n := 4) (fun _ h => Cell.of_leaves h) Try.underlying59 (by kernel_rfl) (by kernel_rfl) (by decide) g0
  obtain ⟨q1, e1, _, _⟩ := DataW.trod_int Try.underlying3 g1
  obtain ⟨q2h, q2a, e2⟩ := pair_leaves g2
  obtain ⟨q3h, q3a, e3⟩ := pair_leaves g3
  obtain ⟨q4h, q4a, e4⟩ := pair_leaves g4
  obtain ⟨q5h, q5a, e5⟩ := pair_leaves g5
  refine ⟨a, c, ⟨xs, q1, q2h, q2a, q3h, q3a, q4h, q4a, q5h, q5a⟩, ?_, row0, hl0, hm0, z0⟩
  obtain ⟨l⟩ := cs
  rw [hc5] at hsz
  match l, hsz with
  | [c0, c1, c2, c3, c4, c5, c6, c7, c8, c9], _ =>
    simp [Value.cells] at e0 e1 e2 e3 e4 e5
    simp [plantCells, e0, e1, e2, e3, e4, e5]
end Go.Proofs.Ytemafanncejeiaa
