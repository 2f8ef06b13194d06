/-
  A port that came in, opened: its axes, its pulls, its numbers.
-/
import Derived.Test.YtacbkbilbmkjnaaMastMem
import Derived.Test.YtacbkbilbmkjnaaAgg
import Derived.Test.YtacbkbilbmkjnaaProg
namespace Go.Proofs.Ytacbkbilbmkjnaa
open Go.RowKit Go.ChangeShapes Go.WideShapes Go.ChangeAt Bal Bal.Trim Bal.Mast
set_option linter.unusedVariables false
set_option maxRecDepth 100000
theorem trod_field {H : Type} {enc : TypeId × Value → H} {P : Program} {w : World} {base fuel : Nat} {spare : Nat → Bool} {held : Bool} {fs : Array Field} {cs : List Value} {xs : List (DataW H × List MemPlace)} (hxl : xs.length = fs.size)
    (hg : ∀ (i : Nat) (f : Field), fs[i]? = some f → DataW.trod enc P w base spare held fuel f.type ((cs.drop f.offset).take (P.cellsOf f.type)) = xs[i]?) (i : Nat) (f : Field) (hi : fs[i]? = some f) :
    ∃ x, DataW.trod enc P w base spare held fuel f.type ((cs.drop f.offset).take (P.cellsOf f.type)) = some x := by
  have hlt : i < fs.size := (Array.getElem?_eq_some_iff.1 hi).1
  refine ⟨xs[i]'(by omega), ?_⟩
  rw [hg i f hi]
  exact List.getElem?_eq_getElem (by omega)
theorem open_port {H : Type} {enc : TypeId × Value → H} {w : World} {base : Nat} {spare : Nat → Bool} {held : Bool} {v : Value} {d : DataW H} {ps : List MemPlace} {r : Reach} {b0 : Nat}
    (hval : Value.okWide Try.prog w r b0 45 v) (hd : DataW.Trod enc Try.prog w base spare held 45 v d ps) :
    ∃ (a : Option Addr) (c : Nat) (xs : List Axis) (pe mo : Int) (b : Option Addr) (e : Nat) (ys : List Span) (cr : Int), v = .agg #[.slice a xs.length c, .int .i64 pe, .int .i64 mo, .slice b ys.length e, .int .i64 cr] ∧
      Row Axis.cells 2 w.heap.size w a xs ∧ xs.length ≤ c ∧ c ≤ maxLen ∧ (a = none → c = 0) ∧ Row Span.cells 2 w.heap.size w b ys ∧ ys.length ≤ e ∧ e ≤ maxLen ∧ (b = none → e = 0) := by
  obtain ⟨cs, rfl, hsz⟩ := okWide_struct Try.underlying45 hval
  obtain ⟨fuel, hf⟩ := hd
  obtain ⟨zs, n, _, _, hcl, hxl, hg⟩ := DataW.trod_struct Try.underlying45 hf
  have hc5 : Try.prog.cellsOf 45 = 5 := by kernel_rfl
  have k1 : Try.prog.cellsOf 3 = 1 := by kernel_rfl
  have k2 : Try.prog.cellsOf 42 = 1 := by kernel_rfl
  have k3 : Try.prog.cellsOf 43 = 1 := by kernel_rfl
  obtain ⟨x0, h0⟩ := trod_field hxl hg 0 _ rfl
  obtain ⟨x1, h1⟩ := trod_field hxl hg 1 _ rfl
  obtain ⟨x2, h2⟩ := trod_field hxl hg 2 _ rfl
  obtain ⟨x3, h3⟩ := trod_field hxl hg 3 _ rfl
  obtain ⟨x4, h4⟩ := trod_field hxl hg 4 _ rfl
  have g0 : DataW.trod enc Try.prog w base spare held n 42 (((Value.agg cs).cells.toList.drop 0).take (Try.prog.cellsOf 42)) = some x0 := h0
  have g1 : DataW.trod enc Try.prog w base spare held n 3 (((Value.agg cs).cells.toList.drop 1).take (Try.prog.cellsOf 3)) = some x1 := h1
  have g2 : DataW.trod enc Try.prog w base spare held n 3 (((Value.agg cs).cells.toList.drop 2).take (Try.prog.cellsOf 3)) = some x2 := h2
  have g3 : DataW.trod enc Try.prog w base spare held n 43 (((Value.agg cs).cells.toList.drop 3).take (Try.prog.cellsOf 43)) = some x3 := h3
  have g4 : DataW.trod enc Try.prog w base spare held n 3 (((Value.agg cs).cells.toList.drop 4).take (Try.prog.cellsOf 3)) = some x4 := h4
  clear h0 h1 h2 h3 h4
  rw [k2] at g0
  rw [k1] at g1 g2 g4
  rw [k3] at g3
  obtain ⟨a, c, xs, e0, hl0, hm0, row0, _, z0⟩ := open_typed (n := 4) (fun _ h => Axis.of_leaves h) Try.underlying42 (by kernel_rfl) (by kernel_rfl) (by decide) g0
  obtain ⟨b, e, ys, e3, hl3, hm3, row3, _, z3⟩ := open_typed (n := 4) (fun _ h => Span.of_leaves h) Try.underlying43 (by kernel_rfl) (by kernel_rfl) (by decide) g3
  obtain ⟨q1, e1, _, _⟩ := DataW.trod_int Try.underlying3 g1
  obtain ⟨q2, e2, _, _⟩ := DataW.trod_int Try.underlying3 g2
  obtain ⟨q4, e4, _, _⟩ := DataW.trod_int Try.underlying3 g4
  refine ⟨a, c, xs, q1, q2, b, e, ys, q4, ?_, row0, hl0, hm0, z0, row3, hl3, hm3, z3⟩
  obtain ⟨l⟩ := cs
  rw [hc5] at hsz
  match l, hsz with
  | [c0, c1, c2, c3, c4], _ =>
    simp [Value.cells] at e0 e1 e2 e3 e4
    simp [e0, e1, e2, e3, e4]
end Go.Proofs.Ytacbkbilbmkjnaa
