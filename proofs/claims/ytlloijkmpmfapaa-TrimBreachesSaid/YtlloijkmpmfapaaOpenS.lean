/-
  An argument that is a struct of a number and a slice of plain things, opened. No program in sight.
-/
import Derived.Test.YtlloijkmpmfapaaAgg
namespace Bal
open Go Go.RowKit Go.WideShapes
set_option linter.unusedVariables false
section
variable {H : Type} {enc : TypeId × Value → H} {P : Program} {w : World} {base : Nat} {spare : Nat → Bool} {held : Bool}
theorem open_int_slice {α : Type} {enc' : α → List Value} {wf : α → Prop} {ls : List Leaf} (hdec : ∀ cs, LeavesOk ls cs → ∃ x : α, cs = enc' x ∧ wf x) {t e : TypeId} {f0 f1 : Field} {k : IntKind} {n : Nat} {v : Value} {d : DataW H} {ps : List MemPlace} {r : Reach} {b0 : Nat}
    (ht : P.underlying t = some (.struct #[f0, f1])) (o0 : f0.offset = 0) (c0 : P.cellsOf f0.type = 1) (u0 : P.underlying f0.type = some (.int k)) (o1 : f1.offset = 1) (c1 : P.cellsOf f1.type = 1) (u1 : P.underlying f1.type = some (.slice e)) (ct : P.cellsOf t = 2)
    (hls : leaves P n e = some ls) (hk : P.cellsOf e = ls.length) (hne : 0 < ls.length) (hval : Value.okWide P w r b0 t v) (hd : DataW.Trod enc P w base spare held t v d ps) :
    ∃ (q : Int) (a : Option Addr) (cap : Nat) (ys : List α), v = .agg #[.int k q, .slice a ys.length cap] ∧ (Lit.int k q).wf = true ∧ ys.length ≤ cap ∧ cap ≤ maxLen ∧ Row enc' ls.length w.heap.size w a ys ∧ (∀ y ∈ ys, wf y) ∧ (a = none → cap = 0) := by
  obtain ⟨cs, rfl, _⟩ := okWide_struct ht hval
  obtain ⟨fuel, hf⟩ := hd
  obtain ⟨xs, m, rfl, _, hcl, hxl, hg⟩ := DataW.trod_struct ht hf
  have hl2 : (Value.agg cs).cells.toList.length = 2 := by rw [hcl, ct]
  have hg0 := hg 0 f0 rfl
  have hg1 := hg 1 f1 rfl
  have hxs : xs.length = 2 := hxl
  rw [o0, c0, List.getElem?_eq_getElem (by omega : 0 < xs.length)] at hg0
  rw [o1, c1, List.getElem?_eq_getElem (by omega : 1 < xs.length)] at hg1
  generalize hcs : (Value.agg cs).cells.toList = L at *
  match L, hl2 with
  | [v0, v1], _ =>
    obtain ⟨q, e0, _, hw⟩ := DataW.trod_int u0 hg0
    obtain ⟨a, cap, ys, e1, h1, h2, h3, h4, h5⟩ := open_typed hdec u1 hls hk hne hg1
    simp at e0 e1
    subst e0 e1
    refine ⟨q, a, cap, ys, ?_, hw, h1, h2, h3, h4, h5⟩
    have : cs = #[.int k q, .slice a ys.length cap] := by
      have h6 : cs.toList = [.int k q, .slice a ys.length cap] := by simpa [Value.cells] using hcs
      rw [← h6]
    rw [this]
end
end Bal
