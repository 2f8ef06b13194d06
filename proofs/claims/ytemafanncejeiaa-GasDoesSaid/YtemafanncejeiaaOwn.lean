/-
  A slice that the call owns, beside blocks of another type. No program in sight.
-/
import Derived.Test.YtemafanncejeiaaLater
import Derived.Laws.AppendOwn
namespace Bal
open Go Go.RowKit
theorem Blk.grown {w w' : World} {b base k n : Nat} {arr : Array Value} {t e : TypeId} {v : Value} {xs : List Value} (h : Blk w b arr t) (ho : w.ownsRow base e k v n xs) (hne : t ≠ e) (hg : w.grownBy w' v.ownBlock) : Blk w' b arr t := by
  have hl := h.lt
  unfold Blk at *
  rw [hg.block b hl ?_]
  · exact h
  · intro he
    obtain ⟨_, ⟨rfl, _⟩ | ⟨g, cap, cur, rfl, _, hh, _⟩⟩ := ho
    · cases he
    · simp only [Value.ownBlock, Option.some.injEq] at he
      subst he
      rw [h] at hh
      simp only [Option.some.injEq, Obj.cells.injEq] at hh
      exact hne hh.2.1
theorem Kept.grown {w0 w w' : World} {base k n : Nat} {e : TypeId} {v : Value} {xs : List Value} (h : Kept w0 w) (ho : w.ownsRow base e k v n xs) (hb : w0.heap.size ≤ base) (hg : w.grownBy w' v.ownBlock) : Kept w0 w' := by
  refine Below.trans h ⟨hg.os, hg.tape, hg.output, hg.size, fun i hi => hg.block i (Nat.lt_of_lt_of_le hi h.size) fun he => ?_⟩
  obtain ⟨_, ⟨rfl, _⟩ | ⟨g, cap, cur, rfl, hbg, _, _⟩⟩ := ho
  · cases he
  · simp only [Value.ownBlock, Option.some.injEq] at he
    omega
theorem owns_set {w : World} {b base k n i : Nat} {arr : Array Value} {t e : TypeId} {v u : Value} {xs : List Value} (h : Blk w b arr t) (ho : w.ownsRow base e k v n xs) (hne : t ≠ e) : (w.setCell ⟨b, i, none⟩ u).ownsRow base e k v n xs := by
  obtain ⟨h1, h2 | ⟨g, cap, cur, hv, hg, hh, r⟩⟩ := ho
  · exact ⟨h1, .inl h2⟩
  · have hgb : g ≠ b := by
      intro he
      subst he
      unfold Blk at h
      rw [h] at hh
      simp only [Option.some.injEq, Obj.cells.injEq] at hh
      exact hne hh.2.1
    refine ⟨h1, .inr ⟨g, cap, cur, hv, hg, ?_, r⟩⟩
    have := Blk.other (w := w) (b := g) (arr := cur) (t := e) (a := ⟨b, i, none⟩) hh (by simpa using fun h => hgb h.symm) u
    exact this
end Bal
