/-
  The cells of a plant at work: a row of seven-cell structs in a block of the call's own, beside the plant's own block. No program in sight.
-/
import Derived.Test.YtemafanncejeiaaGasPlain5
import Derived.Test.YtemafanncejeiaaGasMem
import Derived.Test.YtemafanncejeiaaLater
namespace Bal.Gas
open Go Go.RowKit Bal Bal.Trim

theorem cells_len (c : Cell) : c.cells.length = 7 := rfl
theorem flatMap_set {α : Type} {enc : α → List Value} {k : Nat} (he : ∀ x, (enc x).length = k) : ∀ (xs : List α) (i : Nat) (c c' : α) (j : Nat) (u : Value), xs[i]? = some c → j < k → enc c' = (enc c).set j u →
    (xs.set i c').flatMap enc = (xs.flatMap enc).set (i * k + j) u
  | [], i, c, c', j, u, h, _, _ => by simp at h
  | y :: ys, 0, c, c', j, u, h, hj, hc => by
    simp at h
    subst h
    rw [List.set_cons_zero, List.flatMap_cons, List.flatMap_cons, hc, Nat.zero_mul, Nat.zero_add, List.set_append_left _ _ (by rw [he]; exact hj)]
  | y :: ys, i + 1, c, c', j, u, h, hj, hc => by
    have ih := flatMap_set he ys i c c' j u (by simpa using h) hj hc
    rw [List.set_cons_succ, List.flatMap_cons, List.flatMap_cons, ih, List.set_append_right _ _ (by rw [he, Nat.succ_mul]; omega), he]
    congr 2
    rw [Nat.succ_mul]; omega

/-- a slice of cells that may be written: nil or empty, or at the head of a block from B on -/
def Mine (T : TypeId) (B : Nat) (w : World) (v : Value) (xs : List Cell) : Prop :=
  ∃ ad cp, v = .slice ad xs.length cp ∧ xs.length ≤ cp ∧ cp ≤ maxLen ∧ (ad = none → cp = 0) ∧ (xs = [] ∨ ∃ g cur, ad = some ⟨g, 0, none⟩ ∧ B ≤ g ∧ Blk w g cur T ∧ cur.toList.take (xs.length * 7) = xs.flatMap Cell.cells)
theorem Mine.zero {T : TypeId} {B : Nat} {w : World} : Mine T B w (.slice none 0 0) [] := ⟨none, 0, rfl, Nat.le_refl _, by simp [maxLen], fun _ => rfl, .inl rfl⟩
theorem Mine.of_owns {T : TypeId} {B : Nat} {w : World} {v : Value} {xs : List Cell} (h : w.ownsRow B T 7 v xs.length (xs.flatMap Cell.cells)) : Mine T B w v xs := by
  obtain ⟨_, ⟨rfl, hn⟩ | ⟨g, cap, cur, rfl, hb, hh, hnc, hcm, hsz, ht⟩⟩ := h
  · have : xs = [] := List.length_eq_zero_iff.1 hn
    subst this
    exact Mine.zero
  · exact ⟨_, cap, rfl, hnc, hcm, fun h => by simp at h, .inr ⟨g, cur, rfl, hb, hh, ht⟩⟩
theorem Mine.slice {T : TypeId} {B : Nat} {w : World} {v : Value} {xs : List Cell} (h : Mine T B w v xs) : ∃ ad cp, v = .slice ad xs.length cp ∧ xs.length ≤ cp ∧ cp ≤ maxLen ∧ (ad = none → cp = 0) := by
  obtain ⟨ad, cp, h1, h2, h3, h4, _⟩ := h
  exact ⟨ad, cp, h1, h2, h3, h4⟩
theorem Mine.keep {T : TypeId} {B : Nat} {w w' : World} {v : Value} {xs : List Cell} (h : Mine T B w v xs) (hb : Kept w w') : Mine T B w' v xs := by
  obtain ⟨ad, cp, h1, h2, h3, h4, h5⟩ := h
  refine ⟨ad, cp, h1, h2, h3, h4, ?_⟩
  rcases h5 with h5 | ⟨g, cur, ha, hg, hk, ht⟩
  · exact .inl h5
  · exact .inr ⟨g, cur, ha, hg, hk.keep hb, ht⟩
theorem Mine.alloc {T : TypeId} {B : Nat} {w : World} {v : Value} {xs : List Cell} (h : Mine T B w v xs) (o : Obj) : Mine T B (w.alloc o) v xs := h.keep ((Below.refl _ _).alloc (Nat.le_refl _) o)
theorem Mine.drew {T : TypeId} {B : Nat} {w : World} {v : Value} {xs : List Cell} (h : Mine T B w v xs) : Mine T B w.drew v xs := h.keep (Below.refl _ _).drew
theorem Mine.base {T : TypeId} {B C : Nat} {w : World} {v : Value} {xs : List Cell} (h : Mine T B w v xs) (hb : C ≤ B) : Mine T C w v xs := by
  obtain ⟨ad, cp, h1, h2, h3, h4, h5⟩ := h
  refine ⟨ad, cp, h1, h2, h3, h4, ?_⟩
  rcases h5 with h5 | ⟨g, cur, ha, hg, hk, ht⟩
  · exact .inl h5
  · exact .inr ⟨g, cur, ha, Nat.le_trans hb hg, hk, ht⟩
theorem Mine.row {T : TypeId} {B : Nat} {w : World} {ad : Option Addr} {n cp : Nat} {xs : List Cell} (h : Mine T B w (.slice ad n cp) xs) : n = xs.length ∧ Row Cell.cells 7 w.heap.size w ad xs ∧ xs.length ≤ cp ∧ cp ≤ maxLen ∧ (ad = none → cp = 0) := by
  obtain ⟨ad', cp', h1, h2, h3, h4, h5⟩ := h
  cases h1
  refine ⟨rfl, ?_, h2, h3, h4⟩
  rcases h5 with rfl | ⟨g, cur, rfl, hg, hk, ht⟩
  · exact Row.nil
  · intro i x hx
    refine ⟨g, 0, rfl, hk.lt, fun j v hj => ?_⟩
    have hjk : j < 7 := by have := (List.getElem?_eq_some_iff.1 hj).1; simpa [cells_len] using this
    have h1 := flatMap_get cells_len xs i x hx j hjk
    rw [← ht, List.getElem?_take] at h1
    rw [hk.cell, Nat.zero_add, ← Array.getElem?_toList]
    split at h1
    · rw [h1]; exact hj
    · rw [hj] at h1; cases h1
/-- the i-th cell of a slice that may be written: its block, its numbers -/
theorem Mine.at {T : TypeId} {B : Nat} {w : World} {ad : Option Addr} {n cp : Nat} {xs : List Cell} (h : Mine T B w (.slice ad n cp) xs) {i : Nat} (hi : i < xs.length) :
    ∃ g cur, ad = some ⟨g, 0, none⟩ ∧ B ≤ g ∧ Blk w g cur T ∧ w.cell? ⟨g, i * 7, none⟩ = some (.int .i64 xs[i].room) ∧ w.cell? ⟨g, i * 7 + 1, none⟩ = some (.int .i64 xs[i].helium) ∧ w.cell? ⟨g, i * 7 + 2, none⟩ = some (.int .i64 xs[i].air) ∧
      w.cell? ⟨g, i * 7 + 3, none⟩ = some (.int .i64 xs[i].wlo) ∧ w.cell? ⟨g, i * 7 + 4, none⟩ = some (.int .i64 xs[i].whi) ∧ w.cell? ⟨g, i * 7 + 5, none⟩ = some (.int .i64 xs[i].leak) ∧ w.cell? ⟨g, i * 7 + 6, none⟩ = some (.int .i64 xs[i].owed) := by
  have hr := h.row
  obtain ⟨ad', cp', h1, h2, h3, h4, h5⟩ := h
  cases h1
  rcases h5 with rfl | ⟨g, cur, rfl, hg, hk, ht⟩
  · simp at hi
  · obtain ⟨b, off, ha, _, hc⟩ := Cell.row hr.2.1 i hi
    cases ha
    simp only [Nat.zero_add] at hc
    exact ⟨g, cur, rfl, hg, hk, hc⟩
theorem Mine.put {T : TypeId} {B : Nat} {w : World} {g n cp : Nat} {xs : List Cell} (h : Mine T B w (.slice (some ⟨g, 0, none⟩) n cp) xs) {i j : Nat} {c : Cell} {u : Value} (c' : Cell) (hx : xs[i]? = some c) (hj : j < 7) (hc : c'.cells = c.cells.set j u) :
    Mine T B (w.setCell ⟨g, i * 7 + j, none⟩ u) (.slice (some ⟨g, 0, none⟩) n cp) (xs.set i c') := by
  obtain ⟨ad, cp', h1, h2, h3, h4, h5⟩ := h
  cases h1
  refine ⟨_, cp, by simp, by simpa using h2, h3, h4, ?_⟩
  rcases h5 with rfl | ⟨g', cur, ha, hg, hk, ht⟩
  · simp at hx
  · cases ha
    refine .inr ⟨g, cur.setIfInBounds (i * 7 + j) u, rfl, hg, hk.set _ _, ?_⟩
    rw [flatMap_set cells_len xs i c c' j u hx hj hc, ← ht, List.length_set, Array.toList_setIfInBounds, List.take_set]
theorem Mine.other {T t : TypeId} {B : Nat} {w : World} {v : Value} {xs : List Cell} (h : Mine T B w v xs) {b o : Nat} {arr : Array Value} (hb : Blk w b arr t) (hne : t ≠ T) (u : Value) : Mine T B (w.setCell ⟨b, o, none⟩ u) v xs := by
  obtain ⟨ad, cp, h1, h2, h3, h4, h5⟩ := h
  refine ⟨ad, cp, h1, h2, h3, h4, ?_⟩
  rcases h5 with h5 | ⟨g, cur, ha, hg, hk, ht⟩
  · exact .inl h5
  · refine .inr ⟨g, cur, ha, hg, hk.other ?_ u, ht⟩
    intro he
    simp only at he
    subst he
    unfold Blk at hb hk
    rw [hb] at hk
    simp only [Option.some.injEq, Obj.cells.injEq] at hk
    exact hne hk.2.1
/-- .. beside a block that is not the row's own, told once for all worlds -/
theorem Mine.ne {T t : TypeId} {B : Nat} {w : World} {ad : Option Addr} {n cp : Nat} {xs : List Cell} (h : Mine T B w (.slice ad n cp) xs) {b : Nat} {arr : Array Value} (hb : Blk w b arr t) (hne : t ≠ T) : xs = [] ∨ ∀ g, ad = some ⟨g, 0, none⟩ → g ≠ b := by
  obtain ⟨ad', cp', h1, h2, h3, h4, h5⟩ := h
  cases h1
  rcases h5 with h5 | ⟨g, cur, ha, hg, hk, ht⟩
  · exact .inl h5
  · refine .inr fun g' hg' he => ?_
    rw [ha] at hg'
    simp only [Option.some.injEq, Addr.mk.injEq, and_true] at hg'
    subst hg' he
    unfold Blk at hb hk
    rw [hb] at hk
    simp only [Option.some.injEq, Obj.cells.injEq] at hk
    exact hne hk.2.1
theorem Mine.off {T : TypeId} {B : Nat} {w : World} {ad : Option Addr} {n cp : Nat} {xs : List Cell} (h : Mine T B w (.slice ad n cp) xs) {b o : Nat} (hne : xs = [] ∨ ∀ g, ad = some ⟨g, 0, none⟩ → g ≠ b) (u : Value) : Mine T B (w.setCell ⟨b, o, none⟩ u) (.slice ad n cp) xs := by
  obtain ⟨ad', cp', h1, h2, h3, h4, h5⟩ := h
  cases h1
  refine ⟨ad, cp, rfl, h2, h3, h4, ?_⟩
  rcases h5 with h5 | ⟨g, cur, ha, hg, hk, ht⟩
  · exact .inl h5
  · rcases hne with hne | hne
    · exact .inl hne
    · exact .inr ⟨g, cur, ha, hg, hk.other (by simpa using Ne.symm (hne g ha)) u, ht⟩
/-- blocks of another type than T are as they were -/
def Besides (T : TypeId) (w w' : World) : Prop := ∀ b arr t, t ≠ T → Blk w b arr t → Blk w' b arr t
theorem Besides.refl (T : TypeId) (w : World) : Besides T w w := fun _ _ _ _ h => h
theorem Besides.trans {T : TypeId} {a b c : World} (h : Besides T a b) (k : Besides T b c) : Besides T a c := fun x arr t ht hx => k x arr t ht (h x arr t ht hx)
theorem Besides.keep {T : TypeId} {w w' : World} (h : Kept w w') : Besides T w w' := fun _ _ _ _ hb => hb.keep h
theorem Besides.put {T : TypeId} {w : World} {g o : Nat} {cur : Array Value} (hg : Blk w g cur T) (u : Value) : Besides T w (w.setCell ⟨g, o, none⟩ u) := fun b arr t ht hb => by
  refine hb.other ?_ u
  intro he
  simp only at he
  subst he
  unfold Blk at hb hg
  rw [hb] at hg
  simp only [Option.some.injEq, Obj.cells.injEq] at hg
  exact ht hg.2.1
theorem Besides.past {T : TypeId} {w w' : World} (h : Besides T w w') {b o : Nat} (hb : w.heap.size ≤ b) (u : Value) : Besides T w (w'.setCell ⟨b, o, none⟩ u) := fun x arr t ht hx => by
  refine (h x arr t ht hx).other ?_ u
  have := hx.lt
  simp only
  omega
def plantCells (v : Value) (p : Plant) : Array Value := #[v, .int .i64 p.bottles, .int .i64 p.inH, .int .i64 p.inA, .int .i64 p.vH, .int .i64 p.vA, .int .i64 p.lH, .int .i64 p.lA, .int .i64 p.pH, .int .i64 p.pA]
theorem Besides.blk {T : TypeId} {w w' : World} (h : Besides T w w') {b : Nat} {arr : Array Value} {t : TypeId} (hne : t ≠ T) (hb : Blk w b arr t) : Blk w' b arr t := h b arr t hne hb
/-- a plant at work: its own block, and its cells -/
def Shop (Tc Ts : TypeId) (B : Nat) (w : World) (s : Nat) (ad : Option Addr) (cp : Nat) (p : Plant) : Prop :=
  B ≤ s ∧ Blk w s (plantCells (.slice ad p.cells.length cp) p) Ts ∧ Mine Tc B w (.slice ad p.cells.length cp) p.cells
theorem Shop.keep {Tc Ts : TypeId} {B : Nat} {w w' : World} {s : Nat} {ad : Option Addr} {cp : Nat} {p : Plant} (h : Shop Tc Ts B w s ad cp p) (hk : Kept w w') : Shop Tc Ts B w' s ad cp p := ⟨h.1, h.2.1.keep hk, h.2.2.keep hk⟩
end Bal.Gas
