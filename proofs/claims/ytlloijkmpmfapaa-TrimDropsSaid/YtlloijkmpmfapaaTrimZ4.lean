/-
  Clone of numbers; a set that is shown.
-/
import Derived.Test.YtlloijkmpmfapaaTrimI
import Derived.Test.YtlloijkmpmfapaaTrimC
import Derived.Test.YtlloijkmpmfapaaTrimD
namespace Go.Proofs.Ytlloijkmpmfapaa
open Go.RowKit Bal Bal.Trim
set_option linter.unusedVariables false
set_option linter.unusedSimpArgs false
set_option maxHeartbeats 1600000
set_option maxRecDepth 10000
theorem s_CloneI (a : Option Addr) (cap : Nat) (xs : List Int) (w : World) (hx : Row icell 1 w.heap.size w a xs) (hn : xs.length ≤ 1000) (hz : a = none → cap = 0) :
    Calls Try.prog 94 #[.slice a xs.length cap] w fun e w' => ∃ v, e = .returned v ∧ w'.ownsRow w.heap.size 3 1 v xs.length (xs.flatMap icell) ∧ Kept w w' := by
  cases a with
  | none =>
    have hl : xs = [] := by
      cases xs with
      | nil => rfl
      | cons y ys => obtain ⟨b, off, ha, _⟩ := hx 0 y rfl; cases ha
    subst hl
    have := hz rfl
    subst this
    have hs0 : ∀ w, (binOp .eql 63 (.slice none 0 0) (.slice none 0 0)).run Try.prog w = .ok (.bool true) w := fun w => Lib.run_eql_slice_nil w _ _ _ _ _ _ _ Try.underlying63
    go_enter Try.func94, Try.ntmps94
    go_wp2
    exact bodyPost_ret (v := .slice none 0 0) (by simp [results, Try.results94, go_sem]) rfl ⟨_, rfl, owns_nil (α := Int) (enc := icell), by (repeat (first | with_reducible exact Below.refl _ _ | with_reducible assumption | with_reducible refine Kept.drop ?_ (by with_reducible assumption) | with_reducible refine Kept.alloc ?_ _ | ((with_reducible refine Below.setCell ?_ ?_ _); rotate_left 1; (focus (first | exact Nat.le_refl _ | (simp; done) | (simp; omega) | exact Below.size (by with_reducible assumption) | (refine Kept.size ?_; (repeat (first | with_reducible exact Below.refl _ _ | with_reducible assumption | with_reducible refine Kept.drop ?_ (by with_reducible assumption) | with_reducible refine Kept.alloc ?_ _ | with_reducible refine Below.drew ?_)))))) | with_reducible refine Below.drew ?_))⟩
  | some ad =>
    have HO := Lib.hid (owns_made (α := Int) (enc := icell) (base := w.heap.size) (k := 1) (n := w.heap.size) (e := 3) (w := w) rfl (Nat.le_refl _))
    have hs0 : ∀ w, (binOp .eql 63 (.slice (some ad) xs.length cap) (.slice none 0 0)).run Try.prog w = .ok (.bool false) w := fun w => Lib.run_eql_slice_nil w _ _ _ _ _ _ _ Try.underlying63
    go_enter Try.func94, Try.ntmps94
    go_wp2_with (at_builtin; obtain ⟨i0, hi, hz0, hz1, hz2⟩ := info_parts infoI2; refine wpList_append_list (enc := icell) rfl _ _ 63 rfl w.heap.size 3 i0 (.int .i64 0) 1 8 Try.underlying63 hi hz0 hz1 hz2 rfl (by decide) (fun _ => rfl) (fun x u hu => by simp [icell] at hu; subst hu; rfl) _ [] rfl HO.out (some ad) cap xs rfl (by simp) (B := w.heap.size) (hx.keep (by (repeat (first | with_reducible exact Below.refl _ _ | with_reducible assumption | with_reducible refine Kept.drop ?_ (by with_reducible assumption) | with_reducible refine Kept.alloc ?_ _ | ((with_reducible refine Below.setCell ?_ ?_ _); rotate_left 1; (focus (first | exact Nat.le_refl _ | (simp; done) | (simp; omega) | exact Below.size (by with_reducible assumption) | (refine Kept.size ?_; (repeat (first | with_reducible exact Below.refl _ _ | with_reducible assumption | with_reducible refine Kept.drop ?_ (by with_reducible assumption) | with_reducible refine Kept.alloc ?_ _ | with_reducible refine Below.drew ?_)))))) | with_reducible refine Below.drew ?_))) (Nat.le_refl _)) (by simp [maxLen]; omega) (by simp; omega) (by simp) ?_; intro v' w9 hown' hgrow; clear hi hz0 hz1 hz2)
    have hk : Kept w w9 := Kept.grown (Kept.alloc (Below.refl _ _) _) HO.out (Nat.le_refl _) hgrow
    rw [List.nil_append] at hown'
    obtain ⟨ad', cp, rfl, _⟩ := owns_row (enc := icell) (k := 1) (fun _ => rfl) hown'
    exact bodyPost_ret (v := .slice ad' xs.length cp) (by simp [results, Try.results94, go_sem]) rfl ⟨_, rfl, hown', hk⟩


def ints (x : List Nat) : List Int := x.map (fun i : Nat => (i : Int))
theorem ints_len (x : List Nat) : (ints x).length = x.length := by simp [ints]
theorem mem_ints {x : List Nat} {i : Nat} : (i : Int) ∈ ints x ↔ i ∈ x := by
  simp only [ints, List.mem_map]
  exact ⟨fun ⟨a, h, e⟩ => (show a = i by omega) ▸ h, fun h => ⟨i, h, rfl⟩⟩
theorem row_ints {W : World} {b : Nat} {x : List Nat} (h : Blk W b (ncells x) 3) : Row icell 1 W.heap.size W (some ⟨b, 0, none⟩) (ints x) := by
  intro i y hy
  obtain ⟨hi, rfl⟩ := List.getElem?_eq_some_iff.1 hy
  rw [ints_len] at hi
  refine ⟨b, 0, rfl, h.lt, fun j v hj => ?_⟩
  cases j with
  | zero =>
    simp [icell] at hj
    subst hj
    have := h.cell i
    rw [ncells_at hi] at this
    simpa [ints] using this
  | succ j => simp [icell] at hj
end Go.Proofs.Ytlloijkmpmfapaa
