/-
  Manned lines, in the program and in the reference.
-/
import Derived.Test.YtacbkbilbmkjnaaMastH
import Derived.Scope
import Derived.Test.YtacbkbilbmkjnaaOrder
import Derived.Deep.DeepCutAuto
namespace Go.Proofs.Ytacbkbilbmkjnaa
open Go.RowKit Bal Bal.Trim Bal.Mast
set_option linter.unusedVariables false
set_option linter.unusedSimpArgs false
set_option maxHeartbeats 4000000
set_option maxRecDepth 10000

theorem fm_icell (ls : List Int) : ls.flatMap icell = ls.map fun y => Value.int .i64 y := by
  induction ls with
  | nil => rfl
  | cons y ys ih => simp [icell, List.flatMap_cons] at *; exact ih
theorem own_blk {W : World} {base n cp g : Nat} {e : TypeId} {ls : List Int} (h : W.ownsRow base e 1 (.slice (some ⟨g, 0, none⟩) n cp) ls.length (ls.flatMap icell)) : base ≤ g ∧ ∃ cur, Blk W g cur e := by
  obtain ⟨h1, ⟨hv, _⟩ | ⟨g', cap, cur, hv, hb, hh, hn, hc, hs, ht⟩⟩ := h
  · cases hv
  · cases hv
    exact ⟨hb, cur, hh⟩
theorem own_put {W : World} {base n cp g q : Nat} {e : TypeId} {ls : List Int} (h : W.ownsRow base e 1 (.slice (some ⟨g, 0, none⟩) n cp) ls.length (ls.flatMap icell)) (y : Int) :
    (W.setCell ⟨g, q, none⟩ (.int .i64 y)).ownsRow base e 1 (.slice (some ⟨g, 0, none⟩) n cp) (ls.set q y).length ((ls.set q y).flatMap icell) := by
  obtain ⟨h1, ⟨hv, _⟩ | ⟨g', cap, cur, hv, hb, hh, hn, hc, hs, ht⟩⟩ := h
  · cases hv
  · have hn2 : n = ls.length := by cases hv; rfl
    have hg : g' = g := by cases hv; rfl
    subst hg
    refine ⟨by rw [fm_icell]; simp, .inr ⟨g', cap, cur.setIfInBounds q (.int .i64 y), by rw [hv]; simp, hb, Blk.set (show Blk W g' cur e from hh) q _, by simpa using hn, hc, by simpa using hs, ?_⟩⟩
    rw [fm_icell] at ht ⊢
    simp only [Array.toList_setIfInBounds, List.length_set, List.take_set, ht, List.map_set]
theorem own_at {W : World} {base n cp : Nat} {ad : Option Addr} {e : TypeId} {ls : List Int} (h : W.ownsRow base e 1 (.slice ad n cp) ls.length (ls.flatMap icell)) : n = ls.length ∧ Row icell 1 W.heap.size W ad ls ∧ ls.length ≤ cp ∧ cp ≤ maxLen := by
  obtain ⟨a, c, hv, h1, h2, h3⟩ := owns_row (enc := icell) (k := 1) (fun _ => rfl) h
  cases hv
  exact ⟨rfl, h1, h2, h3⟩
theorem pick_succ {xs : List Span} {ls : List Int} {k : Nat} (hk : k < xs.length) (hk' : k < ls.length) :
    (xs[k].hi = 0 → pick xs ls (k + 1) = pick xs ls k) ∧ (xs[k].hi ≠ 0 → pick xs ls k < 0 → pick xs ls (k + 1) = k) ∧
    (∀ q : Nat, (hq : q < xs.length) → (hq' : q < ls.length) → pick xs ls k = q → xs[k].hi ≠ 0 → pick xs ls (k + 1) = if xs[q].hi * ls[k] < xs[k].hi * ls[q] then (k : Int) else q) := by
  have e1 : xs.getD k default = xs[k] := by simp [hk]
  have e2 : ls.getD k 0 = ls[k] := by simp [hk']
  refine ⟨fun h => ?_, fun h h' => ?_, fun q hq hq' hp h => ?_⟩
  · simp only [pick, e1, h, if_true]
  · simp only [pick, e1, h, if_false, h', true_or, if_true]
  · have e3 : xs.getD q default = xs[q] := by simp [hq]
    have e4 : ls.getD q 0 = ls[q] := by simp [hq']
    have hneg : ¬ ((q : Nat) : Int) < 0 := by omega
    simp only [pick, e1, e2, h, if_false, hp, hneg, false_or, Int.toNat_natCast, e3, e4]

theorem f_Man_bad (a : Option Addr) (cap : Nat) (xs : List Span) (p m : Int) (w : World) (hx : Row Span.cells 2 w.heap.size w a xs) (hc : xs.length ≤ cap) (hM : cap ≤ maxLen) (hn : xs.length ≤ 1000000) (h : manOk xs p m = false) :
    Calls Try.prog 20 #[.slice a xs.length cap, .int .i64 p, .int .i64 m] w fun e w' => e = .returned (.tuple #[.slice none 0 0, .int .i64 2]) ∧ Kept w w' := by
  unfold maxLen at hM
  unfold manOk at h
  cases hl : linesB xs
  · have HL := Lib.hid hl
    clear hl h
    go_enter Try.func20, Try.ntmps20
    go_wp2
    refine wp_scope_straight ?_
    go_wp2_with (first | (go_at_call 58; (with_reducible refine (f_lines _ _ _ _ (hx.later (by (repeat (first | with_reducible exact Below.refl _ _ | with_reducible assumption | with_reducible refine Kept.drop ?_ (by with_reducible assumption) | with_reducible refine Kept.alloc ?_ _ | ((with_reducible refine Below.setCell ?_ ?_ _); rotate_left 1; (focus (first | exact Nat.le_refl _ | (simp; done) | (simp; omega) | exact Below.size (by with_reducible assumption) | (refine Kept.size ?_; (repeat (first | with_reducible exact Below.refl _ _ | with_reducible assumption | with_reducible refine Kept.drop ?_ (by with_reducible assumption) | with_reducible refine Kept.alloc ?_ _ | with_reducible refine Below.drew ?_)))))) | with_reducible refine Below.drew ?_))) (Nat.le_refl _)) hn).mono ?_); rw [HL.out]; rintro e w1 ⟨rfl, hb1⟩) | fail)
    simp only [Exit.noGoto]
    exact bodyPost_ret (v := .tuple #[.slice none 0 0, .int .i64 2]) (by simp [results, Try.results20, go_sem]) rfl ⟨rfl, by (repeat (first | with_reducible exact Below.refl _ _ | with_reducible assumption | with_reducible refine Kept.drop ?_ (by with_reducible assumption) | with_reducible refine Kept.alloc ?_ _ | ((with_reducible refine Below.setCell ?_ ?_ _); rotate_left 1; (focus (first | exact Nat.le_refl _ | (simp; done) | (simp; omega) | exact Below.size (by with_reducible assumption) | (refine Kept.size ?_; (repeat (first | with_reducible exact Below.refl _ _ | with_reducible assumption | with_reducible refine Kept.drop ?_ (by with_reducible assumption) | with_reducible refine Kept.alloc ?_ _ | with_reducible refine Below.drew ?_)))))) | with_reducible refine Below.drew ?_))⟩
  · cases hp : inB p 0 200
    · have HL := Lib.hid hl
      have HP := Lib.hid (show rng [p] 0 200 = false by simpa [rng] using hp)
      clear hl h hp
      go_enter Try.func20, Try.ntmps20
      go_wp2
      refine wp_scope_straight ?_
      go_wp2_with (first | (go_at_call 58; (with_reducible refine (f_lines _ _ _ _ (hx.later (by (repeat (first | with_reducible exact Below.refl _ _ | with_reducible assumption | with_reducible refine Kept.drop ?_ (by with_reducible assumption) | with_reducible refine Kept.alloc ?_ _ | ((with_reducible refine Below.setCell ?_ ?_ _); rotate_left 1; (focus (first | exact Nat.le_refl _ | (simp; done) | (simp; omega) | exact Below.size (by with_reducible assumption) | (refine Kept.size ?_; (repeat (first | with_reducible exact Below.refl _ _ | with_reducible assumption | with_reducible refine Kept.drop ?_ (by with_reducible assumption) | with_reducible refine Kept.alloc ?_ _ | with_reducible refine Below.drew ?_)))))) | with_reducible refine Below.drew ?_))) (Nat.le_refl _)) hn).mono ?_); rw [HL.out]; rintro e w1 ⟨rfl, hb1⟩) | (go_at_call 51; (with_reducible refine (f_ranged_1 _ _ p _ _ _ (by simp)).mono ?_); rw [HP.out]; rintro e w1 ⟨rfl, hb1⟩))
      simp only [Exit.noGoto]
      exact bodyPost_ret (v := .tuple #[.slice none 0 0, .int .i64 2]) (by simp [results, Try.results20, go_sem]) rfl ⟨rfl, by (repeat (first | with_reducible exact Below.refl _ _ | with_reducible assumption | with_reducible refine Kept.drop ?_ (by with_reducible assumption) | with_reducible refine Kept.alloc ?_ _ | ((with_reducible refine Below.setCell ?_ ?_ _); rotate_left 1; (focus (first | exact Nat.le_refl _ | (simp; done) | (simp; omega) | exact Below.size (by with_reducible assumption) | (refine Kept.size ?_; (repeat (first | with_reducible exact Below.refl _ _ | with_reducible assumption | with_reducible refine Kept.drop ?_ (by with_reducible assumption) | with_reducible refine Kept.alloc ?_ _ | with_reducible refine Below.drew ?_)))))) | with_reducible refine Below.drew ?_))⟩
    · cases hm : inB m 1 1000000
      · have HL := Lib.hid hl
        have HP := Lib.hid (show rng [p] 0 200 = true by simpa [rng] using hp)
        have HMM := Lib.hid (show rng [m] 1 1000000 = false by simpa [rng] using hm)
        clear hl h hp hm
        go_enter Try.func20, Try.ntmps20
        go_wp2
        refine wp_scope_straight ?_
        go_wp2_with (first | (go_at_call 58; (with_reducible refine (f_lines _ _ _ _ (hx.later (by (repeat (first | with_reducible exact Below.refl _ _ | with_reducible assumption | with_reducible refine Kept.drop ?_ (by with_reducible assumption) | with_reducible refine Kept.alloc ?_ _ | ((with_reducible refine Below.setCell ?_ ?_ _); rotate_left 1; (focus (first | exact Nat.le_refl _ | (simp; done) | (simp; omega) | exact Below.size (by with_reducible assumption) | (refine Kept.size ?_; (repeat (first | with_reducible exact Below.refl _ _ | with_reducible assumption | with_reducible refine Kept.drop ?_ (by with_reducible assumption) | with_reducible refine Kept.alloc ?_ _ | with_reducible refine Below.drew ?_)))))) | with_reducible refine Below.drew ?_))) (Nat.le_refl _)) hn).mono ?_); rw [HL.out]; rintro e w1 ⟨rfl, hb1⟩) | (go_at_call 51; (with_reducible refine (f_ranged_1 _ _ p _ _ _ (by simp)).mono ?_); rw [HP.out]; rintro e w1 ⟨rfl, hb1⟩) | (go_at_call 51; (with_reducible refine (f_ranged_1 _ _ m _ _ _ (by simp)).mono ?_); rw [HMM.out]; rintro e w1 ⟨rfl, hb1⟩))
        simp only [Exit.noGoto]
        exact bodyPost_ret (v := .tuple #[.slice none 0 0, .int .i64 2]) (by simp [results, Try.results20, go_sem]) rfl ⟨rfl, by (repeat (first | with_reducible exact Below.refl _ _ | with_reducible assumption | with_reducible refine Kept.drop ?_ (by with_reducible assumption) | with_reducible refine Kept.alloc ?_ _ | ((with_reducible refine Below.setCell ?_ ?_ _); rotate_left 1; (focus (first | exact Nat.le_refl _ | (simp; done) | (simp; omega) | exact Below.size (by with_reducible assumption) | (refine Kept.size ?_; (repeat (first | with_reducible exact Below.refl _ _ | with_reducible assumption | with_reducible refine Kept.drop ?_ (by with_reducible assumption) | with_reducible refine Kept.alloc ?_ _ | with_reducible refine Below.drew ?_)))))) | with_reducible refine Below.drew ?_))⟩
      · rw [hl, hp, hm] at h
        cases h

theorem r_Man_bad (a : Option Addr) (cap : Nat) (xs : List Span) (p m : Int) (w : World) (hx : Row Span.cells 2 w.heap.size w a xs) (hc : xs.length ≤ cap) (hM : cap ≤ maxLen) (hn : xs.length ≤ 1000000) (h : manOk xs p m = false) :
    Calls Try.prog 21 #[.slice a xs.length cap, .int .i64 p, .int .i64 m] w fun e w' => e = .returned (.tuple #[.slice none 0 0, .int .i64 2]) ∧ Kept w w' := by
  unfold maxLen at hM
  unfold manOk at h
  cases hl : linesB xs
  · have HL := Lib.hid hl
    clear hl h
    go_enter Try.func21, Try.ntmps21
    go_wp2_with (first | (go_at_call 60; (with_reducible refine (r_pulls _ _ _ _ (hx.later (by (repeat (first | with_reducible exact Below.refl _ _ | with_reducible assumption | with_reducible refine Kept.drop ?_ (by with_reducible assumption) | with_reducible refine Kept.alloc ?_ _ | ((with_reducible refine Below.setCell ?_ ?_ _); rotate_left 1; (focus (first | exact Nat.le_refl _ | (simp; done) | (simp; omega) | exact Below.size (by with_reducible assumption) | (refine Kept.size ?_; (repeat (first | with_reducible exact Below.refl _ _ | with_reducible assumption | with_reducible refine Kept.drop ?_ (by with_reducible assumption) | with_reducible refine Kept.alloc ?_ _ | with_reducible refine Below.drew ?_)))))) | with_reducible refine Below.drew ?_))) (Nat.le_refl _)) hn).mono ?_); rw [HL.out]; rintro e w1 ⟨rfl, hb1⟩) | fail)
    exact bodyPost_ret (v := .tuple #[.slice none 0 0, .int .i64 2]) (by simp [results, Try.results21, go_sem]) rfl ⟨rfl, by (repeat (first | with_reducible exact Below.refl _ _ | with_reducible assumption | with_reducible refine Kept.drop ?_ (by with_reducible assumption) | with_reducible refine Kept.alloc ?_ _ | ((with_reducible refine Below.setCell ?_ ?_ _); rotate_left 1; (focus (first | exact Nat.le_refl _ | (simp; done) | (simp; omega) | exact Below.size (by with_reducible assumption) | (refine Kept.size ?_; (repeat (first | with_reducible exact Below.refl _ _ | with_reducible assumption | with_reducible refine Kept.drop ?_ (by with_reducible assumption) | with_reducible refine Kept.alloc ?_ _ | with_reducible refine Below.drew ?_)))))) | with_reducible refine Below.drew ?_))⟩
  · cases hp : inB p 0 200
    · have HL := Lib.hid hl
      have HP := Lib.hid (show inB p 0 200 = false by exact hp)
      clear hl h hp
      go_enter Try.func21, Try.ntmps21
      go_wp2_with (first | (go_at_call 60; (with_reducible refine (r_pulls _ _ _ _ (hx.later (by (repeat (first | with_reducible exact Below.refl _ _ | with_reducible assumption | with_reducible refine Kept.drop ?_ (by with_reducible assumption) | with_reducible refine Kept.alloc ?_ _ | ((with_reducible refine Below.setCell ?_ ?_ _); rotate_left 1; (focus (first | exact Nat.le_refl _ | (simp; done) | (simp; omega) | exact Below.size (by with_reducible assumption) | (refine Kept.size ?_; (repeat (first | with_reducible exact Below.refl _ _ | with_reducible assumption | with_reducible refine Kept.drop ?_ (by with_reducible assumption) | with_reducible refine Kept.alloc ?_ _ | with_reducible refine Below.drew ?_)))))) | with_reducible refine Below.drew ?_))) (Nat.le_refl _)) hn).mono ?_); rw [HL.out]; rintro e w1 ⟨rfl, hb1⟩) | (go_at_call 53; (with_reducible refine (r_within p _ _ _).mono ?_); rw [HP.out]; rintro e w1 ⟨rfl, rfl⟩))
      exact bodyPost_ret (v := .tuple #[.slice none 0 0, .int .i64 2]) (by simp [results, Try.results21, go_sem]) rfl ⟨rfl, by (repeat (first | with_reducible exact Below.refl _ _ | with_reducible assumption | with_reducible refine Kept.drop ?_ (by with_reducible assumption) | with_reducible refine Kept.alloc ?_ _ | ((with_reducible refine Below.setCell ?_ ?_ _); rotate_left 1; (focus (first | exact Nat.le_refl _ | (simp; done) | (simp; omega) | exact Below.size (by with_reducible assumption) | (refine Kept.size ?_; (repeat (first | with_reducible exact Below.refl _ _ | with_reducible assumption | with_reducible refine Kept.drop ?_ (by with_reducible assumption) | with_reducible refine Kept.alloc ?_ _ | with_reducible refine Below.drew ?_)))))) | with_reducible refine Below.drew ?_))⟩
    · cases hm : inB m 1 1000000
      · have HL := Lib.hid hl
        have HP := Lib.hid (show inB p 0 200 = true by exact hp)
        have HMM := Lib.hid (show inB m 1 1000000 = false by exact hm)
        clear hl h hp hm
        go_enter Try.func21, Try.ntmps21
        go_wp2_with (first | (go_at_call 60; (with_reducible refine (r_pulls _ _ _ _ (hx.later (by (repeat (first | with_reducible exact Below.refl _ _ | with_reducible assumption | with_reducible refine Kept.drop ?_ (by with_reducible assumption) | with_reducible refine Kept.alloc ?_ _ | ((with_reducible refine Below.setCell ?_ ?_ _); rotate_left 1; (focus (first | exact Nat.le_refl _ | (simp; done) | (simp; omega) | exact Below.size (by with_reducible assumption) | (refine Kept.size ?_; (repeat (first | with_reducible exact Below.refl _ _ | with_reducible assumption | with_reducible refine Kept.drop ?_ (by with_reducible assumption) | with_reducible refine Kept.alloc ?_ _ | with_reducible refine Below.drew ?_)))))) | with_reducible refine Below.drew ?_))) (Nat.le_refl _)) hn).mono ?_); rw [HL.out]; rintro e w1 ⟨rfl, hb1⟩) | (go_at_call 53; (with_reducible refine (r_within p _ _ _).mono ?_); rw [HP.out]; rintro e w1 ⟨rfl, rfl⟩) | (go_at_call 53; (with_reducible refine (r_within m _ _ _).mono ?_); rw [HMM.out]; rintro e w1 ⟨rfl, rfl⟩))
        exact bodyPost_ret (v := .tuple #[.slice none 0 0, .int .i64 2]) (by simp [results, Try.results21, go_sem]) rfl ⟨rfl, by (repeat (first | with_reducible exact Below.refl _ _ | with_reducible assumption | with_reducible refine Kept.drop ?_ (by with_reducible assumption) | with_reducible refine Kept.alloc ?_ _ | ((with_reducible refine Below.setCell ?_ ?_ _); rotate_left 1; (focus (first | exact Nat.le_refl _ | (simp; done) | (simp; omega) | exact Below.size (by with_reducible assumption) | (refine Kept.size ?_; (repeat (first | with_reducible exact Below.refl _ _ | with_reducible assumption | with_reducible refine Kept.drop ?_ (by with_reducible assumption) | with_reducible refine Kept.alloc ?_ _ | with_reducible refine Below.drew ?_)))))) | with_reducible refine Below.drew ?_))⟩
      · rw [hl, hp, hm] at h
        cases h

end Go.Proofs.Ytacbkbilbmkjnaa
