/-
  TrimChecks: whether loads, limits and frames are valid is the same in the program and in the reference: for every input.
-/
import Derived.Test.YtlloijkmpmfapaaTrimA
namespace Go.Proofs.Ytlloijkmpmfapaa
open Go.RowKit Bal Bal.Trim
set_option linter.unusedVariables false
set_option maxHeartbeats 400000 in
theorem law_TrimChecks (a0 a1 a2 : Option Addr) (c0 c1 c2 : Nat) (ls : List Load) (ms : List Limit) (fs : List Frm) (w : World)
    (h0 : Row Load.cells 4 w.heap.size w a0 ls) (h1 : Row Limit.cells 3 w.heap.size w a1 ms) (h2 : Row Frm.cells 3 w.heap.size w a2 fs)
    (hl0 : ls.length ≤ c0) (hm0 : c0 ≤ maxLen) (hl1 : ms.length ≤ c1) (hm1 : c1 ≤ maxLen) (hl2 : fs.length ≤ c2) (hm2 : c2 ≤ maxLen) :
    Calls Try.prog 3 #[.slice a0 ls.length c0, .slice a1 ms.length c1, .slice a2 fs.length c2] w fun e w' => e = .returned (.bool true) ∧ Kept w w' := by
  cases hg : great ls.length ms.length fs.length 0
  all_goals
    go_enter Try.func3, Try.ntmps3
    go_wp2_with (first | (go_at_call 18; refine (r_great _ _ _ _ _).mono ?_; rintro e w1 ⟨rfl, rfl⟩) | (go_at_call 19; refine (f_CheckLoads _ _ _ _ (h0.later (by (repeat (first | exact Below.refl _ _ | assumption | (refine Kept.drop ?_ (by assumption)) | (refine Kept.alloc ?_ _) | (refine Below.setCell ?_ (by first | exact Nat.le_refl _ | (simp; done) | (simp; omega) | exact Below.size (by assumption)) _) | (refine Below.drew ?_)))) (Nat.le_refl _)) hl0 hm0).mono ?_; rintro e w1 ⟨rfl, hb1⟩) | (go_at_call 20; refine (r_CheckLoads _ _ _ _ (h0.later (by (repeat (first | exact Below.refl _ _ | assumption | (refine Kept.drop ?_ (by assumption)) | (refine Kept.alloc ?_ _) | (refine Below.setCell ?_ (by first | exact Nat.le_refl _ | (simp; done) | (simp; omega) | exact Below.size (by assumption)) _) | (refine Below.drew ?_)))) (Nat.le_refl _)) hl0 hm0).mono ?_; rintro e w1 ⟨rfl, hb1⟩) | (go_at_call 21; refine (f_CheckLimits _ _ _ _ (h1.later (by (repeat (first | exact Below.refl _ _ | assumption | (refine Kept.drop ?_ (by assumption)) | (refine Kept.alloc ?_ _) | (refine Below.setCell ?_ (by first | exact Nat.le_refl _ | (simp; done) | (simp; omega) | exact Below.size (by assumption)) _) | (refine Below.drew ?_)))) (Nat.le_refl _)) hl1 hm1).mono ?_; rintro e w1 ⟨rfl, hb1⟩) | (go_at_call 22; refine (r_CheckLimits _ _ _ _ (h1.later (by (repeat (first | exact Below.refl _ _ | assumption | (refine Kept.drop ?_ (by assumption)) | (refine Kept.alloc ?_ _) | (refine Below.setCell ?_ (by first | exact Nat.le_refl _ | (simp; done) | (simp; omega) | exact Below.size (by assumption)) _) | (refine Below.drew ?_)))) (Nat.le_refl _)) hl1 hm1).mono ?_; rintro e w1 ⟨rfl, hb1⟩) | (go_at_call 23; refine (f_CheckFrames _ _ _ _ (h2.later (by (repeat (first | exact Below.refl _ _ | assumption | (refine Kept.drop ?_ (by assumption)) | (refine Kept.alloc ?_ _) | (refine Below.setCell ?_ (by first | exact Nat.le_refl _ | (simp; done) | (simp; omega) | exact Below.size (by assumption)) _) | (refine Below.drew ?_)))) (Nat.le_refl _)) hl2 hm2).mono ?_; rintro e w1 ⟨rfl, hb1⟩) | (go_at_call 24; refine (r_CheckFrames _ _ _ _ (h2.later (by (repeat (first | exact Below.refl _ _ | assumption | (refine Kept.drop ?_ (by assumption)) | (refine Kept.alloc ?_ _) | (refine Below.setCell ?_ (by first | exact Nat.le_refl _ | (simp; done) | (simp; omega) | exact Below.size (by assumption)) _) | (refine Below.drew ?_)))) (Nat.le_refl _)) hl2 hm2).mono ?_; rintro e w1 ⟨rfl, hb1⟩))
    go_ret
    exact ⟨rfl, by (repeat (first | exact Below.refl _ _ | assumption | (refine Kept.drop ?_ (by assumption)) | (refine Kept.alloc ?_ _) | (refine Below.setCell ?_ (by first | exact Nat.le_refl _ | (simp; done) | (simp; omega) | exact Below.size (by assumption)) _) | (refine Below.drew ?_)))⟩
end Go.Proofs.Ytlloijkmpmfapaa
