/-
  Shear, bending and strained frames, in the reference.
-/
import Derived.Test.YtlloijkmpmfapaaTrimX
import Derived.Test.YtlloijkmpmfapaaTrimV
import Derived.Test.YtlloijkmpmfapaaTrimVB
namespace Go.Proofs.Ytlloijkmpmfapaa
open Go.RowKit Bal Bal.Trim
set_option linter.unusedVariables false
set_option linter.unusedSimpArgs false
set_option maxHeartbeats 2000000

set_option maxRecDepth 10000

theorem r_Shear (n : Int) (a : Option Addr) (cap : Nat) (xs : List Load) (w : World) (hx : Row Load.cells 4 w.heap.size w a xs) (hc : xs.length ≤ cap) (hM : cap ≤ maxLen) :
    Calls Try.prog 36 #[.slice a xs.length cap, .int .i64 n] w fun e w' => e = .returned (.tuple #[.agg #[.int .i64 (ifOk (strainE xs n) (sumBy (sLo n) xs)), .int .i64 (ifOk (strainE xs n) (sumBy (sHi n) xs))], .int .i64 (strainE xs n)]) ∧ Kept w w' := by
  unfold strainE
  by_cases he : checkLoads xs = 0
  · rw [if_pos he]
    obtain ⟨hn, hv⟩ := checkLoads_ok he
    have HE := Lib.hid he
    have HN := Lib.hid hn
    have HV := Lib.hid hv
    clear he hn hv
    cases hp : inB n (-20000) 20000
    · have HP := Lib.hid hp
      clear hp
      simp only [Bool.false_eq_true, if_false]
      have z : ∀ v, ifOk 2 v = 0 := fun v => rfl
      simp only [z]
      go_enter Try.func36, Try.ntmps36
      go_wp2_with (first | (go_at_call 20; (with_reducible refine (r_CheckLoads _ _ _ _ (hx.later (by (repeat (first | with_reducible exact Below.refl _ _ | with_reducible assumption | with_reducible refine Kept.drop ?_ (by with_reducible assumption) | with_reducible refine Kept.alloc ?_ _ | ((with_reducible refine Below.setCell ?_ ?_ _); rotate_left 1; (focus (first | exact Nat.le_refl _ | (simp; done) | (simp; omega) | exact Below.size (by with_reducible assumption) | (refine Kept.size ?_; (repeat (first | with_reducible exact Below.refl _ _ | with_reducible assumption | with_reducible refine Kept.drop ?_ (by with_reducible assumption) | with_reducible refine Kept.alloc ?_ _ | with_reducible refine Below.drew ?_)))))) | with_reducible refine Below.drew ?_))) (Nat.le_refl _)) hc hM).mono ?_); rw [HE.out]; rintro e w1 ⟨rfl, hb1⟩; refine Blk.thru (b := w.heap.size) (arr := ?_) (t := ?_) ?_ hb1 ?_; rotate_left 2; (focus (repeat (first | with_reducible assumption | ((with_reducible refine Blk.new' ?_); first | with_reducible rfl | (simp; done) | (simp [World.drew]; done)) | with_reducible refine Blk.alloc ?_ _ | ((with_reducible refine Blk.set (arr := ?_) ?_ _ _); rotate_left 1) | ((with_reducible refine Blk.other ?_ ?_ _); rotate_left 1; (focus (first | (simp; done) | (simp; omega) | (refine Nat.ne_of_gt (Blk.lt (arr := ?_) (t := ?_) ?_); rotate_left 2; focus (repeat (first | with_reducible assumption | ((with_reducible refine Blk.new' ?_); first | with_reducible rfl | (simp; done) | (simp [World.drew]; done)) | with_reducible refine Blk.alloc ?_ _ | with_reducible refine Blk.keep ?_ (by with_reducible assumption) | with_reducible refine Blk.drew ?_))) | (refine Nat.ne_of_lt (Blk.lt (arr := ?_) (t := ?_) ?_); rotate_left 2; focus (repeat (first | with_reducible assumption | ((with_reducible refine Blk.new' ?_); first | with_reducible rfl | (simp; done) | (simp [World.drew]; done)) | with_reducible refine Blk.alloc ?_ _ | with_reducible refine Blk.keep ?_ (by with_reducible assumption) | with_reducible refine Blk.drew ?_)))))) | with_reducible refine Blk.keep ?_ (by with_reducible assumption) | with_reducible refine Blk.drew ?_))); intro z0; have z0c0 := z0.cell 0; have z0f0 := z0.free 0; have z0c1 := z0.cell 1; have z0f1 := z0.free 1; have z0l := z0.lt; simp at z0c0 z0c1) | (go_at_call 69; (with_reducible refine (r_place _ _).mono ?_); rw [HP.out]; rintro e w2 ⟨rfl, rfl⟩))
      exact bodyPost_ret (v := .tuple #[.agg #[.int .i64 (0), .int .i64 (0)], .int .i64 (2)]) (by simp [results, Try.results36, go_sem, z0c0, z0c1, z0f0, z0f1, z0l]) rfl ⟨rfl, by (repeat (first | with_reducible exact Below.refl _ _ | with_reducible assumption | with_reducible refine Kept.drop ?_ (by with_reducible assumption) | with_reducible refine Kept.alloc ?_ _ | ((with_reducible refine Below.setCell ?_ ?_ _); rotate_left 1; (focus (first | exact Nat.le_refl _ | (simp; done) | (simp; omega) | exact Below.size (by with_reducible assumption) | (refine Kept.size ?_; (repeat (first | with_reducible exact Below.refl _ _ | with_reducible assumption | with_reducible refine Kept.drop ?_ (by with_reducible assumption) | with_reducible refine Kept.alloc ?_ _ | with_reducible refine Below.drew ?_)))))) | with_reducible refine Below.drew ?_))⟩
    · have HNN := Lib.hid (inB_iff'.1 hp)
      have HP := Lib.hid hp
      clear hp
      simp only [if_true]
      have z : ∀ v, ifOk 0 v = v := fun v => rfl
      simp only [z]
      go_enter Try.func36, Try.ntmps36
      go_wp2_with (first | (go_at_call 20; (with_reducible refine (r_CheckLoads _ _ _ _ (hx.later (by (repeat (first | with_reducible exact Below.refl _ _ | with_reducible assumption | with_reducible refine Kept.drop ?_ (by with_reducible assumption) | with_reducible refine Kept.alloc ?_ _ | ((with_reducible refine Below.setCell ?_ ?_ _); rotate_left 1; (focus (first | exact Nat.le_refl _ | (simp; done) | (simp; omega) | exact Below.size (by with_reducible assumption) | (refine Kept.size ?_; (repeat (first | with_reducible exact Below.refl _ _ | with_reducible assumption | with_reducible refine Kept.drop ?_ (by with_reducible assumption) | with_reducible refine Kept.alloc ?_ _ | with_reducible refine Below.drew ?_)))))) | with_reducible refine Below.drew ?_))) (Nat.le_refl _)) hc hM).mono ?_); rw [HE.out]; rintro e w1 ⟨rfl, hb1⟩; refine Blk.thru (b := w.heap.size) (arr := ?_) (t := ?_) ?_ hb1 ?_; rotate_left 2; (focus (repeat (first | with_reducible assumption | ((with_reducible refine Blk.new' ?_); first | with_reducible rfl | (simp; done) | (simp [World.drew]; done)) | with_reducible refine Blk.alloc ?_ _ | ((with_reducible refine Blk.set (arr := ?_) ?_ _ _); rotate_left 1) | ((with_reducible refine Blk.other ?_ ?_ _); rotate_left 1; (focus (first | (simp; done) | (simp; omega) | (refine Nat.ne_of_gt (Blk.lt (arr := ?_) (t := ?_) ?_); rotate_left 2; focus (repeat (first | with_reducible assumption | ((with_reducible refine Blk.new' ?_); first | with_reducible rfl | (simp; done) | (simp [World.drew]; done)) | with_reducible refine Blk.alloc ?_ _ | with_reducible refine Blk.keep ?_ (by with_reducible assumption) | with_reducible refine Blk.drew ?_))) | (refine Nat.ne_of_lt (Blk.lt (arr := ?_) (t := ?_) ?_); rotate_left 2; focus (repeat (first | with_reducible assumption | ((with_reducible refine Blk.new' ?_); first | with_reducible rfl | (simp; done) | (simp [World.drew]; done)) | with_reducible refine Blk.alloc ?_ _ | with_reducible refine Blk.keep ?_ (by with_reducible assumption) | with_reducible refine Blk.drew ?_)))))) | with_reducible refine Blk.keep ?_ (by with_reducible assumption) | with_reducible refine Blk.drew ?_))); intro z0; have z0c0 := z0.cell 0; have z0f0 := z0.free 0; have z0c1 := z0.cell 1; have z0f1 := z0.free 1; have z0l := z0.lt; simp at z0c0 z0c1) | (go_at_call 69; (with_reducible refine (r_place _ _).mono ?_); rw [HP.out]; rintro e w2 ⟨rfl, rfl⟩) | (go_at_call 87; (with_reducible refine (r_shear n _ _ xs _ (hx.later (by (repeat (first | with_reducible exact Below.refl _ _ | with_reducible assumption | with_reducible refine Kept.drop ?_ (by with_reducible assumption) | with_reducible refine Kept.alloc ?_ _ | ((with_reducible refine Below.setCell ?_ ?_ _); rotate_left 1; (focus (first | exact Nat.le_refl _ | (simp; done) | (simp; omega) | exact Below.size (by with_reducible assumption) | (refine Kept.size ?_; (repeat (first | with_reducible exact Below.refl _ _ | with_reducible assumption | with_reducible refine Kept.drop ?_ (by with_reducible assumption) | with_reducible refine Kept.alloc ?_ _ | with_reducible refine Below.drew ?_)))))) | with_reducible refine Below.drew ?_))) (Nat.le_refl _)) hc hM HN.out HV.out HNN.out).mono ?_); rintro e w3 ⟨rfl, hb3⟩; refine Blk.thru (b := w.heap.size) (arr := ?_) (t := ?_) ?_ hb3 ?_; rotate_left 2; (focus (repeat (first | with_reducible assumption | ((with_reducible refine Blk.new' ?_); first | with_reducible rfl | (simp; done) | (simp [World.drew]; done)) | with_reducible refine Blk.alloc ?_ _ | ((with_reducible refine Blk.set (arr := ?_) ?_ _ _); rotate_left 1) | ((with_reducible refine Blk.other ?_ ?_ _); rotate_left 1; (focus (first | (simp; done) | (simp; omega) | (refine Nat.ne_of_gt (Blk.lt (arr := ?_) (t := ?_) ?_); rotate_left 2; focus (repeat (first | with_reducible assumption | ((with_reducible refine Blk.new' ?_); first | with_reducible rfl | (simp; done) | (simp [World.drew]; done)) | with_reducible refine Blk.alloc ?_ _ | with_reducible refine Blk.keep ?_ (by with_reducible assumption) | with_reducible refine Blk.drew ?_))) | (refine Nat.ne_of_lt (Blk.lt (arr := ?_) (t := ?_) ?_); rotate_left 2; focus (repeat (first | with_reducible assumption | ((with_reducible refine Blk.new' ?_); first | with_reducible rfl | (simp; done) | (simp [World.drew]; done)) | with_reducible refine Blk.alloc ?_ _ | with_reducible refine Blk.keep ?_ (by with_reducible assumption) | with_reducible refine Blk.drew ?_)))))) | with_reducible refine Blk.keep ?_ (by with_reducible assumption) | with_reducible refine Blk.drew ?_))); intro z0; have z0c0 := z0.cell 0; have z0f0 := z0.free 0; have z0c1 := z0.cell 1; have z0f1 := z0.free 1; have z0l := z0.lt; simp at z0c0 z0c1))
      exact bodyPost_ret (v := .tuple #[.agg #[.int .i64 (sumBy (sLo n) xs), .int .i64 (sumBy (sHi n) xs)], .int .i64 (0)]) (by simp [results, Try.results36, go_sem, z0c0, z0c1, z0f0, z0f1, z0l]) rfl ⟨rfl, by (repeat (first | with_reducible exact Below.refl _ _ | with_reducible assumption | with_reducible refine Kept.drop ?_ (by with_reducible assumption) | with_reducible refine Kept.alloc ?_ _ | ((with_reducible refine Below.setCell ?_ ?_ _); rotate_left 1; (focus (first | exact Nat.le_refl _ | (simp; done) | (simp; omega) | exact Below.size (by with_reducible assumption) | (refine Kept.size ?_; (repeat (first | with_reducible exact Below.refl _ _ | with_reducible assumption | with_reducible refine Kept.drop ?_ (by with_reducible assumption) | with_reducible refine Kept.alloc ?_ _ | with_reducible refine Below.drew ?_)))))) | with_reducible refine Below.drew ?_))⟩
  · have z : ∀ v, ifOk (checkLoads xs) v = 0 := fun v => if_neg he
    rw [if_neg he]
    simp only [z]
    have hb : (checkLoads xs != 0) = true := by simp [he]
    obtain ⟨E, hEE⟩ : ∃ E, E = checkLoads xs := ⟨_, rfl⟩
    have HE := Lib.hid hEE.symm
    rw [← hEE] at he hb ⊢
    clear hEE z
    go_enter Try.func36, Try.ntmps36
    go_wp2_with (go_at_call 20; (with_reducible refine (r_CheckLoads _ _ _ _ (hx.later (by (repeat (first | with_reducible exact Below.refl _ _ | with_reducible assumption | with_reducible refine Kept.drop ?_ (by with_reducible assumption) | with_reducible refine Kept.alloc ?_ _ | ((with_reducible refine Below.setCell ?_ ?_ _); rotate_left 1; (focus (first | exact Nat.le_refl _ | (simp; done) | (simp; omega) | exact Below.size (by with_reducible assumption) | (refine Kept.size ?_; (repeat (first | with_reducible exact Below.refl _ _ | with_reducible assumption | with_reducible refine Kept.drop ?_ (by with_reducible assumption) | with_reducible refine Kept.alloc ?_ _ | with_reducible refine Below.drew ?_)))))) | with_reducible refine Below.drew ?_))) (Nat.le_refl _)) hc hM).mono ?_); rw [HE.out]; rintro e w1 ⟨rfl, hb1⟩; refine Blk.thru (b := w.heap.size) (arr := ?_) (t := ?_) ?_ hb1 ?_; rotate_left 2; (focus (repeat (first | with_reducible assumption | ((with_reducible refine Blk.new' ?_); first | with_reducible rfl | (simp; done) | (simp [World.drew]; done)) | with_reducible refine Blk.alloc ?_ _ | ((with_reducible refine Blk.set (arr := ?_) ?_ _ _); rotate_left 1) | ((with_reducible refine Blk.other ?_ ?_ _); rotate_left 1; (focus (first | (simp; done) | (simp; omega) | (refine Nat.ne_of_gt (Blk.lt (arr := ?_) (t := ?_) ?_); rotate_left 2; focus (repeat (first | with_reducible assumption | ((with_reducible refine Blk.new' ?_); first | with_reducible rfl | (simp; done) | (simp [World.drew]; done)) | with_reducible refine Blk.alloc ?_ _ | with_reducible refine Blk.keep ?_ (by with_reducible assumption) | with_reducible refine Blk.drew ?_))) | (refine Nat.ne_of_lt (Blk.lt (arr := ?_) (t := ?_) ?_); rotate_left 2; focus (repeat (first | with_reducible assumption | ((with_reducible refine Blk.new' ?_); first | with_reducible rfl | (simp; done) | (simp [World.drew]; done)) | with_reducible refine Blk.alloc ?_ _ | with_reducible refine Blk.keep ?_ (by with_reducible assumption) | with_reducible refine Blk.drew ?_)))))) | with_reducible refine Blk.keep ?_ (by with_reducible assumption) | with_reducible refine Blk.drew ?_))); intro z0; have z0c0 := z0.cell 0; have z0f0 := z0.free 0; have z0c1 := z0.cell 1; have z0f1 := z0.free 1; have z0l := z0.lt; simp at z0c0 z0c1)
    exact bodyPost_ret (v := .tuple #[.agg #[.int .i64 (0), .int .i64 (0)], .int .i64 (E)]) (by simp [results, Try.results36, go_sem, z0c0, z0c1, z0f0, z0f1, z0l]) rfl ⟨rfl, by (repeat (first | with_reducible exact Below.refl _ _ | with_reducible assumption | with_reducible refine Kept.drop ?_ (by with_reducible assumption) | with_reducible refine Kept.alloc ?_ _ | ((with_reducible refine Below.setCell ?_ ?_ _); rotate_left 1; (focus (first | exact Nat.le_refl _ | (simp; done) | (simp; omega) | exact Below.size (by with_reducible assumption) | (refine Kept.size ?_; (repeat (first | with_reducible exact Below.refl _ _ | with_reducible assumption | with_reducible refine Kept.drop ?_ (by with_reducible assumption) | with_reducible refine Kept.alloc ?_ _ | with_reducible refine Below.drew ?_)))))) | with_reducible refine Below.drew ?_))⟩

theorem r_Bend (n : Int) (a : Option Addr) (cap : Nat) (xs : List Load) (w : World) (hx : Row Load.cells 4 w.heap.size w a xs) (hc : xs.length ≤ cap) (hM : cap ≤ maxLen) :
    Calls Try.prog 38 #[.slice a xs.length cap, .int .i64 n] w fun e w' => e = .returned (.tuple #[.agg #[.int .i64 (ifOk (strainE xs n) (sumBy (bLo n) xs)), .int .i64 (ifOk (strainE xs n) (sumBy (bHi n) xs))], .int .i64 (strainE xs n)]) ∧ Kept w w' := by
  unfold strainE
  by_cases he : checkLoads xs = 0
  · rw [if_pos he]
    obtain ⟨hn, hv⟩ := checkLoads_ok he
    have HE := Lib.hid he
    have HN := Lib.hid hn
    have HV := Lib.hid hv
    clear he hn hv
    cases hp : inB n (-20000) 20000
    · have HP := Lib.hid hp
      clear hp
      simp only [Bool.false_eq_true, if_false]
      have z : ∀ v, ifOk 2 v = 0 := fun v => rfl
      simp only [z]
      go_enter Try.func38, Try.ntmps38
      go_wp2_with (first | (go_at_call 20; (with_reducible refine (r_CheckLoads _ _ _ _ (hx.later (by (repeat (first | with_reducible exact Below.refl _ _ | with_reducible assumption | with_reducible refine Kept.drop ?_ (by with_reducible assumption) | with_reducible refine Kept.alloc ?_ _ | ((with_reducible refine Below.setCell ?_ ?_ _); rotate_left 1; (focus (first | exact Nat.le_refl _ | (simp; done) | (simp; omega) | exact Below.size (by with_reducible assumption) | (refine Kept.size ?_; (repeat (first | with_reducible exact Below.refl _ _ | with_reducible assumption | with_reducible refine Kept.drop ?_ (by with_reducible assumption) | with_reducible refine Kept.alloc ?_ _ | with_reducible refine Below.drew ?_)))))) | with_reducible refine Below.drew ?_))) (Nat.le_refl _)) hc hM).mono ?_); rw [HE.out]; rintro e w1 ⟨rfl, hb1⟩; refine Blk.thru (b := w.heap.size) (arr := ?_) (t := ?_) ?_ hb1 ?_; rotate_left 2; (focus (repeat (first | with_reducible assumption | ((with_reducible refine Blk.new' ?_); first | with_reducible rfl | (simp; done) | (simp [World.drew]; done)) | with_reducible refine Blk.alloc ?_ _ | ((with_reducible refine Blk.set (arr := ?_) ?_ _ _); rotate_left 1) | ((with_reducible refine Blk.other ?_ ?_ _); rotate_left 1; (focus (first | (simp; done) | (simp; omega) | (refine Nat.ne_of_gt (Blk.lt (arr := ?_) (t := ?_) ?_); rotate_left 2; focus (repeat (first | with_reducible assumption | ((with_reducible refine Blk.new' ?_); first | with_reducible rfl | (simp; done) | (simp [World.drew]; done)) | with_reducible refine Blk.alloc ?_ _ | with_reducible refine Blk.keep ?_ (by with_reducible assumption) | with_reducible refine Blk.drew ?_))) | (refine Nat.ne_of_lt (Blk.lt (arr := ?_) (t := ?_) ?_); rotate_left 2; focus (repeat (first | with_reducible assumption | ((with_reducible refine Blk.new' ?_); first | with_reducible rfl | (simp; done) | (simp [World.drew]; done)) | with_reducible refine Blk.alloc ?_ _ | with_reducible refine Blk.keep ?_ (by with_reducible assumption) | with_reducible refine Blk.drew ?_)))))) | with_reducible refine Blk.keep ?_ (by with_reducible assumption) | with_reducible refine Blk.drew ?_))); intro z0; have z0c0 := z0.cell 0; have z0f0 := z0.free 0; have z0c1 := z0.cell 1; have z0f1 := z0.free 1; have z0l := z0.lt; simp at z0c0 z0c1) | (go_at_call 69; (with_reducible refine (r_place _ _).mono ?_); rw [HP.out]; rintro e w2 ⟨rfl, rfl⟩))
      exact bodyPost_ret (v := .tuple #[.agg #[.int .i64 (0), .int .i64 (0)], .int .i64 (2)]) (by simp [results, Try.results38, go_sem, z0c0, z0c1, z0f0, z0f1, z0l]) rfl ⟨rfl, by (repeat (first | with_reducible exact Below.refl _ _ | with_reducible assumption | with_reducible refine Kept.drop ?_ (by with_reducible assumption) | with_reducible refine Kept.alloc ?_ _ | ((with_reducible refine Below.setCell ?_ ?_ _); rotate_left 1; (focus (first | exact Nat.le_refl _ | (simp; done) | (simp; omega) | exact Below.size (by with_reducible assumption) | (refine Kept.size ?_; (repeat (first | with_reducible exact Below.refl _ _ | with_reducible assumption | with_reducible refine Kept.drop ?_ (by with_reducible assumption) | with_reducible refine Kept.alloc ?_ _ | with_reducible refine Below.drew ?_)))))) | with_reducible refine Below.drew ?_))⟩
    · have HNN := Lib.hid (inB_iff'.1 hp)
      have HP := Lib.hid hp
      clear hp
      simp only [if_true]
      have z : ∀ v, ifOk 0 v = v := fun v => rfl
      simp only [z]
      go_enter Try.func38, Try.ntmps38
      go_wp2_with (first | (go_at_call 20; (with_reducible refine (r_CheckLoads _ _ _ _ (hx.later (by (repeat (first | with_reducible exact Below.refl _ _ | with_reducible assumption | with_reducible refine Kept.drop ?_ (by with_reducible assumption) | with_reducible refine Kept.alloc ?_ _ | ((with_reducible refine Below.setCell ?_ ?_ _); rotate_left 1; (focus (first | exact Nat.le_refl _ | (simp; done) | (simp; omega) | exact Below.size (by with_reducible assumption) | (refine Kept.size ?_; (repeat (first | with_reducible exact Below.refl _ _ | with_reducible assumption | with_reducible refine Kept.drop ?_ (by with_reducible assumption) | with_reducible refine Kept.alloc ?_ _ | with_reducible refine Below.drew ?_)))))) | with_reducible refine Below.drew ?_))) (Nat.le_refl _)) hc hM).mono ?_); rw [HE.out]; rintro e w1 ⟨rfl, hb1⟩; refine Blk.thru (b := w.heap.size) (arr := ?_) (t := ?_) ?_ hb1 ?_; rotate_left 2; (focus (repeat (first | with_reducible assumption | ((with_reducible refine Blk.new' ?_); first | with_reducible rfl | (simp; done) | (simp [World.drew]; done)) | with_reducible refine Blk.alloc ?_ _ | ((with_reducible refine Blk.set (arr := ?_) ?_ _ _); rotate_left 1) | ((with_reducible refine Blk.other ?_ ?_ _); rotate_left 1; (focus (first | (simp; done) | (simp; omega) | (refine Nat.ne_of_gt (Blk.lt (arr := ?_) (t := ?_) ?_); rotate_left 2; focus (repeat (first | with_reducible assumption | ((with_reducible refine Blk.new' ?_); first | with_reducible rfl | (simp; done) | (simp [World.drew]; done)) | with_reducible refine Blk.alloc ?_ _ | with_reducible refine Blk.keep ?_ (by with_reducible assumption) | with_reducible refine Blk.drew ?_))) | (refine Nat.ne_of_lt (Blk.lt (arr := ?_) (t := ?_) ?_); rotate_left 2; focus (repeat (first | with_reducible assumption | ((with_reducible refine Blk.new' ?_); first | with_reducible rfl | (simp; done) | (simp [World.drew]; done)) | with_reducible refine Blk.alloc ?_ _ | with_reducible refine Blk.keep ?_ (by with_reducible assumption) | with_reducible refine Blk.drew ?_)))))) | with_reducible refine Blk.keep ?_ (by with_reducible assumption) | with_reducible refine Blk.drew ?_))); intro z0; have z0c0 := z0.cell 0; have z0f0 := z0.free 0; have z0c1 := z0.cell 1; have z0f1 := z0.free 1; have z0l := z0.lt; simp at z0c0 z0c1) | (go_at_call 69; (with_reducible refine (r_place _ _).mono ?_); rw [HP.out]; rintro e w2 ⟨rfl, rfl⟩) | (go_at_call 89; (with_reducible refine (r_bend n _ _ xs _ (hx.later (by (repeat (first | with_reducible exact Below.refl _ _ | with_reducible assumption | with_reducible refine Kept.drop ?_ (by with_reducible assumption) | with_reducible refine Kept.alloc ?_ _ | ((with_reducible refine Below.setCell ?_ ?_ _); rotate_left 1; (focus (first | exact Nat.le_refl _ | (simp; done) | (simp; omega) | exact Below.size (by with_reducible assumption) | (refine Kept.size ?_; (repeat (first | with_reducible exact Below.refl _ _ | with_reducible assumption | with_reducible refine Kept.drop ?_ (by with_reducible assumption) | with_reducible refine Kept.alloc ?_ _ | with_reducible refine Below.drew ?_)))))) | with_reducible refine Below.drew ?_))) (Nat.le_refl _)) hc hM HN.out HV.out HNN.out).mono ?_); rintro e w3 ⟨rfl, hb3⟩; refine Blk.thru (b := w.heap.size) (arr := ?_) (t := ?_) ?_ hb3 ?_; rotate_left 2; (focus (repeat (first | with_reducible assumption | ((with_reducible refine Blk.new' ?_); first | with_reducible rfl | (simp; done) | (simp [World.drew]; done)) | with_reducible refine Blk.alloc ?_ _ | ((with_reducible refine Blk.set (arr := ?_) ?_ _ _); rotate_left 1) | ((with_reducible refine Blk.other ?_ ?_ _); rotate_left 1; (focus (first | (simp; done) | (simp; omega) | (refine Nat.ne_of_gt (Blk.lt (arr := ?_) (t := ?_) ?_); rotate_left 2; focus (repeat (first | with_reducible assumption | ((with_reducible refine Blk.new' ?_); first | with_reducible rfl | (simp; done) | (simp [World.drew]; done)) | with_reducible refine Blk.alloc ?_ _ | with_reducible refine Blk.keep ?_ (by with_reducible assumption) | with_reducible refine Blk.drew ?_))) | (refine Nat.ne_of_lt (Blk.lt (arr := ?_) (t := ?_) ?_); rotate_left 2; focus (repeat (first | with_reducible assumption | ((with_reducible refine Blk.new' ?_); first | with_reducible rfl | (simp; done) | (simp [World.drew]; done)) | with_reducible refine Blk.alloc ?_ _ | with_reducible refine Blk.keep ?_ (by with_reducible assumption) | with_reducible refine Blk.drew ?_)))))) | with_reducible refine Blk.keep ?_ (by with_reducible assumption) | with_reducible refine Blk.drew ?_))); intro z0; have z0c0 := z0.cell 0; have z0f0 := z0.free 0; have z0c1 := z0.cell 1; have z0f1 := z0.free 1; have z0l := z0.lt; simp at z0c0 z0c1))
      exact bodyPost_ret (v := .tuple #[.agg #[.int .i64 (sumBy (bLo n) xs), .int .i64 (sumBy (bHi n) xs)], .int .i64 (0)]) (by simp [results, Try.results38, go_sem, z0c0, z0c1, z0f0, z0f1, z0l]) rfl ⟨rfl, by (repeat (first | with_reducible exact Below.refl _ _ | with_reducible assumption | with_reducible refine Kept.drop ?_ (by with_reducible assumption) | with_reducible refine Kept.alloc ?_ _ | ((with_reducible refine Below.setCell ?_ ?_ _); rotate_left 1; (focus (first | exact Nat.le_refl _ | (simp; done) | (simp; omega) | exact Below.size (by with_reducible assumption) | (refine Kept.size ?_; (repeat (first | with_reducible exact Below.refl _ _ | with_reducible assumption | with_reducible refine Kept.drop ?_ (by with_reducible assumption) | with_reducible refine Kept.alloc ?_ _ | with_reducible refine Below.drew ?_)))))) | with_reducible refine Below.drew ?_))⟩
  · have z : ∀ v, ifOk (checkLoads xs) v = 0 := fun v => if_neg he
    rw [if_neg he]
    simp only [z]
    have hb : (checkLoads xs != 0) = true := by simp [he]
    obtain ⟨E, hEE⟩ : ∃ E, E = checkLoads xs := ⟨_, rfl⟩
    have HE := Lib.hid hEE.symm
    rw [← hEE] at he hb ⊢
    clear hEE z
    go_enter Try.func38, Try.ntmps38
    go_wp2_with (go_at_call 20; (with_reducible refine (r_CheckLoads _ _ _ _ (hx.later (by (repeat (first | with_reducible exact Below.refl _ _ | with_reducible assumption | with_reducible refine Kept.drop ?_ (by with_reducible assumption) | with_reducible refine Kept.alloc ?_ _ | ((with_reducible refine Below.setCell ?_ ?_ _); rotate_left 1; (focus (first | exact Nat.le_refl _ | (simp; done) | (simp; omega) | exact Below.size (by with_reducible assumption) | (refine Kept.size ?_; (repeat (first | with_reducible exact Below.refl _ _ | with_reducible assumption | with_reducible refine Kept.drop ?_ (by with_reducible assumption) | with_reducible refine Kept.alloc ?_ _ | with_reducible refine Below.drew ?_)))))) | with_reducible refine Below.drew ?_))) (Nat.le_refl _)) hc hM).mono ?_); rw [HE.out]; rintro e w1 ⟨rfl, hb1⟩; refine Blk.thru (b := w.heap.size) (arr := ?_) (t := ?_) ?_ hb1 ?_; rotate_left 2; (focus (repeat (first | with_reducible assumption | ((with_reducible refine Blk.new' ?_); first | with_reducible rfl | (simp; done) | (simp [World.drew]; done)) | with_reducible refine Blk.alloc ?_ _ | ((with_reducible refine Blk.set (arr := ?_) ?_ _ _); rotate_left 1) | ((with_reducible refine Blk.other ?_ ?_ _); rotate_left 1; (focus (first | (simp; done) | (simp; omega) | (refine Nat.ne_of_gt (Blk.lt (arr := ?_) (t := ?_) ?_); rotate_left 2; focus (repeat (first | with_reducible assumption | ((with_reducible refine Blk.new' ?_); first | with_reducible rfl | (simp; done) | (simp [World.drew]; done)) | with_reducible refine Blk.alloc ?_ _ | with_reducible refine Blk.keep ?_ (by with_reducible assumption) | with_reducible refine Blk.drew ?_))) | (refine Nat.ne_of_lt (Blk.lt (arr := ?_) (t := ?_) ?_); rotate_left 2; focus (repeat (first | with_reducible assumption | ((with_reducible refine Blk.new' ?_); first | with_reducible rfl | (simp; done) | (simp [World.drew]; done)) | with_reducible refine Blk.alloc ?_ _ | with_reducible refine Blk.keep ?_ (by with_reducible assumption) | with_reducible refine Blk.drew ?_)))))) | with_reducible refine Blk.keep ?_ (by with_reducible assumption) | with_reducible refine Blk.drew ?_))); intro z0; have z0c0 := z0.cell 0; have z0f0 := z0.free 0; have z0c1 := z0.cell 1; have z0f1 := z0.free 1; have z0l := z0.lt; simp at z0c0 z0c1)
    exact bodyPost_ret (v := .tuple #[.agg #[.int .i64 (0), .int .i64 (0)], .int .i64 (E)]) (by simp [results, Try.results38, go_sem, z0c0, z0c1, z0f0, z0f1, z0l]) rfl ⟨rfl, by (repeat (first | with_reducible exact Below.refl _ _ | with_reducible assumption | with_reducible refine Kept.drop ?_ (by with_reducible assumption) | with_reducible refine Kept.alloc ?_ _ | ((with_reducible refine Below.setCell ?_ ?_ _); rotate_left 1; (focus (first | exact Nat.le_refl _ | (simp; done) | (simp; omega) | exact Below.size (by with_reducible assumption) | (refine Kept.size ?_; (repeat (first | with_reducible exact Below.refl _ _ | with_reducible assumption | with_reducible refine Kept.drop ?_ (by with_reducible assumption) | with_reducible refine Kept.alloc ?_ _ | with_reducible refine Below.drew ?_)))))) | with_reducible refine Below.drew ?_))⟩

theorem strain_iff (xs : List Load) (f : Frm) : (f.shear < sumBy (sHi f.pos) xs ∨ sumBy (sLo f.pos) xs < -f.shear ∨ f.bend < sumBy (bHi f.pos) xs ∨ sumBy (bLo f.pos) xs < -f.bend → strain xs f = true) ∧
    (¬ f.shear < sumBy (sHi f.pos) xs ∧ ¬ sumBy (sLo f.pos) xs < -f.shear ∧ ¬ f.bend < sumBy (bHi f.pos) xs ∧ ¬ sumBy (bLo f.pos) xs < -f.bend → strain xs f = false) := by
  have h1 := sumBy_le (sLo f.pos) (sHi f.pos) xs (fun x => t_le _ _ _ _)
  have h2 := sumBy_le (bLo f.pos) (bHi f.pos) xs (fun x => t_le _ _ _ _)
  unfold strain
  constructor
  · intro h
    simp [spanB]
    omega
  · intro h
    simp [spanB]
    omega

theorem r_Strained (a : Option Addr) (cap : Nat) (xs : List Load) (w : World) (hx : Row Load.cells 4 w.heap.size w a xs) (hc : xs.length ≤ cap) (hM : cap ≤ maxLen) (bf : Option Addr) (cf : Nat) (fs : List Frm) (hf : Row Frm.cells 3 w.heap.size w bf fs) (hfc : fs.length ≤ cf) (hfM : cf ≤ maxLen) :
    Calls Try.prog 40 #[.slice a xs.length cap, .slice bf fs.length cf] w fun e w' => StrPost w xs fs e w' := by
  unfold StrPost strP strE
  by_cases he : checkLoads xs = 0
  · rw [if_pos he]
    obtain ⟨hn, hv⟩ := checkLoads_ok he
    have HE := Lib.hid he
    clear he
    by_cases he2 : checkFrames fs = 0
    · rw [if_pos he2, he2]
      obtain ⟨hn2, hv2⟩ := checkFrames_ok he2
      have HF := Lib.hid he2
      have HN := Lib.hid hn
      have HV := Lib.hid hv
      have HV2 := Lib.hid hv2
      have hMM := hfM
      unfold maxLen at hMM
      clear he2 hv hv2
      go_enter Try.func40, Try.ntmps40
      go_wp2_with (first | (go_at_call 20; (with_reducible refine (r_CheckLoads _ _ _ _ (hx.later (by (repeat (first | with_reducible exact Below.refl _ _ | with_reducible assumption | with_reducible refine Kept.drop ?_ (by with_reducible assumption) | with_reducible refine Kept.alloc ?_ _ | ((with_reducible refine Below.setCell ?_ ?_ _); rotate_left 1; (focus (first | exact Nat.le_refl _ | (simp; done) | (simp; omega) | exact Below.size (by with_reducible assumption) | (refine Kept.size ?_; (repeat (first | with_reducible exact Below.refl _ _ | with_reducible assumption | with_reducible refine Kept.drop ?_ (by with_reducible assumption) | with_reducible refine Kept.alloc ?_ _ | with_reducible refine Below.drew ?_)))))) | with_reducible refine Below.drew ?_))) (Nat.le_refl _)) hc hM).mono ?_); rw [HE.out]; rintro e w1 ⟨rfl, hb1⟩) | (go_at_call 24; (with_reducible refine (r_CheckFrames _ _ _ _ (hf.later (by (repeat (first | with_reducible exact Below.refl _ _ | with_reducible assumption | with_reducible refine Kept.drop ?_ (by with_reducible assumption) | with_reducible refine Kept.alloc ?_ _ | ((with_reducible refine Below.setCell ?_ ?_ _); rotate_left 1; (focus (first | exact Nat.le_refl _ | (simp; done) | (simp; omega) | exact Below.size (by with_reducible assumption) | (refine Kept.size ?_; (repeat (first | with_reducible exact Below.refl _ _ | with_reducible assumption | with_reducible refine Kept.drop ?_ (by with_reducible assumption) | with_reducible refine Kept.alloc ?_ _ | with_reducible refine Below.drew ?_)))))) | with_reducible refine Below.drew ?_))) (Nat.le_refl _)) hfc hfM).mono ?_); rw [HF.out]; rintro e w2 ⟨rfl, hb2⟩))
      go_loopw [8, 9] (fun cv i wr => StrRel w xs fs cv i wr) (fun _ i _ => fs.length - (intOf i).toNat)
      case atStart => exact ⟨0, Nat.zero_le _, rfl, ⟨0, Nat.le_refl _, owns_nil (α := Int) (enc := icell), rfl⟩, by (repeat (first | with_reducible exact Below.refl _ _ | with_reducible assumption | with_reducible refine Kept.drop ?_ (by with_reducible assumption) | with_reducible refine Kept.alloc ?_ _ | ((with_reducible refine Below.setCell ?_ ?_ _); rotate_left 1; (focus (first | exact Nat.le_refl _ | (simp; done) | (simp; omega) | exact Below.size (by with_reducible assumption) | (refine Kept.size ?_; (repeat (first | with_reducible exact Below.refl _ _ | with_reducible assumption | with_reducible refine Kept.drop ?_ (by with_reducible assumption) | with_reducible refine Kept.alloc ?_ _ | with_reducible refine Below.drew ?_)))))) | with_reducible refine Below.drew ?_))⟩
      case round =>
        obtain ⟨k, hk, rfl, ⟨n, hnk, hown, hlen⟩, hkk⟩ := hrel
        by_cases hlt : k < fs.length
        · obtain ⟨bx, ox, rfl, hbx, l0, l1, l2⟩ := Frm.row (hf.later hkk (Nat.le_refl _)) k hlt
          have HB := Lib.hid (frameB_bd (HV2.out fs[k] (List.getElem_mem hlt)))
          have HSN := Lib.hid (fun h => @str_snoc xs fs k hlt h)
          have HSS := Lib.hid (fun h => @str_same xs fs k hlt h)
          obtain ⟨fr, hfr⟩ : ∃ f, f = fs[k] := ⟨_, rfl⟩
          rw [← hfr] at HB HSN HSS l0 l1 l2
          clear hfr
          obtain ⟨⟨o1, o2⟩, ⟨o3, o4⟩, o5, o6⟩ := HB.out
          have hks := hkk.size
          obtain ⟨SL, hSL⟩ : ∃ n, n = sumBy (sLo fr.pos) xs := ⟨_, rfl⟩
          obtain ⟨SH, hSH⟩ : ∃ n, n = sumBy (sHi fr.pos) xs := ⟨_, rfl⟩
          obtain ⟨BL, hBL⟩ : ∃ n, n = sumBy (bLo fr.pos) xs := ⟨_, rfl⟩
          obtain ⟨BH, hBH⟩ : ∃ n, n = sumBy (bHi fr.pos) xs := ⟨_, rfl⟩
          have HST := Lib.hid (strain_iff xs fr)
          have HO := Lib.hid (show -20000 ≤ fr.pos ∧ fr.pos ≤ 20000 from ⟨o1, o2⟩)
          rw [← hSL, ← hSH, ← hBL, ← hBH] at HST
          go_upto_region 12 with fail
          refine at_world (S := fun W => Blk W wr.heap.size #[.int .i64 fr.pos, .int .i64 fr.shear, .int .i64 fr.bend] 104 ∧ W.ownsRow w.heap.size 3 1 _ n ((strainedTo xs fs k).flatMap icell) ∧ Kept w W) ⟨by (repeat (first | with_reducible assumption | ((with_reducible refine Blk.new' ?_); first | with_reducible rfl | (simp; done) | (simp [World.drew]; done)) | with_reducible refine Blk.alloc ?_ _ | ((with_reducible refine Blk.set (arr := ?_) ?_ _ _); rotate_left 1) | ((with_reducible refine Blk.other ?_ ?_ _); rotate_left 1; (focus (first | (simp; done) | (simp; omega) | (refine Nat.ne_of_gt (Blk.lt (arr := ?_) (t := ?_) ?_); rotate_left 2; focus (repeat (first | with_reducible assumption | ((with_reducible refine Blk.new' ?_); first | with_reducible rfl | (simp; done) | (simp [World.drew]; done)) | with_reducible refine Blk.alloc ?_ _ | with_reducible refine Blk.keep ?_ (by with_reducible assumption) | with_reducible refine Blk.drew ?_))) | (refine Nat.ne_of_lt (Blk.lt (arr := ?_) (t := ?_) ?_); rotate_left 2; focus (repeat (first | with_reducible assumption | ((with_reducible refine Blk.new' ?_); first | with_reducible rfl | (simp; done) | (simp [World.drew]; done)) | with_reducible refine Blk.alloc ?_ _ | with_reducible refine Blk.keep ?_ (by with_reducible assumption) | with_reducible refine Blk.drew ?_)))))) | with_reducible refine Blk.keep ?_ (by with_reducible assumption) | with_reducible refine Blk.drew ?_)), hown.alloc _, by (repeat (first | with_reducible exact Below.refl _ _ | with_reducible assumption | with_reducible refine Kept.drop ?_ (by with_reducible assumption) | with_reducible refine Kept.alloc ?_ _ | ((with_reducible refine Below.setCell ?_ ?_ _); rotate_left 1; (focus (first | exact Nat.le_refl _ | (simp; done) | (simp; omega) | exact Below.size (by with_reducible assumption) | (refine Kept.size ?_; (repeat (first | with_reducible exact Below.refl _ _ | with_reducible assumption | with_reducible refine Kept.drop ?_ (by with_reducible assumption) | with_reducible refine Kept.alloc ?_ _ | with_reducible refine Below.drew ?_)))))) | with_reducible refine Below.drew ?_))⟩ ?_
          clear hown
          rintro U ⟨qf, hown, hkU⟩
          have qfl := qf.lt
          go_cut [11, 12] (fun s11 s12 wx => ∃ g1 g2, s11 = .pointer (some ⟨g1, 0, none⟩) ∧ s12 = .pointer (some ⟨g2, 0, none⟩) ∧ Blk wx g1 #[.int .i64 SL, .int .i64 SH] 49 ∧ Blk wx g2 #[.int .i64 BL, .int .i64 BH] 49 ∧ Kept U wx)
          case first =>
            subst hSL hSH hBL hBH
            have n0 : ∀ w', Kept U w' → w'.cell? ⟨wr.heap.size, 0, none⟩ = _ := fun w' h => (qf.keep h).cell 0
            simp at n0
            go_region_held3 (fun w' => Kept U w') (repeat (first | with_reducible exact Below.refl _ _ | with_reducible assumption | with_reducible refine Kept.drop ?_ (by with_reducible assumption) | with_reducible refine Kept.alloc ?_ _ | ((with_reducible refine Below.setCell ?_ ?_ _); rotate_left 1; (focus (first | exact Nat.le_refl _ | (simp; done) | (simp; omega) | exact Below.size (by with_reducible assumption) | (refine Kept.size ?_; (repeat (first | with_reducible exact Below.refl _ _ | with_reducible assumption | with_reducible refine Kept.drop ?_ (by with_reducible assumption) | with_reducible refine Kept.alloc ?_ _ | with_reducible refine Below.drew ?_))) | (refine Nat.le_succ_of_le (Kept.size ?_); (repeat (first | with_reducible exact Below.refl _ _ | with_reducible assumption | with_reducible refine Kept.drop ?_ (by with_reducible assumption) | with_reducible refine Kept.alloc ?_ _ | with_reducible refine Below.drew ?_)))))) | with_reducible refine Below.drew ?_)) (first | (go_at_call 87; (with_reducible refine (r_shear fr.pos _ _ xs _ (hx.later (by (repeat (first | with_reducible exact Below.refl _ _ | with_reducible assumption | with_reducible refine Kept.drop ?_ (by with_reducible assumption) | with_reducible refine Kept.alloc ?_ _ | ((with_reducible refine Below.setCell ?_ ?_ _); rotate_left 1; (focus (first | exact Nat.le_refl _ | (simp; done) | (simp; omega) | exact Below.size (by with_reducible assumption) | (refine Kept.size ?_; (repeat (first | with_reducible exact Below.refl _ _ | with_reducible assumption | with_reducible refine Kept.drop ?_ (by with_reducible assumption) | with_reducible refine Kept.alloc ?_ _ | with_reducible refine Below.drew ?_)))))) | with_reducible refine Below.drew ?_))) (Nat.le_refl _)) hc hM HN.out HV.out HO.out).mono ?_); rintro e ws ⟨rfl, hbs⟩; (first | (refine Blk.thru (b := U.heap.size) (arr := #[.int .i64 0, .int .i64 0]) (t := 49) ?_ hbs ?_; (focus (first | with_reducible assumption | (refine Blk.new' ?_; (focus (simp; done))) | (refine Blk.drew (Blk.new' ?_); (focus (simp; done))) | (refine Blk.alloc (Blk.new' ?_) _; (focus (simp; done))) | (refine Blk.drew (Blk.alloc (Blk.new' ?_) _); (focus (simp; done))) | (refine Blk.alloc (Blk.drew (Blk.new' ?_)) _; (focus (simp; done))) | (refine Blk.alloc ?_ _; with_reducible assumption) | (refine Blk.drew ?_; with_reducible assumption) | (refine Blk.drew (Blk.alloc ?_ _); with_reducible assumption) | fail)); intro qs0; have qs0c0 := qs0.cell 0; have qs0f0 := qs0.free 0; have qs0c1 := qs0.cell 1; have qs0f1 := qs0.free 1; have qs0l := qs0.lt; simp at qs0c0 qs0c1) | skip); (first | (refine Blk.thru (b := U.heap.size + 1) (arr := #[.int .i64 0, .int .i64 0]) (t := 49) ?_ hbs ?_; (focus (first | with_reducible assumption | (refine Blk.new' ?_; (focus (simp; done))) | (refine Blk.drew (Blk.new' ?_); (focus (simp; done))) | (refine Blk.alloc (Blk.new' ?_) _; (focus (simp; done))) | (refine Blk.drew (Blk.alloc (Blk.new' ?_) _); (focus (simp; done))) | (refine Blk.alloc (Blk.drew (Blk.new' ?_)) _; (focus (simp; done))) | (refine Blk.alloc ?_ _; with_reducible assumption) | (refine Blk.drew ?_; with_reducible assumption) | (refine Blk.drew (Blk.alloc ?_ _); with_reducible assumption) | fail)); intro qs1; have qs1c0 := qs1.cell 0; have qs1f0 := qs1.free 0; have qs1c1 := qs1.cell 1; have qs1f1 := qs1.free 1; have qs1l := qs1.lt; simp at qs1c0 qs1c1) | skip)) | (go_at_call 89; (with_reducible refine (r_bend fr.pos _ _ xs _ (hx.later (by (repeat (first | with_reducible exact Below.refl _ _ | with_reducible assumption | with_reducible refine Kept.drop ?_ (by with_reducible assumption) | with_reducible refine Kept.alloc ?_ _ | ((with_reducible refine Below.setCell ?_ ?_ _); rotate_left 1; (focus (first | exact Nat.le_refl _ | (simp; done) | (simp; omega) | exact Below.size (by with_reducible assumption) | (refine Kept.size ?_; (repeat (first | with_reducible exact Below.refl _ _ | with_reducible assumption | with_reducible refine Kept.drop ?_ (by with_reducible assumption) | with_reducible refine Kept.alloc ?_ _ | with_reducible refine Below.drew ?_)))))) | with_reducible refine Below.drew ?_))) (Nat.le_refl _)) hc hM HN.out HV.out HO.out).mono ?_); rintro e wb ⟨rfl, hbb⟩; (first | (refine Blk.thru (b := U.heap.size) (arr := #[.int .i64 0, .int .i64 0]) (t := 49) ?_ hbb ?_; (focus (first | with_reducible assumption | (refine Blk.new' ?_; (focus (simp; done))) | (refine Blk.drew (Blk.new' ?_); (focus (simp; done))) | (refine Blk.alloc (Blk.new' ?_) _; (focus (simp; done))) | (refine Blk.drew (Blk.alloc (Blk.new' ?_) _); (focus (simp; done))) | (refine Blk.alloc (Blk.drew (Blk.new' ?_)) _; (focus (simp; done))) | (refine Blk.alloc ?_ _; with_reducible assumption) | (refine Blk.drew ?_; with_reducible assumption) | (refine Blk.drew (Blk.alloc ?_ _); with_reducible assumption) | fail)); intro qu0; have qu0c0 := qu0.cell 0; have qu0f0 := qu0.free 0; have qu0c1 := qu0.cell 1; have qu0f1 := qu0.free 1; have qu0l := qu0.lt; simp at qu0c0 qu0c1) | skip); (first | (refine Blk.thru (b := U.heap.size + 1) (arr := #[.int .i64 0, .int .i64 0]) (t := 49) ?_ hbb ?_; (focus (first | with_reducible assumption | (refine Blk.new' ?_; (focus (simp; done))) | (refine Blk.drew (Blk.new' ?_); (focus (simp; done))) | (refine Blk.alloc (Blk.new' ?_) _; (focus (simp; done))) | (refine Blk.drew (Blk.alloc (Blk.new' ?_) _); (focus (simp; done))) | (refine Blk.alloc (Blk.drew (Blk.new' ?_)) _; (focus (simp; done))) | (refine Blk.alloc ?_ _; with_reducible assumption) | (refine Blk.drew ?_; with_reducible assumption) | (refine Blk.drew (Blk.alloc ?_ _); with_reducible assumption) | fail)); intro qu1; have qu1c0 := qu1.cell 0; have qu1f0 := qu1.free 0; have qu1c1 := qu1.cell 1; have qu1f1 := qu1.free 1; have qu1l := qu1.lt; simp at qu1c0 qu1c1) | skip); (first | (refine Blk.thru (b := ws.heap.size) (arr := #[.int .i64 0, .int .i64 0]) (t := 49) ?_ hbb ?_; (focus (first | with_reducible assumption | (refine Blk.new' ?_; (focus (simp; done))) | (refine Blk.drew (Blk.new' ?_); (focus (simp; done))) | (refine Blk.alloc (Blk.new' ?_) _; (focus (simp; done))) | (refine Blk.drew (Blk.alloc (Blk.new' ?_) _); (focus (simp; done))) | (refine Blk.alloc (Blk.drew (Blk.new' ?_)) _; (focus (simp; done))) | (refine Blk.alloc ?_ _; with_reducible assumption) | (refine Blk.drew ?_; with_reducible assumption) | (refine Blk.drew (Blk.alloc ?_ _); with_reducible assumption) | fail)); intro qv0; have qv0c0 := qv0.cell 0; have qv0f0 := qv0.free 0; have qv0c1 := qv0.cell 1; have qv0f1 := qv0.free 1; have qv0l := qv0.lt; simp at qv0c0 qv0c1) | skip); (first | (refine Blk.thru (b := ws.heap.size + 1) (arr := #[.int .i64 0, .int .i64 0]) (t := 49) ?_ hbb ?_; (focus (first | with_reducible assumption | (refine Blk.new' ?_; (focus (simp; done))) | (refine Blk.drew (Blk.new' ?_); (focus (simp; done))) | (refine Blk.alloc (Blk.new' ?_) _; (focus (simp; done))) | (refine Blk.drew (Blk.alloc (Blk.new' ?_) _); (focus (simp; done))) | (refine Blk.alloc (Blk.drew (Blk.new' ?_)) _; (focus (simp; done))) | (refine Blk.alloc ?_ _; with_reducible assumption) | (refine Blk.drew ?_; with_reducible assumption) | (refine Blk.drew (Blk.alloc ?_ _); with_reducible assumption) | fail)); intro qv1; have qv1c0 := qv1.cell 0; have qv1f0 := qv1.free 0; have qv1c1 := qv1.cell 1; have qv1f1 := qv1.free 1; have qv1l := qv1.lt; simp at qv1c0 qv1c1) | skip)) | fail)
            all_goals (go_wp2_with fail; go_meet)
            all_goals
              refine ⟨_, _, rfl, rfl, ?_, ?_, ?_⟩
              · (refine Blk.cast (arr := ?_) ?_ ?_; rotate_left 1; (focus (repeat (first | with_reducible assumption | ((with_reducible refine Blk.new' ?_); first | with_reducible rfl | (simp; done) | (simp [World.drew]; done)) | with_reducible refine Blk.alloc ?_ _ | ((with_reducible refine Blk.set (arr := ?_) ?_ _ _); rotate_left 1) | ((with_reducible refine Blk.other ?_ ?_ _); rotate_left 1; (focus (first | (simp; done) | (simp; omega) | (refine Nat.ne_of_gt (Blk.lt (arr := ?_) (t := ?_) ?_); rotate_left 2; focus (repeat (first | with_reducible assumption | ((with_reducible refine Blk.new' ?_); first | with_reducible rfl | (simp; done) | (simp [World.drew]; done)) | with_reducible refine Blk.alloc ?_ _ | with_reducible refine Blk.keep ?_ (by with_reducible assumption) | with_reducible refine Blk.drew ?_))) | (refine Nat.ne_of_lt (Blk.lt (arr := ?_) (t := ?_) ?_); rotate_left 2; focus (repeat (first | with_reducible assumption | ((with_reducible refine Blk.new' ?_); first | with_reducible rfl | (simp; done) | (simp [World.drew]; done)) | with_reducible refine Blk.alloc ?_ _ | with_reducible refine Blk.keep ?_ (by with_reducible assumption) | with_reducible refine Blk.drew ?_))))); rotate_right 1) | with_reducible refine Blk.keep ?_ (by with_reducible assumption) | with_reducible refine Blk.drew ?_))); (first | rfl | (simp; done)))
              · (refine Blk.cast (arr := ?_) ?_ ?_; rotate_left 1; (focus (repeat (first | with_reducible assumption | ((with_reducible refine Blk.new' ?_); first | with_reducible rfl | (simp; done) | (simp [World.drew]; done)) | with_reducible refine Blk.alloc ?_ _ | ((with_reducible refine Blk.set (arr := ?_) ?_ _ _); rotate_left 1) | ((with_reducible refine Blk.other ?_ ?_ _); rotate_left 1; (focus (first | (simp; done) | (simp; omega) | (refine Nat.ne_of_gt (Blk.lt (arr := ?_) (t := ?_) ?_); rotate_left 2; focus (repeat (first | with_reducible assumption | ((with_reducible refine Blk.new' ?_); first | with_reducible rfl | (simp; done) | (simp [World.drew]; done)) | with_reducible refine Blk.alloc ?_ _ | with_reducible refine Blk.keep ?_ (by with_reducible assumption) | with_reducible refine Blk.drew ?_))) | (refine Nat.ne_of_lt (Blk.lt (arr := ?_) (t := ?_) ?_); rotate_left 2; focus (repeat (first | with_reducible assumption | ((with_reducible refine Blk.new' ?_); first | with_reducible rfl | (simp; done) | (simp [World.drew]; done)) | with_reducible refine Blk.alloc ?_ _ | with_reducible refine Blk.keep ?_ (by with_reducible assumption) | with_reducible refine Blk.drew ?_))))); rotate_right 1) | with_reducible refine Blk.keep ?_ (by with_reducible assumption) | with_reducible refine Blk.drew ?_))); (first | rfl | (simp; done)))
              · (repeat (first | with_reducible exact Below.refl _ _ | with_reducible assumption | with_reducible refine Kept.drop ?_ (by with_reducible assumption) | with_reducible refine Kept.alloc ?_ _ | ((with_reducible refine Below.setCell ?_ ?_ _); rotate_left 1; (focus (first | exact Nat.le_refl _ | (simp; done) | (simp; omega) | exact Below.size (by with_reducible assumption) | (refine Kept.size ?_; (repeat (first | with_reducible exact Below.refl _ _ | with_reducible assumption | with_reducible refine Kept.drop ?_ (by with_reducible assumption) | with_reducible refine Kept.alloc ?_ _ | with_reducible refine Below.drew ?_))) | (refine Nat.le_succ_of_le (Kept.size ?_); (repeat (first | with_reducible exact Below.refl _ _ | with_reducible assumption | with_reducible refine Kept.drop ?_ (by with_reducible assumption) | with_reducible refine Kept.alloc ?_ _ | with_reducible refine Below.drew ?_)))))) | with_reducible refine Below.drew ?_))
          case rest =>
            clear hSL hSH hBL hBH
            obtain ⟨g1, g2, rfl, rfl, r1, r2, hkx⟩ := hcut
            have hall := (⟨qf.keep hkx, r1, r2, owns_keep hown hkx, Kept.drop hkU hkx⟩ : Blk _ _ _ _ ∧ Blk _ _ _ _ ∧ Blk _ _ _ _ ∧ World.ownsRow _ _ _ _ _ _ _ ∧ Kept w _)
            clear qf hown hkU r1 r2 hkx qfl
            obtain ⟨qf, r1, r2, hownT, hkT⟩ := hall
            go_upto_region 13 with fail
            refine at_world (S := fun W => Blk W wr.heap.size #[.int .i64 fr.pos, .int .i64 fr.shear, .int .i64 fr.bend] 104 ∧ Blk W g1 #[.int .i64 SL, .int .i64 SH] 49 ∧ Blk W g2 #[.int .i64 BL, .int .i64 BH] 49 ∧ W.ownsRow w.heap.size 3 1 _ n ((strainedTo xs fs k).flatMap icell) ∧ Kept w W) ⟨qf, r1, r2, hownT, hkT⟩ ?_
            clear qf r1 r2 hownT hkT
            rintro V ⟨qf, r1, r2, hownT, hkT⟩
            have hkTs := hkT.size
            have qfc0 := qf.cell 0
            have qff0 := qf.free 0
            have qfc1 := qf.cell 1
            have qff1 := qf.free 1
            have qfc2 := qf.cell 2
            have qff2 := qf.free 2
            have qfl := qf.lt
            simp at qfc0 qfc1 qfc2
            have r1c0 := r1.cell 0
            have r1f0 := r1.free 0
            have r1c1 := r1.cell 1
            have r1f1 := r1.free 1
            have r1l := r1.lt
            simp at r1c0 r1c1
            have r2c0 := r2.cell 0
            have r2f0 := r2.free 0
            have r2c1 := r2.cell 1
            have r2f1 := r2.free 1
            have r2l := r2.lt
            simp at r2c0 r2c1
            by_cases c0 : fr.shear < SH
            ·
              have HSN2 := Lib.hid (HSN.out (HST.out.1 (by omega)))
              go_wp2_with (at_builtin; obtain ⟨i0, hi, hz0, hz1, hz2⟩ := info_parts infoI; refine wpList_append_own _ rfl _ _ 63 rfl w.heap.size 3 i0 (.int .i64 0) 1 8 Try.underlying63 hi hz0 hz1 hz2 rfl (by decide) _ _ _ rfl (hownT.alloc _) ⟨V.heap.size, 0, none⟩ 1 1 [.int .i64 k] rfl rfl (cell_one_at (by simp) _ _) (fun x hx => by simp at hx; subst hx; rfl) (by unfold maxLen; omega) (by omega) (by simp; omega) ?_; intro v' w9 hown' hgrow hnil; clear hi hz0 hz1 hz2)
              have hk9 : Kept w w9 := Kept.grown (Kept.alloc hkT _) (hownT.alloc _) (Nat.le_refl _) hgrow
              go_roundw
              case rel =>
                obtain ⟨g1, g2⟩ := HSN2.out
                have hown9 : w9.ownsRow w.heap.size 3 1 v' (n + 1) ((strainedTo xs fs (k + 1)).flatMap icell) := by rw [g1]; exact hown'
                first
                | exact ⟨k + 1, by omega, by go_num, ⟨n + 1, by omega, hown9, by omega⟩, hk9⟩
                | (apply Exists.intro; repeat (apply Exists.intro); refine ⟨?_, rfl⟩; exact ⟨k + 1, by omega, by go_num, ⟨n + 1, by omega, hown9, by omega⟩, hk9⟩)
              case measure => simp [intOf]; omega
            · skip
              by_cases c1 : SL < -fr.shear
              ·
                have HSN2 := Lib.hid (HSN.out (HST.out.1 (by omega)))
                go_wp2_with (at_builtin; obtain ⟨i0, hi, hz0, hz1, hz2⟩ := info_parts infoI; refine wpList_append_own _ rfl _ _ 63 rfl w.heap.size 3 i0 (.int .i64 0) 1 8 Try.underlying63 hi hz0 hz1 hz2 rfl (by decide) _ _ _ rfl (hownT.alloc _) ⟨V.heap.size, 0, none⟩ 1 1 [.int .i64 k] rfl rfl (cell_one_at (by simp) _ _) (fun x hx => by simp at hx; subst hx; rfl) (by unfold maxLen; omega) (by omega) (by simp; omega) ?_; intro v' w9 hown' hgrow hnil; clear hi hz0 hz1 hz2)
                have hk9 : Kept w w9 := Kept.grown (Kept.alloc hkT _) (hownT.alloc _) (Nat.le_refl _) hgrow
                go_roundw
                case rel =>
                  obtain ⟨g1, g2⟩ := HSN2.out
                  have hown9 : w9.ownsRow w.heap.size 3 1 v' (n + 1) ((strainedTo xs fs (k + 1)).flatMap icell) := by rw [g1]; exact hown'
                  first
                  | exact ⟨k + 1, by omega, by go_num, ⟨n + 1, by omega, hown9, by omega⟩, hk9⟩
                  | (apply Exists.intro; repeat (apply Exists.intro); refine ⟨?_, rfl⟩; exact ⟨k + 1, by omega, by go_num, ⟨n + 1, by omega, hown9, by omega⟩, hk9⟩)
                case measure => simp [intOf]; omega
              · skip
                by_cases c2 : fr.bend < BH
                ·
                  have HSN2 := Lib.hid (HSN.out (HST.out.1 (by omega)))
                  go_wp2_with (at_builtin; obtain ⟨i0, hi, hz0, hz1, hz2⟩ := info_parts infoI; refine wpList_append_own _ rfl _ _ 63 rfl w.heap.size 3 i0 (.int .i64 0) 1 8 Try.underlying63 hi hz0 hz1 hz2 rfl (by decide) _ _ _ rfl (hownT.alloc _) ⟨V.heap.size, 0, none⟩ 1 1 [.int .i64 k] rfl rfl (cell_one_at (by simp) _ _) (fun x hx => by simp at hx; subst hx; rfl) (by unfold maxLen; omega) (by omega) (by simp; omega) ?_; intro v' w9 hown' hgrow hnil; clear hi hz0 hz1 hz2)
                  have hk9 : Kept w w9 := Kept.grown (Kept.alloc hkT _) (hownT.alloc _) (Nat.le_refl _) hgrow
                  go_roundw
                  case rel =>
                    obtain ⟨g1, g2⟩ := HSN2.out
                    have hown9 : w9.ownsRow w.heap.size 3 1 v' (n + 1) ((strainedTo xs fs (k + 1)).flatMap icell) := by rw [g1]; exact hown'
                    first
                    | exact ⟨k + 1, by omega, by go_num, ⟨n + 1, by omega, hown9, by omega⟩, hk9⟩
                    | (apply Exists.intro; repeat (apply Exists.intro); refine ⟨?_, rfl⟩; exact ⟨k + 1, by omega, by go_num, ⟨n + 1, by omega, hown9, by omega⟩, hk9⟩)
                  case measure => simp [intOf]; omega
                · skip
                  by_cases c3 : BL < -fr.bend
                  ·
                    have HSN2 := Lib.hid (HSN.out (HST.out.1 (by omega)))
                    go_wp2_with (at_builtin; obtain ⟨i0, hi, hz0, hz1, hz2⟩ := info_parts infoI; refine wpList_append_own _ rfl _ _ 63 rfl w.heap.size 3 i0 (.int .i64 0) 1 8 Try.underlying63 hi hz0 hz1 hz2 rfl (by decide) _ _ _ rfl (hownT.alloc _) ⟨V.heap.size, 0, none⟩ 1 1 [.int .i64 k] rfl rfl (cell_one_at (by simp) _ _) (fun x hx => by simp at hx; subst hx; rfl) (by unfold maxLen; omega) (by omega) (by simp; omega) ?_; intro v' w9 hown' hgrow hnil; clear hi hz0 hz1 hz2)
                    have hk9 : Kept w w9 := Kept.grown (Kept.alloc hkT _) (hownT.alloc _) (Nat.le_refl _) hgrow
                    go_roundw
                    case rel =>
                      obtain ⟨g1, g2⟩ := HSN2.out
                      have hown9 : w9.ownsRow w.heap.size 3 1 v' (n + 1) ((strainedTo xs fs (k + 1)).flatMap icell) := by rw [g1]; exact hown'
                      first
                      | exact ⟨k + 1, by omega, by go_num, ⟨n + 1, by omega, hown9, by omega⟩, hk9⟩
                      | (apply Exists.intro; repeat (apply Exists.intro); refine ⟨?_, rfl⟩; exact ⟨k + 1, by omega, by go_num, ⟨n + 1, by omega, hown9, by omega⟩, hk9⟩)
                    case measure => simp [intOf]; omega
                  · skip
                    have HSS2 := Lib.hid (HSS.out (HST.out.2 ⟨by omega, by omega, by omega, by omega⟩))
                    go_wp2
                    go_roundw
                    case rel =>
                      have hown9 := hownT
                      rw [← HSS2.out] at hown9 hlen
                      first
                      | exact ⟨k + 1, by omega, by go_num, ⟨n, by omega, hown9, hlen⟩, hkT⟩
                      | (apply Exists.intro; repeat (apply Exists.intro); refine ⟨?_, rfl⟩; exact ⟨k + 1, by omega, by go_num, ⟨n, by omega, hown9, hlen⟩, hkT⟩)
                    case measure => simp [intOf]; omega
        · obtain rfl : k = fs.length := by omega
          subst hlen
          obtain ⟨ad, cp, rfl, _⟩ := owns_row (enc := icell) (k := 1) (fun _ => rfl) hown
          go_wp2
          exact bodyPost_ret (v := .tuple #[.slice ad (strainedTo xs fs fs.length).length cp, .int .i64 0]) (by simp [results, Try.results40, go_sem]) rfl ⟨_, rfl, hown, by (repeat (first | with_reducible exact Below.refl _ _ | with_reducible assumption | with_reducible refine Kept.drop ?_ (by with_reducible assumption) | with_reducible refine Kept.alloc ?_ _ | ((with_reducible refine Below.setCell ?_ ?_ _); rotate_left 1; (focus (first | exact Nat.le_refl _ | (simp; done) | (simp; omega) | exact Below.size (by with_reducible assumption) | (refine Kept.size ?_; (repeat (first | with_reducible exact Below.refl _ _ | with_reducible assumption | with_reducible refine Kept.drop ?_ (by with_reducible assumption) | with_reducible refine Kept.alloc ?_ _ | with_reducible refine Below.drew ?_)))))) | with_reducible refine Below.drew ?_))⟩
    · rw [if_neg he2]
      have hb : (checkFrames fs != 0) = true := by simp [he2]
      obtain ⟨E, hEE⟩ : ∃ E, E = checkFrames fs := ⟨_, rfl⟩
      have HF := Lib.hid hEE.symm
      rw [← hEE] at he2 hb ⊢
      clear hEE hv
      go_enter Try.func40, Try.ntmps40
      go_wp2_with (first | (go_at_call 20; (with_reducible refine (r_CheckLoads _ _ _ _ (hx.later (by (repeat (first | with_reducible exact Below.refl _ _ | with_reducible assumption | with_reducible refine Kept.drop ?_ (by with_reducible assumption) | with_reducible refine Kept.alloc ?_ _ | ((with_reducible refine Below.setCell ?_ ?_ _); rotate_left 1; (focus (first | exact Nat.le_refl _ | (simp; done) | (simp; omega) | exact Below.size (by with_reducible assumption) | (refine Kept.size ?_; (repeat (first | with_reducible exact Below.refl _ _ | with_reducible assumption | with_reducible refine Kept.drop ?_ (by with_reducible assumption) | with_reducible refine Kept.alloc ?_ _ | with_reducible refine Below.drew ?_)))))) | with_reducible refine Below.drew ?_))) (Nat.le_refl _)) hc hM).mono ?_); rw [HE.out]; rintro e w1 ⟨rfl, hb1⟩) | (go_at_call 24; (with_reducible refine (r_CheckFrames _ _ _ _ (hf.later (by (repeat (first | with_reducible exact Below.refl _ _ | with_reducible assumption | with_reducible refine Kept.drop ?_ (by with_reducible assumption) | with_reducible refine Kept.alloc ?_ _ | ((with_reducible refine Below.setCell ?_ ?_ _); rotate_left 1; (focus (first | exact Nat.le_refl _ | (simp; done) | (simp; omega) | exact Below.size (by with_reducible assumption) | (refine Kept.size ?_; (repeat (first | with_reducible exact Below.refl _ _ | with_reducible assumption | with_reducible refine Kept.drop ?_ (by with_reducible assumption) | with_reducible refine Kept.alloc ?_ _ | with_reducible refine Below.drew ?_)))))) | with_reducible refine Below.drew ?_))) (Nat.le_refl _)) hfc hfM).mono ?_); rw [HF.out]; rintro e w2 ⟨rfl, hb2⟩))
      exact bodyPost_ret (v := .tuple #[.slice none 0 0, .int .i64 E]) (by simp [results, Try.results40, go_sem]) rfl ⟨_, rfl, owns_nil (α := Int) (enc := icell), by (repeat (first | with_reducible exact Below.refl _ _ | with_reducible assumption | with_reducible refine Kept.drop ?_ (by with_reducible assumption) | with_reducible refine Kept.alloc ?_ _ | ((with_reducible refine Below.setCell ?_ ?_ _); rotate_left 1; (focus (first | exact Nat.le_refl _ | (simp; done) | (simp; omega) | exact Below.size (by with_reducible assumption) | (refine Kept.size ?_; (repeat (first | with_reducible exact Below.refl _ _ | with_reducible assumption | with_reducible refine Kept.drop ?_ (by with_reducible assumption) | with_reducible refine Kept.alloc ?_ _ | with_reducible refine Below.drew ?_)))))) | with_reducible refine Below.drew ?_))⟩
  · rw [if_neg he, if_neg he]
    have hb : (checkLoads xs != 0) = true := by simp [he]
    obtain ⟨E, hEE⟩ : ∃ E, E = checkLoads xs := ⟨_, rfl⟩
    have HE := Lib.hid hEE.symm
    rw [← hEE] at he hb ⊢
    clear hEE
    go_enter Try.func40, Try.ntmps40
    go_wp2_with (go_at_call 20; (with_reducible refine (r_CheckLoads _ _ _ _ (hx.later (by (repeat (first | with_reducible exact Below.refl _ _ | with_reducible assumption | with_reducible refine Kept.drop ?_ (by with_reducible assumption) | with_reducible refine Kept.alloc ?_ _ | ((with_reducible refine Below.setCell ?_ ?_ _); rotate_left 1; (focus (first | exact Nat.le_refl _ | (simp; done) | (simp; omega) | exact Below.size (by with_reducible assumption) | (refine Kept.size ?_; (repeat (first | with_reducible exact Below.refl _ _ | with_reducible assumption | with_reducible refine Kept.drop ?_ (by with_reducible assumption) | with_reducible refine Kept.alloc ?_ _ | with_reducible refine Below.drew ?_)))))) | with_reducible refine Below.drew ?_))) (Nat.le_refl _)) hc hM).mono ?_); rw [HE.out]; rintro e w1 ⟨rfl, hb1⟩)
    exact bodyPost_ret (v := .tuple #[.slice none 0 0, .int .i64 E]) (by simp [results, Try.results40, go_sem]) rfl ⟨_, rfl, owns_nil (α := Int) (enc := icell), by (repeat (first | with_reducible exact Below.refl _ _ | with_reducible assumption | with_reducible refine Kept.drop ?_ (by with_reducible assumption) | with_reducible refine Kept.alloc ?_ _ | ((with_reducible refine Below.setCell ?_ ?_ _); rotate_left 1; (focus (first | exact Nat.le_refl _ | (simp; done) | (simp; omega) | exact Below.size (by with_reducible assumption) | (refine Kept.size ?_; (repeat (first | with_reducible exact Below.refl _ _ | with_reducible assumption | with_reducible refine Kept.drop ?_ (by with_reducible assumption) | with_reducible refine Kept.alloc ?_ _ | with_reducible refine Below.drew ?_)))))) | with_reducible refine Below.drew ?_))⟩

theorem r_SameInts (a b : Option Addr) (c d : Nat) (xs : List Int) (w : World) (hx : Row icell 1 w.heap.size w a xs) (hy : Row icell 1 w.heap.size w b xs) (hc : xs.length ≤ c) (hd : xs.length ≤ d) (hM : c ≤ maxLen) (hN : d ≤ maxLen) :
    Calls Try.prog 41 #[.slice a xs.length c, .slice b xs.length d] w fun e w' => e = .returned (.bool true) ∧ Kept w w' := by
  unfold maxLen at hM hN
  go_enter Try.func41, Try.ntmps41
  go_wp2
  go_loopw [5] (fun i wr => ∃ k : Nat, k ≤ xs.length ∧ i = .int .i64 k ∧ Kept w wr) (fun i _ => xs.length - (intOf i).toNat)
  case atStart => exact ⟨0, Nat.zero_le _, rfl, Below.refl _ _⟩
  case round =>
    obtain ⟨k, hk, rfl, hkk⟩ := hrel
    by_cases hlt : k < xs.length
    · obtain ⟨b1, o1, rfl, hb1, h0⟩ := int_row (hx.later hkk (Nat.le_refl _)) k hlt
      obtain ⟨b2, o2, rfl, hb2, j0⟩ := int_row (hy.later hkk (Nat.le_refl _)) k hlt
      have x0 := fun g : Later wr => g.some h0
      have y0 := fun g : Later wr => g.some j0
      go_upto_region 6 with fail
      refine Later.region (by kernel_rfl) (by kernel_rfl) ?_
      repeat (first | go_big_quiet_skip | (go_big_quiet_want; go_big_quiet_op; first | go_big_quiet_on | (apply Exists.intro; refine ⟨fun g => ?_, ?_⟩; (focus (first | fail)); go_big_quiet_on)))
      refine wpQuiet_nil ?_
      intro gg
      have hkgg := Kept.drop hkk gg.ok
      go_wp2
      go_round
      case rel => exact ⟨k + 1, by omega, by go_num, by (repeat (first | with_reducible exact Below.refl _ _ | with_reducible assumption | with_reducible refine Kept.drop ?_ (by with_reducible assumption) | with_reducible refine Kept.alloc ?_ _ | ((with_reducible refine Below.setCell ?_ ?_ _); rotate_left 1; (focus (first | exact Nat.le_refl _ | (simp; done) | (simp; omega) | exact Below.size (by with_reducible assumption) | (refine Kept.size ?_; (repeat (first | with_reducible exact Below.refl _ _ | with_reducible assumption | with_reducible refine Kept.drop ?_ (by with_reducible assumption) | with_reducible refine Kept.alloc ?_ _ | with_reducible refine Below.drew ?_)))))) | with_reducible refine Below.drew ?_))⟩
      case measure => simp [intOf]; omega
    · obtain rfl : k = xs.length := by omega
      go_wp2
      go_ret
      exact ⟨rfl, hkk⟩

end Go.Proofs.Ytlloijkmpmfapaa
