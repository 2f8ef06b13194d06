/-
  The worst value, the heaviness and the moment, in the reference.
-/
import Derived.Test.YtlloijkmpmfapaaTrimR2
namespace Go.Proofs.Ytlloijkmpmfapaa
open Go.RowKit Bal Bal.Trim
set_option linter.unusedVariables false
set_option linter.unusedSimpArgs false
set_option maxHeartbeats 800000

set_option maxRecDepth 10000

theorem r_Worst (m : Limit) (a : Option Addr) (cap : Nat) (xs : List Load) (w : World) (hx : Row Load.cells 4 w.heap.size w a xs) (hc : xs.length ≤ cap) (hM : cap ≤ maxLen) :
    Calls Try.prog 34 #[.slice a xs.length cap, .agg #[.int .i64 m.a, .int .i64 m.b, .int .i64 m.c]] w fun e w' => WorstPost w m xs e w' := by
  unfold WorstPost worstP
  by_cases he : checkLoads xs = 0
  · cases hl : limitB m
    · have hE : worstE m xs = 41 := by unfold worstE; rw [if_pos he, hl]; rfl
      rw [hE, show ifOk 41 (worstV m xs) = 0 from rfl]
      have HE := Lib.hid he
      have HL := Lib.hid hl
      clear he hl hE
      go_enter Try.func34, Try.ntmps34
      go_wp2_with (first | (go_at_call 20; (with_reducible refine (r_CheckLoads _ _ _ _ (hx.later (by (repeat (first | with_reducible exact Below.refl _ _ | with_reducible assumption | with_reducible refine Kept.drop ?_ (by with_reducible assumption) | with_reducible refine Kept.alloc ?_ _ | ((with_reducible refine Below.setCell ?_ ?_ _); rotate_left 1; (focus (first | exact Nat.le_refl _ | (simp; done) | (simp; omega) | exact Below.size (by with_reducible assumption) | (refine Kept.size ?_; (repeat (first | with_reducible exact Below.refl _ _ | with_reducible assumption | with_reducible refine Kept.drop ?_ (by with_reducible assumption) | with_reducible refine Kept.alloc ?_ _ | with_reducible refine Below.drew ?_)))))) | with_reducible refine Below.drew ?_))) (Nat.le_refl _)) hc hM).mono ?_); rw [HE.out]; rintro e w1 ⟨rfl, hb1⟩; obtain ⟨hc1, hf1, hl1⟩ := bcell3 hb1; refine Blk.thru (b := w.heap.size) (arr := ?_) (t := ?_) ?_ hb1 ?_; rotate_left 2; (focus (repeat (first | with_reducible assumption | ((with_reducible refine Blk.new' ?_); first | with_reducible rfl | (simp; done) | (simp [World.drew]; done)) | with_reducible refine Blk.alloc ?_ _ | ((with_reducible refine Blk.set (arr := ?_) ?_ _ _); rotate_left 1) | ((with_reducible refine Blk.other ?_ ?_ _); rotate_left 1; (focus (first | (simp; done) | (simp; omega) | (refine Nat.ne_of_gt (Blk.lt (arr := ?_) (t := ?_) ?_); rotate_left 2; focus (repeat (first | with_reducible assumption | ((with_reducible refine Blk.new' ?_); first | with_reducible rfl | (simp; done) | (simp [World.drew]; done)) | with_reducible refine Blk.alloc ?_ _ | with_reducible refine Blk.keep ?_ (by with_reducible assumption) | with_reducible refine Blk.drew ?_))) | (refine Nat.ne_of_lt (Blk.lt (arr := ?_) (t := ?_) ?_); rotate_left 2; focus (repeat (first | with_reducible assumption | ((with_reducible refine Blk.new' ?_); first | with_reducible rfl | (simp; done) | (simp [World.drew]; done)) | with_reducible refine Blk.alloc ?_ _ | with_reducible refine Blk.keep ?_ (by with_reducible assumption) | with_reducible refine Blk.drew ?_)))))) | with_reducible refine Blk.keep ?_ (by with_reducible assumption) | with_reducible refine Blk.drew ?_))); intro qm; have qmc0 := qm.cell 0; have qmf0 := qm.free 0; have qmc1 := qm.cell 1; have qmf1 := qm.free 1; have qmc2 := qm.cell 2; have qmf2 := qm.free 2; have qml := qm.lt; simp at qmc0 qmc1 qmc2) | (go_at_call 64; (with_reducible refine (r_limit m _).mono ?_); rw [HL.out]; rintro e w1 ⟨rfl, hb1⟩; obtain ⟨hc1, hf1, hl1⟩ := bcell3 hb1; refine Blk.thru (b := w.heap.size) (arr := ?_) (t := ?_) ?_ hb1 ?_; rotate_left 2; (focus (repeat (first | with_reducible assumption | ((with_reducible refine Blk.new' ?_); first | with_reducible rfl | (simp; done) | (simp [World.drew]; done)) | with_reducible refine Blk.alloc ?_ _ | ((with_reducible refine Blk.set (arr := ?_) ?_ _ _); rotate_left 1) | ((with_reducible refine Blk.other ?_ ?_ _); rotate_left 1; (focus (first | (simp; done) | (simp; omega) | (refine Nat.ne_of_gt (Blk.lt (arr := ?_) (t := ?_) ?_); rotate_left 2; focus (repeat (first | with_reducible assumption | ((with_reducible refine Blk.new' ?_); first | with_reducible rfl | (simp; done) | (simp [World.drew]; done)) | with_reducible refine Blk.alloc ?_ _ | with_reducible refine Blk.keep ?_ (by with_reducible assumption) | with_reducible refine Blk.drew ?_))) | (refine Nat.ne_of_lt (Blk.lt (arr := ?_) (t := ?_) ?_); rotate_left 2; focus (repeat (first | with_reducible assumption | ((with_reducible refine Blk.new' ?_); first | with_reducible rfl | (simp; done) | (simp [World.drew]; done)) | with_reducible refine Blk.alloc ?_ _ | with_reducible refine Blk.keep ?_ (by with_reducible assumption) | with_reducible refine Blk.drew ?_)))))) | with_reducible refine Blk.keep ?_ (by with_reducible assumption) | with_reducible refine Blk.drew ?_))); intro qm; have qmc0 := qm.cell 0; have qmf0 := qm.free 0; have qmc1 := qm.cell 1; have qmf1 := qm.free 1; have qmc2 := qm.cell 2; have qmf2 := qm.free 2; have qml := qm.lt; simp at qmc0 qmc1 qmc2))
      exact bodyPost_ret (by simp [results, Try.results34, go_sem]) rfl ⟨_, rfl, owns_nil (α := Put) (enc := Put.cells), by (repeat (first | with_reducible exact Below.refl _ _ | with_reducible assumption | with_reducible refine Kept.drop ?_ (by with_reducible assumption) | with_reducible refine Kept.alloc ?_ _ | ((with_reducible refine Below.setCell ?_ ?_ _); rotate_left 1; (focus (first | exact Nat.le_refl _ | (simp; done) | (simp; omega) | exact Below.size (by with_reducible assumption) | (refine Kept.size ?_; (repeat (first | with_reducible exact Below.refl _ _ | with_reducible assumption | with_reducible refine Kept.drop ?_ (by with_reducible assumption) | with_reducible refine Kept.alloc ?_ _ | with_reducible refine Below.drew ?_)))))) | with_reducible refine Below.drew ?_))⟩
    · have hE : worstE m xs = 0 := by unfold worstE; rw [if_pos he, if_pos hl]
      rw [hE, show ifOk 0 (worstV m xs) = worstV m xs from rfl]
      obtain ⟨hn, hv⟩ := checkLoads_ok he
      have HCL := Lib.hid (show (choice m xs).length ≤ 60 by rw [choice_len]; omega)
      have HCP := Lib.hid (show ∀ p ∈ choice m xs, putB p from fun p hp => by obtain ⟨x, hx, rfl⟩ := List.mem_map.1 hp; exact corner_B (hv x hx) (best_mem m x))
      have HN := Lib.hid hn
      have HV := Lib.hid hv
      have HE := Lib.hid he
      have HL := Lib.hid hl
      clear he hl hE hv hn
      go_enter Try.func34, Try.ntmps34
      go_wp2_with (first | (go_at_call 20; (with_reducible refine (r_CheckLoads _ _ _ _ (hx.later (by (repeat (first | with_reducible exact Below.refl _ _ | with_reducible assumption | with_reducible refine Kept.drop ?_ (by with_reducible assumption) | with_reducible refine Kept.alloc ?_ _ | ((with_reducible refine Below.setCell ?_ ?_ _); rotate_left 1; (focus (first | exact Nat.le_refl _ | (simp; done) | (simp; omega) | exact Below.size (by with_reducible assumption) | (refine Kept.size ?_; (repeat (first | with_reducible exact Below.refl _ _ | with_reducible assumption | with_reducible refine Kept.drop ?_ (by with_reducible assumption) | with_reducible refine Kept.alloc ?_ _ | with_reducible refine Below.drew ?_)))))) | with_reducible refine Below.drew ?_))) (Nat.le_refl _)) hc hM).mono ?_); rw [HE.out]; rintro e w1 ⟨rfl, hb1⟩; obtain ⟨hc1, hf1, hl1⟩ := bcell3 hb1; refine Blk.thru (b := w.heap.size) (arr := ?_) (t := ?_) ?_ hb1 ?_; rotate_left 2; (focus (repeat (first | with_reducible assumption | ((with_reducible refine Blk.new' ?_); first | with_reducible rfl | (simp; done) | (simp [World.drew]; done)) | with_reducible refine Blk.alloc ?_ _ | ((with_reducible refine Blk.set (arr := ?_) ?_ _ _); rotate_left 1) | ((with_reducible refine Blk.other ?_ ?_ _); rotate_left 1; (focus (first | (simp; done) | (simp; omega) | (refine Nat.ne_of_gt (Blk.lt (arr := ?_) (t := ?_) ?_); rotate_left 2; focus (repeat (first | with_reducible assumption | ((with_reducible refine Blk.new' ?_); first | with_reducible rfl | (simp; done) | (simp [World.drew]; done)) | with_reducible refine Blk.alloc ?_ _ | with_reducible refine Blk.keep ?_ (by with_reducible assumption) | with_reducible refine Blk.drew ?_))) | (refine Nat.ne_of_lt (Blk.lt (arr := ?_) (t := ?_) ?_); rotate_left 2; focus (repeat (first | with_reducible assumption | ((with_reducible refine Blk.new' ?_); first | with_reducible rfl | (simp; done) | (simp [World.drew]; done)) | with_reducible refine Blk.alloc ?_ _ | with_reducible refine Blk.keep ?_ (by with_reducible assumption) | with_reducible refine Blk.drew ?_)))))) | with_reducible refine Blk.keep ?_ (by with_reducible assumption) | with_reducible refine Blk.drew ?_))); intro qm; have qmc0 := qm.cell 0; have qmf0 := qm.free 0; have qmc1 := qm.cell 1; have qmf1 := qm.free 1; have qmc2 := qm.cell 2; have qmf2 := qm.free 2; have qml := qm.lt; simp at qmc0 qmc1 qmc2) | (go_at_call 64; (with_reducible refine (r_limit m _).mono ?_); rw [HL.out]; rintro e w1 ⟨rfl, hb1⟩; obtain ⟨hc1, hf1, hl1⟩ := bcell3 hb1; refine Blk.thru (b := w.heap.size) (arr := ?_) (t := ?_) ?_ hb1 ?_; rotate_left 2; (focus (repeat (first | with_reducible assumption | ((with_reducible refine Blk.new' ?_); first | with_reducible rfl | (simp; done) | (simp [World.drew]; done)) | with_reducible refine Blk.alloc ?_ _ | ((with_reducible refine Blk.set (arr := ?_) ?_ _ _); rotate_left 1) | ((with_reducible refine Blk.other ?_ ?_ _); rotate_left 1; (focus (first | (simp; done) | (simp; omega) | (refine Nat.ne_of_gt (Blk.lt (arr := ?_) (t := ?_) ?_); rotate_left 2; focus (repeat (first | with_reducible assumption | ((with_reducible refine Blk.new' ?_); first | with_reducible rfl | (simp; done) | (simp [World.drew]; done)) | with_reducible refine Blk.alloc ?_ _ | with_reducible refine Blk.keep ?_ (by with_reducible assumption) | with_reducible refine Blk.drew ?_))) | (refine Nat.ne_of_lt (Blk.lt (arr := ?_) (t := ?_) ?_); rotate_left 2; focus (repeat (first | with_reducible assumption | ((with_reducible refine Blk.new' ?_); first | with_reducible rfl | (simp; done) | (simp [World.drew]; done)) | with_reducible refine Blk.alloc ?_ _ | with_reducible refine Blk.keep ?_ (by with_reducible assumption) | with_reducible refine Blk.drew ?_)))))) | with_reducible refine Blk.keep ?_ (by with_reducible assumption) | with_reducible refine Blk.drew ?_))); intro qm; have qmc0 := qm.cell 0; have qmf0 := qm.free 0; have qmc1 := qm.cell 1; have qmf1 := qm.free 1; have qmc2 := qm.cell 2; have qmf2 := qm.free 2; have qml := qm.lt; simp at qmc0 qmc1 qmc2) | (go_at_call 75; (with_reducible refine (r_worst m _ _ xs _ (hx.later (by (repeat (first | with_reducible exact Below.refl _ _ | with_reducible assumption | with_reducible refine Kept.drop ?_ (by with_reducible assumption) | with_reducible refine Kept.alloc ?_ _ | ((with_reducible refine Below.setCell ?_ ?_ _); rotate_left 1; (focus (first | exact Nat.le_refl _ | (simp; done) | (simp; omega) | exact Below.size (by with_reducible assumption) | (refine Kept.size ?_; (repeat (first | with_reducible exact Below.refl _ _ | with_reducible assumption | with_reducible refine Kept.drop ?_ (by with_reducible assumption) | with_reducible refine Kept.alloc ?_ _ | with_reducible refine Below.drew ?_)))))) | with_reducible refine Below.drew ?_))) (Nat.le_refl _)) hc hM HN.out HL.out HV.out).mono ?_); rintro e w2 ⟨v, rfl, ho, hb2⟩; obtain ⟨ad, cp, rfl, hrow, hcp, hcm⟩ := owns_row (enc := Put.cells) (k := 2) (fun _ => rfl) ho; refine Blk.thru (b := w.heap.size) (arr := ?_) (t := ?_) ?_ hb2 ?_; rotate_left 2; (focus (repeat (first | with_reducible assumption | ((with_reducible refine Blk.new' ?_); first | with_reducible rfl | (simp; done) | (simp [World.drew]; done)) | with_reducible refine Blk.alloc ?_ _ | ((with_reducible refine Blk.set (arr := ?_) ?_ _ _); rotate_left 1) | ((with_reducible refine Blk.other ?_ ?_ _); rotate_left 1; (focus (first | (simp; done) | (simp; omega) | (refine Nat.ne_of_gt (Blk.lt (arr := ?_) (t := ?_) ?_); rotate_left 2; focus (repeat (first | with_reducible assumption | ((with_reducible refine Blk.new' ?_); first | with_reducible rfl | (simp; done) | (simp [World.drew]; done)) | with_reducible refine Blk.alloc ?_ _ | with_reducible refine Blk.keep ?_ (by with_reducible assumption) | with_reducible refine Blk.drew ?_))) | (refine Nat.ne_of_lt (Blk.lt (arr := ?_) (t := ?_) ?_); rotate_left 2; focus (repeat (first | with_reducible assumption | ((with_reducible refine Blk.new' ?_); first | with_reducible rfl | (simp; done) | (simp [World.drew]; done)) | with_reducible refine Blk.alloc ?_ _ | with_reducible refine Blk.keep ?_ (by with_reducible assumption) | with_reducible refine Blk.drew ?_)))))) | with_reducible refine Blk.keep ?_ (by with_reducible assumption) | with_reducible refine Blk.drew ?_))); intro qm; have qmc0 := qm.cell 0; have qmf0 := qm.free 0; have qmc1 := qm.cell 1; have qmf1 := qm.free 1; have qmc2 := qm.cell 2; have qmf2 := qm.free 2; have qml := qm.lt; simp at qmc0 qmc1 qmc2) | (go_at_call 77; (with_reducible refine (r_Value m _ _ _ (choice m xs) _ rfl (hrow.later (by (repeat (first | with_reducible exact Below.refl _ _ | with_reducible assumption | with_reducible refine Kept.drop ?_ (by with_reducible assumption) | with_reducible refine Kept.alloc ?_ _ | ((with_reducible refine Below.setCell ?_ ?_ _); rotate_left 1; (focus (first | exact Nat.le_refl _ | (simp; done) | (simp; omega) | exact Below.size (by with_reducible assumption) | (refine Kept.size ?_; (repeat (first | with_reducible exact Below.refl _ _ | with_reducible assumption | with_reducible refine Kept.drop ?_ (by with_reducible assumption) | with_reducible refine Kept.alloc ?_ _ | with_reducible refine Below.drew ?_)))))) | with_reducible refine Below.drew ?_))) (Nat.le_refl _)) HCL.out HL.out HCP.out).mono ?_); rintro e w3 ⟨rfl, hb3⟩))
      exact bodyPost_ret (v := .tuple #[.int .i64 (value m (choice m xs)), .slice ad (choice m xs).length cp, .int .i64 0]) (by simp [results, Try.results34, go_sem]) rfl ⟨_, rfl, owns_keep (owns_base ho (Below.size (by (repeat (first | with_reducible exact Below.refl _ _ | with_reducible assumption | with_reducible refine Kept.drop ?_ (by with_reducible assumption) | with_reducible refine Kept.alloc ?_ _ | ((with_reducible refine Below.setCell ?_ ?_ _); rotate_left 1; (focus (first | exact Nat.le_refl _ | (simp; done) | (simp; omega) | exact Below.size (by with_reducible assumption) | (refine Kept.size ?_; (repeat (first | with_reducible exact Below.refl _ _ | with_reducible assumption | with_reducible refine Kept.drop ?_ (by with_reducible assumption) | with_reducible refine Kept.alloc ?_ _ | with_reducible refine Below.drew ?_)))))) | with_reducible refine Below.drew ?_))))) hb3, by (repeat (first | with_reducible exact Below.refl _ _ | with_reducible assumption | with_reducible refine Kept.drop ?_ (by with_reducible assumption) | with_reducible refine Kept.alloc ?_ _ | ((with_reducible refine Below.setCell ?_ ?_ _); rotate_left 1; (focus (first | exact Nat.le_refl _ | (simp; done) | (simp; omega) | exact Below.size (by with_reducible assumption) | (refine Kept.size ?_; (repeat (first | with_reducible exact Below.refl _ _ | with_reducible assumption | with_reducible refine Kept.drop ?_ (by with_reducible assumption) | with_reducible refine Kept.alloc ?_ _ | with_reducible refine Below.drew ?_)))))) | with_reducible refine Below.drew ?_))⟩
  · have hE : worstE m xs = checkLoads xs := if_neg he
    rw [hE, if_neg he]
    have hb : (checkLoads xs != 0) = true := by simp [he]
    have HI := Lib.hid (show ifOk (checkLoads xs) (worstV m xs) = 0 from if_neg he)
    obtain ⟨E, hEE⟩ : ∃ E, E = checkLoads xs := ⟨_, rfl⟩
    have HE := Lib.hid hEE.symm
    rw [HI.out]
    rw [← hEE] at he hb ⊢
    clear hEE hE
    go_enter Try.func34, Try.ntmps34
    go_wp2_with (go_at_call 20; (with_reducible refine (r_CheckLoads _ _ _ _ (hx.later (by (repeat (first | with_reducible exact Below.refl _ _ | with_reducible assumption | with_reducible refine Kept.drop ?_ (by with_reducible assumption) | with_reducible refine Kept.alloc ?_ _ | ((with_reducible refine Below.setCell ?_ ?_ _); rotate_left 1; (focus (first | exact Nat.le_refl _ | (simp; done) | (simp; omega) | exact Below.size (by with_reducible assumption) | (refine Kept.size ?_; (repeat (first | with_reducible exact Below.refl _ _ | with_reducible assumption | with_reducible refine Kept.drop ?_ (by with_reducible assumption) | with_reducible refine Kept.alloc ?_ _ | with_reducible refine Below.drew ?_)))))) | with_reducible refine Below.drew ?_))) (Nat.le_refl _)) hc hM).mono ?_); rw [HE.out]; rintro e w1 ⟨rfl, hb1⟩; obtain ⟨hc1, hf1, hl1⟩ := bcell3 hb1; refine Blk.thru (b := w.heap.size) (arr := ?_) (t := ?_) ?_ hb1 ?_; rotate_left 2; (focus (repeat (first | with_reducible assumption | ((with_reducible refine Blk.new' ?_); first | with_reducible rfl | (simp; done) | (simp [World.drew]; done)) | with_reducible refine Blk.alloc ?_ _ | ((with_reducible refine Blk.set (arr := ?_) ?_ _ _); rotate_left 1) | ((with_reducible refine Blk.other ?_ ?_ _); rotate_left 1; (focus (first | (simp; done) | (simp; omega) | (refine Nat.ne_of_gt (Blk.lt (arr := ?_) (t := ?_) ?_); rotate_left 2; focus (repeat (first | with_reducible assumption | ((with_reducible refine Blk.new' ?_); first | with_reducible rfl | (simp; done) | (simp [World.drew]; done)) | with_reducible refine Blk.alloc ?_ _ | with_reducible refine Blk.keep ?_ (by with_reducible assumption) | with_reducible refine Blk.drew ?_))) | (refine Nat.ne_of_lt (Blk.lt (arr := ?_) (t := ?_) ?_); rotate_left 2; focus (repeat (first | with_reducible assumption | ((with_reducible refine Blk.new' ?_); first | with_reducible rfl | (simp; done) | (simp [World.drew]; done)) | with_reducible refine Blk.alloc ?_ _ | with_reducible refine Blk.keep ?_ (by with_reducible assumption) | with_reducible refine Blk.drew ?_)))))) | with_reducible refine Blk.keep ?_ (by with_reducible assumption) | with_reducible refine Blk.drew ?_))); intro qm; have qmc0 := qm.cell 0; have qmf0 := qm.free 0; have qmc1 := qm.cell 1; have qmf1 := qm.free 1; have qmc2 := qm.cell 2; have qmf2 := qm.free 2; have qml := qm.lt; simp at qmc0 qmc1 qmc2)
    exact bodyPost_ret (by simp [results, Try.results34, go_sem]) rfl ⟨_, rfl, owns_nil (α := Put) (enc := Put.cells), by (repeat (first | with_reducible exact Below.refl _ _ | with_reducible assumption | with_reducible refine Kept.drop ?_ (by with_reducible assumption) | with_reducible refine Kept.alloc ?_ _ | ((with_reducible refine Below.setCell ?_ ?_ _); rotate_left 1; (focus (first | exact Nat.le_refl _ | (simp; done) | (simp; omega) | exact Below.size (by with_reducible assumption) | (refine Kept.size ?_; (repeat (first | with_reducible exact Below.refl _ _ | with_reducible assumption | with_reducible refine Kept.drop ?_ (by with_reducible assumption) | with_reducible refine Kept.alloc ?_ _ | with_reducible refine Below.drew ?_)))))) | with_reducible refine Below.drew ?_))⟩

/-- the products at the corners, and the least and the greatest of the first of them -/
def prodK (x : Load) : Nat → Int
  | 0 => x.alo * x.wlo
  | 1 => x.ahi * x.wlo
  | 2 => x.alo * x.whi
  | _ => x.ahi * x.whi
def loK (x : Load) : Nat → Int
  | 0 => prodK x 0
  | j + 1 => min (loK x j) (prodK x (j + 1))
def hiK (x : Load) : Nat → Int
  | 0 => prodK x 0
  | j + 1 => max (hiK x j) (prodK x (j + 1))
theorem loK3 (x : Load) : loK x 3 = mLo x := by
  simp only [loK, prodK, mLo, tLo]
  omega
theorem hiK3 (x : Load) : hiK x 3 = mHi x := by
  simp only [hiK, prodK, mHi, tHi]
  omega
theorem prodK_bd {x : Load} (h : loadB x = true) (j : Nat) : -30000000000000 ≤ prodK x j ∧ prodK x j ≤ 30000000000000 := by
  have h := loadB_bd h
  match j with
  | 0 => have := mul_bd (A := 20000) (B := 1073741824) (x := x.alo) (y := x.wlo) (by omega) (by omega) (by omega) (by omega); simp only [prodK]; omega
  | 1 => have := mul_bd (A := 20000) (B := 1073741824) (x := x.ahi) (y := x.wlo) (by omega) (by omega) (by omega) (by omega); simp only [prodK]; omega
  | 2 => have := mul_bd (A := 20000) (B := 1073741824) (x := x.alo) (y := x.whi) (by omega) (by omega) (by omega) (by omega); simp only [prodK]; omega
  | (n + 3) => have := mul_bd (A := 20000) (B := 1073741824) (x := x.ahi) (y := x.whi) (by omega) (by omega) (by omega) (by omega); simp only [prodK]; omega
theorem loK_bd {x : Load} (h : loadB x = true) : ∀ j, -30000000000000 ≤ loK x j ∧ loK x j ≤ 30000000000000
  | 0 => prodK_bd h 0
  | j + 1 => by have h1 := loK_bd h j; have h2 := prodK_bd h (j + 1); simp only [loK]; omega
theorem hiK_bd {x : Load} (h : loadB x = true) : ∀ j, -30000000000000 ≤ hiK x j ∧ hiK x j ≤ 30000000000000
  | 0 => prodK_bd h 0
  | j + 1 => by have h1 := hiK_bd h j; have h2 := prodK_bd h (j + 1); simp only [hiK]; omega
def RBal (w w1 : World) (xs : List Load) (i : Value) (wr : World) : Prop :=
  ∃ k : Nat, k ≤ xs.length ∧ i = .int .i64 k ∧ Blk wr w1.heap.size #[.int .i64 (sumBy Load.wlo (xs.take k)), .int .i64 (sumBy Load.whi (xs.take k))] 49 ∧ Blk wr (w1.heap.size + 1) #[.int .i64 (sumBy mLo (xs.take k)), .int .i64 (sumBy mHi (xs.take k))] 49 ∧
    Blk wr w.heap.size #[.int .i64 0, .int .i64 0] 49 ∧ Blk wr (w.heap.size + 1) #[.int .i64 0, .int .i64 0] 49 ∧ Kept w wr
def RBalIn (w w1 : World) (x : Load) (bc : Nat) (A B C D : Int) (lo hi i : Value) (wr : World) : Prop :=
  ∃ j : Nat, j ≤ 3 ∧ i = .int .i64 (1 + j) ∧ lo = .int .i64 (loK x j) ∧ hi = .int .i64 (hiK x j) ∧ Blk wr bc #[.int .i64 x.alo, .int .i64 x.wlo, .int .i64 x.ahi, .int .i64 x.wlo, .int .i64 x.alo, .int .i64 x.whi, .int .i64 x.ahi, .int .i64 x.whi] 85 ∧ Blk wr w1.heap.size #[.int .i64 A, .int .i64 B] 49 ∧ Blk wr (w1.heap.size + 1) #[.int .i64 C, .int .i64 D] 49 ∧
    Blk wr w.heap.size #[.int .i64 0, .int .i64 0] 49 ∧ Blk wr (w.heap.size + 1) #[.int .i64 0, .int .i64 0] 49 ∧ Kept w wr

theorem r_Balance (a : Option Addr) (cap : Nat) (xs : List Load) (w : World) (hx : Row Load.cells 4 w.heap.size w a xs) (hc : xs.length ≤ cap) (hM : cap ≤ maxLen) :
    Calls Try.prog 32 #[.slice a xs.length cap] w fun e w' => e = .returned (.tuple #[.agg #[.int .i64 (ifOk (checkLoads xs) (sumBy Load.wlo xs)), .int .i64 (ifOk (checkLoads xs) (sumBy Load.whi xs))], .agg #[.int .i64 (ifOk (checkLoads xs) (sumBy mLo xs)), .int .i64 (ifOk (checkLoads xs) (sumBy mHi xs))], .int .i64 (checkLoads xs)]) ∧ Kept w w' := by
  by_cases he : checkLoads xs = 0
  · obtain ⟨hn, hv⟩ := checkLoads_ok he
    have HE := Lib.hid he
    have HV := Lib.hid hv
    have z : ∀ v, ifOk (checkLoads xs) v = v := fun v => if_pos he
    simp only [z]
    rw [he]
    have S1 := Lib.hid (fun k => sumBy_take_bd Load.wlo 50000000000000 2000000000000000 xs 40 hn (by omega) (by omega) (fun x h => (bal1_bd x (hv x h)).1) k)
    have S2 := Lib.hid (fun k => sumBy_take_bd Load.whi 50000000000000 2000000000000000 xs 40 hn (by omega) (by omega) (fun x h => (bal1_bd x (hv x h)).2) k)
    have S3 := Lib.hid (fun k => sumBy_take_bd mLo 50000000000000 2000000000000000 xs 40 hn (by omega) (by omega) (fun x h => (bal2_bd x (hv x h)).1) k)
    have S4 := Lib.hid (fun k => sumBy_take_bd mHi 50000000000000 2000000000000000 xs 40 hn (by omega) (by omega) (fun x h => (bal2_bd x (hv x h)).2) k)
    clear he z hv
    have hM' := hM
    unfold maxLen at hM'
    go_enter Try.func32, Try.ntmps32
    go_wp2_with (go_at_call 20; (with_reducible refine (r_CheckLoads _ _ _ _ (hx.later (by (repeat (first | with_reducible exact Below.refl _ _ | with_reducible assumption | with_reducible refine Kept.drop ?_ (by with_reducible assumption) | with_reducible refine Kept.alloc ?_ _ | ((with_reducible refine Below.setCell ?_ ?_ _); rotate_left 1; (focus (first | exact Nat.le_refl _ | (simp; done) | (simp; omega) | exact Below.size (by with_reducible assumption) | (refine Kept.size ?_; (repeat (first | with_reducible exact Below.refl _ _ | with_reducible assumption | with_reducible refine Kept.drop ?_ (by with_reducible assumption) | with_reducible refine Kept.alloc ?_ _ | with_reducible refine Below.drew ?_)))))) | with_reducible refine Below.drew ?_))) (Nat.le_refl _)) hc hM).mono ?_); rw [HE.out]; rintro e w1 ⟨rfl, hb1⟩; have hs1 := hb1.size; simp at hs1; refine Blk.thru (b := w.heap.size) (arr := ?_) (t := ?_) ?_ hb1 ?_; rotate_left 2; (focus (repeat (first | with_reducible assumption | ((with_reducible refine Blk.new' ?_); first | with_reducible rfl | (simp; done) | (simp [World.drew]; done)) | with_reducible refine Blk.alloc ?_ _ | ((with_reducible refine Blk.set (arr := ?_) ?_ _ _); rotate_left 1) | ((with_reducible refine Blk.other ?_ ?_ _); rotate_left 1; (focus (first | (simp; done) | (simp; omega) | (refine Nat.ne_of_gt (Blk.lt (arr := ?_) (t := ?_) ?_); rotate_left 2; focus (repeat (first | with_reducible assumption | ((with_reducible refine Blk.new' ?_); first | with_reducible rfl | (simp; done) | (simp [World.drew]; done)) | with_reducible refine Blk.alloc ?_ _ | with_reducible refine Blk.keep ?_ (by with_reducible assumption) | with_reducible refine Blk.drew ?_))) | (refine Nat.ne_of_lt (Blk.lt (arr := ?_) (t := ?_) ?_); rotate_left 2; focus (repeat (first | with_reducible assumption | ((with_reducible refine Blk.new' ?_); first | with_reducible rfl | (simp; done) | (simp [World.drew]; done)) | with_reducible refine Blk.alloc ?_ _ | with_reducible refine Blk.keep ?_ (by with_reducible assumption) | with_reducible refine Blk.drew ?_)))))) | with_reducible refine Blk.keep ?_ (by with_reducible assumption) | with_reducible refine Blk.drew ?_))); intro r0; have r0c0 := r0.cell 0; have r0f0 := r0.free 0; have r0c1 := r0.cell 1; have r0f1 := r0.free 1; have r0l := r0.lt; simp at r0c0 r0c1; refine Blk.thru (b := w.heap.size + 1) (arr := ?_) (t := ?_) ?_ hb1 ?_; rotate_left 2; (focus (repeat (first | with_reducible assumption | ((with_reducible refine Blk.new' ?_); first | with_reducible rfl | (simp; done) | (simp [World.drew]; done)) | with_reducible refine Blk.alloc ?_ _ | ((with_reducible refine Blk.set (arr := ?_) ?_ _ _); rotate_left 1) | ((with_reducible refine Blk.other ?_ ?_ _); rotate_left 1; (focus (first | (simp; done) | (simp; omega) | (refine Nat.ne_of_gt (Blk.lt (arr := ?_) (t := ?_) ?_); rotate_left 2; focus (repeat (first | with_reducible assumption | ((with_reducible refine Blk.new' ?_); first | with_reducible rfl | (simp; done) | (simp [World.drew]; done)) | with_reducible refine Blk.alloc ?_ _ | with_reducible refine Blk.keep ?_ (by with_reducible assumption) | with_reducible refine Blk.drew ?_))) | (refine Nat.ne_of_lt (Blk.lt (arr := ?_) (t := ?_) ?_); rotate_left 2; focus (repeat (first | with_reducible assumption | ((with_reducible refine Blk.new' ?_); first | with_reducible rfl | (simp; done) | (simp [World.drew]; done)) | with_reducible refine Blk.alloc ?_ _ | with_reducible refine Blk.keep ?_ (by with_reducible assumption) | with_reducible refine Blk.drew ?_)))))) | with_reducible refine Blk.keep ?_ (by with_reducible assumption) | with_reducible refine Blk.drew ?_))); intro r1; have r1c0 := r1.cell 0; have r1f0 := r1.free 0; have r1c1 := r1.cell 1; have r1f1 := r1.free 1; have r1l := r1.lt; simp at r1c0 r1c1)
    go_loopw [8] (fun i wr => RBal w w1 xs i wr) (fun i _ => xs.length - (intOf i).toNat)
    case atStart => exact ⟨0, Nat.zero_le _, rfl, by (refine Blk.cast (arr := ?_) ?_ ?_; rotate_left 1; (focus (repeat (first | with_reducible assumption | ((with_reducible refine Blk.new' ?_); first | with_reducible rfl | (simp; done) | (simp [World.drew]; done)) | with_reducible refine Blk.alloc ?_ _ | ((with_reducible refine Blk.set (arr := ?_) ?_ _ _); rotate_left 1) | ((with_reducible refine Blk.other ?_ ?_ _); rotate_left 1; (focus (first | (simp; done) | (simp; omega) | (refine Nat.ne_of_gt (Blk.lt (arr := ?_) (t := ?_) ?_); rotate_left 2; focus (repeat (first | with_reducible assumption | ((with_reducible refine Blk.new' ?_); first | with_reducible rfl | (simp; done) | (simp [World.drew]; done)) | with_reducible refine Blk.alloc ?_ _ | with_reducible refine Blk.keep ?_ (by with_reducible assumption) | with_reducible refine Blk.drew ?_))) | (refine Nat.ne_of_lt (Blk.lt (arr := ?_) (t := ?_) ?_); rotate_left 2; focus (repeat (first | with_reducible assumption | ((with_reducible refine Blk.new' ?_); first | with_reducible rfl | (simp; done) | (simp [World.drew]; done)) | with_reducible refine Blk.alloc ?_ _ | with_reducible refine Blk.keep ?_ (by with_reducible assumption) | with_reducible refine Blk.drew ?_)))))) | with_reducible refine Blk.keep ?_ (by with_reducible assumption) | with_reducible refine Blk.drew ?_))); (first | rfl | (simp; done))), by (refine Blk.cast (arr := ?_) ?_ ?_; rotate_left 1; (focus (repeat (first | with_reducible assumption | ((with_reducible refine Blk.new' ?_); first | with_reducible rfl | (simp; done) | (simp [World.drew]; done)) | with_reducible refine Blk.alloc ?_ _ | ((with_reducible refine Blk.set (arr := ?_) ?_ _ _); rotate_left 1) | ((with_reducible refine Blk.other ?_ ?_ _); rotate_left 1; (focus (first | (simp; done) | (simp; omega) | (refine Nat.ne_of_gt (Blk.lt (arr := ?_) (t := ?_) ?_); rotate_left 2; focus (repeat (first | with_reducible assumption | ((with_reducible refine Blk.new' ?_); first | with_reducible rfl | (simp; done) | (simp [World.drew]; done)) | with_reducible refine Blk.alloc ?_ _ | with_reducible refine Blk.keep ?_ (by with_reducible assumption) | with_reducible refine Blk.drew ?_))) | (refine Nat.ne_of_lt (Blk.lt (arr := ?_) (t := ?_) ?_); rotate_left 2; focus (repeat (first | with_reducible assumption | ((with_reducible refine Blk.new' ?_); first | with_reducible rfl | (simp; done) | (simp [World.drew]; done)) | with_reducible refine Blk.alloc ?_ _ | with_reducible refine Blk.keep ?_ (by with_reducible assumption) | with_reducible refine Blk.drew ?_)))))) | with_reducible refine Blk.keep ?_ (by with_reducible assumption) | with_reducible refine Blk.drew ?_))); (first | rfl | (simp; done))), by (repeat (first | with_reducible assumption | ((with_reducible refine Blk.new' ?_); first | with_reducible rfl | (simp; done) | (simp [World.drew]; done)) | with_reducible refine Blk.alloc ?_ _ | ((with_reducible refine Blk.set (arr := ?_) ?_ _ _); rotate_left 1) | ((with_reducible refine Blk.other ?_ ?_ _); rotate_left 1; (focus (first | (simp; done) | (simp; omega) | (refine Nat.ne_of_gt (Blk.lt (arr := ?_) (t := ?_) ?_); rotate_left 2; focus (repeat (first | with_reducible assumption | ((with_reducible refine Blk.new' ?_); first | with_reducible rfl | (simp; done) | (simp [World.drew]; done)) | with_reducible refine Blk.alloc ?_ _ | with_reducible refine Blk.keep ?_ (by with_reducible assumption) | with_reducible refine Blk.drew ?_))) | (refine Nat.ne_of_lt (Blk.lt (arr := ?_) (t := ?_) ?_); rotate_left 2; focus (repeat (first | with_reducible assumption | ((with_reducible refine Blk.new' ?_); first | with_reducible rfl | (simp; done) | (simp [World.drew]; done)) | with_reducible refine Blk.alloc ?_ _ | with_reducible refine Blk.keep ?_ (by with_reducible assumption) | with_reducible refine Blk.drew ?_)))))) | with_reducible refine Blk.keep ?_ (by with_reducible assumption) | with_reducible refine Blk.drew ?_)), by (repeat (first | with_reducible assumption | ((with_reducible refine Blk.new' ?_); first | with_reducible rfl | (simp; done) | (simp [World.drew]; done)) | with_reducible refine Blk.alloc ?_ _ | ((with_reducible refine Blk.set (arr := ?_) ?_ _ _); rotate_left 1) | ((with_reducible refine Blk.other ?_ ?_ _); rotate_left 1; (focus (first | (simp; done) | (simp; omega) | (refine Nat.ne_of_gt (Blk.lt (arr := ?_) (t := ?_) ?_); rotate_left 2; focus (repeat (first | with_reducible assumption | ((with_reducible refine Blk.new' ?_); first | with_reducible rfl | (simp; done) | (simp [World.drew]; done)) | with_reducible refine Blk.alloc ?_ _ | with_reducible refine Blk.keep ?_ (by with_reducible assumption) | with_reducible refine Blk.drew ?_))) | (refine Nat.ne_of_lt (Blk.lt (arr := ?_) (t := ?_) ?_); rotate_left 2; focus (repeat (first | with_reducible assumption | ((with_reducible refine Blk.new' ?_); first | with_reducible rfl | (simp; done) | (simp [World.drew]; done)) | with_reducible refine Blk.alloc ?_ _ | with_reducible refine Blk.keep ?_ (by with_reducible assumption) | with_reducible refine Blk.drew ?_)))))) | with_reducible refine Blk.keep ?_ (by with_reducible assumption) | with_reducible refine Blk.drew ?_)), by (repeat (first | with_reducible exact Below.refl _ _ | with_reducible assumption | with_reducible refine Kept.drop ?_ (by with_reducible assumption) | with_reducible refine Kept.alloc ?_ _ | ((with_reducible refine Below.setCell ?_ ?_ _); rotate_left 1; (focus (first | exact Nat.le_refl _ | (simp; done) | (simp; omega) | exact Below.size (by with_reducible assumption) | (refine Kept.size ?_; (repeat (first | with_reducible exact Below.refl _ _ | with_reducible assumption | with_reducible refine Kept.drop ?_ (by with_reducible assumption) | with_reducible refine Kept.alloc ?_ _ | with_reducible refine Below.drew ?_)))))) | with_reducible refine Below.drew ?_))⟩
    case round =>
      clear r0c0 r0c1 r0f0 r0f1 r0l r1c0 r1c1 r1f0 r1f1 r1l r0 r1
      obtain ⟨k, hk, rfl, q2, q3, q0, q1, hkk⟩ := hrel
      by_cases hlt : k < xs.length
      · obtain ⟨b, off, rfl, hb, h0, h1, h2, h3⟩ := Load.row hx k hlt
        have HX := Lib.hid (HV.out xs[k] (List.getElem_mem hlt))
        have T1 := Lib.hid (sumBy_take Load.wlo xs k hlt)
        have T2 := Lib.hid (sumBy_take Load.whi xs k hlt)
        have T3 := Lib.hid (sumBy_take mLo xs k hlt)
        have T4 := Lib.hid (sumBy_take mHi xs k hlt)
        obtain ⟨x, hx0⟩ : ∃ x, x = xs[k] := ⟨_, rfl⟩
        rw [← hx0] at HX T1 T2 T3 T4 h0 h1 h2 h3
        clear hx0
        obtain ⟨A, hA⟩ : ∃ A, A = sumBy Load.wlo (xs.take k) := ⟨_, rfl⟩
        obtain ⟨B, hB⟩ : ∃ A, A = sumBy Load.whi (xs.take k) := ⟨_, rfl⟩
        obtain ⟨C, hC⟩ : ∃ A, A = sumBy mLo (xs.take k) := ⟨_, rfl⟩
        obtain ⟨D, hD⟩ : ∃ A, A = sumBy mHi (xs.take k) := ⟨_, rfl⟩
        have u1 := S1.out k
        have u2 := S2.out k
        have u3 := S3.out k
        have u4 := S4.out k
        rw [← hA] at T1 u1 q2
        rw [← hB] at T2 u2 q2
        rw [← hC] at T3 u3 q3
        rw [← hD] at T4 u4 q3
        clear hA hB hC hD
        have v1 := bal1_bd x HX.out
        have v2 := bal2_bd x HX.out
        have HC0 : ∀ V, Kept w V → _ := fun V (h : Kept w V) => (h.cell (p := ⟨b, off + k * 4, none⟩) hb).trans h0
        have HC1 : ∀ V, Kept w V → _ := fun V (h : Kept w V) => (h.cell (p := ⟨b, off + k * 4 + 1, none⟩) hb).trans h1
        have HC2 : ∀ V, Kept w V → _ := fun V (h : Kept w V) => (h.cell (p := ⟨b, off + k * 4 + 2, none⟩) hb).trans h2
        have HC3 : ∀ V, Kept w V → _ := fun V (h : Kept w V) => (h.cell (p := ⟨b, off + k * 4 + 3, none⟩) hb).trans h3
        clear h0 h1 h2 h3
        go_upto_region 8 with fail
        have y0 := fun g : Later wr => HC0 _ (Kept.drop hkk g.ok)
        have y1 := fun g : Later wr => HC1 _ (Kept.drop hkk g.ok)
        have y2 := fun g : Later wr => HC2 _ (Kept.drop hkk g.ok)
        have y3 := fun g : Later wr => HC3 _ (Kept.drop hkk g.ok)
        have q2c0 := fun g : Later wr => (q2.later g).cell 0
        have q2f0 := fun g : Later wr => (q2.later g).free 0
        have q2c1 := fun g : Later wr => (q2.later g).cell 1
        have q2f1 := fun g : Later wr => (q2.later g).free 1
        have q2l := fun g : Later wr => (q2.later g).lt
        simp at q2c0 q2c1
        refine later_mix [(false, 0), (false, 1), (false, 2), (false, 3), (false, 4), (false, 5), (false, 6), (false, 7), (false, 8), (false, 9)] 10 [] (by kernel_rfl) (by kernel_rfl) ?_
        simp only [List.filterMap_cons, List.filterMap_nil, List.getElem?_cons_zero, List.getElem?_cons_succ, Option.map_some]
        repeat (refine wpSteps_quiet ?_; (first | go_big_quiet_skip | (go_big_quiet_want; go_big_quiet_op; first | go_big_quiet_on | (apply Exists.intro; refine ⟨fun g => ?_, ?_⟩; (focus (first | fail)); go_big_quiet_on))); refine wpQuiet_nil ?_)
        refine wpSteps_nil ?_
        intro gg
        have hkgg := Kept.drop hkk gg.ok
        skip
        go_wp2
        refine NoPanic.normal ?_
        go_upto_region 9 with fail
        refine at_world (S := fun W => Blk W w1.heap.size #[.int .i64 (A + x.wlo), .int .i64 (B)] 49 ∧ Blk W (w1.heap.size + 1) #[.int .i64 (C), .int .i64 (D)] 49 ∧ Blk W w.heap.size #[.int .i64 0, .int .i64 0] 49 ∧ Blk W (w.heap.size + 1) #[.int .i64 0, .int .i64 0] 49 ∧ Kept w W) ⟨by (refine Blk.cast (arr := ?_) ?_ ?_; rotate_left 1; (focus (repeat (first | with_reducible assumption | ((with_reducible refine Blk.new' ?_); first | with_reducible rfl | (simp; done) | (simp [World.drew]; done)) | with_reducible refine Blk.alloc ?_ _ | ((with_reducible refine Blk.set (arr := ?_) ?_ _ _); rotate_left 1) | ((with_reducible refine Blk.other ?_ ?_ _); rotate_left 1; (focus (first | (simp; done) | (simp; omega) | (refine Nat.ne_of_gt (Blk.lt (arr := ?_) (t := ?_) ?_); rotate_left 2; focus (repeat (first | with_reducible assumption | ((with_reducible refine Blk.new' ?_); first | with_reducible rfl | (simp; done) | (simp [World.drew]; done)) | with_reducible refine Blk.alloc ?_ _ | with_reducible refine Blk.later ?_ gg | with_reducible refine Blk.drew ?_))) | (refine Nat.ne_of_lt (Blk.lt (arr := ?_) (t := ?_) ?_); rotate_left 2; focus (repeat (first | with_reducible assumption | ((with_reducible refine Blk.new' ?_); first | with_reducible rfl | (simp; done) | (simp [World.drew]; done)) | with_reducible refine Blk.alloc ?_ _ | with_reducible refine Blk.later ?_ gg | with_reducible refine Blk.drew ?_)))))) | with_reducible refine Blk.later ?_ gg | with_reducible refine Blk.drew ?_))); (first | rfl | (simp; done))), by (refine Blk.cast (arr := ?_) ?_ ?_; rotate_left 1; (focus (repeat (first | with_reducible assumption | ((with_reducible refine Blk.new' ?_); first | with_reducible rfl | (simp; done) | (simp [World.drew]; done)) | with_reducible refine Blk.alloc ?_ _ | ((with_reducible refine Blk.set (arr := ?_) ?_ _ _); rotate_left 1) | ((with_reducible refine Blk.other ?_ ?_ _); rotate_left 1; (focus (first | (simp; done) | (simp; omega) | (refine Nat.ne_of_gt (Blk.lt (arr := ?_) (t := ?_) ?_); rotate_left 2; focus (repeat (first | with_reducible assumption | ((with_reducible refine Blk.new' ?_); first | with_reducible rfl | (simp; done) | (simp [World.drew]; done)) | with_reducible refine Blk.alloc ?_ _ | with_reducible refine Blk.later ?_ gg | with_reducible refine Blk.drew ?_))) | (refine Nat.ne_of_lt (Blk.lt (arr := ?_) (t := ?_) ?_); rotate_left 2; focus (repeat (first | with_reducible assumption | ((with_reducible refine Blk.new' ?_); first | with_reducible rfl | (simp; done) | (simp [World.drew]; done)) | with_reducible refine Blk.alloc ?_ _ | with_reducible refine Blk.later ?_ gg | with_reducible refine Blk.drew ?_)))))) | with_reducible refine Blk.later ?_ gg | with_reducible refine Blk.drew ?_))); (first | rfl | (simp; done))), by (refine Blk.cast (arr := ?_) ?_ ?_; rotate_left 1; (focus (repeat (first | with_reducible assumption | ((with_reducible refine Blk.new' ?_); first | with_reducible rfl | (simp; done) | (simp [World.drew]; done)) | with_reducible refine Blk.alloc ?_ _ | ((with_reducible refine Blk.set (arr := ?_) ?_ _ _); rotate_left 1) | ((with_reducible refine Blk.other ?_ ?_ _); rotate_left 1; (focus (first | (simp; done) | (simp; omega) | (refine Nat.ne_of_gt (Blk.lt (arr := ?_) (t := ?_) ?_); rotate_left 2; focus (repeat (first | with_reducible assumption | ((with_reducible refine Blk.new' ?_); first | with_reducible rfl | (simp; done) | (simp [World.drew]; done)) | with_reducible refine Blk.alloc ?_ _ | with_reducible refine Blk.later ?_ gg | with_reducible refine Blk.drew ?_))) | (refine Nat.ne_of_lt (Blk.lt (arr := ?_) (t := ?_) ?_); rotate_left 2; focus (repeat (first | with_reducible assumption | ((with_reducible refine Blk.new' ?_); first | with_reducible rfl | (simp; done) | (simp [World.drew]; done)) | with_reducible refine Blk.alloc ?_ _ | with_reducible refine Blk.later ?_ gg | with_reducible refine Blk.drew ?_)))))) | with_reducible refine Blk.later ?_ gg | with_reducible refine Blk.drew ?_))); (first | rfl | (simp; done))), by (refine Blk.cast (arr := ?_) ?_ ?_; rotate_left 1; (focus (repeat (first | with_reducible assumption | ((with_reducible refine Blk.new' ?_); first | with_reducible rfl | (simp; done) | (simp [World.drew]; done)) | with_reducible refine Blk.alloc ?_ _ | ((with_reducible refine Blk.set (arr := ?_) ?_ _ _); rotate_left 1) | ((with_reducible refine Blk.other ?_ ?_ _); rotate_left 1; (focus (first | (simp; done) | (simp; omega) | (refine Nat.ne_of_gt (Blk.lt (arr := ?_) (t := ?_) ?_); rotate_left 2; focus (repeat (first | with_reducible assumption | ((with_reducible refine Blk.new' ?_); first | with_reducible rfl | (simp; done) | (simp [World.drew]; done)) | with_reducible refine Blk.alloc ?_ _ | with_reducible refine Blk.later ?_ gg | with_reducible refine Blk.drew ?_))) | (refine Nat.ne_of_lt (Blk.lt (arr := ?_) (t := ?_) ?_); rotate_left 2; focus (repeat (first | with_reducible assumption | ((with_reducible refine Blk.new' ?_); first | with_reducible rfl | (simp; done) | (simp [World.drew]; done)) | with_reducible refine Blk.alloc ?_ _ | with_reducible refine Blk.later ?_ gg | with_reducible refine Blk.drew ?_)))))) | with_reducible refine Blk.later ?_ gg | with_reducible refine Blk.drew ?_))); (first | rfl | (simp; done))), by (repeat (first | with_reducible exact Below.refl _ _ | with_reducible assumption | with_reducible refine Kept.drop ?_ (by with_reducible assumption) | with_reducible refine Kept.alloc ?_ _ | ((with_reducible refine Below.setCell ?_ ?_ _); rotate_left 1; (focus (first | exact Nat.le_refl _ | (simp; done) | (simp; omega) | exact Below.size (by with_reducible assumption) | (refine Kept.size ?_; (repeat (first | with_reducible exact Below.refl _ _ | with_reducible assumption | with_reducible refine Kept.drop ?_ (by with_reducible assumption) | with_reducible refine Kept.alloc ?_ _ | with_reducible refine Below.drew ?_)))))) | with_reducible refine Below.drew ?_))⟩ ?_
        clear y0 y1 y2 y3 q2c0 q2c1 q2f0 q2f1 q2l q2 q3 q0 q1 hkgg hkk
        rintro V1 ⟨q2, q3, q0, q1, hkk⟩
        have y0 := fun g : Later V1 => HC0 _ (Kept.drop hkk g.ok)
        have y1 := fun g : Later V1 => HC1 _ (Kept.drop hkk g.ok)
        have y2 := fun g : Later V1 => HC2 _ (Kept.drop hkk g.ok)
        have y3 := fun g : Later V1 => HC3 _ (Kept.drop hkk g.ok)
        have q2c0 := fun g : Later V1 => (q2.later g).cell 0
        have q2f0 := fun g : Later V1 => (q2.later g).free 0
        have q2c1 := fun g : Later V1 => (q2.later g).cell 1
        have q2f1 := fun g : Later V1 => (q2.later g).free 1
        have q2l := fun g : Later V1 => (q2.later g).lt
        simp at q2c0 q2c1
        refine later_mix [(false, 0), (false, 1), (false, 2), (false, 3), (false, 4), (false, 5), (false, 6), (false, 7), (false, 8), (false, 9)] 10 [] (by kernel_rfl) (by kernel_rfl) ?_
        simp only [List.filterMap_cons, List.filterMap_nil, List.getElem?_cons_zero, List.getElem?_cons_succ, Option.map_some]
        repeat (refine wpSteps_quiet ?_; (first | go_big_quiet_skip | (go_big_quiet_want; go_big_quiet_op; first | go_big_quiet_on | (apply Exists.intro; refine ⟨fun g => ?_, ?_⟩; (focus (first | fail)); go_big_quiet_on))); refine wpQuiet_nil ?_)
        refine wpSteps_nil ?_
        intro gh
        have hkgh := Kept.drop hkk gh.ok
        skip
        go_wp2
        refine NoPanic.normal ?_
        go_upto_region 10 with fail
        refine at_world (S := fun W => Blk W w1.heap.size #[.int .i64 (A + x.wlo), .int .i64 (B + x.whi)] 49 ∧ Blk W (w1.heap.size + 1) #[.int .i64 (C), .int .i64 (D)] 49 ∧ Blk W w.heap.size #[.int .i64 0, .int .i64 0] 49 ∧ Blk W (w.heap.size + 1) #[.int .i64 0, .int .i64 0] 49 ∧ Kept w W) ⟨by (refine Blk.cast (arr := ?_) ?_ ?_; rotate_left 1; (focus (repeat (first | with_reducible assumption | ((with_reducible refine Blk.new' ?_); first | with_reducible rfl | (simp; done) | (simp [World.drew]; done)) | with_reducible refine Blk.alloc ?_ _ | ((with_reducible refine Blk.set (arr := ?_) ?_ _ _); rotate_left 1) | ((with_reducible refine Blk.other ?_ ?_ _); rotate_left 1; (focus (first | (simp; done) | (simp; omega) | (refine Nat.ne_of_gt (Blk.lt (arr := ?_) (t := ?_) ?_); rotate_left 2; focus (repeat (first | with_reducible assumption | ((with_reducible refine Blk.new' ?_); first | with_reducible rfl | (simp; done) | (simp [World.drew]; done)) | with_reducible refine Blk.alloc ?_ _ | with_reducible refine Blk.later ?_ gh | with_reducible refine Blk.drew ?_))) | (refine Nat.ne_of_lt (Blk.lt (arr := ?_) (t := ?_) ?_); rotate_left 2; focus (repeat (first | with_reducible assumption | ((with_reducible refine Blk.new' ?_); first | with_reducible rfl | (simp; done) | (simp [World.drew]; done)) | with_reducible refine Blk.alloc ?_ _ | with_reducible refine Blk.later ?_ gh | with_reducible refine Blk.drew ?_)))))) | with_reducible refine Blk.later ?_ gh | with_reducible refine Blk.drew ?_))); (first | rfl | (simp; done))), by (refine Blk.cast (arr := ?_) ?_ ?_; rotate_left 1; (focus (repeat (first | with_reducible assumption | ((with_reducible refine Blk.new' ?_); first | with_reducible rfl | (simp; done) | (simp [World.drew]; done)) | with_reducible refine Blk.alloc ?_ _ | ((with_reducible refine Blk.set (arr := ?_) ?_ _ _); rotate_left 1) | ((with_reducible refine Blk.other ?_ ?_ _); rotate_left 1; (focus (first | (simp; done) | (simp; omega) | (refine Nat.ne_of_gt (Blk.lt (arr := ?_) (t := ?_) ?_); rotate_left 2; focus (repeat (first | with_reducible assumption | ((with_reducible refine Blk.new' ?_); first | with_reducible rfl | (simp; done) | (simp [World.drew]; done)) | with_reducible refine Blk.alloc ?_ _ | with_reducible refine Blk.later ?_ gh | with_reducible refine Blk.drew ?_))) | (refine Nat.ne_of_lt (Blk.lt (arr := ?_) (t := ?_) ?_); rotate_left 2; focus (repeat (first | with_reducible assumption | ((with_reducible refine Blk.new' ?_); first | with_reducible rfl | (simp; done) | (simp [World.drew]; done)) | with_reducible refine Blk.alloc ?_ _ | with_reducible refine Blk.later ?_ gh | with_reducible refine Blk.drew ?_)))))) | with_reducible refine Blk.later ?_ gh | with_reducible refine Blk.drew ?_))); (first | rfl | (simp; done))), by (refine Blk.cast (arr := ?_) ?_ ?_; rotate_left 1; (focus (repeat (first | with_reducible assumption | ((with_reducible refine Blk.new' ?_); first | with_reducible rfl | (simp; done) | (simp [World.drew]; done)) | with_reducible refine Blk.alloc ?_ _ | ((with_reducible refine Blk.set (arr := ?_) ?_ _ _); rotate_left 1) | ((with_reducible refine Blk.other ?_ ?_ _); rotate_left 1; (focus (first | (simp; done) | (simp; omega) | (refine Nat.ne_of_gt (Blk.lt (arr := ?_) (t := ?_) ?_); rotate_left 2; focus (repeat (first | with_reducible assumption | ((with_reducible refine Blk.new' ?_); first | with_reducible rfl | (simp; done) | (simp [World.drew]; done)) | with_reducible refine Blk.alloc ?_ _ | with_reducible refine Blk.later ?_ gh | with_reducible refine Blk.drew ?_))) | (refine Nat.ne_of_lt (Blk.lt (arr := ?_) (t := ?_) ?_); rotate_left 2; focus (repeat (first | with_reducible assumption | ((with_reducible refine Blk.new' ?_); first | with_reducible rfl | (simp; done) | (simp [World.drew]; done)) | with_reducible refine Blk.alloc ?_ _ | with_reducible refine Blk.later ?_ gh | with_reducible refine Blk.drew ?_)))))) | with_reducible refine Blk.later ?_ gh | with_reducible refine Blk.drew ?_))); (first | rfl | (simp; done))), by (refine Blk.cast (arr := ?_) ?_ ?_; rotate_left 1; (focus (repeat (first | with_reducible assumption | ((with_reducible refine Blk.new' ?_); first | with_reducible rfl | (simp; done) | (simp [World.drew]; done)) | with_reducible refine Blk.alloc ?_ _ | ((with_reducible refine Blk.set (arr := ?_) ?_ _ _); rotate_left 1) | ((with_reducible refine Blk.other ?_ ?_ _); rotate_left 1; (focus (first | (simp; done) | (simp; omega) | (refine Nat.ne_of_gt (Blk.lt (arr := ?_) (t := ?_) ?_); rotate_left 2; focus (repeat (first | with_reducible assumption | ((with_reducible refine Blk.new' ?_); first | with_reducible rfl | (simp; done) | (simp [World.drew]; done)) | with_reducible refine Blk.alloc ?_ _ | with_reducible refine Blk.later ?_ gh | with_reducible refine Blk.drew ?_))) | (refine Nat.ne_of_lt (Blk.lt (arr := ?_) (t := ?_) ?_); rotate_left 2; focus (repeat (first | with_reducible assumption | ((with_reducible refine Blk.new' ?_); first | with_reducible rfl | (simp; done) | (simp [World.drew]; done)) | with_reducible refine Blk.alloc ?_ _ | with_reducible refine Blk.later ?_ gh | with_reducible refine Blk.drew ?_)))))) | with_reducible refine Blk.later ?_ gh | with_reducible refine Blk.drew ?_))); (first | rfl | (simp; done))), by (repeat (first | with_reducible exact Below.refl _ _ | with_reducible assumption | with_reducible refine Kept.drop ?_ (by with_reducible assumption) | with_reducible refine Kept.alloc ?_ _ | ((with_reducible refine Below.setCell ?_ ?_ _); rotate_left 1; (focus (first | exact Nat.le_refl _ | (simp; done) | (simp; omega) | exact Below.size (by with_reducible assumption) | (refine Kept.size ?_; (repeat (first | with_reducible exact Below.refl _ _ | with_reducible assumption | with_reducible refine Kept.drop ?_ (by with_reducible assumption) | with_reducible refine Kept.alloc ?_ _ | with_reducible refine Below.drew ?_)))))) | with_reducible refine Below.drew ?_))⟩ ?_
        clear y0 y1 y2 y3 q2c0 q2c1 q2f0 q2f1 q2l q2 q3 q0 q1 hkgh hkk
        rintro V2 ⟨q2, q3, q0, q1, hkk⟩
        have y0 := HC0 _ hkk
        have y1 := HC1 _ hkk
        have y2 := HC2 _ hkk
        have y3 := HC3 _ hkk
        go_upto_region 11 with (go_at_call 82; (with_reducible refine (r_corners x _).mono ?_); rintro e w2 ⟨rfl, q7, hb2⟩)
        have hs2 := hkk.size
        have P0 := prodK_bd HX.out 0
        simp only [prodK] at P0
        refine at_world (S := fun W => Blk W w1.heap.size #[.int .i64 (A + x.wlo), .int .i64 (B + x.whi)] 49 ∧ Blk W (w1.heap.size + 1) #[.int .i64 C, .int .i64 D] 49 ∧ Blk W w.heap.size #[.int .i64 0, .int .i64 0] 49 ∧ Blk W (w.heap.size + 1) #[.int .i64 0, .int .i64 0] 49 ∧ Blk W (V2.heap.size + 1) #[.int .i64 x.alo, .int .i64 x.wlo, .int .i64 x.ahi, .int .i64 x.wlo, .int .i64 x.alo, .int .i64 x.whi, .int .i64 x.ahi, .int .i64 x.whi] 85 ∧ Kept w W) ⟨q2.keep hb2, q3.keep hb2, q0.keep hb2, q1.keep hb2, q7, Kept.drop hkk hb2⟩ ?_
        clear y0 y1 y2 y3 q2 q3 q0 q1 q7 hb2 hkk
        rintro V3 ⟨q2, q3, q0, q1, q7, hkk⟩
        have q7c0 := fun g : Later V3 => (q7.later g).cell 0
        have q7f0 := fun g : Later V3 => (q7.later g).free 0
        have q7c1 := fun g : Later V3 => (q7.later g).cell 1
        have q7f1 := fun g : Later V3 => (q7.later g).free 1
        have q7c2 := fun g : Later V3 => (q7.later g).cell 2
        have q7f2 := fun g : Later V3 => (q7.later g).free 2
        have q7c3 := fun g : Later V3 => (q7.later g).cell 3
        have q7f3 := fun g : Later V3 => (q7.later g).free 3
        have q7c4 := fun g : Later V3 => (q7.later g).cell 4
        have q7f4 := fun g : Later V3 => (q7.later g).free 4
        have q7c5 := fun g : Later V3 => (q7.later g).cell 5
        have q7f5 := fun g : Later V3 => (q7.later g).free 5
        have q7c6 := fun g : Later V3 => (q7.later g).cell 6
        have q7f6 := fun g : Later V3 => (q7.later g).free 6
        have q7c7 := fun g : Later V3 => (q7.later g).cell 7
        have q7f7 := fun g : Later V3 => (q7.later g).free 7
        have q7l := fun g : Later V3 => (q7.later g).lt
        simp at q7c0 q7c1 q7c2 q7c3 q7c4 q7c5 q7c6 q7c7
        refine Later.region (by kernel_rfl) (by kernel_rfl) ?_
        repeat (first | go_big_quiet_skip | (go_big_quiet_want; go_big_quiet_op; first | go_big_quiet_on | (apply Exists.intro; refine ⟨fun g => ?_, ?_⟩; (focus (first | fail)); go_big_quiet_on)))
        refine wpQuiet_nil ?_
        intro gg
        have hkgg := Kept.drop hkk gg.ok
        go_wp2
        go_loopw [10, 11, 12] (fun lo hi i wr => RBalIn w w1 x (V2.heap.size + 1) (A + x.wlo) (B + x.whi) C D lo hi i wr) (fun _ _ i _ => 4 - (intOf i).toNat)
        case atStart => exact ⟨0, by omega, rfl, rfl, rfl, q7.later gg, q2.later gg, q3.later gg, q0.later gg, q1.later gg, hkgg⟩
        case round =>
          clear q7c0 q7f0 q7c1 q7f1 q7c2 q7f2 q7c3 q7f3 q7c4 q7f4 q7c5 q7f5 q7c6 q7f6 q7c7 q7f7 q7l
          clear q2 q3 q0 q1 q7 hkk hkgg gg
          obtain ⟨j, hj, rfl, hlo, hhi, q7, q2, q3, q0, q1, hkk⟩ := hrel
          have w1b := loK_bd HX.out j
          have w2b := hiK_bd HX.out j
          by_cases hj3 : j < 3
          · have P1 := prodK_bd HX.out (j + 1)
            have HS1 := Lib.hid (show loK x (j + 1) = min (loK x j) (prodK x (j + 1)) from rfl)
            have HS2 := Lib.hid (show hiK x (j + 1) = max (hiK x j) (prodK x (j + 1)) from rfl)
            obtain ⟨LO, hLO⟩ : ∃ n, n = loK x j := ⟨_, rfl⟩
            obtain ⟨HI, hHI⟩ : ∃ n, n = hiK x j := ⟨_, rfl⟩
            rw [← hLO] at hlo HS1 w1b
            rw [← hHI] at hhi HS2 w2b
            clear hLO hHI
            subst hlo hhi
            rcases (show j = 0 ∨ j = 1 ∨ j = 2 by omega) with rfl | rfl | rfl
            · simp only [prodK] at HS1 HS2 P1
              go_upto_region 15 with fail
              have q7c0 := fun g : Later wr => (q7.later g).cell 0
              have q7f0 := fun g : Later wr => (q7.later g).free 0
              have q7c1 := fun g : Later wr => (q7.later g).cell 1
              have q7f1 := fun g : Later wr => (q7.later g).free 1
              have q7c2 := fun g : Later wr => (q7.later g).cell 2
              have q7f2 := fun g : Later wr => (q7.later g).free 2
              have q7c3 := fun g : Later wr => (q7.later g).cell 3
              have q7f3 := fun g : Later wr => (q7.later g).free 3
              have q7c4 := fun g : Later wr => (q7.later g).cell 4
              have q7f4 := fun g : Later wr => (q7.later g).free 4
              have q7c5 := fun g : Later wr => (q7.later g).cell 5
              have q7f5 := fun g : Later wr => (q7.later g).free 5
              have q7c6 := fun g : Later wr => (q7.later g).cell 6
              have q7f6 := fun g : Later wr => (q7.later g).free 6
              have q7c7 := fun g : Later wr => (q7.later g).cell 7
              have q7f7 := fun g : Later wr => (q7.later g).free 7
              have q7l := fun g : Later wr => (q7.later g).lt
              simp at q7c0 q7c1 q7c2 q7c3 q7c4 q7c5 q7c6 q7c7
              refine later_mix [(false, 0), (false, 1), (false, 2), (false, 3), (false, 4), (false, 5), (false, 6), (false, 7), (false, 8), (false, 9), (false, 10), (false, 11), (true, 12)] 13 [] (by kernel_rfl) (by kernel_rfl) ?_
              simp only [List.filterMap_cons, List.filterMap_nil, List.getElem?_cons_zero, List.getElem?_cons_succ, Option.map_some]
              repeat (refine wpSteps_quiet ?_; (first | go_big_quiet_skip | (go_big_quiet_want; go_big_quiet_op; first | go_big_quiet_on | (apply Exists.intro; refine ⟨fun g => ?_, ?_⟩; (focus (first | fail)); go_big_quiet_on))); refine wpQuiet_nil ?_)
              refine wpSteps_any (.int .i64 (min LO (x.ahi * x.wlo))) rfl (fun w => ?_) ?_
              · first | (go_simp; done) | (go_simp; simp [ite_min]; done) | (go_simp; split <;> omega) | (go_simp; simp; split <;> omega) | trace_state
              simp only [Act.put, List.setIfInBounds_toArray, List.set_cons_zero, List.set_cons_succ]
              repeat (refine wpSteps_quiet ?_; (first | go_big_quiet_skip | (go_big_quiet_want; go_big_quiet_op; first | go_big_quiet_on | (apply Exists.intro; refine ⟨fun g => ?_, ?_⟩; (focus (first | fail)); go_big_quiet_on))); refine wpQuiet_nil ?_)
              refine wpSteps_nil ?_
              intro gg
              have hkgg := Kept.drop hkk gg.ok
              try simp only [ite_min, ite_max]
              go_wp2
              refine NoPanic.normal ?_
              go_upto_region 16 with fail
              have p7 := q7.later gg
              clear q7c0 q7f0 q7c1 q7f1 q7c2 q7f2 q7c3 q7f3 q7c4 q7f4 q7c5 q7f5 q7c6 q7f6 q7c7 q7f7 q7l
              have p7c0 := fun g : Later gg.val => (p7.later g).cell 0
              have p7f0 := fun g : Later gg.val => (p7.later g).free 0
              have p7c1 := fun g : Later gg.val => (p7.later g).cell 1
              have p7f1 := fun g : Later gg.val => (p7.later g).free 1
              have p7c2 := fun g : Later gg.val => (p7.later g).cell 2
              have p7f2 := fun g : Later gg.val => (p7.later g).free 2
              have p7c3 := fun g : Later gg.val => (p7.later g).cell 3
              have p7f3 := fun g : Later gg.val => (p7.later g).free 3
              have p7c4 := fun g : Later gg.val => (p7.later g).cell 4
              have p7f4 := fun g : Later gg.val => (p7.later g).free 4
              have p7c5 := fun g : Later gg.val => (p7.later g).cell 5
              have p7f5 := fun g : Later gg.val => (p7.later g).free 5
              have p7c6 := fun g : Later gg.val => (p7.later g).cell 6
              have p7f6 := fun g : Later gg.val => (p7.later g).free 6
              have p7c7 := fun g : Later gg.val => (p7.later g).cell 7
              have p7f7 := fun g : Later gg.val => (p7.later g).free 7
              have p7l := fun g : Later gg.val => (p7.later g).lt
              simp at p7c0 p7c1 p7c2 p7c3 p7c4 p7c5 p7c6 p7c7
              refine later_mix [(false, 0), (false, 1), (false, 2), (false, 3), (false, 4), (false, 5), (false, 6), (false, 7), (false, 8), (false, 9), (false, 10), (false, 11), (true, 12)] 13 [] (by kernel_rfl) (by kernel_rfl) ?_
              simp only [List.filterMap_cons, List.filterMap_nil, List.getElem?_cons_zero, List.getElem?_cons_succ, Option.map_some]
              repeat (refine wpSteps_quiet ?_; (first | go_big_quiet_skip | (go_big_quiet_want; go_big_quiet_op; first | go_big_quiet_on | (apply Exists.intro; refine ⟨fun g => ?_, ?_⟩; (focus (first | fail)); go_big_quiet_on))); refine wpQuiet_nil ?_)
              refine wpSteps_any (.int .i64 (max HI (x.ahi * x.wlo))) rfl (fun w => ?_) ?_
              · first | (go_simp; done) | (go_simp; simp [ite_max]; done) | (go_simp; split <;> omega) | (go_simp; simp; split <;> omega) | trace_state
              simp only [Act.put, List.setIfInBounds_toArray, List.set_cons_zero, List.set_cons_succ]
              repeat (refine wpSteps_quiet ?_; (first | go_big_quiet_skip | (go_big_quiet_want; go_big_quiet_op; first | go_big_quiet_on | (apply Exists.intro; refine ⟨fun g => ?_, ?_⟩; (focus (first | fail)); go_big_quiet_on))); refine wpQuiet_nil ?_)
              refine wpSteps_nil ?_
              intro gh
              have hkgh := Kept.drop hkgg gh.ok
              try simp only [ite_min, ite_max]
              go_wp2
              refine NoPanic.normal ?_
              go_wp2
              go_round
              case rel => exact ⟨1, by omega, by go_num, by rw [HS1.out], by rw [HS2.out], p7.later gh, (q2.later gg).later gh, (q3.later gg).later gh, (q0.later gg).later gh, (q1.later gg).later gh, hkgh⟩
              case measure => simp [intOf]
            · simp only [prodK] at HS1 HS2 P1
              go_upto_region 15 with fail
              have q7c0 := fun g : Later wr => (q7.later g).cell 0
              have q7f0 := fun g : Later wr => (q7.later g).free 0
              have q7c1 := fun g : Later wr => (q7.later g).cell 1
              have q7f1 := fun g : Later wr => (q7.later g).free 1
              have q7c2 := fun g : Later wr => (q7.later g).cell 2
              have q7f2 := fun g : Later wr => (q7.later g).free 2
              have q7c3 := fun g : Later wr => (q7.later g).cell 3
              have q7f3 := fun g : Later wr => (q7.later g).free 3
              have q7c4 := fun g : Later wr => (q7.later g).cell 4
              have q7f4 := fun g : Later wr => (q7.later g).free 4
              have q7c5 := fun g : Later wr => (q7.later g).cell 5
              have q7f5 := fun g : Later wr => (q7.later g).free 5
              have q7c6 := fun g : Later wr => (q7.later g).cell 6
              have q7f6 := fun g : Later wr => (q7.later g).free 6
              have q7c7 := fun g : Later wr => (q7.later g).cell 7
              have q7f7 := fun g : Later wr => (q7.later g).free 7
              have q7l := fun g : Later wr => (q7.later g).lt
              simp at q7c0 q7c1 q7c2 q7c3 q7c4 q7c5 q7c6 q7c7
              refine later_mix [(false, 0), (false, 1), (false, 2), (false, 3), (false, 4), (false, 5), (false, 6), (false, 7), (false, 8), (false, 9), (false, 10), (false, 11), (true, 12)] 13 [] (by kernel_rfl) (by kernel_rfl) ?_
              simp only [List.filterMap_cons, List.filterMap_nil, List.getElem?_cons_zero, List.getElem?_cons_succ, Option.map_some]
              repeat (refine wpSteps_quiet ?_; (first | go_big_quiet_skip | (go_big_quiet_want; go_big_quiet_op; first | go_big_quiet_on | (apply Exists.intro; refine ⟨fun g => ?_, ?_⟩; (focus (first | fail)); go_big_quiet_on))); refine wpQuiet_nil ?_)
              refine wpSteps_any (.int .i64 (min LO (x.alo * x.whi))) rfl (fun w => ?_) ?_
              · first | (go_simp; done) | (go_simp; simp [ite_min]; done) | (go_simp; split <;> omega) | (go_simp; simp; split <;> omega) | trace_state
              simp only [Act.put, List.setIfInBounds_toArray, List.set_cons_zero, List.set_cons_succ]
              repeat (refine wpSteps_quiet ?_; (first | go_big_quiet_skip | (go_big_quiet_want; go_big_quiet_op; first | go_big_quiet_on | (apply Exists.intro; refine ⟨fun g => ?_, ?_⟩; (focus (first | fail)); go_big_quiet_on))); refine wpQuiet_nil ?_)
              refine wpSteps_nil ?_
              intro gg
              have hkgg := Kept.drop hkk gg.ok
              try simp only [ite_min, ite_max]
              go_wp2
              refine NoPanic.normal ?_
              go_upto_region 16 with fail
              have p7 := q7.later gg
              clear q7c0 q7f0 q7c1 q7f1 q7c2 q7f2 q7c3 q7f3 q7c4 q7f4 q7c5 q7f5 q7c6 q7f6 q7c7 q7f7 q7l
              have p7c0 := fun g : Later gg.val => (p7.later g).cell 0
              have p7f0 := fun g : Later gg.val => (p7.later g).free 0
              have p7c1 := fun g : Later gg.val => (p7.later g).cell 1
              have p7f1 := fun g : Later gg.val => (p7.later g).free 1
              have p7c2 := fun g : Later gg.val => (p7.later g).cell 2
              have p7f2 := fun g : Later gg.val => (p7.later g).free 2
              have p7c3 := fun g : Later gg.val => (p7.later g).cell 3
              have p7f3 := fun g : Later gg.val => (p7.later g).free 3
              have p7c4 := fun g : Later gg.val => (p7.later g).cell 4
              have p7f4 := fun g : Later gg.val => (p7.later g).free 4
              have p7c5 := fun g : Later gg.val => (p7.later g).cell 5
              have p7f5 := fun g : Later gg.val => (p7.later g).free 5
              have p7c6 := fun g : Later gg.val => (p7.later g).cell 6
              have p7f6 := fun g : Later gg.val => (p7.later g).free 6
              have p7c7 := fun g : Later gg.val => (p7.later g).cell 7
              have p7f7 := fun g : Later gg.val => (p7.later g).free 7
              have p7l := fun g : Later gg.val => (p7.later g).lt
              simp at p7c0 p7c1 p7c2 p7c3 p7c4 p7c5 p7c6 p7c7
              refine later_mix [(false, 0), (false, 1), (false, 2), (false, 3), (false, 4), (false, 5), (false, 6), (false, 7), (false, 8), (false, 9), (false, 10), (false, 11), (true, 12)] 13 [] (by kernel_rfl) (by kernel_rfl) ?_
              simp only [List.filterMap_cons, List.filterMap_nil, List.getElem?_cons_zero, List.getElem?_cons_succ, Option.map_some]
              repeat (refine wpSteps_quiet ?_; (first | go_big_quiet_skip | (go_big_quiet_want; go_big_quiet_op; first | go_big_quiet_on | (apply Exists.intro; refine ⟨fun g => ?_, ?_⟩; (focus (first | fail)); go_big_quiet_on))); refine wpQuiet_nil ?_)
              refine wpSteps_any (.int .i64 (max HI (x.alo * x.whi))) rfl (fun w => ?_) ?_
              · first | (go_simp; done) | (go_simp; simp [ite_max]; done) | (go_simp; split <;> omega) | (go_simp; simp; split <;> omega) | trace_state
              simp only [Act.put, List.setIfInBounds_toArray, List.set_cons_zero, List.set_cons_succ]
              repeat (refine wpSteps_quiet ?_; (first | go_big_quiet_skip | (go_big_quiet_want; go_big_quiet_op; first | go_big_quiet_on | (apply Exists.intro; refine ⟨fun g => ?_, ?_⟩; (focus (first | fail)); go_big_quiet_on))); refine wpQuiet_nil ?_)
              refine wpSteps_nil ?_
              intro gh
              have hkgh := Kept.drop hkgg gh.ok
              try simp only [ite_min, ite_max]
              go_wp2
              refine NoPanic.normal ?_
              go_wp2
              go_round
              case rel => exact ⟨2, by omega, by go_num, by rw [HS1.out], by rw [HS2.out], p7.later gh, (q2.later gg).later gh, (q3.later gg).later gh, (q0.later gg).later gh, (q1.later gg).later gh, hkgh⟩
              case measure => simp [intOf]
            · simp only [prodK] at HS1 HS2 P1
              go_upto_region 15 with fail
              have q7c0 := fun g : Later wr => (q7.later g).cell 0
              have q7f0 := fun g : Later wr => (q7.later g).free 0
              have q7c1 := fun g : Later wr => (q7.later g).cell 1
              have q7f1 := fun g : Later wr => (q7.later g).free 1
              have q7c2 := fun g : Later wr => (q7.later g).cell 2
              have q7f2 := fun g : Later wr => (q7.later g).free 2
              have q7c3 := fun g : Later wr => (q7.later g).cell 3
              have q7f3 := fun g : Later wr => (q7.later g).free 3
              have q7c4 := fun g : Later wr => (q7.later g).cell 4
              have q7f4 := fun g : Later wr => (q7.later g).free 4
              have q7c5 := fun g : Later wr => (q7.later g).cell 5
              have q7f5 := fun g : Later wr => (q7.later g).free 5
              have q7c6 := fun g : Later wr => (q7.later g).cell 6
              have q7f6 := fun g : Later wr => (q7.later g).free 6
              have q7c7 := fun g : Later wr => (q7.later g).cell 7
              have q7f7 := fun g : Later wr => (q7.later g).free 7
              have q7l := fun g : Later wr => (q7.later g).lt
              simp at q7c0 q7c1 q7c2 q7c3 q7c4 q7c5 q7c6 q7c7
              refine later_mix [(false, 0), (false, 1), (false, 2), (false, 3), (false, 4), (false, 5), (false, 6), (false, 7), (false, 8), (false, 9), (false, 10), (false, 11), (true, 12)] 13 [] (by kernel_rfl) (by kernel_rfl) ?_
              simp only [List.filterMap_cons, List.filterMap_nil, List.getElem?_cons_zero, List.getElem?_cons_succ, Option.map_some]
              repeat (refine wpSteps_quiet ?_; (first | go_big_quiet_skip | (go_big_quiet_want; go_big_quiet_op; first | go_big_quiet_on | (apply Exists.intro; refine ⟨fun g => ?_, ?_⟩; (focus (first | fail)); go_big_quiet_on))); refine wpQuiet_nil ?_)
              refine wpSteps_any (.int .i64 (min LO (x.ahi * x.whi))) rfl (fun w => ?_) ?_
              · first | (go_simp; done) | (go_simp; simp [ite_min]; done) | (go_simp; split <;> omega) | (go_simp; simp; split <;> omega) | trace_state
              simp only [Act.put, List.setIfInBounds_toArray, List.set_cons_zero, List.set_cons_succ]
              repeat (refine wpSteps_quiet ?_; (first | go_big_quiet_skip | (go_big_quiet_want; go_big_quiet_op; first | go_big_quiet_on | (apply Exists.intro; refine ⟨fun g => ?_, ?_⟩; (focus (first | fail)); go_big_quiet_on))); refine wpQuiet_nil ?_)
              refine wpSteps_nil ?_
              intro gg
              have hkgg := Kept.drop hkk gg.ok
              try simp only [ite_min, ite_max]
              go_wp2
              refine NoPanic.normal ?_
              go_upto_region 16 with fail
              have p7 := q7.later gg
              clear q7c0 q7f0 q7c1 q7f1 q7c2 q7f2 q7c3 q7f3 q7c4 q7f4 q7c5 q7f5 q7c6 q7f6 q7c7 q7f7 q7l
              have p7c0 := fun g : Later gg.val => (p7.later g).cell 0
              have p7f0 := fun g : Later gg.val => (p7.later g).free 0
              have p7c1 := fun g : Later gg.val => (p7.later g).cell 1
              have p7f1 := fun g : Later gg.val => (p7.later g).free 1
              have p7c2 := fun g : Later gg.val => (p7.later g).cell 2
              have p7f2 := fun g : Later gg.val => (p7.later g).free 2
              have p7c3 := fun g : Later gg.val => (p7.later g).cell 3
              have p7f3 := fun g : Later gg.val => (p7.later g).free 3
              have p7c4 := fun g : Later gg.val => (p7.later g).cell 4
              have p7f4 := fun g : Later gg.val => (p7.later g).free 4
              have p7c5 := fun g : Later gg.val => (p7.later g).cell 5
              have p7f5 := fun g : Later gg.val => (p7.later g).free 5
              have p7c6 := fun g : Later gg.val => (p7.later g).cell 6
              have p7f6 := fun g : Later gg.val => (p7.later g).free 6
              have p7c7 := fun g : Later gg.val => (p7.later g).cell 7
              have p7f7 := fun g : Later gg.val => (p7.later g).free 7
              have p7l := fun g : Later gg.val => (p7.later g).lt
              simp at p7c0 p7c1 p7c2 p7c3 p7c4 p7c5 p7c6 p7c7
              refine later_mix [(false, 0), (false, 1), (false, 2), (false, 3), (false, 4), (false, 5), (false, 6), (false, 7), (false, 8), (false, 9), (false, 10), (false, 11), (true, 12)] 13 [] (by kernel_rfl) (by kernel_rfl) ?_
              simp only [List.filterMap_cons, List.filterMap_nil, List.getElem?_cons_zero, List.getElem?_cons_succ, Option.map_some]
              repeat (refine wpSteps_quiet ?_; (first | go_big_quiet_skip | (go_big_quiet_want; go_big_quiet_op; first | go_big_quiet_on | (apply Exists.intro; refine ⟨fun g => ?_, ?_⟩; (focus (first | fail)); go_big_quiet_on))); refine wpQuiet_nil ?_)
              refine wpSteps_any (.int .i64 (max HI (x.ahi * x.whi))) rfl (fun w => ?_) ?_
              · first | (go_simp; done) | (go_simp; simp [ite_max]; done) | (go_simp; split <;> omega) | (go_simp; simp; split <;> omega) | trace_state
              simp only [Act.put, List.setIfInBounds_toArray, List.set_cons_zero, List.set_cons_succ]
              repeat (refine wpSteps_quiet ?_; (first | go_big_quiet_skip | (go_big_quiet_want; go_big_quiet_op; first | go_big_quiet_on | (apply Exists.intro; refine ⟨fun g => ?_, ?_⟩; (focus (first | fail)); go_big_quiet_on))); refine wpQuiet_nil ?_)
              refine wpSteps_nil ?_
              intro gh
              have hkgh := Kept.drop hkgg gh.ok
              try simp only [ite_min, ite_max]
              go_wp2
              refine NoPanic.normal ?_
              go_wp2
              go_round
              case rel => exact ⟨3, by omega, by go_num, by rw [HS1.out], by rw [HS2.out], p7.later gh, (q2.later gg).later gh, (q3.later gg).later gh, (q0.later gg).later gh, (q1.later gg).later gh, hkgh⟩
              case measure => simp [intOf]
          · obtain rfl : j = 3 := by omega
            rw [loK3] at hlo w1b
            rw [hiK3] at hhi w2b
            subst hlo hhi
            have q2c0 := q2.cell 0
            have q2f0 := q2.free 0
            have q2c1 := q2.cell 1
            have q2f1 := q2.free 1
            have q2l := q2.lt
            simp at q2c0 q2c1
            have q3c0 := q3.cell 0
            have q3f0 := q3.free 0
            have q3c1 := q3.cell 1
            have q3f1 := q3.free 1
            have q3l := q3.lt
            simp at q3c0 q3c1
            go_wp2
            go_round
            case rel =>
              refine ⟨k + 1, by omega, by go_num, ?_, ?_, by (repeat (first | with_reducible assumption | ((with_reducible refine Blk.new' ?_); first | with_reducible rfl | (simp; done) | (simp [World.drew]; done)) | with_reducible refine Blk.alloc ?_ _ | ((with_reducible refine Blk.set (arr := ?_) ?_ _ _); rotate_left 1) | ((with_reducible refine Blk.other ?_ ?_ _); rotate_left 1; (focus (first | (simp; done) | (simp; omega) | (refine Nat.ne_of_gt (Blk.lt (arr := ?_) (t := ?_) ?_); rotate_left 2; focus (repeat (first | with_reducible assumption | ((with_reducible refine Blk.new' ?_); first | with_reducible rfl | (simp; done) | (simp [World.drew]; done)) | with_reducible refine Blk.alloc ?_ _ | with_reducible refine Blk.keep ?_ (by with_reducible assumption) | with_reducible refine Blk.drew ?_))) | (refine Nat.ne_of_lt (Blk.lt (arr := ?_) (t := ?_) ?_); rotate_left 2; focus (repeat (first | with_reducible assumption | ((with_reducible refine Blk.new' ?_); first | with_reducible rfl | (simp; done) | (simp [World.drew]; done)) | with_reducible refine Blk.alloc ?_ _ | with_reducible refine Blk.keep ?_ (by with_reducible assumption) | with_reducible refine Blk.drew ?_)))))) | with_reducible refine Blk.keep ?_ (by with_reducible assumption) | with_reducible refine Blk.drew ?_)), by (repeat (first | with_reducible assumption | ((with_reducible refine Blk.new' ?_); first | with_reducible rfl | (simp; done) | (simp [World.drew]; done)) | with_reducible refine Blk.alloc ?_ _ | ((with_reducible refine Blk.set (arr := ?_) ?_ _ _); rotate_left 1) | ((with_reducible refine Blk.other ?_ ?_ _); rotate_left 1; (focus (first | (simp; done) | (simp; omega) | (refine Nat.ne_of_gt (Blk.lt (arr := ?_) (t := ?_) ?_); rotate_left 2; focus (repeat (first | with_reducible assumption | ((with_reducible refine Blk.new' ?_); first | with_reducible rfl | (simp; done) | (simp [World.drew]; done)) | with_reducible refine Blk.alloc ?_ _ | with_reducible refine Blk.keep ?_ (by with_reducible assumption) | with_reducible refine Blk.drew ?_))) | (refine Nat.ne_of_lt (Blk.lt (arr := ?_) (t := ?_) ?_); rotate_left 2; focus (repeat (first | with_reducible assumption | ((with_reducible refine Blk.new' ?_); first | with_reducible rfl | (simp; done) | (simp [World.drew]; done)) | with_reducible refine Blk.alloc ?_ _ | with_reducible refine Blk.keep ?_ (by with_reducible assumption) | with_reducible refine Blk.drew ?_)))))) | with_reducible refine Blk.keep ?_ (by with_reducible assumption) | with_reducible refine Blk.drew ?_)), by (repeat (first | with_reducible exact Below.refl _ _ | with_reducible assumption | with_reducible refine Kept.drop ?_ (by with_reducible assumption) | with_reducible refine Kept.alloc ?_ _ | ((with_reducible refine Below.setCell ?_ ?_ _); rotate_left 1; (focus (first | exact Nat.le_refl _ | (simp; done) | (simp; omega) | exact Below.size (by with_reducible assumption) | (refine Kept.size ?_; (repeat (first | with_reducible exact Below.refl _ _ | with_reducible assumption | with_reducible refine Kept.drop ?_ (by with_reducible assumption) | with_reducible refine Kept.alloc ?_ _ | with_reducible refine Below.drew ?_)))))) | with_reducible refine Below.drew ?_))⟩
              · rw [T1.out, T2.out]; (repeat (first | with_reducible assumption | ((with_reducible refine Blk.new' ?_); first | with_reducible rfl | (simp; done) | (simp [World.drew]; done)) | with_reducible refine Blk.alloc ?_ _ | ((with_reducible refine Blk.set (arr := ?_) ?_ _ _); rotate_left 1) | ((with_reducible refine Blk.other ?_ ?_ _); rotate_left 1; (focus (first | (simp; done) | (simp; omega) | (refine Nat.ne_of_gt (Blk.lt (arr := ?_) (t := ?_) ?_); rotate_left 2; focus (repeat (first | with_reducible assumption | ((with_reducible refine Blk.new' ?_); first | with_reducible rfl | (simp; done) | (simp [World.drew]; done)) | with_reducible refine Blk.alloc ?_ _ | with_reducible refine Blk.keep ?_ (by with_reducible assumption) | with_reducible refine Blk.drew ?_))) | (refine Nat.ne_of_lt (Blk.lt (arr := ?_) (t := ?_) ?_); rotate_left 2; focus (repeat (first | with_reducible assumption | ((with_reducible refine Blk.new' ?_); first | with_reducible rfl | (simp; done) | (simp [World.drew]; done)) | with_reducible refine Blk.alloc ?_ _ | with_reducible refine Blk.keep ?_ (by with_reducible assumption) | with_reducible refine Blk.drew ?_)))))) | with_reducible refine Blk.keep ?_ (by with_reducible assumption) | with_reducible refine Blk.drew ?_))
              · rw [T3.out, T4.out]; (refine Blk.cast (arr := ?_) ?_ ?_; rotate_left 1; (focus (repeat (first | with_reducible assumption | ((with_reducible refine Blk.new' ?_); first | with_reducible rfl | (simp; done) | (simp [World.drew]; done)) | with_reducible refine Blk.alloc ?_ _ | ((with_reducible refine Blk.set (arr := ?_) ?_ _ _); rotate_left 1) | ((with_reducible refine Blk.other ?_ ?_ _); rotate_left 1; (focus (first | (simp; done) | (simp; omega) | (refine Nat.ne_of_gt (Blk.lt (arr := ?_) (t := ?_) ?_); rotate_left 2; focus (repeat (first | with_reducible assumption | ((with_reducible refine Blk.new' ?_); first | with_reducible rfl | (simp; done) | (simp [World.drew]; done)) | with_reducible refine Blk.alloc ?_ _ | with_reducible refine Blk.keep ?_ (by with_reducible assumption) | with_reducible refine Blk.drew ?_))) | (refine Nat.ne_of_lt (Blk.lt (arr := ?_) (t := ?_) ?_); rotate_left 2; focus (repeat (first | with_reducible assumption | ((with_reducible refine Blk.new' ?_); first | with_reducible rfl | (simp; done) | (simp [World.drew]; done)) | with_reducible refine Blk.alloc ?_ _ | with_reducible refine Blk.keep ?_ (by with_reducible assumption) | with_reducible refine Blk.drew ?_)))))) | with_reducible refine Blk.keep ?_ (by with_reducible assumption) | with_reducible refine Blk.drew ?_))); (first | rfl | (simp; done)))
            case measure => simp [intOf]; omega
      · obtain rfl : k = xs.length := by omega
        rw [List.take_length] at q2 q3
        have q2c0 := q2.cell 0
        have q2f0 := q2.free 0
        have q2c1 := q2.cell 1
        have q2f1 := q2.free 1
        have q2l := q2.lt
        simp at q2c0 q2c1
        have q3c0 := q3.cell 0
        have q3f0 := q3.free 0
        have q3c1 := q3.cell 1
        have q3f1 := q3.free 1
        have q3l := q3.lt
        simp at q3c0 q3c1
        have q0c0 := q0.cell 0
        have q0f0 := q0.free 0
        have q0c1 := q0.cell 1
        have q0f1 := q0.free 1
        have q0l := q0.lt
        simp at q0c0 q0c1
        have q1c0 := q1.cell 0
        have q1f0 := q1.free 0
        have q1c1 := q1.cell 1
        have q1f1 := q1.free 1
        have q1l := q1.lt
        simp at q1c0 q1c1
        go_upto_region 19 with fail
        go_region
        all_goals go_wp2
        all_goals exact bodyPost_ret (v := .tuple #[.agg #[.int .i64 (sumBy Load.wlo xs), .int .i64 (sumBy Load.whi xs)], .agg #[.int .i64 (sumBy mLo xs), .int .i64 (sumBy mHi xs)], .int .i64 (0)]) (by simp [results, Try.results32, go_sem, q2c0, q2c1, q3c0, q3c1, q0c0, q0c1, q1c0, q1c1, q0f0, q0f1, q1f0, q1f1, q0l, q1l]) rfl ⟨rfl, by (repeat (first | with_reducible exact Below.refl _ _ | with_reducible assumption | with_reducible refine Kept.drop ?_ (by with_reducible assumption) | with_reducible refine Kept.alloc ?_ _ | ((with_reducible refine Below.setCell ?_ ?_ _); rotate_left 1; (focus (first | exact Nat.le_refl _ | (simp; done) | (simp; omega) | exact Below.size (by with_reducible assumption) | (refine Kept.size ?_; (repeat (first | with_reducible exact Below.refl _ _ | with_reducible assumption | with_reducible refine Kept.drop ?_ (by with_reducible assumption) | with_reducible refine Kept.alloc ?_ _ | with_reducible refine Below.drew ?_)))))) | with_reducible refine Below.drew ?_))⟩
  · have hb : (checkLoads xs != 0) = true := by simp [he]
    have z : ∀ v, ifOk (checkLoads xs) v = 0 := fun v => if_neg he
    simp only [z]
    obtain ⟨E, hEE⟩ : ∃ E, E = checkLoads xs := ⟨_, rfl⟩
    have HE := Lib.hid hEE.symm
    rw [← hEE] at he hb ⊢
    clear hEE z
    go_enter Try.func32, Try.ntmps32
    go_wp2_with (go_at_call 20; (with_reducible refine (r_CheckLoads _ _ _ _ (hx.later (by (repeat (first | with_reducible exact Below.refl _ _ | with_reducible assumption | with_reducible refine Kept.drop ?_ (by with_reducible assumption) | with_reducible refine Kept.alloc ?_ _ | ((with_reducible refine Below.setCell ?_ ?_ _); rotate_left 1; (focus (first | exact Nat.le_refl _ | (simp; done) | (simp; omega) | exact Below.size (by with_reducible assumption) | (refine Kept.size ?_; (repeat (first | with_reducible exact Below.refl _ _ | with_reducible assumption | with_reducible refine Kept.drop ?_ (by with_reducible assumption) | with_reducible refine Kept.alloc ?_ _ | with_reducible refine Below.drew ?_)))))) | with_reducible refine Below.drew ?_))) (Nat.le_refl _)) hc hM).mono ?_); rw [HE.out]; rintro e w1 ⟨rfl, hb1⟩; have hs1 := hb1.size; simp at hs1; refine Blk.thru (b := w.heap.size) (arr := ?_) (t := ?_) ?_ hb1 ?_; rotate_left 2; (focus (repeat (first | with_reducible assumption | ((with_reducible refine Blk.new' ?_); first | with_reducible rfl | (simp; done) | (simp [World.drew]; done)) | with_reducible refine Blk.alloc ?_ _ | ((with_reducible refine Blk.set (arr := ?_) ?_ _ _); rotate_left 1) | ((with_reducible refine Blk.other ?_ ?_ _); rotate_left 1; (focus (first | (simp; done) | (simp; omega) | (refine Nat.ne_of_gt (Blk.lt (arr := ?_) (t := ?_) ?_); rotate_left 2; focus (repeat (first | with_reducible assumption | ((with_reducible refine Blk.new' ?_); first | with_reducible rfl | (simp; done) | (simp [World.drew]; done)) | with_reducible refine Blk.alloc ?_ _ | with_reducible refine Blk.keep ?_ (by with_reducible assumption) | with_reducible refine Blk.drew ?_))) | (refine Nat.ne_of_lt (Blk.lt (arr := ?_) (t := ?_) ?_); rotate_left 2; focus (repeat (first | with_reducible assumption | ((with_reducible refine Blk.new' ?_); first | with_reducible rfl | (simp; done) | (simp [World.drew]; done)) | with_reducible refine Blk.alloc ?_ _ | with_reducible refine Blk.keep ?_ (by with_reducible assumption) | with_reducible refine Blk.drew ?_)))))) | with_reducible refine Blk.keep ?_ (by with_reducible assumption) | with_reducible refine Blk.drew ?_))); intro r0; have r0c0 := r0.cell 0; have r0f0 := r0.free 0; have r0c1 := r0.cell 1; have r0f1 := r0.free 1; have r0l := r0.lt; simp at r0c0 r0c1; refine Blk.thru (b := w.heap.size + 1) (arr := ?_) (t := ?_) ?_ hb1 ?_; rotate_left 2; (focus (repeat (first | with_reducible assumption | ((with_reducible refine Blk.new' ?_); first | with_reducible rfl | (simp; done) | (simp [World.drew]; done)) | with_reducible refine Blk.alloc ?_ _ | ((with_reducible refine Blk.set (arr := ?_) ?_ _ _); rotate_left 1) | ((with_reducible refine Blk.other ?_ ?_ _); rotate_left 1; (focus (first | (simp; done) | (simp; omega) | (refine Nat.ne_of_gt (Blk.lt (arr := ?_) (t := ?_) ?_); rotate_left 2; focus (repeat (first | with_reducible assumption | ((with_reducible refine Blk.new' ?_); first | with_reducible rfl | (simp; done) | (simp [World.drew]; done)) | with_reducible refine Blk.alloc ?_ _ | with_reducible refine Blk.keep ?_ (by with_reducible assumption) | with_reducible refine Blk.drew ?_))) | (refine Nat.ne_of_lt (Blk.lt (arr := ?_) (t := ?_) ?_); rotate_left 2; focus (repeat (first | with_reducible assumption | ((with_reducible refine Blk.new' ?_); first | with_reducible rfl | (simp; done) | (simp [World.drew]; done)) | with_reducible refine Blk.alloc ?_ _ | with_reducible refine Blk.keep ?_ (by with_reducible assumption) | with_reducible refine Blk.drew ?_)))))) | with_reducible refine Blk.keep ?_ (by with_reducible assumption) | with_reducible refine Blk.drew ?_))); intro r1; have r1c0 := r1.cell 0; have r1f0 := r1.free 0; have r1c1 := r1.cell 1; have r1f1 := r1.free 1; have r1l := r1.lt; simp at r1c0 r1c1)
    exact bodyPost_ret (v := .tuple #[.agg #[.int .i64 (0), .int .i64 (0)], .agg #[.int .i64 (0), .int .i64 (0)], .int .i64 (E)]) (by simp [results, Try.results32, go_sem, r0c0, r0c1, r1c0, r1c1, r0f0, r0f1, r1f0, r1f1, r0l, r1l]) rfl ⟨rfl, by (repeat (first | with_reducible exact Below.refl _ _ | with_reducible assumption | with_reducible refine Kept.drop ?_ (by with_reducible assumption) | with_reducible refine Kept.alloc ?_ _ | ((with_reducible refine Below.setCell ?_ ?_ _); rotate_left 1; (focus (first | exact Nat.le_refl _ | (simp; done) | (simp; omega) | exact Below.size (by with_reducible assumption) | (refine Kept.size ?_; (repeat (first | with_reducible exact Below.refl _ _ | with_reducible assumption | with_reducible refine Kept.drop ?_ (by with_reducible assumption) | with_reducible refine Kept.alloc ?_ _ | with_reducible refine Below.drew ?_)))))) | with_reducible refine Below.drew ?_))⟩

end Go.Proofs.Ytlloijkmpmfapaa
