/-
  Turned sheds: the search.
-/
import Derived.Test.YtacbkbilbmkjnaaMastE
import Derived.Test.YtacbkbilbmkjnaaOrder
import Derived.Deep.DeepCutAuto
namespace Go.Proofs.Ytacbkbilbmkjnaa
open Go.RowKit Bal Bal.Trim Bal.Mast
set_option linter.unusedVariables false
set_option linter.unusedSimpArgs false
set_option maxHeartbeats 4000000
set_option maxRecDepth 10000

theorem turn_found {xs : List Axis} {p : Nat} {v : Wind} {m : Int} (h : turnOk xs p v m = 0) {s : Nat} (hs : s < xs.length) (h1 : ∀ j, j < s → turnAt v m xs p j = false) (h2 : turnAt v m xs p s = true) :
    turnI xs p v m = turnTo v m xs p s ∧ turnN xs p v m = s ∧ turnE xs p v m = 0 := by
  have hf : turnS v m xs ((p : Nat) : Int).toNat = some s := firstOf_some hs h1 h2
  have e : ((p : Nat) : Int).toNat = p := by simp
  unfold turnI turnN turnE
  rw [if_pos h, if_pos h, if_pos h, hf, e]
  exact ⟨rfl, rfl, rfl⟩
theorem turn_lost {xs : List Axis} {p : Nat} {v : Wind} {m : Int} (h : turnOk xs p v m = 0) (hf : turnS v m xs p = none) :
    turnI xs p v m = 0 ∧ turnN xs p v m = 0 ∧ turnE xs p v m = 6 := by
  have e : ((p : Nat) : Int).toNat = p := by simp
  unfold turnI turnN turnE
  rw [if_pos h, if_pos h, if_pos h, e, hf]
  exact ⟨rfl, rfl, rfl⟩

theorem f_Turn_main (a : Option Addr) (cap : Nat) (xs : List Axis) (p : Int) (v : Wind) (m : Int) (w : World) (hx : Row Axis.cells 2 w.heap.size w a xs) (hc : xs.length ≤ cap) (hM : cap ≤ maxLen) (hn : xs.length ≤ 1000000) (h : turnOk xs p v m = 0) :
    Calls Try.prog 18 #[.slice a xs.length cap, .int .i64 p, .agg #[.int .i64 v.xlo, .int .i64 v.xhi, .int .i64 v.ylo, .int .i64 v.yhi], .int .i64 m] w fun e w' => e = .returned (.tuple #[.int .i64 (turnI xs p v m), .int .i64 (turnN xs p v m), .int .i64 (turnE xs p v m)]) ∧ Kept w w' := by
  unfold maxLen at hM
  obtain ⟨ht, hw, hp, hm⟩ := f_turn_ok h
  obtain ⟨I, hI⟩ : ∃ I, I = turnI xs p v m := ⟨_, rfl⟩
  obtain ⟨N, hN⟩ : ∃ N, N = turnN xs p v m := ⟨_, rfl⟩
  obtain ⟨E, hE⟩ : ∃ E, E = turnE xs p v m := ⟨_, rfl⟩
  have htb : 1 ≤ xs.length ∧ xs.length ≤ 32 ∧ ∀ x ∈ xs, axisB x = true := by
    unfold turnable at ht
    simp only [Bool.and_eq_true, decide_eq_true_eq, List.all_eq_true] at ht
    exact ⟨ht.1.1, ht.1.2, ht.2⟩
  obtain ⟨hl1, hl2, hax⟩ := htb
  obtain ⟨pn, rfl⟩ : ∃ pn : Nat, p = pn := ⟨p.toNat, by simp [inB] at hp; omega⟩
  have hpn : pn < xs.length := by simp [inB] at hp; omega
  have HSOME := Lib.hid (fun (s : Nat) (hs : s < xs.length / 2 + 1) (h1 : ∀ j, j < s → turnAt v m xs pn j = false) (h2 : turnAt v m xs pn s = true) => turn_found (xs := xs) (p := pn) (v := v) (m := m) h (by omega) h1 h2)
  have HNONE := Lib.hid (fun (h1 : ∀ j, j < xs.length / 2 + 1 → turnAt v m xs pn j = false) => turn_lost (xs := xs) (p := pn) (v := v) (m := m) h (by have := turnS_half (v := v) (m := m) (l := xs) (p := pn) (by omega); rw [this]; exact firstOf_none h1))
  rw [← hI, ← hN, ← hE] at HSOME HNONE
  rw [← hI, ← hN, ← hE]
  have HAX := Lib.hid hax
  have HT := Lib.hid ht
  have HW := Lib.hid (show checkWind v = 0 by unfold checkWind; rw [hw]; rfl)
  have HP := Lib.hid (show rng [(pn : Int)] 0 (xs.length - 1) = true by simpa [rng] using hp)
  have HMM := Lib.hid (show rng [m] 0 2000 = true by simpa [rng] using hm)
  have hw' := hw
  have hm' := hm
  clear h hI hN hE ht hp hax
  go_enter Try.func18, Try.ntmps18
  go_wp2_with (first | (go_at_call 56; (with_reducible refine (f_turnable _ _ _ _ (hx.later (by (repeat (first | with_reducible exact Below.refl _ _ | with_reducible assumption | with_reducible refine Kept.drop ?_ (by with_reducible assumption) | with_reducible refine Kept.alloc ?_ _ | ((with_reducible refine Below.setCell ?_ ?_ _); rotate_left 1; (focus (first | exact Nat.le_refl _ | (simp; done) | (simp; omega) | exact Below.size (by with_reducible assumption) | (refine Kept.size ?_; (repeat (first | with_reducible exact Below.refl _ _ | with_reducible assumption | with_reducible refine Kept.drop ?_ (by with_reducible assumption) | with_reducible refine Kept.alloc ?_ _ | with_reducible refine Below.drew ?_)))))) | with_reducible refine Below.drew ?_))) (Nat.le_refl _)) hn).mono ?_); rw [HT.out]; rintro e w1 ⟨rfl, hb1⟩; refine Blk.thru (b := w.heap.size) (arr := ?_) (t := ?_) ?_ hb1 ?_; rotate_left 2; (focus (repeat (first | with_reducible assumption | ((with_reducible refine Blk.new' ?_); first | with_reducible rfl | (simp; done) | (simp [World.drew]; done)) | with_reducible refine Blk.alloc ?_ _ | ((with_reducible refine Blk.set (arr := ?_) ?_ _ _); rotate_left 1) | ((with_reducible refine Blk.other ?_ ?_ _); rotate_left 1; (focus (first | (simp; done) | (simp; omega) | (refine Nat.ne_of_gt (Blk.lt (arr := ?_) (t := ?_) ?_); rotate_left 2; focus (repeat (first | with_reducible assumption | ((with_reducible refine Blk.new' ?_); first | with_reducible rfl | (simp; done) | (simp [World.drew]; done)) | with_reducible refine Blk.alloc ?_ _ | with_reducible refine Blk.keep ?_ (by with_reducible assumption) | with_reducible refine Blk.drew ?_))) | (refine Nat.ne_of_lt (Blk.lt (arr := ?_) (t := ?_) ?_); rotate_left 2; focus (repeat (first | with_reducible assumption | ((with_reducible refine Blk.new' ?_); first | with_reducible rfl | (simp; done) | (simp [World.drew]; done)) | with_reducible refine Blk.alloc ?_ _ | with_reducible refine Blk.keep ?_ (by with_reducible assumption) | with_reducible refine Blk.drew ?_)))))) | with_reducible refine Blk.keep ?_ (by with_reducible assumption) | with_reducible refine Blk.drew ?_))); intro r0; have r0c0 := r0.cell 0; have r0f0 := r0.free 0; have r0c1 := r0.cell 1; have r0f1 := r0.free 1; have r0c2 := r0.cell 2; have r0f2 := r0.free 2; have r0c3 := r0.cell 3; have r0f3 := r0.free 3; have r0l := r0.lt; simp at r0c0 r0c1 r0c2 r0c3) | (go_at_call 15; (with_reducible refine (f_CheckWind v _).mono ?_); rw [HW.out]; rintro e w1 ⟨rfl, hb1⟩; refine Blk.thru (b := w.heap.size) (arr := ?_) (t := ?_) ?_ hb1 ?_; rotate_left 2; (focus (repeat (first | with_reducible assumption | ((with_reducible refine Blk.new' ?_); first | with_reducible rfl | (simp; done) | (simp [World.drew]; done)) | with_reducible refine Blk.alloc ?_ _ | ((with_reducible refine Blk.set (arr := ?_) ?_ _ _); rotate_left 1) | ((with_reducible refine Blk.other ?_ ?_ _); rotate_left 1; (focus (first | (simp; done) | (simp; omega) | (refine Nat.ne_of_gt (Blk.lt (arr := ?_) (t := ?_) ?_); rotate_left 2; focus (repeat (first | with_reducible assumption | ((with_reducible refine Blk.new' ?_); first | with_reducible rfl | (simp; done) | (simp [World.drew]; done)) | with_reducible refine Blk.alloc ?_ _ | with_reducible refine Blk.keep ?_ (by with_reducible assumption) | with_reducible refine Blk.drew ?_))) | (refine Nat.ne_of_lt (Blk.lt (arr := ?_) (t := ?_) ?_); rotate_left 2; focus (repeat (first | with_reducible assumption | ((with_reducible refine Blk.new' ?_); first | with_reducible rfl | (simp; done) | (simp [World.drew]; done)) | with_reducible refine Blk.alloc ?_ _ | with_reducible refine Blk.keep ?_ (by with_reducible assumption) | with_reducible refine Blk.drew ?_)))))) | with_reducible refine Blk.keep ?_ (by with_reducible assumption) | with_reducible refine Blk.drew ?_))); intro r0; have r0c0 := r0.cell 0; have r0f0 := r0.free 0; have r0c1 := r0.cell 1; have r0f1 := r0.free 1; have r0c2 := r0.cell 2; have r0f2 := r0.free 2; have r0c3 := r0.cell 3; have r0f3 := r0.free 3; have r0l := r0.lt; simp at r0c0 r0c1 r0c2 r0c3) | (go_at_call 51; (with_reducible refine (f_ranged_1 _ _ _ _ _ _ (by simp)).mono ?_); rw [HP.out]; rintro e w1 ⟨rfl, hb1⟩; refine Blk.thru (b := w.heap.size) (arr := ?_) (t := ?_) ?_ hb1 ?_; rotate_left 2; (focus (repeat (first | with_reducible assumption | ((with_reducible refine Blk.new' ?_); first | with_reducible rfl | (simp; done) | (simp [World.drew]; done)) | with_reducible refine Blk.alloc ?_ _ | ((with_reducible refine Blk.set (arr := ?_) ?_ _ _); rotate_left 1) | ((with_reducible refine Blk.other ?_ ?_ _); rotate_left 1; (focus (first | (simp; done) | (simp; omega) | (refine Nat.ne_of_gt (Blk.lt (arr := ?_) (t := ?_) ?_); rotate_left 2; focus (repeat (first | with_reducible assumption | ((with_reducible refine Blk.new' ?_); first | with_reducible rfl | (simp; done) | (simp [World.drew]; done)) | with_reducible refine Blk.alloc ?_ _ | with_reducible refine Blk.keep ?_ (by with_reducible assumption) | with_reducible refine Blk.drew ?_))) | (refine Nat.ne_of_lt (Blk.lt (arr := ?_) (t := ?_) ?_); rotate_left 2; focus (repeat (first | with_reducible assumption | ((with_reducible refine Blk.new' ?_); first | with_reducible rfl | (simp; done) | (simp [World.drew]; done)) | with_reducible refine Blk.alloc ?_ _ | with_reducible refine Blk.keep ?_ (by with_reducible assumption) | with_reducible refine Blk.drew ?_)))))) | with_reducible refine Blk.keep ?_ (by with_reducible assumption) | with_reducible refine Blk.drew ?_))); intro r0; have r0c0 := r0.cell 0; have r0f0 := r0.free 0; have r0c1 := r0.cell 1; have r0f1 := r0.free 1; have r0c2 := r0.cell 2; have r0f2 := r0.free 2; have r0c3 := r0.cell 3; have r0f3 := r0.free 3; have r0l := r0.lt; simp at r0c0 r0c1 r0c2 r0c3) | (go_at_call 51; (with_reducible refine (f_ranged_1 _ _ _ _ _ _ (by simp)).mono ?_); rw [HMM.out]; rintro e w1 ⟨rfl, hb1⟩; refine Blk.thru (b := w.heap.size) (arr := ?_) (t := ?_) ?_ hb1 ?_; rotate_left 2; (focus (repeat (first | with_reducible assumption | ((with_reducible refine Blk.new' ?_); first | with_reducible rfl | (simp; done) | (simp [World.drew]; done)) | with_reducible refine Blk.alloc ?_ _ | ((with_reducible refine Blk.set (arr := ?_) ?_ _ _); rotate_left 1) | ((with_reducible refine Blk.other ?_ ?_ _); rotate_left 1; (focus (first | (simp; done) | (simp; omega) | (refine Nat.ne_of_gt (Blk.lt (arr := ?_) (t := ?_) ?_); rotate_left 2; focus (repeat (first | with_reducible assumption | ((with_reducible refine Blk.new' ?_); first | with_reducible rfl | (simp; done) | (simp [World.drew]; done)) | with_reducible refine Blk.alloc ?_ _ | with_reducible refine Blk.keep ?_ (by with_reducible assumption) | with_reducible refine Blk.drew ?_))) | (refine Nat.ne_of_lt (Blk.lt (arr := ?_) (t := ?_) ?_); rotate_left 2; focus (repeat (first | with_reducible assumption | ((with_reducible refine Blk.new' ?_); first | with_reducible rfl | (simp; done) | (simp [World.drew]; done)) | with_reducible refine Blk.alloc ?_ _ | with_reducible refine Blk.keep ?_ (by with_reducible assumption) | with_reducible refine Blk.drew ?_)))))) | with_reducible refine Blk.keep ?_ (by with_reducible assumption) | with_reducible refine Blk.drew ?_))); intro r0; have r0c0 := r0.cell 0; have r0f0 := r0.free 0; have r0c1 := r0.cell 1; have r0f1 := r0.free 1; have r0c2 := r0.cell 2; have r0f2 := r0.free 2; have r0c3 := r0.cell 3; have r0f3 := r0.free 3; have r0l := r0.lt; simp at r0c0 r0c1 r0c2 r0c3))
  go_loopw [41] (fun i wr => ∃ s : Nat, s ≤ xs.length / 2 + 1 ∧ i = .int .i64 s ∧ (∀ j, j < s → turnAt v m xs pn j = false) ∧ Blk wr w.heap.size #[.int .i64 v.xlo, .int .i64 v.xhi, .int .i64 v.ylo, .int .i64 v.yhi] 25 ∧ Kept w wr) (fun i _ => xs.length / 2 + 1 - (intOf i).toNat)
  case atStart => exact ⟨0, Nat.zero_le _, rfl, fun j h => absurd h (Nat.not_lt_zero _), by (refine Blk.cast (arr := ?_) ?_ ?_; rotate_left 1; (focus (repeat (first | with_reducible assumption | ((with_reducible refine Blk.new' ?_); first | with_reducible rfl | (simp; done) | (simp [World.drew]; done)) | with_reducible refine Blk.alloc ?_ _ | ((with_reducible refine Blk.set (arr := ?_) ?_ _ _); rotate_left 1) | ((with_reducible refine Blk.other ?_ ?_ _); rotate_left 1; (focus (first | (simp; done) | (simp; omega) | (refine Nat.ne_of_gt (Blk.lt (arr := ?_) (t := ?_) ?_); rotate_left 2; focus (repeat (first | with_reducible assumption | ((with_reducible refine Blk.new' ?_); first | with_reducible rfl | (simp; done) | (simp [World.drew]; done)) | with_reducible refine Blk.alloc ?_ _ | with_reducible refine Blk.keep ?_ (by with_reducible assumption) | with_reducible refine Blk.drew ?_))) | (refine Nat.ne_of_lt (Blk.lt (arr := ?_) (t := ?_) ?_); rotate_left 2; focus (repeat (first | with_reducible assumption | ((with_reducible refine Blk.new' ?_); first | with_reducible rfl | (simp; done) | (simp [World.drew]; done)) | with_reducible refine Blk.alloc ?_ _ | with_reducible refine Blk.keep ?_ (by with_reducible assumption) | with_reducible refine Blk.drew ?_)))))) | with_reducible refine Blk.keep ?_ (by with_reducible assumption) | with_reducible refine Blk.drew ?_))); (first | rfl | (simp; done))), by (repeat (first | with_reducible exact Below.refl _ _ | with_reducible assumption | with_reducible refine Kept.drop ?_ (by with_reducible assumption) | with_reducible refine Kept.alloc ?_ _ | ((with_reducible refine Below.setCell ?_ ?_ _); rotate_left 1; (focus (first | exact Nat.le_refl _ | (simp; done) | (simp; omega) | exact Below.size (by with_reducible assumption) | (refine Kept.size ?_; (repeat (first | with_reducible exact Below.refl _ _ | with_reducible assumption | with_reducible refine Kept.drop ?_ (by with_reducible assumption) | with_reducible refine Kept.alloc ?_ _ | with_reducible refine Below.drew ?_)))))) | with_reducible refine Below.drew ?_))⟩
  case round =>
    clear r0 r0c0 r0f0 r0c1 r0f1 r0c2 r0f2 r0c3 r0f3 r0l
    obtain ⟨s, hs, rfl, hno, r0, hk⟩ := hrel
    by_cases hlt : s < xs.length / 2 + 1
    · have hlt' : (s : Int) < (xs.length : Int) / 2 + 1 := by omega
      have HR1 : ((pn : Int) + (s : Int)) % (xs.length : Int) = ((onBy xs.length pn s : Nat) : Int) := by unfold onBy; simp
      have HR2 : ((pn : Int) + (xs.length : Int) - (s : Int)) % (xs.length : Int) = ((backBy xs.length pn s : Nat) : Int) := by unfold backBy; rw [show (pn : Int) + (xs.length : Int) - (s : Int) = ((pn + xs.length - s : Nat) : Int) by omega]; simp
      have HR4 : ((pn : Int) - (s : Int) + (xs.length : Int)) % (xs.length : Int) = ((backBy xs.length pn s : Nat) : Int) := by rw [← HR2]; congr 1; omega
      have HT1 : ((pn : Int) + (s : Int)).tmod (xs.length : Int) = ((onBy xs.length pn s : Nat) : Int) := by rw [Int.tmod_eq_emod_of_nonneg (by omega)]; exact HR1
      have HT2 : ((pn : Int) + (xs.length : Int) - (s : Int)).tmod (xs.length : Int) = ((backBy xs.length pn s : Nat) : Int) := by rw [Int.tmod_eq_emod_of_nonneg (by omega)]; exact HR2
      have HT4 : ((pn : Int) - (s : Int) + (xs.length : Int)).tmod (xs.length : Int) = ((backBy xs.length pn s : Nat) : Int) := by rw [Int.tmod_eq_emod_of_nonneg (by omega)]; exact HR4
      have onL0 : onBy xs.length pn s < xs.length := Nat.mod_lt _ (by omega)
      have bkL0 : backBy xs.length pn s < xs.length := Nat.mod_lt _ (by omega)
      have HAT := Lib.hid (show turnAt v m xs pn s = (calmAt v m xs (onBy xs.length pn s) || calmAt v m xs (backBy xs.length pn s)) from rfl)
      have HTO := Lib.hid (show turnTo v m xs pn s = if calmAt v m xs (onBy xs.length pn s) then onBy xs.length pn s else backBy xs.length pn s from rfl)
      obtain ⟨on, hon⟩ : ∃ on, on = onBy xs.length pn s := ⟨_, rfl⟩
      obtain ⟨bk, hbk⟩ : ∃ bk, bk = backBy xs.length pn s := ⟨_, rfl⟩
      rw [← hon] at HR1 HT1 onL0 HAT HTO
      rw [← hbk] at HR2 HR4 HT2 HT4 bkL0 HAT HTO
      clear hon hbk
      have onL := onL0
      have bkL := bkL0
      have hz0 : ¬ (xs.length : Int) = 0 := by omega
      have hz1 : ¬ xs = [] := by intro e; rw [e] at hl1; simp at hl1
      go_upto_region 12 with fail
      have W1 := i64_in (n := (pn : Int) + (s : Int)) (by omega)
      have W2 := i64_in (n := (pn : Int) + (xs.length : Int)) (by omega)
      have W3 := i64_in (n := (pn : Int) + (xs.length : Int) - (s : Int)) (by omega)
      have W5 := i64_in (n := (on : Int)) (by omega)
      have W6 := i64_in (n := (bk : Int)) (by omega)
      go_cut [56, 57, 58] (fun s6 s7 s8 wx => ∃ g, s6 = .slice (some ⟨g, 0, none⟩) 2 2 ∧ s7 = .int .i64 2 ∧ s8 = .int .i64 0 ∧ w.heap.size < g ∧ Blk wx g #[.int .i64 on, .int .i64 bk] 3 ∧ Blk wx w.heap.size #[.int .i64 v.xlo, .int .i64 v.xhi, .int .i64 v.ylo, .int .i64 v.yhi] 25 ∧ Kept w wx)
      case first =>
        go_region_held3 (fun w' => Kept wr w') (repeat (first | with_reducible exact Below.refl _ _ | with_reducible assumption | with_reducible refine Kept.drop ?_ (by with_reducible assumption) | with_reducible refine Kept.alloc ?_ _ | ((with_reducible refine Below.setCell ?_ ?_ _); rotate_left 1; (focus (first | exact Nat.le_refl _ | (simp; done) | (simp; omega) | exact Below.size (by with_reducible assumption) | (refine Kept.size ?_; (repeat (first | with_reducible exact Below.refl _ _ | with_reducible assumption | with_reducible refine Kept.drop ?_ (by with_reducible assumption) | with_reducible refine Kept.alloc ?_ _ | with_reducible refine Below.drew ?_)))))) | with_reducible refine Below.drew ?_)) (fail)
        all_goals (go_wp2_with fail; go_meet)
        all_goals
          refine ⟨_, rfl, rfl, rfl, r0.lt, ?_, ?_, ?_⟩
          · first | exact Blk.drew (Blk.new' rfl) | exact Blk.new' rfl | exact Blk.drew (Blk.new' (by simp))
          · (refine Blk.cast (arr := ?_) ?_ ?_; rotate_left 1; (focus (repeat (first | with_reducible assumption | ((with_reducible refine Blk.new' ?_); first | with_reducible rfl | (simp; done) | (simp [World.drew]; done)) | with_reducible refine Blk.alloc ?_ _ | ((with_reducible refine Blk.set (arr := ?_) ?_ _ _); rotate_left 1) | ((with_reducible refine Blk.other ?_ ?_ _); rotate_left 1; (focus (first | (simp; done) | (simp; omega) | (refine Nat.ne_of_gt (Blk.lt (arr := ?_) (t := ?_) ?_); rotate_left 2; focus (repeat (first | with_reducible assumption | ((with_reducible refine Blk.new' ?_); first | with_reducible rfl | (simp; done) | (simp [World.drew]; done)) | with_reducible refine Blk.alloc ?_ _ | with_reducible refine Blk.keep ?_ (by with_reducible assumption) | with_reducible refine Blk.drew ?_))) | (refine Nat.ne_of_lt (Blk.lt (arr := ?_) (t := ?_) ?_); rotate_left 2; focus (repeat (first | with_reducible assumption | ((with_reducible refine Blk.new' ?_); first | with_reducible rfl | (simp; done) | (simp [World.drew]; done)) | with_reducible refine Blk.alloc ?_ _ | with_reducible refine Blk.keep ?_ (by with_reducible assumption) | with_reducible refine Blk.drew ?_)))))) | with_reducible refine Blk.keep ?_ (by with_reducible assumption) | with_reducible refine Blk.drew ?_))); (first | rfl | (simp; done)))
          · (repeat (first | with_reducible exact Below.refl _ _ | with_reducible assumption | with_reducible refine Kept.drop ?_ (by with_reducible assumption) | with_reducible refine Kept.alloc ?_ _ | ((with_reducible refine Below.setCell ?_ ?_ _); rotate_left 1; (focus (first | exact Nat.le_refl _ | (simp; done) | (simp; omega) | exact Below.size (by with_reducible assumption) | (refine Kept.size ?_; (repeat (first | with_reducible exact Below.refl _ _ | with_reducible assumption | with_reducible refine Kept.drop ?_ (by with_reducible assumption) | with_reducible refine Kept.alloc ?_ _ | with_reducible refine Below.drew ?_)))))) | with_reducible refine Below.drew ?_))
      case rest =>
       clear r0
       obtain ⟨g, rfl, rfl, rfl, hgw, q0, r0, hkq⟩ := hcut
       clear W1 W2 W3 W5 W6 HR1 HR2 HR4 HT1 HT2 HT4
       go_wp2
       go_loopw [58] (fun i wq => ∃ t : Nat, t ≤ 2 ∧ i = .int .i64 t ∧ (0 < t → calmAt v m xs on = false) ∧ (1 < t → calmAt v m xs bk = false) ∧ Blk wq g #[.int .i64 on, .int .i64 bk] 3 ∧ Blk wq w.heap.size #[.int .i64 v.xlo, .int .i64 v.xhi, .int .i64 v.ylo, .int .i64 v.yhi] 25 ∧ Kept w wq) (fun i _ => 2 - (intOf i).toNat)
       case atStart => exact ⟨0, by omega, rfl, fun h => by omega, fun h => by omega, q0, r0, hkq⟩
       case round =>
         clear r0 q0 hkq
         obtain ⟨t, ht, rfl, hf1, hf2, q0, r0, hkq⟩ := hrel
         have q0c0 := q0.cell 0
         have q0f0 := q0.free 0
         have q0c1 := q0.cell 1
         have q0f1 := q0.free 1
         have q0l := q0.lt
         simp at q0c0 q0c1
         have h012 : t = 0 ∨ t = 1 ∨ t = 2 := by omega
         rcases h012 with rfl | rfl | rfl
         · have hix : on < xs.length := onL
           obtain ⟨bb, off, rfl, hbl, h0, h1⟩ := Axis.row (hx.later hkq (Nat.le_refl _)) on hix
           have HCA := Lib.hid (show calmAt v m xs on = calmS v xs[on] m by unfold calmAt; rw [List.getD_eq_getElem?_getD, List.getElem?_eq_getElem hix]; rfl)
           have HCC := fun w => f_calm v xs[on] m w hw (HAX.out _ (List.getElem_mem hix)) hm
           obtain ⟨x, hx0⟩ : ∃ x, x = xs[on] := ⟨_, rfl⟩
           rw [← hx0] at HCC HCA h0 h1
           clear hx0
           obtain ⟨V, hV⟩ : ∃ V, V = calmS v x m := ⟨_, rfl⟩
           rw [← hV] at HCC HCA
           clear hV
           have x0 := fun g : Later wr => g.some h0
           have x1 := fun g : Later wr => g.some h1
           have r0c0 := fun g : Later wr => (r0.later g).cell 0
           have r0f0 := fun g : Later wr => (r0.later g).free 0
           have r0c1 := fun g : Later wr => (r0.later g).cell 1
           have r0f1 := fun g : Later wr => (r0.later g).free 1
           have r0c2 := fun g : Later wr => (r0.later g).cell 2
           have r0f2 := fun g : Later wr => (r0.later g).free 2
           have r0c3 := fun g : Later wr => (r0.later g).cell 3
           have r0f3 := fun g : Later wr => (r0.later g).free 3
           have r0l := fun g : Later wr => (r0.later g).lt
           simp at r0c0 r0c1 r0c2 r0c3
           have i0 : (0 : Int) ≤ (on : Int) := by omega
           have i1 : (on : Int) < (xs.length : Int) := by omega
           cases V with
           | true =>
             go_upto_region 15 with fail
             refine Later.region (by kernel_rfl) (by kernel_rfl) ?_
             repeat (first | go_big_quiet_skip | (go_big_quiet_want; go_big_quiet_op; first | go_big_quiet_on | (apply Exists.intro; refine ⟨fun g => ?_, ?_⟩; (focus (first | (go_at_call 52; with_reducible exact Later.call (HCC _)))); go_big_quiet_on)))
             refine wpQuiet_nil ?_
             intro g2
             have hkg := Kept.drop hkq g2.ok
             obtain ⟨e1, e2, e3⟩ := HSOME.out s (by omega) hno (by rw [HAT.out, HCA.out]; rfl)
             have e4 : turnTo v m xs pn s = on := by rw [HTO.out, HCA.out]; rfl
             go_wp2
             exact bodyPost_ret (v := .tuple #[.int .i64 on, .int .i64 s, .int .i64 0]) (by simp [results, Try.results18, go_sem]) rfl ⟨by first | rfl | rw [e1, e2, e3, e4], by (repeat (first | with_reducible exact Below.refl _ _ | with_reducible assumption | with_reducible refine Kept.drop ?_ (by with_reducible assumption) | with_reducible refine Kept.alloc ?_ _ | ((with_reducible refine Below.setCell ?_ ?_ _); rotate_left 1; (focus (first | exact Nat.le_refl _ | (simp; done) | (simp; omega) | exact Below.size (by with_reducible assumption) | (refine Kept.size ?_; (repeat (first | with_reducible exact Below.refl _ _ | with_reducible assumption | with_reducible refine Kept.drop ?_ (by with_reducible assumption) | with_reducible refine Kept.alloc ?_ _ | with_reducible refine Below.drew ?_)))))) | with_reducible refine Below.drew ?_))⟩
           | false =>
             go_upto_region 15 with fail
             refine Later.region (by kernel_rfl) (by kernel_rfl) ?_
             repeat (first | go_big_quiet_skip | (go_big_quiet_want; go_big_quiet_op; first | go_big_quiet_on | (apply Exists.intro; refine ⟨fun g => ?_, ?_⟩; (focus (first | (go_at_call 52; with_reducible exact Later.call (HCC _)))); go_big_quiet_on)))
             refine wpQuiet_nil ?_
             intro g2
             have hkg := Kept.drop hkq g2.ok
             go_wp2
             go_roundw
             case rel => exact ⟨1, by omega, rfl, fun _ => HCA.out, fun h => by omega, q0.later g2, r0.later g2, hkg⟩
             case measure => decide
         · have hf1 := hf1 (by omega)
           have hix : bk < xs.length := bkL
           obtain ⟨bb, off, rfl, hbl, h0, h1⟩ := Axis.row (hx.later hkq (Nat.le_refl _)) bk hix
           have HCA := Lib.hid (show calmAt v m xs bk = calmS v xs[bk] m by unfold calmAt; rw [List.getD_eq_getElem?_getD, List.getElem?_eq_getElem hix]; rfl)
           have HCC := fun w => f_calm v xs[bk] m w hw (HAX.out _ (List.getElem_mem hix)) hm
           obtain ⟨x, hx0⟩ : ∃ x, x = xs[bk] := ⟨_, rfl⟩
           rw [← hx0] at HCC HCA h0 h1
           clear hx0
           obtain ⟨V, hV⟩ : ∃ V, V = calmS v x m := ⟨_, rfl⟩
           rw [← hV] at HCC HCA
           clear hV
           have x0 := fun g : Later wr => g.some h0
           have x1 := fun g : Later wr => g.some h1
           have r0c0 := fun g : Later wr => (r0.later g).cell 0
           have r0f0 := fun g : Later wr => (r0.later g).free 0
           have r0c1 := fun g : Later wr => (r0.later g).cell 1
           have r0f1 := fun g : Later wr => (r0.later g).free 1
           have r0c2 := fun g : Later wr => (r0.later g).cell 2
           have r0f2 := fun g : Later wr => (r0.later g).free 2
           have r0c3 := fun g : Later wr => (r0.later g).cell 3
           have r0f3 := fun g : Later wr => (r0.later g).free 3
           have r0l := fun g : Later wr => (r0.later g).lt
           simp at r0c0 r0c1 r0c2 r0c3
           have i0 : (0 : Int) ≤ (bk : Int) := by omega
           have i1 : (bk : Int) < (xs.length : Int) := by omega
           cases V with
           | true =>
             go_upto_region 15 with fail
             refine Later.region (by kernel_rfl) (by kernel_rfl) ?_
             repeat (first | go_big_quiet_skip | (go_big_quiet_want; go_big_quiet_op; first | go_big_quiet_on | (apply Exists.intro; refine ⟨fun g => ?_, ?_⟩; (focus (first | (go_at_call 52; with_reducible exact Later.call (HCC _)))); go_big_quiet_on)))
             refine wpQuiet_nil ?_
             intro g2
             have hkg := Kept.drop hkq g2.ok
             obtain ⟨e1, e2, e3⟩ := HSOME.out s (by omega) hno (by rw [HAT.out, HCA.out, hf1]; rfl)
             have e4 : turnTo v m xs pn s = bk := by rw [HTO.out, hf1]; rfl
             go_wp2
             exact bodyPost_ret (v := .tuple #[.int .i64 bk, .int .i64 s, .int .i64 0]) (by simp [results, Try.results18, go_sem]) rfl ⟨by first | rfl | rw [e1, e2, e3, e4], by (repeat (first | with_reducible exact Below.refl _ _ | with_reducible assumption | with_reducible refine Kept.drop ?_ (by with_reducible assumption) | with_reducible refine Kept.alloc ?_ _ | ((with_reducible refine Below.setCell ?_ ?_ _); rotate_left 1; (focus (first | exact Nat.le_refl _ | (simp; done) | (simp; omega) | exact Below.size (by with_reducible assumption) | (refine Kept.size ?_; (repeat (first | with_reducible exact Below.refl _ _ | with_reducible assumption | with_reducible refine Kept.drop ?_ (by with_reducible assumption) | with_reducible refine Kept.alloc ?_ _ | with_reducible refine Below.drew ?_)))))) | with_reducible refine Below.drew ?_))⟩
           | false =>
             go_upto_region 15 with fail
             refine Later.region (by kernel_rfl) (by kernel_rfl) ?_
             repeat (first | go_big_quiet_skip | (go_big_quiet_want; go_big_quiet_op; first | go_big_quiet_on | (apply Exists.intro; refine ⟨fun g => ?_, ?_⟩; (focus (first | (go_at_call 52; with_reducible exact Later.call (HCC _)))); go_big_quiet_on)))
             refine wpQuiet_nil ?_
             intro g2
             have hkg := Kept.drop hkq g2.ok
             go_wp2
             go_roundw
             case rel => exact ⟨2, by omega, rfl, fun _ => hf1, fun _ => HCA.out, q0.later g2, r0.later g2, hkg⟩
             case measure => decide
         · have HF := Lib.hid (show turnAt v m xs pn s = false by rw [HAT.out, hf1 (by omega), hf2 (by omega)]; rfl)
           go_wp2
           go_roundw
           case rel =>
             refine ⟨s + 1, by omega, by go_num, fun j hj => ?_, r0, hkq⟩
             rcases Nat.lt_or_ge j s with h | h
             · exact hno j h
             · obtain rfl : j = s := by omega
               exact HF.out
           case measure => simp [intOf]; omega
    · obtain ⟨e1, e2, e3⟩ := HNONE.out (fun j hj => hno j (by omega))
      have hlt' : ¬ (s : Int) < (xs.length : Int) / 2 + 1 := by omega
      go_wp2
      exact bodyPost_ret (v := .tuple #[.int .i64 0, .int .i64 0, .int .i64 6]) (by simp [results, Try.results18, go_sem]) rfl ⟨by first | rfl | rw [e1, e2, e3], by (repeat (first | with_reducible exact Below.refl _ _ | with_reducible assumption | with_reducible refine Kept.drop ?_ (by with_reducible assumption) | with_reducible refine Kept.alloc ?_ _ | ((with_reducible refine Below.setCell ?_ ?_ _); rotate_left 1; (focus (first | exact Nat.le_refl _ | (simp; done) | (simp; omega) | exact Below.size (by with_reducible assumption) | (refine Kept.size ?_; (repeat (first | with_reducible exact Below.refl _ _ | with_reducible assumption | with_reducible refine Kept.drop ?_ (by with_reducible assumption) | with_reducible refine Kept.alloc ?_ _ | with_reducible refine Below.drew ?_)))))) | with_reducible refine Below.drew ?_))⟩

end Go.Proofs.Ytacbkbilbmkjnaa
