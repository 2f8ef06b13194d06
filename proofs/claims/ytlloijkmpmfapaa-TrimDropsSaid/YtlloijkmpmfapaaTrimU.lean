/-
  Shear and bending, in the reference.
-/
import Derived.Test.YtlloijkmpmfapaaTrimT
import Derived.Test.YtlloijkmpmfapaaTrimR
namespace Go.Proofs.Ytlloijkmpmfapaa
open Go.RowKit Bal Bal.Trim
set_option linter.unusedVariables false
set_option linter.unusedSimpArgs false
set_option maxHeartbeats 800000

set_option maxRecDepth 10000

def tP (a b c d : Int) : Nat → Int
  | 0 => a * c
  | 1 => a * d
  | 2 => b * c
  | _ => b * d
def tL (a b c d : Int) : Nat → Int
  | 0 => a * c
  | j + 1 => min (tL a b c d j) (tP a b c d (j + 1))
def tH (a b c d : Int) : Nat → Int
  | 0 => a * c
  | j + 1 => max (tH a b c d j) (tP a b c d (j + 1))
def ExtRel (w : World) (g : Nat) (a b c d : Int) (i : Value) (wr : World) : Prop :=
  ∃ j : Nat, j ≤ 3 ∧ i = .int .i64 (1 + j) ∧ Blk wr g #[.int .i64 (tL a b c d j), .int .i64 (tH a b c d j)] 49 ∧ Blk wr (w.heap.size + 1 + 1 + 1) #[.int .i64 (a * c), .int .i64 (a * d), .int .i64 (b * c), .int .i64 (b * d)] 3 ∧ Blk wr (w.heap.size + 1 + 1) #[.int .i64 0, .int .i64 0] 49 ∧ Kept w wr
theorem r_extremes (a b c d : Int) (w : World) (h1 : -40000 ≤ a) (h2 : a ≤ 40000) (h3 : -40000 ≤ b) (h4 : b ≤ 40000) (h5 : -1073741824 ≤ c) (h6 : c ≤ 1073741824) (h7 : -1073741824 ≤ d) (h8 : d ≤ 1073741824) :
    Calls Try.prog 112 #[.agg #[.int .i64 (a), .int .i64 (b)], .agg #[.int .i64 (c), .int .i64 (d)]] w fun e w' => e = .returned (.agg #[.int .i64 (tLo a b c d), .int .i64 (tHi a b c d)]) ∧ Kept w w' := by
  obtain ⟨p1, p2⟩ := mul_bd (A := 40000) (B := 1073741824) h1 h2 h5 h6
  obtain ⟨p3, p4⟩ := mul_bd (A := 40000) (B := 1073741824) h1 h2 h7 h8
  obtain ⟨p5, p6⟩ := mul_bd (A := 40000) (B := 1073741824) h3 h4 h5 h6
  obtain ⟨p7, p8⟩ := mul_bd (A := 40000) (B := 1073741824) h3 h4 h7 h8
  go_enter Try.func112, Try.ntmps112
  go_upto_region 2 with fail
  refine at_world (S := fun W => Blk W (w.heap.size + 1 + 1 + 1) #[.int .i64 (a * c), .int .i64 (a * d), .int .i64 (b * c), .int .i64 (b * d)] 3 ∧ Blk W (w.heap.size + 1 + 1) #[.int .i64 0, .int .i64 0] 49 ∧ Kept w W) ⟨by (refine Blk.cast (arr := ?_) ?_ ?_; rotate_left 1; (focus (repeat (first | with_reducible assumption | ((with_reducible refine Blk.new' ?_); first | with_reducible rfl | (simp; done) | (simp [World.drew]; done)) | with_reducible refine Blk.alloc ?_ _ | ((with_reducible refine Blk.set (arr := ?_) ?_ _ _); rotate_left 1) | ((with_reducible refine Blk.other ?_ ?_ _); rotate_left 1; (focus (first | (simp; done) | (simp; omega) | (refine Nat.ne_of_gt (Blk.lt (arr := ?_) (t := ?_) ?_); rotate_left 2; focus (repeat (first | with_reducible assumption | ((with_reducible refine Blk.new' ?_); first | with_reducible rfl | (simp; done) | (simp [World.drew]; done)) | with_reducible refine Blk.alloc ?_ _ | with_reducible refine Blk.keep ?_ (by with_reducible assumption) | with_reducible refine Blk.drew ?_))) | (refine Nat.ne_of_lt (Blk.lt (arr := ?_) (t := ?_) ?_); rotate_left 2; focus (repeat (first | with_reducible assumption | ((with_reducible refine Blk.new' ?_); first | with_reducible rfl | (simp; done) | (simp [World.drew]; done)) | with_reducible refine Blk.alloc ?_ _ | with_reducible refine Blk.keep ?_ (by with_reducible assumption) | with_reducible refine Blk.drew ?_)))))) | with_reducible refine Blk.keep ?_ (by with_reducible assumption) | with_reducible refine Blk.drew ?_))); (first | rfl | (simp; done))), by (refine Blk.cast (arr := ?_) ?_ ?_; rotate_left 1; (focus (repeat (first | with_reducible assumption | ((with_reducible refine Blk.new' ?_); first | with_reducible rfl | (simp; done) | (simp [World.drew]; done)) | with_reducible refine Blk.alloc ?_ _ | ((with_reducible refine Blk.set (arr := ?_) ?_ _ _); rotate_left 1) | ((with_reducible refine Blk.other ?_ ?_ _); rotate_left 1; (focus (first | (simp; done) | (simp; omega) | (refine Nat.ne_of_gt (Blk.lt (arr := ?_) (t := ?_) ?_); rotate_left 2; focus (repeat (first | with_reducible assumption | ((with_reducible refine Blk.new' ?_); first | with_reducible rfl | (simp; done) | (simp [World.drew]; done)) | with_reducible refine Blk.alloc ?_ _ | with_reducible refine Blk.keep ?_ (by with_reducible assumption) | with_reducible refine Blk.drew ?_))) | (refine Nat.ne_of_lt (Blk.lt (arr := ?_) (t := ?_) ?_); rotate_left 2; focus (repeat (first | with_reducible assumption | ((with_reducible refine Blk.new' ?_); first | with_reducible rfl | (simp; done) | (simp [World.drew]; done)) | with_reducible refine Blk.alloc ?_ _ | with_reducible refine Blk.keep ?_ (by with_reducible assumption) | with_reducible refine Blk.drew ?_)))))) | with_reducible refine Blk.keep ?_ (by with_reducible assumption) | with_reducible refine Blk.drew ?_))); (first | rfl | (simp; done))), by (repeat (first | with_reducible exact Below.refl _ _ | with_reducible assumption | with_reducible refine Kept.drop ?_ (by with_reducible assumption) | with_reducible refine Kept.alloc ?_ _ | ((with_reducible refine Below.setCell ?_ ?_ _); rotate_left 1; (focus (first | exact Nat.le_refl _ | (simp; done) | (simp; omega) | exact Below.size (by with_reducible assumption) | (refine Kept.size ?_; (repeat (first | with_reducible exact Below.refl _ _ | with_reducible assumption | with_reducible refine Kept.drop ?_ (by with_reducible assumption) | with_reducible refine Kept.alloc ?_ _ | with_reducible refine Below.drew ?_)))))) | with_reducible refine Below.drew ?_))⟩ ?_
  rintro W ⟨q5, q4, hk⟩
  have k0 : ∀ w', Kept W w' → w'.cell? ⟨w.heap.size + 1 + 1 + 1, 0, none⟩ = some (.int .i64 (a * c)) := fun w' h => by have := (q5.keep h).cell 0; simpa using this
  go_cut [6] (fun s6 wx => ∃ g, s6 = .pointer (some ⟨g, 0, none⟩) ∧ w.heap.size + 1 + 1 + 1 < g ∧ Blk wx g #[.int .i64 (a * c), .int .i64 (a * c)] 49 ∧ Blk wx (w.heap.size + 1 + 1 + 1) #[.int .i64 (a * c), .int .i64 (a * d), .int .i64 (b * c), .int .i64 (b * d)] 3 ∧ Blk wx (w.heap.size + 1 + 1) #[.int .i64 0, .int .i64 0] 49 ∧ Kept w wx)
  case first =>
    have q5l := q5.lt
    go_region_held3 (fun w' => Kept W w') (repeat (first | with_reducible exact Below.refl _ _ | with_reducible assumption | with_reducible refine Kept.drop ?_ (by with_reducible assumption) | with_reducible refine Kept.alloc ?_ _ | ((with_reducible refine Below.setCell ?_ ?_ _); rotate_left 1; (focus (first | exact Nat.le_refl _ | (simp; done) | (simp; omega) | exact Below.size (by with_reducible assumption) | (refine Kept.size ?_; (repeat (first | with_reducible exact Below.refl _ _ | with_reducible assumption | with_reducible refine Kept.drop ?_ (by with_reducible assumption) | with_reducible refine Kept.alloc ?_ _ | with_reducible refine Below.drew ?_)))))) | with_reducible refine Below.drew ?_)) (fail)
    all_goals (go_wp2_with fail; go_meet)
    all_goals
      refine ⟨_, rfl, ?_, ?_, ?_, ?_, ?_⟩
      · first | (simp; done) | (simp; omega) | (have hsz := Kept.size (by assumption : Kept W _); simp; omega)
      · first | exact Blk.drew (Blk.new' (by simp)) | (refine Blk.cast (arr := ?_) ?_ ?_; rotate_left 1; (focus (repeat (first | with_reducible assumption | ((with_reducible refine Blk.new' ?_); first | with_reducible rfl | (simp; done) | (simp [World.drew]; done)) | with_reducible refine Blk.alloc ?_ _ | ((with_reducible refine Blk.set (arr := ?_) ?_ _ _); rotate_left 1) | ((with_reducible refine Blk.other ?_ ?_ _); rotate_left 1; (focus (first | (simp; done) | (simp; omega) | (refine Nat.ne_of_gt (Blk.lt (arr := ?_) (t := ?_) ?_); rotate_left 2; focus (repeat (first | with_reducible assumption | ((with_reducible refine Blk.new' ?_); first | with_reducible rfl | (simp; done) | (simp [World.drew]; done)) | with_reducible refine Blk.alloc ?_ _ | with_reducible refine Blk.keep ?_ (by with_reducible assumption) | with_reducible refine Blk.drew ?_))) | (refine Nat.ne_of_lt (Blk.lt (arr := ?_) (t := ?_) ?_); rotate_left 2; focus (repeat (first | with_reducible assumption | ((with_reducible refine Blk.new' ?_); first | with_reducible rfl | (simp; done) | (simp [World.drew]; done)) | with_reducible refine Blk.alloc ?_ _ | with_reducible refine Blk.keep ?_ (by with_reducible assumption) | with_reducible refine Blk.drew ?_)))))) | with_reducible refine Blk.keep ?_ (by with_reducible assumption) | with_reducible refine Blk.drew ?_))); (first | rfl | (simp; done)))
      · (refine Blk.cast (arr := ?_) ?_ ?_; rotate_left 1; (focus (repeat (first | with_reducible assumption | ((with_reducible refine Blk.new' ?_); first | with_reducible rfl | (simp; done) | (simp [World.drew]; done)) | with_reducible refine Blk.alloc ?_ _ | ((with_reducible refine Blk.set (arr := ?_) ?_ _ _); rotate_left 1) | ((with_reducible refine Blk.other ?_ ?_ _); rotate_left 1; (focus (first | (simp; done) | (simp; omega) | (refine Nat.ne_of_gt (Blk.lt (arr := ?_) (t := ?_) ?_); rotate_left 2; focus (repeat (first | with_reducible assumption | ((with_reducible refine Blk.new' ?_); first | with_reducible rfl | (simp; done) | (simp [World.drew]; done)) | with_reducible refine Blk.alloc ?_ _ | with_reducible refine Blk.keep ?_ (by with_reducible assumption) | with_reducible refine Blk.drew ?_))) | (refine Nat.ne_of_lt (Blk.lt (arr := ?_) (t := ?_) ?_); rotate_left 2; focus (repeat (first | with_reducible assumption | ((with_reducible refine Blk.new' ?_); first | with_reducible rfl | (simp; done) | (simp [World.drew]; done)) | with_reducible refine Blk.alloc ?_ _ | with_reducible refine Blk.keep ?_ (by with_reducible assumption) | with_reducible refine Blk.drew ?_)))))) | with_reducible refine Blk.keep ?_ (by with_reducible assumption) | with_reducible refine Blk.drew ?_))); (first | rfl | (simp; done)))
      · (refine Blk.cast (arr := ?_) ?_ ?_; rotate_left 1; (focus (repeat (first | with_reducible assumption | ((with_reducible refine Blk.new' ?_); first | with_reducible rfl | (simp; done) | (simp [World.drew]; done)) | with_reducible refine Blk.alloc ?_ _ | ((with_reducible refine Blk.set (arr := ?_) ?_ _ _); rotate_left 1) | ((with_reducible refine Blk.other ?_ ?_ _); rotate_left 1; (focus (first | (simp; done) | (simp; omega) | (refine Nat.ne_of_gt (Blk.lt (arr := ?_) (t := ?_) ?_); rotate_left 2; focus (repeat (first | with_reducible assumption | ((with_reducible refine Blk.new' ?_); first | with_reducible rfl | (simp; done) | (simp [World.drew]; done)) | with_reducible refine Blk.alloc ?_ _ | with_reducible refine Blk.keep ?_ (by with_reducible assumption) | with_reducible refine Blk.drew ?_))) | (refine Nat.ne_of_lt (Blk.lt (arr := ?_) (t := ?_) ?_); rotate_left 2; focus (repeat (first | with_reducible assumption | ((with_reducible refine Blk.new' ?_); first | with_reducible rfl | (simp; done) | (simp [World.drew]; done)) | with_reducible refine Blk.alloc ?_ _ | with_reducible refine Blk.keep ?_ (by with_reducible assumption) | with_reducible refine Blk.drew ?_)))))) | with_reducible refine Blk.keep ?_ (by with_reducible assumption) | with_reducible refine Blk.drew ?_))); (first | rfl | (simp; done)))
      · (repeat (first | with_reducible exact Below.refl _ _ | with_reducible assumption | with_reducible refine Kept.drop ?_ (by with_reducible assumption) | with_reducible refine Kept.alloc ?_ _ | ((with_reducible refine Below.setCell ?_ ?_ _); rotate_left 1; (focus (first | exact Nat.le_refl _ | (simp; done) | (simp; omega) | exact Below.size (by with_reducible assumption) | (refine Kept.size ?_; (repeat (first | with_reducible exact Below.refl _ _ | with_reducible assumption | with_reducible refine Kept.drop ?_ (by with_reducible assumption) | with_reducible refine Kept.alloc ?_ _ | with_reducible refine Below.drew ?_)))))) | with_reducible refine Below.drew ?_))
  case rest =>
    clear k0 q5 q4 hk
    obtain ⟨g, rfl, hg, q6, q5, q4, hk⟩ := hcut
    go_wp2
    go_loopw [7] (fun i wr => ExtRel w g a b c d i wr) (fun i _ => 4 - (intOf i).toNat)
    case atStart => exact ⟨0, by omega, rfl, q6, q5, q4, hk⟩
    case round =>
      clear q6 q5 q4 hk
      obtain ⟨j, hj, hi, q6, q5, q4, hkk⟩ := hrel
      by_cases hj3 : j < 3
      · have HS1 := Lib.hid (show tL a b c d (j + 1) = min (tL a b c d j) (tP a b c d (j + 1)) from rfl)
        have HS2 := Lib.hid (show tH a b c d (j + 1) = max (tH a b c d j) (tP a b c d (j + 1)) from rfl)
        have P1 : tP a b c d (j + 1) = tP a b c d (j + 1) := rfl
        obtain ⟨LO, hLO⟩ : ∃ n, n = tL a b c d j := ⟨_, rfl⟩
        obtain ⟨HI, hHI⟩ : ∃ n, n = tH a b c d j := ⟨_, rfl⟩
        rw [← hLO] at HS1 q6
        rw [← hHI] at HS2 q6
        clear hLO hHI
        rcases (show j = 0 ∨ j = 1 ∨ j = 2 by omega) with rfl | rfl | rfl
        · simp only [tP] at HS1 HS2 P1
          replace hi : _ = Value.int .i64 1 := hi
          subst hi
          go_upto_region 6 with fail
          have q6c0 := fun g : Later wr => (q6.later g).cell 0
          have q6f0 := fun g : Later wr => (q6.later g).free 0
          have q6c1 := fun g : Later wr => (q6.later g).cell 1
          have q6f1 := fun g : Later wr => (q6.later g).free 1
          have q6l := fun g : Later wr => (q6.later g).lt
          simp at q6c0 q6c1
          have q5c0 := fun g : Later wr => (q5.later g).cell 0
          have q5f0 := fun g : Later wr => (q5.later g).free 0
          have q5c1 := fun g : Later wr => (q5.later g).cell 1
          have q5f1 := fun g : Later wr => (q5.later g).free 1
          have q5c2 := fun g : Later wr => (q5.later g).cell 2
          have q5f2 := fun g : Later wr => (q5.later g).free 2
          have q5c3 := fun g : Later wr => (q5.later g).cell 3
          have q5f3 := fun g : Later wr => (q5.later g).free 3
          have q5l := fun g : Later wr => (q5.later g).lt
          simp at q5c0 q5c1 q5c2 q5c3
          refine later_mix [(false, 0), (false, 1), (false, 2), (false, 3), (false, 4), (false, 5), (true, 6), (false, 7)] 8 [] (by kernel_rfl) (by kernel_rfl) ?_
          simp only [List.filterMap_cons, List.filterMap_nil, List.getElem?_cons_zero, List.getElem?_cons_succ, Option.map_some]
          repeat (refine wpSteps_quiet ?_; (first | go_big_quiet_skip | (go_big_quiet_want; go_big_quiet_op; first | go_big_quiet_on | (apply Exists.intro; refine ⟨fun g => ?_, ?_⟩; (focus (first | fail)); go_big_quiet_on))); refine wpQuiet_nil ?_)
          refine wpSteps_any (.int .i64 (min LO (a * d))) rfl (fun w => ?_) ?_
          · first | (go_simp; done) | (go_simp; simp [ite_min]; done) | (go_simp; split <;> omega) | (go_simp; simp; split <;> omega) | trace_state
          simp only [Act.put, List.setIfInBounds_toArray, List.set_cons_zero, List.set_cons_succ]
          repeat (refine wpSteps_quiet ?_; (first | go_big_quiet_skip | (go_big_quiet_want; go_big_quiet_op; first | go_big_quiet_on | (apply Exists.intro; refine ⟨fun g => ?_, ?_⟩; (focus (first | fail)); go_big_quiet_on))); refine wpQuiet_nil ?_)
          refine wpSteps_nil ?_
          intro gg
          have hkgg := Kept.drop hkk gg.ok
          try simp only [ite_min, ite_max]
          go_wp2
          refine NoPanic.normal ?_
          go_upto_region 7 with fail
          refine at_world (S := fun W => Blk W g #[.int .i64 (min LO (a * d)), .int .i64 HI] 49 ∧ Blk W (w.heap.size + 1 + 1 + 1) #[.int .i64 (a * c), .int .i64 (a * d), .int .i64 (b * c), .int .i64 (b * d)] 3 ∧ Blk W (w.heap.size + 1 + 1) #[.int .i64 0, .int .i64 0] 49 ∧ Kept w W) ⟨by (refine Blk.cast (arr := ?_) ?_ ?_; rotate_left 1; (focus (repeat (first | with_reducible assumption | ((with_reducible refine Blk.new' ?_); first | with_reducible rfl | (simp; done) | (simp [World.drew]; done)) | with_reducible refine Blk.alloc ?_ _ | ((with_reducible refine Blk.set (arr := ?_) ?_ _ _); rotate_left 1) | ((with_reducible refine Blk.other ?_ ?_ _); rotate_left 1; (focus (first | (simp; done) | (simp; omega) | (refine Nat.ne_of_gt (Blk.lt (arr := ?_) (t := ?_) ?_); rotate_left 2; focus (repeat (first | with_reducible assumption | ((with_reducible refine Blk.new' ?_); first | with_reducible rfl | (simp; done) | (simp [World.drew]; done)) | with_reducible refine Blk.alloc ?_ _ | with_reducible refine Blk.later ?_ gg | with_reducible refine Blk.drew ?_))) | (refine Nat.ne_of_lt (Blk.lt (arr := ?_) (t := ?_) ?_); rotate_left 2; focus (repeat (first | with_reducible assumption | ((with_reducible refine Blk.new' ?_); first | with_reducible rfl | (simp; done) | (simp [World.drew]; done)) | with_reducible refine Blk.alloc ?_ _ | with_reducible refine Blk.later ?_ gg | with_reducible refine Blk.drew ?_)))))) | with_reducible refine Blk.later ?_ gg | with_reducible refine Blk.drew ?_))); (first | rfl | (simp; done))), by (refine Blk.cast (arr := ?_) ?_ ?_; rotate_left 1; (focus (repeat (first | with_reducible assumption | ((with_reducible refine Blk.new' ?_); first | with_reducible rfl | (simp; done) | (simp [World.drew]; done)) | with_reducible refine Blk.alloc ?_ _ | ((with_reducible refine Blk.set (arr := ?_) ?_ _ _); rotate_left 1) | ((with_reducible refine Blk.other ?_ ?_ _); rotate_left 1; (focus (first | (simp; done) | (simp; omega) | (refine Nat.ne_of_gt (Blk.lt (arr := ?_) (t := ?_) ?_); rotate_left 2; focus (repeat (first | with_reducible assumption | ((with_reducible refine Blk.new' ?_); first | with_reducible rfl | (simp; done) | (simp [World.drew]; done)) | with_reducible refine Blk.alloc ?_ _ | with_reducible refine Blk.later ?_ gg | with_reducible refine Blk.drew ?_))) | (refine Nat.ne_of_lt (Blk.lt (arr := ?_) (t := ?_) ?_); rotate_left 2; focus (repeat (first | with_reducible assumption | ((with_reducible refine Blk.new' ?_); first | with_reducible rfl | (simp; done) | (simp [World.drew]; done)) | with_reducible refine Blk.alloc ?_ _ | with_reducible refine Blk.later ?_ gg | with_reducible refine Blk.drew ?_)))))) | with_reducible refine Blk.later ?_ gg | with_reducible refine Blk.drew ?_))); (first | rfl | (simp; done))), by (refine Blk.cast (arr := ?_) ?_ ?_; rotate_left 1; (focus (repeat (first | with_reducible assumption | ((with_reducible refine Blk.new' ?_); first | with_reducible rfl | (simp; done) | (simp [World.drew]; done)) | with_reducible refine Blk.alloc ?_ _ | ((with_reducible refine Blk.set (arr := ?_) ?_ _ _); rotate_left 1) | ((with_reducible refine Blk.other ?_ ?_ _); rotate_left 1; (focus (first | (simp; done) | (simp; omega) | (refine Nat.ne_of_gt (Blk.lt (arr := ?_) (t := ?_) ?_); rotate_left 2; focus (repeat (first | with_reducible assumption | ((with_reducible refine Blk.new' ?_); first | with_reducible rfl | (simp; done) | (simp [World.drew]; done)) | with_reducible refine Blk.alloc ?_ _ | with_reducible refine Blk.later ?_ gg | with_reducible refine Blk.drew ?_))) | (refine Nat.ne_of_lt (Blk.lt (arr := ?_) (t := ?_) ?_); rotate_left 2; focus (repeat (first | with_reducible assumption | ((with_reducible refine Blk.new' ?_); first | with_reducible rfl | (simp; done) | (simp [World.drew]; done)) | with_reducible refine Blk.alloc ?_ _ | with_reducible refine Blk.later ?_ gg | with_reducible refine Blk.drew ?_)))))) | with_reducible refine Blk.later ?_ gg | with_reducible refine Blk.drew ?_))); (first | rfl | (simp; done))), by (repeat (first | with_reducible exact Below.refl _ _ | with_reducible assumption | with_reducible refine Kept.drop ?_ (by with_reducible assumption) | with_reducible refine Kept.alloc ?_ _ | ((with_reducible refine Below.setCell ?_ ?_ _); rotate_left 1; (focus (first | exact Nat.le_refl _ | (simp; done) | (simp; omega) | exact Below.size (by with_reducible assumption) | (refine Kept.size ?_; (repeat (first | with_reducible exact Below.refl _ _ | with_reducible assumption | with_reducible refine Kept.drop ?_ (by with_reducible assumption) | with_reducible refine Kept.alloc ?_ _ | with_reducible refine Below.drew ?_)))))) | with_reducible refine Below.drew ?_))⟩ ?_
          clear q6c0 q6c1 q6f0 q6f1 q6l q5c0 q5f0 q5c1 q5f1 q5c2 q5f2 q5c3 q5f3 q5l q6 q5 q4 hkgg hkk gg
          rintro V ⟨q6, q5, q4, hkk⟩
          have q6c0 := fun g : Later V => (q6.later g).cell 0
          have q6f0 := fun g : Later V => (q6.later g).free 0
          have q6c1 := fun g : Later V => (q6.later g).cell 1
          have q6f1 := fun g : Later V => (q6.later g).free 1
          have q6l := fun g : Later V => (q6.later g).lt
          simp at q6c0 q6c1
          have q5c0 := fun g : Later V => (q5.later g).cell 0
          have q5f0 := fun g : Later V => (q5.later g).free 0
          have q5c1 := fun g : Later V => (q5.later g).cell 1
          have q5f1 := fun g : Later V => (q5.later g).free 1
          have q5c2 := fun g : Later V => (q5.later g).cell 2
          have q5f2 := fun g : Later V => (q5.later g).free 2
          have q5c3 := fun g : Later V => (q5.later g).cell 3
          have q5f3 := fun g : Later V => (q5.later g).free 3
          have q5l := fun g : Later V => (q5.later g).lt
          simp at q5c0 q5c1 q5c2 q5c3
          refine later_mix [(false, 0), (false, 1), (false, 2), (false, 3), (false, 4), (false, 5), (true, 6), (false, 7)] 8 [] (by kernel_rfl) (by kernel_rfl) ?_
          simp only [List.filterMap_cons, List.filterMap_nil, List.getElem?_cons_zero, List.getElem?_cons_succ, Option.map_some]
          repeat (refine wpSteps_quiet ?_; (first | go_big_quiet_skip | (go_big_quiet_want; go_big_quiet_op; first | go_big_quiet_on | (apply Exists.intro; refine ⟨fun g => ?_, ?_⟩; (focus (first | fail)); go_big_quiet_on))); refine wpQuiet_nil ?_)
          refine wpSteps_any (.int .i64 (max HI (a * d))) rfl (fun w => ?_) ?_
          · first | (go_simp; done) | (go_simp; simp [ite_max]; done) | (go_simp; split <;> omega) | (go_simp; simp; split <;> omega) | trace_state
          simp only [Act.put, List.setIfInBounds_toArray, List.set_cons_zero, List.set_cons_succ]
          repeat (refine wpSteps_quiet ?_; (first | go_big_quiet_skip | (go_big_quiet_want; go_big_quiet_op; first | go_big_quiet_on | (apply Exists.intro; refine ⟨fun g => ?_, ?_⟩; (focus (first | fail)); go_big_quiet_on))); refine wpQuiet_nil ?_)
          refine wpSteps_nil ?_
          intro gh
          have hkgh := Kept.drop hkk gh.ok
          try simp only [ite_min, ite_max]
          go_wp2
          refine NoPanic.normal ?_
          go_wp2
          go_round
          case rel => exact ⟨1, by omega, by go_num, by rw [HS1.out, HS2.out]; (refine Blk.cast (arr := ?_) ?_ ?_; rotate_left 1; (focus (repeat (first | with_reducible assumption | ((with_reducible refine Blk.new' ?_); first | with_reducible rfl | (simp; done) | (simp [World.drew]; done)) | with_reducible refine Blk.alloc ?_ _ | ((with_reducible refine Blk.set (arr := ?_) ?_ _ _); rotate_left 1) | ((with_reducible refine Blk.other ?_ ?_ _); rotate_left 1; (focus (first | (simp; done) | (simp; omega) | (refine Nat.ne_of_gt (Blk.lt (arr := ?_) (t := ?_) ?_); rotate_left 2; focus (repeat (first | with_reducible assumption | ((with_reducible refine Blk.new' ?_); first | with_reducible rfl | (simp; done) | (simp [World.drew]; done)) | with_reducible refine Blk.alloc ?_ _ | with_reducible refine Blk.later ?_ gh | with_reducible refine Blk.drew ?_))) | (refine Nat.ne_of_lt (Blk.lt (arr := ?_) (t := ?_) ?_); rotate_left 2; focus (repeat (first | with_reducible assumption | ((with_reducible refine Blk.new' ?_); first | with_reducible rfl | (simp; done) | (simp [World.drew]; done)) | with_reducible refine Blk.alloc ?_ _ | with_reducible refine Blk.later ?_ gh | with_reducible refine Blk.drew ?_)))))) | with_reducible refine Blk.later ?_ gh | with_reducible refine Blk.drew ?_))); (first | rfl | (simp; done))), by (repeat (first | with_reducible assumption | ((with_reducible refine Blk.new' ?_); first | with_reducible rfl | (simp; done) | (simp [World.drew]; done)) | with_reducible refine Blk.alloc ?_ _ | ((with_reducible refine Blk.set (arr := ?_) ?_ _ _); rotate_left 1) | ((with_reducible refine Blk.other ?_ ?_ _); rotate_left 1; (focus (first | (simp; done) | (simp; omega) | (refine Nat.ne_of_gt (Blk.lt (arr := ?_) (t := ?_) ?_); rotate_left 2; focus (repeat (first | with_reducible assumption | ((with_reducible refine Blk.new' ?_); first | with_reducible rfl | (simp; done) | (simp [World.drew]; done)) | with_reducible refine Blk.alloc ?_ _ | with_reducible refine Blk.later ?_ gh | with_reducible refine Blk.drew ?_))) | (refine Nat.ne_of_lt (Blk.lt (arr := ?_) (t := ?_) ?_); rotate_left 2; focus (repeat (first | with_reducible assumption | ((with_reducible refine Blk.new' ?_); first | with_reducible rfl | (simp; done) | (simp [World.drew]; done)) | with_reducible refine Blk.alloc ?_ _ | with_reducible refine Blk.later ?_ gh | with_reducible refine Blk.drew ?_)))))) | with_reducible refine Blk.later ?_ gh | with_reducible refine Blk.drew ?_)), by (repeat (first | with_reducible assumption | ((with_reducible refine Blk.new' ?_); first | with_reducible rfl | (simp; done) | (simp [World.drew]; done)) | with_reducible refine Blk.alloc ?_ _ | ((with_reducible refine Blk.set (arr := ?_) ?_ _ _); rotate_left 1) | ((with_reducible refine Blk.other ?_ ?_ _); rotate_left 1; (focus (first | (simp; done) | (simp; omega) | (refine Nat.ne_of_gt (Blk.lt (arr := ?_) (t := ?_) ?_); rotate_left 2; focus (repeat (first | with_reducible assumption | ((with_reducible refine Blk.new' ?_); first | with_reducible rfl | (simp; done) | (simp [World.drew]; done)) | with_reducible refine Blk.alloc ?_ _ | with_reducible refine Blk.later ?_ gh | with_reducible refine Blk.drew ?_))) | (refine Nat.ne_of_lt (Blk.lt (arr := ?_) (t := ?_) ?_); rotate_left 2; focus (repeat (first | with_reducible assumption | ((with_reducible refine Blk.new' ?_); first | with_reducible rfl | (simp; done) | (simp [World.drew]; done)) | with_reducible refine Blk.alloc ?_ _ | with_reducible refine Blk.later ?_ gh | with_reducible refine Blk.drew ?_)))))) | with_reducible refine Blk.later ?_ gh | with_reducible refine Blk.drew ?_)), by (repeat (first | with_reducible exact Below.refl _ _ | with_reducible assumption | with_reducible refine Kept.drop ?_ (by with_reducible assumption) | with_reducible refine Kept.alloc ?_ _ | ((with_reducible refine Below.setCell ?_ ?_ _); rotate_left 1; (focus (first | exact Nat.le_refl _ | (simp; done) | (simp; omega) | exact Below.size (by with_reducible assumption) | (refine Kept.size ?_; (repeat (first | with_reducible exact Below.refl _ _ | with_reducible assumption | with_reducible refine Kept.drop ?_ (by with_reducible assumption) | with_reducible refine Kept.alloc ?_ _ | with_reducible refine Below.drew ?_)))))) | with_reducible refine Below.drew ?_))⟩
          case measure => simp [intOf]
        · simp only [tP] at HS1 HS2 P1
          replace hi : _ = Value.int .i64 2 := hi
          subst hi
          go_upto_region 6 with fail
          have q6c0 := fun g : Later wr => (q6.later g).cell 0
          have q6f0 := fun g : Later wr => (q6.later g).free 0
          have q6c1 := fun g : Later wr => (q6.later g).cell 1
          have q6f1 := fun g : Later wr => (q6.later g).free 1
          have q6l := fun g : Later wr => (q6.later g).lt
          simp at q6c0 q6c1
          have q5c0 := fun g : Later wr => (q5.later g).cell 0
          have q5f0 := fun g : Later wr => (q5.later g).free 0
          have q5c1 := fun g : Later wr => (q5.later g).cell 1
          have q5f1 := fun g : Later wr => (q5.later g).free 1
          have q5c2 := fun g : Later wr => (q5.later g).cell 2
          have q5f2 := fun g : Later wr => (q5.later g).free 2
          have q5c3 := fun g : Later wr => (q5.later g).cell 3
          have q5f3 := fun g : Later wr => (q5.later g).free 3
          have q5l := fun g : Later wr => (q5.later g).lt
          simp at q5c0 q5c1 q5c2 q5c3
          refine later_mix [(false, 0), (false, 1), (false, 2), (false, 3), (false, 4), (false, 5), (true, 6), (false, 7)] 8 [] (by kernel_rfl) (by kernel_rfl) ?_
          simp only [List.filterMap_cons, List.filterMap_nil, List.getElem?_cons_zero, List.getElem?_cons_succ, Option.map_some]
          repeat (refine wpSteps_quiet ?_; (first | go_big_quiet_skip | (go_big_quiet_want; go_big_quiet_op; first | go_big_quiet_on | (apply Exists.intro; refine ⟨fun g => ?_, ?_⟩; (focus (first | fail)); go_big_quiet_on))); refine wpQuiet_nil ?_)
          refine wpSteps_any (.int .i64 (min LO (b * c))) rfl (fun w => ?_) ?_
          · first | (go_simp; done) | (go_simp; simp [ite_min]; done) | (go_simp; split <;> omega) | (go_simp; simp; split <;> omega) | trace_state
          simp only [Act.put, List.setIfInBounds_toArray, List.set_cons_zero, List.set_cons_succ]
          repeat (refine wpSteps_quiet ?_; (first | go_big_quiet_skip | (go_big_quiet_want; go_big_quiet_op; first | go_big_quiet_on | (apply Exists.intro; refine ⟨fun g => ?_, ?_⟩; (focus (first | fail)); go_big_quiet_on))); refine wpQuiet_nil ?_)
          refine wpSteps_nil ?_
          intro gg
          have hkgg := Kept.drop hkk gg.ok
          try simp only [ite_min, ite_max]
          go_wp2
          refine NoPanic.normal ?_
          go_upto_region 7 with fail
          refine at_world (S := fun W => Blk W g #[.int .i64 (min LO (b * c)), .int .i64 HI] 49 ∧ Blk W (w.heap.size + 1 + 1 + 1) #[.int .i64 (a * c), .int .i64 (a * d), .int .i64 (b * c), .int .i64 (b * d)] 3 ∧ Blk W (w.heap.size + 1 + 1) #[.int .i64 0, .int .i64 0] 49 ∧ Kept w W) ⟨by (refine Blk.cast (arr := ?_) ?_ ?_; rotate_left 1; (focus (repeat (first | with_reducible assumption | ((with_reducible refine Blk.new' ?_); first | with_reducible rfl | (simp; done) | (simp [World.drew]; done)) | with_reducible refine Blk.alloc ?_ _ | ((with_reducible refine Blk.set (arr := ?_) ?_ _ _); rotate_left 1) | ((with_reducible refine Blk.other ?_ ?_ _); rotate_left 1; (focus (first | (simp; done) | (simp; omega) | (refine Nat.ne_of_gt (Blk.lt (arr := ?_) (t := ?_) ?_); rotate_left 2; focus (repeat (first | with_reducible assumption | ((with_reducible refine Blk.new' ?_); first | with_reducible rfl | (simp; done) | (simp [World.drew]; done)) | with_reducible refine Blk.alloc ?_ _ | with_reducible refine Blk.later ?_ gg | with_reducible refine Blk.drew ?_))) | (refine Nat.ne_of_lt (Blk.lt (arr := ?_) (t := ?_) ?_); rotate_left 2; focus (repeat (first | with_reducible assumption | ((with_reducible refine Blk.new' ?_); first | with_reducible rfl | (simp; done) | (simp [World.drew]; done)) | with_reducible refine Blk.alloc ?_ _ | with_reducible refine Blk.later ?_ gg | with_reducible refine Blk.drew ?_)))))) | with_reducible refine Blk.later ?_ gg | with_reducible refine Blk.drew ?_))); (first | rfl | (simp; done))), by (refine Blk.cast (arr := ?_) ?_ ?_; rotate_left 1; (focus (repeat (first | with_reducible assumption | ((with_reducible refine Blk.new' ?_); first | with_reducible rfl | (simp; done) | (simp [World.drew]; done)) | with_reducible refine Blk.alloc ?_ _ | ((with_reducible refine Blk.set (arr := ?_) ?_ _ _); rotate_left 1) | ((with_reducible refine Blk.other ?_ ?_ _); rotate_left 1; (focus (first | (simp; done) | (simp; omega) | (refine Nat.ne_of_gt (Blk.lt (arr := ?_) (t := ?_) ?_); rotate_left 2; focus (repeat (first | with_reducible assumption | ((with_reducible refine Blk.new' ?_); first | with_reducible rfl | (simp; done) | (simp [World.drew]; done)) | with_reducible refine Blk.alloc ?_ _ | with_reducible refine Blk.later ?_ gg | with_reducible refine Blk.drew ?_))) | (refine Nat.ne_of_lt (Blk.lt (arr := ?_) (t := ?_) ?_); rotate_left 2; focus (repeat (first | with_reducible assumption | ((with_reducible refine Blk.new' ?_); first | with_reducible rfl | (simp; done) | (simp [World.drew]; done)) | with_reducible refine Blk.alloc ?_ _ | with_reducible refine Blk.later ?_ gg | with_reducible refine Blk.drew ?_)))))) | with_reducible refine Blk.later ?_ gg | with_reducible refine Blk.drew ?_))); (first | rfl | (simp; done))), by (refine Blk.cast (arr := ?_) ?_ ?_; rotate_left 1; (focus (repeat (first | with_reducible assumption | ((with_reducible refine Blk.new' ?_); first | with_reducible rfl | (simp; done) | (simp [World.drew]; done)) | with_reducible refine Blk.alloc ?_ _ | ((with_reducible refine Blk.set (arr := ?_) ?_ _ _); rotate_left 1) | ((with_reducible refine Blk.other ?_ ?_ _); rotate_left 1; (focus (first | (simp; done) | (simp; omega) | (refine Nat.ne_of_gt (Blk.lt (arr := ?_) (t := ?_) ?_); rotate_left 2; focus (repeat (first | with_reducible assumption | ((with_reducible refine Blk.new' ?_); first | with_reducible rfl | (simp; done) | (simp [World.drew]; done)) | with_reducible refine Blk.alloc ?_ _ | with_reducible refine Blk.later ?_ gg | with_reducible refine Blk.drew ?_))) | (refine Nat.ne_of_lt (Blk.lt (arr := ?_) (t := ?_) ?_); rotate_left 2; focus (repeat (first | with_reducible assumption | ((with_reducible refine Blk.new' ?_); first | with_reducible rfl | (simp; done) | (simp [World.drew]; done)) | with_reducible refine Blk.alloc ?_ _ | with_reducible refine Blk.later ?_ gg | with_reducible refine Blk.drew ?_)))))) | with_reducible refine Blk.later ?_ gg | with_reducible refine Blk.drew ?_))); (first | rfl | (simp; done))), by (repeat (first | with_reducible exact Below.refl _ _ | with_reducible assumption | with_reducible refine Kept.drop ?_ (by with_reducible assumption) | with_reducible refine Kept.alloc ?_ _ | ((with_reducible refine Below.setCell ?_ ?_ _); rotate_left 1; (focus (first | exact Nat.le_refl _ | (simp; done) | (simp; omega) | exact Below.size (by with_reducible assumption) | (refine Kept.size ?_; (repeat (first | with_reducible exact Below.refl _ _ | with_reducible assumption | with_reducible refine Kept.drop ?_ (by with_reducible assumption) | with_reducible refine Kept.alloc ?_ _ | with_reducible refine Below.drew ?_)))))) | with_reducible refine Below.drew ?_))⟩ ?_
          clear q6c0 q6c1 q6f0 q6f1 q6l q5c0 q5f0 q5c1 q5f1 q5c2 q5f2 q5c3 q5f3 q5l q6 q5 q4 hkgg hkk gg
          rintro V ⟨q6, q5, q4, hkk⟩
          have q6c0 := fun g : Later V => (q6.later g).cell 0
          have q6f0 := fun g : Later V => (q6.later g).free 0
          have q6c1 := fun g : Later V => (q6.later g).cell 1
          have q6f1 := fun g : Later V => (q6.later g).free 1
          have q6l := fun g : Later V => (q6.later g).lt
          simp at q6c0 q6c1
          have q5c0 := fun g : Later V => (q5.later g).cell 0
          have q5f0 := fun g : Later V => (q5.later g).free 0
          have q5c1 := fun g : Later V => (q5.later g).cell 1
          have q5f1 := fun g : Later V => (q5.later g).free 1
          have q5c2 := fun g : Later V => (q5.later g).cell 2
          have q5f2 := fun g : Later V => (q5.later g).free 2
          have q5c3 := fun g : Later V => (q5.later g).cell 3
          have q5f3 := fun g : Later V => (q5.later g).free 3
          have q5l := fun g : Later V => (q5.later g).lt
          simp at q5c0 q5c1 q5c2 q5c3
          refine later_mix [(false, 0), (false, 1), (false, 2), (false, 3), (false, 4), (false, 5), (true, 6), (false, 7)] 8 [] (by kernel_rfl) (by kernel_rfl) ?_
          simp only [List.filterMap_cons, List.filterMap_nil, List.getElem?_cons_zero, List.getElem?_cons_succ, Option.map_some]
          repeat (refine wpSteps_quiet ?_; (first | go_big_quiet_skip | (go_big_quiet_want; go_big_quiet_op; first | go_big_quiet_on | (apply Exists.intro; refine ⟨fun g => ?_, ?_⟩; (focus (first | fail)); go_big_quiet_on))); refine wpQuiet_nil ?_)
          refine wpSteps_any (.int .i64 (max HI (b * c))) rfl (fun w => ?_) ?_
          · first | (go_simp; done) | (go_simp; simp [ite_max]; done) | (go_simp; split <;> omega) | (go_simp; simp; split <;> omega) | trace_state
          simp only [Act.put, List.setIfInBounds_toArray, List.set_cons_zero, List.set_cons_succ]
          repeat (refine wpSteps_quiet ?_; (first | go_big_quiet_skip | (go_big_quiet_want; go_big_quiet_op; first | go_big_quiet_on | (apply Exists.intro; refine ⟨fun g => ?_, ?_⟩; (focus (first | fail)); go_big_quiet_on))); refine wpQuiet_nil ?_)
          refine wpSteps_nil ?_
          intro gh
          have hkgh := Kept.drop hkk gh.ok
          try simp only [ite_min, ite_max]
          go_wp2
          refine NoPanic.normal ?_
          go_wp2
          go_round
          case rel => exact ⟨2, by omega, by go_num, by rw [HS1.out, HS2.out]; (refine Blk.cast (arr := ?_) ?_ ?_; rotate_left 1; (focus (repeat (first | with_reducible assumption | ((with_reducible refine Blk.new' ?_); first | with_reducible rfl | (simp; done) | (simp [World.drew]; done)) | with_reducible refine Blk.alloc ?_ _ | ((with_reducible refine Blk.set (arr := ?_) ?_ _ _); rotate_left 1) | ((with_reducible refine Blk.other ?_ ?_ _); rotate_left 1; (focus (first | (simp; done) | (simp; omega) | (refine Nat.ne_of_gt (Blk.lt (arr := ?_) (t := ?_) ?_); rotate_left 2; focus (repeat (first | with_reducible assumption | ((with_reducible refine Blk.new' ?_); first | with_reducible rfl | (simp; done) | (simp [World.drew]; done)) | with_reducible refine Blk.alloc ?_ _ | with_reducible refine Blk.later ?_ gh | with_reducible refine Blk.drew ?_))) | (refine Nat.ne_of_lt (Blk.lt (arr := ?_) (t := ?_) ?_); rotate_left 2; focus (repeat (first | with_reducible assumption | ((with_reducible refine Blk.new' ?_); first | with_reducible rfl | (simp; done) | (simp [World.drew]; done)) | with_reducible refine Blk.alloc ?_ _ | with_reducible refine Blk.later ?_ gh | with_reducible refine Blk.drew ?_)))))) | with_reducible refine Blk.later ?_ gh | with_reducible refine Blk.drew ?_))); (first | rfl | (simp; done))), by (repeat (first | with_reducible assumption | ((with_reducible refine Blk.new' ?_); first | with_reducible rfl | (simp; done) | (simp [World.drew]; done)) | with_reducible refine Blk.alloc ?_ _ | ((with_reducible refine Blk.set (arr := ?_) ?_ _ _); rotate_left 1) | ((with_reducible refine Blk.other ?_ ?_ _); rotate_left 1; (focus (first | (simp; done) | (simp; omega) | (refine Nat.ne_of_gt (Blk.lt (arr := ?_) (t := ?_) ?_); rotate_left 2; focus (repeat (first | with_reducible assumption | ((with_reducible refine Blk.new' ?_); first | with_reducible rfl | (simp; done) | (simp [World.drew]; done)) | with_reducible refine Blk.alloc ?_ _ | with_reducible refine Blk.later ?_ gh | with_reducible refine Blk.drew ?_))) | (refine Nat.ne_of_lt (Blk.lt (arr := ?_) (t := ?_) ?_); rotate_left 2; focus (repeat (first | with_reducible assumption | ((with_reducible refine Blk.new' ?_); first | with_reducible rfl | (simp; done) | (simp [World.drew]; done)) | with_reducible refine Blk.alloc ?_ _ | with_reducible refine Blk.later ?_ gh | with_reducible refine Blk.drew ?_)))))) | with_reducible refine Blk.later ?_ gh | with_reducible refine Blk.drew ?_)), by (repeat (first | with_reducible assumption | ((with_reducible refine Blk.new' ?_); first | with_reducible rfl | (simp; done) | (simp [World.drew]; done)) | with_reducible refine Blk.alloc ?_ _ | ((with_reducible refine Blk.set (arr := ?_) ?_ _ _); rotate_left 1) | ((with_reducible refine Blk.other ?_ ?_ _); rotate_left 1; (focus (first | (simp; done) | (simp; omega) | (refine Nat.ne_of_gt (Blk.lt (arr := ?_) (t := ?_) ?_); rotate_left 2; focus (repeat (first | with_reducible assumption | ((with_reducible refine Blk.new' ?_); first | with_reducible rfl | (simp; done) | (simp [World.drew]; done)) | with_reducible refine Blk.alloc ?_ _ | with_reducible refine Blk.later ?_ gh | with_reducible refine Blk.drew ?_))) | (refine Nat.ne_of_lt (Blk.lt (arr := ?_) (t := ?_) ?_); rotate_left 2; focus (repeat (first | with_reducible assumption | ((with_reducible refine Blk.new' ?_); first | with_reducible rfl | (simp; done) | (simp [World.drew]; done)) | with_reducible refine Blk.alloc ?_ _ | with_reducible refine Blk.later ?_ gh | with_reducible refine Blk.drew ?_)))))) | with_reducible refine Blk.later ?_ gh | with_reducible refine Blk.drew ?_)), by (repeat (first | with_reducible exact Below.refl _ _ | with_reducible assumption | with_reducible refine Kept.drop ?_ (by with_reducible assumption) | with_reducible refine Kept.alloc ?_ _ | ((with_reducible refine Below.setCell ?_ ?_ _); rotate_left 1; (focus (first | exact Nat.le_refl _ | (simp; done) | (simp; omega) | exact Below.size (by with_reducible assumption) | (refine Kept.size ?_; (repeat (first | with_reducible exact Below.refl _ _ | with_reducible assumption | with_reducible refine Kept.drop ?_ (by with_reducible assumption) | with_reducible refine Kept.alloc ?_ _ | with_reducible refine Below.drew ?_)))))) | with_reducible refine Below.drew ?_))⟩
          case measure => simp [intOf]
        · simp only [tP] at HS1 HS2 P1
          replace hi : _ = Value.int .i64 3 := hi
          subst hi
          go_upto_region 6 with fail
          have q6c0 := fun g : Later wr => (q6.later g).cell 0
          have q6f0 := fun g : Later wr => (q6.later g).free 0
          have q6c1 := fun g : Later wr => (q6.later g).cell 1
          have q6f1 := fun g : Later wr => (q6.later g).free 1
          have q6l := fun g : Later wr => (q6.later g).lt
          simp at q6c0 q6c1
          have q5c0 := fun g : Later wr => (q5.later g).cell 0
          have q5f0 := fun g : Later wr => (q5.later g).free 0
          have q5c1 := fun g : Later wr => (q5.later g).cell 1
          have q5f1 := fun g : Later wr => (q5.later g).free 1
          have q5c2 := fun g : Later wr => (q5.later g).cell 2
          have q5f2 := fun g : Later wr => (q5.later g).free 2
          have q5c3 := fun g : Later wr => (q5.later g).cell 3
          have q5f3 := fun g : Later wr => (q5.later g).free 3
          have q5l := fun g : Later wr => (q5.later g).lt
          simp at q5c0 q5c1 q5c2 q5c3
          refine later_mix [(false, 0), (false, 1), (false, 2), (false, 3), (false, 4), (false, 5), (true, 6), (false, 7)] 8 [] (by kernel_rfl) (by kernel_rfl) ?_
          simp only [List.filterMap_cons, List.filterMap_nil, List.getElem?_cons_zero, List.getElem?_cons_succ, Option.map_some]
          repeat (refine wpSteps_quiet ?_; (first | go_big_quiet_skip | (go_big_quiet_want; go_big_quiet_op; first | go_big_quiet_on | (apply Exists.intro; refine ⟨fun g => ?_, ?_⟩; (focus (first | fail)); go_big_quiet_on))); refine wpQuiet_nil ?_)
          refine wpSteps_any (.int .i64 (min LO (b * d))) rfl (fun w => ?_) ?_
          · first | (go_simp; done) | (go_simp; simp [ite_min]; done) | (go_simp; split <;> omega) | (go_simp; simp; split <;> omega) | trace_state
          simp only [Act.put, List.setIfInBounds_toArray, List.set_cons_zero, List.set_cons_succ]
          repeat (refine wpSteps_quiet ?_; (first | go_big_quiet_skip | (go_big_quiet_want; go_big_quiet_op; first | go_big_quiet_on | (apply Exists.intro; refine ⟨fun g => ?_, ?_⟩; (focus (first | fail)); go_big_quiet_on))); refine wpQuiet_nil ?_)
          refine wpSteps_nil ?_
          intro gg
          have hkgg := Kept.drop hkk gg.ok
          try simp only [ite_min, ite_max]
          go_wp2
          refine NoPanic.normal ?_
          go_upto_region 7 with fail
          refine at_world (S := fun W => Blk W g #[.int .i64 (min LO (b * d)), .int .i64 HI] 49 ∧ Blk W (w.heap.size + 1 + 1 + 1) #[.int .i64 (a * c), .int .i64 (a * d), .int .i64 (b * c), .int .i64 (b * d)] 3 ∧ Blk W (w.heap.size + 1 + 1) #[.int .i64 0, .int .i64 0] 49 ∧ Kept w W) ⟨by (refine Blk.cast (arr := ?_) ?_ ?_; rotate_left 1; (focus (repeat (first | with_reducible assumption | ((with_reducible refine Blk.new' ?_); first | with_reducible rfl | (simp; done) | (simp [World.drew]; done)) | with_reducible refine Blk.alloc ?_ _ | ((with_reducible refine Blk.set (arr := ?_) ?_ _ _); rotate_left 1) | ((with_reducible refine Blk.other ?_ ?_ _); rotate_left 1; (focus (first | (simp; done) | (simp; omega) | (refine Nat.ne_of_gt (Blk.lt (arr := ?_) (t := ?_) ?_); rotate_left 2; focus (repeat (first | with_reducible assumption | ((with_reducible refine Blk.new' ?_); first | with_reducible rfl | (simp; done) | (simp [World.drew]; done)) | with_reducible refine Blk.alloc ?_ _ | with_reducible refine Blk.later ?_ gg | with_reducible refine Blk.drew ?_))) | (refine Nat.ne_of_lt (Blk.lt (arr := ?_) (t := ?_) ?_); rotate_left 2; focus (repeat (first | with_reducible assumption | ((with_reducible refine Blk.new' ?_); first | with_reducible rfl | (simp; done) | (simp [World.drew]; done)) | with_reducible refine Blk.alloc ?_ _ | with_reducible refine Blk.later ?_ gg | with_reducible refine Blk.drew ?_)))))) | with_reducible refine Blk.later ?_ gg | with_reducible refine Blk.drew ?_))); (first | rfl | (simp; done))), by (refine Blk.cast (arr := ?_) ?_ ?_; rotate_left 1; (focus (repeat (first | with_reducible assumption | ((with_reducible refine Blk.new' ?_); first | with_reducible rfl | (simp; done) | (simp [World.drew]; done)) | with_reducible refine Blk.alloc ?_ _ | ((with_reducible refine Blk.set (arr := ?_) ?_ _ _); rotate_left 1) | ((with_reducible refine Blk.other ?_ ?_ _); rotate_left 1; (focus (first | (simp; done) | (simp; omega) | (refine Nat.ne_of_gt (Blk.lt (arr := ?_) (t := ?_) ?_); rotate_left 2; focus (repeat (first | with_reducible assumption | ((with_reducible refine Blk.new' ?_); first | with_reducible rfl | (simp; done) | (simp [World.drew]; done)) | with_reducible refine Blk.alloc ?_ _ | with_reducible refine Blk.later ?_ gg | with_reducible refine Blk.drew ?_))) | (refine Nat.ne_of_lt (Blk.lt (arr := ?_) (t := ?_) ?_); rotate_left 2; focus (repeat (first | with_reducible assumption | ((with_reducible refine Blk.new' ?_); first | with_reducible rfl | (simp; done) | (simp [World.drew]; done)) | with_reducible refine Blk.alloc ?_ _ | with_reducible refine Blk.later ?_ gg | with_reducible refine Blk.drew ?_)))))) | with_reducible refine Blk.later ?_ gg | with_reducible refine Blk.drew ?_))); (first | rfl | (simp; done))), by (refine Blk.cast (arr := ?_) ?_ ?_; rotate_left 1; (focus (repeat (first | with_reducible assumption | ((with_reducible refine Blk.new' ?_); first | with_reducible rfl | (simp; done) | (simp [World.drew]; done)) | with_reducible refine Blk.alloc ?_ _ | ((with_reducible refine Blk.set (arr := ?_) ?_ _ _); rotate_left 1) | ((with_reducible refine Blk.other ?_ ?_ _); rotate_left 1; (focus (first | (simp; done) | (simp; omega) | (refine Nat.ne_of_gt (Blk.lt (arr := ?_) (t := ?_) ?_); rotate_left 2; focus (repeat (first | with_reducible assumption | ((with_reducible refine Blk.new' ?_); first | with_reducible rfl | (simp; done) | (simp [World.drew]; done)) | with_reducible refine Blk.alloc ?_ _ | with_reducible refine Blk.later ?_ gg | with_reducible refine Blk.drew ?_))) | (refine Nat.ne_of_lt (Blk.lt (arr := ?_) (t := ?_) ?_); rotate_left 2; focus (repeat (first | with_reducible assumption | ((with_reducible refine Blk.new' ?_); first | with_reducible rfl | (simp; done) | (simp [World.drew]; done)) | with_reducible refine Blk.alloc ?_ _ | with_reducible refine Blk.later ?_ gg | with_reducible refine Blk.drew ?_)))))) | with_reducible refine Blk.later ?_ gg | with_reducible refine Blk.drew ?_))); (first | rfl | (simp; done))), by (repeat (first | with_reducible exact Below.refl _ _ | with_reducible assumption | with_reducible refine Kept.drop ?_ (by with_reducible assumption) | with_reducible refine Kept.alloc ?_ _ | ((with_reducible refine Below.setCell ?_ ?_ _); rotate_left 1; (focus (first | exact Nat.le_refl _ | (simp; done) | (simp; omega) | exact Below.size (by with_reducible assumption) | (refine Kept.size ?_; (repeat (first | with_reducible exact Below.refl _ _ | with_reducible assumption | with_reducible refine Kept.drop ?_ (by with_reducible assumption) | with_reducible refine Kept.alloc ?_ _ | with_reducible refine Below.drew ?_)))))) | with_reducible refine Below.drew ?_))⟩ ?_
          clear q6c0 q6c1 q6f0 q6f1 q6l q5c0 q5f0 q5c1 q5f1 q5c2 q5f2 q5c3 q5f3 q5l q6 q5 q4 hkgg hkk gg
          rintro V ⟨q6, q5, q4, hkk⟩
          have q6c0 := fun g : Later V => (q6.later g).cell 0
          have q6f0 := fun g : Later V => (q6.later g).free 0
          have q6c1 := fun g : Later V => (q6.later g).cell 1
          have q6f1 := fun g : Later V => (q6.later g).free 1
          have q6l := fun g : Later V => (q6.later g).lt
          simp at q6c0 q6c1
          have q5c0 := fun g : Later V => (q5.later g).cell 0
          have q5f0 := fun g : Later V => (q5.later g).free 0
          have q5c1 := fun g : Later V => (q5.later g).cell 1
          have q5f1 := fun g : Later V => (q5.later g).free 1
          have q5c2 := fun g : Later V => (q5.later g).cell 2
          have q5f2 := fun g : Later V => (q5.later g).free 2
          have q5c3 := fun g : Later V => (q5.later g).cell 3
          have q5f3 := fun g : Later V => (q5.later g).free 3
          have q5l := fun g : Later V => (q5.later g).lt
          simp at q5c0 q5c1 q5c2 q5c3
          refine later_mix [(false, 0), (false, 1), (false, 2), (false, 3), (false, 4), (false, 5), (true, 6), (false, 7)] 8 [] (by kernel_rfl) (by kernel_rfl) ?_
          simp only [List.filterMap_cons, List.filterMap_nil, List.getElem?_cons_zero, List.getElem?_cons_succ, Option.map_some]
          repeat (refine wpSteps_quiet ?_; (first | go_big_quiet_skip | (go_big_quiet_want; go_big_quiet_op; first | go_big_quiet_on | (apply Exists.intro; refine ⟨fun g => ?_, ?_⟩; (focus (first | fail)); go_big_quiet_on))); refine wpQuiet_nil ?_)
          refine wpSteps_any (.int .i64 (max HI (b * d))) rfl (fun w => ?_) ?_
          · first | (go_simp; done) | (go_simp; simp [ite_max]; done) | (go_simp; split <;> omega) | (go_simp; simp; split <;> omega) | trace_state
          simp only [Act.put, List.setIfInBounds_toArray, List.set_cons_zero, List.set_cons_succ]
          repeat (refine wpSteps_quiet ?_; (first | go_big_quiet_skip | (go_big_quiet_want; go_big_quiet_op; first | go_big_quiet_on | (apply Exists.intro; refine ⟨fun g => ?_, ?_⟩; (focus (first | fail)); go_big_quiet_on))); refine wpQuiet_nil ?_)
          refine wpSteps_nil ?_
          intro gh
          have hkgh := Kept.drop hkk gh.ok
          try simp only [ite_min, ite_max]
          go_wp2
          refine NoPanic.normal ?_
          go_wp2
          go_round
          case rel => exact ⟨3, by omega, by go_num, by rw [HS1.out, HS2.out]; (refine Blk.cast (arr := ?_) ?_ ?_; rotate_left 1; (focus (repeat (first | with_reducible assumption | ((with_reducible refine Blk.new' ?_); first | with_reducible rfl | (simp; done) | (simp [World.drew]; done)) | with_reducible refine Blk.alloc ?_ _ | ((with_reducible refine Blk.set (arr := ?_) ?_ _ _); rotate_left 1) | ((with_reducible refine Blk.other ?_ ?_ _); rotate_left 1; (focus (first | (simp; done) | (simp; omega) | (refine Nat.ne_of_gt (Blk.lt (arr := ?_) (t := ?_) ?_); rotate_left 2; focus (repeat (first | with_reducible assumption | ((with_reducible refine Blk.new' ?_); first | with_reducible rfl | (simp; done) | (simp [World.drew]; done)) | with_reducible refine Blk.alloc ?_ _ | with_reducible refine Blk.later ?_ gh | with_reducible refine Blk.drew ?_))) | (refine Nat.ne_of_lt (Blk.lt (arr := ?_) (t := ?_) ?_); rotate_left 2; focus (repeat (first | with_reducible assumption | ((with_reducible refine Blk.new' ?_); first | with_reducible rfl | (simp; done) | (simp [World.drew]; done)) | with_reducible refine Blk.alloc ?_ _ | with_reducible refine Blk.later ?_ gh | with_reducible refine Blk.drew ?_)))))) | with_reducible refine Blk.later ?_ gh | with_reducible refine Blk.drew ?_))); (first | rfl | (simp; done))), by (repeat (first | with_reducible assumption | ((with_reducible refine Blk.new' ?_); first | with_reducible rfl | (simp; done) | (simp [World.drew]; done)) | with_reducible refine Blk.alloc ?_ _ | ((with_reducible refine Blk.set (arr := ?_) ?_ _ _); rotate_left 1) | ((with_reducible refine Blk.other ?_ ?_ _); rotate_left 1; (focus (first | (simp; done) | (simp; omega) | (refine Nat.ne_of_gt (Blk.lt (arr := ?_) (t := ?_) ?_); rotate_left 2; focus (repeat (first | with_reducible assumption | ((with_reducible refine Blk.new' ?_); first | with_reducible rfl | (simp; done) | (simp [World.drew]; done)) | with_reducible refine Blk.alloc ?_ _ | with_reducible refine Blk.later ?_ gh | with_reducible refine Blk.drew ?_))) | (refine Nat.ne_of_lt (Blk.lt (arr := ?_) (t := ?_) ?_); rotate_left 2; focus (repeat (first | with_reducible assumption | ((with_reducible refine Blk.new' ?_); first | with_reducible rfl | (simp; done) | (simp [World.drew]; done)) | with_reducible refine Blk.alloc ?_ _ | with_reducible refine Blk.later ?_ gh | with_reducible refine Blk.drew ?_)))))) | with_reducible refine Blk.later ?_ gh | with_reducible refine Blk.drew ?_)), by (repeat (first | with_reducible assumption | ((with_reducible refine Blk.new' ?_); first | with_reducible rfl | (simp; done) | (simp [World.drew]; done)) | with_reducible refine Blk.alloc ?_ _ | ((with_reducible refine Blk.set (arr := ?_) ?_ _ _); rotate_left 1) | ((with_reducible refine Blk.other ?_ ?_ _); rotate_left 1; (focus (first | (simp; done) | (simp; omega) | (refine Nat.ne_of_gt (Blk.lt (arr := ?_) (t := ?_) ?_); rotate_left 2; focus (repeat (first | with_reducible assumption | ((with_reducible refine Blk.new' ?_); first | with_reducible rfl | (simp; done) | (simp [World.drew]; done)) | with_reducible refine Blk.alloc ?_ _ | with_reducible refine Blk.later ?_ gh | with_reducible refine Blk.drew ?_))) | (refine Nat.ne_of_lt (Blk.lt (arr := ?_) (t := ?_) ?_); rotate_left 2; focus (repeat (first | with_reducible assumption | ((with_reducible refine Blk.new' ?_); first | with_reducible rfl | (simp; done) | (simp [World.drew]; done)) | with_reducible refine Blk.alloc ?_ _ | with_reducible refine Blk.later ?_ gh | with_reducible refine Blk.drew ?_)))))) | with_reducible refine Blk.later ?_ gh | with_reducible refine Blk.drew ?_)), by (repeat (first | with_reducible exact Below.refl _ _ | with_reducible assumption | with_reducible refine Kept.drop ?_ (by with_reducible assumption) | with_reducible refine Kept.alloc ?_ _ | ((with_reducible refine Below.setCell ?_ ?_ _); rotate_left 1; (focus (first | exact Nat.le_refl _ | (simp; done) | (simp; omega) | exact Below.size (by with_reducible assumption) | (refine Kept.size ?_; (repeat (first | with_reducible exact Below.refl _ _ | with_reducible assumption | with_reducible refine Kept.drop ?_ (by with_reducible assumption) | with_reducible refine Kept.alloc ?_ _ | with_reducible refine Below.drew ?_)))))) | with_reducible refine Below.drew ?_))⟩
          case measure => simp [intOf]
      · obtain rfl : j = 3 := by omega
        replace hi : _ = Value.int .i64 4 := hi
        subst hi
        have q6c0 := q6.cell 0
        have q6f0 := q6.free 0
        have q6c1 := q6.cell 1
        have q6f1 := q6.free 1
        have q6l := q6.lt
        simp at q6c0 q6c1
        have q4c0 := q4.cell 0
        have q4f0 := q4.free 0
        have q4c1 := q4.cell 1
        have q4f1 := q4.free 1
        have q4l := q4.lt
        simp at q4c0 q4c1
        have e1 : tL a b c d 3 = tLo a b c d := rfl
        have e2 : tH a b c d 3 = tHi a b c d := rfl
        rw [e1] at q6c0
        rw [e2] at q6c1
        go_wp2
        exact bodyPost_ret (v := .agg #[.int .i64 (tLo a b c d), .int .i64 (tHi a b c d)]) (by simp [results, Try.results112, go_sem, q4c0, q4c1, q4f0, q4f1, q4l]) rfl ⟨rfl, by (repeat (first | with_reducible exact Below.refl _ _ | with_reducible assumption | with_reducible refine Kept.drop ?_ (by with_reducible assumption) | with_reducible refine Kept.alloc ?_ _ | ((with_reducible refine Below.setCell ?_ ?_ _); rotate_left 1; (focus (first | exact Nat.le_refl _ | (simp; done) | (simp; omega) | exact Below.size (by with_reducible assumption) | (refine Kept.size ?_; (repeat (first | with_reducible exact Below.refl _ _ | with_reducible assumption | with_reducible refine Kept.drop ?_ (by with_reducible assumption) | with_reducible refine Kept.alloc ?_ _ | with_reducible refine Below.drew ?_)))))) | with_reducible refine Below.drew ?_))⟩

end Go.Proofs.Ytlloijkmpmfapaa
