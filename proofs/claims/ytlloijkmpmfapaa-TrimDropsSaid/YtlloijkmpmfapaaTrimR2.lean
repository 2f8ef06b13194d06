/-
  The worst choice in the reference.
-/
import Derived.Test.YtlloijkmpmfapaaTrimR
namespace Go.Proofs.Ytlloijkmpmfapaa
open Go.RowKit Bal Bal.Trim
set_option linter.unusedVariables false
set_option linter.unusedSimpArgs false
set_option maxHeartbeats 800000

set_option maxRecDepth 10000

theorem r_ValueL (m : Limit) (p : Put) (t : TypeId) (W w2 : World) (n : Nat) (hB : Blk W n #[.int .i64 p.pos, .int .i64 p.wt] t) (hb : Kept W w2) (hm : limitB m = true) (hp : putB p) :
    Calls Try.prog 77 #[.slice (some ⟨n, 0, none⟩) 1 1, .agg #[.int .i64 m.a, .int .i64 m.b, .int .i64 m.c]] w2 fun e w' => e = .returned (.int .i64 (vOf m p)) ∧ Kept w2 w' :=
  r_Value1 m _ 1 p _ (Row.later (Row.one (x := p) hB rfl) hb (Nat.le_refl _)) hm hp

/-- one corner as a row of its own -/
theorem corn_row {w : World} {b : Nat} {x : Load} (h : Blk w b #[.int .i64 x.alo, .int .i64 x.wlo, .int .i64 x.ahi, .int .i64 x.wlo, .int .i64 x.alo, .int .i64 x.whi, .int .i64 x.ahi, .int .i64 x.whi] 85) (j : Nat) (hj : j < 4) : Row Put.cells 2 w.heap.size w (some ⟨b, 2 * j, none⟩) [(corners x)[j]'(by simpa [corners] using hj)] := by
  have h1 := Row.sub (Row.block (enc := Put.cells) (k := 2) (xs := corners x) (fun _ => rfl) h (by simp [corners, Put.cells])) j (by simpa [corners] using hj)
  rwa [show 0 + j * 2 = 2 * j by omega] at h1
def RWorst (w : World) (m : Limit) (xs : List Load) (cv i : Value) (wr : World) : Prop :=
  ∃ k : Nat, k ≤ xs.length ∧ i = .int .i64 k ∧ Blk wr w.heap.size #[.int .i64 m.a, .int .i64 m.b, .int .i64 m.c] 47 ∧ wr.ownsRow w.heap.size 85 2 cv k ((choice m (xs.take k)).flatMap Put.cells) ∧ Kept w wr
def RWorstIn (w : World) (m : Limit) (x : Load) (bc bB k : Nat) (cs : List Value) (cv i : Value) (wq : World) : Prop :=
  ∃ (j : Nat) (B : Put), j ≤ 3 ∧ i = .int .i64 (1 + j) ∧ B = bestK m x j ∧ Blk wq w.heap.size #[.int .i64 m.a, .int .i64 m.b, .int .i64 m.c] 47 ∧ Blk wq bB #[.int .i64 B.pos, .int .i64 B.wt] 85 ∧
    Blk wq bc #[.int .i64 x.alo, .int .i64 x.wlo, .int .i64 x.ahi, .int .i64 x.wlo, .int .i64 x.alo, .int .i64 x.whi, .int .i64 x.ahi, .int .i64 x.whi] 85 ∧ wq.ownsRow w.heap.size 85 2 cv k cs ∧ Kept w wq

theorem r_worst (m : Limit) (a : Option Addr) (cap : Nat) (xs : List Load) (w : World) (hx : Row Load.cells 4 w.heap.size w a xs) (hc : xs.length ≤ cap) (hM : cap ≤ maxLen) (hn : xs.length ≤ 40) (hm : limitB m = true) (hv : ∀ x ∈ xs, loadB x = true) :
    Calls Try.prog 75 #[.slice a xs.length cap, .agg #[.int .i64 m.a, .int .i64 m.b, .int .i64 m.c]] w fun e w' =>
      ∃ v, e = .returned v ∧ w'.ownsRow w.heap.size 85 2 v (choice m xs).length ((choice m xs).flatMap Put.cells) ∧ Kept w w' := by
  unfold maxLen at hM
  have HM := Lib.hid hm
  have HV := Lib.hid hv
  clear hm hv
  go_enter Try.func75, Try.ntmps75
  go_wp2
  go_loopw [5, 6] (fun cv i wr => RWorst w m xs cv i wr) (fun _ i _ => xs.length - (intOf i).toNat)
  case atStart => exact ⟨0, Nat.zero_le _, rfl, by (repeat (first | with_reducible assumption | ((with_reducible refine Blk.new' ?_); first | with_reducible rfl | (simp; done) | (simp [World.drew]; done)) | with_reducible refine Blk.alloc ?_ _ | ((with_reducible refine Blk.set (arr := ?_) ?_ _ _); rotate_left 1) | ((with_reducible refine Blk.other ?_ ?_ _); rotate_left 1; (focus (first | (simp; done) | (simp; omega) | (refine Nat.ne_of_gt (Blk.lt (arr := ?_) (t := ?_) ?_); rotate_left 2; focus (repeat (first | with_reducible assumption | ((with_reducible refine Blk.new' ?_); first | with_reducible rfl | (simp; done) | (simp [World.drew]; done)) | with_reducible refine Blk.alloc ?_ _ | with_reducible refine Blk.keep ?_ (by with_reducible assumption) | with_reducible refine Blk.drew ?_))) | (refine Nat.ne_of_lt (Blk.lt (arr := ?_) (t := ?_) ?_); rotate_left 2; focus (repeat (first | with_reducible assumption | ((with_reducible refine Blk.new' ?_); first | with_reducible rfl | (simp; done) | (simp [World.drew]; done)) | with_reducible refine Blk.alloc ?_ _ | with_reducible refine Blk.keep ?_ (by with_reducible assumption) | with_reducible refine Blk.drew ?_)))))) | with_reducible refine Blk.keep ?_ (by with_reducible assumption) | with_reducible refine Blk.drew ?_)), owns_nil (α := Put) (enc := Put.cells), by (repeat (first | with_reducible exact Below.refl _ _ | with_reducible assumption | with_reducible refine Kept.drop ?_ (by with_reducible assumption) | with_reducible refine Kept.alloc ?_ _ | ((with_reducible refine Below.setCell ?_ ?_ _); rotate_left 1; (focus (first | exact Nat.le_refl _ | (simp; done) | (simp; omega) | exact Below.size (by with_reducible assumption) | (refine Kept.size ?_; (repeat (first | with_reducible exact Below.refl _ _ | with_reducible assumption | with_reducible refine Kept.drop ?_ (by with_reducible assumption) | with_reducible refine Kept.alloc ?_ _ | with_reducible refine Below.drew ?_)))))) | with_reducible refine Below.drew ?_))⟩
  case round =>
    obtain ⟨k, hk, rfl, q0, hown, hkk⟩ := hrel
    by_cases hlt : k < xs.length
    · obtain ⟨b, off, rfl, hb, h0, h1, h2, h3⟩ := Load.row (hx.later hkk (Nat.le_refl _)) k hlt
      have HX := Lib.hid (HV.out xs[k] (List.getElem_mem hlt))
      have HSN := Lib.hid (choice_snoc m xs k hlt)
      obtain ⟨x, hx0⟩ : ∃ x, x = xs[k] := ⟨_, rfl⟩
      rw [← hx0] at HX HSN h0 h1 h2 h3
      clear hx0
      have hks := hkk.size
      go_wp2_with (go_at_call 82; (with_reducible refine (r_corners x _).mono ?_); rintro e w1 ⟨rfl, q7, hb1⟩; obtain ⟨hc1, hf1, hl1⟩ := bcell3 hb1; have hs1 := hb1.size; have q7c0 := q7.cell 0; have q7c1 := q7.cell 1; have q7l := q7.lt; simp at q7c0 q7c1)
      have HOB := Lib.hid (show Value.ownBlock _ ≠ some w1.heap.size from fun h => by have := owns_lt hown h; omega)
      have hown1 := owns_keep hown hb1
      have HNE1 := Lib.hid (show w1.heap.size ≠ w.heap.size from by have := q0.lt; omega)
      have HNE2 := Lib.hid (show w1.heap.size ≠ wr.heap.size + 1 from by omega)
      go_loopw [9] (fun i wq => RWorstIn w m x (wr.heap.size + 1) w1.heap.size k ((choice m (xs.take k)).flatMap Put.cells) _ i wq) (fun i _ => 4 - (intOf i).toNat)
      case atStart => exact ⟨0, ⟨x.alo, x.wlo⟩, by omega, rfl, rfl, by (repeat (first | with_reducible assumption | ((with_reducible refine Blk.new' ?_); first | with_reducible rfl | (simp; done) | (simp [World.drew]; done)) | with_reducible refine Blk.alloc ?_ _ | ((with_reducible refine Blk.set (arr := ?_) ?_ _ _); rotate_left 1) | ((with_reducible refine Blk.other ?_ ?_ _); rotate_left 1; (focus (first | (simp; done) | (simp; omega) | (refine Nat.ne_of_gt (Blk.lt (arr := ?_) (t := ?_) ?_); rotate_left 2; focus (repeat (first | with_reducible assumption | ((with_reducible refine Blk.new' ?_); first | with_reducible rfl | (simp; done) | (simp [World.drew]; done)) | with_reducible refine Blk.alloc ?_ _ | with_reducible refine Blk.keep ?_ (by with_reducible assumption) | with_reducible refine Blk.drew ?_))) | (refine Nat.ne_of_lt (Blk.lt (arr := ?_) (t := ?_) ?_); rotate_left 2; focus (repeat (first | with_reducible assumption | ((with_reducible refine Blk.new' ?_); first | with_reducible rfl | (simp; done) | (simp [World.drew]; done)) | with_reducible refine Blk.alloc ?_ _ | with_reducible refine Blk.keep ?_ (by with_reducible assumption) | with_reducible refine Blk.drew ?_)))))) | with_reducible refine Blk.keep ?_ (by with_reducible assumption) | with_reducible refine Blk.drew ?_)), by (refine Blk.cast (arr := ?_) ?_ ?_; rotate_left 1; (focus (repeat (first | with_reducible assumption | ((with_reducible refine Blk.new' ?_); first | with_reducible rfl | (simp; done) | (simp [World.drew]; done)) | with_reducible refine Blk.alloc ?_ _ | ((with_reducible refine Blk.set (arr := ?_) ?_ _ _); rotate_left 1) | ((with_reducible refine Blk.other ?_ ?_ _); rotate_left 1; (focus (first | (simp; done) | (simp; omega) | (refine Nat.ne_of_gt (Blk.lt (arr := ?_) (t := ?_) ?_); rotate_left 2; focus (repeat (first | with_reducible assumption | ((with_reducible refine Blk.new' ?_); first | with_reducible rfl | (simp; done) | (simp [World.drew]; done)) | with_reducible refine Blk.alloc ?_ _ | with_reducible refine Blk.keep ?_ (by with_reducible assumption) | with_reducible refine Blk.drew ?_))) | (refine Nat.ne_of_lt (Blk.lt (arr := ?_) (t := ?_) ?_); rotate_left 2; focus (repeat (first | with_reducible assumption | ((with_reducible refine Blk.new' ?_); first | with_reducible rfl | (simp; done) | (simp [World.drew]; done)) | with_reducible refine Blk.alloc ?_ _ | with_reducible refine Blk.keep ?_ (by with_reducible assumption) | with_reducible refine Blk.drew ?_)))))) | with_reducible refine Blk.keep ?_ (by with_reducible assumption) | with_reducible refine Blk.drew ?_))); (first | rfl | (simp; done))), by (repeat (first | with_reducible assumption | ((with_reducible refine Blk.new' ?_); first | with_reducible rfl | (simp; done) | (simp [World.drew]; done)) | with_reducible refine Blk.alloc ?_ _ | ((with_reducible refine Blk.set (arr := ?_) ?_ _ _); rotate_left 1) | ((with_reducible refine Blk.other ?_ ?_ _); rotate_left 1; (focus (first | (simp; done) | (simp; omega) | (refine Nat.ne_of_gt (Blk.lt (arr := ?_) (t := ?_) ?_); rotate_left 2; focus (repeat (first | with_reducible assumption | ((with_reducible refine Blk.new' ?_); first | with_reducible rfl | (simp; done) | (simp [World.drew]; done)) | with_reducible refine Blk.alloc ?_ _ | with_reducible refine Blk.keep ?_ (by with_reducible assumption) | with_reducible refine Blk.drew ?_))) | (refine Nat.ne_of_lt (Blk.lt (arr := ?_) (t := ?_) ?_); rotate_left 2; focus (repeat (first | with_reducible assumption | ((with_reducible refine Blk.new' ?_); first | with_reducible rfl | (simp; done) | (simp [World.drew]; done)) | with_reducible refine Blk.alloc ?_ _ | with_reducible refine Blk.keep ?_ (by with_reducible assumption) | with_reducible refine Blk.drew ?_)))))) | with_reducible refine Blk.keep ?_ (by with_reducible assumption) | with_reducible refine Blk.drew ?_)), hown1.alloc _, by (repeat (first | with_reducible exact Below.refl _ _ | with_reducible assumption | with_reducible refine Kept.drop ?_ (by with_reducible assumption) | with_reducible refine Kept.alloc ?_ _ | ((with_reducible refine Below.setCell ?_ ?_ _); rotate_left 1; (focus (first | exact Nat.le_refl _ | (simp; done) | (simp; omega) | exact Below.size (by with_reducible assumption) | (refine Kept.size ?_; (repeat (first | with_reducible exact Below.refl _ _ | with_reducible assumption | with_reducible refine Kept.drop ?_ (by with_reducible assumption) | with_reducible refine Kept.alloc ?_ _ | with_reducible refine Below.drew ?_)))))) | with_reducible refine Below.drew ?_))⟩
      case round =>
        clear hc1 hf1 hl1 q0 hown hown1 q7 q7c0 q7c1 q7l
        obtain ⟨j, B, hj, hi, hBj, q0, qB, q7, hown2, hkq⟩ := hrel
        by_cases hj3 : j < 3
        · have HS := Lib.hid (bestK_succ m x j hj3)
          have HB := Lib.hid (show putB B from hBj ▸ bestK_B (m := m) HX.out j)
          have HN := Lib.hid (nextC_B HX.out j)
          rw [← hBj] at HS
          clear hBj
          rcases (show j = 0 ∨ j = 1 ∨ j = 2 by omega) with rfl | rfl | rfl
          · simp only [nextC] at HN HS
            replace hi : _ = Value.int .i64 1 := hi
            subst hi
            have HW : IntKind.i64.wrap (2 : Int) = 2 := by decide
            have HR := Lib.hid (fun (w' : World) (h : Kept wr w') => (corn_row (q7.keep h) 1 (by decide) : Row Put.cells 2 w'.heap.size w' (some ⟨_, 2, none⟩) [⟨x.ahi, x.wlo⟩]))
            go_upto_region 10 with fail
            go_cut [39] (fun s39 wx => s39 = .bool (decide (vOf m B < vOf m ⟨x.ahi, x.wlo⟩)) ∧ Kept wr wx)
            case first =>
              have m0 : ∀ w', Kept wr w' → w'.cell? ⟨w.heap.size, 0, none⟩ = _ := fun w' h => (q0.keep h).cell 0
              have m1 : ∀ w', Kept wr w' → w'.cell? ⟨w.heap.size, 1, none⟩ = _ := fun w' h => (q0.keep h).cell 1
              have m2 : ∀ w', Kept wr w' → w'.cell? ⟨w.heap.size, 2, none⟩ = _ := fun w' h => (q0.keep h).cell 2
              have e0 : ∀ w', Kept wr w' → w'.cell? ⟨w1.heap.size, 0, none⟩ = _ := fun w' h => (qB.keep h).cell 0
              have e1 : ∀ w', Kept wr w' → w'.cell? ⟨w1.heap.size, 1, none⟩ = _ := fun w' h => (qB.keep h).cell 1
              simp at m0 m1 m2 e0 e1
              go_region_held3 (fun w' => Kept wr w') (repeat (first | with_reducible exact Below.refl _ _ | with_reducible assumption | with_reducible refine Kept.drop ?_ (by with_reducible assumption) | with_reducible refine Kept.alloc ?_ _ | ((with_reducible refine Below.setCell ?_ ?_ _); rotate_left 1; (focus (first | exact Nat.le_refl _ | (simp; done) | (simp; omega) | exact Below.size (by with_reducible assumption) | (refine Kept.size ?_; (repeat (first | with_reducible exact Below.refl _ _ | with_reducible assumption | with_reducible refine Kept.drop ?_ (by with_reducible assumption) | with_reducible refine Kept.alloc ?_ _ | with_reducible refine Below.drew ?_)))))) | with_reducible refine Below.drew ?_)) (first | (go_at_call 77; (with_reducible refine (r_Value1 m _ _ ⟨x.ahi, x.wlo⟩ _ (HR.out _ (by (repeat (first | with_reducible exact Below.refl _ _ | with_reducible assumption | with_reducible refine Kept.drop ?_ (by with_reducible assumption) | with_reducible refine Kept.alloc ?_ _ | ((with_reducible refine Below.setCell ?_ ?_ _); rotate_left 1; (focus (first | exact Nat.le_refl _ | (simp; done) | (simp; omega) | exact Below.size (by with_reducible assumption) | (refine Kept.size ?_; (repeat (first | with_reducible exact Below.refl _ _ | with_reducible assumption | with_reducible refine Kept.drop ?_ (by with_reducible assumption) | with_reducible refine Kept.alloc ?_ _ | with_reducible refine Below.drew ?_)))))) | with_reducible refine Below.drew ?_)))) HM.out HN.out).mono ?_); rintro e w2 ⟨rfl, hb2⟩; obtain ⟨hc2, hf2, hl2⟩ := bcell3 hb2) | (go_at_call 77; (with_reducible refine (r_ValueN m B _ _ _ (by simp) HM.out HB.out).mono ?_); rintro e w3 ⟨rfl, hb3⟩; obtain ⟨hc3, hf3, hl3⟩ := bcell3 hb3) | (go_at_call 77; (with_reducible refine (r_ValueL m B 85 _ _ _ ?_ hb2 HM.out HB.out).mono ?_); (focus (first | exact Blk.drew (Blk.new' (by simp)) | exact Blk.new' (by simp))); rintro e w3 ⟨rfl, hb3⟩; obtain ⟨hc3, hf3, hl3⟩ := bcell3 hb3) | fail)
              all_goals (go_wp2_with fail; go_meet)
              all_goals exact ⟨by first | rfl | (simp; done) | (simp; omega), by (repeat (first | with_reducible exact Below.refl _ _ | with_reducible assumption | with_reducible refine Kept.drop ?_ (by with_reducible assumption) | with_reducible refine Kept.alloc ?_ _ | ((with_reducible refine Below.setCell ?_ ?_ _); rotate_left 1; (focus (first | exact Nat.le_refl _ | (simp; done) | (simp; omega) | exact Below.size (by with_reducible assumption) | (refine Kept.size ?_; (repeat (first | with_reducible exact Below.refl _ _ | with_reducible assumption | with_reducible refine Kept.drop ?_ (by with_reducible assumption) | with_reducible refine Kept.alloc ?_ _ | with_reducible refine Below.drew ?_)))))) | with_reducible refine Below.drew ?_))⟩
            case rest =>
              obtain ⟨rfl, hkx⟩ := hcut
              have p0 := q0.keep hkx
              have p7 := q7.keep hkx
              have pB := qB.keep hkx
              have ho := owns_keep hown2 hkx
              clear hown2
              have p7c0 := p7.cell 0
              have p7f0 := p7.free 0
              have p7c1 := p7.cell 1
              have p7f1 := p7.free 1
              have p7c2 := p7.cell 2
              have p7f2 := p7.free 2
              have p7c3 := p7.cell 3
              have p7f3 := p7.free 3
              have p7c4 := p7.cell 4
              have p7f4 := p7.free 4
              have p7c5 := p7.cell 5
              have p7f5 := p7.free 5
              have p7c6 := p7.cell 6
              have p7f6 := p7.free 6
              have p7c7 := p7.cell 7
              have p7f7 := p7.free 7
              have p7l := p7.lt
              simp at p7c0 p7c1 p7c2 p7c3 p7c4 p7c5 p7c6 p7c7
              have pBc0 := pB.cell 0
              have pBf0 := pB.free 0
              have pBc1 := pB.cell 1
              have pBf1 := pB.free 1
              have pBl := pB.lt
              simp at pBc0 pBc1
              by_cases hc : vOf m B < vOf m ⟨x.ahi, x.wlo⟩
              · have HC1 := Lib.hid (better_lt hc)
                have hd : decide (vOf m B < vOf m ⟨x.ahi, x.wlo⟩) = true := decide_eq_true hc
                go_wp2
                go_round
                case rel => exact ⟨1, ⟨x.ahi, x.wlo⟩, by omega, by go_num, by rw [HS.out, HC1.out], (p0.other HNE1.out _).other HNE1.out _, by (refine Blk.cast (arr := ?_) ?_ ?_; rotate_left 1; (focus (repeat (first | with_reducible assumption | ((with_reducible refine Blk.new' ?_); first | with_reducible rfl | (simp; done) | (simp [World.drew]; done)) | with_reducible refine Blk.alloc ?_ _ | ((with_reducible refine Blk.set (arr := ?_) ?_ _ _); rotate_left 1) | ((with_reducible refine Blk.other ?_ ?_ _); rotate_left 1; (focus (first | (simp; done) | (simp; omega) | (refine Nat.ne_of_gt (Blk.lt (arr := ?_) (t := ?_) ?_); rotate_left 2; focus (repeat (first | with_reducible assumption | ((with_reducible refine Blk.new' ?_); first | with_reducible rfl | (simp; done) | (simp [World.drew]; done)) | with_reducible refine Blk.alloc ?_ _ | with_reducible refine Blk.keep ?_ (by with_reducible assumption) | with_reducible refine Blk.drew ?_))) | (refine Nat.ne_of_lt (Blk.lt (arr := ?_) (t := ?_) ?_); rotate_left 2; focus (repeat (first | with_reducible assumption | ((with_reducible refine Blk.new' ?_); first | with_reducible rfl | (simp; done) | (simp [World.drew]; done)) | with_reducible refine Blk.alloc ?_ _ | with_reducible refine Blk.keep ?_ (by with_reducible assumption) | with_reducible refine Blk.drew ?_)))))) | with_reducible refine Blk.keep ?_ (by with_reducible assumption) | with_reducible refine Blk.drew ?_))); (first | rfl | (simp; done))), (p7.other HNE2.out _).other HNE2.out _, owns_setB (owns_setB ho HOB.out) HOB.out, by (repeat (first | with_reducible exact Below.refl _ _ | with_reducible assumption | with_reducible refine Kept.drop ?_ (by with_reducible assumption) | with_reducible refine Kept.alloc ?_ _ | ((with_reducible refine Below.setCell ?_ ?_ _); rotate_left 1; (focus (first | exact Nat.le_refl _ | (simp; done) | (simp; omega) | exact Below.size (by with_reducible assumption) | (refine Kept.size ?_; (repeat (first | with_reducible exact Below.refl _ _ | with_reducible assumption | with_reducible refine Kept.drop ?_ (by with_reducible assumption) | with_reducible refine Kept.alloc ?_ _ | with_reducible refine Below.drew ?_)))))) | with_reducible refine Below.drew ?_))⟩
                case measure => simp [intOf]
              · have HC1 := Lib.hid (better_ge hc)
                have hd : decide (vOf m B < vOf m ⟨x.ahi, x.wlo⟩) = false := decide_eq_false hc
                go_wp2
                go_round
                case rel => exact ⟨1, B, by omega, by go_num, by rw [HS.out, HC1.out], by (repeat (first | with_reducible assumption | ((with_reducible refine Blk.new' ?_); first | with_reducible rfl | (simp; done) | (simp [World.drew]; done)) | with_reducible refine Blk.alloc ?_ _ | ((with_reducible refine Blk.set (arr := ?_) ?_ _ _); rotate_left 1) | ((with_reducible refine Blk.other ?_ ?_ _); rotate_left 1; (focus (first | (simp; done) | (simp; omega) | (refine Nat.ne_of_gt (Blk.lt (arr := ?_) (t := ?_) ?_); rotate_left 2; focus (repeat (first | with_reducible assumption | ((with_reducible refine Blk.new' ?_); first | with_reducible rfl | (simp; done) | (simp [World.drew]; done)) | with_reducible refine Blk.alloc ?_ _ | with_reducible refine Blk.keep ?_ (by with_reducible assumption) | with_reducible refine Blk.drew ?_))) | (refine Nat.ne_of_lt (Blk.lt (arr := ?_) (t := ?_) ?_); rotate_left 2; focus (repeat (first | with_reducible assumption | ((with_reducible refine Blk.new' ?_); first | with_reducible rfl | (simp; done) | (simp [World.drew]; done)) | with_reducible refine Blk.alloc ?_ _ | with_reducible refine Blk.keep ?_ (by with_reducible assumption) | with_reducible refine Blk.drew ?_)))))) | with_reducible refine Blk.keep ?_ (by with_reducible assumption) | with_reducible refine Blk.drew ?_)), by (repeat (first | with_reducible assumption | ((with_reducible refine Blk.new' ?_); first | with_reducible rfl | (simp; done) | (simp [World.drew]; done)) | with_reducible refine Blk.alloc ?_ _ | ((with_reducible refine Blk.set (arr := ?_) ?_ _ _); rotate_left 1) | ((with_reducible refine Blk.other ?_ ?_ _); rotate_left 1; (focus (first | (simp; done) | (simp; omega) | (refine Nat.ne_of_gt (Blk.lt (arr := ?_) (t := ?_) ?_); rotate_left 2; focus (repeat (first | with_reducible assumption | ((with_reducible refine Blk.new' ?_); first | with_reducible rfl | (simp; done) | (simp [World.drew]; done)) | with_reducible refine Blk.alloc ?_ _ | with_reducible refine Blk.keep ?_ (by with_reducible assumption) | with_reducible refine Blk.drew ?_))) | (refine Nat.ne_of_lt (Blk.lt (arr := ?_) (t := ?_) ?_); rotate_left 2; focus (repeat (first | with_reducible assumption | ((with_reducible refine Blk.new' ?_); first | with_reducible rfl | (simp; done) | (simp [World.drew]; done)) | with_reducible refine Blk.alloc ?_ _ | with_reducible refine Blk.keep ?_ (by with_reducible assumption) | with_reducible refine Blk.drew ?_)))))) | with_reducible refine Blk.keep ?_ (by with_reducible assumption) | with_reducible refine Blk.drew ?_)), by (repeat (first | with_reducible assumption | ((with_reducible refine Blk.new' ?_); first | with_reducible rfl | (simp; done) | (simp [World.drew]; done)) | with_reducible refine Blk.alloc ?_ _ | ((with_reducible refine Blk.set (arr := ?_) ?_ _ _); rotate_left 1) | ((with_reducible refine Blk.other ?_ ?_ _); rotate_left 1; (focus (first | (simp; done) | (simp; omega) | (refine Nat.ne_of_gt (Blk.lt (arr := ?_) (t := ?_) ?_); rotate_left 2; focus (repeat (first | with_reducible assumption | ((with_reducible refine Blk.new' ?_); first | with_reducible rfl | (simp; done) | (simp [World.drew]; done)) | with_reducible refine Blk.alloc ?_ _ | with_reducible refine Blk.keep ?_ (by with_reducible assumption) | with_reducible refine Blk.drew ?_))) | (refine Nat.ne_of_lt (Blk.lt (arr := ?_) (t := ?_) ?_); rotate_left 2; focus (repeat (first | with_reducible assumption | ((with_reducible refine Blk.new' ?_); first | with_reducible rfl | (simp; done) | (simp [World.drew]; done)) | with_reducible refine Blk.alloc ?_ _ | with_reducible refine Blk.keep ?_ (by with_reducible assumption) | with_reducible refine Blk.drew ?_)))))) | with_reducible refine Blk.keep ?_ (by with_reducible assumption) | with_reducible refine Blk.drew ?_)), ho, by (repeat (first | with_reducible exact Below.refl _ _ | with_reducible assumption | with_reducible refine Kept.drop ?_ (by with_reducible assumption) | with_reducible refine Kept.alloc ?_ _ | ((with_reducible refine Below.setCell ?_ ?_ _); rotate_left 1; (focus (first | exact Nat.le_refl _ | (simp; done) | (simp; omega) | exact Below.size (by with_reducible assumption) | (refine Kept.size ?_; (repeat (first | with_reducible exact Below.refl _ _ | with_reducible assumption | with_reducible refine Kept.drop ?_ (by with_reducible assumption) | with_reducible refine Kept.alloc ?_ _ | with_reducible refine Below.drew ?_)))))) | with_reducible refine Below.drew ?_))⟩
                case measure => simp [intOf]
          · simp only [nextC] at HN HS
            replace hi : _ = Value.int .i64 2 := hi
            subst hi
            have HW : IntKind.i64.wrap (3 : Int) = 3 := by decide
            have HR := Lib.hid (fun (w' : World) (h : Kept wr w') => (corn_row (q7.keep h) 2 (by decide) : Row Put.cells 2 w'.heap.size w' (some ⟨_, 4, none⟩) [⟨x.alo, x.whi⟩]))
            go_upto_region 10 with fail
            go_cut [39] (fun s39 wx => s39 = .bool (decide (vOf m B < vOf m ⟨x.alo, x.whi⟩)) ∧ Kept wr wx)
            case first =>
              have m0 : ∀ w', Kept wr w' → w'.cell? ⟨w.heap.size, 0, none⟩ = _ := fun w' h => (q0.keep h).cell 0
              have m1 : ∀ w', Kept wr w' → w'.cell? ⟨w.heap.size, 1, none⟩ = _ := fun w' h => (q0.keep h).cell 1
              have m2 : ∀ w', Kept wr w' → w'.cell? ⟨w.heap.size, 2, none⟩ = _ := fun w' h => (q0.keep h).cell 2
              have e0 : ∀ w', Kept wr w' → w'.cell? ⟨w1.heap.size, 0, none⟩ = _ := fun w' h => (qB.keep h).cell 0
              have e1 : ∀ w', Kept wr w' → w'.cell? ⟨w1.heap.size, 1, none⟩ = _ := fun w' h => (qB.keep h).cell 1
              simp at m0 m1 m2 e0 e1
              go_region_held3 (fun w' => Kept wr w') (repeat (first | with_reducible exact Below.refl _ _ | with_reducible assumption | with_reducible refine Kept.drop ?_ (by with_reducible assumption) | with_reducible refine Kept.alloc ?_ _ | ((with_reducible refine Below.setCell ?_ ?_ _); rotate_left 1; (focus (first | exact Nat.le_refl _ | (simp; done) | (simp; omega) | exact Below.size (by with_reducible assumption) | (refine Kept.size ?_; (repeat (first | with_reducible exact Below.refl _ _ | with_reducible assumption | with_reducible refine Kept.drop ?_ (by with_reducible assumption) | with_reducible refine Kept.alloc ?_ _ | with_reducible refine Below.drew ?_)))))) | with_reducible refine Below.drew ?_)) (first | (go_at_call 77; (with_reducible refine (r_Value1 m _ _ ⟨x.alo, x.whi⟩ _ (HR.out _ (by (repeat (first | with_reducible exact Below.refl _ _ | with_reducible assumption | with_reducible refine Kept.drop ?_ (by with_reducible assumption) | with_reducible refine Kept.alloc ?_ _ | ((with_reducible refine Below.setCell ?_ ?_ _); rotate_left 1; (focus (first | exact Nat.le_refl _ | (simp; done) | (simp; omega) | exact Below.size (by with_reducible assumption) | (refine Kept.size ?_; (repeat (first | with_reducible exact Below.refl _ _ | with_reducible assumption | with_reducible refine Kept.drop ?_ (by with_reducible assumption) | with_reducible refine Kept.alloc ?_ _ | with_reducible refine Below.drew ?_)))))) | with_reducible refine Below.drew ?_)))) HM.out HN.out).mono ?_); rintro e w2 ⟨rfl, hb2⟩; obtain ⟨hc2, hf2, hl2⟩ := bcell3 hb2) | (go_at_call 77; (with_reducible refine (r_ValueN m B _ _ _ (by simp) HM.out HB.out).mono ?_); rintro e w3 ⟨rfl, hb3⟩; obtain ⟨hc3, hf3, hl3⟩ := bcell3 hb3) | (go_at_call 77; (with_reducible refine (r_ValueL m B 85 _ _ _ ?_ hb2 HM.out HB.out).mono ?_); (focus (first | exact Blk.drew (Blk.new' (by simp)) | exact Blk.new' (by simp))); rintro e w3 ⟨rfl, hb3⟩; obtain ⟨hc3, hf3, hl3⟩ := bcell3 hb3) | fail)
              all_goals (go_wp2_with fail; go_meet)
              all_goals exact ⟨by first | rfl | (simp; done) | (simp; omega), by (repeat (first | with_reducible exact Below.refl _ _ | with_reducible assumption | with_reducible refine Kept.drop ?_ (by with_reducible assumption) | with_reducible refine Kept.alloc ?_ _ | ((with_reducible refine Below.setCell ?_ ?_ _); rotate_left 1; (focus (first | exact Nat.le_refl _ | (simp; done) | (simp; omega) | exact Below.size (by with_reducible assumption) | (refine Kept.size ?_; (repeat (first | with_reducible exact Below.refl _ _ | with_reducible assumption | with_reducible refine Kept.drop ?_ (by with_reducible assumption) | with_reducible refine Kept.alloc ?_ _ | with_reducible refine Below.drew ?_)))))) | with_reducible refine Below.drew ?_))⟩
            case rest =>
              obtain ⟨rfl, hkx⟩ := hcut
              have p0 := q0.keep hkx
              have p7 := q7.keep hkx
              have pB := qB.keep hkx
              have ho := owns_keep hown2 hkx
              clear hown2
              have p7c0 := p7.cell 0
              have p7f0 := p7.free 0
              have p7c1 := p7.cell 1
              have p7f1 := p7.free 1
              have p7c2 := p7.cell 2
              have p7f2 := p7.free 2
              have p7c3 := p7.cell 3
              have p7f3 := p7.free 3
              have p7c4 := p7.cell 4
              have p7f4 := p7.free 4
              have p7c5 := p7.cell 5
              have p7f5 := p7.free 5
              have p7c6 := p7.cell 6
              have p7f6 := p7.free 6
              have p7c7 := p7.cell 7
              have p7f7 := p7.free 7
              have p7l := p7.lt
              simp at p7c0 p7c1 p7c2 p7c3 p7c4 p7c5 p7c6 p7c7
              have pBc0 := pB.cell 0
              have pBf0 := pB.free 0
              have pBc1 := pB.cell 1
              have pBf1 := pB.free 1
              have pBl := pB.lt
              simp at pBc0 pBc1
              by_cases hc : vOf m B < vOf m ⟨x.alo, x.whi⟩
              · have HC1 := Lib.hid (better_lt hc)
                have hd : decide (vOf m B < vOf m ⟨x.alo, x.whi⟩) = true := decide_eq_true hc
                go_wp2
                go_round
                case rel => exact ⟨2, ⟨x.alo, x.whi⟩, by omega, by go_num, by rw [HS.out, HC1.out], (p0.other HNE1.out _).other HNE1.out _, by (refine Blk.cast (arr := ?_) ?_ ?_; rotate_left 1; (focus (repeat (first | with_reducible assumption | ((with_reducible refine Blk.new' ?_); first | with_reducible rfl | (simp; done) | (simp [World.drew]; done)) | with_reducible refine Blk.alloc ?_ _ | ((with_reducible refine Blk.set (arr := ?_) ?_ _ _); rotate_left 1) | ((with_reducible refine Blk.other ?_ ?_ _); rotate_left 1; (focus (first | (simp; done) | (simp; omega) | (refine Nat.ne_of_gt (Blk.lt (arr := ?_) (t := ?_) ?_); rotate_left 2; focus (repeat (first | with_reducible assumption | ((with_reducible refine Blk.new' ?_); first | with_reducible rfl | (simp; done) | (simp [World.drew]; done)) | with_reducible refine Blk.alloc ?_ _ | with_reducible refine Blk.keep ?_ (by with_reducible assumption) | with_reducible refine Blk.drew ?_))) | (refine Nat.ne_of_lt (Blk.lt (arr := ?_) (t := ?_) ?_); rotate_left 2; focus (repeat (first | with_reducible assumption | ((with_reducible refine Blk.new' ?_); first | with_reducible rfl | (simp; done) | (simp [World.drew]; done)) | with_reducible refine Blk.alloc ?_ _ | with_reducible refine Blk.keep ?_ (by with_reducible assumption) | with_reducible refine Blk.drew ?_)))))) | with_reducible refine Blk.keep ?_ (by with_reducible assumption) | with_reducible refine Blk.drew ?_))); (first | rfl | (simp; done))), (p7.other HNE2.out _).other HNE2.out _, owns_setB (owns_setB ho HOB.out) HOB.out, by (repeat (first | with_reducible exact Below.refl _ _ | with_reducible assumption | with_reducible refine Kept.drop ?_ (by with_reducible assumption) | with_reducible refine Kept.alloc ?_ _ | ((with_reducible refine Below.setCell ?_ ?_ _); rotate_left 1; (focus (first | exact Nat.le_refl _ | (simp; done) | (simp; omega) | exact Below.size (by with_reducible assumption) | (refine Kept.size ?_; (repeat (first | with_reducible exact Below.refl _ _ | with_reducible assumption | with_reducible refine Kept.drop ?_ (by with_reducible assumption) | with_reducible refine Kept.alloc ?_ _ | with_reducible refine Below.drew ?_)))))) | with_reducible refine Below.drew ?_))⟩
                case measure => simp [intOf]
              · have HC1 := Lib.hid (better_ge hc)
                have hd : decide (vOf m B < vOf m ⟨x.alo, x.whi⟩) = false := decide_eq_false hc
                go_wp2
                go_round
                case rel => exact ⟨2, B, by omega, by go_num, by rw [HS.out, HC1.out], by (repeat (first | with_reducible assumption | ((with_reducible refine Blk.new' ?_); first | with_reducible rfl | (simp; done) | (simp [World.drew]; done)) | with_reducible refine Blk.alloc ?_ _ | ((with_reducible refine Blk.set (arr := ?_) ?_ _ _); rotate_left 1) | ((with_reducible refine Blk.other ?_ ?_ _); rotate_left 1; (focus (first | (simp; done) | (simp; omega) | (refine Nat.ne_of_gt (Blk.lt (arr := ?_) (t := ?_) ?_); rotate_left 2; focus (repeat (first | with_reducible assumption | ((with_reducible refine Blk.new' ?_); first | with_reducible rfl | (simp; done) | (simp [World.drew]; done)) | with_reducible refine Blk.alloc ?_ _ | with_reducible refine Blk.keep ?_ (by with_reducible assumption) | with_reducible refine Blk.drew ?_))) | (refine Nat.ne_of_lt (Blk.lt (arr := ?_) (t := ?_) ?_); rotate_left 2; focus (repeat (first | with_reducible assumption | ((with_reducible refine Blk.new' ?_); first | with_reducible rfl | (simp; done) | (simp [World.drew]; done)) | with_reducible refine Blk.alloc ?_ _ | with_reducible refine Blk.keep ?_ (by with_reducible assumption) | with_reducible refine Blk.drew ?_)))))) | with_reducible refine Blk.keep ?_ (by with_reducible assumption) | with_reducible refine Blk.drew ?_)), by (repeat (first | with_reducible assumption | ((with_reducible refine Blk.new' ?_); first | with_reducible rfl | (simp; done) | (simp [World.drew]; done)) | with_reducible refine Blk.alloc ?_ _ | ((with_reducible refine Blk.set (arr := ?_) ?_ _ _); rotate_left 1) | ((with_reducible refine Blk.other ?_ ?_ _); rotate_left 1; (focus (first | (simp; done) | (simp; omega) | (refine Nat.ne_of_gt (Blk.lt (arr := ?_) (t := ?_) ?_); rotate_left 2; focus (repeat (first | with_reducible assumption | ((with_reducible refine Blk.new' ?_); first | with_reducible rfl | (simp; done) | (simp [World.drew]; done)) | with_reducible refine Blk.alloc ?_ _ | with_reducible refine Blk.keep ?_ (by with_reducible assumption) | with_reducible refine Blk.drew ?_))) | (refine Nat.ne_of_lt (Blk.lt (arr := ?_) (t := ?_) ?_); rotate_left 2; focus (repeat (first | with_reducible assumption | ((with_reducible refine Blk.new' ?_); first | with_reducible rfl | (simp; done) | (simp [World.drew]; done)) | with_reducible refine Blk.alloc ?_ _ | with_reducible refine Blk.keep ?_ (by with_reducible assumption) | with_reducible refine Blk.drew ?_)))))) | with_reducible refine Blk.keep ?_ (by with_reducible assumption) | with_reducible refine Blk.drew ?_)), by (repeat (first | with_reducible assumption | ((with_reducible refine Blk.new' ?_); first | with_reducible rfl | (simp; done) | (simp [World.drew]; done)) | with_reducible refine Blk.alloc ?_ _ | ((with_reducible refine Blk.set (arr := ?_) ?_ _ _); rotate_left 1) | ((with_reducible refine Blk.other ?_ ?_ _); rotate_left 1; (focus (first | (simp; done) | (simp; omega) | (refine Nat.ne_of_gt (Blk.lt (arr := ?_) (t := ?_) ?_); rotate_left 2; focus (repeat (first | with_reducible assumption | ((with_reducible refine Blk.new' ?_); first | with_reducible rfl | (simp; done) | (simp [World.drew]; done)) | with_reducible refine Blk.alloc ?_ _ | with_reducible refine Blk.keep ?_ (by with_reducible assumption) | with_reducible refine Blk.drew ?_))) | (refine Nat.ne_of_lt (Blk.lt (arr := ?_) (t := ?_) ?_); rotate_left 2; focus (repeat (first | with_reducible assumption | ((with_reducible refine Blk.new' ?_); first | with_reducible rfl | (simp; done) | (simp [World.drew]; done)) | with_reducible refine Blk.alloc ?_ _ | with_reducible refine Blk.keep ?_ (by with_reducible assumption) | with_reducible refine Blk.drew ?_)))))) | with_reducible refine Blk.keep ?_ (by with_reducible assumption) | with_reducible refine Blk.drew ?_)), ho, by (repeat (first | with_reducible exact Below.refl _ _ | with_reducible assumption | with_reducible refine Kept.drop ?_ (by with_reducible assumption) | with_reducible refine Kept.alloc ?_ _ | ((with_reducible refine Below.setCell ?_ ?_ _); rotate_left 1; (focus (first | exact Nat.le_refl _ | (simp; done) | (simp; omega) | exact Below.size (by with_reducible assumption) | (refine Kept.size ?_; (repeat (first | with_reducible exact Below.refl _ _ | with_reducible assumption | with_reducible refine Kept.drop ?_ (by with_reducible assumption) | with_reducible refine Kept.alloc ?_ _ | with_reducible refine Below.drew ?_)))))) | with_reducible refine Below.drew ?_))⟩
                case measure => simp [intOf]
          · simp only [nextC] at HN HS
            replace hi : _ = Value.int .i64 3 := hi
            subst hi
            have HW : IntKind.i64.wrap (4 : Int) = 4 := by decide
            have HR := Lib.hid (fun (w' : World) (h : Kept wr w') => (corn_row (q7.keep h) 3 (by decide) : Row Put.cells 2 w'.heap.size w' (some ⟨_, 6, none⟩) [⟨x.ahi, x.whi⟩]))
            go_upto_region 10 with fail
            go_cut [39] (fun s39 wx => s39 = .bool (decide (vOf m B < vOf m ⟨x.ahi, x.whi⟩)) ∧ Kept wr wx)
            case first =>
              have m0 : ∀ w', Kept wr w' → w'.cell? ⟨w.heap.size, 0, none⟩ = _ := fun w' h => (q0.keep h).cell 0
              have m1 : ∀ w', Kept wr w' → w'.cell? ⟨w.heap.size, 1, none⟩ = _ := fun w' h => (q0.keep h).cell 1
              have m2 : ∀ w', Kept wr w' → w'.cell? ⟨w.heap.size, 2, none⟩ = _ := fun w' h => (q0.keep h).cell 2
              have e0 : ∀ w', Kept wr w' → w'.cell? ⟨w1.heap.size, 0, none⟩ = _ := fun w' h => (qB.keep h).cell 0
              have e1 : ∀ w', Kept wr w' → w'.cell? ⟨w1.heap.size, 1, none⟩ = _ := fun w' h => (qB.keep h).cell 1
              simp at m0 m1 m2 e0 e1
              go_region_held3 (fun w' => Kept wr w') (repeat (first | with_reducible exact Below.refl _ _ | with_reducible assumption | with_reducible refine Kept.drop ?_ (by with_reducible assumption) | with_reducible refine Kept.alloc ?_ _ | ((with_reducible refine Below.setCell ?_ ?_ _); rotate_left 1; (focus (first | exact Nat.le_refl _ | (simp; done) | (simp; omega) | exact Below.size (by with_reducible assumption) | (refine Kept.size ?_; (repeat (first | with_reducible exact Below.refl _ _ | with_reducible assumption | with_reducible refine Kept.drop ?_ (by with_reducible assumption) | with_reducible refine Kept.alloc ?_ _ | with_reducible refine Below.drew ?_)))))) | with_reducible refine Below.drew ?_)) (first | (go_at_call 77; (with_reducible refine (r_Value1 m _ _ ⟨x.ahi, x.whi⟩ _ (HR.out _ (by (repeat (first | with_reducible exact Below.refl _ _ | with_reducible assumption | with_reducible refine Kept.drop ?_ (by with_reducible assumption) | with_reducible refine Kept.alloc ?_ _ | ((with_reducible refine Below.setCell ?_ ?_ _); rotate_left 1; (focus (first | exact Nat.le_refl _ | (simp; done) | (simp; omega) | exact Below.size (by with_reducible assumption) | (refine Kept.size ?_; (repeat (first | with_reducible exact Below.refl _ _ | with_reducible assumption | with_reducible refine Kept.drop ?_ (by with_reducible assumption) | with_reducible refine Kept.alloc ?_ _ | with_reducible refine Below.drew ?_)))))) | with_reducible refine Below.drew ?_)))) HM.out HN.out).mono ?_); rintro e w2 ⟨rfl, hb2⟩; obtain ⟨hc2, hf2, hl2⟩ := bcell3 hb2) | (go_at_call 77; (with_reducible refine (r_ValueN m B _ _ _ (by simp) HM.out HB.out).mono ?_); rintro e w3 ⟨rfl, hb3⟩; obtain ⟨hc3, hf3, hl3⟩ := bcell3 hb3) | (go_at_call 77; (with_reducible refine (r_ValueL m B 85 _ _ _ ?_ hb2 HM.out HB.out).mono ?_); (focus (first | exact Blk.drew (Blk.new' (by simp)) | exact Blk.new' (by simp))); rintro e w3 ⟨rfl, hb3⟩; obtain ⟨hc3, hf3, hl3⟩ := bcell3 hb3) | fail)
              all_goals (go_wp2_with fail; go_meet)
              all_goals exact ⟨by first | rfl | (simp; done) | (simp; omega), by (repeat (first | with_reducible exact Below.refl _ _ | with_reducible assumption | with_reducible refine Kept.drop ?_ (by with_reducible assumption) | with_reducible refine Kept.alloc ?_ _ | ((with_reducible refine Below.setCell ?_ ?_ _); rotate_left 1; (focus (first | exact Nat.le_refl _ | (simp; done) | (simp; omega) | exact Below.size (by with_reducible assumption) | (refine Kept.size ?_; (repeat (first | with_reducible exact Below.refl _ _ | with_reducible assumption | with_reducible refine Kept.drop ?_ (by with_reducible assumption) | with_reducible refine Kept.alloc ?_ _ | with_reducible refine Below.drew ?_)))))) | with_reducible refine Below.drew ?_))⟩
            case rest =>
              obtain ⟨rfl, hkx⟩ := hcut
              have p0 := q0.keep hkx
              have p7 := q7.keep hkx
              have pB := qB.keep hkx
              have ho := owns_keep hown2 hkx
              clear hown2
              have p7c0 := p7.cell 0
              have p7f0 := p7.free 0
              have p7c1 := p7.cell 1
              have p7f1 := p7.free 1
              have p7c2 := p7.cell 2
              have p7f2 := p7.free 2
              have p7c3 := p7.cell 3
              have p7f3 := p7.free 3
              have p7c4 := p7.cell 4
              have p7f4 := p7.free 4
              have p7c5 := p7.cell 5
              have p7f5 := p7.free 5
              have p7c6 := p7.cell 6
              have p7f6 := p7.free 6
              have p7c7 := p7.cell 7
              have p7f7 := p7.free 7
              have p7l := p7.lt
              simp at p7c0 p7c1 p7c2 p7c3 p7c4 p7c5 p7c6 p7c7
              have pBc0 := pB.cell 0
              have pBf0 := pB.free 0
              have pBc1 := pB.cell 1
              have pBf1 := pB.free 1
              have pBl := pB.lt
              simp at pBc0 pBc1
              by_cases hc : vOf m B < vOf m ⟨x.ahi, x.whi⟩
              · have HC1 := Lib.hid (better_lt hc)
                have hd : decide (vOf m B < vOf m ⟨x.ahi, x.whi⟩) = true := decide_eq_true hc
                go_wp2
                go_round
                case rel => exact ⟨3, ⟨x.ahi, x.whi⟩, by omega, by go_num, by rw [HS.out, HC1.out], (p0.other HNE1.out _).other HNE1.out _, by (refine Blk.cast (arr := ?_) ?_ ?_; rotate_left 1; (focus (repeat (first | with_reducible assumption | ((with_reducible refine Blk.new' ?_); first | with_reducible rfl | (simp; done) | (simp [World.drew]; done)) | with_reducible refine Blk.alloc ?_ _ | ((with_reducible refine Blk.set (arr := ?_) ?_ _ _); rotate_left 1) | ((with_reducible refine Blk.other ?_ ?_ _); rotate_left 1; (focus (first | (simp; done) | (simp; omega) | (refine Nat.ne_of_gt (Blk.lt (arr := ?_) (t := ?_) ?_); rotate_left 2; focus (repeat (first | with_reducible assumption | ((with_reducible refine Blk.new' ?_); first | with_reducible rfl | (simp; done) | (simp [World.drew]; done)) | with_reducible refine Blk.alloc ?_ _ | with_reducible refine Blk.keep ?_ (by with_reducible assumption) | with_reducible refine Blk.drew ?_))) | (refine Nat.ne_of_lt (Blk.lt (arr := ?_) (t := ?_) ?_); rotate_left 2; focus (repeat (first | with_reducible assumption | ((with_reducible refine Blk.new' ?_); first | with_reducible rfl | (simp; done) | (simp [World.drew]; done)) | with_reducible refine Blk.alloc ?_ _ | with_reducible refine Blk.keep ?_ (by with_reducible assumption) | with_reducible refine Blk.drew ?_)))))) | with_reducible refine Blk.keep ?_ (by with_reducible assumption) | with_reducible refine Blk.drew ?_))); (first | rfl | (simp; done))), (p7.other HNE2.out _).other HNE2.out _, owns_setB (owns_setB ho HOB.out) HOB.out, by (repeat (first | with_reducible exact Below.refl _ _ | with_reducible assumption | with_reducible refine Kept.drop ?_ (by with_reducible assumption) | with_reducible refine Kept.alloc ?_ _ | ((with_reducible refine Below.setCell ?_ ?_ _); rotate_left 1; (focus (first | exact Nat.le_refl _ | (simp; done) | (simp; omega) | exact Below.size (by with_reducible assumption) | (refine Kept.size ?_; (repeat (first | with_reducible exact Below.refl _ _ | with_reducible assumption | with_reducible refine Kept.drop ?_ (by with_reducible assumption) | with_reducible refine Kept.alloc ?_ _ | with_reducible refine Below.drew ?_)))))) | with_reducible refine Below.drew ?_))⟩
                case measure => simp [intOf]
              · have HC1 := Lib.hid (better_ge hc)
                have hd : decide (vOf m B < vOf m ⟨x.ahi, x.whi⟩) = false := decide_eq_false hc
                go_wp2
                go_round
                case rel => exact ⟨3, B, by omega, by go_num, by rw [HS.out, HC1.out], by (repeat (first | with_reducible assumption | ((with_reducible refine Blk.new' ?_); first | with_reducible rfl | (simp; done) | (simp [World.drew]; done)) | with_reducible refine Blk.alloc ?_ _ | ((with_reducible refine Blk.set (arr := ?_) ?_ _ _); rotate_left 1) | ((with_reducible refine Blk.other ?_ ?_ _); rotate_left 1; (focus (first | (simp; done) | (simp; omega) | (refine Nat.ne_of_gt (Blk.lt (arr := ?_) (t := ?_) ?_); rotate_left 2; focus (repeat (first | with_reducible assumption | ((with_reducible refine Blk.new' ?_); first | with_reducible rfl | (simp; done) | (simp [World.drew]; done)) | with_reducible refine Blk.alloc ?_ _ | with_reducible refine Blk.keep ?_ (by with_reducible assumption) | with_reducible refine Blk.drew ?_))) | (refine Nat.ne_of_lt (Blk.lt (arr := ?_) (t := ?_) ?_); rotate_left 2; focus (repeat (first | with_reducible assumption | ((with_reducible refine Blk.new' ?_); first | with_reducible rfl | (simp; done) | (simp [World.drew]; done)) | with_reducible refine Blk.alloc ?_ _ | with_reducible refine Blk.keep ?_ (by with_reducible assumption) | with_reducible refine Blk.drew ?_)))))) | with_reducible refine Blk.keep ?_ (by with_reducible assumption) | with_reducible refine Blk.drew ?_)), by (repeat (first | with_reducible assumption | ((with_reducible refine Blk.new' ?_); first | with_reducible rfl | (simp; done) | (simp [World.drew]; done)) | with_reducible refine Blk.alloc ?_ _ | ((with_reducible refine Blk.set (arr := ?_) ?_ _ _); rotate_left 1) | ((with_reducible refine Blk.other ?_ ?_ _); rotate_left 1; (focus (first | (simp; done) | (simp; omega) | (refine Nat.ne_of_gt (Blk.lt (arr := ?_) (t := ?_) ?_); rotate_left 2; focus (repeat (first | with_reducible assumption | ((with_reducible refine Blk.new' ?_); first | with_reducible rfl | (simp; done) | (simp [World.drew]; done)) | with_reducible refine Blk.alloc ?_ _ | with_reducible refine Blk.keep ?_ (by with_reducible assumption) | with_reducible refine Blk.drew ?_))) | (refine Nat.ne_of_lt (Blk.lt (arr := ?_) (t := ?_) ?_); rotate_left 2; focus (repeat (first | with_reducible assumption | ((with_reducible refine Blk.new' ?_); first | with_reducible rfl | (simp; done) | (simp [World.drew]; done)) | with_reducible refine Blk.alloc ?_ _ | with_reducible refine Blk.keep ?_ (by with_reducible assumption) | with_reducible refine Blk.drew ?_)))))) | with_reducible refine Blk.keep ?_ (by with_reducible assumption) | with_reducible refine Blk.drew ?_)), by (repeat (first | with_reducible assumption | ((with_reducible refine Blk.new' ?_); first | with_reducible rfl | (simp; done) | (simp [World.drew]; done)) | with_reducible refine Blk.alloc ?_ _ | ((with_reducible refine Blk.set (arr := ?_) ?_ _ _); rotate_left 1) | ((with_reducible refine Blk.other ?_ ?_ _); rotate_left 1; (focus (first | (simp; done) | (simp; omega) | (refine Nat.ne_of_gt (Blk.lt (arr := ?_) (t := ?_) ?_); rotate_left 2; focus (repeat (first | with_reducible assumption | ((with_reducible refine Blk.new' ?_); first | with_reducible rfl | (simp; done) | (simp [World.drew]; done)) | with_reducible refine Blk.alloc ?_ _ | with_reducible refine Blk.keep ?_ (by with_reducible assumption) | with_reducible refine Blk.drew ?_))) | (refine Nat.ne_of_lt (Blk.lt (arr := ?_) (t := ?_) ?_); rotate_left 2; focus (repeat (first | with_reducible assumption | ((with_reducible refine Blk.new' ?_); first | with_reducible rfl | (simp; done) | (simp [World.drew]; done)) | with_reducible refine Blk.alloc ?_ _ | with_reducible refine Blk.keep ?_ (by with_reducible assumption) | with_reducible refine Blk.drew ?_)))))) | with_reducible refine Blk.keep ?_ (by with_reducible assumption) | with_reducible refine Blk.drew ?_)), ho, by (repeat (first | with_reducible exact Below.refl _ _ | with_reducible assumption | with_reducible refine Kept.drop ?_ (by with_reducible assumption) | with_reducible refine Kept.alloc ?_ _ | ((with_reducible refine Below.setCell ?_ ?_ _); rotate_left 1; (focus (first | exact Nat.le_refl _ | (simp; done) | (simp; omega) | exact Below.size (by with_reducible assumption) | (refine Kept.size ?_; (repeat (first | with_reducible exact Below.refl _ _ | with_reducible assumption | with_reducible refine Kept.drop ?_ (by with_reducible assumption) | with_reducible refine Kept.alloc ?_ _ | with_reducible refine Below.drew ?_)))))) | with_reducible refine Below.drew ?_))⟩
                case measure => simp [intOf]
        · obtain rfl : j = 3 := by omega
          obtain rfl : B = best m x := hBj
          replace hi : _ = Value.int .i64 4 := hi
          subst hi
          have qBc0 := qB.cell 0
          have qBf0 := qB.free 0
          have qBc1 := qB.cell 1
          have qBf1 := qB.free 1
          have qBl := qB.lt
          simp at qBc0 qBc1
          go_wp2_with (at_builtin; obtain ⟨i0, hi, hz0, hz1, hz2⟩ := info_parts infoP; refine wpList_append_own _ rfl _ _ 34 rfl w.heap.size 85 i0 (.agg #[.int .i64 0, .int .i64 0]) 2 16 Try.underlying34 hi hz0 hz1 hz2 rfl (by decide) _ _ _ rfl (hown2.alloc _) ⟨wr.heap.size, 0, none⟩ 1 1 [.int .i64 (best m x).pos, .int .i64 (best m x).wt] rfl rfl (cell_two_at rfl _ _ _) (fun x hx => by simp at hx; rcases hx with rfl | rfl <;> rfl) (by unfold maxLen; omega) (by omega) (by simp; omega) ?_; intro v' w3 hown' hgrow hnil; clear hi hz0 hz1 hz2)
          have hk3 : Kept w w3 := Kept.grown (Kept.alloc hkq _) (hown2.alloc _) (Nat.le_refl _) hgrow
          have q03 := Blk.grown (q0.alloc _) (hown2.alloc _) (by decide) hgrow
          go_roundw
          case rel =>
            have hown4 : w3.ownsRow w.heap.size 85 2 v' (k + 1) ((choice m (xs.take (k + 1))).flatMap Put.cells) := by rw [HSN.out]; exact hown'
            first
            | exact ⟨k + 1, by omega, by go_num, q03, hown4, hk3⟩
            | (apply Exists.intro; repeat (apply Exists.intro); refine ⟨?_, rfl⟩; exact ⟨k + 1, by omega, by go_num, q03, hown4, hk3⟩)
          case measure => simp [intOf]; omega
    · obtain rfl : k = xs.length := by omega
      rw [List.take_length] at hown
      have hown2 := hown
      rw [show xs.length = (choice m xs).length from (choice_len m xs).symm] at hown2
      obtain ⟨ad, cp, rfl, _⟩ := owns_row (enc := Put.cells) (k := 2) (fun _ => rfl) hown2
      go_wp2
      exact bodyPost_ret (v := .slice ad (choice m xs).length cp) (by simp [results, Try.results75, go_sem, choice_len]) rfl ⟨_, rfl, hown2, hkk⟩

end Go.Proofs.Ytlloijkmpmfapaa
