/-
  The lifts of a cell.
-/
import Derived.Test.YtemafanncejeiaaGasVA
import Derived.Test.YtemafanncejeiaaGasPlain3
import Derived.Test.YtemafanncejeiaaOwn
import Derived.WalkSmall
import Derived.OwnWalk
namespace Go.Proofs.Ytemafanncejeiaa
open Go.RowKit Bal Bal.Trim Bal.Gas
set_option linter.unusedVariables false
set_option linter.unusedSimpArgs false
set_option maxHeartbeats 800000

theorem f_Lift_bad (c : Cell) (a : Air) (w : World) (hv : cellB c = false) :
    Calls Try.prog 30 #[.agg #[.int .i64 c.room, .int .i64 c.helium, .int .i64 c.air, .int .i64 c.wlo, .int .i64 c.whi, .int .i64 c.leak, .int .i64 c.owed], .agg #[.int .i64 a.plo, .int .i64 a.phi, .int .i64 a.tlo, .int .i64 a.thi]] w fun e w' => e = .returned (.tuple #[.agg #[.int .i64 0, .int .i64 0], .int .i64 31]) ∧ Kept w w' := by
  go_enter Try.func30, Try.ntmps30
  go_wp2_with (go_at_call 80; (with_reducible refine (f_put_bad c a _ hv).mono ?_); rintro e w1 ⟨rfl, hb1⟩; obtain ⟨hc1, hf1, hl1⟩ := bcell3 hb1)
  exact bodyPost_ret (v := .tuple #[.agg #[.int .i64 0, .int .i64 0], .int .i64 31]) (by simp [results, Try.results30, go_sem, hc1, hf1, hl1]) rfl ⟨rfl, by (repeat (first | with_reducible exact Below.refl _ _ | with_reducible assumption | with_reducible refine Kept.drop ?_ (by with_reducible assumption) | with_reducible refine Kept.alloc ?_ _ | ((with_reducible refine Below.setCell ?_ ?_ _); rotate_left 1; (focus (first | exact Nat.le_refl _ | (simp; done) | (simp; omega) | exact Below.size (by with_reducible assumption) | (refine Kept.size ?_; (repeat (first | with_reducible exact Below.refl _ _ | with_reducible assumption | with_reducible refine Kept.drop ?_ (by with_reducible assumption) | with_reducible refine Kept.alloc ?_ _ | with_reducible refine Below.drew ?_)))))) | with_reducible refine Below.drew ?_))⟩

theorem f_Lift_air (c : Cell) (a : Air) (w : World) (hv : cellB c = true) (ha : airB a = false) :
    Calls Try.prog 30 #[.agg #[.int .i64 c.room, .int .i64 c.helium, .int .i64 c.air, .int .i64 c.wlo, .int .i64 c.whi, .int .i64 c.leak, .int .i64 c.owed], .agg #[.int .i64 a.plo, .int .i64 a.phi, .int .i64 a.tlo, .int .i64 a.thi]] w fun e w' => e = .returned (.tuple #[.agg #[.int .i64 0, .int .i64 0], .int .i64 30]) ∧ Kept w w' := by
  go_enter Try.func30, Try.ntmps30
  go_wp2_with (go_at_call 80; (with_reducible refine (f_put_air c a _ hv ha).mono ?_); rintro e w1 ⟨rfl, hb1⟩; obtain ⟨hc1, hf1, hl1⟩ := bcell3 hb1)
  exact bodyPost_ret (v := .tuple #[.agg #[.int .i64 0, .int .i64 0], .int .i64 30]) (by simp [results, Try.results30, go_sem, hc1, hf1, hl1]) rfl ⟨rfl, by (repeat (first | with_reducible exact Below.refl _ _ | with_reducible assumption | with_reducible refine Kept.drop ?_ (by with_reducible assumption) | with_reducible refine Kept.alloc ?_ _ | ((with_reducible refine Below.setCell ?_ ?_ _); rotate_left 1; (focus (first | exact Nat.le_refl _ | (simp; done) | (simp; omega) | exact Below.size (by with_reducible assumption) | (refine Kept.size ?_; (repeat (first | with_reducible exact Below.refl _ _ | with_reducible assumption | with_reducible refine Kept.drop ?_ (by with_reducible assumption) | with_reducible refine Kept.alloc ?_ _ | with_reducible refine Below.drew ?_)))))) | with_reducible refine Below.drew ?_))⟩

set_option maxRecDepth 10000
theorem i64_inA {n : Int} (h : -9223372036854775808 ≤ n ∧ n ≤ 9223372036854775807) : IntKind.i64.wrap n = n := by rw [IntKind.wrap_i64]; have := w64_in n h; unfold wrap64 at this; omega
theorem infoR : (Try.prog.info? 149).map (fun i => (i.zero, i.size, i.bytes)) = some (some (.agg #[.int .i64 0, .int .i64 0]), 2, 16) := by kernel_rfl
/-- what stands around the lift's loops: the arguments' boxes, the result, the cell in air, the two superheats -/
def LiftB (w w1 W : World) (c : Cell) (a : Air) : Prop :=
  Blk W w.heap.size #[.int .i64 c.room, .int .i64 c.helium, .int .i64 c.air, .int .i64 c.wlo, .int .i64 c.whi, .int .i64 c.leak, .int .i64 c.owed] 25 ∧ Blk W (w.heap.size + 1) #[.int .i64 a.plo, .int .i64 a.phi, .int .i64 a.tlo, .int .i64 a.thi] 27 ∧ Blk W (w.heap.size + 1 + 1) #[.int .i64 0, .int .i64 0] 23 ∧ Blk W w1.heap.size #[.int .i64 c.room, .int .i64 c.helium, .int .i64 c.air, .int .i64 c.wlo, .int .i64 c.whi, .int .i64 c.leak, .int .i64 c.owed, .int .i64 a.plo, .int .i64 a.phi, .int .i64 a.tlo, .int .i64 a.thi, .int .i64 (amount c), .int .i64 (heatLo c a), .int .i64 (heatHi c a)] 144 ∧ Kept w W
theorem LiftB.keep {w w1 W W' : World} {c : Cell} {a : Air} (h : LiftB w w1 W c a) (k : Kept W W') : LiftB w w1 W' c a :=
  ⟨h.1.keep k, h.2.1.keep k, h.2.2.1.keep k, h.2.2.2.1.keep k, Kept.drop h.2.2.2.2 k⟩
theorem LiftB.grown {w w1 W W' : World} {c : Cell} {a : Air} {k n : Nat} {v : Value} {xs : List Value} (h : LiftB w w1 W c a) (ho : W.ownsRow w.heap.size 149 k v n xs) (hg : W.grownBy W' v.ownBlock) : LiftB w w1 W' c a :=
  ⟨h.1.grown ho (by decide) hg, h.2.1.grown ho (by decide) hg, h.2.2.1.grown ho (by decide) hg, h.2.2.2.1.grown ho (by decide) hg, h.2.2.2.2.grown ho (Nat.le_refl _) hg⟩
def LiftOut (w w1 : World) (c : Cell) (a : Air) (s i : Value) (W : World) : Prop :=
  ∃ k : Nat, k ≤ 2 ∧ i = .int .i64 k ∧ W.ownsRow w.heap.size 149 2 s (2 * k) (((liftR c a).take (2 * k)).flatMap Ratio.cells) ∧ LiftB w w1 W c a ∧ Blk W (w1.heap.size + 1) #[.int .i64 c.wlo, .int .i64 c.whi] 3
def LiftIn (w w1 wr : World) (c : Cell) (a : Air) (k : Nat) (s j : Value) (W : World) : Prop :=
  ∃ m : Nat, m ≤ 2 ∧ j = .int .i64 m ∧ W.ownsRow w.heap.size 149 2 s (2 * k + m) (((liftR c a).take (2 * k + m)).flatMap Ratio.cells) ∧ LiftB w w1 W c a ∧ Blk W (w1.heap.size + 1) #[.int .i64 c.wlo, .int .i64 c.whi] 3 ∧ Blk W wr.heap.size #[.int .i64 a.tlo, .int .i64 a.thi] 3

theorem f_Lift_ok (c : Cell) (a : Air) (w : World) (hv : cellB c = true) (ha : airB a = true) :
    Calls Try.prog 30 #[.agg #[.int .i64 c.room, .int .i64 c.helium, .int .i64 c.air, .int .i64 c.wlo, .int .i64 c.whi, .int .i64 c.leak, .int .i64 c.owed], .agg #[.int .i64 a.plo, .int .i64 a.phi, .int .i64 a.tlo, .int .i64 a.thi]] w fun e w' => e = .returned (.tuple #[.agg #[.int .i64 (liftLo c a), .int .i64 (liftHi c a)], .int .i64 0]) ∧ Kept w w' := by
  obtain ⟨n0, n1, _⟩ := prod_bd hv ha
  obtain ⟨⟨h7, h8, h9⟩, h10, h11, h12⟩ := airB_iff.1 ha
  obtain ⟨_, ⟨u1, u2⟩, _, _, _, u3, u4, u5⟩ := cellB_iff.1 hv
  have b1 := pull_bd (x := c.wlo) hv (by omega)
  have b2 := pull_bd (x := c.whi) hv (by omega)
  have E1 := Lib.hid (lift_lo hv ha)
  have E2 := Lib.hid (lift_hi hv ha)
  have HR := Lib.hid (show ∀ x ∈ liftR c a, ratioOk x by intro x hx; simp only [liftR, List.mem_cons, List.not_mem_nil, or_false] at hx; rcases hx with rfl | rfl | rfl | rfl <;> refine ⟨?_, ?_, ?_, ?_⟩ <;> simp only <;> omega)
  have l1 : -1000000000000 ≤ liftLo c a ∧ liftLo c a ≤ 1000000000000 := by
    have d1 := div_bd (N := 174000000000) b1.1 b1.2 (show 0 < a.tlo by omega) (by omega)
    have d2 := div_bd (N := 174000000000) b1.1 b1.2 (show 0 < a.thi by omega) (by omega)
    unfold liftLo; omega
  have l2 : -1000000000000 ≤ liftHi c a ∧ liftHi c a ≤ 1000000000000 := by
    have d1 := div_bd (N := 174000000000) (a := -pull c c.whi) (by omega) (by omega) (show 0 < a.tlo by omega) (by omega)
    have d2 := div_bd (N := 174000000000) (a := -pull c c.whi) (by omega) (by omega) (show 0 < a.thi by omega) (by omega)
    unfold liftHi; omega
  have HV := Lib.hid hv
  have HA := Lib.hid ha
  clear hv ha
  unfold pull at b1 b2
  go_enter Try.func30, Try.ntmps30
  go_wp2_with (go_at_call 80; (with_reducible refine (f_put_good c a _ HV.out HA.out).mono ?_); rintro e w1 ⟨rfl, hb1⟩; obtain ⟨hc1, hf1, hl1⟩ := bcell3 hb1; refine Blk.thru (b := w.heap.size) (arr := ?_) (t := ?_) ?_ hb1 ?_; rotate_left 2; (focus (repeat (first | with_reducible assumption | ((with_reducible refine Blk.new' ?_); first | with_reducible rfl | (simp; done) | (simp [World.drew]; done)) | with_reducible refine Blk.alloc ?_ _ | ((with_reducible refine Blk.set (arr := ?_) ?_ _ _); rotate_left 1) | ((with_reducible refine Blk.other ?_ ?_ _); rotate_left 1; (focus (first | (simp; done) | (simp; omega) | (refine Nat.ne_of_gt (Blk.lt (arr := ?_) (t := ?_) ?_); rotate_left 2; focus (repeat (first | with_reducible assumption | ((with_reducible refine Blk.new' ?_); first | with_reducible rfl | (simp; done) | (simp [World.drew]; done)) | with_reducible refine Blk.alloc ?_ _ | with_reducible refine Blk.keep ?_ (by with_reducible assumption) | with_reducible refine Blk.drew ?_))) | (refine Nat.ne_of_lt (Blk.lt (arr := ?_) (t := ?_) ?_); rotate_left 2; focus (repeat (first | with_reducible assumption | ((with_reducible refine Blk.new' ?_); first | with_reducible rfl | (simp; done) | (simp [World.drew]; done)) | with_reducible refine Blk.alloc ?_ _ | with_reducible refine Blk.keep ?_ (by with_reducible assumption) | with_reducible refine Blk.drew ?_)))))) | with_reducible refine Blk.keep ?_ (by with_reducible assumption) | with_reducible refine Blk.drew ?_))); intro qa; have qac0 := qa.cell 0; have qaf0 := qa.free 0; have qac1 := qa.cell 1; have qaf1 := qa.free 1; have qac2 := qa.cell 2; have qaf2 := qa.free 2; have qac3 := qa.cell 3; have qaf3 := qa.free 3; have qac4 := qa.cell 4; have qaf4 := qa.free 4; have qac5 := qa.cell 5; have qaf5 := qa.free 5; have qac6 := qa.cell 6; have qaf6 := qa.free 6; have qal := qa.lt; simp at qac0 qac1 qac2 qac3 qac4 qac5 qac6; refine Blk.thru (b := w.heap.size + 1) (arr := ?_) (t := ?_) ?_ hb1 ?_; rotate_left 2; (focus (repeat (first | with_reducible assumption | ((with_reducible refine Blk.new' ?_); first | with_reducible rfl | (simp; done) | (simp [World.drew]; done)) | with_reducible refine Blk.alloc ?_ _ | ((with_reducible refine Blk.set (arr := ?_) ?_ _ _); rotate_left 1) | ((with_reducible refine Blk.other ?_ ?_ _); rotate_left 1; (focus (first | (simp; done) | (simp; omega) | (refine Nat.ne_of_gt (Blk.lt (arr := ?_) (t := ?_) ?_); rotate_left 2; focus (repeat (first | with_reducible assumption | ((with_reducible refine Blk.new' ?_); first | with_reducible rfl | (simp; done) | (simp [World.drew]; done)) | with_reducible refine Blk.alloc ?_ _ | with_reducible refine Blk.keep ?_ (by with_reducible assumption) | with_reducible refine Blk.drew ?_))) | (refine Nat.ne_of_lt (Blk.lt (arr := ?_) (t := ?_) ?_); rotate_left 2; focus (repeat (first | with_reducible assumption | ((with_reducible refine Blk.new' ?_); first | with_reducible rfl | (simp; done) | (simp [World.drew]; done)) | with_reducible refine Blk.alloc ?_ _ | with_reducible refine Blk.keep ?_ (by with_reducible assumption) | with_reducible refine Blk.drew ?_)))))) | with_reducible refine Blk.keep ?_ (by with_reducible assumption) | with_reducible refine Blk.drew ?_))); intro qb; have qbc0 := qb.cell 0; have qbf0 := qb.free 0; have qbc1 := qb.cell 1; have qbf1 := qb.free 1; have qbc2 := qb.cell 2; have qbf2 := qb.free 2; have qbc3 := qb.cell 3; have qbf3 := qb.free 3; have qbl := qb.lt; simp at qbc0 qbc1 qbc2 qbc3)
  refine at_world (S := fun W => LiftB w w1 W c a ∧ Blk W (w1.heap.size + 1) #[.int .i64 c.wlo, .int .i64 c.whi] 3) ⟨⟨by (repeat (first | with_reducible assumption | ((with_reducible refine Blk.new' ?_); first | with_reducible rfl | (simp; done) | (simp [World.drew]; done)) | with_reducible refine Blk.alloc ?_ _ | ((with_reducible refine Blk.set (arr := ?_) ?_ _ _); rotate_left 1) | ((with_reducible refine Blk.other ?_ ?_ _); rotate_left 1; (focus (first | (simp; done) | (simp; omega) | (refine Nat.ne_of_gt (Blk.lt (arr := ?_) (t := ?_) ?_); rotate_left 2; focus (repeat (first | with_reducible assumption | ((with_reducible refine Blk.new' ?_); first | with_reducible rfl | (simp; done) | (simp [World.drew]; done)) | with_reducible refine Blk.alloc ?_ _ | with_reducible refine Blk.keep ?_ (by with_reducible assumption) | with_reducible refine Blk.drew ?_))) | (refine Nat.ne_of_lt (Blk.lt (arr := ?_) (t := ?_) ?_); rotate_left 2; focus (repeat (first | with_reducible assumption | ((with_reducible refine Blk.new' ?_); first | with_reducible rfl | (simp; done) | (simp [World.drew]; done)) | with_reducible refine Blk.alloc ?_ _ | with_reducible refine Blk.keep ?_ (by with_reducible assumption) | with_reducible refine Blk.drew ?_)))))) | with_reducible refine Blk.keep ?_ (by with_reducible assumption) | with_reducible refine Blk.drew ?_)), by (repeat (first | with_reducible assumption | ((with_reducible refine Blk.new' ?_); first | with_reducible rfl | (simp; done) | (simp [World.drew]; done)) | with_reducible refine Blk.alloc ?_ _ | ((with_reducible refine Blk.set (arr := ?_) ?_ _ _); rotate_left 1) | ((with_reducible refine Blk.other ?_ ?_ _); rotate_left 1; (focus (first | (simp; done) | (simp; omega) | (refine Nat.ne_of_gt (Blk.lt (arr := ?_) (t := ?_) ?_); rotate_left 2; focus (repeat (first | with_reducible assumption | ((with_reducible refine Blk.new' ?_); first | with_reducible rfl | (simp; done) | (simp [World.drew]; done)) | with_reducible refine Blk.alloc ?_ _ | with_reducible refine Blk.keep ?_ (by with_reducible assumption) | with_reducible refine Blk.drew ?_))) | (refine Nat.ne_of_lt (Blk.lt (arr := ?_) (t := ?_) ?_); rotate_left 2; focus (repeat (first | with_reducible assumption | ((with_reducible refine Blk.new' ?_); first | with_reducible rfl | (simp; done) | (simp [World.drew]; done)) | with_reducible refine Blk.alloc ?_ _ | with_reducible refine Blk.keep ?_ (by with_reducible assumption) | with_reducible refine Blk.drew ?_)))))) | with_reducible refine Blk.keep ?_ (by with_reducible assumption) | with_reducible refine Blk.drew ?_)), by (repeat (first | with_reducible assumption | ((with_reducible refine Blk.new' ?_); first | with_reducible rfl | (simp; done) | (simp [World.drew]; done)) | with_reducible refine Blk.alloc ?_ _ | ((with_reducible refine Blk.set (arr := ?_) ?_ _ _); rotate_left 1) | ((with_reducible refine Blk.other ?_ ?_ _); rotate_left 1; (focus (first | (simp; done) | (simp; omega) | (refine Nat.ne_of_gt (Blk.lt (arr := ?_) (t := ?_) ?_); rotate_left 2; focus (repeat (first | with_reducible assumption | ((with_reducible refine Blk.new' ?_); first | with_reducible rfl | (simp; done) | (simp [World.drew]; done)) | with_reducible refine Blk.alloc ?_ _ | with_reducible refine Blk.keep ?_ (by with_reducible assumption) | with_reducible refine Blk.drew ?_))) | (refine Nat.ne_of_lt (Blk.lt (arr := ?_) (t := ?_) ?_); rotate_left 2; focus (repeat (first | with_reducible assumption | ((with_reducible refine Blk.new' ?_); first | with_reducible rfl | (simp; done) | (simp [World.drew]; done)) | with_reducible refine Blk.alloc ?_ _ | with_reducible refine Blk.keep ?_ (by with_reducible assumption) | with_reducible refine Blk.drew ?_)))))) | with_reducible refine Blk.keep ?_ (by with_reducible assumption) | with_reducible refine Blk.drew ?_)), by (refine Blk.cast (arr := ?_) ?_ ?_; rotate_left 1; (focus (repeat (first | with_reducible assumption | ((with_reducible refine Blk.new' ?_); first | with_reducible rfl | (simp; done) | (simp [World.drew]; done)) | with_reducible refine Blk.alloc ?_ _ | ((with_reducible refine Blk.set (arr := ?_) ?_ _ _); rotate_left 1) | ((with_reducible refine Blk.other ?_ ?_ _); rotate_left 1; (focus (first | (simp; done) | (simp; omega) | (refine Nat.ne_of_gt (Blk.lt (arr := ?_) (t := ?_) ?_); rotate_left 2; focus (repeat (first | with_reducible assumption | ((with_reducible refine Blk.new' ?_); first | with_reducible rfl | (simp; done) | (simp [World.drew]; done)) | with_reducible refine Blk.alloc ?_ _ | with_reducible refine Blk.keep ?_ (by with_reducible assumption) | with_reducible refine Blk.drew ?_))) | (refine Nat.ne_of_lt (Blk.lt (arr := ?_) (t := ?_) ?_); rotate_left 2; focus (repeat (first | with_reducible assumption | ((with_reducible refine Blk.new' ?_); first | with_reducible rfl | (simp; done) | (simp [World.drew]; done)) | with_reducible refine Blk.alloc ?_ _ | with_reducible refine Blk.keep ?_ (by with_reducible assumption) | with_reducible refine Blk.drew ?_)))))) | with_reducible refine Blk.keep ?_ (by with_reducible assumption) | with_reducible refine Blk.drew ?_))); (first | rfl | (simp; done))), by (repeat (first | with_reducible exact Below.refl _ _ | with_reducible assumption | with_reducible refine Kept.drop ?_ (by with_reducible assumption) | with_reducible refine Kept.alloc ?_ _ | ((with_reducible refine Below.setCell ?_ ?_ _); rotate_left 1; (focus (first | exact Nat.le_refl _ | (simp; done) | (simp; omega) | exact Below.size (by with_reducible assumption) | (refine Kept.size ?_; (repeat (first | with_reducible exact Below.refl _ _ | with_reducible assumption | with_reducible refine Kept.drop ?_ (by with_reducible assumption) | with_reducible refine Kept.alloc ?_ _ | with_reducible refine Below.drew ?_)))))) | with_reducible refine Below.drew ?_))⟩, by (refine Blk.cast (arr := ?_) ?_ ?_; rotate_left 1; (focus (repeat (first | with_reducible assumption | ((with_reducible refine Blk.new' ?_); first | with_reducible rfl | (simp; done) | (simp [World.drew]; done)) | with_reducible refine Blk.alloc ?_ _ | ((with_reducible refine Blk.set (arr := ?_) ?_ _ _); rotate_left 1) | ((with_reducible refine Blk.other ?_ ?_ _); rotate_left 1; (focus (first | (simp; done) | (simp; omega) | (refine Nat.ne_of_gt (Blk.lt (arr := ?_) (t := ?_) ?_); rotate_left 2; focus (repeat (first | with_reducible assumption | ((with_reducible refine Blk.new' ?_); first | with_reducible rfl | (simp; done) | (simp [World.drew]; done)) | with_reducible refine Blk.alloc ?_ _ | with_reducible refine Blk.keep ?_ (by with_reducible assumption) | with_reducible refine Blk.drew ?_))) | (refine Nat.ne_of_lt (Blk.lt (arr := ?_) (t := ?_) ?_); rotate_left 2; focus (repeat (first | with_reducible assumption | ((with_reducible refine Blk.new' ?_); first | with_reducible rfl | (simp; done) | (simp [World.drew]; done)) | with_reducible refine Blk.alloc ?_ _ | with_reducible refine Blk.keep ?_ (by with_reducible assumption) | with_reducible refine Blk.drew ?_)))))) | with_reducible refine Blk.keep ?_ (by with_reducible assumption) | with_reducible refine Blk.drew ?_))); (first | rfl | (simp; done)))⟩ ?_
  clear hc1 hf1 hl1 qac0 qaf0 qac1 qaf1 qac2 qaf2 qac3 qaf3 qac4 qaf4 qac5 qaf5 qac6 qaf6 qbc0 qbf0 qbc1 qbf1 qbc2 qbf2 qbc3 qbf3 qal qbl qa qb
  rintro W ⟨hb, q1⟩
  go_loopw [8, 33] (fun s i wr => LiftOut w w1 c a s i wr) (fun _ i _ => 2 - (intOf i).toNat)
  case atStart => exact ⟨0, by omega, rfl, owns_nil (α := Ratio) (enc := Ratio.cells), hb, q1⟩
  case round =>
    clear hb q1
    obtain ⟨k, hk2, rfl, hown, hb, q1⟩ := hrel
    rcases (show k = 0 ∨ k = 1 ∨ k = 2 by omega) with rfl | rfl | rfl
    · skip
      obtain ⟨r0, r1, r2, r3, hk⟩ := hb
      have r1c0 := r1.cell 0
      have r1f0 := r1.free 0
      have r1c1 := r1.cell 1
      have r1f1 := r1.free 1
      have r1c2 := r1.cell 2
      have r1f2 := r1.free 2
      have r1c3 := r1.cell 3
      have r1f3 := r1.free 3
      have r1l := r1.lt
      simp at r1c0 r1c1 r1c2 r1c3
      have q1c0 := q1.cell 0
      have q1f0 := q1.free 0
      have q1c1 := q1.cell 1
      have q1f1 := q1.free 1
      have q1l := q1.lt
      simp at q1c0 q1c1
      have sz := hk.size
      go_wp2
      have hown2 := hown.alloc (.cells #[.int .i64 a.tlo, .int .i64 a.thi] 3)
      go_loopw [8, 45] (fun s j wq => LiftIn w w1 wr c a 0 s j wq) (fun _ j _ => 2 - (intOf j).toNat)
      case atStart => exact ⟨0, by omega, rfl, hown2, LiftB.keep ⟨r0, r1, r2, r3, hk⟩ (Kept.alloc (Below.refl _ _) _), Blk.alloc q1 _, Blk.new⟩
      case round =>
        clear r0 r1 r2 r3 hk q1 hown hown2 r1c0 r1f0 r1c1 r1f1 r1c2 r1f2 r1c3 r1f3 q1c0 q1c1 q1f0 q1f1 r1l q1l
        obtain ⟨m, hm, rfl, hown, hb, q1, q2⟩ := hrel
        rcases (show m = 0 ∨ m = 1 ∨ m = 2 by omega) with rfl | rfl | rfl
        · skip
          obtain ⟨r0, r1, r2, r3, hk⟩ := hb
          have r3c0 := r3.cell 0
          have r3f0 := r3.free 0
          have r3c1 := r3.cell 1
          have r3f1 := r3.free 1
          have r3c2 := r3.cell 2
          have r3f2 := r3.free 2
          have r3c3 := r3.cell 3
          have r3f3 := r3.free 3
          have r3c4 := r3.cell 4
          have r3f4 := r3.free 4
          have r3c5 := r3.cell 5
          have r3f5 := r3.free 5
          have r3c6 := r3.cell 6
          have r3f6 := r3.free 6
          have r3c7 := r3.cell 7
          have r3f7 := r3.free 7
          have r3c8 := r3.cell 8
          have r3f8 := r3.free 8
          have r3c9 := r3.cell 9
          have r3f9 := r3.free 9
          have r3c10 := r3.cell 10
          have r3f10 := r3.free 10
          have r3c11 := r3.cell 11
          have r3f11 := r3.free 11
          have r3l := r3.lt
          simp at r3c0 r3c1 r3c2 r3c3 r3c4 r3c5 r3c6 r3c7 r3c8 r3c9 r3c10 r3c11
          have q1c0 := q1.cell 0
          have q1f0 := q1.free 0
          have q1c1 := q1.cell 1
          have q1f1 := q1.free 1
          have q1l := q1.lt
          simp at q1c0 q1c1
          have q2c0 := q2.cell 0
          have q2f0 := q2.free 0
          have q2c1 := q2.cell 1
          have q2f1 := q2.free 1
          have q2l := q2.lt
          simp at q2c0 q2c1
          have sz := hk.size
          go_wp2_with (at_builtin; obtain ⟨i0, hi, hz0, hz1, hz2⟩ := info_parts infoR; refine wpList_append_own _ rfl _ _ 158 rfl w.heap.size 149 i0 (.agg #[.int .i64 0, .int .i64 0]) 2 16 Try.underlying158 hi hz0 hz1 hz2 rfl (by decide) _ _ _ rfl (hown.alloc _) ⟨wr.heap.size, 0, none⟩ 1 1 [.int .i64 (pull c c.wlo), .int .i64 a.tlo] rfl rfl (cell_two_new _ _ _ _) (fun x hx => by simp at hx; rcases hx with rfl | rfl <;> rfl) (by unfold maxLen; omega) (by omega) (by simp; omega) ?_; intro v' w3 hown' hgrow hnil; clear hi hz0 hz1 hz2)
          go_roundw
          case rel =>
            have hb2 : LiftB w w1 w3 c a := LiftB.grown (LiftB.keep ⟨r0, r1, r2, r3, hk⟩ (Kept.alloc (Below.refl _ _) _)) (hown.alloc _) hgrow
            repeat (apply Exists.intro)
            refine ⟨?_, rfl⟩
            refine ⟨0 + 1, by omega, by go_num, ?_, hb2, (Blk.alloc q1 _).grown (hown.alloc _) (by decide) hgrow, (Blk.alloc q2 _).grown (hown.alloc _) (by decide) hgrow⟩
            simpa [liftR, Ratio.cells] using hown'
          case measure => simp [intOf]
        · skip
          obtain ⟨r0, r1, r2, r3, hk⟩ := hb
          have r3c0 := r3.cell 0
          have r3f0 := r3.free 0
          have r3c1 := r3.cell 1
          have r3f1 := r3.free 1
          have r3c2 := r3.cell 2
          have r3f2 := r3.free 2
          have r3c3 := r3.cell 3
          have r3f3 := r3.free 3
          have r3c4 := r3.cell 4
          have r3f4 := r3.free 4
          have r3c5 := r3.cell 5
          have r3f5 := r3.free 5
          have r3c6 := r3.cell 6
          have r3f6 := r3.free 6
          have r3c7 := r3.cell 7
          have r3f7 := r3.free 7
          have r3c8 := r3.cell 8
          have r3f8 := r3.free 8
          have r3c9 := r3.cell 9
          have r3f9 := r3.free 9
          have r3c10 := r3.cell 10
          have r3f10 := r3.free 10
          have r3c11 := r3.cell 11
          have r3f11 := r3.free 11
          have r3l := r3.lt
          simp at r3c0 r3c1 r3c2 r3c3 r3c4 r3c5 r3c6 r3c7 r3c8 r3c9 r3c10 r3c11
          have q1c0 := q1.cell 0
          have q1f0 := q1.free 0
          have q1c1 := q1.cell 1
          have q1f1 := q1.free 1
          have q1l := q1.lt
          simp at q1c0 q1c1
          have q2c0 := q2.cell 0
          have q2f0 := q2.free 0
          have q2c1 := q2.cell 1
          have q2f1 := q2.free 1
          have q2l := q2.lt
          simp at q2c0 q2c1
          have sz := hk.size
          go_wp2_with (at_builtin; obtain ⟨i0, hi, hz0, hz1, hz2⟩ := info_parts infoR; refine wpList_append_own _ rfl _ _ 158 rfl w.heap.size 149 i0 (.agg #[.int .i64 0, .int .i64 0]) 2 16 Try.underlying158 hi hz0 hz1 hz2 rfl (by decide) _ _ _ rfl (hown.alloc _) ⟨wr.heap.size, 0, none⟩ 1 1 [.int .i64 (pull c c.wlo), .int .i64 a.thi] rfl rfl (cell_two_new _ _ _ _) (fun x hx => by simp at hx; rcases hx with rfl | rfl <;> rfl) (by unfold maxLen; omega) (by omega) (by simp; omega) ?_; intro v' w3 hown' hgrow hnil; clear hi hz0 hz1 hz2)
          go_roundw
          case rel =>
            have hb2 : LiftB w w1 w3 c a := LiftB.grown (LiftB.keep ⟨r0, r1, r2, r3, hk⟩ (Kept.alloc (Below.refl _ _) _)) (hown.alloc _) hgrow
            repeat (apply Exists.intro)
            refine ⟨?_, rfl⟩
            refine ⟨1 + 1, by omega, by go_num, ?_, hb2, (Blk.alloc q1 _).grown (hown.alloc _) (by decide) hgrow, (Blk.alloc q2 _).grown (hown.alloc _) (by decide) hgrow⟩
            simpa [liftR, Ratio.cells] using hown'
          case measure => simp [intOf]
        · go_wp2
          go_roundw
          case rel =>
            first
            | exact ⟨0 + 1, by omega, by go_num, hown, hb, q1⟩
            | (apply Exists.intro; repeat (apply Exists.intro); refine ⟨?_, rfl⟩; exact ⟨0 + 1, by omega, by go_num, hown, hb, q1⟩)
          case measure => simp [intOf]
    · skip
      obtain ⟨r0, r1, r2, r3, hk⟩ := hb
      have r1c0 := r1.cell 0
      have r1f0 := r1.free 0
      have r1c1 := r1.cell 1
      have r1f1 := r1.free 1
      have r1c2 := r1.cell 2
      have r1f2 := r1.free 2
      have r1c3 := r1.cell 3
      have r1f3 := r1.free 3
      have r1l := r1.lt
      simp at r1c0 r1c1 r1c2 r1c3
      have q1c0 := q1.cell 0
      have q1f0 := q1.free 0
      have q1c1 := q1.cell 1
      have q1f1 := q1.free 1
      have q1l := q1.lt
      simp at q1c0 q1c1
      have sz := hk.size
      go_wp2
      have hown2 := hown.alloc (.cells #[.int .i64 a.tlo, .int .i64 a.thi] 3)
      go_loopw [8, 45] (fun s j wq => LiftIn w w1 wr c a 1 s j wq) (fun _ j _ => 2 - (intOf j).toNat)
      case atStart => exact ⟨0, by omega, rfl, hown2, LiftB.keep ⟨r0, r1, r2, r3, hk⟩ (Kept.alloc (Below.refl _ _) _), Blk.alloc q1 _, Blk.new⟩
      case round =>
        clear r0 r1 r2 r3 hk q1 hown hown2 r1c0 r1f0 r1c1 r1f1 r1c2 r1f2 r1c3 r1f3 q1c0 q1c1 q1f0 q1f1 r1l q1l
        obtain ⟨m, hm, rfl, hown, hb, q1, q2⟩ := hrel
        rcases (show m = 0 ∨ m = 1 ∨ m = 2 by omega) with rfl | rfl | rfl
        · skip
          obtain ⟨r0, r1, r2, r3, hk⟩ := hb
          have r3c0 := r3.cell 0
          have r3f0 := r3.free 0
          have r3c1 := r3.cell 1
          have r3f1 := r3.free 1
          have r3c2 := r3.cell 2
          have r3f2 := r3.free 2
          have r3c3 := r3.cell 3
          have r3f3 := r3.free 3
          have r3c4 := r3.cell 4
          have r3f4 := r3.free 4
          have r3c5 := r3.cell 5
          have r3f5 := r3.free 5
          have r3c6 := r3.cell 6
          have r3f6 := r3.free 6
          have r3c7 := r3.cell 7
          have r3f7 := r3.free 7
          have r3c8 := r3.cell 8
          have r3f8 := r3.free 8
          have r3c9 := r3.cell 9
          have r3f9 := r3.free 9
          have r3c10 := r3.cell 10
          have r3f10 := r3.free 10
          have r3c11 := r3.cell 11
          have r3f11 := r3.free 11
          have r3l := r3.lt
          simp at r3c0 r3c1 r3c2 r3c3 r3c4 r3c5 r3c6 r3c7 r3c8 r3c9 r3c10 r3c11
          have q1c0 := q1.cell 0
          have q1f0 := q1.free 0
          have q1c1 := q1.cell 1
          have q1f1 := q1.free 1
          have q1l := q1.lt
          simp at q1c0 q1c1
          have q2c0 := q2.cell 0
          have q2f0 := q2.free 0
          have q2c1 := q2.cell 1
          have q2f1 := q2.free 1
          have q2l := q2.lt
          simp at q2c0 q2c1
          have sz := hk.size
          go_wp2_with (at_builtin; obtain ⟨i0, hi, hz0, hz1, hz2⟩ := info_parts infoR; refine wpList_append_own _ rfl _ _ 158 rfl w.heap.size 149 i0 (.agg #[.int .i64 0, .int .i64 0]) 2 16 Try.underlying158 hi hz0 hz1 hz2 rfl (by decide) _ _ _ rfl (hown.alloc _) ⟨wr.heap.size, 0, none⟩ 1 1 [.int .i64 (pull c c.whi), .int .i64 a.tlo] rfl rfl (cell_two_new _ _ _ _) (fun x hx => by simp at hx; rcases hx with rfl | rfl <;> rfl) (by unfold maxLen; omega) (by omega) (by simp; omega) ?_; intro v' w3 hown' hgrow hnil; clear hi hz0 hz1 hz2)
          go_roundw
          case rel =>
            have hb2 : LiftB w w1 w3 c a := LiftB.grown (LiftB.keep ⟨r0, r1, r2, r3, hk⟩ (Kept.alloc (Below.refl _ _) _)) (hown.alloc _) hgrow
            repeat (apply Exists.intro)
            refine ⟨?_, rfl⟩
            refine ⟨0 + 1, by omega, by go_num, ?_, hb2, (Blk.alloc q1 _).grown (hown.alloc _) (by decide) hgrow, (Blk.alloc q2 _).grown (hown.alloc _) (by decide) hgrow⟩
            simpa [liftR, Ratio.cells] using hown'
          case measure => simp [intOf]
        · skip
          obtain ⟨r0, r1, r2, r3, hk⟩ := hb
          have r3c0 := r3.cell 0
          have r3f0 := r3.free 0
          have r3c1 := r3.cell 1
          have r3f1 := r3.free 1
          have r3c2 := r3.cell 2
          have r3f2 := r3.free 2
          have r3c3 := r3.cell 3
          have r3f3 := r3.free 3
          have r3c4 := r3.cell 4
          have r3f4 := r3.free 4
          have r3c5 := r3.cell 5
          have r3f5 := r3.free 5
          have r3c6 := r3.cell 6
          have r3f6 := r3.free 6
          have r3c7 := r3.cell 7
          have r3f7 := r3.free 7
          have r3c8 := r3.cell 8
          have r3f8 := r3.free 8
          have r3c9 := r3.cell 9
          have r3f9 := r3.free 9
          have r3c10 := r3.cell 10
          have r3f10 := r3.free 10
          have r3c11 := r3.cell 11
          have r3f11 := r3.free 11
          have r3l := r3.lt
          simp at r3c0 r3c1 r3c2 r3c3 r3c4 r3c5 r3c6 r3c7 r3c8 r3c9 r3c10 r3c11
          have q1c0 := q1.cell 0
          have q1f0 := q1.free 0
          have q1c1 := q1.cell 1
          have q1f1 := q1.free 1
          have q1l := q1.lt
          simp at q1c0 q1c1
          have q2c0 := q2.cell 0
          have q2f0 := q2.free 0
          have q2c1 := q2.cell 1
          have q2f1 := q2.free 1
          have q2l := q2.lt
          simp at q2c0 q2c1
          have sz := hk.size
          go_wp2_with (at_builtin; obtain ⟨i0, hi, hz0, hz1, hz2⟩ := info_parts infoR; refine wpList_append_own _ rfl _ _ 158 rfl w.heap.size 149 i0 (.agg #[.int .i64 0, .int .i64 0]) 2 16 Try.underlying158 hi hz0 hz1 hz2 rfl (by decide) _ _ _ rfl (hown.alloc _) ⟨wr.heap.size, 0, none⟩ 1 1 [.int .i64 (pull c c.whi), .int .i64 a.thi] rfl rfl (cell_two_new _ _ _ _) (fun x hx => by simp at hx; rcases hx with rfl | rfl <;> rfl) (by unfold maxLen; omega) (by omega) (by simp; omega) ?_; intro v' w3 hown' hgrow hnil; clear hi hz0 hz1 hz2)
          go_roundw
          case rel =>
            have hb2 : LiftB w w1 w3 c a := LiftB.grown (LiftB.keep ⟨r0, r1, r2, r3, hk⟩ (Kept.alloc (Below.refl _ _) _)) (hown.alloc _) hgrow
            repeat (apply Exists.intro)
            refine ⟨?_, rfl⟩
            refine ⟨1 + 1, by omega, by go_num, ?_, hb2, (Blk.alloc q1 _).grown (hown.alloc _) (by decide) hgrow, (Blk.alloc q2 _).grown (hown.alloc _) (by decide) hgrow⟩
            simpa [liftR, Ratio.cells] using hown'
          case measure => simp [intOf]
        · go_wp2
          go_roundw
          case rel =>
            first
            | exact ⟨1 + 1, by omega, by go_num, hown, hb, q1⟩
            | (apply Exists.intro; repeat (apply Exists.intro); refine ⟨?_, rfl⟩; exact ⟨1 + 1, by omega, by go_num, hown, hb, q1⟩)
          case measure => simp [intOf]
    · obtain ⟨r0, r1, r2, r3, hk⟩ := hb
      have hown' : wr.ownsRow w.heap.size 149 2 _ (liftR c a).length ((liftR c a).flatMap Ratio.cells) := hown
      obtain ⟨ad, cap, rfl, hrow, hc4, hcm⟩ := Row.of_owns (enc := Ratio.cells) (k := 2) (fun _ => rfl) hown'
      have HW := i64_inA (n := 25 * c.helium) (by omega)
      have hc2 : 2 ≤ (liftR c a).length := by simp [liftR]
      have hcm2 : cap ≤ 9223372036854775807 := by unfold maxLen at hcm; omega
      have k0 : ∀ w', Kept wr w' → w'.cell? ⟨w.heap.size, 1, none⟩ = some (.int .i64 c.helium) := fun w' h => by rw [(r0.keep h).cell 1]; rfl
      go_wp2
      go_upto_region 14 with fail
      go_cut [13, 14] (fun s13 s14 wx => ∃ g, s13 = .pointer (some ⟨g, 0, none⟩) ∧ s14 = .int .i64 (25 * c.helium) ∧ Blk wx g #[.int .i64 (leastLo (liftR c a)), .int .i64 (leastHi (liftR c a))] 23 ∧ Blk wx (w.heap.size + 1 + 1) #[.int .i64 0, .int .i64 0] 23 ∧ Kept w wx)
      case first =>
        go_region_held3 (fun w' => Kept wr w') (repeat (first | with_reducible exact Below.refl _ _ | with_reducible assumption | with_reducible refine Kept.drop ?_ (by with_reducible assumption) | with_reducible refine Kept.alloc ?_ _ | ((with_reducible refine Below.setCell ?_ ?_ _); rotate_left 1; (focus (first | exact Nat.le_refl _ | (simp; done) | (simp; omega) | exact Below.size (by with_reducible assumption) | (refine Kept.size ?_; (repeat (first | with_reducible exact Below.refl _ _ | with_reducible assumption | with_reducible refine Kept.drop ?_ (by with_reducible assumption) | with_reducible refine Kept.alloc ?_ _ | with_reducible refine Below.drew ?_)))))) | with_reducible refine Below.drew ?_)) (first | (go_at_call 81; (with_reducible refine (f_least _ _ _ (liftR c a) _ rfl (B := 0) (hrow.later (by (repeat (first | with_reducible exact Below.refl _ _ | with_reducible assumption | with_reducible refine Kept.drop ?_ (by with_reducible assumption) | with_reducible refine Kept.alloc ?_ _ | ((with_reducible refine Below.setCell ?_ ?_ _); rotate_left 1; (focus (first | exact Nat.le_refl _ | (simp; done) | (simp; omega) | exact Below.size (by with_reducible assumption) | (refine Kept.size ?_; (repeat (first | with_reducible exact Below.refl _ _ | with_reducible assumption | with_reducible refine Kept.drop ?_ (by with_reducible assumption) | with_reducible refine Kept.alloc ?_ _ | with_reducible refine Below.drew ?_)))))) | with_reducible refine Below.drew ?_))) (Nat.le_refl _)) hc2 hc4 hcm2 HR.out).mono ?_); rintro e w1 ⟨rfl, hb1⟩; obtain ⟨hc1, hf1, hl1⟩ := bcell3 hb1))
        all_goals (go_wp2_with fail; go_meet)
        all_goals
          refine ⟨_, rfl, rfl, ?_, ?_, ?_⟩
          · (refine Blk.cast (arr := ?_) ?_ ?_; rotate_left 1; (focus (repeat (first | with_reducible assumption | ((with_reducible refine Blk.new' ?_); first | with_reducible rfl | (simp; done) | (simp [World.drew]; done)) | with_reducible refine Blk.alloc ?_ _ | ((with_reducible refine Blk.set (arr := ?_) ?_ _ _); rotate_left 1) | ((with_reducible refine Blk.other ?_ ?_ _); rotate_left 1; (focus (first | (simp; done) | (simp; omega) | (refine Nat.ne_of_gt (Blk.lt (arr := ?_) (t := ?_) ?_); rotate_left 2; focus (repeat (first | with_reducible assumption | ((with_reducible refine Blk.new' ?_); first | with_reducible rfl | (simp; done) | (simp [World.drew]; done)) | with_reducible refine Blk.alloc ?_ _ | with_reducible refine Blk.keep ?_ (by with_reducible assumption) | with_reducible refine Blk.drew ?_))) | (refine Nat.ne_of_lt (Blk.lt (arr := ?_) (t := ?_) ?_); rotate_left 2; focus (repeat (first | with_reducible assumption | ((with_reducible refine Blk.new' ?_); first | with_reducible rfl | (simp; done) | (simp [World.drew]; done)) | with_reducible refine Blk.alloc ?_ _ | with_reducible refine Blk.keep ?_ (by with_reducible assumption) | with_reducible refine Blk.drew ?_)))))) | with_reducible refine Blk.keep ?_ (by with_reducible assumption) | with_reducible refine Blk.drew ?_))); (first | rfl | (simp; done)))
          · (refine Blk.cast (arr := ?_) ?_ ?_; rotate_left 1; (focus (repeat (first | with_reducible assumption | ((with_reducible refine Blk.new' ?_); first | with_reducible rfl | (simp; done) | (simp [World.drew]; done)) | with_reducible refine Blk.alloc ?_ _ | ((with_reducible refine Blk.set (arr := ?_) ?_ _ _); rotate_left 1) | ((with_reducible refine Blk.other ?_ ?_ _); rotate_left 1; (focus (first | (simp; done) | (simp; omega) | (refine Nat.ne_of_gt (Blk.lt (arr := ?_) (t := ?_) ?_); rotate_left 2; focus (repeat (first | with_reducible assumption | ((with_reducible refine Blk.new' ?_); first | with_reducible rfl | (simp; done) | (simp [World.drew]; done)) | with_reducible refine Blk.alloc ?_ _ | with_reducible refine Blk.keep ?_ (by with_reducible assumption) | with_reducible refine Blk.drew ?_))) | (refine Nat.ne_of_lt (Blk.lt (arr := ?_) (t := ?_) ?_); rotate_left 2; focus (repeat (first | with_reducible assumption | ((with_reducible refine Blk.new' ?_); first | with_reducible rfl | (simp; done) | (simp [World.drew]; done)) | with_reducible refine Blk.alloc ?_ _ | with_reducible refine Blk.keep ?_ (by with_reducible assumption) | with_reducible refine Blk.drew ?_)))))) | with_reducible refine Blk.keep ?_ (by with_reducible assumption) | with_reducible refine Blk.drew ?_))); (first | rfl | (simp; done)))
          · (repeat (first | with_reducible exact Below.refl _ _ | with_reducible assumption | with_reducible refine Kept.drop ?_ (by with_reducible assumption) | with_reducible refine Kept.alloc ?_ _ | ((with_reducible refine Below.setCell ?_ ?_ _); rotate_left 1; (focus (first | exact Nat.le_refl _ | (simp; done) | (simp; omega) | exact Below.size (by with_reducible assumption) | (refine Kept.size ?_; (repeat (first | with_reducible exact Below.refl _ _ | with_reducible assumption | with_reducible refine Kept.drop ?_ (by with_reducible assumption) | with_reducible refine Kept.alloc ?_ _ | with_reducible refine Below.drew ?_)))))) | with_reducible refine Below.drew ?_))
      case rest =>
        obtain ⟨g, rfl, rfl, p1, p0, hkx⟩ := hcut
        have p1c0 := p1.cell 0
        have p1f0 := p1.free 0
        have p1c1 := p1.cell 1
        have p1f1 := p1.free 1
        have p1l := p1.lt
        simp at p1c0 p1c1
        have p0c0 := p0.cell 0
        have p0f0 := p0.free 0
        have p0c1 := p0.cell 1
        have p0f1 := p0.free 1
        have p0l := p0.lt
        simp at p0c0 p0c1
        have e1 := E1.out
        have e2 := E2.out
        go_wp2
        exact bodyPost_ret (v := .tuple #[.agg #[.int .i64 (liftLo c a), .int .i64 (liftHi c a)], .int .i64 0]) (by simp [results, Try.results30, go_sem, p0c0, p0c1, p0f0, p0f1]) rfl ⟨rfl, by (repeat (first | with_reducible exact Below.refl _ _ | with_reducible assumption | with_reducible refine Kept.drop ?_ (by with_reducible assumption) | with_reducible refine Kept.alloc ?_ _ | ((with_reducible refine Below.setCell ?_ ?_ _); rotate_left 1; (focus (first | exact Nat.le_refl _ | (simp; done) | (simp; omega) | exact Below.size (by with_reducible assumption) | (refine Kept.size ?_; (repeat (first | with_reducible exact Below.refl _ _ | with_reducible assumption | with_reducible refine Kept.drop ?_ (by with_reducible assumption) | with_reducible refine Kept.alloc ?_ _ | with_reducible refine Below.drew ?_)))))) | with_reducible refine Below.drew ?_))⟩

end Go.Proofs.Ytemafanncejeiaa
