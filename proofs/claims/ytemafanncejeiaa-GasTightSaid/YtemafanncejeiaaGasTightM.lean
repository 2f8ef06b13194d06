/-
  GasTight, the statement: for every input the call returns true and leaves the input alone.
-/
import Derived.Test.YtemafanncejeiaaGasBaseM
import Derived.Test.YtemafanncejeiaaRows
set_option linter.unusedVariables false
set_option linter.unusedSimpArgs false
/-
  No narrower spans: each end is less than 1 from what there can be: plain Lean, no program in sight.
-/
namespace Bal.Gas
open Bal.Trim
def prT (a : Air) (i : Nat) : Int := if i = 0 then a.plo else a.phi
def teT (a : Air) (i : Nat) : Int := if i = 0 then a.tlo else a.thi
def waT (c : Cell) (i : Nat) : Int := if i = 0 then c.wlo else c.whi
def numT (c : Cell) (j : Nat) (t w : Int) : Int := if j = 1 then weightG c t w else amount c * (t + w)
def denT (c : Cell) (j : Nat) (p t : Int) : Int := if j = 0 then p else if j = 1 then t else c.room
def loT (c : Cell) (a : Air) (j : Nat) : Int := if j = 0 then volLo c a else if j = 1 then liftLo c a else ceilLo c a.tlo
def hiT (c : Cell) (a : Air) (j : Nat) : Int := if j = 0 then volHi c a else if j = 1 then liftHi c a else ceilHi c a.thi
def lowB (c : Cell) (a : Air) (j q : Nat) : Bool := decide (numT c j (teT a (q / 2 % 2)) (waT c (q % 2)) < (loT c a j + 1) * denT c j (prT a (q / 4)) (teT a (q / 2 % 2)))
def highB (c : Cell) (a : Air) (j q : Nat) : Bool := decide ((hiT c a j - 1) * denT c j (prT a (q / 4)) (teT a (q / 2 % 2)) < numT c j (teT a (q / 2 % 2)) (waT c (q % 2)))
/-- whether one of the first m choices is near the lower end, the upper end -/
def lowU (c : Cell) (a : Air) (j m : Nat) : Bool := (List.range m).any (lowB c a j)
def highU (c : Cell) (a : Air) (j m : Nat) : Bool := (List.range m).any (highB c a j)
theorem lowU_succ (c : Cell) (a : Air) (j m : Nat) : lowU c a j (m + 1) = (lowU c a j m || lowB c a j m) := by simp [lowU, List.range_succ]
theorem highU_succ (c : Cell) (a : Air) (j m : Nat) : highU c a j (m + 1) = (highU c a j m || highB c a j m) := by simp [highU, List.range_succ]
theorem lowB_at {c : Cell} {a : Air} (j : Nat) {i1 i2 i3 : Nat} (h2 : i2 < 2) (h3 : i3 < 2) : lowB c a j (4 * i1 + 2 * i2 + i3) = decide (numT c j (teT a i2) (waT c i3) < (loT c a j + 1) * denT c j (prT a i1) (teT a i2)) := by
  unfold lowB
  rw [show (4 * i1 + 2 * i2 + i3) / 2 % 2 = i2 by omega, show (4 * i1 + 2 * i2 + i3) % 2 = i3 by omega, show (4 * i1 + 2 * i2 + i3) / 4 = i1 by omega]
theorem highB_at {c : Cell} {a : Air} (j : Nat) {i1 i2 i3 : Nat} (h2 : i2 < 2) (h3 : i3 < 2) : highB c a j (4 * i1 + 2 * i2 + i3) = decide ((hiT c a j - 1) * denT c j (prT a i1) (teT a i2) < numT c j (teT a i2) (waT c i3)) := by
  unfold highB
  rw [show (4 * i1 + 2 * i2 + i3) / 2 % 2 = i2 by omega, show (4 * i1 + 2 * i2 + i3) % 2 = i3 by omega, show (4 * i1 + 2 * i2 + i3) / 4 = i1 by omega]
theorem up_lt {x p : Int} (hp : 0 < p) : (-((-x) / p) - 1) * p < x := by
  have h := Int.lt_ediv_add_one_mul_self (-x) hp
  rw [Int.add_mul] at h
  rw [Int.sub_mul, Int.neg_mul]
  omega
theorem lowU_of {c : Cell} {a : Air} {j : Nat} (i1 i2 i3 : Nat) (h1 : i1 < 2) (h2 : i2 < 2) (h3 : i3 < 2) (h : numT c j (teT a i2) (waT c i3) < (loT c a j + 1) * denT c j (prT a i1) (teT a i2)) : lowU c a j 8 = true := by
  unfold lowU
  rw [List.any_eq_true]
  exact ⟨4 * i1 + 2 * i2 + i3, by rw [List.mem_range]; omega, by rw [lowB_at j h2 h3]; simpa using h⟩
theorem highU_of {c : Cell} {a : Air} {j : Nat} (i1 i2 i3 : Nat) (h1 : i1 < 2) (h2 : i2 < 2) (h3 : i3 < 2) (h : (hiT c a j - 1) * denT c j (prT a i1) (teT a i2) < numT c j (teT a i2) (waT c i3)) : highU c a j 8 = true := by
  unfold highU
  rw [List.any_eq_true]
  exact ⟨4 * i1 + 2 * i2 + i3, by rw [List.mem_range]; omega, by rw [highB_at j h2 h3]; simpa using h⟩
theorem tight {c : Cell} {a : Air} (hc : cellB c = true) (ha : airB a = true) : (lowU c a 0 8 = true ∧ lowU c a 1 8 = true ∧ lowU c a 2 8 = true) ∧ highU c a 0 8 = true ∧ highU c a 1 8 = true ∧ highU c a 2 8 = true := by
  obtain ⟨⟨b1, b2, b3⟩, b4, b5, b6⟩ := airB_iff.1 ha
  obtain ⟨⟨r1, r2⟩, _⟩ := cellB_iff.1 hc
  refine ⟨⟨?_, ?_, ?_⟩, ?_, ?_, ?_⟩
  · refine lowU_of 1 0 0 (by decide) (by decide) (by decide) ?_
    simp only [numT, denT, loT, prT, teT, waT, volLo, heatLo]
    exact Int.lt_ediv_add_one_mul_self _ (show 0 < a.phi by omega)
  · by_cases h : pull c c.wlo / a.tlo ≤ pull c c.wlo / a.thi
    · refine lowU_of 0 0 0 (by decide) (by decide) (by decide) ?_
      have h1 := Int.lt_ediv_add_one_mul_self (pull c c.wlo) (show 0 < a.tlo by omega)
      have e : liftLo c a = 25 * c.helium + pull c c.wlo / a.tlo := by unfold liftLo; omega
      simp only [numT, denT, loT, teT, waT, if_true, if_false, Nat.one_ne_zero]
      rw [weightG_eq, e, Int.add_assoc, Int.add_mul]
      omega
    · refine lowU_of 0 1 0 (by decide) (by decide) (by decide) ?_
      have h1 := Int.lt_ediv_add_one_mul_self (pull c c.wlo) (show 0 < a.thi by omega)
      have e : liftLo c a = 25 * c.helium + pull c c.wlo / a.thi := by unfold liftLo; omega
      simp only [numT, denT, loT, teT, waT, if_true, if_false, Nat.one_ne_zero]
      rw [weightG_eq, e, Int.add_assoc, Int.add_mul]
      omega
  · refine lowU_of 0 0 0 (by decide) (by decide) (by decide) ?_
    simp only [numT, denT, loT, teT, waT, ceilLo]
    exact Int.lt_ediv_add_one_mul_self _ (show 0 < c.room by omega)
  · refine highU_of 0 1 1 (by decide) (by decide) (by decide) ?_
    simp only [numT, denT, hiT, prT, teT, waT, volHi, heatHi]
    exact up_lt (show 0 < a.plo by omega)
  · by_cases h : -((-(pull c c.whi)) / a.thi) ≤ -((-(pull c c.whi)) / a.tlo)
    · refine highU_of 0 0 1 (by decide) (by decide) (by decide) ?_
      have h1 := up_lt (x := pull c c.whi) (show 0 < a.tlo by omega)
      have e : liftHi c a = 25 * c.helium + -((-(pull c c.whi)) / a.tlo) := by unfold liftHi; omega
      simp only [numT, denT, hiT, teT, waT, if_true, if_false, Nat.one_ne_zero]
      rw [weightG_eq, e, Int.add_sub_assoc, Int.add_mul]
      omega
    · refine highU_of 0 1 1 (by decide) (by decide) (by decide) ?_
      have h1 := up_lt (x := pull c c.whi) (show 0 < a.thi by omega)
      have e : liftHi c a = 25 * c.helium + -((-(pull c c.whi)) / a.thi) := by unfold liftHi; omega
      simp only [numT, denT, hiT, teT, waT, if_true, if_false, Nat.one_ne_zero]
      rw [weightG_eq, e, Int.add_sub_assoc, Int.add_mul]
      omega
  · refine highU_of 0 1 1 (by decide) (by decide) (by decide) ?_
    simp only [numT, denT, hiT, teT, waT, ceilHi]
    exact up_lt (show 0 < c.room by omega)
end Bal.Gas

/-
  GasTight: no narrower spans: the walk.
-/
namespace Go.Proofs.Ytemafanncejeiaa
open Go.RowKit Bal Bal.Trim Bal.Gas
set_option linter.unusedVariables false
set_option linter.unusedSimpArgs false
set_option maxHeartbeats 8000000
set_option maxRecDepth 100000

/-- the marks while the j-th of three spans is looked at -/
def midL (c : Cell) (a : Air) (q i j : Nat) : Bool := if j < i then lowU c a j (q + 1) else lowU c a j q
def midH (c : Cell) (a : Air) (q i j : Nat) : Bool := if j < i then highU c a j (q + 1) else highU c a j q
theorem blky {w : World} {b : Nat} {arr : Array Value} {t : TypeId} (h : Blk w b arr t := by (refine Blk.cast (arr := ?_) ?_ ?_; rotate_left 1; (focus (repeat (first | with_reducible assumption | ((with_reducible refine Blk.new' ?_); first | with_reducible rfl | (simp; done) | (simp [World.drew]; done)) | with_reducible refine Blk.alloc ?_ _ | ((with_reducible refine Blk.set (arr := ?_) ?_ _ _); rotate_left 1) | ((with_reducible refine Blk.other ?_ ?_ _); rotate_left 1; (focus (first | (simp; done) | (simp; omega) | (refine Nat.ne_of_gt (Blk.lt (arr := ?_) (t := ?_) ?_); rotate_left 2; focus (exact blk0)) | (refine Nat.ne_of_lt (Blk.lt (arr := ?_) (t := ?_) ?_); rotate_left 2; focus (exact blk0)))); rotate_right 1) | with_reducible refine Blk.keep ?_ (by with_reducible assumption) | with_reducible refine Blk.drew ?_))); (first | with_reducible rfl | (simp; done) | rfl))) : Blk w b arr t := h
theorem eq_true3 (w : World) : (binOp .eql 118 (.agg #[.bool true, .bool true, .bool true]) (.agg #[.bool true, .bool true, .bool true])).run Try.prog w = .ok (.bool true) w := by kernel_rfl
theorem law_GasTight_bad (c : Cell) (a : Air) (w : World) (E : Int) (hE : E = 31 ∨ E = 30) (hA : asked c a = E) : Calls Try.prog 13 #[.agg #[.int .i64 c.room, .int .i64 c.helium, .int .i64 c.air, .int .i64 c.wlo, .int .i64 c.whi, .int .i64 c.leak, .int .i64 c.owed], .agg #[.int .i64 a.plo, .int .i64 a.phi, .int .i64 a.tlo, .int .i64 a.thi]] w fun e w' => e = .returned (.bool true) ∧ Kept w w' := by
  have EA := Lib.hid hA
  clear hA
  rcases hE with rfl | rfl
  all_goals
    go_enter Try.func13, Try.ntmps13
    go_wp2_with (first | (go_at_call 68; (with_reducible refine (o_alive _).mono ?_); rintro e wa ⟨rfl, hba⟩; refine Blk.thru (b := w.heap.size) (arr := ?_) (t := ?_) ?_ hba ?_; rotate_left 2; (focus (exact blk)); intro xa; have xac0 := xa.cell 0; have xaf0 := xa.free 0; have xac1 := xa.cell 1; have xaf1 := xa.free 1; have xac2 := xa.cell 2; have xaf2 := xa.free 2; have xac3 := xa.cell 3; have xaf3 := xa.free 3; have xac4 := xa.cell 4; have xaf4 := xa.free 4; have xac5 := xa.cell 5; have xaf5 := xa.free 5; have xac6 := xa.cell 6; have xaf6 := xa.free 6; have xal := xa.lt; simp at xac0 xac1 xac2 xac3 xac4 xac5 xac6; refine Blk.thru (b := w.heap.size + 1) (arr := ?_) (t := ?_) ?_ hba ?_; rotate_left 2; (focus (exact blk)); intro ya; have yac0 := ya.cell 0; have yaf0 := ya.free 0; have yac1 := ya.cell 1; have yaf1 := ya.free 1; have yac2 := ya.cell 2; have yaf2 := ya.free 2; have yac3 := ya.cell 3; have yaf3 := ya.free 3; have yal := ya.lt; simp at yac0 yac1 yac2 yac3) | (go_at_call 22; (with_reducible refine (f_VolumeC c a _).mono ?_); rw [EA.out]; rintro e wV ⟨rfl, hbV⟩; refine Blk.thru (b := w.heap.size) (arr := ?_) (t := ?_) ?_ hbV ?_; rotate_left 2; (focus (exact blk)); intro xwV; have xwVc0 := xwV.cell 0; have xwVf0 := xwV.free 0; have xwVc1 := xwV.cell 1; have xwVf1 := xwV.free 1; have xwVc2 := xwV.cell 2; have xwVf2 := xwV.free 2; have xwVc3 := xwV.cell 3; have xwVf3 := xwV.free 3; have xwVc4 := xwV.cell 4; have xwVf4 := xwV.free 4; have xwVc5 := xwV.cell 5; have xwVf5 := xwV.free 5; have xwVc6 := xwV.cell 6; have xwVf6 := xwV.free 6; have xwVl := xwV.lt; simp at xwVc0 xwVc1 xwVc2 xwVc3 xwVc4 xwVc5 xwVc6; refine Blk.thru (b := w.heap.size + 1) (arr := ?_) (t := ?_) ?_ hbV ?_; rotate_left 2; (focus (exact blk)); intro ywV; have ywVc0 := ywV.cell 0; have ywVf0 := ywV.free 0; have ywVc1 := ywV.cell 1; have ywVf1 := ywV.free 1; have ywVc2 := ywV.cell 2; have ywVf2 := ywV.free 2; have ywVc3 := ywV.cell 3; have ywVf3 := ywV.free 3; have ywVl := ywV.lt; simp at ywVc0 ywVc1 ywVc2 ywVc3) | (go_at_call 30; (with_reducible refine (f_LiftC c a _).mono ?_); rw [EA.out]; rintro e wL ⟨rfl, hbL⟩; refine Blk.thru (b := w.heap.size) (arr := ?_) (t := ?_) ?_ hbL ?_; rotate_left 2; (focus (exact blk)); intro xwL; have xwLc0 := xwL.cell 0; have xwLf0 := xwL.free 0; have xwLc1 := xwL.cell 1; have xwLf1 := xwL.free 1; have xwLc2 := xwL.cell 2; have xwLf2 := xwL.free 2; have xwLc3 := xwL.cell 3; have xwLf3 := xwL.free 3; have xwLc4 := xwL.cell 4; have xwLf4 := xwL.free 4; have xwLc5 := xwL.cell 5; have xwLf5 := xwL.free 5; have xwLc6 := xwL.cell 6; have xwLf6 := xwL.free 6; have xwLl := xwL.lt; simp at xwLc0 xwLc1 xwLc2 xwLc3 xwLc4 xwLc5 xwLc6; refine Blk.thru (b := w.heap.size + 1) (arr := ?_) (t := ?_) ?_ hbL ?_; rotate_left 2; (focus (exact blk)); intro ywL; have ywLc0 := ywL.cell 0; have ywLf0 := ywL.free 0; have ywLc1 := ywL.cell 1; have ywLf1 := ywL.free 1; have ywLc2 := ywL.cell 2; have ywLf2 := ywL.free 2; have ywLc3 := ywL.cell 3; have ywLf3 := ywL.free 3; have ywLl := ywL.lt; simp at ywLc0 ywLc1 ywLc2 ywLc3) | (go_at_call 32; (with_reducible refine (f_CeilingC c a.tlo a.thi _).mono ?_); rintro e wC ⟨rfl, hbC⟩; refine Blk.thru (b := w.heap.size) (arr := ?_) (t := ?_) ?_ hbC ?_; rotate_left 2; (focus (exact blk)); intro xwC; have xwCc0 := xwC.cell 0; have xwCf0 := xwC.free 0; have xwCc1 := xwC.cell 1; have xwCf1 := xwC.free 1; have xwCc2 := xwC.cell 2; have xwCf2 := xwC.free 2; have xwCc3 := xwC.cell 3; have xwCf3 := xwC.free 3; have xwCc4 := xwC.cell 4; have xwCf4 := xwC.free 4; have xwCc5 := xwC.cell 5; have xwCf5 := xwC.free 5; have xwCc6 := xwC.cell 6; have xwCf6 := xwC.free 6; have xwCl := xwC.lt; simp at xwCc0 xwCc1 xwCc2 xwCc3 xwCc4 xwCc5 xwCc6; refine Blk.thru (b := w.heap.size + 1) (arr := ?_) (t := ?_) ?_ hbC ?_; rotate_left 2; (focus (exact blk)); intro ywC; have ywCc0 := ywC.cell 0; have ywCf0 := ywC.free 0; have ywCc1 := ywC.cell 1; have ywCf1 := ywC.free 1; have ywCc2 := ywC.cell 2; have ywCf2 := ywC.free 2; have ywCc3 := ywC.cell 3; have ywCf3 := ywC.free 3; have ywCl := ywC.lt; simp at ywCc0 ywCc1 ywCc2 ywCc3))
    go_ret
    exact ⟨rfl, by exact kpt⟩

theorem law_GasTight_ok (c : Cell) (a : Air) (w : World) (hc : cellB c = true) (ha : airB a = true) : Calls Try.prog 13 #[.agg #[.int .i64 c.room, .int .i64 c.helium, .int .i64 c.air, .int .i64 c.wlo, .int .i64 c.whi, .int .i64 c.leak, .int .i64 c.owed], .agg #[.int .i64 a.plo, .int .i64 a.phi, .int .i64 a.tlo, .int .i64 a.thi]] w fun e w' => e = .returned (.bool true) ∧ Kept w w' := by
  obtain ⟨⟨b1, b2, b3⟩, b4, b5, b6⟩ := airB_iff.1 ha
  obtain ⟨⟨r1, r2⟩, ⟨e1, e2⟩, ⟨e3, e4⟩, _, _, u3, u4, u5⟩ := cellB_iff.1 hc
  have hs : spanIn a.tlo a.thi 1500 3500 = true := spanIn_iff.2 ⟨b4, b5, b6⟩
  have KV0 := fun W => f_Volume_ok c a W hc ha
  have KL0 := fun W => f_Lift_ok c a W hc ha
  have KC0 := fun W => f_Ceiling_ok c a.tlo a.thi W hc hs
  obtain ⟨⟨⟨s1, s2⟩, s3, s4⟩, ⟨⟨s5, s6⟩, s7, s8⟩, ⟨s9, s10⟩, s11, s12⟩ := span_bd hc ha
  have HT := Lib.hid (Bal.Gas.tight hc ha)
  obtain ⟨VL, hVL⟩ : ∃ n, n = volLo c a := ⟨_, rfl⟩
  obtain ⟨VH, hVH⟩ : ∃ n, n = volHi c a := ⟨_, rfl⟩
  obtain ⟨LL, hLL⟩ : ∃ n, n = liftLo c a := ⟨_, rfl⟩
  obtain ⟨LH, hLH⟩ : ∃ n, n = liftHi c a := ⟨_, rfl⟩
  obtain ⟨UL, hUL⟩ : ∃ n, n = ceilLo c a.tlo := ⟨_, rfl⟩
  obtain ⟨UH, hUH⟩ : ∃ n, n = ceilHi c a.thi := ⟨_, rfl⟩
  rw [← hVL, ← hVH] at KV0
  rw [← hLL, ← hLH] at KL0
  rw [← hUL, ← hUH] at KC0
  rw [← hVL] at s1 s2
  rw [← hVH] at s3 s4
  rw [← hLL] at s5 s6
  rw [← hLH] at s7 s8
  rw [← hUL] at s9 s10
  rw [← hUH] at s11 s12
  have KV := Lib.hid KV0
  have KL := Lib.hid KL0
  have KC := Lib.hid KC0
  have HE := Lib.hid (show VL = volLo c a ∧ VH = volHi c a ∧ LL = liftLo c a ∧ LH = liftHi c a ∧ UL = ceilLo c a.tlo ∧ UH = ceilHi c a.thi from ⟨hVL, hVH, hLL, hLH, hUL, hUH⟩)
  clear KV0 KL0 KC0 hVL hVH hLL hLH hUL hUH hc ha hs
  obtain ⟨N, hN⟩ : ∃ n, c.helium + c.air = n := ⟨_, rfl⟩
  have w1 := i64_inH (n := N) (by omega)
  go_enter Try.func13, Try.ntmps13
  go_upto_region 9 with (first | (go_at_call 68; (with_reducible refine (o_alive _).mono ?_); rintro e wa ⟨rfl, hba⟩; refine Blk.thru (b := w.heap.size) (arr := ?_) (t := ?_) ?_ hba ?_; rotate_left 2; (focus (exact blk)); intro xa; have xac0 := xa.cell 0; have xaf0 := xa.free 0; have xac1 := xa.cell 1; have xaf1 := xa.free 1; have xac2 := xa.cell 2; have xaf2 := xa.free 2; have xac3 := xa.cell 3; have xaf3 := xa.free 3; have xac4 := xa.cell 4; have xaf4 := xa.free 4; have xac5 := xa.cell 5; have xaf5 := xa.free 5; have xac6 := xa.cell 6; have xaf6 := xa.free 6; have xal := xa.lt; simp at xac0 xac1 xac2 xac3 xac4 xac5 xac6; refine Blk.thru (b := w.heap.size + 1) (arr := ?_) (t := ?_) ?_ hba ?_; rotate_left 2; (focus (exact blk)); intro ya; have yac0 := ya.cell 0; have yaf0 := ya.free 0; have yac1 := ya.cell 1; have yaf1 := ya.free 1; have yac2 := ya.cell 2; have yaf2 := ya.free 2; have yac3 := ya.cell 3; have yaf3 := ya.free 3; have yal := ya.lt; simp at yac0 yac1 yac2 yac3) | (go_at_call 22; (with_reducible refine (KV.out _).mono ?_); rintro e wV ⟨rfl, hbV⟩; refine Blk.thru (b := w.heap.size) (arr := ?_) (t := ?_) ?_ hbV ?_; rotate_left 2; (focus (exact blk)); intro xwV; have xwVc0 := xwV.cell 0; have xwVf0 := xwV.free 0; have xwVc1 := xwV.cell 1; have xwVf1 := xwV.free 1; have xwVc2 := xwV.cell 2; have xwVf2 := xwV.free 2; have xwVc3 := xwV.cell 3; have xwVf3 := xwV.free 3; have xwVc4 := xwV.cell 4; have xwVf4 := xwV.free 4; have xwVc5 := xwV.cell 5; have xwVf5 := xwV.free 5; have xwVc6 := xwV.cell 6; have xwVf6 := xwV.free 6; have xwVl := xwV.lt; simp at xwVc0 xwVc1 xwVc2 xwVc3 xwVc4 xwVc5 xwVc6; refine Blk.thru (b := w.heap.size + 1) (arr := ?_) (t := ?_) ?_ hbV ?_; rotate_left 2; (focus (exact blk)); intro ywV; have ywVc0 := ywV.cell 0; have ywVf0 := ywV.free 0; have ywVc1 := ywV.cell 1; have ywVf1 := ywV.free 1; have ywVc2 := ywV.cell 2; have ywVf2 := ywV.free 2; have ywVc3 := ywV.cell 3; have ywVf3 := ywV.free 3; have ywVl := ywV.lt; simp at ywVc0 ywVc1 ywVc2 ywVc3) | (go_at_call 30; (with_reducible refine (KL.out _).mono ?_); rintro e wL ⟨rfl, hbL⟩; refine Blk.thru (b := w.heap.size) (arr := ?_) (t := ?_) ?_ hbL ?_; rotate_left 2; (focus (exact blk)); intro xwL; have xwLc0 := xwL.cell 0; have xwLf0 := xwL.free 0; have xwLc1 := xwL.cell 1; have xwLf1 := xwL.free 1; have xwLc2 := xwL.cell 2; have xwLf2 := xwL.free 2; have xwLc3 := xwL.cell 3; have xwLf3 := xwL.free 3; have xwLc4 := xwL.cell 4; have xwLf4 := xwL.free 4; have xwLc5 := xwL.cell 5; have xwLf5 := xwL.free 5; have xwLc6 := xwL.cell 6; have xwLf6 := xwL.free 6; have xwLl := xwL.lt; simp at xwLc0 xwLc1 xwLc2 xwLc3 xwLc4 xwLc5 xwLc6; refine Blk.thru (b := w.heap.size + 1) (arr := ?_) (t := ?_) ?_ hbL ?_; rotate_left 2; (focus (exact blk)); intro ywL; have ywLc0 := ywL.cell 0; have ywLf0 := ywL.free 0; have ywLc1 := ywL.cell 1; have ywLf1 := ywL.free 1; have ywLc2 := ywL.cell 2; have ywLf2 := ywL.free 2; have ywLc3 := ywL.cell 3; have ywLf3 := ywL.free 3; have ywLl := ywL.lt; simp at ywLc0 ywLc1 ywLc2 ywLc3) | (go_at_call 32; (with_reducible refine (KC.out _).mono ?_); rintro e wC ⟨rfl, hbC⟩; refine Blk.thru (b := w.heap.size) (arr := ?_) (t := ?_) ?_ hbC ?_; rotate_left 2; (focus (exact blk)); intro xwC; have xwCc0 := xwC.cell 0; have xwCf0 := xwC.free 0; have xwCc1 := xwC.cell 1; have xwCf1 := xwC.free 1; have xwCc2 := xwC.cell 2; have xwCf2 := xwC.free 2; have xwCc3 := xwC.cell 3; have xwCf3 := xwC.free 3; have xwCc4 := xwC.cell 4; have xwCf4 := xwC.free 4; have xwCc5 := xwC.cell 5; have xwCf5 := xwC.free 5; have xwCc6 := xwC.cell 6; have xwCf6 := xwC.free 6; have xwCl := xwC.lt; simp at xwCc0 xwCc1 xwCc2 xwCc3 xwCc4 xwCc5 xwCc6; refine Blk.thru (b := w.heap.size + 1) (arr := ?_) (t := ?_) ?_ hbC ?_; rotate_left 2; (focus (exact blk)); intro ywC; have ywCc0 := ywC.cell 0; have ywCf0 := ywC.free 0; have ywCc1 := ywC.cell 1; have ywCf1 := ywC.free 1; have ywCc2 := ywC.cell 2; have ywCf2 := ywC.free 2; have ywCc3 := ywC.cell 3; have ywCf3 := ywC.free 3; have ywCl := ywC.lt; simp at ywCc0 ywCc1 ywCc2 ywCc3))
  refine at_world (S := fun X => Blk X w.heap.size #[.int .i64 c.room, .int .i64 c.helium, .int .i64 c.air, .int .i64 c.wlo, .int .i64 c.whi, .int .i64 c.leak, .int .i64 c.owed] 25 ∧ Blk X (w.heap.size + 1) #[.int .i64 a.plo, .int .i64 a.phi, .int .i64 a.tlo, .int .i64 a.thi] 27 ∧ Blk X wV.heap.size #[.int .i64 VL, .int .i64 VH] 23 ∧ Blk X wL.heap.size #[.int .i64 LL, .int .i64 LH] 23 ∧ Blk X wC.heap.size #[.int .i64 UL, .int .i64 UH] 23 ∧ Kept w X) ⟨by exact blkd, by exact blkd, by exact blkd, by exact blkd, by exact blkd, by exact kpt⟩ ?_
  rintro X ⟨q0, q1, qv, ql, qu, hk⟩
  obtain ⟨s12, hs12⟩ : ∃ n, n = X.heap.size := ⟨_, rfl⟩
  have t0 := q0.lt
  have t1 := q1.lt
  have t2 := qv.lt
  have t3 := ql.lt
  have t4 := qu.lt
  generalize wV.heap.size = sv at qv t2 ⊢
  generalize wL.heap.size = sl at ql t3 ⊢
  generalize wC.heap.size = su at qu t4 ⊢
  have q0c0 := q0.cell 0
  have q0f0 := q0.free 0
  have q0c1 := q0.cell 1
  have q0f1 := q0.free 1
  have q0c2 := q0.cell 2
  have q0f2 := q0.free 2
  have q0c3 := q0.cell 3
  have q0f3 := q0.free 3
  have q0c4 := q0.cell 4
  have q0f4 := q0.free 4
  have q0c5 := q0.cell 5
  have q0f5 := q0.free 5
  have q0c6 := q0.cell 6
  have q0f6 := q0.free 6
  have q0l := q0.lt
  simp at q0c0 q0c1 q0c2 q0c3 q0c4 q0c5 q0c6
  have q1c0 := q1.cell 0
  have q1f0 := q1.free 0
  have q1c1 := q1.cell 1
  have q1f1 := q1.free 1
  have q1c2 := q1.cell 2
  have q1f2 := q1.free 2
  have q1c3 := q1.cell 3
  have q1f3 := q1.free 3
  have q1l := q1.lt
  simp at q1c0 q1c1 q1c2 q1c3
  go_upto_region 11 with fail
  refine at_world (S := fun Y => Blk Y w.heap.size #[.int .i64 c.room, .int .i64 c.helium, .int .i64 c.air, .int .i64 c.wlo, .int .i64 c.whi, .int .i64 c.leak, .int .i64 c.owed] 25 ∧ Blk Y (w.heap.size + 1) #[.int .i64 a.plo, .int .i64 a.phi, .int .i64 a.tlo, .int .i64 a.thi] 27 ∧ Blk Y sv #[.int .i64 VL, .int .i64 VH] 23 ∧ Blk Y sl #[.int .i64 LL, .int .i64 LH] 23 ∧ Blk Y su #[.int .i64 UL, .int .i64 UH] 23 ∧ Blk Y s12 #[.bool (lowU c a 0 0), .bool (lowU c a 1 0), .bool (lowU c a 2 0)] 118 ∧ Blk Y (s12 + 1) #[.bool (highU c a 0 0), .bool (highU c a 1 0), .bool (highU c a 2 0)] 118 ∧ Kept w Y) ⟨by exact blkd, by exact blkd, by exact blkd, by exact blkd, by exact blkd, by rw [hs12]; exact blkd, by rw [hs12]; exact blkd, by exact kpt⟩ ?_
  clear q0 q1 qv ql qu hk
  rintro Y ⟨q0, q1, qv, ql, qu, qlo, qhi, hk⟩
  clear q0c0 q0f0 q0c1 q0f1 q0c2 q0f2 q0c3 q0f3 q0c4 q0f4 q0c5 q0f5 q0c6 q0f6 q0l q1c0 q1f0 q1c1 q1f1 q1c2 q1f2 q1c3 q1f3 q1l
  rw [← hs12] at t0 t1 t2 t3 t4 ⊢
  clear hs12
  have q1c0 := q1.cell 0
  have q1f0 := q1.free 0
  have q1c1 := q1.cell 1
  have q1f1 := q1.free 1
  have q1c2 := q1.cell 2
  have q1f2 := q1.free 2
  have q1c3 := q1.cell 3
  have q1f3 := q1.free 3
  have q1l := q1.lt
  simp at q1c0 q1c1 q1c2 q1c3
  obtain ⟨m1, hm1⟩ : ∃ n, n = Y.heap.size := ⟨_, rfl⟩
  have t5 : s12 + 1 < m1 := by rw [hm1]; exact qhi.lt
  go_wp2
  rw [← hm1]
  have HM1_ := Lib.hid hm1
  clear hm1
  go_loopw [71] (fun i wr => ∃ i1 : Nat, i1 ≤ 2 ∧ i = .int .i64 i1 ∧ Blk wr w.heap.size #[.int .i64 c.room, .int .i64 c.helium, .int .i64 c.air, .int .i64 c.wlo, .int .i64 c.whi, .int .i64 c.leak, .int .i64 c.owed] 25 ∧ Blk wr (w.heap.size + 1) #[.int .i64 a.plo, .int .i64 a.phi, .int .i64 a.tlo, .int .i64 a.thi] 27 ∧ Blk wr sv #[.int .i64 VL, .int .i64 VH] 23 ∧ Blk wr sl #[.int .i64 LL, .int .i64 LH] 23 ∧ Blk wr su #[.int .i64 UL, .int .i64 UH] 23 ∧ Blk wr s12 #[.bool (lowU c a 0 (4 * i1)), .bool (lowU c a 1 (4 * i1)), .bool (lowU c a 2 (4 * i1))] 118 ∧ Blk wr (s12 + 1) #[.bool (highU c a 0 (4 * i1)), .bool (highU c a 1 (4 * i1)), .bool (highU c a 2 (4 * i1))] 118 ∧ Blk wr m1 #[.int .i64 a.plo, .int .i64 a.phi] 3 ∧ Kept w wr) (fun i _ => 2 - (intOf i).toNat)
  case atStart => exact ⟨0, by omega, rfl, by exact blkd, by exact blkd, by exact blkd, by exact blkd, by exact blkd, by exact blkd, by exact blkd, by rw [HM1_.out]; exact blkd, by exact kpt⟩
  case round =>
    clear q1c0 q1f0 q1c1 q1f1 q1c2 q1f2 q1c3 q1f3 q1l q0 q1 qv ql qu qlo qhi hk
    obtain ⟨i1, h1, rfl, q0, q1, qv, ql, qu, qlo, qhi, r1, hk⟩ := hrel
    by_cases hlt1 : i1 < 2
    · obtain ⟨Z1, rfl⟩ : ∃ Z1 : World, Z1 = wr := ⟨_, rfl⟩
      have t6 := r1.lt
      obtain ⟨P, hP⟩ : ∃ n, n = prT a i1 := ⟨_, rfl⟩
      have gP : Z1.cell? ⟨m1, i1, none⟩ = some (.int .i64 P) := by
        rw [hP]
        rcases (show i1 = 0 ∨ i1 = 1 by omega) with rfl | rfl
        · exact (r1.cell 0).trans rfl
        · exact (r1.cell 1).trans rfl
      have bP : 1000 ≤ P ∧ P ≤ 12000 := by rw [hP]; unfold prT; split <;> omega
      have kP0 : (0 : Int) ≤ (i1 : Int) := by omega
      have kP1 : (i1 : Int) < 2 := by omega
      have HP_ := Lib.hid hP
      clear hP
      have q1c0 := q1.cell 0
      have q1f0 := q1.free 0
      have q1c1 := q1.cell 1
      have q1f1 := q1.free 1
      have q1c2 := q1.cell 2
      have q1f2 := q1.free 2
      have q1c3 := q1.cell 3
      have q1f3 := q1.free 3
      have q1l := q1.lt
      simp at q1c0 q1c1 q1c2 q1c3
      go_wp2
      clear gP q1c0 q1f0 q1c1 q1f1 q1c2 q1f2 q1c3 q1f3 q1l
      go_loopw [83] (fun i wr => ∃ i2 : Nat, i2 ≤ 2 ∧ i = .int .i64 i2 ∧ Blk wr w.heap.size #[.int .i64 c.room, .int .i64 c.helium, .int .i64 c.air, .int .i64 c.wlo, .int .i64 c.whi, .int .i64 c.leak, .int .i64 c.owed] 25 ∧ Blk wr (w.heap.size + 1) #[.int .i64 a.plo, .int .i64 a.phi, .int .i64 a.tlo, .int .i64 a.thi] 27 ∧ Blk wr sv #[.int .i64 VL, .int .i64 VH] 23 ∧ Blk wr sl #[.int .i64 LL, .int .i64 LH] 23 ∧ Blk wr su #[.int .i64 UL, .int .i64 UH] 23 ∧ Blk wr s12 #[.bool (lowU c a 0 (4 * i1 + 2 * i2)), .bool (lowU c a 1 (4 * i1 + 2 * i2)), .bool (lowU c a 2 (4 * i1 + 2 * i2))] 118 ∧ Blk wr (s12 + 1) #[.bool (highU c a 0 (4 * i1 + 2 * i2)), .bool (highU c a 1 (4 * i1 + 2 * i2)), .bool (highU c a 2 (4 * i1 + 2 * i2))] 118 ∧ Blk wr m1 #[.int .i64 a.plo, .int .i64 a.phi] 3 ∧ Blk wr Z1.heap.size #[.int .i64 a.tlo, .int .i64 a.thi] 3 ∧ Kept w wr) (fun i _ => 2 - (intOf i).toNat)
      case atStart => exact ⟨0, by omega, rfl, by exact blkd, by exact blkd, by exact blkd, by exact blkd, by exact blkd, by rw [show 4 * i1 + 2 * 0 = 4 * i1 by omega]; exact blkd, by rw [show 4 * i1 + 2 * 0 = 4 * i1 by omega]; exact blkd, by exact blkd, by exact blkd, by exact kpt⟩
      case round =>
        clear q0 q1 qv ql qu qlo qhi r1 hk
        obtain ⟨i2, h2, rfl, q0, q1, qv, ql, qu, qlo, qhi, r1, r2, hk⟩ := hrel
        by_cases hlt2 : i2 < 2
        · obtain ⟨Z2, rfl⟩ : ∃ Z2 : World, Z2 = wr := ⟨_, rfl⟩
          have t7 := r2.lt
          obtain ⟨T, hT⟩ : ∃ n, n = teT a i2 := ⟨_, rfl⟩
          have gT : Z2.cell? ⟨Z1.heap.size, i2, none⟩ = some (.int .i64 T) := by
            rw [hT]
            rcases (show i2 = 0 ∨ i2 = 1 by omega) with rfl | rfl
            · exact (r2.cell 0).trans rfl
            · exact (r2.cell 1).trans rfl
          have bT : 1500 ≤ T ∧ T ≤ 3500 := by rw [hT]; unfold teT; split <;> omega
          have kT0 : (0 : Int) ≤ (i2 : Int) := by omega
          have kT1 : (i2 : Int) < 2 := by omega
          have HT_ := Lib.hid hT
          clear hT
          have q0c0 := q0.cell 0
          have q0f0 := q0.free 0
          have q0c1 := q0.cell 1
          have q0f1 := q0.free 1
          have q0c2 := q0.cell 2
          have q0f2 := q0.free 2
          have q0c3 := q0.cell 3
          have q0f3 := q0.free 3
          have q0c4 := q0.cell 4
          have q0f4 := q0.free 4
          have q0c5 := q0.cell 5
          have q0f5 := q0.free 5
          have q0c6 := q0.cell 6
          have q0f6 := q0.free 6
          have q0l := q0.lt
          simp at q0c0 q0c1 q0c2 q0c3 q0c4 q0c5 q0c6
          go_wp2
          clear gT q0c0 q0f0 q0c1 q0f1 q0c2 q0f2 q0c3 q0f3 q0c4 q0f4 q0c5 q0f5 q0c6 q0f6 q0l
          go_loopw [95] (fun i wr => ∃ i3 : Nat, i3 ≤ 2 ∧ i = .int .i64 i3 ∧ Blk wr w.heap.size #[.int .i64 c.room, .int .i64 c.helium, .int .i64 c.air, .int .i64 c.wlo, .int .i64 c.whi, .int .i64 c.leak, .int .i64 c.owed] 25 ∧ Blk wr (w.heap.size + 1) #[.int .i64 a.plo, .int .i64 a.phi, .int .i64 a.tlo, .int .i64 a.thi] 27 ∧ Blk wr sv #[.int .i64 VL, .int .i64 VH] 23 ∧ Blk wr sl #[.int .i64 LL, .int .i64 LH] 23 ∧ Blk wr su #[.int .i64 UL, .int .i64 UH] 23 ∧ Blk wr s12 #[.bool (lowU c a 0 (4 * i1 + 2 * i2 + i3)), .bool (lowU c a 1 (4 * i1 + 2 * i2 + i3)), .bool (lowU c a 2 (4 * i1 + 2 * i2 + i3))] 118 ∧ Blk wr (s12 + 1) #[.bool (highU c a 0 (4 * i1 + 2 * i2 + i3)), .bool (highU c a 1 (4 * i1 + 2 * i2 + i3)), .bool (highU c a 2 (4 * i1 + 2 * i2 + i3))] 118 ∧ Blk wr m1 #[.int .i64 a.plo, .int .i64 a.phi] 3 ∧ Blk wr Z1.heap.size #[.int .i64 a.tlo, .int .i64 a.thi] 3 ∧ Blk wr Z2.heap.size #[.int .i64 c.wlo, .int .i64 c.whi] 3 ∧ Kept w wr) (fun i _ => 2 - (intOf i).toNat)
          case atStart => exact ⟨0, by omega, rfl, by exact blkd, by exact blkd, by exact blkd, by exact blkd, by exact blkd, by rw [show 4 * i1 + 2 * i2 + 0 = 4 * i1 + 2 * i2 by omega]; exact blkd, by rw [show 4 * i1 + 2 * i2 + 0 = 4 * i1 + 2 * i2 by omega]; exact blkd, by exact blkd, by exact blkd, by exact blkd, by exact kpt⟩
          case round =>
            clear q0 q1 qv ql qu qlo qhi r1 r2 hk
            obtain ⟨i3, h3, rfl, q0, q1, qv, ql, qu, qlo, qhi, r1, r2, r3, hk⟩ := hrel
            by_cases hlt3 : i3 < 2
            · obtain ⟨Z3, rfl⟩ : ∃ Z3 : World, Z3 = wr := ⟨_, rfl⟩
              have t8 := r3.lt
              obtain ⟨W_, hW_⟩ : ∃ n, n = waT c i3 := ⟨_, rfl⟩
              have gW_ : Z3.cell? ⟨Z2.heap.size, i3, none⟩ = some (.int .i64 W_) := by
                rw [hW_]
                rcases (show i3 = 0 ∨ i3 = 1 by omega) with rfl | rfl
                · exact (r3.cell 0).trans rfl
                · exact (r3.cell 1).trans rfl
              have bW_ : -300 ≤ W_ ∧ W_ ≤ 300 := by rw [hW_]; unfold waT; split <;> omega
              have kW_0 : (0 : Int) ≤ (i3 : Int) := by omega
              have kW_1 : (i3 : Int) < 2 := by omega
              have HW_ := Lib.hid hW_
              clear hW_
              obtain ⟨A0, hA0⟩ : ∃ n, N * (T + W_) = n := ⟨_, rfl⟩
              obtain ⟨A1, hA1⟩ : ∃ n, 29 * N * (T + W_) - T * (4 * c.helium + 29 * c.air) = n := ⟨_, rfl⟩
              have m7 := mul_bd (A := 20000000) (B := 3800) (x := N) (y := T + W_) (by omega) (by omega) (by omega) (by omega)
              have m8 := mul_bd (A := 580000000) (B := 3800) (x := 29 * N) (y := T + W_) (by omega) (by omega) (by omega) (by omega)
              have m9 := mul_bd (A := 3500) (B := 330000000) (x := T) (y := 4 * c.helium + 29 * c.air) (by omega) (by omega) (by omega) (by omega)
              have w2 := i64_inH (n := 29 * N) (by omega)
              have w3 := i64_inH (n := T + W_) (by omega)
              have w4 := i64_inH (n := 29 * N * (T + W_)) (by omega)
              have w5 := i64_inH (n := 4 * c.helium) (by omega)
              have w6 := i64_inH (n := 29 * c.air) (by omega)
              have w7 := i64_inH (n := 4 * c.helium + 29 * c.air) (by omega)
              have w8 := i64_inH (n := T * (4 * c.helium + 29 * c.air)) (by omega)
              have w9 := i64_inH (n := A1) (by omega)
              have w10 := i64_inH (n := A0) (by omega)
              have HM0l := Lib.hid (show -9223372036854775808 ≤ (VL + 1) * P ∧ (VL + 1) * P ≤ 9223372036854775807 from by have := mul_bd (A := 76000000001) (B := 12000) (x := (VL + 1)) (y := P) (by omega) (by omega) (by omega) (by omega); omega)
              have HM0h := Lib.hid (show -9223372036854775808 ≤ (VH - 1) * P ∧ (VH - 1) * P ≤ 9223372036854775807 from by have := mul_bd (A := 76000000001) (B := 12000) (x := (VH - 1)) (y := P) (by omega) (by omega) (by omega) (by omega); omega)
              have HM1l := Lib.hid (show -9223372036854775808 ≤ (LL + 1) * T ∧ (LL + 1) * T ≤ 9223372036854775807 from by have := mul_bd (A := 200000000001) (B := 3500) (x := (LL + 1)) (y := T) (by omega) (by omega) (by omega) (by omega); omega)
              have HM1h := Lib.hid (show -9223372036854775808 ≤ (LH - 1) * T ∧ (LH - 1) * T ≤ 9223372036854775807 from by have := mul_bd (A := 200000000001) (B := 3500) (x := (LH - 1)) (y := T) (by omega) (by omega) (by omega) (by omega); omega)
              have HM2l := Lib.hid (show -9223372036854775808 ≤ (UL + 1) * c.room ∧ (UL + 1) * c.room ≤ 9223372036854775807 from by have := mul_bd (A := 76000000001) (B := 10000000) (x := (UL + 1)) (y := c.room) (by omega) (by omega) (by omega) (by omega); omega)
              have HM2h := Lib.hid (show -9223372036854775808 ≤ (UH - 1) * c.room ∧ (UH - 1) * c.room ≤ 9223372036854775807 from by have := mul_bd (A := 76000000001) (B := 10000000) (x := (UH - 1)) (y := c.room) (by omega) (by omega) (by omega) (by omega); omega)
              obtain ⟨q, hq⟩ : ∃ q, q = 4 * i1 + 2 * i2 + i3 := ⟨_, rfl⟩
              rw [← hq] at qlo qhi
              have HL0 := Lib.hid (show lowB c a 0 q = decide (A0 < (VL + 1) * P) by rw [hq, lowB_at 0 hlt2 hlt3, ← HT_.out, ← HW_.out, ← HP_.out, show numT c 0 T W_ = A0 from by rw [← hA0, ← hN]; rfl, show denT c 0 P T = P from rfl, show loT c a 0 = VL from HE.out.1.symm])
              have HH0 := Lib.hid (show highB c a 0 q = decide ((VH - 1) * P < A0) by rw [hq, highB_at 0 hlt2 hlt3, ← HT_.out, ← HW_.out, ← HP_.out, show numT c 0 T W_ = A0 from by rw [← hA0, ← hN]; rfl, show denT c 0 P T = P from rfl, show hiT c a 0 = VH from HE.out.2.1.symm])
              have HL1 := Lib.hid (show lowB c a 1 q = decide (A1 < (LL + 1) * T) by rw [hq, lowB_at 1 hlt2 hlt3, ← HT_.out, ← HW_.out, ← HP_.out, show numT c 1 T W_ = A1 from by rw [← hA1, ← hN]; rfl, show denT c 1 P T = T from rfl, show loT c a 1 = LL from HE.out.2.2.1.symm])
              have HH1 := Lib.hid (show highB c a 1 q = decide ((LH - 1) * T < A1) by rw [hq, highB_at 1 hlt2 hlt3, ← HT_.out, ← HW_.out, ← HP_.out, show numT c 1 T W_ = A1 from by rw [← hA1, ← hN]; rfl, show denT c 1 P T = T from rfl, show hiT c a 1 = LH from HE.out.2.2.2.1.symm])
              have HL2 := Lib.hid (show lowB c a 2 q = decide (A0 < (UL + 1) * c.room) by rw [hq, lowB_at 2 hlt2 hlt3, ← HT_.out, ← HW_.out, ← HP_.out, show numT c 2 T W_ = A0 from by rw [← hA0, ← hN]; rfl, show denT c 2 P T = c.room from rfl, show loT c a 2 = UL from HE.out.2.2.2.2.1.symm])
              have HH2 := Lib.hid (show highB c a 2 q = decide ((UH - 1) * c.room < A0) by rw [hq, highB_at 2 hlt2 hlt3, ← HT_.out, ← HW_.out, ← HP_.out, show numT c 2 T W_ = A0 from by rw [← hA0, ← hN]; rfl, show denT c 2 P T = c.room from rfl, show hiT c a 2 = UH from HE.out.2.2.2.2.2.symm])
              have M0 : ∀ j, midL c a q 0 j = lowU c a j q := fun j => by simp [midL]
              have M1 : ∀ j, midH c a q 0 j = highU c a j q := fun j => by simp [midH]
              have HM0 := Lib.hid M0
              have HM1 := Lib.hid M1
              have HQ := Lib.hid hq
              clear m7 m8 m9 M0 M1 hq
              have q0c0 := q0.cell 0
              have q0f0 := q0.free 0
              have q0c1 := q0.cell 1
              have q0f1 := q0.free 1
              have q0c2 := q0.cell 2
              have q0f2 := q0.free 2
              have q0c3 := q0.cell 3
              have q0f3 := q0.free 3
              have q0c4 := q0.cell 4
              have q0f4 := q0.free 4
              have q0c5 := q0.cell 5
              have q0f5 := q0.free 5
              have q0c6 := q0.cell 6
              have q0f6 := q0.free 6
              have q0l := q0.lt
              simp at q0c0 q0c1 q0c2 q0c3 q0c4 q0c5 q0c6
              go_wp2
              clear w2 w3 w4 w5 w6 w7 w8 w9 w10 hA0 hA1 gW_ q0c0 q0f0 q0c1 q0f1 q0c2 q0f2 q0c3 q0f3 q0c4 q0f4 q0c5 q0f5 q0c6 q0f6 q0l
              go_loopw [135] (fun i wr => ∃ i4 : Nat, i4 ≤ 3 ∧ i = .int .i64 i4 ∧ Blk wr w.heap.size #[.int .i64 c.room, .int .i64 c.helium, .int .i64 c.air, .int .i64 c.wlo, .int .i64 c.whi, .int .i64 c.leak, .int .i64 c.owed] 25 ∧ Blk wr (w.heap.size + 1) #[.int .i64 a.plo, .int .i64 a.phi, .int .i64 a.tlo, .int .i64 a.thi] 27 ∧ Blk wr sv #[.int .i64 VL, .int .i64 VH] 23 ∧ Blk wr sl #[.int .i64 LL, .int .i64 LH] 23 ∧ Blk wr su #[.int .i64 UL, .int .i64 UH] 23 ∧ Blk wr s12 #[.bool (midL c a q i4 0), .bool (midL c a q i4 1), .bool (midL c a q i4 2)] 118 ∧ Blk wr (s12 + 1) #[.bool (midH c a q i4 0), .bool (midH c a q i4 1), .bool (midH c a q i4 2)] 118 ∧ Blk wr m1 #[.int .i64 a.plo, .int .i64 a.phi] 3 ∧ Blk wr Z1.heap.size #[.int .i64 a.tlo, .int .i64 a.thi] 3 ∧ Blk wr Z2.heap.size #[.int .i64 c.wlo, .int .i64 c.whi] 3 ∧ Blk wr Z3.heap.size #[.int .i64 A0, .int .i64 P, .int .i64 0, .int .i64 A1, .int .i64 T, .int .i64 0, .int .i64 A0, .int .i64 c.room, .int .i64 0] 119 ∧ Kept w wr) (fun i _ => 3 - (intOf i).toNat)
              case atStart => exact ⟨0, by omega, rfl, by exact blkd, by exact blkd, by exact blkd, by exact blkd, by exact blkd, by rw [HM0.out, HM0.out, HM0.out]; exact blkd, by rw [HM1.out, HM1.out, HM1.out]; exact blkd, by exact blkd, by exact blkd, by exact blkd, by exact blkd, by exact kpt⟩
              case round =>
                clear q0 q1 qv ql qu qlo qhi r1 r2 r3 hk
                obtain ⟨i4, h4, rfl, q0, q1, qv, ql, qu, qlo, qhi, r1, r2, r3, r4, hk⟩ := hrel
                by_cases hlt4 : i4 < 3
                · rcases (show i4 = 0 ∨ i4 = 1 ∨ i4 = 2 by omega) with rfl | rfl | rfl
                  · obtain ⟨B0, hB0⟩ : ∃ b, b = midL c a q 0 0 := ⟨_, rfl⟩
                    obtain ⟨D0, hD0⟩ : ∃ b, b = midH c a q 0 0 := ⟨_, rfl⟩
                    obtain ⟨B1, hB1⟩ : ∃ b, b = midL c a q 0 1 := ⟨_, rfl⟩
                    obtain ⟨D1, hD1⟩ : ∃ b, b = midH c a q 0 1 := ⟨_, rfl⟩
                    obtain ⟨B2, hB2⟩ : ∃ b, b = midL c a q 0 2 := ⟨_, rfl⟩
                    obtain ⟨D2, hD2⟩ : ∃ b, b = midH c a q 0 2 := ⟨_, rfl⟩
                    rw [← hB0, ← hB1, ← hB2] at qlo
                    rw [← hD0, ← hD1, ← hD2] at qhi
                    have HB0 := Lib.hid (show midL c a q 1 0 = (B0 || decide (A0 < (VL + 1) * P)) by rw [hB0]; simp only [midL, Nat.lt_irrefl, if_false, Nat.zero_lt_one, Nat.lt_add_one, if_true, lowU_succ, HL0.out])
                    have HD0 := Lib.hid (show midH c a q 1 0 = (D0 || decide ((VH - 1) * P < A0)) by rw [hD0]; simp only [midH, Nat.lt_irrefl, if_false, Nat.zero_lt_one, Nat.lt_add_one, if_true, highU_succ, HH0.out])
                    have HB1 := Lib.hid (show midL c a q 1 1 = B1 by rw [hB1]; rfl)
                    have HD1 := Lib.hid (show midH c a q 1 1 = D1 by rw [hD1]; rfl)
                    have HB2 := Lib.hid (show midL c a q 1 2 = B2 by rw [hB2]; rfl)
                    have HD2 := Lib.hid (show midH c a q 1 2 = D2 by rw [hD2]; rfl)
                    clear hB0 hB1 hB2 hD0 hD1 hD2
                    have qloc0 := qlo.cell 0
                    have qlof0 := qlo.free 0
                    have qloc1 := qlo.cell 1
                    have qlof1 := qlo.free 1
                    have qloc2 := qlo.cell 2
                    have qlof2 := qlo.free 2
                    have qlol := qlo.lt
                    simp at qloc0 qloc1 qloc2
                    have qhic0 := qhi.cell 0
                    have qhif0 := qhi.free 0
                    have qhic1 := qhi.cell 1
                    have qhif1 := qhi.free 1
                    have qhic2 := qhi.cell 2
                    have qhif2 := qhi.free 2
                    have qhil := qhi.lt
                    simp at qhic0 qhic1 qhic2
                    have qvc0 := qv.cell 0
                    have qvf0 := qv.free 0
                    have qvc1 := qv.cell 1
                    have qvf1 := qv.free 1
                    have qvl := qv.lt
                    simp at qvc0 qvc1
                    have r4c0 := r4.cell 0
                    have r4f0 := r4.free 0
                    have r4c1 := r4.cell 1
                    have r4f1 := r4.free 1
                    have r4c2 := r4.cell 2
                    have r4f2 := r4.free 2
                    have r4c3 := r4.cell 3
                    have r4f3 := r4.free 3
                    have r4c4 := r4.cell 4
                    have r4f4 := r4.free 4
                    have r4c5 := r4.cell 5
                    have r4f5 := r4.free 5
                    have r4c6 := r4.cell 6
                    have r4f6 := r4.free 6
                    have r4c7 := r4.cell 7
                    have r4f7 := r4.free 7
                    have r4c8 := r4.cell 8
                    have r4f8 := r4.free 8
                    have r4l := r4.lt
                    simp at r4c0 r4c1 r4c2 r4c3 r4c4 r4c5 r4c6 r4c7 r4c8
                    have qlc0 := ql.cell 0
                    have qlf0 := ql.free 0
                    have qlc1 := ql.cell 1
                    have qlf1 := ql.free 1
                    have qll := ql.lt
                    simp at qlc0 qlc1
                    have quc0 := qu.cell 0
                    have quf0 := qu.free 0
                    have quc1 := qu.cell 1
                    have quf1 := qu.free 1
                    have qul := qu.lt
                    simp at quc0 quc1
                    obtain ⟨G1, hG1⟩ : ∃ n, (VL + 1) * P = n := ⟨_, rfl⟩
                    obtain ⟨G2, hG2⟩ : ∃ n, (VH - 1) * P = n := ⟨_, rfl⟩
                    rw [hG1] at HB0
                    rw [hG2] at HD0
                    have y1 := i64_inH (n := VL + 1) (by omega)
                    have y2 := i64_inH (n := VH - 1) (by omega)
                    have y3 := i64_inH (n := G1) (by rw [← hG1]; exact HM0l.out)
                    have y4 := i64_inH (n := G2) (by rw [← hG2]; exact HM0h.out)
                    have xa0 : s12 < wr.heap.size + 1 := by omega
                    have xa1 : s12 < wr.heap.size + 1 + 1 := by omega
                    have xa2 : s12 < wr.heap.size + 2 := by omega
                    have xa3 : s12 ≤ wr.heap.size := by omega
                    have xa4 : s12 ≤ wr.heap.size + 1 := by omega
                    have xb0 : s12 + 1 < wr.heap.size + 1 := by omega
                    have xb1 : s12 + 1 < wr.heap.size + 1 + 1 := by omega
                    have xb2 : s12 + 1 < wr.heap.size + 2 := by omega
                    have xb3 : s12 + 1 ≤ wr.heap.size := by omega
                    have xb4 : s12 + 1 ≤ wr.heap.size + 1 := by omega
                    cases B0 <;> cases D0
                    all_goals
                      simp only [Bool.false_or, Bool.true_or] at HB0 HD0
                      go_wp2
                      go_round
                      case rel => exact ⟨1, by omega, by go_num, by exact blky, by exact blky, by exact blky, by exact blky, by exact blky, by rw [HB0.out, HB1.out, HB2.out]; exact blky, by rw [HD0.out, HD1.out, HD2.out]; exact blky, by exact blky, by exact blky, by exact blky, by exact blky, by exact kpt⟩
                      case measure => simp [intOf]
                  · obtain ⟨B0, hB0⟩ : ∃ b, b = midL c a q 1 0 := ⟨_, rfl⟩
                    obtain ⟨D0, hD0⟩ : ∃ b, b = midH c a q 1 0 := ⟨_, rfl⟩
                    obtain ⟨B1, hB1⟩ : ∃ b, b = midL c a q 1 1 := ⟨_, rfl⟩
                    obtain ⟨D1, hD1⟩ : ∃ b, b = midH c a q 1 1 := ⟨_, rfl⟩
                    obtain ⟨B2, hB2⟩ : ∃ b, b = midL c a q 1 2 := ⟨_, rfl⟩
                    obtain ⟨D2, hD2⟩ : ∃ b, b = midH c a q 1 2 := ⟨_, rfl⟩
                    rw [← hB0, ← hB1, ← hB2] at qlo
                    rw [← hD0, ← hD1, ← hD2] at qhi
                    have HB0 := Lib.hid (show midL c a q 2 0 = B0 by rw [hB0]; rfl)
                    have HD0 := Lib.hid (show midH c a q 2 0 = D0 by rw [hD0]; rfl)
                    have HB1 := Lib.hid (show midL c a q 2 1 = (B1 || decide (A1 < (LL + 1) * T)) by rw [hB1]; simp only [midL, Nat.lt_irrefl, if_false, Nat.zero_lt_one, Nat.lt_add_one, if_true, lowU_succ, HL1.out])
                    have HD1 := Lib.hid (show midH c a q 2 1 = (D1 || decide ((LH - 1) * T < A1)) by rw [hD1]; simp only [midH, Nat.lt_irrefl, if_false, Nat.zero_lt_one, Nat.lt_add_one, if_true, highU_succ, HH1.out])
                    have HB2 := Lib.hid (show midL c a q 2 2 = B2 by rw [hB2]; rfl)
                    have HD2 := Lib.hid (show midH c a q 2 2 = D2 by rw [hD2]; rfl)
                    clear hB0 hB1 hB2 hD0 hD1 hD2
                    have qloc0 := qlo.cell 0
                    have qlof0 := qlo.free 0
                    have qloc1 := qlo.cell 1
                    have qlof1 := qlo.free 1
                    have qloc2 := qlo.cell 2
                    have qlof2 := qlo.free 2
                    have qlol := qlo.lt
                    simp at qloc0 qloc1 qloc2
                    have qhic0 := qhi.cell 0
                    have qhif0 := qhi.free 0
                    have qhic1 := qhi.cell 1
                    have qhif1 := qhi.free 1
                    have qhic2 := qhi.cell 2
                    have qhif2 := qhi.free 2
                    have qhil := qhi.lt
                    simp at qhic0 qhic1 qhic2
                    have qlc0 := ql.cell 0
                    have qlf0 := ql.free 0
                    have qlc1 := ql.cell 1
                    have qlf1 := ql.free 1
                    have qll := ql.lt
                    simp at qlc0 qlc1
                    have r4c0 := r4.cell 0
                    have r4f0 := r4.free 0
                    have r4c1 := r4.cell 1
                    have r4f1 := r4.free 1
                    have r4c2 := r4.cell 2
                    have r4f2 := r4.free 2
                    have r4c3 := r4.cell 3
                    have r4f3 := r4.free 3
                    have r4c4 := r4.cell 4
                    have r4f4 := r4.free 4
                    have r4c5 := r4.cell 5
                    have r4f5 := r4.free 5
                    have r4c6 := r4.cell 6
                    have r4f6 := r4.free 6
                    have r4c7 := r4.cell 7
                    have r4f7 := r4.free 7
                    have r4c8 := r4.cell 8
                    have r4f8 := r4.free 8
                    have r4l := r4.lt
                    simp at r4c0 r4c1 r4c2 r4c3 r4c4 r4c5 r4c6 r4c7 r4c8
                    have qvc0 := qv.cell 0
                    have qvf0 := qv.free 0
                    have qvc1 := qv.cell 1
                    have qvf1 := qv.free 1
                    have qvl := qv.lt
                    simp at qvc0 qvc1
                    have quc0 := qu.cell 0
                    have quf0 := qu.free 0
                    have quc1 := qu.cell 1
                    have quf1 := qu.free 1
                    have qul := qu.lt
                    simp at quc0 quc1
                    obtain ⟨G1, hG1⟩ : ∃ n, (LL + 1) * T = n := ⟨_, rfl⟩
                    obtain ⟨G2, hG2⟩ : ∃ n, (LH - 1) * T = n := ⟨_, rfl⟩
                    rw [hG1] at HB1
                    rw [hG2] at HD1
                    have y1 := i64_inH (n := LL + 1) (by omega)
                    have y2 := i64_inH (n := LH - 1) (by omega)
                    have y3 := i64_inH (n := G1) (by rw [← hG1]; exact HM1l.out)
                    have y4 := i64_inH (n := G2) (by rw [← hG2]; exact HM1h.out)
                    have xa0 : s12 < wr.heap.size + 1 := by omega
                    have xa1 : s12 < wr.heap.size + 1 + 1 := by omega
                    have xa2 : s12 < wr.heap.size + 2 := by omega
                    have xa3 : s12 ≤ wr.heap.size := by omega
                    have xa4 : s12 ≤ wr.heap.size + 1 := by omega
                    have xb0 : s12 + 1 < wr.heap.size + 1 := by omega
                    have xb1 : s12 + 1 < wr.heap.size + 1 + 1 := by omega
                    have xb2 : s12 + 1 < wr.heap.size + 2 := by omega
                    have xb3 : s12 + 1 ≤ wr.heap.size := by omega
                    have xb4 : s12 + 1 ≤ wr.heap.size + 1 := by omega
                    cases B1 <;> cases D1
                    all_goals
                      simp only [Bool.false_or, Bool.true_or] at HB1 HD1
                      go_wp2
                      go_round
                      case rel => exact ⟨2, by omega, by go_num, by exact blky, by exact blky, by exact blky, by exact blky, by exact blky, by rw [HB0.out, HB1.out, HB2.out]; exact blky, by rw [HD0.out, HD1.out, HD2.out]; exact blky, by exact blky, by exact blky, by exact blky, by exact blky, by exact kpt⟩
                      case measure => simp [intOf]
                  · obtain ⟨B0, hB0⟩ : ∃ b, b = midL c a q 2 0 := ⟨_, rfl⟩
                    obtain ⟨D0, hD0⟩ : ∃ b, b = midH c a q 2 0 := ⟨_, rfl⟩
                    obtain ⟨B1, hB1⟩ : ∃ b, b = midL c a q 2 1 := ⟨_, rfl⟩
                    obtain ⟨D1, hD1⟩ : ∃ b, b = midH c a q 2 1 := ⟨_, rfl⟩
                    obtain ⟨B2, hB2⟩ : ∃ b, b = midL c a q 2 2 := ⟨_, rfl⟩
                    obtain ⟨D2, hD2⟩ : ∃ b, b = midH c a q 2 2 := ⟨_, rfl⟩
                    rw [← hB0, ← hB1, ← hB2] at qlo
                    rw [← hD0, ← hD1, ← hD2] at qhi
                    have HB0 := Lib.hid (show midL c a q 3 0 = B0 by rw [hB0]; rfl)
                    have HD0 := Lib.hid (show midH c a q 3 0 = D0 by rw [hD0]; rfl)
                    have HB1 := Lib.hid (show midL c a q 3 1 = B1 by rw [hB1]; rfl)
                    have HD1 := Lib.hid (show midH c a q 3 1 = D1 by rw [hD1]; rfl)
                    have HB2 := Lib.hid (show midL c a q 3 2 = (B2 || decide (A0 < (UL + 1) * c.room)) by rw [hB2]; simp only [midL, Nat.lt_irrefl, if_false, Nat.zero_lt_one, Nat.lt_add_one, if_true, lowU_succ, HL2.out])
                    have HD2 := Lib.hid (show midH c a q 3 2 = (D2 || decide ((UH - 1) * c.room < A0)) by rw [hD2]; simp only [midH, Nat.lt_irrefl, if_false, Nat.zero_lt_one, Nat.lt_add_one, if_true, highU_succ, HH2.out])
                    clear hB0 hB1 hB2 hD0 hD1 hD2
                    have qloc0 := qlo.cell 0
                    have qlof0 := qlo.free 0
                    have qloc1 := qlo.cell 1
                    have qlof1 := qlo.free 1
                    have qloc2 := qlo.cell 2
                    have qlof2 := qlo.free 2
                    have qlol := qlo.lt
                    simp at qloc0 qloc1 qloc2
                    have qhic0 := qhi.cell 0
                    have qhif0 := qhi.free 0
                    have qhic1 := qhi.cell 1
                    have qhif1 := qhi.free 1
                    have qhic2 := qhi.cell 2
                    have qhif2 := qhi.free 2
                    have qhil := qhi.lt
                    simp at qhic0 qhic1 qhic2
                    have quc0 := qu.cell 0
                    have quf0 := qu.free 0
                    have quc1 := qu.cell 1
                    have quf1 := qu.free 1
                    have qul := qu.lt
                    simp at quc0 quc1
                    have r4c0 := r4.cell 0
                    have r4f0 := r4.free 0
                    have r4c1 := r4.cell 1
                    have r4f1 := r4.free 1
                    have r4c2 := r4.cell 2
                    have r4f2 := r4.free 2
                    have r4c3 := r4.cell 3
                    have r4f3 := r4.free 3
                    have r4c4 := r4.cell 4
                    have r4f4 := r4.free 4
                    have r4c5 := r4.cell 5
                    have r4f5 := r4.free 5
                    have r4c6 := r4.cell 6
                    have r4f6 := r4.free 6
                    have r4c7 := r4.cell 7
                    have r4f7 := r4.free 7
                    have r4c8 := r4.cell 8
                    have r4f8 := r4.free 8
                    have r4l := r4.lt
                    simp at r4c0 r4c1 r4c2 r4c3 r4c4 r4c5 r4c6 r4c7 r4c8
                    have qvc0 := qv.cell 0
                    have qvf0 := qv.free 0
                    have qvc1 := qv.cell 1
                    have qvf1 := qv.free 1
                    have qvl := qv.lt
                    simp at qvc0 qvc1
                    have qlc0 := ql.cell 0
                    have qlf0 := ql.free 0
                    have qlc1 := ql.cell 1
                    have qlf1 := ql.free 1
                    have qll := ql.lt
                    simp at qlc0 qlc1
                    obtain ⟨G1, hG1⟩ : ∃ n, (UL + 1) * c.room = n := ⟨_, rfl⟩
                    obtain ⟨G2, hG2⟩ : ∃ n, (UH - 1) * c.room = n := ⟨_, rfl⟩
                    rw [hG1] at HB2
                    rw [hG2] at HD2
                    have y1 := i64_inH (n := UL + 1) (by omega)
                    have y2 := i64_inH (n := UH - 1) (by omega)
                    have y3 := i64_inH (n := G1) (by rw [← hG1]; exact HM2l.out)
                    have y4 := i64_inH (n := G2) (by rw [← hG2]; exact HM2h.out)
                    have xa0 : s12 < wr.heap.size + 1 := by omega
                    have xa1 : s12 < wr.heap.size + 1 + 1 := by omega
                    have xa2 : s12 < wr.heap.size + 2 := by omega
                    have xa3 : s12 ≤ wr.heap.size := by omega
                    have xa4 : s12 ≤ wr.heap.size + 1 := by omega
                    have xb0 : s12 + 1 < wr.heap.size + 1 := by omega
                    have xb1 : s12 + 1 < wr.heap.size + 1 + 1 := by omega
                    have xb2 : s12 + 1 < wr.heap.size + 2 := by omega
                    have xb3 : s12 + 1 ≤ wr.heap.size := by omega
                    have xb4 : s12 + 1 ≤ wr.heap.size + 1 := by omega
                    cases B2 <;> cases D2
                    all_goals
                      simp only [Bool.false_or, Bool.true_or] at HB2 HD2
                      go_wp2
                      go_round
                      case rel => exact ⟨3, by omega, by go_num, by exact blky, by exact blky, by exact blky, by exact blky, by exact blky, by rw [HB0.out, HB1.out, HB2.out]; exact blky, by rw [HD0.out, HD1.out, HD2.out]; exact blky, by exact blky, by exact blky, by exact blky, by exact blky, by exact kpt⟩
                      case measure => simp [intOf]
                · obtain rfl : i4 = 3 := by omega
                  go_wp2
                  go_round
                  case rel => exact ⟨i3 + 1, by omega, by go_num, by exact blkd, by exact blkd, by exact blkd, by exact blkd, by exact blkd, by rw [show 4 * i1 + 2 * i2 + (i3 + 1) = q + 1 by rw [HQ.out]; omega]; exact blkd, by rw [show 4 * i1 + 2 * i2 + (i3 + 1) = q + 1 by rw [HQ.out]; omega]; exact blkd, by exact blkd, by exact blkd, by exact blkd, by exact kpt⟩
                  case measure => simp [intOf]; omega
            · obtain rfl : i3 = 2 := by omega
              go_wp2
              go_round
              case rel => exact ⟨i2 + 1, by omega, by go_num, by exact blkd, by exact blkd, by exact blkd, by exact blkd, by exact blkd, by rw [show 4 * i1 + 2 * (i2 + 1) = 4 * i1 + 2 * i2 + 2 by omega]; exact blkd, by rw [show 4 * i1 + 2 * (i2 + 1) = 4 * i1 + 2 * i2 + 2 by omega]; exact blkd, by exact blkd, by exact blkd, by exact kpt⟩
              case measure => simp [intOf]; omega
        · obtain rfl : i2 = 2 := by omega
          go_wp2
          go_round
          case rel => exact ⟨i1 + 1, by omega, by go_num, by exact blkd, by exact blkd, by exact blkd, by exact blkd, by exact blkd, by rw [show 4 * (i1 + 1) = 4 * i1 + 2 * 2 by omega]; exact blkd, by rw [show 4 * (i1 + 1) = 4 * i1 + 2 * 2 by omega]; exact blkd, by exact blkd, by exact kpt⟩
          case measure => simp [intOf]; omega
    · obtain rfl : i1 = 2 := by omega
      have qloc0 := qlo.cell 0
      have qlof0 := qlo.free 0
      have qloc1 := qlo.cell 1
      have qlof1 := qlo.free 1
      have qloc2 := qlo.cell 2
      have qlof2 := qlo.free 2
      have qlol := qlo.lt
      simp at qloc0 qloc1 qloc2
      have qhic0 := qhi.cell 0
      have qhif0 := qhi.free 0
      have qhic1 := qhi.cell 1
      have qhif1 := qhi.free 1
      have qhic2 := qhi.cell 2
      have qhif2 := qhi.free 2
      have qhil := qhi.lt
      simp at qhic0 qhic1 qhic2
      obtain ⟨⟨z1, z2, z3⟩, z4, z5, z6⟩ := HT.out
      rw [z1] at qloc0
      rw [z2] at qloc1
      rw [z3] at qloc2
      rw [z4] at qhic0
      rw [z5] at qhic1
      rw [z6] at qhic2
      clear z1 z2 z3 z4 z5 z6
      have q118 := fun w => eq_true3 w
      go_wp2
      go_ret
      exact ⟨rfl, by exact kpt⟩

theorem law_GasTight (c : Cell) (a : Air) (w : World) : Calls Try.prog 13 #[.agg #[.int .i64 c.room, .int .i64 c.helium, .int .i64 c.air, .int .i64 c.wlo, .int .i64 c.whi, .int .i64 c.leak, .int .i64 c.owed], .agg #[.int .i64 a.plo, .int .i64 a.phi, .int .i64 a.tlo, .int .i64 a.thi]] w fun e w' => e = .returned (.bool true) ∧ Kept w w' := by
  cases hc : cellB c
  · exact law_GasTight_bad c a w 31 (.inl rfl) (by simp [asked, hc])
  · cases ha : airB a
    · exact law_GasTight_bad c a w 30 (.inr rfl) (by simp [asked, hc, checkAir, ha])
    · exact law_GasTight_ok c a w hc ha

end Go.Proofs.Ytemafanncejeiaa

/-
  GasTight, the statement: for every input the call returns true and leaves the input alone.
-/
namespace Go.Proofs.Ytemafanncejeiaa.gasTight
open Go.ChangeShapes Go.WideShapes Go.ChangeAt Go.RowKit Bal Bal.Trim Bal.Gas
open Go.ChangeMaps (open_string shut_string)
set_option linter.unusedVariables false

theorem own : ownKnob Try.prog.godebug = none := by kernel_rfl
theorem laidOut : laidOutB Try.prog = true := by kernel_rfl

set_option maxRecDepth 100000 in
theorem lifted (os : Os) (started : os.Started) (H : Type) (enc : TypeId × Value → H) :
    ReturnsInHanded {} Try.checked os 13 .any (Rows.gasTightSpec.pre6 enc Try.prog Try.f13 Rows.gasTightRow.domain false) (Rows.gasTightSpec.post enc Try.prog Try.f13 false true false false) := by
  refine returnsInHanded_of_change (C := Try.checked) own started (by kernel_rfl) Try.func13
    (ChangeSpec.witness6 (enc := enc) (C := Try.checked) false ⟨#[], #[.agg #[.int .i64 0, .int .i64 0, .int .i64 0, .int .i64 0, .int .i64 0, .int .i64 0, .int .i64 0], .agg #[.int .i64 0, .int .i64 0, .int .i64 0, .int .i64 0]], []⟩ 8 (by kernel_rfl) (by kernel_rfl) (by kernel_rfl) (by kernel_rfl)) ?_
  intro W base args ds gs before hval0 hW hcnd _
  have hval : ∀ (j : Nat) t v, Try.f13.params[j]? = some t → args[j]? = some v → Value.okWide Try.prog W .any base t v := hval0
  have hW' := hW
  obtain ⟨p, q, hA0, hV, rfl, hfz, hnd⟩ := hW
  have hA : DataW.TrodAll enc Try.prog W 0 (fun _ => true) true Try.f13.params.toList args.toList ds p := hA0
  rw [Try.params13] at hA hval
  obtain ⟨v0, vs0, d0, ds0, p0, q0, hargs, rfl, rfl, h0, r0⟩ := trodAll_cons hA
  obtain ⟨v1, vs1, d1, ds1, p1, q1, rfl, rfl, rfl, h1, r1⟩ := trodAll_cons r0
  obtain ⟨rfl, rfl, rfl⟩ := trodAll_nil r1
  obtain rfl : args = #[v0, v1] := by cases args; simp_all
  obtain ⟨rfl, rfl⟩ := trodVars_none hV
  have k0 := h0
  have lt0 : ∀ x ∈ p0, x.block < W.heap.size := by obtain ⟨m, hm⟩ := k0; exact DataW.trod_lt m _ _ _ hm
  obtain ⟨a0, rfl, wf0⟩ := open_agg (n := 5) (fun _ h => Cell.of_leaves h) Try.underlying25 (by kernel_rfl) (hval 0 25 v0 rfl rfl) h0
  have k1 := h1
  have lt1 : ∀ x ∈ p1, x.block < W.heap.size := by obtain ⟨m, hm⟩ := k1; exact DataW.trod_lt m _ _ _ hm
  obtain ⟨a1, rfl, wf1⟩ := open_agg (n := 5) (fun _ h => Air.of_leaves h) Try.underlying27 (by kernel_rfl) (hval 1 27 v1 rfl rfl) h1
  clear hA0 hval0
  refine (law_GasTight a0 a1 W).mono fun e W' ⟨he, bel⟩ => ?_
  subst he
  exact ⟨_, rfl, _, _, _, [], _, [], hW', trodAll_mk1 (shut_bool Try.underlying4 _), (trodAll_cons_mk (Below.trod laidOut (by kernel_rfl) (of_decide_eq_true (by kernel_rfl)) k0 bel lt0) (trodAll_cons_mk (Below.trod laidOut (by kernel_rfl) (of_decide_eq_true (by kernel_rfl)) k1 bel lt1) trodAll_mk0)), rfl, bel.frame _, fun h => by cases h⟩

theorem joined : joinedFacts Try.prog 13 Try.f13 Rows.gasTightSpec Rows.gasTightRow = true := by
  unfold joinedFacts
  rw [mayEnter_is, liftsFinal_is, make_is]
  kernel_rfl
theorem over : Rows.gasTightRow.holds Try.pinned (OpenSpec.ofChange Rows.gasTightSpec) :=
  OpenClaim.holds_of_wide 13 Try.f13 rfl rfl rfl rfl rfl rfl rfl ⟨rfl, rfl, rfl, rfl, rfl⟩ rfl rfl rfl rfl rfl (by kernel_rfl) Try.func13 joined
    (of_decide_eq_true (by kernel_rfl)) (by unfold Func.isWrapper; first | (rw [if_pos (by decide +kernel)]; kernel_rfl) | (rw [if_neg (by decide +kernel)]; exact ⟨rfl, rfl⟩))
    (fun os started H enc _ => lifted os started H enc)
end Go.Proofs.Ytemafanncejeiaa.gasTight

namespace Go.Proofs.Ytemafanncejeiaa
theorem gasTight_holds : Rows.GasTightSaid := gasTight.over
#print axioms gasTight_holds
end Go.Proofs.Ytemafanncejeiaa
