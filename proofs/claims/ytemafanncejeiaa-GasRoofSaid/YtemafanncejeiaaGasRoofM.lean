/-
  GasRoof, the statement: for every input the call returns true and leaves the input alone.
-/
import Derived.Test.YtemafanncejeiaaGasBaseM
import Derived.Deep.RegionHeld3
import Derived.Deep.DeepCutAuto
import Derived.Test.YtemafanncejeiaaRows
set_option linter.unusedVariables false
set_option linter.unusedSimpArgs false
namespace Bal.Gas
open Bal.Trim
/-! What the functions answer, errors and all. -/
theorem ifOk_ok (x : Int) : ifOk 0 x = x := rfl
end Bal.Gas

/-
  A warmer cell lifts no less: plain Lean, no program in sight.
-/
namespace Bal.Gas
open Bal.Trim
/-- a cell with so much more superheat -/
def warmC (c : Cell) (b : Int) : Cell := { c with wlo := min (c.wlo + b) 300, whi := min (c.whi + b) 300 }
def coldC (c : Cell) : Cell := { c with wlo := 0, whi := 0 }
theorem warm_ok {c : Cell} {b : Int} (hc : cellB c = true) (hb : 0 ≤ b) : cellB (warmC c b) = true := by
  have h := cellB_iff.1 hc
  refine cellB_iff.2 ?_
  simp only [warmC]
  omega
theorem cold_ok {c : Cell} (hc : cellB c = true) : cellB (coldC c) = true := by
  have h := cellB_iff.1 hc
  refine cellB_iff.2 ?_
  simp only [coldC]
  omega
theorem warm_lift {c : Cell} {a : Air} {b : Int} (hc : cellB c = true) (ha : airB a = true) (hb : 0 ≤ b) : liftLo c a ≤ liftLo (warmC c b) a ∧ liftHi c a ≤ liftHi (warmC c b) a := by
  obtain ⟨n0, _⟩ := prod_bd hc ha
  obtain ⟨_, b1, b2, b3⟩ := airB_iff.1 ha
  obtain ⟨_, _, _, _, _, u3, u4, u5⟩ := cellB_iff.1 hc
  have m1 : pull c c.wlo ≤ pull (warmC c b) (warmC c b).wlo := by
    show 29 * amount c * c.wlo ≤ 29 * amount c * min (c.wlo + b) 300
    exact Int.mul_le_mul_of_nonneg_left (by omega) (by omega)
  have m2 : pull c c.whi ≤ pull (warmC c b) (warmC c b).whi := by
    show 29 * amount c * c.whi ≤ 29 * amount c * min (c.whi + b) 300
    exact Int.mul_le_mul_of_nonneg_left (by omega) (by omega)
  have d1 := Int.ediv_le_ediv (show 0 < a.tlo by omega) m1
  have d2 := Int.ediv_le_ediv (show 0 < a.thi by omega) m1
  have d3 := Int.ediv_le_ediv (show 0 < a.tlo by omega) (Int.neg_le_neg m2)
  have d4 := Int.ediv_le_ediv (show 0 < a.thi by omega) (Int.neg_le_neg m2)
  have eh : (warmC c b).helium = c.helium := rfl
  unfold liftLo liftHi
  rw [eh]
  omega
theorem warm_vol {c : Cell} {a : Air} {b : Int} (hc : cellB c = true) (ha : airB a = true) (hb : 0 ≤ b) : volLo c a ≤ volLo (warmC c b) a ∧ volHi c a ≤ volHi (warmC c b) a := by
  obtain ⟨n0, _⟩ := prod_bd hc ha
  obtain ⟨⟨p1, p2, p3⟩, b1, b2, b3⟩ := airB_iff.1 ha
  obtain ⟨_, _, _, _, _, u3, u4, u5⟩ := cellB_iff.1 hc
  have m1 : amount c * heatLo c a ≤ amount (warmC c b) * heatLo (warmC c b) a := by
    show amount c * (a.tlo + c.wlo) ≤ amount c * (a.tlo + min (c.wlo + b) 300)
    exact Int.mul_le_mul_of_nonneg_left (by omega) (by omega)
  have m2 : amount c * heatHi c a ≤ amount (warmC c b) * heatHi (warmC c b) a := by
    show amount c * (a.thi + c.whi) ≤ amount c * (a.thi + min (c.whi + b) 300)
    exact Int.mul_le_mul_of_nonneg_left (by omega) (by omega)
  have d1 := Int.ediv_le_ediv (show 0 < a.phi by omega) m1
  have d2 := Int.ediv_le_ediv (show 0 < a.plo by omega) (Int.neg_le_neg m2)
  unfold volLo volHi
  omega
theorem cold_lift (c : Cell) (a : Air) : liftLo (coldC c) a = 25 * c.helium ∧ liftHi (coldC c) a = 25 * c.helium := by
  have e1 : pull (coldC c) (coldC c).wlo = 0 := by show 29 * amount c * 0 = 0; simp
  have e2 : pull (coldC c) (coldC c).whi = 0 := by show 29 * amount c * 0 = 0; simp
  have eh : (coldC c).helium = c.helium := rfl
  unfold liftLo liftHi
  rw [e1, e2, eh]
  simp
def pressA (a : Air) (p q : Int) : Air := { a with plo := p, phi := q }
theorem press_lift (c : Cell) (a : Air) (p q : Int) : liftLo c (pressA a p q) = liftLo c a ∧ liftHi c (pressA a p q) = liftHi c a := ⟨rfl, rfl⟩
theorem press_asked {c : Cell} {a : Air} (hc : cellB c = true) (p q : Int) : asked c (pressA a p q) = 0 ∨ asked c (pressA a p q) = 30 := by
  unfold asked checkAir
  rw [hc]
  simp only [if_true]
  split <;> simp
end Bal.Gas

/-
  The roof: at its pressure a hull can be held, at no lesser one: plain Lean, no program in sight.
-/
namespace Bal.Gas
open Bal.Trim
theorem hung_cases (h : Hl) (a : Air) : hung h a = 0 ∨ hung h a = 30 ∨ hung h a = 33 := by
  unfold hung checkAir
  repeat (first | split | simp)
theorem blowE_cases (h : Hl) (a : Air) : blowE h a = 0 ∨ blowE h a = 6 ∨ blowE h a = 30 ∨ blowE h a = 33 := by
  have := hung_cases h a
  unfold blowE
  split
  · split <;> simp
  · omega
theorem roofCE_cases (h : Hl) (x y : Int) : roofCE h x y = 0 ∨ roofCE h x y = 6 ∨ roofCE h x y = 2 ∨ roofCE h x y = 33 := by
  unfold roofCE roofE
  split
  · split
    · split <;> simp
    · simp
  · simp
theorem hung_zero {h : Hl} {a : Air} (hz : hung h a = 0) : hullB h = true ∧ airB a = true := by
  unfold hung checkAir at hz
  cases h1 : hullB h
  · simp [h1] at hz
  · cases h2 : airB a
    · simp [h1, h2] at hz
    · exact ⟨rfl, rfl⟩
theorem blowE_hung {h : Hl} {a : Air} (hb : blowE h a = 0 ∨ blowE h a = 6) : hung h a = 0 := by
  by_cases h0 : hung h a = 0
  · exact h0
  · have := hung_cases h a
    unfold blowE at hb
    rw [if_neg h0] at hb
    omega
theorem roof_none {h : Hl} {x y p : Int} (hE : roofCE h x y = 6) (hF : blowE h (calm x y p) = 0 ∨ blowE h (calm x y p) = 6) : blowE h (calm x y p) = 6 ∧ roofCN h x y = 0 := by
  have hz := blowE_hung hF
  obtain ⟨h1, h2⟩ := hung_zero hz
  obtain ⟨⟨b1, _, b2⟩, b4, b5, b6⟩ := airB_iff.1 h2
  have hs : spanIn x y 1500 3500 = true := spanIn_iff.2 ⟨b4, b5, b6⟩
  have hr : roof h x y = none := by
    unfold roofCE at hE
    rw [if_pos h1, if_pos hs] at hE
    cases hr : roof h x y with
    | none => rfl
    | some k => rw [hr] at hE; simp [roofE] at hE
  have hN : roofCN h x y = 0 := by unfold roofCN; rw [if_pos h1, if_pos hs, hr]; rfl
  refine ⟨?_, hN⟩
  unfold roof firstOf at hr
  rw [List.find?_range_eq_none] at hr
  have hk := hr (p - 1000).toNat (by simp only at b1 b2; omega)
  simp only [roofs, Bool.not_eq_true', decide_eq_false_iff_not] at hk
  have ep : 1000 + ((p - 1000).toNat : Int) = p := by simp only at b1; omega
  rw [ep] at hk
  unfold blowE
  rw [if_pos hz, if_pos (by omega)]
theorem roof_some {h : Hl} {x y p : Int} (hE : roofCE h x y = 0) (hF : blowE h (calm x y p) = 0 ∨ blowE h (calm x y p) = 6) :
    (1000 ≤ roofCN h x y ∧ roofCN h x y ≤ 12000) ∧ blowE h (calm x y (roofCN h x y)) = 0 ∧ blowLo h (calm x y (roofCN h x y)) ≤ blowHi h (calm x y (roofCN h x y)) ∧ (p < roofCN h x y → blowE h (calm x y p) = 6) := by
  have hz := blowE_hung hF
  obtain ⟨h1, h2⟩ := hung_zero hz
  obtain ⟨⟨b1, _, b2⟩, b4, b5, b6⟩ := airB_iff.1 h2
  have hs : spanIn x y 1500 3500 = true := spanIn_iff.2 ⟨b4, b5, b6⟩
  obtain ⟨k, hr⟩ : ∃ k, roof h x y = some k := by
    unfold roofCE at hE
    rw [if_pos h1, if_pos hs] at hE
    cases hr : roof h x y with
    | none => rw [hr] at hE; simp [roofE] at hE
    | some k => exact ⟨k, rfl⟩
  have hN : roofCN h x y = 1000 + k := by unfold roofCN; rw [if_pos h1, if_pos hs, hr]; rfl
  unfold roof firstOf at hr
  rw [List.find?_range_eq_some] at hr
  obtain ⟨q1, q2, q3⟩ := hr
  have hk : k < 11001 := by simpa using q2
  simp only [roofs, decide_eq_true_eq] at q1
  rw [hN]
  have hc : hung h (calm x y (1000 + k)) = 0 := by unfold hung checkAir; rw [if_pos h1, if_pos (calm_B hs (by omega))]
  refine ⟨by omega, ?_, q1, fun hp => ?_⟩
  · unfold blowE
    rw [if_pos hc, if_neg (by omega)]
  · have hj := q3 (p - 1000).toNat (by simp only at b1; omega)
    simp only [roofs, Bool.not_eq_true', decide_eq_false_iff_not] at hj
    have ep : 1000 + ((p - 1000).toNat : Int) = p := by simp only at b1; omega
    rw [ep] at hj
    unfold blowE
    rw [if_pos hz, if_pos (by omega)]
end Bal.Gas

/-
  GasRoof: no lesser pressure: the walk.
-/
namespace Go.Proofs.Ytemafanncejeiaa
open Go.RowKit Bal Bal.Trim Bal.Gas
set_option linter.unusedVariables false
set_option linter.unusedSimpArgs false
set_option maxHeartbeats 4000000
set_option maxRecDepth 100000

theorem law_GasRoof_e (h : Hl) (x y p : Int) (w : World) (E F : Int) (hEc : E = 2 ∨ E = 33) (hE : roofCE h x y = E) (hF : blowE h (calm x y p) = F) : Calls Try.prog 18 #[.agg #[.int .i64 h.room, .int .i64 h.gas, .int .i64 h.wlo, .int .i64 h.whi, .int .i64 h.ballonet, .int .i64 h.bag, .int .i64 h.least, .int .i64 h.most], .agg #[.int .i64 x, .int .i64 y], .int .i64 p] w fun e w' => e = .returned (.bool true) ∧ Kept w w' := by
  obtain ⟨N, hN⟩ : ∃ n, n = roofCN h x y := ⟨_, rfl⟩
  obtain ⟨z1, hz1⟩ : ∃ n, n = Bal.Gas.ifOk F (blowLo h (calm x y p)) := ⟨_, rfl⟩
  obtain ⟨z2, hz2⟩ : ∃ n, n = Bal.Gas.ifOk F (blowHi h (calm x y p)) := ⟨_, rfl⟩
  have KR := Lib.hid (show ∀ W, Calls Try.prog 42 #[.agg #[.int .i64 h.room, .int .i64 h.gas, .int .i64 h.wlo, .int .i64 h.whi, .int .i64 h.ballonet, .int .i64 h.bag, .int .i64 h.least, .int .i64 h.most], .agg #[.int .i64 x, .int .i64 y]] W fun e w' => e = .returned (.tuple #[.int .i64 N, .int .i64 E]) ∧ Kept W w' from fun W => by have k := f_RoofC h x y W; rwa [hE, ← hN] at k)
  have KB := Lib.hid (show ∀ W, Calls Try.prog 40 #[.agg #[.int .i64 h.room, .int .i64 h.gas, .int .i64 h.wlo, .int .i64 h.whi, .int .i64 h.ballonet, .int .i64 h.bag, .int .i64 h.least, .int .i64 h.most], .agg #[.int .i64 p, .int .i64 p, .int .i64 x, .int .i64 y]] W fun e w' => e = .returned (.tuple #[.agg #[.int .i64 z1, .int .i64 z2], .int .i64 F]) ∧ Kept W w' from fun W => by have k := f_BlowC h (calm x y p) W; rwa [hF, ← hz1, ← hz2] at k)
  clear hE hF hN hz1 hz2
  rcases hEc with rfl | rfl
  all_goals
    go_enter Try.func18, Try.ntmps18
    go_upto_region 5 with (first | (go_at_call 68; (with_reducible refine (o_alive _).mono ?_); rintro e wa ⟨rfl, hba⟩; refine Blk.thru (b := w.heap.size) (arr := ?_) (t := ?_) ?_ hba ?_; rotate_left 2; (focus (exact blk)); intro aq0; have aq0c0 := aq0.cell 0; have aq0f0 := aq0.free 0; have aq0c1 := aq0.cell 1; have aq0f1 := aq0.free 1; have aq0c2 := aq0.cell 2; have aq0f2 := aq0.free 2; have aq0c3 := aq0.cell 3; have aq0f3 := aq0.free 3; have aq0c4 := aq0.cell 4; have aq0f4 := aq0.free 4; have aq0c5 := aq0.cell 5; have aq0f5 := aq0.free 5; have aq0c6 := aq0.cell 6; have aq0f6 := aq0.free 6; have aq0c7 := aq0.cell 7; have aq0f7 := aq0.free 7; have aq0l := aq0.lt; simp at aq0c0 aq0c1 aq0c2 aq0c3 aq0c4 aq0c5 aq0c6 aq0c7; refine Blk.thru (b := w.heap.size + 1) (arr := ?_) (t := ?_) ?_ hba ?_; rotate_left 2; (focus (exact blk)); intro aq1; have aq1c0 := aq1.cell 0; have aq1f0 := aq1.free 0; have aq1c1 := aq1.cell 1; have aq1f1 := aq1.free 1; have aq1l := aq1.lt; simp at aq1c0 aq1c1) | (go_at_call 42; (with_reducible refine (KR.out _).mono ?_); rintro e wr ⟨rfl, hbr⟩; refine Blk.thru (b := w.heap.size) (arr := ?_) (t := ?_) ?_ hbr ?_; rotate_left 2; (focus (exact blk)); intro bq0; have bq0c0 := bq0.cell 0; have bq0f0 := bq0.free 0; have bq0c1 := bq0.cell 1; have bq0f1 := bq0.free 1; have bq0c2 := bq0.cell 2; have bq0f2 := bq0.free 2; have bq0c3 := bq0.cell 3; have bq0f3 := bq0.free 3; have bq0c4 := bq0.cell 4; have bq0f4 := bq0.free 4; have bq0c5 := bq0.cell 5; have bq0f5 := bq0.free 5; have bq0c6 := bq0.cell 6; have bq0f6 := bq0.free 6; have bq0c7 := bq0.cell 7; have bq0f7 := bq0.free 7; have bq0l := bq0.lt; simp at bq0c0 bq0c1 bq0c2 bq0c3 bq0c4 bq0c5 bq0c6 bq0c7; refine Blk.thru (b := w.heap.size + 1) (arr := ?_) (t := ?_) ?_ hbr ?_; rotate_left 2; (focus (exact blk)); intro bq1; have bq1c0 := bq1.cell 0; have bq1f0 := bq1.free 0; have bq1c1 := bq1.cell 1; have bq1f1 := bq1.free 1; have bq1l := bq1.lt; simp at bq1c0 bq1c1))
    refine at_world (S := fun V => Blk V (w.heap.size) #[.int .i64 h.room, .int .i64 h.gas, .int .i64 h.wlo, .int .i64 h.whi, .int .i64 h.ballonet, .int .i64 h.bag, .int .i64 h.least, .int .i64 h.most] 45 ∧ Blk V (w.heap.size + 1) #[.int .i64 x, .int .i64 y] 23 ∧ Kept w V) ⟨by (exact blkc), by (exact blkc), by (exact kpt)⟩ ?_
    rintro V ⟨q0, q1, hkV⟩
    go_cut [10] (fun s10 wx => ∃ n, s10 = .pointer (some ⟨n, 0, none⟩) ∧ w.heap.size ≤ n ∧ Blk wx n #[.int .i64 p, .int .i64 p, .int .i64 x, .int .i64 y] 27 ∧ Blk wx w.heap.size #[.int .i64 h.room, .int .i64 h.gas, .int .i64 h.wlo, .int .i64 h.whi, .int .i64 h.ballonet, .int .i64 h.bag, .int .i64 h.least, .int .i64 h.most] 45 ∧ Blk wx (w.heap.size + 1) #[.int .i64 x, .int .i64 y] 23 ∧ Kept w wx)
    case first =>
      have q1k0 : ∀ w', Kept V w' → w'.cell? ⟨(w.heap.size + 1), 0, none⟩ = _ := fun w' h => (q1.keep h).cell 0
      have q1k1 : ∀ w', Kept V w' → w'.cell? ⟨(w.heap.size + 1), 1, none⟩ = _ := fun w' h => (q1.keep h).cell 1
      simp at q1k0 q1k1
      have l0 := q0.lt
      have l1 := q1.lt
      go_region_held3 (fun w' => Kept V w') (exact kpt) (first | (go_at_call 69; (with_reducible refine (o_one _ _).mono ?_); rintro e w3 ⟨rfl, hb3⟩; (first | (refine Blk.thru (b := V.heap.size) (arr := #[.int .i64 0, .int .i64 0, .int .i64 0, .int .i64 0]) (t := 27) ?_ hb3 ?_; (focus (first | with_reducible assumption | (refine Blk.new' ?_; (focus (simp; done))) | (refine Blk.drew (Blk.new' ?_); (focus (simp; done))) | (refine Blk.alloc (Blk.new' ?_) _; (focus (simp; done))) | (refine Blk.drew (Blk.alloc (Blk.new' ?_) _); (focus (simp; done))) | (refine Blk.alloc (Blk.drew (Blk.new' ?_)) _; (focus (simp; done))) | (refine Blk.alloc ?_ _; with_reducible assumption) | (refine Blk.drew ?_; with_reducible assumption) | (refine Blk.drew (Blk.alloc ?_ _); with_reducible assumption) | fail)); intro ta; have tac0 := ta.cell 0; have taf0 := ta.free 0; have tac1 := ta.cell 1; have taf1 := ta.free 1; have tac2 := ta.cell 2; have taf2 := ta.free 2; have tac3 := ta.cell 3; have taf3 := ta.free 3; have tal := ta.lt; simp at tac0 tac1 tac2 tac3) | skip)) | fail)
      all_goals (go_wp2_with fail; go_meet)
      all_goals exact ⟨_, rfl, by (have h1 := hkV.size; first | omega | (have h2 := hb3.size; simp at h2; simp; omega) | (have h2 := hb3.size; simp at h2; omega)), by exact blkx, by exact blkx, by exact blkx, by exact kpt⟩
    case rest =>
      clear q0 q1 hkV
      obtain ⟨n, rfl, hnw, q10, q0, q1, hk⟩ := hcut
      have hn0 := Blk.ne q10 q0 (by decide)
      have hn1 := Blk.ne q0 q10 (by decide)
      have hn2 := Blk.ne q10 q1 (by decide)
      have hn3 := Blk.ne q1 q10 (by decide)
      have q10c0 := q10.cell 0
      have q10f0 := q10.free 0
      have q10c1 := q10.cell 1
      have q10f1 := q10.free 1
      have q10c2 := q10.cell 2
      have q10f2 := q10.free 2
      have q10c3 := q10.cell 3
      have q10f3 := q10.free 3
      have q10l := q10.lt
      simp at q10c0 q10c1 q10c2 q10c3
      have q0c0 := q0.cell 0
      have q0f0 := q0.free 0
      have q0c1 := q0.cell 1
      have q0f1 := q0.free 1
      have q0c2 := q0.cell 2
      have q0f2 := q0.free 2
      have q0c3 := q0.cell 3
      have q0f3 := q0.free 3
      have q0c4 := q0.cell 4
      have q0f4 := q0.free 4
      have q0c5 := q0.cell 5
      have q0f5 := q0.free 5
      have q0c6 := q0.cell 6
      have q0f6 := q0.free 6
      have q0c7 := q0.cell 7
      have q0f7 := q0.free 7
      have q0l := q0.lt
      simp at q0c0 q0c1 q0c2 q0c3 q0c4 q0c5 q0c6 q0c7
      have q1c0 := q1.cell 0
      have q1f0 := q1.free 0
      have q1c1 := q1.cell 1
      have q1f1 := q1.free 1
      have q1l := q1.lt
      simp at q1c0 q1c1
      go_wp2_with (first | (go_at_call 40; (with_reducible refine (KB.out _).mono ?_); rintro e wb ⟨rfl, hbb⟩; refine Blk.thru (b := n) (arr := ?_) (t := ?_) ?_ hbb ?_; rotate_left 2; (focus (exact blk)); intro cq10; have cq10c0 := cq10.cell 0; have cq10f0 := cq10.free 0; have cq10c1 := cq10.cell 1; have cq10f1 := cq10.free 1; have cq10c2 := cq10.cell 2; have cq10f2 := cq10.free 2; have cq10c3 := cq10.cell 3; have cq10f3 := cq10.free 3; have cq10l := cq10.lt; simp at cq10c0 cq10c1 cq10c2 cq10c3; refine Blk.thru (b := w.heap.size) (arr := ?_) (t := ?_) ?_ hbb ?_; rotate_left 2; (focus (exact blk)); intro cq0; have cq0c0 := cq0.cell 0; have cq0f0 := cq0.free 0; have cq0c1 := cq0.cell 1; have cq0f1 := cq0.free 1; have cq0c2 := cq0.cell 2; have cq0f2 := cq0.free 2; have cq0c3 := cq0.cell 3; have cq0f3 := cq0.free 3; have cq0c4 := cq0.cell 4; have cq0f4 := cq0.free 4; have cq0c5 := cq0.cell 5; have cq0f5 := cq0.free 5; have cq0c6 := cq0.cell 6; have cq0f6 := cq0.free 6; have cq0c7 := cq0.cell 7; have cq0f7 := cq0.free 7; have cq0l := cq0.lt; simp at cq0c0 cq0c1 cq0c2 cq0c3 cq0c4 cq0c5 cq0c6 cq0c7; refine Blk.thru (b := w.heap.size + 1) (arr := ?_) (t := ?_) ?_ hbb ?_; rotate_left 2; (focus (exact blk)); intro cq1; have cq1c0 := cq1.cell 0; have cq1f0 := cq1.free 0; have cq1c1 := cq1.cell 1; have cq1f1 := cq1.free 1; have cq1l := cq1.lt; simp at cq1c0 cq1c1))
      all_goals
        go_ret
        exact ⟨rfl, by (exact kpt)⟩

theorem law_GasRoof_f (h : Hl) (x y p : Int) (w : World) (E F : Int) (hEc : E = 0 ∨ E = 6) (hFc : F = 30 ∨ F = 33) (hE : roofCE h x y = E) (hF : blowE h (calm x y p) = F) : Calls Try.prog 18 #[.agg #[.int .i64 h.room, .int .i64 h.gas, .int .i64 h.wlo, .int .i64 h.whi, .int .i64 h.ballonet, .int .i64 h.bag, .int .i64 h.least, .int .i64 h.most], .agg #[.int .i64 x, .int .i64 y], .int .i64 p] w fun e w' => e = .returned (.bool true) ∧ Kept w w' := by
  obtain ⟨N, hN⟩ : ∃ n, n = roofCN h x y := ⟨_, rfl⟩
  obtain ⟨z1, hz1⟩ : ∃ n, n = Bal.Gas.ifOk F (blowLo h (calm x y p)) := ⟨_, rfl⟩
  obtain ⟨z2, hz2⟩ : ∃ n, n = Bal.Gas.ifOk F (blowHi h (calm x y p)) := ⟨_, rfl⟩
  have KR := Lib.hid (show ∀ W, Calls Try.prog 42 #[.agg #[.int .i64 h.room, .int .i64 h.gas, .int .i64 h.wlo, .int .i64 h.whi, .int .i64 h.ballonet, .int .i64 h.bag, .int .i64 h.least, .int .i64 h.most], .agg #[.int .i64 x, .int .i64 y]] W fun e w' => e = .returned (.tuple #[.int .i64 N, .int .i64 E]) ∧ Kept W w' from fun W => by have k := f_RoofC h x y W; rwa [hE, ← hN] at k)
  have KB := Lib.hid (show ∀ W, Calls Try.prog 40 #[.agg #[.int .i64 h.room, .int .i64 h.gas, .int .i64 h.wlo, .int .i64 h.whi, .int .i64 h.ballonet, .int .i64 h.bag, .int .i64 h.least, .int .i64 h.most], .agg #[.int .i64 p, .int .i64 p, .int .i64 x, .int .i64 y]] W fun e w' => e = .returned (.tuple #[.agg #[.int .i64 z1, .int .i64 z2], .int .i64 F]) ∧ Kept W w' from fun W => by have k := f_BlowC h (calm x y p) W; rwa [hF, ← hz1, ← hz2] at k)
  clear hE hF hN hz1 hz2
  rcases hEc with rfl | rfl <;> rcases hFc with rfl | rfl
  all_goals
    go_enter Try.func18, Try.ntmps18
    go_upto_region 5 with (first | (go_at_call 68; (with_reducible refine (o_alive _).mono ?_); rintro e wa ⟨rfl, hba⟩; refine Blk.thru (b := w.heap.size) (arr := ?_) (t := ?_) ?_ hba ?_; rotate_left 2; (focus (exact blk)); intro aq0; have aq0c0 := aq0.cell 0; have aq0f0 := aq0.free 0; have aq0c1 := aq0.cell 1; have aq0f1 := aq0.free 1; have aq0c2 := aq0.cell 2; have aq0f2 := aq0.free 2; have aq0c3 := aq0.cell 3; have aq0f3 := aq0.free 3; have aq0c4 := aq0.cell 4; have aq0f4 := aq0.free 4; have aq0c5 := aq0.cell 5; have aq0f5 := aq0.free 5; have aq0c6 := aq0.cell 6; have aq0f6 := aq0.free 6; have aq0c7 := aq0.cell 7; have aq0f7 := aq0.free 7; have aq0l := aq0.lt; simp at aq0c0 aq0c1 aq0c2 aq0c3 aq0c4 aq0c5 aq0c6 aq0c7; refine Blk.thru (b := w.heap.size + 1) (arr := ?_) (t := ?_) ?_ hba ?_; rotate_left 2; (focus (exact blk)); intro aq1; have aq1c0 := aq1.cell 0; have aq1f0 := aq1.free 0; have aq1c1 := aq1.cell 1; have aq1f1 := aq1.free 1; have aq1l := aq1.lt; simp at aq1c0 aq1c1) | (go_at_call 42; (with_reducible refine (KR.out _).mono ?_); rintro e wr ⟨rfl, hbr⟩; refine Blk.thru (b := w.heap.size) (arr := ?_) (t := ?_) ?_ hbr ?_; rotate_left 2; (focus (exact blk)); intro bq0; have bq0c0 := bq0.cell 0; have bq0f0 := bq0.free 0; have bq0c1 := bq0.cell 1; have bq0f1 := bq0.free 1; have bq0c2 := bq0.cell 2; have bq0f2 := bq0.free 2; have bq0c3 := bq0.cell 3; have bq0f3 := bq0.free 3; have bq0c4 := bq0.cell 4; have bq0f4 := bq0.free 4; have bq0c5 := bq0.cell 5; have bq0f5 := bq0.free 5; have bq0c6 := bq0.cell 6; have bq0f6 := bq0.free 6; have bq0c7 := bq0.cell 7; have bq0f7 := bq0.free 7; have bq0l := bq0.lt; simp at bq0c0 bq0c1 bq0c2 bq0c3 bq0c4 bq0c5 bq0c6 bq0c7; refine Blk.thru (b := w.heap.size + 1) (arr := ?_) (t := ?_) ?_ hbr ?_; rotate_left 2; (focus (exact blk)); intro bq1; have bq1c0 := bq1.cell 0; have bq1f0 := bq1.free 0; have bq1c1 := bq1.cell 1; have bq1f1 := bq1.free 1; have bq1l := bq1.lt; simp at bq1c0 bq1c1))
    refine at_world (S := fun V => Blk V (w.heap.size) #[.int .i64 h.room, .int .i64 h.gas, .int .i64 h.wlo, .int .i64 h.whi, .int .i64 h.ballonet, .int .i64 h.bag, .int .i64 h.least, .int .i64 h.most] 45 ∧ Blk V (w.heap.size + 1) #[.int .i64 x, .int .i64 y] 23 ∧ Kept w V) ⟨by (exact blkc), by (exact blkc), by (exact kpt)⟩ ?_
    rintro V ⟨q0, q1, hkV⟩
    go_cut [10] (fun s10 wx => ∃ n, s10 = .pointer (some ⟨n, 0, none⟩) ∧ w.heap.size ≤ n ∧ Blk wx n #[.int .i64 p, .int .i64 p, .int .i64 x, .int .i64 y] 27 ∧ Blk wx w.heap.size #[.int .i64 h.room, .int .i64 h.gas, .int .i64 h.wlo, .int .i64 h.whi, .int .i64 h.ballonet, .int .i64 h.bag, .int .i64 h.least, .int .i64 h.most] 45 ∧ Blk wx (w.heap.size + 1) #[.int .i64 x, .int .i64 y] 23 ∧ Kept w wx)
    case first =>
      have q1k0 : ∀ w', Kept V w' → w'.cell? ⟨(w.heap.size + 1), 0, none⟩ = _ := fun w' h => (q1.keep h).cell 0
      have q1k1 : ∀ w', Kept V w' → w'.cell? ⟨(w.heap.size + 1), 1, none⟩ = _ := fun w' h => (q1.keep h).cell 1
      simp at q1k0 q1k1
      have l0 := q0.lt
      have l1 := q1.lt
      go_region_held3 (fun w' => Kept V w') (exact kpt) (first | (go_at_call 69; (with_reducible refine (o_one _ _).mono ?_); rintro e w3 ⟨rfl, hb3⟩; (first | (refine Blk.thru (b := V.heap.size) (arr := #[.int .i64 0, .int .i64 0, .int .i64 0, .int .i64 0]) (t := 27) ?_ hb3 ?_; (focus (first | with_reducible assumption | (refine Blk.new' ?_; (focus (simp; done))) | (refine Blk.drew (Blk.new' ?_); (focus (simp; done))) | (refine Blk.alloc (Blk.new' ?_) _; (focus (simp; done))) | (refine Blk.drew (Blk.alloc (Blk.new' ?_) _); (focus (simp; done))) | (refine Blk.alloc (Blk.drew (Blk.new' ?_)) _; (focus (simp; done))) | (refine Blk.alloc ?_ _; with_reducible assumption) | (refine Blk.drew ?_; with_reducible assumption) | (refine Blk.drew (Blk.alloc ?_ _); with_reducible assumption) | fail)); intro ta; have tac0 := ta.cell 0; have taf0 := ta.free 0; have tac1 := ta.cell 1; have taf1 := ta.free 1; have tac2 := ta.cell 2; have taf2 := ta.free 2; have tac3 := ta.cell 3; have taf3 := ta.free 3; have tal := ta.lt; simp at tac0 tac1 tac2 tac3) | skip)) | fail)
      all_goals (go_wp2_with fail; go_meet)
      all_goals exact ⟨_, rfl, by (have h1 := hkV.size; first | omega | (have h2 := hb3.size; simp at h2; simp; omega) | (have h2 := hb3.size; simp at h2; omega)), by exact blkx, by exact blkx, by exact blkx, by exact kpt⟩
    case rest =>
      clear q0 q1 hkV
      obtain ⟨n, rfl, hnw, q10, q0, q1, hk⟩ := hcut
      have hn0 := Blk.ne q10 q0 (by decide)
      have hn1 := Blk.ne q0 q10 (by decide)
      have hn2 := Blk.ne q10 q1 (by decide)
      have hn3 := Blk.ne q1 q10 (by decide)
      have q10c0 := q10.cell 0
      have q10f0 := q10.free 0
      have q10c1 := q10.cell 1
      have q10f1 := q10.free 1
      have q10c2 := q10.cell 2
      have q10f2 := q10.free 2
      have q10c3 := q10.cell 3
      have q10f3 := q10.free 3
      have q10l := q10.lt
      simp at q10c0 q10c1 q10c2 q10c3
      have q0c0 := q0.cell 0
      have q0f0 := q0.free 0
      have q0c1 := q0.cell 1
      have q0f1 := q0.free 1
      have q0c2 := q0.cell 2
      have q0f2 := q0.free 2
      have q0c3 := q0.cell 3
      have q0f3 := q0.free 3
      have q0c4 := q0.cell 4
      have q0f4 := q0.free 4
      have q0c5 := q0.cell 5
      have q0f5 := q0.free 5
      have q0c6 := q0.cell 6
      have q0f6 := q0.free 6
      have q0c7 := q0.cell 7
      have q0f7 := q0.free 7
      have q0l := q0.lt
      simp at q0c0 q0c1 q0c2 q0c3 q0c4 q0c5 q0c6 q0c7
      have q1c0 := q1.cell 0
      have q1f0 := q1.free 0
      have q1c1 := q1.cell 1
      have q1f1 := q1.free 1
      have q1l := q1.lt
      simp at q1c0 q1c1
      go_wp2_with (first | (go_at_call 40; (with_reducible refine (KB.out _).mono ?_); rintro e wb ⟨rfl, hbb⟩; refine Blk.thru (b := n) (arr := ?_) (t := ?_) ?_ hbb ?_; rotate_left 2; (focus (exact blk)); intro cq10; have cq10c0 := cq10.cell 0; have cq10f0 := cq10.free 0; have cq10c1 := cq10.cell 1; have cq10f1 := cq10.free 1; have cq10c2 := cq10.cell 2; have cq10f2 := cq10.free 2; have cq10c3 := cq10.cell 3; have cq10f3 := cq10.free 3; have cq10l := cq10.lt; simp at cq10c0 cq10c1 cq10c2 cq10c3; refine Blk.thru (b := w.heap.size) (arr := ?_) (t := ?_) ?_ hbb ?_; rotate_left 2; (focus (exact blk)); intro cq0; have cq0c0 := cq0.cell 0; have cq0f0 := cq0.free 0; have cq0c1 := cq0.cell 1; have cq0f1 := cq0.free 1; have cq0c2 := cq0.cell 2; have cq0f2 := cq0.free 2; have cq0c3 := cq0.cell 3; have cq0f3 := cq0.free 3; have cq0c4 := cq0.cell 4; have cq0f4 := cq0.free 4; have cq0c5 := cq0.cell 5; have cq0f5 := cq0.free 5; have cq0c6 := cq0.cell 6; have cq0f6 := cq0.free 6; have cq0c7 := cq0.cell 7; have cq0f7 := cq0.free 7; have cq0l := cq0.lt; simp at cq0c0 cq0c1 cq0c2 cq0c3 cq0c4 cq0c5 cq0c6 cq0c7; refine Blk.thru (b := w.heap.size + 1) (arr := ?_) (t := ?_) ?_ hbb ?_; rotate_left 2; (focus (exact blk)); intro cq1; have cq1c0 := cq1.cell 0; have cq1f0 := cq1.free 0; have cq1c1 := cq1.cell 1; have cq1f1 := cq1.free 1; have cq1l := cq1.lt; simp at cq1c0 cq1c1))
      all_goals
        go_ret
        exact ⟨rfl, by (exact kpt)⟩

theorem law_GasRoof_n (h : Hl) (x y p : Int) (w : World) (hE : roofCE h x y = 6) (hF : blowE h (calm x y p) = 6) (hN0 : roofCN h x y = 0) : Calls Try.prog 18 #[.agg #[.int .i64 h.room, .int .i64 h.gas, .int .i64 h.wlo, .int .i64 h.whi, .int .i64 h.ballonet, .int .i64 h.bag, .int .i64 h.least, .int .i64 h.most], .agg #[.int .i64 x, .int .i64 y], .int .i64 p] w fun e w' => e = .returned (.bool true) ∧ Kept w w' := by
  obtain ⟨N, hN⟩ : ∃ n, n = roofCN h x y := ⟨_, rfl⟩
  obtain ⟨z1, hz1⟩ : ∃ n, n = Bal.Gas.ifOk 6 (blowLo h (calm x y p)) := ⟨_, rfl⟩
  obtain ⟨z2, hz2⟩ : ∃ n, n = Bal.Gas.ifOk 6 (blowHi h (calm x y p)) := ⟨_, rfl⟩
  have KR := Lib.hid (show ∀ W, Calls Try.prog 42 #[.agg #[.int .i64 h.room, .int .i64 h.gas, .int .i64 h.wlo, .int .i64 h.whi, .int .i64 h.ballonet, .int .i64 h.bag, .int .i64 h.least, .int .i64 h.most], .agg #[.int .i64 x, .int .i64 y]] W fun e w' => e = .returned (.tuple #[.int .i64 N, .int .i64 6]) ∧ Kept W w' from fun W => by have k := f_RoofC h x y W; rwa [hE, ← hN] at k)
  have KB := Lib.hid (show ∀ W, Calls Try.prog 40 #[.agg #[.int .i64 h.room, .int .i64 h.gas, .int .i64 h.wlo, .int .i64 h.whi, .int .i64 h.ballonet, .int .i64 h.bag, .int .i64 h.least, .int .i64 h.most], .agg #[.int .i64 p, .int .i64 p, .int .i64 x, .int .i64 y]] W fun e w' => e = .returned (.tuple #[.agg #[.int .i64 z1, .int .i64 z2], .int .i64 6]) ∧ Kept W w' from fun W => by have k := f_BlowC h (calm x y p) W; rwa [hF, ← hz1, ← hz2] at k)
  rw [hN0] at hN
  subst hN
  clear hE hF hN0 hz1 hz2
  go_enter Try.func18, Try.ntmps18
  go_upto_region 5 with (first | (go_at_call 68; (with_reducible refine (o_alive _).mono ?_); rintro e wa ⟨rfl, hba⟩; refine Blk.thru (b := w.heap.size) (arr := ?_) (t := ?_) ?_ hba ?_; rotate_left 2; (focus (exact blk)); intro aq0; have aq0c0 := aq0.cell 0; have aq0f0 := aq0.free 0; have aq0c1 := aq0.cell 1; have aq0f1 := aq0.free 1; have aq0c2 := aq0.cell 2; have aq0f2 := aq0.free 2; have aq0c3 := aq0.cell 3; have aq0f3 := aq0.free 3; have aq0c4 := aq0.cell 4; have aq0f4 := aq0.free 4; have aq0c5 := aq0.cell 5; have aq0f5 := aq0.free 5; have aq0c6 := aq0.cell 6; have aq0f6 := aq0.free 6; have aq0c7 := aq0.cell 7; have aq0f7 := aq0.free 7; have aq0l := aq0.lt; simp at aq0c0 aq0c1 aq0c2 aq0c3 aq0c4 aq0c5 aq0c6 aq0c7; refine Blk.thru (b := w.heap.size + 1) (arr := ?_) (t := ?_) ?_ hba ?_; rotate_left 2; (focus (exact blk)); intro aq1; have aq1c0 := aq1.cell 0; have aq1f0 := aq1.free 0; have aq1c1 := aq1.cell 1; have aq1f1 := aq1.free 1; have aq1l := aq1.lt; simp at aq1c0 aq1c1) | (go_at_call 42; (with_reducible refine (KR.out _).mono ?_); rintro e wr ⟨rfl, hbr⟩; refine Blk.thru (b := w.heap.size) (arr := ?_) (t := ?_) ?_ hbr ?_; rotate_left 2; (focus (exact blk)); intro bq0; have bq0c0 := bq0.cell 0; have bq0f0 := bq0.free 0; have bq0c1 := bq0.cell 1; have bq0f1 := bq0.free 1; have bq0c2 := bq0.cell 2; have bq0f2 := bq0.free 2; have bq0c3 := bq0.cell 3; have bq0f3 := bq0.free 3; have bq0c4 := bq0.cell 4; have bq0f4 := bq0.free 4; have bq0c5 := bq0.cell 5; have bq0f5 := bq0.free 5; have bq0c6 := bq0.cell 6; have bq0f6 := bq0.free 6; have bq0c7 := bq0.cell 7; have bq0f7 := bq0.free 7; have bq0l := bq0.lt; simp at bq0c0 bq0c1 bq0c2 bq0c3 bq0c4 bq0c5 bq0c6 bq0c7; refine Blk.thru (b := w.heap.size + 1) (arr := ?_) (t := ?_) ?_ hbr ?_; rotate_left 2; (focus (exact blk)); intro bq1; have bq1c0 := bq1.cell 0; have bq1f0 := bq1.free 0; have bq1c1 := bq1.cell 1; have bq1f1 := bq1.free 1; have bq1l := bq1.lt; simp at bq1c0 bq1c1))
  refine at_world (S := fun V => Blk V (w.heap.size) #[.int .i64 h.room, .int .i64 h.gas, .int .i64 h.wlo, .int .i64 h.whi, .int .i64 h.ballonet, .int .i64 h.bag, .int .i64 h.least, .int .i64 h.most] 45 ∧ Blk V (w.heap.size + 1) #[.int .i64 x, .int .i64 y] 23 ∧ Kept w V) ⟨by (exact blkc), by (exact blkc), by (exact kpt)⟩ ?_
  rintro V ⟨q0, q1, hkV⟩
  go_cut [10] (fun s10 wx => ∃ n, s10 = .pointer (some ⟨n, 0, none⟩) ∧ w.heap.size ≤ n ∧ Blk wx n #[.int .i64 p, .int .i64 p, .int .i64 x, .int .i64 y] 27 ∧ Blk wx w.heap.size #[.int .i64 h.room, .int .i64 h.gas, .int .i64 h.wlo, .int .i64 h.whi, .int .i64 h.ballonet, .int .i64 h.bag, .int .i64 h.least, .int .i64 h.most] 45 ∧ Blk wx (w.heap.size + 1) #[.int .i64 x, .int .i64 y] 23 ∧ Kept w wx)
  case first =>
    have q1k0 : ∀ w', Kept V w' → w'.cell? ⟨(w.heap.size + 1), 0, none⟩ = _ := fun w' h => (q1.keep h).cell 0
    have q1k1 : ∀ w', Kept V w' → w'.cell? ⟨(w.heap.size + 1), 1, none⟩ = _ := fun w' h => (q1.keep h).cell 1
    simp at q1k0 q1k1
    have l0 := q0.lt
    have l1 := q1.lt
    go_region_held3 (fun w' => Kept V w') (exact kpt) (first | (go_at_call 69; (with_reducible refine (o_one _ _).mono ?_); rintro e w3 ⟨rfl, hb3⟩; (first | (refine Blk.thru (b := V.heap.size) (arr := #[.int .i64 0, .int .i64 0, .int .i64 0, .int .i64 0]) (t := 27) ?_ hb3 ?_; (focus (first | with_reducible assumption | (refine Blk.new' ?_; (focus (simp; done))) | (refine Blk.drew (Blk.new' ?_); (focus (simp; done))) | (refine Blk.alloc (Blk.new' ?_) _; (focus (simp; done))) | (refine Blk.drew (Blk.alloc (Blk.new' ?_) _); (focus (simp; done))) | (refine Blk.alloc (Blk.drew (Blk.new' ?_)) _; (focus (simp; done))) | (refine Blk.alloc ?_ _; with_reducible assumption) | (refine Blk.drew ?_; with_reducible assumption) | (refine Blk.drew (Blk.alloc ?_ _); with_reducible assumption) | fail)); intro ta; have tac0 := ta.cell 0; have taf0 := ta.free 0; have tac1 := ta.cell 1; have taf1 := ta.free 1; have tac2 := ta.cell 2; have taf2 := ta.free 2; have tac3 := ta.cell 3; have taf3 := ta.free 3; have tal := ta.lt; simp at tac0 tac1 tac2 tac3) | skip)) | fail)
    all_goals (go_wp2_with fail; go_meet)
    all_goals exact ⟨_, rfl, by (have h1 := hkV.size; first | omega | (have h2 := hb3.size; simp at h2; simp; omega) | (have h2 := hb3.size; simp at h2; omega)), by exact blkx, by exact blkx, by exact blkx, by exact kpt⟩
  case rest =>
    clear q0 q1 hkV
    obtain ⟨n, rfl, hnw, q10, q0, q1, hk⟩ := hcut
    have hn0 := Blk.ne q10 q0 (by decide)
    have hn1 := Blk.ne q0 q10 (by decide)
    have hn2 := Blk.ne q10 q1 (by decide)
    have hn3 := Blk.ne q1 q10 (by decide)
    have q10c0 := q10.cell 0
    have q10f0 := q10.free 0
    have q10c1 := q10.cell 1
    have q10f1 := q10.free 1
    have q10c2 := q10.cell 2
    have q10f2 := q10.free 2
    have q10c3 := q10.cell 3
    have q10f3 := q10.free 3
    have q10l := q10.lt
    simp at q10c0 q10c1 q10c2 q10c3
    have q0c0 := q0.cell 0
    have q0f0 := q0.free 0
    have q0c1 := q0.cell 1
    have q0f1 := q0.free 1
    have q0c2 := q0.cell 2
    have q0f2 := q0.free 2
    have q0c3 := q0.cell 3
    have q0f3 := q0.free 3
    have q0c4 := q0.cell 4
    have q0f4 := q0.free 4
    have q0c5 := q0.cell 5
    have q0f5 := q0.free 5
    have q0c6 := q0.cell 6
    have q0f6 := q0.free 6
    have q0c7 := q0.cell 7
    have q0f7 := q0.free 7
    have q0l := q0.lt
    simp at q0c0 q0c1 q0c2 q0c3 q0c4 q0c5 q0c6 q0c7
    have q1c0 := q1.cell 0
    have q1f0 := q1.free 0
    have q1c1 := q1.cell 1
    have q1f1 := q1.free 1
    have q1l := q1.lt
    simp at q1c0 q1c1
    go_wp2_with (first | (go_at_call 40; (with_reducible refine (KB.out _).mono ?_); rintro e wb ⟨rfl, hbb⟩; refine Blk.thru (b := n) (arr := ?_) (t := ?_) ?_ hbb ?_; rotate_left 2; (focus (exact blk)); intro cq10; have cq10c0 := cq10.cell 0; have cq10f0 := cq10.free 0; have cq10c1 := cq10.cell 1; have cq10f1 := cq10.free 1; have cq10c2 := cq10.cell 2; have cq10f2 := cq10.free 2; have cq10c3 := cq10.cell 3; have cq10f3 := cq10.free 3; have cq10l := cq10.lt; simp at cq10c0 cq10c1 cq10c2 cq10c3; refine Blk.thru (b := w.heap.size) (arr := ?_) (t := ?_) ?_ hbb ?_; rotate_left 2; (focus (exact blk)); intro cq0; have cq0c0 := cq0.cell 0; have cq0f0 := cq0.free 0; have cq0c1 := cq0.cell 1; have cq0f1 := cq0.free 1; have cq0c2 := cq0.cell 2; have cq0f2 := cq0.free 2; have cq0c3 := cq0.cell 3; have cq0f3 := cq0.free 3; have cq0c4 := cq0.cell 4; have cq0f4 := cq0.free 4; have cq0c5 := cq0.cell 5; have cq0f5 := cq0.free 5; have cq0c6 := cq0.cell 6; have cq0f6 := cq0.free 6; have cq0c7 := cq0.cell 7; have cq0f7 := cq0.free 7; have cq0l := cq0.lt; simp at cq0c0 cq0c1 cq0c2 cq0c3 cq0c4 cq0c5 cq0c6 cq0c7; refine Blk.thru (b := w.heap.size + 1) (arr := ?_) (t := ?_) ?_ hbb ?_; rotate_left 2; (focus (exact blk)); intro cq1; have cq1c0 := cq1.cell 0; have cq1f0 := cq1.free 0; have cq1c1 := cq1.cell 1; have cq1f1 := cq1.free 1; have cq1l := cq1.lt; simp at cq1c0 cq1c1))
    all_goals
      go_ret
      exact ⟨rfl, by (exact kpt)⟩

theorem law_GasRoof_o (h : Hl) (x y p : Int) (w : World) (F : Int) (hFc : F = 0 ∨ F = 6) (hE : roofCE h x y = 0) (hF : blowE h (calm x y p) = F) : Calls Try.prog 18 #[.agg #[.int .i64 h.room, .int .i64 h.gas, .int .i64 h.wlo, .int .i64 h.whi, .int .i64 h.ballonet, .int .i64 h.bag, .int .i64 h.least, .int .i64 h.most], .agg #[.int .i64 x, .int .i64 y], .int .i64 p] w fun e w' => e = .returned (.bool true) ∧ Kept w w' := by
  obtain ⟨⟨g0, g1⟩, g2, g3, g4⟩ := roof_some hE (p := p) (by rw [hF]; exact hFc)
  obtain ⟨N, hN⟩ : ∃ n, n = roofCN h x y := ⟨_, rfl⟩
  obtain ⟨z1, hz1⟩ : ∃ n, n = Bal.Gas.ifOk F (blowLo h (calm x y p)) := ⟨_, rfl⟩
  obtain ⟨z2, hz2⟩ : ∃ n, n = Bal.Gas.ifOk F (blowHi h (calm x y p)) := ⟨_, rfl⟩
  rw [← hN] at g0 g1 g2 g3 g4
  obtain ⟨u1, hu1⟩ : ∃ n, n = blowLo h (calm x y N) := ⟨_, rfl⟩
  obtain ⟨u2, hu2⟩ : ∃ n, n = blowHi h (calm x y N) := ⟨_, rfl⟩
  rw [← hu1, ← hu2] at g3
  have KR := Lib.hid (show ∀ W, Calls Try.prog 42 #[.agg #[.int .i64 h.room, .int .i64 h.gas, .int .i64 h.wlo, .int .i64 h.whi, .int .i64 h.ballonet, .int .i64 h.bag, .int .i64 h.least, .int .i64 h.most], .agg #[.int .i64 x, .int .i64 y]] W fun e w' => e = .returned (.tuple #[.int .i64 N, .int .i64 0]) ∧ Kept W w' from fun W => by have k := f_RoofC h x y W; rwa [hE, ← hN] at k)
  have KB := Lib.hid (show ∀ W, Calls Try.prog 40 #[.agg #[.int .i64 h.room, .int .i64 h.gas, .int .i64 h.wlo, .int .i64 h.whi, .int .i64 h.ballonet, .int .i64 h.bag, .int .i64 h.least, .int .i64 h.most], .agg #[.int .i64 p, .int .i64 p, .int .i64 x, .int .i64 y]] W fun e w' => e = .returned (.tuple #[.agg #[.int .i64 z1, .int .i64 z2], .int .i64 F]) ∧ Kept W w' from fun W => by have k := f_BlowC h (calm x y p) W; rwa [hF, ← hz1, ← hz2] at k)
  have KC := Lib.hid (show ∀ W, Calls Try.prog 40 #[.agg #[.int .i64 h.room, .int .i64 h.gas, .int .i64 h.wlo, .int .i64 h.whi, .int .i64 h.ballonet, .int .i64 h.bag, .int .i64 h.least, .int .i64 h.most], .agg #[.int .i64 N, .int .i64 N, .int .i64 x, .int .i64 y]] W fun e w' => e = .returned (.tuple #[.agg #[.int .i64 u1, .int .i64 u2], .int .i64 0]) ∧ Kept W w' from fun W => by have k := f_BlowC h (calm x y N) W; rwa [g2, ifOk_ok, ifOk_ok, ← hu1, ← hu2] at k)
  rw [hF] at g4
  have d1 : decide (1000 ≤ N) = true := by simp; omega
  have d2 : decide (N ≤ 12000) = true := by simp; omega
  have d3 : decide (u1 ≤ u2) = true := by simp; omega
  clear hE hF hN hz1 hz2 hu1 hu2 g2
  rcases hFc with rfl | rfl
  · have d4 : decide (N ≤ p) = true := by
      simp only [decide_eq_true_eq]
      by_cases hp : p < N
      · exact absurd (g4 hp) (by decide)
      · omega
    clear g4
    go_enter Try.func18, Try.ntmps18
    go_upto_region 5 with (first | (go_at_call 68; (with_reducible refine (o_alive _).mono ?_); rintro e wa ⟨rfl, hba⟩; refine Blk.thru (b := w.heap.size) (arr := ?_) (t := ?_) ?_ hba ?_; rotate_left 2; (focus (exact blk)); intro aq0; have aq0c0 := aq0.cell 0; have aq0f0 := aq0.free 0; have aq0c1 := aq0.cell 1; have aq0f1 := aq0.free 1; have aq0c2 := aq0.cell 2; have aq0f2 := aq0.free 2; have aq0c3 := aq0.cell 3; have aq0f3 := aq0.free 3; have aq0c4 := aq0.cell 4; have aq0f4 := aq0.free 4; have aq0c5 := aq0.cell 5; have aq0f5 := aq0.free 5; have aq0c6 := aq0.cell 6; have aq0f6 := aq0.free 6; have aq0c7 := aq0.cell 7; have aq0f7 := aq0.free 7; have aq0l := aq0.lt; simp at aq0c0 aq0c1 aq0c2 aq0c3 aq0c4 aq0c5 aq0c6 aq0c7; refine Blk.thru (b := w.heap.size + 1) (arr := ?_) (t := ?_) ?_ hba ?_; rotate_left 2; (focus (exact blk)); intro aq1; have aq1c0 := aq1.cell 0; have aq1f0 := aq1.free 0; have aq1c1 := aq1.cell 1; have aq1f1 := aq1.free 1; have aq1l := aq1.lt; simp at aq1c0 aq1c1) | (go_at_call 42; (with_reducible refine (KR.out _).mono ?_); rintro e wr ⟨rfl, hbr⟩; refine Blk.thru (b := w.heap.size) (arr := ?_) (t := ?_) ?_ hbr ?_; rotate_left 2; (focus (exact blk)); intro bq0; have bq0c0 := bq0.cell 0; have bq0f0 := bq0.free 0; have bq0c1 := bq0.cell 1; have bq0f1 := bq0.free 1; have bq0c2 := bq0.cell 2; have bq0f2 := bq0.free 2; have bq0c3 := bq0.cell 3; have bq0f3 := bq0.free 3; have bq0c4 := bq0.cell 4; have bq0f4 := bq0.free 4; have bq0c5 := bq0.cell 5; have bq0f5 := bq0.free 5; have bq0c6 := bq0.cell 6; have bq0f6 := bq0.free 6; have bq0c7 := bq0.cell 7; have bq0f7 := bq0.free 7; have bq0l := bq0.lt; simp at bq0c0 bq0c1 bq0c2 bq0c3 bq0c4 bq0c5 bq0c6 bq0c7; refine Blk.thru (b := w.heap.size + 1) (arr := ?_) (t := ?_) ?_ hbr ?_; rotate_left 2; (focus (exact blk)); intro bq1; have bq1c0 := bq1.cell 0; have bq1f0 := bq1.free 0; have bq1c1 := bq1.cell 1; have bq1f1 := bq1.free 1; have bq1l := bq1.lt; simp at bq1c0 bq1c1))
    refine at_world (S := fun V => Blk V (w.heap.size) #[.int .i64 h.room, .int .i64 h.gas, .int .i64 h.wlo, .int .i64 h.whi, .int .i64 h.ballonet, .int .i64 h.bag, .int .i64 h.least, .int .i64 h.most] 45 ∧ Blk V (w.heap.size + 1) #[.int .i64 x, .int .i64 y] 23 ∧ Kept w V) ⟨by (exact blkc), by (exact blkc), by (exact kpt)⟩ ?_
    rintro V ⟨q0, q1, hkV⟩
    go_cut [10] (fun s10 wx => ∃ n, s10 = .pointer (some ⟨n, 0, none⟩) ∧ w.heap.size ≤ n ∧ Blk wx n #[.int .i64 p, .int .i64 p, .int .i64 x, .int .i64 y] 27 ∧ Blk wx w.heap.size #[.int .i64 h.room, .int .i64 h.gas, .int .i64 h.wlo, .int .i64 h.whi, .int .i64 h.ballonet, .int .i64 h.bag, .int .i64 h.least, .int .i64 h.most] 45 ∧ Blk wx (w.heap.size + 1) #[.int .i64 x, .int .i64 y] 23 ∧ Kept w wx)
    case first =>
      have q1k0 : ∀ w', Kept V w' → w'.cell? ⟨(w.heap.size + 1), 0, none⟩ = _ := fun w' h => (q1.keep h).cell 0
      have q1k1 : ∀ w', Kept V w' → w'.cell? ⟨(w.heap.size + 1), 1, none⟩ = _ := fun w' h => (q1.keep h).cell 1
      simp at q1k0 q1k1
      have l0 := q0.lt
      have l1 := q1.lt
      go_region_held3 (fun w' => Kept V w') (exact kpt) (first | (go_at_call 69; (with_reducible refine (o_one _ _).mono ?_); rintro e w3 ⟨rfl, hb3⟩; (first | (refine Blk.thru (b := V.heap.size) (arr := #[.int .i64 0, .int .i64 0, .int .i64 0, .int .i64 0]) (t := 27) ?_ hb3 ?_; (focus (first | with_reducible assumption | (refine Blk.new' ?_; (focus (simp; done))) | (refine Blk.drew (Blk.new' ?_); (focus (simp; done))) | (refine Blk.alloc (Blk.new' ?_) _; (focus (simp; done))) | (refine Blk.drew (Blk.alloc (Blk.new' ?_) _); (focus (simp; done))) | (refine Blk.alloc (Blk.drew (Blk.new' ?_)) _; (focus (simp; done))) | (refine Blk.alloc ?_ _; with_reducible assumption) | (refine Blk.drew ?_; with_reducible assumption) | (refine Blk.drew (Blk.alloc ?_ _); with_reducible assumption) | fail)); intro ta; have tac0 := ta.cell 0; have taf0 := ta.free 0; have tac1 := ta.cell 1; have taf1 := ta.free 1; have tac2 := ta.cell 2; have taf2 := ta.free 2; have tac3 := ta.cell 3; have taf3 := ta.free 3; have tal := ta.lt; simp at tac0 tac1 tac2 tac3) | skip)) | fail)
      all_goals (go_wp2_with fail; go_meet)
      all_goals exact ⟨_, rfl, by (have h1 := hkV.size; first | omega | (have h2 := hb3.size; simp at h2; simp; omega) | (have h2 := hb3.size; simp at h2; omega)), by exact blkx, by exact blkx, by exact blkx, by exact kpt⟩
    case rest =>
      clear q0 q1 hkV
      obtain ⟨n, rfl, hnw, q10, q0, q1, hk⟩ := hcut
      have hn0 := Blk.ne q10 q0 (by decide)
      have hn1 := Blk.ne q0 q10 (by decide)
      have hn2 := Blk.ne q10 q1 (by decide)
      have hn3 := Blk.ne q1 q10 (by decide)
      have q10c0 := q10.cell 0
      have q10f0 := q10.free 0
      have q10c1 := q10.cell 1
      have q10f1 := q10.free 1
      have q10c2 := q10.cell 2
      have q10f2 := q10.free 2
      have q10c3 := q10.cell 3
      have q10f3 := q10.free 3
      have q10l := q10.lt
      simp at q10c0 q10c1 q10c2 q10c3
      have q0c0 := q0.cell 0
      have q0f0 := q0.free 0
      have q0c1 := q0.cell 1
      have q0f1 := q0.free 1
      have q0c2 := q0.cell 2
      have q0f2 := q0.free 2
      have q0c3 := q0.cell 3
      have q0f3 := q0.free 3
      have q0c4 := q0.cell 4
      have q0f4 := q0.free 4
      have q0c5 := q0.cell 5
      have q0f5 := q0.free 5
      have q0c6 := q0.cell 6
      have q0f6 := q0.free 6
      have q0c7 := q0.cell 7
      have q0f7 := q0.free 7
      have q0l := q0.lt
      simp at q0c0 q0c1 q0c2 q0c3 q0c4 q0c5 q0c6 q0c7
      have q1c0 := q1.cell 0
      have q1f0 := q1.free 0
      have q1c1 := q1.cell 1
      have q1f1 := q1.free 1
      have q1l := q1.lt
      simp at q1c0 q1c1
      go_wp2_with (first | (go_at_call 40; (with_reducible refine (KB.out _).mono ?_); rintro e wb ⟨rfl, hbb⟩; refine Blk.thru (b := n) (arr := ?_) (t := ?_) ?_ hbb ?_; rotate_left 2; (focus (exact blk)); intro cq10; have cq10c0 := cq10.cell 0; have cq10f0 := cq10.free 0; have cq10c1 := cq10.cell 1; have cq10f1 := cq10.free 1; have cq10c2 := cq10.cell 2; have cq10f2 := cq10.free 2; have cq10c3 := cq10.cell 3; have cq10f3 := cq10.free 3; have cq10l := cq10.lt; simp at cq10c0 cq10c1 cq10c2 cq10c3; refine Blk.thru (b := w.heap.size) (arr := ?_) (t := ?_) ?_ hbb ?_; rotate_left 2; (focus (exact blk)); intro cq0; have cq0c0 := cq0.cell 0; have cq0f0 := cq0.free 0; have cq0c1 := cq0.cell 1; have cq0f1 := cq0.free 1; have cq0c2 := cq0.cell 2; have cq0f2 := cq0.free 2; have cq0c3 := cq0.cell 3; have cq0f3 := cq0.free 3; have cq0c4 := cq0.cell 4; have cq0f4 := cq0.free 4; have cq0c5 := cq0.cell 5; have cq0f5 := cq0.free 5; have cq0c6 := cq0.cell 6; have cq0f6 := cq0.free 6; have cq0c7 := cq0.cell 7; have cq0f7 := cq0.free 7; have cq0l := cq0.lt; simp at cq0c0 cq0c1 cq0c2 cq0c3 cq0c4 cq0c5 cq0c6 cq0c7; refine Blk.thru (b := w.heap.size + 1) (arr := ?_) (t := ?_) ?_ hbb ?_; rotate_left 2; (focus (exact blk)); intro cq1; have cq1c0 := cq1.cell 0; have cq1f0 := cq1.free 0; have cq1c1 := cq1.cell 1; have cq1f1 := cq1.free 1; have cq1l := cq1.lt; simp at cq1c0 cq1c1) | (go_at_call 69; (with_reducible refine (o_one N _).mono ?_); rintro e wo ⟨rfl, hbo⟩; refine Blk.thru (b := n) (arr := ?_) (t := ?_) ?_ hbo ?_; rotate_left 2; (focus (exact blk)); intro dq10; have dq10c0 := dq10.cell 0; have dq10f0 := dq10.free 0; have dq10c1 := dq10.cell 1; have dq10f1 := dq10.free 1; have dq10c2 := dq10.cell 2; have dq10f2 := dq10.free 2; have dq10c3 := dq10.cell 3; have dq10f3 := dq10.free 3; have dq10l := dq10.lt; simp at dq10c0 dq10c1 dq10c2 dq10c3; refine Blk.thru (b := w.heap.size) (arr := ?_) (t := ?_) ?_ hbo ?_; rotate_left 2; (focus (exact blk)); intro dq0; have dq0c0 := dq0.cell 0; have dq0f0 := dq0.free 0; have dq0c1 := dq0.cell 1; have dq0f1 := dq0.free 1; have dq0c2 := dq0.cell 2; have dq0f2 := dq0.free 2; have dq0c3 := dq0.cell 3; have dq0f3 := dq0.free 3; have dq0c4 := dq0.cell 4; have dq0f4 := dq0.free 4; have dq0c5 := dq0.cell 5; have dq0f5 := dq0.free 5; have dq0c6 := dq0.cell 6; have dq0f6 := dq0.free 6; have dq0c7 := dq0.cell 7; have dq0f7 := dq0.free 7; have dq0l := dq0.lt; simp at dq0c0 dq0c1 dq0c2 dq0c3 dq0c4 dq0c5 dq0c6 dq0c7) | (go_at_call 40; (with_reducible refine (KC.out _).mono ?_); rintro e wc ⟨rfl, hbc⟩; ))
      all_goals
        go_ret
        exact ⟨rfl, by (exact kpt)⟩
  · clear g4
    go_enter Try.func18, Try.ntmps18
    go_upto_region 5 with (first | (go_at_call 68; (with_reducible refine (o_alive _).mono ?_); rintro e wa ⟨rfl, hba⟩; refine Blk.thru (b := w.heap.size) (arr := ?_) (t := ?_) ?_ hba ?_; rotate_left 2; (focus (exact blk)); intro aq0; have aq0c0 := aq0.cell 0; have aq0f0 := aq0.free 0; have aq0c1 := aq0.cell 1; have aq0f1 := aq0.free 1; have aq0c2 := aq0.cell 2; have aq0f2 := aq0.free 2; have aq0c3 := aq0.cell 3; have aq0f3 := aq0.free 3; have aq0c4 := aq0.cell 4; have aq0f4 := aq0.free 4; have aq0c5 := aq0.cell 5; have aq0f5 := aq0.free 5; have aq0c6 := aq0.cell 6; have aq0f6 := aq0.free 6; have aq0c7 := aq0.cell 7; have aq0f7 := aq0.free 7; have aq0l := aq0.lt; simp at aq0c0 aq0c1 aq0c2 aq0c3 aq0c4 aq0c5 aq0c6 aq0c7; refine Blk.thru (b := w.heap.size + 1) (arr := ?_) (t := ?_) ?_ hba ?_; rotate_left 2; (focus (exact blk)); intro aq1; have aq1c0 := aq1.cell 0; have aq1f0 := aq1.free 0; have aq1c1 := aq1.cell 1; have aq1f1 := aq1.free 1; have aq1l := aq1.lt; simp at aq1c0 aq1c1) | (go_at_call 42; (with_reducible refine (KR.out _).mono ?_); rintro e wr ⟨rfl, hbr⟩; refine Blk.thru (b := w.heap.size) (arr := ?_) (t := ?_) ?_ hbr ?_; rotate_left 2; (focus (exact blk)); intro bq0; have bq0c0 := bq0.cell 0; have bq0f0 := bq0.free 0; have bq0c1 := bq0.cell 1; have bq0f1 := bq0.free 1; have bq0c2 := bq0.cell 2; have bq0f2 := bq0.free 2; have bq0c3 := bq0.cell 3; have bq0f3 := bq0.free 3; have bq0c4 := bq0.cell 4; have bq0f4 := bq0.free 4; have bq0c5 := bq0.cell 5; have bq0f5 := bq0.free 5; have bq0c6 := bq0.cell 6; have bq0f6 := bq0.free 6; have bq0c7 := bq0.cell 7; have bq0f7 := bq0.free 7; have bq0l := bq0.lt; simp at bq0c0 bq0c1 bq0c2 bq0c3 bq0c4 bq0c5 bq0c6 bq0c7; refine Blk.thru (b := w.heap.size + 1) (arr := ?_) (t := ?_) ?_ hbr ?_; rotate_left 2; (focus (exact blk)); intro bq1; have bq1c0 := bq1.cell 0; have bq1f0 := bq1.free 0; have bq1c1 := bq1.cell 1; have bq1f1 := bq1.free 1; have bq1l := bq1.lt; simp at bq1c0 bq1c1))
    refine at_world (S := fun V => Blk V (w.heap.size) #[.int .i64 h.room, .int .i64 h.gas, .int .i64 h.wlo, .int .i64 h.whi, .int .i64 h.ballonet, .int .i64 h.bag, .int .i64 h.least, .int .i64 h.most] 45 ∧ Blk V (w.heap.size + 1) #[.int .i64 x, .int .i64 y] 23 ∧ Kept w V) ⟨by (exact blkc), by (exact blkc), by (exact kpt)⟩ ?_
    rintro V ⟨q0, q1, hkV⟩
    go_cut [10] (fun s10 wx => ∃ n, s10 = .pointer (some ⟨n, 0, none⟩) ∧ w.heap.size ≤ n ∧ Blk wx n #[.int .i64 p, .int .i64 p, .int .i64 x, .int .i64 y] 27 ∧ Blk wx w.heap.size #[.int .i64 h.room, .int .i64 h.gas, .int .i64 h.wlo, .int .i64 h.whi, .int .i64 h.ballonet, .int .i64 h.bag, .int .i64 h.least, .int .i64 h.most] 45 ∧ Blk wx (w.heap.size + 1) #[.int .i64 x, .int .i64 y] 23 ∧ Kept w wx)
    case first =>
      have q1k0 : ∀ w', Kept V w' → w'.cell? ⟨(w.heap.size + 1), 0, none⟩ = _ := fun w' h => (q1.keep h).cell 0
      have q1k1 : ∀ w', Kept V w' → w'.cell? ⟨(w.heap.size + 1), 1, none⟩ = _ := fun w' h => (q1.keep h).cell 1
      simp at q1k0 q1k1
      have l0 := q0.lt
      have l1 := q1.lt
      go_region_held3 (fun w' => Kept V w') (exact kpt) (first | (go_at_call 69; (with_reducible refine (o_one _ _).mono ?_); rintro e w3 ⟨rfl, hb3⟩; (first | (refine Blk.thru (b := V.heap.size) (arr := #[.int .i64 0, .int .i64 0, .int .i64 0, .int .i64 0]) (t := 27) ?_ hb3 ?_; (focus (first | with_reducible assumption | (refine Blk.new' ?_; (focus (simp; done))) | (refine Blk.drew (Blk.new' ?_); (focus (simp; done))) | (refine Blk.alloc (Blk.new' ?_) _; (focus (simp; done))) | (refine Blk.drew (Blk.alloc (Blk.new' ?_) _); (focus (simp; done))) | (refine Blk.alloc (Blk.drew (Blk.new' ?_)) _; (focus (simp; done))) | (refine Blk.alloc ?_ _; with_reducible assumption) | (refine Blk.drew ?_; with_reducible assumption) | (refine Blk.drew (Blk.alloc ?_ _); with_reducible assumption) | fail)); intro ta; have tac0 := ta.cell 0; have taf0 := ta.free 0; have tac1 := ta.cell 1; have taf1 := ta.free 1; have tac2 := ta.cell 2; have taf2 := ta.free 2; have tac3 := ta.cell 3; have taf3 := ta.free 3; have tal := ta.lt; simp at tac0 tac1 tac2 tac3) | skip)) | fail)
      all_goals (go_wp2_with fail; go_meet)
      all_goals exact ⟨_, rfl, by (have h1 := hkV.size; first | omega | (have h2 := hb3.size; simp at h2; simp; omega) | (have h2 := hb3.size; simp at h2; omega)), by exact blkx, by exact blkx, by exact blkx, by exact kpt⟩
    case rest =>
      clear q0 q1 hkV
      obtain ⟨n, rfl, hnw, q10, q0, q1, hk⟩ := hcut
      have hn0 := Blk.ne q10 q0 (by decide)
      have hn1 := Blk.ne q0 q10 (by decide)
      have hn2 := Blk.ne q10 q1 (by decide)
      have hn3 := Blk.ne q1 q10 (by decide)
      have q10c0 := q10.cell 0
      have q10f0 := q10.free 0
      have q10c1 := q10.cell 1
      have q10f1 := q10.free 1
      have q10c2 := q10.cell 2
      have q10f2 := q10.free 2
      have q10c3 := q10.cell 3
      have q10f3 := q10.free 3
      have q10l := q10.lt
      simp at q10c0 q10c1 q10c2 q10c3
      have q0c0 := q0.cell 0
      have q0f0 := q0.free 0
      have q0c1 := q0.cell 1
      have q0f1 := q0.free 1
      have q0c2 := q0.cell 2
      have q0f2 := q0.free 2
      have q0c3 := q0.cell 3
      have q0f3 := q0.free 3
      have q0c4 := q0.cell 4
      have q0f4 := q0.free 4
      have q0c5 := q0.cell 5
      have q0f5 := q0.free 5
      have q0c6 := q0.cell 6
      have q0f6 := q0.free 6
      have q0c7 := q0.cell 7
      have q0f7 := q0.free 7
      have q0l := q0.lt
      simp at q0c0 q0c1 q0c2 q0c3 q0c4 q0c5 q0c6 q0c7
      have q1c0 := q1.cell 0
      have q1f0 := q1.free 0
      have q1c1 := q1.cell 1
      have q1f1 := q1.free 1
      have q1l := q1.lt
      simp at q1c0 q1c1
      go_wp2_with (first | (go_at_call 40; (with_reducible refine (KB.out _).mono ?_); rintro e wb ⟨rfl, hbb⟩; refine Blk.thru (b := n) (arr := ?_) (t := ?_) ?_ hbb ?_; rotate_left 2; (focus (exact blk)); intro cq10; have cq10c0 := cq10.cell 0; have cq10f0 := cq10.free 0; have cq10c1 := cq10.cell 1; have cq10f1 := cq10.free 1; have cq10c2 := cq10.cell 2; have cq10f2 := cq10.free 2; have cq10c3 := cq10.cell 3; have cq10f3 := cq10.free 3; have cq10l := cq10.lt; simp at cq10c0 cq10c1 cq10c2 cq10c3; refine Blk.thru (b := w.heap.size) (arr := ?_) (t := ?_) ?_ hbb ?_; rotate_left 2; (focus (exact blk)); intro cq0; have cq0c0 := cq0.cell 0; have cq0f0 := cq0.free 0; have cq0c1 := cq0.cell 1; have cq0f1 := cq0.free 1; have cq0c2 := cq0.cell 2; have cq0f2 := cq0.free 2; have cq0c3 := cq0.cell 3; have cq0f3 := cq0.free 3; have cq0c4 := cq0.cell 4; have cq0f4 := cq0.free 4; have cq0c5 := cq0.cell 5; have cq0f5 := cq0.free 5; have cq0c6 := cq0.cell 6; have cq0f6 := cq0.free 6; have cq0c7 := cq0.cell 7; have cq0f7 := cq0.free 7; have cq0l := cq0.lt; simp at cq0c0 cq0c1 cq0c2 cq0c3 cq0c4 cq0c5 cq0c6 cq0c7; refine Blk.thru (b := w.heap.size + 1) (arr := ?_) (t := ?_) ?_ hbb ?_; rotate_left 2; (focus (exact blk)); intro cq1; have cq1c0 := cq1.cell 0; have cq1f0 := cq1.free 0; have cq1c1 := cq1.cell 1; have cq1f1 := cq1.free 1; have cq1l := cq1.lt; simp at cq1c0 cq1c1) | (go_at_call 69; (with_reducible refine (o_one N _).mono ?_); rintro e wo ⟨rfl, hbo⟩; refine Blk.thru (b := n) (arr := ?_) (t := ?_) ?_ hbo ?_; rotate_left 2; (focus (exact blk)); intro dq10; have dq10c0 := dq10.cell 0; have dq10f0 := dq10.free 0; have dq10c1 := dq10.cell 1; have dq10f1 := dq10.free 1; have dq10c2 := dq10.cell 2; have dq10f2 := dq10.free 2; have dq10c3 := dq10.cell 3; have dq10f3 := dq10.free 3; have dq10l := dq10.lt; simp at dq10c0 dq10c1 dq10c2 dq10c3; refine Blk.thru (b := w.heap.size) (arr := ?_) (t := ?_) ?_ hbo ?_; rotate_left 2; (focus (exact blk)); intro dq0; have dq0c0 := dq0.cell 0; have dq0f0 := dq0.free 0; have dq0c1 := dq0.cell 1; have dq0f1 := dq0.free 1; have dq0c2 := dq0.cell 2; have dq0f2 := dq0.free 2; have dq0c3 := dq0.cell 3; have dq0f3 := dq0.free 3; have dq0c4 := dq0.cell 4; have dq0f4 := dq0.free 4; have dq0c5 := dq0.cell 5; have dq0f5 := dq0.free 5; have dq0c6 := dq0.cell 6; have dq0f6 := dq0.free 6; have dq0c7 := dq0.cell 7; have dq0f7 := dq0.free 7; have dq0l := dq0.lt; simp at dq0c0 dq0c1 dq0c2 dq0c3 dq0c4 dq0c5 dq0c6 dq0c7) | (go_at_call 40; (with_reducible refine (KC.out _).mono ?_); rintro e wc ⟨rfl, hbc⟩; ))
      all_goals
        go_ret
        exact ⟨rfl, by (exact kpt)⟩

theorem law_GasRoof (h : Hl) (x y p : Int) (w : World)  : Calls Try.prog 18 #[.agg #[.int .i64 h.room, .int .i64 h.gas, .int .i64 h.wlo, .int .i64 h.whi, .int .i64 h.ballonet, .int .i64 h.bag, .int .i64 h.least, .int .i64 h.most], .agg #[.int .i64 x, .int .i64 y], .int .i64 p] w fun e w' => e = .returned (.bool true) ∧ Kept w w' := by
  rcases roofCE_cases h x y with hE | hE | hE | hE
  · rcases blowE_cases h (calm x y p) with hF | hF | hF | hF
    · exact law_GasRoof_o h x y p w 0 (.inl rfl) hE hF
    · exact law_GasRoof_o h x y p w 6 (.inr rfl) hE hF
    · exact law_GasRoof_f h x y p w 0 30 (.inl rfl) (.inl rfl) hE hF
    · exact law_GasRoof_f h x y p w 0 33 (.inl rfl) (.inr rfl) hE hF
  · rcases blowE_cases h (calm x y p) with hF | hF | hF | hF
    · have := (roof_none hE (.inl hF)).1
      rw [hF] at this
      cases this
    · exact law_GasRoof_n h x y p w hE hF (roof_none hE (.inr hF)).2
    · exact law_GasRoof_f h x y p w 6 30 (.inr rfl) (.inl rfl) hE hF
    · exact law_GasRoof_f h x y p w 6 33 (.inr rfl) (.inr rfl) hE hF
  · exact law_GasRoof_e h x y p w 2 _ (.inl rfl) hE rfl
  · exact law_GasRoof_e h x y p w 33 _ (.inr rfl) hE rfl

end Go.Proofs.Ytemafanncejeiaa

/-
  Structs as cells of memory. No program in sight.
-/
namespace Bal.Gas
open Go Go.RowKit Bal

def Hl.cells (x : Hl) : List Value := [.int .i64 x.room, .int .i64 x.gas, .int .i64 x.wlo, .int .i64 x.whi, .int .i64 x.ballonet, .int .i64 x.bag, .int .i64 x.least, .int .i64 x.most]
theorem Hl.row {B : Nat} {w : World} {a : Option Addr} {xs : List Hl} (h : Row Hl.cells 8 B w a xs) (i : Nat) (hi : i < xs.length) :
    ∃ b off, a = some ⟨b, off, none⟩ ∧ b < B ∧ w.cell? ⟨b, off + i * 8, none⟩ = some (.int .i64 xs[i].room) ∧ w.cell? ⟨b, off + i * 8 + 1, none⟩ = some (.int .i64 xs[i].gas) ∧ w.cell? ⟨b, off + i * 8 + 2, none⟩ = some (.int .i64 xs[i].wlo) ∧ w.cell? ⟨b, off + i * 8 + 3, none⟩ = some (.int .i64 xs[i].whi) ∧ w.cell? ⟨b, off + i * 8 + 4, none⟩ = some (.int .i64 xs[i].ballonet) ∧ w.cell? ⟨b, off + i * 8 + 5, none⟩ = some (.int .i64 xs[i].bag) ∧ w.cell? ⟨b, off + i * 8 + 6, none⟩ = some (.int .i64 xs[i].least) ∧ w.cell? ⟨b, off + i * 8 + 7, none⟩ = some (.int .i64 xs[i].most) := by
  obtain ⟨b, off, ha, hb, hc⟩ := h i xs[i] (by simp [hi])
  exact ⟨b, off, ha, hb, hc 0 _ rfl, hc 1 _ rfl, hc 2 _ rfl, hc 3 _ rfl, hc 4 _ rfl, hc 5 _ rfl, hc 6 _ rfl, hc 7 _ rfl⟩
theorem Hl.of_leaves {cs : List Value} (h : LeavesOk [.int .i64, .int .i64, .int .i64, .int .i64, .int .i64, .int .i64, .int .i64, .int .i64] cs) : ∃ x : Hl, cs = x.cells ∧ (Lit.int .i64 x.room).wf = true ∧ (Lit.int .i64 x.gas).wf = true ∧ (Lit.int .i64 x.wlo).wf = true ∧ (Lit.int .i64 x.whi).wf = true ∧ (Lit.int .i64 x.ballonet).wf = true ∧ (Lit.int .i64 x.bag).wf = true ∧ (Lit.int .i64 x.least).wf = true ∧ (Lit.int .i64 x.most).wf = true := by
  obtain ⟨hl, h⟩ := h
  match cs, hl with
  | [v0, v1, v2, v3, v4, v5, v6, v7], _ =>
    obtain ⟨_, e0, n0, rfl, w0⟩ := h 0 (.int .i64) rfl; simp at e0; subst e0
    obtain ⟨_, e1, n1, rfl, w1⟩ := h 1 (.int .i64) rfl; simp at e1; subst e1
    obtain ⟨_, e2, n2, rfl, w2⟩ := h 2 (.int .i64) rfl; simp at e2; subst e2
    obtain ⟨_, e3, n3, rfl, w3⟩ := h 3 (.int .i64) rfl; simp at e3; subst e3
    obtain ⟨_, e4, n4, rfl, w4⟩ := h 4 (.int .i64) rfl; simp at e4; subst e4
    obtain ⟨_, e5, n5, rfl, w5⟩ := h 5 (.int .i64) rfl; simp at e5; subst e5
    obtain ⟨_, e6, n6, rfl, w6⟩ := h 6 (.int .i64) rfl; simp at e6; subst e6
    obtain ⟨_, e7, n7, rfl, w7⟩ := h 7 (.int .i64) rfl; simp at e7; subst e7
    exact ⟨⟨n0, n1, n2, n3, n4, n5, n6, n7⟩, rfl, w0, w1, w2, w3, w4, w5, w6, w7⟩

end Bal.Gas

/-
  GasRoof, the statement: for every input the call returns true and leaves the input alone.
-/
namespace Go.Proofs.Ytemafanncejeiaa.gasRoof
open Go.ChangeShapes Go.WideShapes Go.ChangeAt Go.RowKit Bal Bal.Trim Bal.Gas
open Go.ChangeMaps (open_string shut_string)
set_option linter.unusedVariables false

theorem own : ownKnob Try.prog.godebug = none := by kernel_rfl
theorem laidOut : laidOutB Try.prog = true := by kernel_rfl

set_option maxRecDepth 100000 in
theorem lifted (os : Os) (started : os.Started) (H : Type) (enc : TypeId × Value → H) :
    ReturnsInHanded {} Try.checked os 18 .any (Rows.gasRoofSpec.pre6 enc Try.prog Try.f18 Rows.gasRoofRow.domain false) (Rows.gasRoofSpec.post enc Try.prog Try.f18 false true false false) := by
  refine returnsInHanded_of_change (C := Try.checked) own started (by kernel_rfl) Try.func18
    (ChangeSpec.witness6 (enc := enc) (C := Try.checked) false ⟨#[], #[.agg #[.int .i64 0, .int .i64 0, .int .i64 0, .int .i64 0, .int .i64 0, .int .i64 0, .int .i64 0, .int .i64 0], .agg #[.int .i64 0, .int .i64 0], .int .i64 0], []⟩ 8 (by kernel_rfl) (by kernel_rfl) (by kernel_rfl) (by kernel_rfl)) ?_
  intro W base args ds gs before hval0 hW hcnd _
  have hval : ∀ (j : Nat) t v, Try.f18.params[j]? = some t → args[j]? = some v → Value.okWide Try.prog W .any base t v := hval0
  have hW' := hW
  obtain ⟨p, q, hA0, hV, rfl, hfz, hnd⟩ := hW
  have hA : DataW.TrodAll enc Try.prog W 0 (fun _ => true) true Try.f18.params.toList args.toList ds p := hA0
  rw [Try.params18] at hA hval
  obtain ⟨v0, vs0, d0, ds0, p0, q0, hargs, rfl, rfl, h0, r0⟩ := trodAll_cons hA
  obtain ⟨v1, vs1, d1, ds1, p1, q1, rfl, rfl, rfl, h1, r1⟩ := trodAll_cons r0
  obtain ⟨v2, vs2, d2, ds2, p2, q2, rfl, rfl, rfl, h2, r2⟩ := trodAll_cons r1
  obtain ⟨rfl, rfl, rfl⟩ := trodAll_nil r2
  obtain rfl : args = #[v0, v1, v2] := by cases args; simp_all
  obtain ⟨rfl, rfl⟩ := trodVars_none hV
  have k0 := h0
  have lt0 : ∀ x ∈ p0, x.block < W.heap.size := by obtain ⟨m, hm⟩ := k0; exact DataW.trod_lt m _ _ _ hm
  obtain ⟨a0, rfl, wf0⟩ := open_agg (n := 5) (fun _ h => Hl.of_leaves h) Try.underlying45 (by kernel_rfl) (hval 0 45 v0 rfl rfl) h0
  have k1 := h1
  have lt1 : ∀ x ∈ p1, x.block < W.heap.size := by obtain ⟨m, hm⟩ := k1; exact DataW.trod_lt m _ _ _ hm
  obtain ⟨a1, rfl, wf1⟩ := open_agg (n := 5) (fun _ h => Sp.of_leaves h) Try.underlying23 (by kernel_rfl) (hval 1 23 v1 rfl rfl) h1
  obtain ⟨a2, rfl, rfl, rfl, w2⟩ := open_int Try.underlying3 (hval 2 3 v2 rfl rfl) h2
  clear hA0 hval0
  refine (law_GasRoof a0 a1.lo a1.hi a2 W).mono fun e W' ⟨he, bel⟩ => ?_
  subst he
  exact ⟨_, rfl, _, _, _, [], _, [], hW', trodAll_mk1 (shut_bool Try.underlying4 _), (trodAll_cons_mk (Below.trod laidOut (by kernel_rfl) (of_decide_eq_true (by kernel_rfl)) k0 bel lt0) (trodAll_cons_mk (Below.trod laidOut (by kernel_rfl) (of_decide_eq_true (by kernel_rfl)) k1 bel lt1) (trodAll_cons_mk (shut_int Try.underlying3 w2) trodAll_mk0))), rfl, bel.frame _, fun h => by cases h⟩

theorem joined : joinedFacts Try.prog 18 Try.f18 Rows.gasRoofSpec Rows.gasRoofRow = true := by
  unfold joinedFacts
  rw [mayEnter_is, liftsFinal_is, make_is]
  kernel_rfl
theorem over : Rows.gasRoofRow.holds Try.pinned (OpenSpec.ofChange Rows.gasRoofSpec) :=
  OpenClaim.holds_of_wide 18 Try.f18 rfl rfl rfl rfl rfl rfl rfl ⟨rfl, rfl, rfl, rfl, rfl⟩ rfl rfl rfl rfl rfl (by kernel_rfl) Try.func18 joined
    (of_decide_eq_true (by kernel_rfl)) (by unfold Func.isWrapper; first | (rw [if_pos (by decide +kernel)]; kernel_rfl) | (rw [if_neg (by decide +kernel)]; exact ⟨rfl, rfl⟩))
    (fun os started H enc _ => lifted os started H enc)
end Go.Proofs.Ytemafanncejeiaa.gasRoof

namespace Go.Proofs.Ytemafanncejeiaa
theorem gasRoof_holds : Rows.GasRoofSaid := gasRoof.over
#print axioms gasRoof_holds
end Go.Proofs.Ytemafanncejeiaa
