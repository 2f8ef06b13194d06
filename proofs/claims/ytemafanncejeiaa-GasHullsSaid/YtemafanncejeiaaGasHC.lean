/-
  Hulls: what the functions answer, errors and all.
-/
import Derived.Test.YtemafanncejeiaaGasHA
import Derived.Test.YtemafanncejeiaaGasHR
namespace Go.Proofs.Ytemafanncejeiaa
open Go.RowKit Bal Bal.Trim Bal.Gas
set_option linter.unusedVariables false
set_option linter.unusedSimpArgs false
set_option maxHeartbeats 800000

theorem f_OverC (h : Hl) (a : Air) (w : World) :
    Calls Try.prog 36 #[.agg #[.int .i64 h.room, .int .i64 h.gas, .int .i64 h.wlo, .int .i64 h.whi, .int .i64 h.ballonet, .int .i64 h.bag, .int .i64 h.least, .int .i64 h.most], .agg #[.int .i64 a.plo, .int .i64 a.phi, .int .i64 a.tlo, .int .i64 a.thi]] w fun e w' => e = .returned (.tuple #[.agg #[.int .i64 (Bal.Gas.ifOk (hung h a) (overLo h a)), .int .i64 (Bal.Gas.ifOk (hung h a) (overHi h a))], .int .i64 (hung h a)]) ∧ Kept w w' := by
  cases hv : hullB h
  · rw [hung_hull hv]; exact f_Over_bad h a w hv
  · cases ha : airB a
    · rw [hung_air hv ha]; exact f_Over_air h a w hv ha
    · rw [hung_ok hv ha]; exact f_Over_ok h a w hv ha

theorem f_HoldsC (h : Hl) (a : Air) (w : World) :
    Calls Try.prog 38 #[.agg #[.int .i64 h.room, .int .i64 h.gas, .int .i64 h.wlo, .int .i64 h.whi, .int .i64 h.ballonet, .int .i64 h.bag, .int .i64 h.least, .int .i64 h.most], .agg #[.int .i64 a.plo, .int .i64 a.phi, .int .i64 a.tlo, .int .i64 a.thi]] w fun e w' => e = .returned (.tuple #[.bool (decide (hung h a = 0) && holdsB h a), .int .i64 (hung h a)]) ∧ Kept w w' := by
  cases hv : hullB h
  · rw [hung_hull hv]; exact f_Holds_bad h a w hv
  · cases ha : airB a
    · rw [hung_air hv ha]; exact f_Holds_air h a w hv ha
    · rw [hung_ok hv ha]; exact f_Holds_ok h a w hv ha

theorem f_BlowC (h : Hl) (a : Air) (w : World) :
    Calls Try.prog 40 #[.agg #[.int .i64 h.room, .int .i64 h.gas, .int .i64 h.wlo, .int .i64 h.whi, .int .i64 h.ballonet, .int .i64 h.bag, .int .i64 h.least, .int .i64 h.most], .agg #[.int .i64 a.plo, .int .i64 a.phi, .int .i64 a.tlo, .int .i64 a.thi]] w fun e w' => e = .returned (.tuple #[.agg #[.int .i64 (Bal.Gas.ifOk (blowE h a) (blowLo h a)), .int .i64 (Bal.Gas.ifOk (blowE h a) (blowHi h a))], .int .i64 (blowE h a)]) ∧ Kept w w' := by
  unfold blowE
  cases hv : hullB h
  · rw [hung_hull hv]; exact f_Blow_bad h a w hv
  · cases ha : airB a
    · rw [hung_air hv ha]; exact f_Blow_air h a w hv ha
    · rw [hung_ok hv ha]
      by_cases hc : blowHi h a < blowLo h a
      · simp only [hc, if_true]; exact f_Blow_none h a w hv ha hc
      · simp only [hc, if_true, if_false]; exact f_Blow_ok h a w hv ha hc

theorem f_RoofC (h : Hl) (x y : Int) (w : World) :
    Calls Try.prog 42 #[.agg #[.int .i64 h.room, .int .i64 h.gas, .int .i64 h.wlo, .int .i64 h.whi, .int .i64 h.ballonet, .int .i64 h.bag, .int .i64 h.least, .int .i64 h.most], .agg #[.int .i64 (x), .int .i64 (y)]] w fun e w' => e = .returned (.tuple #[.int .i64 (roofCN h x y), .int .i64 (roofCE h x y)]) ∧ Kept w w' := by
  unfold roofCN roofCE
  cases hv : hullB h
  · exact f_Roof_bad h x y w hv
  · cases hs : spanIn x y 1500 3500
    · exact f_Roof_arg h x y w hv hs
    · simp only [if_true]; exact f_Roof_ok h x y w hv hs

theorem r_OverC (h : Hl) (a : Air) (w : World) :
    Calls Try.prog 37 #[.agg #[.int .i64 h.room, .int .i64 h.gas, .int .i64 h.wlo, .int .i64 h.whi, .int .i64 h.ballonet, .int .i64 h.bag, .int .i64 h.least, .int .i64 h.most], .agg #[.int .i64 a.plo, .int .i64 a.phi, .int .i64 a.tlo, .int .i64 a.thi]] w fun e w' => e = .returned (.tuple #[.agg #[.int .i64 (Bal.Gas.ifOk (hung h a) (overLo h a)), .int .i64 (Bal.Gas.ifOk (hung h a) (overHi h a))], .int .i64 (hung h a)]) ∧ Kept w w' := by
  cases hv : hullB h
  · rw [hung_hull hv]; exact r_Over_bad h a w hv
  · cases ha : airB a
    · rw [hung_air hv ha]; exact r_Over_air h a w hv ha
    · rw [hung_ok hv ha]; exact r_Over_ok h a w hv ha

theorem r_HoldsC (h : Hl) (a : Air) (w : World) :
    Calls Try.prog 39 #[.agg #[.int .i64 h.room, .int .i64 h.gas, .int .i64 h.wlo, .int .i64 h.whi, .int .i64 h.ballonet, .int .i64 h.bag, .int .i64 h.least, .int .i64 h.most], .agg #[.int .i64 a.plo, .int .i64 a.phi, .int .i64 a.tlo, .int .i64 a.thi]] w fun e w' => e = .returned (.tuple #[.bool (decide (hung h a = 0) && holdsB h a), .int .i64 (hung h a)]) ∧ Kept w w' := by
  cases hv : hullB h
  · rw [hung_hull hv]; exact r_Holds_bad h a w hv
  · cases ha : airB a
    · rw [hung_air hv ha]; exact r_Holds_air h a w hv ha
    · rw [hung_ok hv ha]; exact r_Holds_ok h a w hv ha

theorem r_BlowC (h : Hl) (a : Air) (w : World) :
    Calls Try.prog 41 #[.agg #[.int .i64 h.room, .int .i64 h.gas, .int .i64 h.wlo, .int .i64 h.whi, .int .i64 h.ballonet, .int .i64 h.bag, .int .i64 h.least, .int .i64 h.most], .agg #[.int .i64 a.plo, .int .i64 a.phi, .int .i64 a.tlo, .int .i64 a.thi]] w fun e w' => e = .returned (.tuple #[.agg #[.int .i64 (Bal.Gas.ifOk (blowE h a) (blowLo h a)), .int .i64 (Bal.Gas.ifOk (blowE h a) (blowHi h a))], .int .i64 (blowE h a)]) ∧ Kept w w' := by
  unfold blowE
  cases hv : hullB h
  · rw [hung_hull hv]; exact r_Blow_bad h a w hv
  · cases ha : airB a
    · rw [hung_air hv ha]; exact r_Blow_air h a w hv ha
    · rw [hung_ok hv ha]
      by_cases hc : blowHi h a < blowLo h a
      · simp only [hc, if_true]; exact r_Blow_none h a w hv ha hc
      · simp only [hc, if_true, if_false]; exact r_Blow_ok h a w hv ha hc

theorem r_RoofC (h : Hl) (x y : Int) (w : World) :
    Calls Try.prog 43 #[.agg #[.int .i64 h.room, .int .i64 h.gas, .int .i64 h.wlo, .int .i64 h.whi, .int .i64 h.ballonet, .int .i64 h.bag, .int .i64 h.least, .int .i64 h.most], .agg #[.int .i64 (x), .int .i64 (y)]] w fun e w' => e = .returned (.tuple #[.int .i64 (roofCN h x y), .int .i64 (roofCE h x y)]) ∧ Kept w w' := by
  unfold roofCN roofCE
  cases hv : hullB h
  · exact r_Roof_bad h x y w hv
  · cases hs : spanIn x y 1500 3500
    · exact r_Roof_arg h x y w hv hs
    · simp only [if_true]; exact r_Roof_ok h x y w hv hs

end Go.Proofs.Ytemafanncejeiaa
