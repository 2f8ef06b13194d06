/-
  The program: Do.
-/
import Derived.Test.YtemafanncejeiaaGasDZ
namespace Go.Proofs.Ytemafanncejeiaa
open Go.RowKit Bal Bal.Trim Bal.Gas
set_option linter.unusedVariables false
set_option linter.unusedSimpArgs false
set_option maxHeartbeats 8000000

theorem f_zero_end {p : Plant} {d : Deed} {a : Option Addr} {cap : Nat} {w : World} {n : Int} (h : Calls Try.prog 48 #[.agg #[.slice a p.cells.length cap, .int .i64 p.bottles, .int .i64 p.inH, .int .i64 p.inA, .int .i64 p.vH, .int .i64 p.vA, .int .i64 p.lH, .int .i64 p.lA, .int .i64 p.pH, .int .i64 p.pA], .agg #[.int .u8 d.kind, .int .i64 d.cell, .int .i64 d.to, .int .i64 d.n]] w fun e w' => e = .returned (.tuple #[.agg #[.slice none 0 0, .int .i64 0, .int .i64 0, .int .i64 0, .int .i64 0, .int .i64 0, .int .i64 0, .int .i64 0, .int .i64 0, .int .i64 0], .int .i64 n]) ∧ Kept w w') : Calls Try.prog 48 #[.agg #[.slice a p.cells.length cap, .int .i64 p.bottles, .int .i64 p.inH, .int .i64 p.inA, .int .i64 p.vH, .int .i64 p.vA, .int .i64 p.lH, .int .i64 p.lA, .int .i64 p.pH, .int .i64 p.pA], .agg #[.int .u8 d.kind, .int .i64 d.cell, .int .i64 d.to, .int .i64 d.n]] w fun e w' => ∃ v, e = .returned (.tuple #[.agg #[v, .int .i64 (noPlant).bottles, .int .i64 (noPlant).inH, .int .i64 (noPlant).inA, .int .i64 (noPlant).vH, .int .i64 (noPlant).vA, .int .i64 (noPlant).lH, .int .i64 (noPlant).lA, .int .i64 (noPlant).pH, .int .i64 (noPlant).pA], .int .i64 (n)]) ∧ Mine 25 w.heap.size w' v (noPlant).cells ∧ Kept w w' := by
  refine h.mono ?_
  rintro e w' ⟨rfl, hk⟩
  exact ⟨.slice none 0 0, rfl, Mine.zero, hk⟩
theorem f_Do (p : Plant) (d : Deed) (a : Option Addr) (cap : Nat) (w : World) (hx : Row Cell.cells 7 w.heap.size w a p.cells) (hc : p.cells.length ≤ cap) (hM : cap ≤ maxLen) (hz : a = none → cap = 0) (hu : 0 ≤ d.kind ∧ d.kind ≤ 255) : Calls Try.prog 48 #[.agg #[.slice a p.cells.length cap, .int .i64 p.bottles, .int .i64 p.inH, .int .i64 p.inA, .int .i64 p.vH, .int .i64 p.vA, .int .i64 p.lH, .int .i64 p.lA, .int .i64 p.pH, .int .i64 p.pA], .agg #[.int .u8 d.kind, .int .i64 d.cell, .int .i64 d.to, .int .i64 d.n]] w fun e w' => ∃ v, e = .returned (.tuple #[.agg #[v, .int .i64 (doQ p d).bottles, .int .i64 (doQ p d).inH, .int .i64 (doQ p d).inA, .int .i64 (doQ p d).vH, .int .i64 (doQ p d).vA, .int .i64 (doQ p d).lH, .int .i64 (doQ p d).lA, .int .i64 (doQ p d).pH, .int .i64 (doQ p d).pA], .int .i64 (doE p d)]) ∧ Mine 25 w.heap.size w' v (doQ p d).cells ∧ Kept w w' := by
  cases hp : plantB p
  · rw [show doE p d = 32 by simp [doE, hp], show doQ p d = noPlant by simp [doQ, doE, hp]]
    exact f_zero_end (f_Do_bad p d a cap w hx hc hM hz hp)
  · by_cases h17 : 1 ≤ d.kind ∧ d.kind ≤ 7
    · have key : d.kind = 1 ∨ d.kind = 2 ∨ d.kind = 3 ∨ d.kind = 4 ∨ d.kind = 5 ∨ d.kind = 6 ∨ d.kind = 7 := by omega
      rcases key with hk | hk | hk | hk | hk | hk | hk
      · by_cases he : errA p d = 0
        · rw [show doE p d = endE (resA p d) by simp [doE, hp, he, endE], show doQ p d = endQ (resA p d) by simp [doQ, doE, hp, he, endQ] <;> (split <;> simp_all)]
          exact f_DoX_ok p d a cap w hx hc hM hz 106 (fun _ _ => by kernel_rfl) hp h17 (by rw [hk]; rfl) he (fun _ _ _ _ _ h => act1_ok d h hp hk he)
        · rw [show doE p d = errA p d by simp [doE, hp, he], show doQ p d = noPlant by simp [doQ, doE, hp, he]]
          exact f_zero_end (f_DoX_no p d a cap w hx hc hM hz 106 (fun _ _ => by kernel_rfl) hp h17 (by rw [hk]; rfl) he (fun _ _ _ _ _ h => act1_no d h hp hk he))
      · by_cases he : errA p d = 0
        · rw [show doE p d = endE (resA p d) by simp [doE, hp, he, endE], show doQ p d = endQ (resA p d) by simp [doQ, doE, hp, he, endQ] <;> (split <;> simp_all)]
          exact f_DoX_ok p d a cap w hx hc hM hz 107 (fun _ _ => by kernel_rfl) hp h17 (by rw [hk]; rfl) he (fun _ _ _ _ _ h => act2_ok d h hp hk he)
        · rw [show doE p d = errA p d by simp [doE, hp, he], show doQ p d = noPlant by simp [doQ, doE, hp, he]]
          exact f_zero_end (f_DoX_no p d a cap w hx hc hM hz 107 (fun _ _ => by kernel_rfl) hp h17 (by rw [hk]; rfl) he (fun _ _ _ _ _ h => act2_no d h hp hk he))
      · by_cases he : errA p d = 0
        · rw [show doE p d = endE (resA p d) by simp [doE, hp, he, endE], show doQ p d = endQ (resA p d) by simp [doQ, doE, hp, he, endQ] <;> (split <;> simp_all)]
          exact f_DoX_ok p d a cap w hx hc hM hz 108 (fun _ _ => by kernel_rfl) hp h17 (by rw [hk]; rfl) he (fun _ _ _ _ _ h => act3_ok d h hp hk he)
        · rw [show doE p d = errA p d by simp [doE, hp, he], show doQ p d = noPlant by simp [doQ, doE, hp, he]]
          exact f_zero_end (f_DoX_no p d a cap w hx hc hM hz 108 (fun _ _ => by kernel_rfl) hp h17 (by rw [hk]; rfl) he (fun _ _ _ _ _ h => act3_no d h hp hk he))
      · by_cases he : errA p d = 0
        · rw [show doE p d = endE (resA p d) by simp [doE, hp, he, endE], show doQ p d = endQ (resA p d) by simp [doQ, doE, hp, he, endQ] <;> (split <;> simp_all)]
          exact f_DoX_ok p d a cap w hx hc hM hz 109 (fun _ _ => by kernel_rfl) hp h17 (by rw [hk]; rfl) he (fun _ _ _ _ _ h => act4_ok d h hp hk he)
        · rw [show doE p d = errA p d by simp [doE, hp, he], show doQ p d = noPlant by simp [doQ, doE, hp, he]]
          exact f_zero_end (f_DoX_no p d a cap w hx hc hM hz 109 (fun _ _ => by kernel_rfl) hp h17 (by rw [hk]; rfl) he (fun _ _ _ _ _ h => act4_no d h hp hk he))
      · by_cases he : errA p d = 0
        · rw [show doE p d = endE (resA p d) by simp [doE, hp, he, endE], show doQ p d = endQ (resA p d) by simp [doQ, doE, hp, he, endQ] <;> (split <;> simp_all)]
          exact f_DoX_ok p d a cap w hx hc hM hz 110 (fun _ _ => by kernel_rfl) hp h17 (by rw [hk]; rfl) he (fun _ _ _ _ _ h => act5_ok d h hp hk he)
        · rw [show doE p d = errA p d by simp [doE, hp, he], show doQ p d = noPlant by simp [doQ, doE, hp, he]]
          exact f_zero_end (f_DoX_no p d a cap w hx hc hM hz 110 (fun _ _ => by kernel_rfl) hp h17 (by rw [hk]; rfl) he (fun _ _ _ _ _ h => act5_no d h hp hk he))
      · by_cases he : errA p d = 0
        · rw [show doE p d = endE (resA p d) by simp [doE, hp, he, endE], show doQ p d = endQ (resA p d) by simp [doQ, doE, hp, he, endQ] <;> (split <;> simp_all)]
          exact f_DoX_ok p d a cap w hx hc hM hz 111 (fun _ _ => by kernel_rfl) hp h17 (by rw [hk]; rfl) he (fun _ _ _ _ _ h => act6_ok d h hp hk he)
        · rw [show doE p d = errA p d by simp [doE, hp, he], show doQ p d = noPlant by simp [doQ, doE, hp, he]]
          exact f_zero_end (f_DoX_no p d a cap w hx hc hM hz 111 (fun _ _ => by kernel_rfl) hp h17 (by rw [hk]; rfl) he (fun _ _ _ _ _ h => act6_no d h hp hk he))
      · by_cases he : errA p d = 0
        · rw [show doE p d = endE (resA p d) by simp [doE, hp, he, endE], show doQ p d = endQ (resA p d) by simp [doQ, doE, hp, he, endQ] <;> (split <;> simp_all)]
          exact f_DoX_ok p d a cap w hx hc hM hz 112 (fun _ _ => by kernel_rfl) hp h17 (by rw [hk]; rfl) he (fun _ _ _ _ _ h => act7_ok d h hp hk he)
        · rw [show doE p d = errA p d by simp [doE, hp, he], show doQ p d = noPlant by simp [doQ, doE, hp, he]]
          exact f_zero_end (f_DoX_no p d a cap w hx hc hM hz 112 (fun _ _ => by kernel_rfl) hp h17 (by rw [hk]; rfl) he (fun _ _ _ _ _ h => act7_no d h hp hk he))
    · have he : errA p d = 2 := by
        have k1 : d.kind ≠ 1 ∧ d.kind ≠ 2 ∧ d.kind ≠ 3 ∧ d.kind ≠ 4 ∧ d.kind ≠ 5 ∧ d.kind ≠ 6 ∧ d.kind ≠ 7 := by omega
        simp [errA, k1]
      rw [show doE p d = 2 by simp [doE, hp, he], show doQ p d = noPlant by simp [doQ, doE, hp, he]]
      exact f_zero_end (f_Do_kind p d a cap w hx hc hM hz hp (by omega) (by simp [inB]; omega))

end Go.Proofs.Ytemafanncejeiaa
