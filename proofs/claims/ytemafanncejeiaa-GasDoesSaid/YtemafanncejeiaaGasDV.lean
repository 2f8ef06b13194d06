/-
  The reference: Do.
-/
import Derived.Test.YtemafanncejeiaaGasDT
import Derived.Test.YtemafanncejeiaaGasDU
namespace Go.Proofs.Ytemafanncejeiaa
open Go.RowKit Bal Bal.Trim Bal.Gas
set_option linter.unusedVariables false
set_option linter.unusedSimpArgs false
set_option maxHeartbeats 8000000

theorem sized_cases (p : Plant) (d : Deed) : sizedE p d = 2 ∨ (sizedE p d = 0 ∧ ((d.kind = 7 ∧ inB d.n 1 1000 = true) ∨ ((1 ≤ d.kind ∧ d.kind ≤ 6) ∧ inB d.n 1 10000000 = true ∧ (d.kind ≠ 1 → inB d.cell 0 (p.cells.length - 1) = true) ∧ (d.kind = 4 → inB d.to 0 (p.cells.length - 1) = true ∧ d.to ≠ d.cell)))) := by
  unfold sizedE
  by_cases h7 : d.kind = 7 ∧ inB d.n 1 1000 = true
  · exact .inr ⟨by simp [h7], .inl h7⟩
  · rw [if_neg h7]
    by_cases h1 : d.kind < 1 ∨ 6 < d.kind ∨ inB d.n 1 10000000 = false
    · exact .inl (by rw [if_pos h1])
    · rw [if_neg h1]
      simp only [not_or, Bool.not_eq_false] at h1
      by_cases h2 : d.kind ≠ 1 ∧ inB d.cell 0 (p.cells.length - 1) = false
      · exact .inl (by rw [if_pos h2])
      · rw [if_neg h2]
        by_cases h3 : d.kind = 4 ∧ (inB d.to 0 (p.cells.length - 1) = false ∨ d.to = d.cell)
        · exact .inl (by rw [if_pos h3])
        · rw [if_neg h3]
          refine .inr ⟨rfl, .inr ⟨by omega, h1.2.2, fun hk => ?_, fun hk => ?_⟩⟩
          · cases hc : inB d.cell 0 (p.cells.length - 1)
            · exact absurd ⟨hk, hc⟩ h2
            · rfl
          · cases hc : inB d.to 0 (p.cells.length - 1)
            · exact absurd ⟨hk, .inl hc⟩ h3
            · exact ⟨rfl, fun he => h3 ⟨hk, .inr he⟩⟩
theorem rng_one (a lo hi : Int) : rng [a] lo hi = inB a lo hi := by simp [rng]
theorem errA_sized {p : Plant} {d : Deed} (h : sizedE p d = 2) : errA p d = 2 := by
  by_cases k1 : d.kind = 1
  · cases hn : inB d.n 1 10000000 <;> simp [sizedE, errA, rng_one, k1, hn] at h ⊢
  · by_cases k4 : d.kind = 4
    · cases hn : inB d.n 1 10000000 <;> cases hc : inB d.cell 0 (p.cells.length - 1) <;> cases ht : inB d.to 0 (p.cells.length - 1) <;> simp [sizedE, errA, argB, toB, rng_one, k4, hn, hc, ht] at h ⊢
      simp [h]
    · by_cases k7 : d.kind = 7
      · cases hn : inB d.n 1 1000 <;> simp [sizedE, errA, rng_one, k7, hn] at h ⊢
      · have key : (d.kind = 2 ∨ d.kind = 3 ∨ d.kind = 5 ∨ d.kind = 6) ∨ ¬ (d.kind = 2 ∨ d.kind = 3 ∨ d.kind = 5 ∨ d.kind = 6) := Decidable.em _
        rcases key with (k | k | k | k) | k
        · cases hn : inB d.n 1 10000000 <;> cases hc : inB d.cell 0 (p.cells.length - 1) <;> simp [sizedE, errA, argB, rng_one, k, hn, hc] at h ⊢
        · cases hn : inB d.n 1 10000000 <;> cases hc : inB d.cell 0 (p.cells.length - 1) <;> simp [sizedE, errA, argB, rng_one, k, hn, hc] at h ⊢
        · cases hn : inB d.n 1 10000000 <;> cases hc : inB d.cell 0 (p.cells.length - 1) <;> simp [sizedE, errA, argB, rng_one, k, hn, hc] at h ⊢
        · cases hn : inB d.n 1 10000000 <;> cases hc : inB d.cell 0 (p.cells.length - 1) <;> simp [sizedE, errA, argB, rng_one, k, hn, hc] at h ⊢
        · simp only [not_or] at k
          obtain ⟨a2, a3, a5, a6⟩ := k
          simp [errA, k1, a2, a3, k4, a5, a6, k7]

theorem zero_end {p : Plant} {d : Deed} {a : Option Addr} {cap : Nat} {w : World} {n : Int} (h : Calls Try.prog 49 #[.agg #[.slice a p.cells.length cap, .int .i64 p.bottles, .int .i64 p.inH, .int .i64 p.inA, .int .i64 p.vH, .int .i64 p.vA, .int .i64 p.lH, .int .i64 p.lA, .int .i64 p.pH, .int .i64 p.pA], .agg #[.int .u8 d.kind, .int .i64 d.cell, .int .i64 d.to, .int .i64 d.n]] w fun e w' => e = .returned (.tuple #[.agg #[.slice none 0 0, .int .i64 0, .int .i64 0, .int .i64 0, .int .i64 0, .int .i64 0, .int .i64 0, .int .i64 0, .int .i64 0, .int .i64 0], .int .i64 n]) ∧ Kept w w') : Calls Try.prog 49 #[.agg #[.slice a p.cells.length cap, .int .i64 p.bottles, .int .i64 p.inH, .int .i64 p.inA, .int .i64 p.vH, .int .i64 p.vA, .int .i64 p.lH, .int .i64 p.lA, .int .i64 p.pH, .int .i64 p.pA], .agg #[.int .u8 d.kind, .int .i64 d.cell, .int .i64 d.to, .int .i64 d.n]] w fun e w' => ∃ v, e = .returned (.tuple #[.agg #[v, .int .i64 (noPlant).bottles, .int .i64 (noPlant).inH, .int .i64 (noPlant).inA, .int .i64 (noPlant).vH, .int .i64 (noPlant).vA, .int .i64 (noPlant).lH, .int .i64 (noPlant).lA, .int .i64 (noPlant).pH, .int .i64 (noPlant).pA], .int .i64 (n)]) ∧ Mine 25 w.heap.size w' v (noPlant).cells ∧ Kept w w' := by
  refine h.mono ?_
  rintro e w' ⟨rfl, hk⟩
  exact ⟨.slice none 0 0, rfl, Mine.zero, hk⟩
theorem r_Do (p : Plant) (d : Deed) (a : Option Addr) (cap : Nat) (w : World) (hx : Row Cell.cells 7 w.heap.size w a p.cells) (hc : p.cells.length ≤ cap) (hM : cap ≤ maxLen) (hz : a = none → cap = 0) : Calls Try.prog 49 #[.agg #[.slice a p.cells.length cap, .int .i64 p.bottles, .int .i64 p.inH, .int .i64 p.inA, .int .i64 p.vH, .int .i64 p.vA, .int .i64 p.lH, .int .i64 p.lA, .int .i64 p.pH, .int .i64 p.pA], .agg #[.int .u8 d.kind, .int .i64 d.cell, .int .i64 d.to, .int .i64 d.n]] w fun e w' => ∃ v, e = .returned (.tuple #[.agg #[v, .int .i64 (doQ p d).bottles, .int .i64 (doQ p d).inH, .int .i64 (doQ p d).inA, .int .i64 (doQ p d).vH, .int .i64 (doQ p d).vA, .int .i64 (doQ p d).lH, .int .i64 (doQ p d).lA, .int .i64 (doQ p d).pH, .int .i64 (doQ p d).pA], .int .i64 (doE p d)]) ∧ Mine 25 w.heap.size w' v (doQ p d).cells ∧ Kept w w' := by
  cases hp : plantB p
  · rw [show doE p d = 32 by simp [doE, hp], show doQ p d = noPlant by simp [doQ, doE, hp]]
    exact zero_end (r_Do_bad p d a cap w hx hc hM hz hp)
  · rcases sized_cases p d with hs | ⟨hs, ⟨hk, hn⟩ | ⟨hk16, hn, hcl, hto⟩⟩
    · have hE := errA_sized hs
      rw [show doE p d = 2 by simp [doE, hp, hE], show doQ p d = noPlant by simp [doQ, doE, hp, hE]]
      exact zero_end (r_Do_size p d a cap w hx hc hM hz hp hs)
    · have hE : errA p d = 0 := by simp [errA, rng_one, hk, hn]
      have e1 : doE p d = endE (tickP p d) := by simp [doE, hp, hE, resA, hk, endE]
      have e2 : doQ p d = endQ (tickP p d) := by simp [doQ, doE, hp, hE, resA, hk, endQ] <;> (split <;> simp_all)
      rw [e1, e2]
      exact r_Do_7 p d a cap w hx hc hM hz hp hs hk (inB_iff.1 hn)
    · have key : d.kind = 1 ∨ d.kind = 2 ∨ d.kind = 3 ∨ d.kind = 4 ∨ d.kind = 5 ∨ d.kind = 6 := by omega
      rcases key with hk | hk | hk | hk | hk | hk
      · have hE : errA p d = 0 := by simp [errA, argB, toB, rng_one, hk, hn]
        have e1 : doE p d = endE (buyP p d) := by simp [doE, hp, hE, resA, hk, endE]
        have e2 : doQ p d = endQ (buyP p d) := by simp [doQ, doE, hp, hE, resA, hk, endQ] <;> (split <;> simp_all)
        rw [e1, e2]
        exact r_Do_1 p d a cap w hx hc hM hz hp hs hk (inB_iff.1 hn)
      · have hc1 := hcl (by omega)
        by_cases hl : p.bottles < d.n
        · have hE : errA p d = 6 := by simp [errA, argB, toB, rng_one, hk, hn, hc1, hl]
          rw [show doE p d = 6 by simp [doE, hp, hE], show doQ p d = noPlant by simp [doQ, doE, hp, hE]]
          exact zero_end (r_Do_lack2 p d a cap w hx hc hM hz hp hs hk hl)
        · have hE : errA p d = 0 := by simp [errA, argB, toB, rng_one, hk, hn, hc1, hl]
          have e1 : doE p d = endE (fillP p d) := by simp [doE, hp, hE, resA, hk, endE]
          have e2 : doQ p d = endQ (fillP p d) := by simp [doQ, doE, hp, hE, resA, hk, endQ] <;> (split <;> simp_all)
          rw [e1, e2]
          exact r_Do_2 p d a cap w hx hc hM hz hp hs hk (inB_iff.1 hn) hc1 hl
      · have hc1 := hcl (by omega)
        by_cases hl : amount (at_ p d) < d.n
        · have hE : errA p d = 6 := by simp [errA, argB, toB, rng_one, hk, hn, hc1, hl]
          rw [show doE p d = 6 by simp [doE, hp, hE], show doQ p d = noPlant by simp [doQ, doE, hp, hE]]
          exact zero_end (r_Do_lackm p d a cap w hx hc hM hz hp hs (by simp [mixedB, hk]) hc1 hl)
        · have hE : errA p d = 0 := by simp [errA, argB, toB, rng_one, hk, hn, hc1, hl]
          have e1 : doE p d = endE (valveP p d) := by simp [doE, hp, hE, resA, hk, endE]
          have e2 : doQ p d = endQ (valveP p d) := by simp [doQ, doE, hp, hE, resA, hk, endQ] <;> (split <;> simp_all)
          rw [e1, e2]
          exact r_Do_3 p d a cap w hx hc hM hz hp hs hk (inB_iff.1 hn) hc1 hl
      · have hc1 := hcl (by omega)
        obtain ⟨ht, he⟩ := hto hk
        by_cases hl : amount (at_ p d) < d.n
        · have hE : errA p d = 6 := by simp [errA, argB, toB, rng_one, hk, hn, hc1, hl, ht, he]
          rw [show doE p d = 6 by simp [doE, hp, hE], show doQ p d = noPlant by simp [doQ, doE, hp, hE]]
          exact zero_end (r_Do_lackm p d a cap w hx hc hM hz hp hs (by simp [mixedB, hk]) hc1 hl)
        · have hE : errA p d = 0 := by simp [errA, argB, toB, rng_one, hk, hn, hc1, hl, ht, he]
          have e1 : doE p d = endE (moveP p d) := by simp [doE, hp, hE, resA, hk, endE]
          have e2 : doQ p d = endQ (moveP p d) := by simp [doQ, doE, hp, hE, resA, hk, endQ] <;> (split <;> simp_all)
          rw [e1, e2]
          exact r_Do_4 p d a cap w hx hc hM hz hp hs hk (inB_iff.1 hn) hc1 ht hl
      · have hc1 := hcl (by omega)
        by_cases hl : amount (at_ p d) < d.n
        · have hE : errA p d = 6 := by simp [errA, argB, toB, rng_one, hk, hn, hc1, hl]
          rw [show doE p d = 6 by simp [doE, hp, hE], show doQ p d = noPlant by simp [doQ, doE, hp, hE]]
          exact zero_end (r_Do_lackm p d a cap w hx hc hM hz hp hs (by simp [mixedB, hk]) hc1 hl)
        · have hE : errA p d = 0 := by simp [errA, argB, toB, rng_one, hk, hn, hc1, hl]
          have e1 : doE p d = endE (purifyP p d) := by simp [doE, hp, hE, resA, hk, endE]
          have e2 : doQ p d = endQ (purifyP p d) := by simp [doQ, doE, hp, hE, resA, hk, endQ] <;> (split <;> simp_all)
          rw [e1, e2]
          exact r_Do_5 p d a cap w hx hc hM hz hp hs hk (inB_iff.1 hn) hc1 hl
      · have hc1 := hcl (by omega)
        have hE : errA p d = 0 := by simp [errA, argB, toB, rng_one, hk, hn, hc1]
        have e1 : doE p d = endE (breatheP p d) := by simp [doE, hp, hE, resA, hk, endE]
        have e2 : doQ p d = endQ (breatheP p d) := by simp [doQ, doE, hp, hE, resA, hk, endQ] <;> (split <;> simp_all)
        rw [e1, e2]
        exact r_Do_6 p d a cap w hx hc hM hz hp hs hk (inB_iff.1 hn) hc1

end Go.Proofs.Ytemafanncejeiaa
