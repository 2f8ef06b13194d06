/-
  TrimKept, the statement: for every input the call returns true and leaves the input alone.
-/
import Derived.Test.YtlloijkmpmfapaaTrimBaseM
import Derived.Test.YtlloijkmpmfapaaRows
set_option linter.unusedVariables false
set_option linter.unusedSimpArgs false
/-
  TrimKept: no choice of an accepted ship breaks a limit: for every input.
-/
namespace Go.Proofs.Ytlloijkmpmfapaa
open Go.RowKit Bal Bal.Trim
set_option linter.unusedVariables false
set_option linter.unusedSimpArgs false
set_option maxHeartbeats 4000000
set_option maxRecDepth 10000

theorem law_TrimKept (a0 : Option Addr) (c0 : Nat) (xs : List Load) (a1 : Option Addr) (c1 : Nat) (ms : List Limit) (a2 : Option Addr) (c2 : Nat) (bs : List Int) (w : World) (h0 : Row Load.cells 4 w.heap.size w a0 xs) (hl0 : xs.length ≤ c0) (hm0 : c0 ≤ maxLen) (h1 : Row Limit.cells 3 w.heap.size w a1 ms) (hl1 : ms.length ≤ c1) (hm1 : c1 ≤ maxLen) (hz1 : a1 = none → c1 = 0) (h2 : Row ucell 1 w.heap.size w a2 bs) (hl2 : bs.length ≤ c2) (hm2 : c2 ≤ maxLen) (hw : ∀ n ∈ bs, 0 ≤ n ∧ n ≤ 65535) :
    Calls Try.prog 13 #[.slice a0 xs.length c0, .slice a1 ms.length c1, .slice a2 bs.length c2] w fun e w' => e = .returned (.bool true) ∧ Kept w w' := by
  have hm0' := hm0
  have hm1' := hm1
  unfold maxLen at hm0' hm1'
  cases hv : validB xs ms
  · have HV := Lib.hid hv
    cases hg : great xs.length ms.length 0 0
    · have hb := valid_not hv hg
      have HG := Lib.hid hg
      obtain ⟨E, hE⟩ : ∃ E, E = both xs ms := ⟨_, rfl⟩
      have he := both_err hb
      have HE := Lib.hid (show breachE xs ms = E by rw [hE]; unfold breachE; rw [if_neg hb])
      obtain ⟨N, hN⟩ : ∃ N, breachN xs ms = N := ⟨_, rfl⟩
      obtain ⟨P, hP⟩ : ∃ P, breachP xs ms = P := ⟨_, rfl⟩
      have HN := Lib.hid hN
      have HP := Lib.hid hP
      rw [← hE] at he
      clear hg hv hb hE hN hP
      obtain ⟨n, hn⟩ : ∃ n, P.length = n := ⟨_, rfl⟩
      have HPL := Lib.hid hn
      clear hn
      rcases he with rfl | rfl | rfl
      all_goals
        go_enter Try.func13, Try.ntmps13
        go_wp2_with (first | (go_at_call 48; (with_reducible refine (o_alive _).mono ?_); rintro e wA ⟨rfl, hbA⟩) | (go_at_call 25; (with_reducible refine (o_breach a0 c0 xs _ (h0.later (by (exact kpt)) (Nat.le_refl _)) hl0 hm0 a1 c1 ms (h1.later (by (exact kpt)) (Nat.le_refl _)) hl1 hm1 n N _ P HN.out HE.out HP.out HPL.out).mono ?_); rintro e wB ⟨aB, cB, rfl, hB, hB1, hB2, hbwB⟩) | (go_at_call 49; (with_reducible refine (o_validN a0 c0 xs _ (h0.later (by (exact kpt)) (Nat.le_refl _)) hl0 hm0 a1 c1 ms (h1.later (by (exact kpt)) (Nat.le_refl _)) hl1 hm1 false HV.out).mono ?_); rintro e wV ⟨rfl, hbV⟩) | (go_at_call 18; (with_reducible refine (r_great _ _ _ _ _).mono ?_); rw [HG.out]; rintro e wG ⟨rfl, rfl⟩))
        go_ret; exact ⟨rfl, by (exact kpt)⟩
    · have HG := Lib.hid hg
      obtain ⟨E, hE⟩ : ∃ E, breachE xs ms = E := ⟨_, rfl⟩
      obtain ⟨N, hN⟩ : ∃ N, breachN xs ms = N := ⟨_, rfl⟩
      obtain ⟨P, hP⟩ : ∃ P, breachP xs ms = P := ⟨_, rfl⟩
      obtain ⟨n, hn⟩ : ∃ n, P.length = n := ⟨_, rfl⟩
      have HE := Lib.hid hE
      have HN := Lib.hid hN
      have HP := Lib.hid hP
      have HPL := Lib.hid hn
      clear hg hv hE hN hP hn
      go_enter Try.func13, Try.ntmps13
      go_wp2_with (first | (go_at_call 48; (with_reducible refine (o_alive _).mono ?_); rintro e wA ⟨rfl, hbA⟩) | (go_at_call 25; (with_reducible refine (o_breach a0 c0 xs _ (h0.later (by (exact kpt)) (Nat.le_refl _)) hl0 hm0 a1 c1 ms (h1.later (by (exact kpt)) (Nat.le_refl _)) hl1 hm1 n N _ P HN.out HE.out HP.out HPL.out).mono ?_); rintro e wB ⟨aB, cB, rfl, hB, hB1, hB2, hbwB⟩) | (go_at_call 49; (with_reducible refine (o_validN a0 c0 xs _ (h0.later (by (exact kpt)) (Nat.le_refl _)) hl0 hm0 a1 c1 ms (h1.later (by (exact kpt)) (Nat.le_refl _)) hl1 hm1 false HV.out).mono ?_); rintro e wV ⟨rfl, hbV⟩) | (go_at_call 18; (with_reducible refine (r_great _ _ _ _ _).mono ?_); rw [HG.out]; rintro e wG ⟨rfl, rfl⟩))
      go_ret; exact ⟨rfl, by (exact kpt)⟩
  · skip
    obtain ⟨k1, k2⟩ := validB_ok hv
    have hbo := both_is k1 k2
    obtain ⟨hn, hx⟩ := checkLoads_ok k1
    obtain ⟨hn2, hm⟩ := checkLimits_ok k2
    have HX := Lib.hid hx
    have HW := Lib.hid hw
    have HLM := Lib.hid hm
    have hpk := chosen_picks (bs := bs) hx
    have hpb := picks_B hx hpk
    have hcl : (chosen xs bs).length = xs.length := chosenTo_len xs bs xs.length
    have b1 := wtS_all hpb (by rw [hcl]; exact hn)
    have b2 := moS_all hpb (by rw [hcl]; exact hn)
    obtain ⟨H, hH⟩ : ∃ H, wtS (chosen xs bs) = H := ⟨_, rfl⟩
    obtain ⟨M, hM⟩ : ∃ M, moS (chosen xs bs) = M := ⟨_, rfl⟩
    have hlaw := fun (j : Nat) (hj : j < ms.length) (hb : brk xs ms j = false) => kept_law hpk hj hb
    rw [hH, hM] at hlaw
    rw [hH] at b1
    rw [hM] at b2
    have HH := Lib.hid hH
    have HM := Lib.hid hM
    have HCL := Lib.hid hcl
    have HPB := Lib.hid hpb
    cases hb : broken xs ms with
    | none =>
      obtain ⟨N, hN0⟩ : ∃ N : Int, N = 0 := ⟨_, rfl⟩
      have HN := Lib.hid (show breachN xs ms = N by rw [hN0]; unfold breachN; rw [if_pos hbo, hb]; rfl)
      have HE := Lib.hid (show breachE xs ms = 6 by unfold breachE; rw [if_pos hbo, hb])
      obtain ⟨P, hP0⟩ : ∃ P, P = brP xs ms none := ⟨_, rfl⟩
      obtain ⟨n, hn0⟩ : ∃ n, n = P.length := ⟨_, rfl⟩
      have HP := Lib.hid (show breachP xs ms = P by rw [hP0]; unfold breachP; rw [if_pos hbo, hb])
      have HPL := Lib.hid hn0.symm
      obtain ⟨F, hF0⟩ : ∃ F, F = ms.length := ⟨_, rfl⟩
      have HLAW := Lib.hid (show ∀ j, j < F → ∀ (hj : j < ms.length), ms[j].a * H + ms[j].b * M ≤ ms[j].c from fun j hj hjm => hlaw j hjm (broken_never hb hjm))
      have hFm : F ≤ ms.length := by omega
      have HV := Lib.hid hv
      clear hv hw hlaw hpk hpb hH hM hcl hx hm hb hbo hn0 hP0 hN0 k1 k2
      go_enter Try.func13, Try.ntmps13
      go_upto_region 5 with (first | (go_at_call 48; (with_reducible refine (o_alive _).mono ?_); rintro e wA ⟨rfl, hbA⟩) | (go_at_call 25; (with_reducible refine (o_breach a0 c0 xs _ (h0.later (by (exact kpt)) (Nat.le_refl _)) hl0 hm0 a1 c1 ms (h1.later (by (exact kpt)) (Nat.le_refl _)) hl1 hm1 n N _ P HN.out HE.out HP.out HPL.out).mono ?_); rintro e wB ⟨aB, cB, rfl, hB, hB1, hB2, hbwB⟩))
      refine at_world (S := fun W1 => Blk W1 wB.heap.size #[.int .i64 N, .slice aB n cB] 36 ∧ Row Put.cells 2 W1.heap.size W1 aB P ∧ Kept w W1) ⟨by (exact blkc), (hB.later (by (exact kpt)) (Nat.le_refl _)), by (exact kpt)⟩ ?_
      obtain ⟨n1, hn1⟩ : ∃ n, n = wB.heap.size := ⟨_, rfl⟩
      rw [← hn1]
      clear hn1
      rintro W1 ⟨q1, r1, hk⟩
      go_upto_region 8 with (first | (go_at_call 49; (with_reducible refine (o_validN a0 c0 xs _ (h0.later (by (exact kpt)) (Nat.le_refl _)) hl0 hm0 a1 c1 ms (h1.later (by (exact kpt)) (Nat.le_refl _)) hl1 hm1 true HV.out).mono ?_); rintro e wV ⟨rfl, hbV⟩) | (go_at_call 52; (with_reducible refine (o_chosen a0 c0 xs a2 c2 bs _ (h0.later (by (exact kpt)) (Nat.le_refl _)) hn HX.out (h2.later (by (exact kpt)) (Nat.le_refl _)) hl2 hm2 HW.out).mono ?_); rintro e wC ⟨aC, cC, rfl, hC, hC1, hC2, hbC⟩) | (go_at_call 53; (with_reducible refine (o_sumsN _ xs.length _ (chosen xs bs) _ HCL.out (hC.later (by (exact kpt)) (Nat.le_refl _)) hn HPB.out H M HH.out HM.out).mono ?_); rintro e wU ⟨rfl, hbwU⟩))
      refine at_world (S := fun W2 => Blk W2 n1 #[.int .i64 N, .slice aB n cB] 36 ∧ Row Put.cells 2 W2.heap.size W2 aB P ∧ Kept w W2) ⟨by (exact blk), (r1.later (by (exact kpt)) (Nat.le_refl _)), by (exact kpt)⟩ ?_
      clear q1 r1 hk
      rintro W2 ⟨q1, r1, hk⟩
      have q1c0 := q1.cell 0
      have q1f0 := q1.free 0
      have q1c1 := q1.cell 1
      have q1f1 := q1.free 1
      have q1l := q1.lt
      simp at q1c0 q1c1
      go_upto_region 15 with fail
      go_upto_region 16 with fail
      refine at_world (S := fun W3 => Blk W3 n1 #[.int .i64 N, .slice aB n cB] 36 ∧ Row Put.cells 2 W3.heap.size W3 aB P ∧ Kept w W3) ⟨by (exact blk), (r1.later (by (exact kpt)) (Nat.le_refl _)), by (exact kpt)⟩ ?_
      clear q1 r1 hk
      rintro W3 ⟨q1, r1, hk⟩
      go_loopw [82] (fun i wr => ∃ j : Nat, j ≤ F ∧ i = .int .i64 j ∧ Kept w wr) (fun i _ => F - (intOf i).toNat)
      case atStart => exact ⟨0, Nat.zero_le _, rfl, by (exact kpt)⟩
      case round =>
        clear q1 r1 hk
        obtain ⟨j, hj, rfl, hkk⟩ := hrel
        by_cases hlt : j < F
        · have hjm : j < ms.length := by omega
          obtain ⟨bb, off, rfl, hbl, g0, g1, g2⟩ := Limit.row (h1.later hkk (Nat.le_refl _)) j hjm
          have hlw := HLAW.out j hlt hjm
          have hmb := limitB_bd (HLM.out _ (List.getElem_mem hjm))
          obtain ⟨x, hx0⟩ : ∃ x, x = ms[j] := ⟨_, rfl⟩
          rw [← hx0] at hlw hmb g0 g1 g2
          have p1 := mul_bd (A := 1000) (B := 43000000000) hmb.1.1 hmb.1.2 b1.1 b1.2
          have p2 := mul_bd (A := 1000) (B := 859000000000000) hmb.2.1.1 hmb.2.1.2 b2.1 b2.2
          obtain ⟨u, hu⟩ : ∃ u, u = x.a * H := ⟨_, rfl⟩
          obtain ⟨v, hv0⟩ : ∃ v, v = x.b * M := ⟨_, rfl⟩
          rw [← hu] at p1 hlw
          rw [← hv0] at p2 hlw
          have e1 : x.a * H = u := hu.symm
          have e2 : x.b * M = v := hv0.symm
          clear hu hv0 hx0
          have j0 : (0 : Int) ≤ (j : Int) := by omega
          have j1 : (j : Int) < (F : Int) := by omega
          have j2 : (j : Int) < (ms.length : Int) := by omega
          go_wp2
          go_roundw
          case rel => exact ⟨j + 1, by omega, by go_num, by (exact kpt)⟩
          case measure => simp [intOf]; omega
        · obtain rfl : F = j := by omega
          go_wp2
          go_ret; exact ⟨rfl, by (exact kpt)⟩

    | some k =>
      obtain ⟨N, hN0⟩ : ∃ N : Int, N = (k : Int) := ⟨_, rfl⟩
      have HN := Lib.hid (show breachN xs ms = N by rw [hN0]; unfold breachN; rw [if_pos hbo, hb]; rfl)
      have HE := Lib.hid (show breachE xs ms = 0 by unfold breachE; rw [if_pos hbo, hb])
      obtain ⟨P, hP0⟩ : ∃ P, P = brP xs ms (some k) := ⟨_, rfl⟩
      obtain ⟨n, hn0⟩ : ∃ n, n = P.length := ⟨_, rfl⟩
      have HP := Lib.hid (show breachP xs ms = P by rw [hP0]; unfold breachP; rw [if_pos hbo, hb])
      have HPL := Lib.hid hn0.symm
      have hkm := broken_lt hb
      have HCB := Lib.hid (show proofE xs ms N P = 0 by rw [hN0, hP0]; exact breach_proof hbo hb)
      obtain ⟨F, hF0⟩ : ∃ F, F = k := ⟨_, rfl⟩
      have HLAW := Lib.hid (show ∀ j, j < F → ∀ (hj : j < ms.length), ms[j].a * H + ms[j].b * M ≤ ms[j].c from fun j hj hjm => hlaw j hjm (broken_before hb (by rw [← hF0]; exact hj)))
      have hFN : N = (F : Int) := by rw [hN0, hF0]
      have hFm : F ≤ ms.length := by omega
      have hFm2 : (F : Int) < (ms.length : Int) := by omega
      have hFm3 : F < ms.length := by omega
      subst hFN
      clear hF0
      have HV := Lib.hid hv
      clear hv hw hlaw hpk hpb hH hM hcl hx hm hb hbo hn0 hP0 hN0 k1 k2
      go_enter Try.func13, Try.ntmps13
      go_upto_region 5 with (first | (go_at_call 48; (with_reducible refine (o_alive _).mono ?_); rintro e wA ⟨rfl, hbA⟩) | (go_at_call 25; (with_reducible refine (o_breach a0 c0 xs _ (h0.later (by (exact kpt)) (Nat.le_refl _)) hl0 hm0 a1 c1 ms (h1.later (by (exact kpt)) (Nat.le_refl _)) hl1 hm1 n (F : Int) _ P HN.out HE.out HP.out HPL.out).mono ?_); rintro e wB ⟨aB, cB, rfl, hB, hB1, hB2, hbwB⟩))
      refine at_world (S := fun W1 => Blk W1 wB.heap.size #[.int .i64 (F : Int), .slice aB n cB] 36 ∧ Row Put.cells 2 W1.heap.size W1 aB P ∧ Kept w W1) ⟨by (exact blkc), (hB.later (by (exact kpt)) (Nat.le_refl _)), by (exact kpt)⟩ ?_
      obtain ⟨n1, hn1⟩ : ∃ n, n = wB.heap.size := ⟨_, rfl⟩
      rw [← hn1]
      clear hn1
      rintro W1 ⟨q1, r1, hk⟩
      go_upto_region 8 with (first | (go_at_call 49; (with_reducible refine (o_validN a0 c0 xs _ (h0.later (by (exact kpt)) (Nat.le_refl _)) hl0 hm0 a1 c1 ms (h1.later (by (exact kpt)) (Nat.le_refl _)) hl1 hm1 true HV.out).mono ?_); rintro e wV ⟨rfl, hbV⟩) | (go_at_call 52; (with_reducible refine (o_chosen a0 c0 xs a2 c2 bs _ (h0.later (by (exact kpt)) (Nat.le_refl _)) hn HX.out (h2.later (by (exact kpt)) (Nat.le_refl _)) hl2 hm2 HW.out).mono ?_); rintro e wC ⟨aC, cC, rfl, hC, hC1, hC2, hbC⟩) | (go_at_call 53; (with_reducible refine (o_sumsN _ xs.length _ (chosen xs bs) _ HCL.out (hC.later (by (exact kpt)) (Nat.le_refl _)) hn HPB.out H M HH.out HM.out).mono ?_); rintro e wU ⟨rfl, hbwU⟩))
      refine at_world (S := fun W2 => Blk W2 n1 #[.int .i64 (F : Int), .slice aB n cB] 36 ∧ Row Put.cells 2 W2.heap.size W2 aB P ∧ Kept w W2) ⟨by (exact blk), (r1.later (by (exact kpt)) (Nat.le_refl _)), by (exact kpt)⟩ ?_
      clear q1 r1 hk
      rintro W2 ⟨q1, r1, hk⟩
      have q1c0 := q1.cell 0
      have q1f0 := q1.free 0
      have q1c1 := q1.cell 1
      have q1f1 := q1.free 1
      have q1l := q1.lt
      simp at q1c0 q1c1
      go_upto_region 15 with (go_at_call 28; (with_reducible refine (o_checkBreach a0 c0 xs _ (h0.later (by (exact kpt)) (Nat.le_refl _)) hl0 hm0 a1 c1 ms (h1.later (by (exact kpt)) (Nat.le_refl _)) hl1 hm1 (F : Int) 0 aB n cB P HPL.out (r1.later (by (exact kpt)) (Nat.le_refl _)) hB1 hB2 HCB.out).mono ?_); rintro e wK ⟨rfl, hbK⟩)
      go_upto_region 16 with fail
      refine at_world (S := fun W3 => Blk W3 n1 #[.int .i64 (F : Int), .slice aB n cB] 36 ∧ Row Put.cells 2 W3.heap.size W3 aB P ∧ Kept w W3) ⟨by (exact blk), (r1.later (by (exact kpt)) (Nat.le_refl _)), by (exact kpt)⟩ ?_
      clear q1 r1 hk
      rintro W3 ⟨q1, r1, hk⟩
      go_loopw [82] (fun i wr => ∃ j : Nat, j ≤ F ∧ i = .int .i64 j ∧ Kept w wr) (fun i _ => F - (intOf i).toNat)
      case atStart => exact ⟨0, Nat.zero_le _, rfl, by (exact kpt)⟩
      case round =>
        clear q1 r1 hk
        obtain ⟨j, hj, rfl, hkk⟩ := hrel
        by_cases hlt : j < F
        · have hjm : j < ms.length := by omega
          obtain ⟨bb, off, rfl, hbl, g0, g1, g2⟩ := Limit.row (h1.later hkk (Nat.le_refl _)) j hjm
          have hlw := HLAW.out j hlt hjm
          have hmb := limitB_bd (HLM.out _ (List.getElem_mem hjm))
          obtain ⟨x, hx0⟩ : ∃ x, x = ms[j] := ⟨_, rfl⟩
          rw [← hx0] at hlw hmb g0 g1 g2
          have p1 := mul_bd (A := 1000) (B := 43000000000) hmb.1.1 hmb.1.2 b1.1 b1.2
          have p2 := mul_bd (A := 1000) (B := 859000000000000) hmb.2.1.1 hmb.2.1.2 b2.1 b2.2
          obtain ⟨u, hu⟩ : ∃ u, u = x.a * H := ⟨_, rfl⟩
          obtain ⟨v, hv0⟩ : ∃ v, v = x.b * M := ⟨_, rfl⟩
          rw [← hu] at p1 hlw
          rw [← hv0] at p2 hlw
          have e1 : x.a * H = u := hu.symm
          have e2 : x.b * M = v := hv0.symm
          clear hu hv0 hx0
          have j0 : (0 : Int) ≤ (j : Int) := by omega
          have j1 : (j : Int) < (F : Int) := by omega
          have j2 : (j : Int) < (ms.length : Int) := by omega
          go_wp2
          go_roundw
          case rel => exact ⟨j + 1, by omega, by go_num, by (exact kpt)⟩
          case measure => simp [intOf]; omega
        · obtain rfl : F = j := by omega
          go_wp2
          go_ret; exact ⟨rfl, by (exact kpt)⟩

end Go.Proofs.Ytlloijkmpmfapaa

/-
  TrimKept, the statement: for every input the call returns true and leaves the input alone.
-/
namespace Go.Proofs.Ytlloijkmpmfapaa.trimKept
open Go.ChangeShapes Go.WideShapes Go.ChangeAt Go.RowKit Bal Bal.Trim
open Go.ChangeMaps (open_string shut_string)
set_option linter.unusedVariables false

theorem own : ownKnob Try.prog.godebug = none := by kernel_rfl
theorem laidOut : laidOutB Try.prog = true := by kernel_rfl

set_option maxRecDepth 100000 in
theorem lifted (os : Os) (started : os.Started) (H : Type) (enc : TypeId × Value → H) :
    ReturnsInHanded {} Try.checked os 13 .any (Rows.trimKeptSpec.pre6 enc Try.prog Try.f13 Rows.trimKeptRow.domain false) (Rows.trimKeptSpec.post enc Try.prog Try.f13 false true false false) := by
  refine returnsInHanded_of_change (C := Try.checked) own started (by kernel_rfl) Try.func13
    (ChangeSpec.witness6 (enc := enc) (C := Try.checked) false ⟨#[], #[.slice none 0 0, .slice none 0 0, .slice none 0 0], []⟩ 8 (by kernel_rfl) (by kernel_rfl) (by kernel_rfl) (by kernel_rfl)) ?_
  intro W base args ds gs before hval0 hW hcnd _
  have hval : ∀ (j : Nat) t v, Try.f13.params[j]? = some t → args[j]? = some v → Value.okWide Try.prog W .any base t v := hval0
  have hW' := hW
  obtain ⟨p, q, hA0, hV, rfl, hfz, hnd⟩ := hW
  have hA : DataW.TrodAll enc Try.prog W 0 (fun _ => true) true Try.f13.params.toList args.toList ds p := hA0
  rw [Try.params13] at hA hval
  obtain ⟨v0, vs0, d0, ds0, p0, q0, hargs, rfl, rfl, h0, r0⟩ := trodAll_cons hA
  obtain ⟨v1, vs1, d1, ds1, p1, q1, rfl, rfl, rfl, h1, r1⟩ := trodAll_cons r0
  obtain ⟨v2, vs2, d2, ds2, p2, q2, rfl, rfl, rfl, h2, r2⟩ := trodAll_cons r1
  obtain ⟨rfl, rfl, rfl⟩ := trodAll_nil r2
  obtain rfl : args = #[v0, v1, v2] := by cases args; simp_all
  obtain ⟨rfl, rfl⟩ := trodVars_none hV
  have k0 := h0
  have lt0 : ∀ x ∈ p0, x.block < W.heap.size := by obtain ⟨m, hm⟩ := k0; exact DataW.trod_lt m _ _ _ hm
  obtain ⟨a0, len0, cap0, rfl⟩ := okWide_slice Try.underlying22 (hval 0 22 v0 rfl rfl)
  obtain ⟨fuel0, hf0⟩ := h0
  obtain ⟨b0, c0, xs0, e0, hl0, hm0, row0, wf0, z0⟩ := open_typed (n := 4) (fun _ h => Load.of_leaves h) Try.underlying22 (by kernel_rfl) (by kernel_rfl) (by decide) hf0
  simp [Value.cells] at e0
  obtain ⟨rfl, rfl, rfl⟩ := e0
  have k1 := h1
  have lt1 : ∀ x ∈ p1, x.block < W.heap.size := by obtain ⟨m, hm⟩ := k1; exact DataW.trod_lt m _ _ _ hm
  obtain ⟨a1, len1, cap1, rfl⟩ := okWide_slice Try.underlying23 (hval 1 23 v1 rfl rfl)
  obtain ⟨fuel1, hf1⟩ := h1
  obtain ⟨b1, c1, xs1, e1, hl1, hm1, row1, wf1, z1⟩ := open_typed (n := 4) (fun _ h => Limit.of_leaves h) Try.underlying23 (by kernel_rfl) (by kernel_rfl) (by decide) hf1
  simp [Value.cells] at e1
  obtain ⟨rfl, rfl, rfl⟩ := e1
  have k2 := h2
  have lt2 : ∀ x ∈ p2, x.block < W.heap.size := by obtain ⟨m, hm⟩ := k2; exact DataW.trod_lt m _ _ _ hm
  obtain ⟨a2, len2, cap2, rfl⟩ := okWide_slice Try.underlying91 (hval 2 91 v2 rfl rfl)
  obtain ⟨fuel2, hf2⟩ := h2
  obtain ⟨b2, c2, xs2, e2, hl2, hm2, row2, wf2, z2⟩ := open_typed (n := 4) (fun _ h => u16_of_leaves h) Try.underlying91 (by kernel_rfl) (by kernel_rfl) (by decide) hf2
  simp [Value.cells] at e2
  obtain ⟨rfl, rfl, rfl⟩ := e2
  clear hA0 hval0
  refine (law_TrimKept _ _ xs0 _ _ xs1 _ _ xs2 W row0 hl0 hm0 row1 hl1 hm1 z1 row2 hl2 hm2 (fun n hn => wf_u16 (wf2 n hn))).mono fun e W' ⟨he, bel⟩ => ?_
  subst he
  exact ⟨_, rfl, _, _, _, [], _, [], hW', trodAll_mk1 (shut_bool Try.underlying4 _), (trodAll_cons_mk (Below.trod laidOut (by kernel_rfl) (of_decide_eq_true (by kernel_rfl)) k0 bel lt0) (trodAll_cons_mk (Below.trod laidOut (by kernel_rfl) (of_decide_eq_true (by kernel_rfl)) k1 bel lt1) (trodAll_cons_mk (Below.trod laidOut (by kernel_rfl) (of_decide_eq_true (by kernel_rfl)) k2 bel lt2) trodAll_mk0))), rfl, bel.frame _, fun h => by cases h⟩

theorem joined : joinedFacts Try.prog 13 Try.f13 Rows.trimKeptSpec Rows.trimKeptRow = true := by
  unfold joinedFacts
  rw [mayEnter_is, liftsFinal_is, make_is]
  kernel_rfl
theorem over : Rows.trimKeptRow.holds Try.pinned (OpenSpec.ofChange Rows.trimKeptSpec) :=
  OpenClaim.holds_of_wide 13 Try.f13 rfl rfl rfl rfl rfl rfl rfl ⟨rfl, rfl, rfl, rfl, rfl⟩ rfl rfl rfl rfl rfl (by kernel_rfl) Try.func13 joined
    (of_decide_eq_true (by kernel_rfl)) (by unfold Func.isWrapper; first | (rw [if_pos (by decide +kernel)]; kernel_rfl) | (rw [if_neg (by decide +kernel)]; exact ⟨rfl, rfl⟩))
    (fun os started H enc _ => lifted os started H enc)
end Go.Proofs.Ytlloijkmpmfapaa.trimKept

namespace Go.Proofs.Ytlloijkmpmfapaa
theorem trimKept_holds : Rows.TrimKeptSaid := trimKept.over
#print axioms trimKept_holds
end Go.Proofs.Ytlloijkmpmfapaa
