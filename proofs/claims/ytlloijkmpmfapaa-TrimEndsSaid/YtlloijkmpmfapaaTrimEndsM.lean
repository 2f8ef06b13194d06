/-
  TrimEnds, the statement: for every input the call returns true and leaves the input alone.
-/
import Derived.Test.YtlloijkmpmfapaaTrimBaseM
import Derived.Test.YtlloijkmpmfapaaRows
set_option linter.unusedVariables false
set_option linter.unusedSimpArgs false
/-
  TrimEnds: choices lie between the ends that are told: for every input.
-/
namespace Go.Proofs.Ytlloijkmpmfapaa
open Go.RowKit Bal Bal.Trim
set_option linter.unusedVariables false
set_option linter.unusedSimpArgs false
set_option maxHeartbeats 4000000
set_option maxRecDepth 10000

theorem aft_bd {n : Int} {p : Put} (h : putB p) : -1073741824 ≤ aft n p ∧ aft n p ≤ 1073741824 := by
  obtain ⟨_, h2⟩ := h
  unfold aft; split <;> omega
theorem far_bd {n : Int} {p : Put} (h : putB p) (hn : -20000 ≤ n ∧ n ≤ 20000) : -42949672960000 ≤ far n p ∧ far n p ≤ 42949672960000 := by
  have := mul_bd (A := 1073741824) (B := 40000) (x := p.wt) (y := n - p.pos) h.2.1 h.2.2 (by have := h.1; omega) (by have := h.1; omega)
  unfold far; split <;> omega
theorem law_TrimEnds (a0 : Option Addr) (c0 : Nat) (xs : List Load) (n : Int) (a2 : Option Addr) (c2 : Nat) (bs : List Int) (w : World) (h0 : Row Load.cells 4 w.heap.size w a0 xs) (hl0 : xs.length ≤ c0) (hm0 : c0 ≤ maxLen) (h2 : Row ucell 1 w.heap.size w a2 bs) (hl2 : bs.length ≤ c2) (hm2 : c2 ≤ maxLen) (hw : ∀ n ∈ bs, 0 ≤ n ∧ n ≤ 65535) :
    Calls Try.prog 10 #[.slice a0 xs.length c0, .int .i64 n, .slice a2 bs.length c2] w fun e w' => e = .returned (.bool true) ∧ Kept w w' := by
  have hm0' := hm0
  unfold maxLen at hm0'
  cases hv : validB xs []
  · have HV := Lib.hid hv
    clear hv
    go_enter Try.func10, Try.ntmps10
    go_wp2_with (first | (go_at_call 48; (with_reducible refine (o_alive _).mono ?_); rintro e wA ⟨rfl, hbA⟩) | (go_at_call 49; (with_reducible refine (o_validZ a0 c0 xs _ (h0.later (by (exact kpt)) (Nat.le_refl _)) hl0 hm0 false HV.out).mono ?_); rintro e wV ⟨rfl, hbV⟩))
    go_ret; exact ⟨rfl, by (exact kpt)⟩
  · have HV := Lib.hid hv
    obtain ⟨k1, _⟩ := validB_ok hv
    obtain ⟨hn, hx⟩ := checkLoads_ok k1
    have HE0 := Lib.hid k1
    have HX := Lib.hid hx
    have HW := Lib.hid hw
    have hpk := chosen_picks (bs := bs) hx
    have hpb := picks_B hx hpk
    have hcl : (chosen xs bs).length = xs.length := chosenTo_len xs bs xs.length
    have b1 := wtS_all hpb (by rw [hcl]; exact hn)
    have b2 := moS_all hpb (by rw [hcl]; exact hn)
    obtain ⟨⟨g1, g2⟩, ⟨g3, g4⟩, ⟨g5, g6⟩, g7, g8⟩ := ends_law hpk n
    obtain ⟨H, hH⟩ : ∃ H, wtS (chosen xs bs) = H := ⟨_, rfl⟩
    obtain ⟨M, hM⟩ : ∃ M, moS (chosen xs bs) = M := ⟨_, rfl⟩
    obtain ⟨l1, hl1'⟩ : ∃ l, sumBy wLo xs = l := ⟨_, rfl⟩
    obtain ⟨l2, hl2'⟩ : ∃ l, sumBy wHi xs = l := ⟨_, rfl⟩
    obtain ⟨m1, hm1'⟩ : ∃ l, sumBy mLo xs = l := ⟨_, rfl⟩
    obtain ⟨m2, hm2'⟩ : ∃ l, sumBy mHi xs = l := ⟨_, rfl⟩
    rw [hH] at b1 g1 g2
    rw [hM] at b2 g3 g4
    rw [hl1'] at g1
    rw [hl2'] at g2
    rw [hm1'] at g3
    rw [hm2'] at g4
    have HB1 := Lib.hid hl1'
    have HB2 := Lib.hid hl2'
    have HB3 := Lib.hid hm1'
    have HB4 := Lib.hid hm2'
    have HH := Lib.hid hH
    have HM := Lib.hid hM
    have HCL := Lib.hid hcl
    have HPB := Lib.hid hpb
    have f1 : ¬ H < l1 := by omega
    have f2 : ¬ l2 < H := by omega
    have f3 : ¬ M < m1 := by omega
    have f4 : ¬ m2 < M := by omega
    clear hl1' hl2' hm1' hm2' hH hM hcl hpb hpk hv hx hw
    cases hin : inB n (-20000) 20000
    · have HSE := Lib.hid (show strainE xs n = 2 by unfold strainE; rw [if_pos k1, hin]; rfl)
      obtain ⟨s1, hs1⟩ : ∃ s, ifOk 2 (sumBy (sLo n) xs) = s := ⟨_, rfl⟩
      obtain ⟨s2, hs2⟩ : ∃ s, ifOk 2 (sumBy (sHi n) xs) = s := ⟨_, rfl⟩
      obtain ⟨d1, hd1⟩ : ∃ s, ifOk 2 (sumBy (bLo n) xs) = s := ⟨_, rfl⟩
      obtain ⟨d2, hd2⟩ : ∃ s, ifOk 2 (sumBy (bHi n) xs) = s := ⟨_, rfl⟩
      have HS1 := Lib.hid hs1
      have HS2 := Lib.hid hs2
      have HD1 := Lib.hid hd1
      have HD2 := Lib.hid hd2
      clear hs1 hs2 hd1 hd2 g5 g6 g7 g8 hin k1
      go_enter Try.func10, Try.ntmps10
      go_upto_region 7 with (first | (go_at_call 48; (with_reducible refine (o_alive _).mono ?_); rintro e wA ⟨rfl, hbA⟩) | (go_at_call 49; (with_reducible refine (o_validZ a0 c0 xs _ (h0.later (by (exact kpt)) (Nat.le_refl _)) hl0 hm0 true HV.out).mono ?_); rintro e wV ⟨rfl, hbV⟩) | (go_at_call 31; (with_reducible refine (o_balance a0 c0 xs _ (h0.later (by (exact kpt)) (Nat.le_refl _)) hl0 hm0 HE0.out l1 l2 m1 m2 HB1.out HB2.out HB3.out HB4.out).mono ?_); rintro e wB ⟨rfl, hbB⟩))
      refine at_world (S := fun W1 => Blk W1 wB.heap.size #[.int .i64 l1, .int .i64 l2] 49 ∧ Blk W1 (wB.heap.size + 1) #[.int .i64 m1, .int .i64 m2] 49 ∧ Kept w W1) ⟨by (exact blkc), by (exact blkc), by (exact kpt)⟩ ?_
      obtain ⟨n1, hn1⟩ : ∃ n, n = wB.heap.size := ⟨_, rfl⟩
      rw [← hn1]
      clear hn1
      rintro W1 ⟨q1, q2, hk⟩
      go_upto_region 8 with (go_at_call 35; (with_reducible refine (o_shear n a0 c0 xs _ (h0.later (by (exact kpt)) (Nat.le_refl _)) hl0 hm0 s1 s2 2 HSE.out HS1.out HS2.out).mono ?_); rintro e wS ⟨rfl, hbS⟩)
      refine at_world (S := fun W2 => Blk W2 n1 #[.int .i64 l1, .int .i64 l2] 49 ∧ Blk W2 (n1 + 1) #[.int .i64 m1, .int .i64 m2] 49 ∧ Blk W2 wS.heap.size #[.int .i64 s1, .int .i64 s2] 49 ∧ Kept w W2) ⟨by (exact blk), by (exact blk), by (exact blkc), by (exact kpt)⟩ ?_
      obtain ⟨n2, hn2⟩ : ∃ n, n = wS.heap.size := ⟨_, rfl⟩
      rw [← hn2]
      clear q1 q2 hk hn2
      rintro W2 ⟨q1, q2, q3, hk⟩
      go_upto_region 9 with (go_at_call 37; (with_reducible refine (o_bend n a0 c0 xs _ (h0.later (by (exact kpt)) (Nat.le_refl _)) hl0 hm0 d1 d2 2 HSE.out HD1.out HD2.out).mono ?_); rintro e wD ⟨rfl, hbD⟩)
      refine at_world (S := fun W3 => Blk W3 n1 #[.int .i64 l1, .int .i64 l2] 49 ∧ Blk W3 (n1 + 1) #[.int .i64 m1, .int .i64 m2] 49 ∧ Blk W3 n2 #[.int .i64 s1, .int .i64 s2] 49 ∧ Blk W3 wD.heap.size #[.int .i64 d1, .int .i64 d2] 49 ∧ Kept w W3) ⟨by (exact blk), by (exact blk), by (exact blk), by (exact blkc), by (exact kpt)⟩ ?_
      obtain ⟨n3, hn3⟩ : ∃ n, n = wD.heap.size := ⟨_, rfl⟩
      rw [← hn3]
      clear q1 q2 q3 hk hn3
      rintro W3 ⟨q1, q2, q3, q4, hk⟩
      go_upto_region 13 with (first | (go_at_call 52; (with_reducible refine (o_chosen a0 c0 xs a2 c2 bs _ (h0.later (by (exact kpt)) (Nat.le_refl _)) hn HX.out (h2.later (by (exact kpt)) (Nat.le_refl _)) hl2 hm2 HW.out).mono ?_); rintro e wC ⟨aC, cC, rfl, hC, hC1, hC2, hbC⟩) | (go_at_call 53; (with_reducible refine (o_sumsN _ xs.length _ (chosen xs bs) _ HCL.out (hC.later (by (exact kpt)) (Nat.le_refl _)) hn HPB.out H M HH.out HM.out).mono ?_); rintro e wU ⟨rfl, hbwU⟩))
      refine at_world (S := fun W4 => Blk W4 n1 #[.int .i64 l1, .int .i64 l2] 49 ∧ Blk W4 (n1 + 1) #[.int .i64 m1, .int .i64 m2] 49 ∧ Blk W4 n2 #[.int .i64 s1, .int .i64 s2] 49 ∧ Blk W4 n3 #[.int .i64 d1, .int .i64 d2] 49 ∧ Row Put.cells 2 W4.heap.size W4 aC (chosen xs bs) ∧ Kept w W4) ⟨by (exact blk), by (exact blk), by (exact blk), by (exact blk), (hC.later (by (exact kpt)) (Nat.le_refl _)), by (exact kpt)⟩ ?_
      clear q1 q2 q3 q4 hk
      rintro W4 ⟨q1, q2, q3, q4, rC, hk⟩
      have q1c0 := q1.cell 0
      have q1f0 := q1.free 0
      have q1c1 := q1.cell 1
      have q1f1 := q1.free 1
      have q1l := q1.lt
      simp at q1c0 q1c1
      have q2c0 := q2.cell 0
      have q2f0 := q2.free 0
      have q2c1 := q2.cell 1
      have q2f1 := q2.free 1
      have q2l := q2.lt
      simp at q2c0 q2c1
      go_wp2
      go_ret; exact ⟨rfl, by (exact kpt)⟩
    · have HSE := Lib.hid (show strainE xs n = 0 by unfold strainE; rw [if_pos k1, hin]; rfl)
      have hnb : -20000 ≤ n ∧ n ≤ 20000 := by simpa [inB] using hin
      obtain ⟨s1, hs1⟩ : ∃ s, ifOk 0 (sumBy (sLo n) xs) = s := ⟨_, rfl⟩
      obtain ⟨s2, hs2⟩ : ∃ s, ifOk 0 (sumBy (sHi n) xs) = s := ⟨_, rfl⟩
      obtain ⟨d1, hd1⟩ : ∃ s, ifOk 0 (sumBy (bLo n) xs) = s := ⟨_, rfl⟩
      obtain ⟨d2, hd2⟩ : ∃ s, ifOk 0 (sumBy (bHi n) xs) = s := ⟨_, rfl⟩
      have HS1 := Lib.hid hs1
      have HS2 := Lib.hid hs2
      have HD1 := Lib.hid hd1
      have HD2 := Lib.hid hd2
      simp only [ifOk, if_true] at hs1 hs2 hd1 hd2
      rw [hs1] at g5
      rw [hs2] at g6
      rw [hd1] at g7
      rw [hd2] at g8
      have HG5 := Lib.hid g5
      have HG6 := Lib.hid g6
      have HG7 := Lib.hid g7
      have HG8 := Lib.hid g8
      clear hs1 hs2 hd1 hd2 g5 g6 g7 g8 hin k1
      go_enter Try.func10, Try.ntmps10
      go_upto_region 7 with (first | (go_at_call 48; (with_reducible refine (o_alive _).mono ?_); rintro e wA ⟨rfl, hbA⟩) | (go_at_call 49; (with_reducible refine (o_validZ a0 c0 xs _ (h0.later (by (exact kpt)) (Nat.le_refl _)) hl0 hm0 true HV.out).mono ?_); rintro e wV ⟨rfl, hbV⟩) | (go_at_call 31; (with_reducible refine (o_balance a0 c0 xs _ (h0.later (by (exact kpt)) (Nat.le_refl _)) hl0 hm0 HE0.out l1 l2 m1 m2 HB1.out HB2.out HB3.out HB4.out).mono ?_); rintro e wB ⟨rfl, hbB⟩))
      refine at_world (S := fun W1 => Blk W1 wB.heap.size #[.int .i64 l1, .int .i64 l2] 49 ∧ Blk W1 (wB.heap.size + 1) #[.int .i64 m1, .int .i64 m2] 49 ∧ Kept w W1) ⟨by (exact blkc), by (exact blkc), by (exact kpt)⟩ ?_
      obtain ⟨n1, hn1⟩ : ∃ n, n = wB.heap.size := ⟨_, rfl⟩
      rw [← hn1]
      clear hn1
      rintro W1 ⟨q1, q2, hk⟩
      go_upto_region 8 with (go_at_call 35; (with_reducible refine (o_shear n a0 c0 xs _ (h0.later (by (exact kpt)) (Nat.le_refl _)) hl0 hm0 s1 s2 0 HSE.out HS1.out HS2.out).mono ?_); rintro e wS ⟨rfl, hbS⟩)
      refine at_world (S := fun W2 => Blk W2 n1 #[.int .i64 l1, .int .i64 l2] 49 ∧ Blk W2 (n1 + 1) #[.int .i64 m1, .int .i64 m2] 49 ∧ Blk W2 wS.heap.size #[.int .i64 s1, .int .i64 s2] 49 ∧ Kept w W2) ⟨by (exact blk), by (exact blk), by (exact blkc), by (exact kpt)⟩ ?_
      obtain ⟨n2, hn2⟩ : ∃ n, n = wS.heap.size := ⟨_, rfl⟩
      rw [← hn2]
      clear q1 q2 hk hn2
      rintro W2 ⟨q1, q2, q3, hk⟩
      go_upto_region 9 with (go_at_call 37; (with_reducible refine (o_bend n a0 c0 xs _ (h0.later (by (exact kpt)) (Nat.le_refl _)) hl0 hm0 d1 d2 0 HSE.out HD1.out HD2.out).mono ?_); rintro e wD ⟨rfl, hbD⟩)
      refine at_world (S := fun W3 => Blk W3 n1 #[.int .i64 l1, .int .i64 l2] 49 ∧ Blk W3 (n1 + 1) #[.int .i64 m1, .int .i64 m2] 49 ∧ Blk W3 n2 #[.int .i64 s1, .int .i64 s2] 49 ∧ Blk W3 wD.heap.size #[.int .i64 d1, .int .i64 d2] 49 ∧ Kept w W3) ⟨by (exact blk), by (exact blk), by (exact blk), by (exact blkc), by (exact kpt)⟩ ?_
      obtain ⟨n3, hn3⟩ : ∃ n, n = wD.heap.size := ⟨_, rfl⟩
      rw [← hn3]
      clear q1 q2 q3 hk hn3
      rintro W3 ⟨q1, q2, q3, q4, hk⟩
      go_upto_region 13 with (first | (go_at_call 52; (with_reducible refine (o_chosen a0 c0 xs a2 c2 bs _ (h0.later (by (exact kpt)) (Nat.le_refl _)) hn HX.out (h2.later (by (exact kpt)) (Nat.le_refl _)) hl2 hm2 HW.out).mono ?_); rintro e wC ⟨aC, cC, rfl, hC, hC1, hC2, hbC⟩) | (go_at_call 53; (with_reducible refine (o_sumsN _ xs.length _ (chosen xs bs) _ HCL.out (hC.later (by (exact kpt)) (Nat.le_refl _)) hn HPB.out H M HH.out HM.out).mono ?_); rintro e wU ⟨rfl, hbwU⟩))
      refine at_world (S := fun W4 => Blk W4 n1 #[.int .i64 l1, .int .i64 l2] 49 ∧ Blk W4 (n1 + 1) #[.int .i64 m1, .int .i64 m2] 49 ∧ Blk W4 n2 #[.int .i64 s1, .int .i64 s2] 49 ∧ Blk W4 n3 #[.int .i64 d1, .int .i64 d2] 49 ∧ Row Put.cells 2 W4.heap.size W4 aC (chosen xs bs) ∧ Kept w W4) ⟨by (exact blk), by (exact blk), by (exact blk), by (exact blk), (hC.later (by (exact kpt)) (Nat.le_refl _)), by (exact kpt)⟩ ?_
      clear q1 q2 q3 q4 hk
      rintro W4 ⟨q1, q2, q3, q4, rC, hk⟩
      have q1c0 := q1.cell 0
      have q1f0 := q1.free 0
      have q1c1 := q1.cell 1
      have q1f1 := q1.free 1
      have q1l := q1.lt
      simp at q1c0 q1c1
      have q2c0 := q2.cell 0
      have q2f0 := q2.free 0
      have q2c1 := q2.cell 1
      have q2f1 := q2.free 1
      have q2l := q2.lt
      simp at q2c0 q2c1
      go_upto_region 18 with fail
      refine at_world (S := fun W5 => Blk W5 n1 #[.int .i64 l1, .int .i64 l2] 49 ∧ Blk W5 (n1 + 1) #[.int .i64 m1, .int .i64 m2] 49 ∧ Blk W5 n2 #[.int .i64 s1, .int .i64 s2] 49 ∧ Blk W5 n3 #[.int .i64 d1, .int .i64 d2] 49 ∧ Row Put.cells 2 W5.heap.size W5 aC (chosen xs bs) ∧ Kept w W5) ⟨by (exact blk), by (exact blk), by (exact blk), by (exact blk), (rC.later (by (exact kpt)) (Nat.le_refl _)), by (exact kpt)⟩ ?_
      clear q1 q2 q3 q4 rC hk
      rintro W5 ⟨q1, q2, q3, q4, rC, hk⟩
      obtain ⟨cs, hcs⟩ : ∃ cs, cs = chosen xs bs := ⟨_, rfl⟩
      rw [← hcs] at HCL HPB HG5 HG6 HG7 HG8 rC
      have HSA := Lib.hid (fun k => sumBy_take_bd (aft n) 1073741824 43000000000 cs 40 (by rw [HCL.out]; exact hn) (by omega) (by omega) (fun p h => aft_bd (HPB.out p h)) k)
      have HSB := Lib.hid (fun k => sumBy_take_bd (far n) 42949672960000 1720000000000000 cs 40 (by rw [HCL.out]; exact hn) (by omega) (by omega) (fun p h => far_bd (HPB.out p h) hnb) k)
      clear hcs
      go_wp2
      go_loopw [18, 19, 97] (fun s18 s19 i wr => ∃ k : Nat, k ≤ xs.length ∧ i = .int .i64 k ∧ s18 = .int .i64 (sumBy (aft n) (cs.take k)) ∧ s19 = .int .i64 (sumBy (far n) (cs.take k)) ∧ Blk wr n2 #[.int .i64 s1, .int .i64 s2] 49 ∧ Blk wr n3 #[.int .i64 d1, .int .i64 d2] 49 ∧ Row Put.cells 2 wr.heap.size wr aC cs ∧ Kept w wr) (fun _ _ i _ => xs.length - (intOf i).toNat)
      case atStart => exact ⟨0, Nat.zero_le _, rfl, rfl, rfl, q3, q4, rC, hk⟩
      case round =>
        clear q1 q2 q3 q4 rC hk f1 f2 f3 f4
        obtain ⟨k, hk, rfl, rfl, rfl, q3, q4, rC, hkk⟩ := hrel
        have hcl := HCL.out
        by_cases hlt : k < xs.length
        · obtain ⟨bb, off, rfl, hbl, c0, c1⟩ := Put.row rC k (by omega)
          have hkc : k < cs.length := by omega
          have sa := HSA.out k
          have sb := HSB.out k
          have pb := HPB.out _ (List.getElem_mem hkc)
          have ra := aft_bd (n := n) pb
          have rb := far_bd pb hnb
          have ea := sumBy_take (aft n) cs k hkc
          have eb := sumBy_take (far n) cs k hkc
          obtain ⟨SA, hSA⟩ : ∃ S, S = sumBy (aft n) (cs.take k) := ⟨_, rfl⟩
          obtain ⟨SB, hSB⟩ : ∃ S, S = sumBy (far n) (cs.take k) := ⟨_, rfl⟩
          obtain ⟨x, hx0⟩ : ∃ x, x = cs[k] := ⟨_, rfl⟩
          rw [← hSA] at sa ea ⊢
          rw [← hSB] at sb eb ⊢
          rw [← hx0] at pb ra rb ea eb c0 c1
          obtain ⟨pb1, pb2⟩ := pb
          clear hSA hSB hx0 hcl
          have j0 : (0 : Int) ≤ (k : Int) := by omega
          have j1 : (k : Int) < (xs.length : Int) := by omega
          by_cases hpn : x.pos < n
          · rw [show aft n x = x.wt from if_pos hpn] at ea ra
            rw [show far n x = x.wt * (n - x.pos) from if_pos hpn] at eb rb
            obtain ⟨u, hu⟩ : ∃ u, u = x.wt * (n - x.pos) := ⟨_, rfl⟩
            rw [← hu] at eb rb
            have eu : x.wt * (n - x.pos) = u := hu.symm
            have EA := Lib.hid ea
            have EB := Lib.hid eb
            clear ea eb hu
            go_wp2
            go_roundw
            case rel => exact ⟨k + 1, by omega, by go_num, by rw [EA.out], by rw [EB.out], by (exact blk), by (exact blk), (rC.later (by (exact kpt)) (Nat.le_refl _)), by (exact kpt)⟩
            case measure => simp [intOf]; omega
          · rw [show aft n x = 0 from if_neg hpn, Int.add_zero] at ea
            rw [show far n x = 0 from if_neg hpn, Int.add_zero] at eb
            have EA := Lib.hid ea
            have EB := Lib.hid eb
            clear ea eb
            go_wp2
            go_roundw
            case rel => exact ⟨k + 1, by omega, by go_num, by rw [EA.out], by rw [EB.out], by (exact blk), by (exact blk), (rC.later (by (exact kpt)) (Nat.le_refl _)), by (exact kpt)⟩
            case measure => simp [intOf]; omega
        · obtain rfl : xs.length = k := by omega
          rw [← hcl, List.take_length]
          have g5 := HG5.out
          have g6 := HG6.out
          have g7 := HG7.out
          have g8 := HG8.out
          obtain ⟨SA, hSA⟩ : ∃ S, S = sumBy (aft n) cs := ⟨_, rfl⟩
          obtain ⟨SB, hSB⟩ : ∃ S, S = sumBy (far n) cs := ⟨_, rfl⟩
          rw [← hSA] at g5 g6 ⊢
          rw [← hSB] at g7 g8 ⊢
          rw [hcl]
          clear hSA hSB hcl
          have q3c0 := q3.cell 0
          have q3f0 := q3.free 0
          have q3c1 := q3.cell 1
          have q3f1 := q3.free 1
          have q3l := q3.lt
          simp at q3c0 q3c1
          have q4c0 := q4.cell 0
          have q4f0 := q4.free 0
          have q4c1 := q4.cell 1
          have q4f1 := q4.free 1
          have q4l := q4.lt
          simp at q4c0 q4c1
          go_wp2
          go_ret; exact ⟨rfl, by (exact kpt)⟩
end Go.Proofs.Ytlloijkmpmfapaa

/-
  TrimEnds, the statement: for every input the call returns true and leaves the input alone.
-/
namespace Go.Proofs.Ytlloijkmpmfapaa.trimEnds
open Go.ChangeShapes Go.WideShapes Go.ChangeAt Go.RowKit Bal Bal.Trim
open Go.ChangeMaps (open_string shut_string)
set_option linter.unusedVariables false

theorem own : ownKnob Try.prog.godebug = none := by kernel_rfl
theorem laidOut : laidOutB Try.prog = true := by kernel_rfl

set_option maxRecDepth 100000 in
theorem lifted (os : Os) (started : os.Started) (H : Type) (enc : TypeId × Value → H) :
    ReturnsInHanded {} Try.checked os 10 .any (Rows.trimEndsSpec.pre6 enc Try.prog Try.f10 Rows.trimEndsRow.domain false) (Rows.trimEndsSpec.post enc Try.prog Try.f10 false true false false) := by
  refine returnsInHanded_of_change (C := Try.checked) own started (by kernel_rfl) Try.func10
    (ChangeSpec.witness6 (enc := enc) (C := Try.checked) false ⟨#[], #[.slice none 0 0, .int .i64 0, .slice none 0 0], []⟩ 8 (by kernel_rfl) (by kernel_rfl) (by kernel_rfl) (by kernel_rfl)) ?_
  intro W base args ds gs before hval0 hW hcnd _
  have hval : ∀ (j : Nat) t v, Try.f10.params[j]? = some t → args[j]? = some v → Value.okWide Try.prog W .any base t v := hval0
  have hW' := hW
  obtain ⟨p, q, hA0, hV, rfl, hfz, hnd⟩ := hW
  have hA : DataW.TrodAll enc Try.prog W 0 (fun _ => true) true Try.f10.params.toList args.toList ds p := hA0
  rw [Try.params10] at hA hval
  obtain ⟨v0, vs0, d0, ds0, p0, q0, hargs, rfl, rfl, h0, r0⟩ := trodAll_cons hA
  obtain ⟨v1, vs1, d1, ds1, p1, q1, rfl, rfl, rfl, h1, r1⟩ := trodAll_cons r0
  obtain ⟨v2, vs2, d2, ds2, p2, q2, rfl, rfl, rfl, h2, r2⟩ := trodAll_cons r1
  obtain ⟨rfl, rfl, rfl⟩ := trodAll_nil r2
  obtain rfl : args = #[v0, v1, v2] := by cases args; simp_all
  obtain ⟨rfl, rfl⟩ := trodVars_none hV
  have k0 := h0
  have lt0 : ∀ x ∈ p0, x.block < W.heap.size := by obtain ⟨m, hm⟩ := k0; exact DataW.trod_lt m _ _ _ hm
  obtain ⟨a0, len0, cap0, rfl⟩ := okWide_slice Try.underlying22 (hval 0 22 v0 rfl rfl)
  obtain ⟨fuel0, hf0⟩ := h0
  obtain ⟨b0, c0, xs0, e0, hl0, hm0, row0, wf0, z0⟩ := open_typed (n := 4) (fun _ h => Load.of_leaves h) Try.underlying22 (by kernel_rfl) (by kernel_rfl) (by decide) hf0
  simp [Value.cells] at e0
  obtain ⟨rfl, rfl, rfl⟩ := e0
  obtain ⟨a1, rfl, rfl, rfl, w1⟩ := open_int Try.underlying3 (hval 1 3 v1 rfl rfl) h1
  have k2 := h2
  have lt2 : ∀ x ∈ p2, x.block < W.heap.size := by obtain ⟨m, hm⟩ := k2; exact DataW.trod_lt m _ _ _ hm
  obtain ⟨a2, len2, cap2, rfl⟩ := okWide_slice Try.underlying91 (hval 2 91 v2 rfl rfl)
  obtain ⟨fuel2, hf2⟩ := h2
  obtain ⟨b2, c2, xs2, e2, hl2, hm2, row2, wf2, z2⟩ := open_typed (n := 4) (fun _ h => u16_of_leaves h) Try.underlying91 (by kernel_rfl) (by kernel_rfl) (by decide) hf2
  simp [Value.cells] at e2
  obtain ⟨rfl, rfl, rfl⟩ := e2
  clear hA0 hval0
  refine (law_TrimEnds _ _ xs0 a1 _ _ xs2 W row0 hl0 hm0 row2 hl2 hm2 (fun n hn => wf_u16 (wf2 n hn))).mono fun e W' ⟨he, bel⟩ => ?_
  subst he
  exact ⟨_, rfl, _, _, _, [], _, [], hW', trodAll_mk1 (shut_bool Try.underlying4 _), (trodAll_cons_mk (Below.trod laidOut (by kernel_rfl) (of_decide_eq_true (by kernel_rfl)) k0 bel lt0) (trodAll_cons_mk (shut_int Try.underlying3 w1) (trodAll_cons_mk (Below.trod laidOut (by kernel_rfl) (of_decide_eq_true (by kernel_rfl)) k2 bel lt2) trodAll_mk0))), rfl, bel.frame _, fun h => by cases h⟩

theorem joined : joinedFacts Try.prog 10 Try.f10 Rows.trimEndsSpec Rows.trimEndsRow = true := by
  unfold joinedFacts
  rw [mayEnter_is, liftsFinal_is, make_is]
  kernel_rfl
theorem over : Rows.trimEndsRow.holds Try.pinned (OpenSpec.ofChange Rows.trimEndsSpec) :=
  OpenClaim.holds_of_wide 10 Try.f10 rfl rfl rfl rfl rfl rfl rfl ⟨rfl, rfl, rfl, rfl, rfl⟩ rfl rfl rfl rfl rfl (by kernel_rfl) Try.func10 joined
    (of_decide_eq_true (by kernel_rfl)) (by unfold Func.isWrapper; first | (rw [if_pos (by decide +kernel)]; kernel_rfl) | (rw [if_neg (by decide +kernel)]; exact ⟨rfl, rfl⟩))
    (fun os started H enc _ => lifted os started H enc)
end Go.Proofs.Ytlloijkmpmfapaa.trimEnds

namespace Go.Proofs.Ytlloijkmpmfapaa
theorem trimEnds_holds : Rows.TrimEndsSaid := trimEnds.over
#print axioms trimEnds_holds
end Go.Proofs.Ytlloijkmpmfapaa
