/-
  TrimWorst, the statement: for every input the call returns true and leaves the input alone.
-/
import Derived.Test.YtlloijkmpmfapaaTrimBaseM
import Derived.Deep.RegionHeld3
import Derived.Test.YtlloijkmpmfapaaRows
set_option linter.unusedVariables false
set_option linter.unusedSimpArgs false
/-
  TrimWorst: no choice is worse than the worst one: for every input.
-/
namespace Go.Proofs.Ytlloijkmpmfapaa
open Go.RowKit Bal Bal.Trim
set_option linter.unusedVariables false
set_option linter.unusedSimpArgs false
set_option maxHeartbeats 4000000
set_option maxRecDepth 10000

theorem o_valid1 (a : Option Addr) (cap : Nat) (xs : List Load) (w : World) (hx : Row Load.cells 4 w.heap.size w a xs) (hc : xs.length ≤ cap) (hM : cap ≤ maxLen) (m : Limit) (b : Nat) (hb : Blk w b #[.int .i64 m.a, .int .i64 m.b, .int .i64 m.c] 47) (V : Bool) (h : validB xs [m] = V) :
    Calls Try.prog 49 #[.slice a xs.length cap, .slice (some ⟨b, 0, none⟩) 1 1] w fun e w' => e = .returned (.bool V) ∧ Kept w w' :=
  o_validN a cap xs w hx hc hM (some ⟨b, 0, none⟩) 1 [m] (Row.block (fun _ => rfl) hb rfl) (Nat.le_refl _) (by simp [maxLen]) V h
theorem o_breach1 (a : Option Addr) (cap : Nat) (xs : List Load) (w : World) (hx : Row Load.cells 4 w.heap.size w a xs) (hc : xs.length ≤ cap) (hM : cap ≤ maxLen) (m : Limit) (b : Nat) (hb : Blk w b #[.int .i64 m.a, .int .i64 m.b, .int .i64 m.c] 47) (n : Nat) (N E : Int) (P : List Put) (h : breachN xs [m] = N ∧ breachE xs [m] = E ∧ breachP xs [m] = P ∧ P.length = n) :
    Calls Try.prog 25 #[.slice a xs.length cap, .slice (some ⟨b, 0, none⟩) 1 1] w fun e w' => ∃ aB cB, e = .returned (.tuple #[.agg #[.int .i64 N, .slice aB n cB], .int .i64 E]) ∧ Row Put.cells 2 w'.heap.size w' aB P ∧ n ≤ cB ∧ cB ≤ maxLen ∧ Kept w w' :=
  o_breach a cap xs w hx hc hM (some ⟨b, 0, none⟩) 1 [m] (Row.block (fun _ => rfl) hb rfl) (Nat.le_refl _) (by simp [maxLen]) n N E P h.1 h.2.1 h.2.2.1 h.2.2.2
theorem worst_bd {m : Limit} {xs : List Load} (hn : xs.length ≤ 40) (hm : limitB m = true) (hx : ∀ y ∈ xs, loadB y = true) : -880000000000000000 ≤ worstV m xs ∧ worstV m xs ≤ 880000000000000000 := by
  have := sumBy_take_bd (fun y => vOf m (best m y)) 22000000000000000 880000000000000000 xs 40 hn (by omega) (by omega) (fun y h => best_bd hm (hx y h)) xs.length
  rw [List.take_length] at this
  rw [worstV_eq]
  exact this
theorem at_limit {x : Limit} {xs : List Load} (hn : xs.length ≤ 40) (hm : limitB x = true) (hx : ∀ y ∈ xs, loadB y = true) (h0 : checkLoads xs = 0) (c : Int) (h1 : -1000000000000000000 ≤ c) (h2 : c ≤ 1000000000000000000) :
    breachN xs [⟨x.a, x.b, c⟩] = 0 ∧ breachE xs [⟨x.a, x.b, c⟩] = (if c < worstV x xs then 0 else 6) ∧ breachP xs [⟨x.a, x.b, c⟩] = (if c < worstV x xs then choice x xs else []) := by
  have hl : checkLimits [⟨x.a, x.b, c⟩] = 0 := by
    refine checkList_ok (by simp) ?_
    obtain ⟨b1, b2, _⟩ := limitB_bd hm
    simp only [List.all_cons, List.all_nil, Bool.and_true, limitB, inB, Bool.and_eq_true, decide_eq_true_eq]
    omega
  have hb : both xs [⟨x.a, x.b, c⟩] = 0 := both_is h0 hl
  have hw : worstV ⟨x.a, x.b, c⟩ xs = worstV x xs := rfl
  have hc : choice ⟨x.a, x.b, c⟩ xs = choice x xs := rfl
  have hbr := brk_one (xs := xs) (m := ⟨x.a, x.b, c⟩)
  rw [hw] at hbr
  simp only at hbr
  unfold breachN breachE breachP
  rw [if_pos hb, if_pos hb, if_pos hb, hbr]
  by_cases h : c < worstV x xs
  · rw [if_pos h, if_pos h, if_pos h]
    exact ⟨rfl, rfl, by simp [brP]; exact hc⟩
  · rw [if_neg h, if_neg h, if_neg h]
    exact ⟨rfl, rfl, rfl⟩

theorem law_TrimWorst (a0 : Option Addr) (c0 : Nat) (xs : List Load) (x : Limit) (a2 : Option Addr) (c2 : Nat) (bs : List Int) (w : World) (h0 : Row Load.cells 4 w.heap.size w a0 xs) (hl0 : xs.length ≤ c0) (hm0 : c0 ≤ maxLen) (h2 : Row ucell 1 w.heap.size w a2 bs) (hl2 : bs.length ≤ c2) (hm2 : c2 ≤ maxLen) (hw : ∀ n ∈ bs, 0 ≤ n ∧ n ≤ 65535) :
    Calls Try.prog 12 #[.slice a0 xs.length c0, .agg #[.int .i64 x.a, .int .i64 x.b, .int .i64 x.c], .slice a2 bs.length c2] w fun e w' => e = .returned (.bool true) ∧ Kept w w' := by
  have hm0' := hm0
  unfold maxLen at hm0'
  cases hv : validB xs [x]
  · have HV := Lib.hid hv
    clear hv
    go_enter Try.func12, Try.ntmps12
    go_wp2_with (first | (go_at_call 48; (with_reducible refine (o_alive _).mono ?_); rintro e wA ⟨rfl, hbA⟩; refine Blk.thru (b := w.heap.size) (arr := ?_) (t := ?_) ?_ hbA ?_; rotate_left 2; (focus (exact blk)); intro qa; have qac0 := qa.cell 0; have qaf0 := qa.free 0; have qac1 := qa.cell 1; have qaf1 := qa.free 1; have qac2 := qa.cell 2; have qaf2 := qa.free 2; have qal := qa.lt; simp at qac0 qac1 qac2) | (go_at_call 49; (with_reducible refine (o_valid1 a0 c0 xs _ (h0.later (by (exact kpt)) (Nat.le_refl _)) hl0 hm0 x _ ?_ false HV.out).mono ?_); (focus (exact blk)); rintro e wV ⟨rfl, hbV⟩; refine Blk.thru (b := w.heap.size) (arr := ?_) (t := ?_) ?_ hbV ?_; rotate_left 2; (focus (exact blk)); intro qv; have qvc0 := qv.cell 0; have qvf0 := qv.free 0; have qvc1 := qv.cell 1; have qvf1 := qv.free 1; have qvc2 := qv.cell 2; have qvf2 := qv.free 2; have qvl := qv.lt; simp at qvc0 qvc1 qvc2))
    go_ret; exact ⟨rfl, by (exact kpt)⟩
  · have HV := Lib.hid hv
    obtain ⟨k1, k2⟩ := validB_ok hv
    obtain ⟨hn, hx⟩ := checkLoads_ok k1
    have hlm : limitB x = true := (checkLimits_ok k2).2 x (by simp)
    have HX := Lib.hid hx
    have HW := Lib.hid hw
    have HLM := Lib.hid hlm
    have hpk := chosen_picks (bs := bs) hx
    have hpc := choice_picks (m := x) hx
    have hpb := picks_B hx hpk
    have hpd := picks_B hx hpc
    have hcl : (chosen xs bs).length = xs.length := chosenTo_len xs bs xs.length
    have hdl : (choice x xs).length = xs.length := choice_len x xs
    have b1 := wtS_all hpb (by rw [hcl]; exact hn)
    have b2 := moS_all hpb (by rw [hcl]; exact hn)
    have b3 := wtS_all hpd (by rw [hdl]; exact hn)
    have b4 := moS_all hpd (by rw [hdl]; exact hn)
    have hle := picks_value (m := x) hpk
    have heq : value x (choice x xs) = worstV x xs := rfl
    have hwb := worst_bd hn hlm hx
    have hat := at_limit hn hlm hx k1 (worstV x xs) (by omega) (by omega)
    have hbe := at_limit hn hlm hx k1 (worstV x xs - 1) (by omega) (by omega)
    rw [if_neg (by omega), if_neg (by omega)] at hat
    rw [if_pos (by omega), if_pos (by omega)] at hbe
    obtain ⟨lb1, lb2, _⟩ := limitB_bd hlm
    rw [value_lin] at hle heq
    obtain ⟨V9, hV⟩ : ∃ V, V = worstV x xs := ⟨_, rfl⟩
    obtain ⟨H, hH⟩ : ∃ H, wtS (choice x xs) = H := ⟨_, rfl⟩
    obtain ⟨M, hM⟩ : ∃ M, moS (choice x xs) = M := ⟨_, rfl⟩
    obtain ⟨H2, hH2⟩ : ∃ H, wtS (chosen xs bs) = H := ⟨_, rfl⟩
    obtain ⟨M2, hM2⟩ : ∃ M, moS (chosen xs bs) = M := ⟨_, rfl⟩
    rw [hH2, hM2, ← hV] at hle
    rw [hH, hM, ← hV] at heq
    rw [hH2] at b1
    rw [hM2] at b2
    rw [hH] at b3
    rw [hM] at b4
    rw [← hV] at hwb hat hbe
    have HAT := Lib.hid (show breachN xs [⟨x.a, x.b, V9⟩] = 0 ∧ breachE xs [⟨x.a, x.b, V9⟩] = 6 ∧ breachP xs [⟨x.a, x.b, V9⟩] = [] ∧ ([] : List Put).length = 0 from ⟨hat.1, hat.2.1, hat.2.2, rfl⟩)
    have HBE := Lib.hid (show breachN xs [⟨x.a, x.b, V9 - 1⟩] = 0 ∧ breachE xs [⟨x.a, x.b, V9 - 1⟩] = 0 ∧ breachP xs [⟨x.a, x.b, V9 - 1⟩] = choice x xs ∧ (choice x xs).length = xs.length from ⟨hbe.1, hbe.2.1, hbe.2.2, hdl⟩)
    have hE : worstE x xs = 0 := by unfold worstE; rw [if_pos k1, if_pos hlm]
    have HV1 := Lib.hid (show ifOk (worstE x xs) (worstV x xs) = V9 by rw [hE, hV]; rfl)
    have HV2 := Lib.hid hE
    have HV3 := Lib.hid (show worstP x xs = choice x xs by unfold worstP; rw [if_pos hE])
    have HV4 := Lib.hid hdl
    have HH := Lib.hid hH
    have HM := Lib.hid hM
    have HH2 := Lib.hid hH2
    have HM2 := Lib.hid hM2
    have HCL := Lib.hid hcl
    have HPB := Lib.hid hpb
    have HPC := Lib.hid hpd
    have HPI := Lib.hid hpc.2
    have p1 := mul_bd (A := 1000) (B := 43000000000) lb1.1 lb1.2 b1.1 b1.2
    have p2 := mul_bd (A := 1000) (B := 859000000000000) lb2.1 lb2.2 b2.1 b2.2
    have p3 := mul_bd (A := 1000) (B := 43000000000) lb1.1 lb1.2 b3.1 b3.2
    have p4 := mul_bd (A := 1000) (B := 859000000000000) lb2.1 lb2.2 b4.1 b4.2
    obtain ⟨u1, hu1⟩ : ∃ u, u = x.a * H := ⟨_, rfl⟩
    obtain ⟨u2, hu2⟩ : ∃ u, u = x.b * M := ⟨_, rfl⟩
    obtain ⟨u3, hu3⟩ : ∃ u, u = x.a * H2 := ⟨_, rfl⟩
    obtain ⟨u4, hu4⟩ : ∃ u, u = x.b * M2 := ⟨_, rfl⟩
    rw [← hu1] at p3 heq
    rw [← hu2] at p4 heq
    rw [← hu3] at p1 hle
    rw [← hu4] at p2 hle
    have e1 : x.a * H = u1 := hu1.symm
    have e2 : x.b * M = u2 := hu2.symm
    have e3 : x.a * H2 = u3 := hu3.symm
    have e4 : x.b * M2 = u4 := hu4.symm
    have f1 : u1 + u2 = V9 := heq
    have f2 : ¬ V9 < u3 + u4 := by omega
    clear hv hV hH hM hH2 hM2 hpk hpc hpb hpd hcl hdl hat hbe hE hu1 hu2 hu3 hu4 heq hx hw hlm k1 k2 b1 b2 b3 b4 lb1 lb2
    go_enter Try.func12, Try.ntmps12
    go_upto_region 7 with (first | (go_at_call 48; (with_reducible refine (o_alive _).mono ?_); rintro e wA ⟨rfl, hbA⟩; refine Blk.thru (b := w.heap.size) (arr := ?_) (t := ?_) ?_ hbA ?_; rotate_left 2; (focus (exact blk)); intro qa; have qac0 := qa.cell 0; have qaf0 := qa.free 0; have qac1 := qa.cell 1; have qaf1 := qa.free 1; have qac2 := qa.cell 2; have qaf2 := qa.free 2; have qal := qa.lt; simp at qac0 qac1 qac2) | (go_at_call 49; (with_reducible refine (o_valid1 a0 c0 xs _ (h0.later (by (exact kpt)) (Nat.le_refl _)) hl0 hm0 x _ ?_ true HV.out).mono ?_); (focus (exact blk)); rintro e wV ⟨rfl, hbV⟩; refine Blk.thru (b := w.heap.size) (arr := ?_) (t := ?_) ?_ hbV ?_; rotate_left 2; (focus (exact blk)); intro qv; have qvc0 := qv.cell 0; have qvf0 := qv.free 0; have qvc1 := qv.cell 1; have qvf1 := qv.free 1; have qvc2 := qv.cell 2; have qvf2 := qv.free 2; have qvl := qv.lt; simp at qvc0 qvc1 qvc2) | (go_at_call 33; (with_reducible refine (o_worst x a0 c0 xs _ (h0.later (by (exact kpt)) (Nat.le_refl _)) hl0 hm0 xs.length V9 0 (choice x xs) HV1.out HV2.out HV3.out HV4.out).mono ?_); rintro e wB ⟨aB, cB, rfl, hB, hB1, hB2, hbB⟩))
    refine at_world (S := fun W1 => Blk W1 w.heap.size #[.int .i64 x.a, .int .i64 x.b, .int .i64 x.c] 47 ∧ Row Put.cells 2 W1.heap.size W1 aB (choice x xs) ∧ Kept w W1) ⟨by (exact blk), (hB.later (by (exact kpt)) (Nat.le_refl _)), by (exact kpt)⟩ ?_
    rintro W1 ⟨q0, rB, hk⟩
    go_wp2
    go_loopw [50] (fun i wr => ∃ k : Nat, k ≤ xs.length ∧ i = .int .i64 k ∧ Blk wr w.heap.size #[.int .i64 x.a, .int .i64 x.b, .int .i64 x.c] 47 ∧ Row Put.cells 2 wr.heap.size wr aB (choice x xs) ∧ Kept w wr) (fun i _ => xs.length - (intOf i).toNat)
    case atStart => exact ⟨0, Nat.zero_le _, rfl, q0, rB, hk⟩
    case round =>
      clear q0 rB hk
      obtain ⟨k, hk, rfl, q0, rB, hkk⟩ := hrel
      have hcl := HV4.out
      by_cases hlt : k < xs.length
      · have hkc : k < (choice x xs).length := by omega
        obtain ⟨bp, op, rfl, hbp, p0, p1⟩ := Put.row rB k hkc
        obtain ⟨bl, ol, rfl, hbl, c0, c1, c2, c3⟩ := Load.row (h0.later hkk (Nat.le_refl _)) k hlt
        have hin := putIn_bd (HPI.out k hlt hkc)
        obtain ⟨p, hp0⟩ : ∃ p, p = (choice x xs)[k] := ⟨_, rfl⟩
        obtain ⟨y, hy0⟩ : ∃ y, y = xs[k] := ⟨_, rfl⟩
        rw [← hp0] at hin p0 p1
        rw [← hy0] at hin c0 c1 c2 c3
        clear hp0 hy0 hcl
        obtain ⟨i1, i2, i3, i4⟩ := hin
        have d1 : ¬ p.pos < y.alo := by omega
        have d2 : ¬ y.ahi < p.pos := by omega
        have d3 : ¬ p.wt < y.wlo := by omega
        have d4 : ¬ y.whi < p.wt := by omega
        have j0 : (0 : Int) ≤ (k : Int) := by omega
        have j1 : (k : Int) < (xs.length : Int) := by omega
        go_upto_region 12 with fail
        refine at_world (S := fun V => Blk V wr.heap.size #[.int .i64 p.pos, .int .i64 p.wt] 85 ∧ Blk V w.heap.size #[.int .i64 x.a, .int .i64 x.b, .int .i64 x.c] 47 ∧ Row Put.cells 2 V.heap.size V (some ⟨bp, op, none⟩) (choice x xs) ∧ Kept wr V) ⟨by (exact blk), by (exact blk), (rB.later (by (exact kpt)) (Nat.le_refl _)), by (exact kpt)⟩ ?_
        obtain ⟨nx, hnx⟩ : ∃ n, n = wr.heap.size := ⟨_, rfl⟩
        rw [← hnx]
        clear hnx q0 rB p0 p1
        rintro V ⟨rp, q0, rB, hkv⟩
        have v0 : ∀ V', Kept V V' → V'.cell? ⟨bl, ol + k * 4, none⟩ = _ := fun V' g => ((Kept.drop hkv g).cell (p := ⟨bl, ol + k * 4, none⟩) hbl).trans c0
        have v1 : ∀ V', Kept V V' → V'.cell? ⟨bl, ol + k * 4 + 1, none⟩ = _ := fun V' g => ((Kept.drop hkv g).cell (p := ⟨bl, ol + k * 4 + 1, none⟩) hbl).trans c1
        have v2 : ∀ V', Kept V V' → V'.cell? ⟨bl, ol + k * 4 + 2, none⟩ = _ := fun V' g => ((Kept.drop hkv g).cell (p := ⟨bl, ol + k * 4 + 2, none⟩) hbl).trans c2
        have v3 : ∀ V', Kept V V' → V'.cell? ⟨bl, ol + k * 4 + 3, none⟩ = _ := fun V' g => ((Kept.drop hkv g).cell (p := ⟨bl, ol + k * 4 + 3, none⟩) hbl).trans c3
        have z0 := fun g : Later V => v0 _ g.ok
        have z1 := fun g : Later V => v1 _ g.ok
        have z2 := fun g : Later V => v2 _ g.ok
        have z3 := fun g : Later V => v3 _ g.ok
        clear v0 v1 v2 v3 c0 c1 c2 c3
        have hk9 := Kept.drop hkk hkv
        have rpc0 := fun g : Later V => (rp.later g).cell 0
        have rpf0 := fun g : Later V => (rp.later g).free 0
        have rpc1 := fun g : Later V => (rp.later g).cell 1
        have rpf1 := fun g : Later V => (rp.later g).free 1
        have rpl := fun g : Later V => (rp.later g).lt
        simp at rpc0 rpc1
        refine Later.region (by kernel_rfl) (by kernel_rfl) ?_
        repeat (first | go_big_quiet_skip | (go_big_quiet_want; go_big_quiet_op; first | go_big_quiet_on | (apply Exists.intro; refine ⟨fun g => ?_, ?_⟩; (focus (first | fail)); go_big_quiet_on)))
        refine wpQuiet_nil ?_
        intro gg
        have hkgg := Kept.drop hk9 gg.ok
        go_wp2
        go_roundw
        case rel => exact ⟨k + 1, by omega, by go_num, q0.later gg, rB.later gg.ok (Nat.le_refl _), by (exact kpt)⟩
        case measure => simp [intOf]; omega
      · obtain rfl : xs.length = k := by omega
        clear hcl hk hlt
        go_upto_region 17 with (first | (go_at_call 53; (with_reducible refine (o_sumsN _ xs.length _ (choice x xs) _ HV4.out (rB.later (by (exact kpt)) (Nat.le_refl _)) hn HPC.out H M HH.out HM.out).mono ?_); rintro e wU ⟨rfl, hbwU⟩) | (go_at_call 52; (with_reducible refine (o_chosen a0 c0 xs a2 c2 bs _ (h0.later (by (exact kpt)) (Nat.le_refl _)) hn HX.out (h2.later (by (exact kpt)) (Nat.le_refl _)) hl2 hm2 HW.out).mono ?_); rintro e wC ⟨aC, cC, rfl, hC, hC1, hC2, hbC⟩) | (go_at_call 53; (with_reducible refine (o_sumsN _ xs.length _ (chosen xs bs) _ HCL.out (hC.later (by (exact kpt)) (Nat.le_refl _)) hn HPB.out H2 M2 HH2.out HM2.out).mono ?_); rintro e wU ⟨rfl, hbwU⟩))
        refine at_world (S := fun W1 => Blk W1 w.heap.size #[.int .i64 x.a, .int .i64 x.b, .int .i64 x.c] 47 ∧ Row Put.cells 2 W1.heap.size W1 aB (choice x xs) ∧ Kept w W1) ⟨by (exact blk), (rB.later (by (exact kpt)) (Nat.le_refl _)), by (exact kpt)⟩ ?_
        clear q0 rB
        rintro W1 ⟨q0, rB, hk⟩
        have q0c0 := q0.cell 0
        have q0f0 := q0.free 0
        have q0c1 := q0.cell 1
        have q0f1 := q0.free 1
        have q0c2 := q0.cell 2
        have q0f2 := q0.free 2
        have q0l := q0.lt
        simp at q0c0 q0c1 q0c2
        go_upto_region 19 with fail
        refine at_world (S := fun V => Blk V w.heap.size #[.int .i64 x.a, .int .i64 x.b, .int .i64 x.c] 47 ∧ Kept w V) ⟨q0, hk⟩ ?_
        clear q0 rB hk q0c0 q0f0 q0c1 q0f1 q0c2 q0f2 q0l
        rintro V ⟨q0, hk⟩
        have hlw := q0.lt
        have r0k : ∀ w', Kept V w' → Blk w' w.heap.size #[.int .i64 x.a, .int .i64 x.b, .int .i64 x.c] 47 := fun w' h => q0.keep h
        have k0 : ∀ w', Kept V w' → w'.cell? ⟨w.heap.size, 0, none⟩ = _ := fun w' h => (q0.keep h).cell 0
        have k1 : ∀ w', Kept V w' → w'.cell? ⟨w.heap.size, 1, none⟩ = _ := fun w' h => (q0.keep h).cell 1
        have k2 : ∀ w', Kept V w' → w'.cell? ⟨w.heap.size, 2, none⟩ = _ := fun w' h => (q0.keep h).cell 2
        simp at k0 k1 k2
        go_cut [17, 18] (fun s17 s18 wx => ∃ na nb, na ≠ nb ∧ s17 = .pointer (some ⟨na, 0, none⟩) ∧ s18 = .pointer (some ⟨nb, 0, none⟩) ∧ Blk wx na #[.int .i64 x.a, .int .i64 x.b, .int .i64 x.c] 47 ∧ Blk wx nb #[.int .i64 x.a, .int .i64 x.b, .int .i64 x.c] 47 ∧ w.heap.size ≤ na ∧ w.heap.size ≤ nb ∧ Kept w wx)
        case first => as_aux_lemma =>
          go_region_held3 (fun w' => Kept V w') (exact kpt) (fail)
          all_goals go_wp2_with fail
          all_goals go_meet
          all_goals
            have hz := hk.size
            first | exact ⟨_, _, by omega, rfl, rfl, Blk.drew (Blk.alloc Blk.new _), Blk.drew (Blk.new' (by simp)), by omega, by omega, by (exact kpt)⟩ | exact ⟨_, _, by omega, rfl, rfl, Blk.drew (Blk.new' (by simp)), Blk.drew (Blk.alloc Blk.new _), by omega, by omega, by (exact kpt)⟩
        obtain ⟨na, nb, hne, rfl, rfl, ra, rb, ha, hb, hkc⟩ := hcut
        clear hk r0k k0 k1 k2 hlw q0
        have rac0 := ra.cell 0
        have raf0 := ra.free 0
        have rac1 := ra.cell 1
        have raf1 := ra.free 1
        have rac2 := ra.cell 2
        have raf2 := ra.free 2
        have ral := ra.lt
        simp at rac0 rac1 rac2
        have rbc0 := rb.cell 0
        have rbf0 := rb.free 0
        have rbc1 := rb.cell 1
        have rbf1 := rb.free 1
        have rbc2 := rb.cell 2
        have rbf2 := rb.free 2
        have rbl := rb.lt
        simp at rbc0 rbc1 rbc2
        have w1 : wrap64 (V9 - 1) = V9 - 1 := by unfold wrap64; omega
        have w2 : IntKind.i64.wrap (V9 - 1) = V9 - 1 := by rw [IntKind.wrap_i64]; omega
        go_upto_region 21 with fail
        refine at_world (S := fun U => Blk U na #[.int .i64 x.a, .int .i64 x.b, .int .i64 V9] 47 ∧ Blk U nb #[.int .i64 x.a, .int .i64 x.b, .int .i64 (V9 - 1)] 47 ∧ Kept w U) ⟨Blk.cast ((ra.set 2 (.int .i64 V9)).other hne.symm _) (by simp), Blk.cast ((rb.other hne _).set 2 (.int .i64 (V9 - 1))) (by simp), by (exact kpt)⟩ ?_
        clear ra rb hkc rac0 raf0 rac1 raf1 rac2 raf2 ral rbc0 rbf0 rbc1 rbf1 rbc2 rbf2 rbl
        rintro U ⟨ra, rb, hk⟩
        have rac0 := ra.cell 0
        have raf0 := ra.free 0
        have rac1 := ra.cell 1
        have raf1 := ra.free 1
        have rac2 := ra.cell 2
        have raf2 := ra.free 2
        have ral := ra.lt
        simp at rac0 rac1 rac2
        go_upto_region 22 with (go_at_call 25; (with_reducible refine (o_breach1 a0 c0 xs _ (h0.later (by (exact kpt)) (Nat.le_refl _)) hl0 hm0 ⟨x.a, x.b, V9⟩ _ ?_ 0 0 6 [] HAT.out).mono ?_); (focus (exact blk)); rintro e w3 ⟨aBw3, cBw3, rfl, _, _, _, hbw3⟩)
        refine at_world (S := fun U => Blk U nb #[.int .i64 x.a, .int .i64 x.b, .int .i64 (V9 - 1)] 47 ∧ Kept w U) ⟨by (exact blk), by (exact kpt)⟩ ?_
        clear ra rb hk rac0 raf0 rac1 raf1 rac2 raf2 ral
        rintro U2 ⟨rb, hk⟩
        have rbc0 := rb.cell 0
        have rbf0 := rb.free 0
        have rbc1 := rb.cell 1
        have rbf1 := rb.free 1
        have rbc2 := rb.cell 2
        have rbf2 := rb.free 2
        have rbl := rb.lt
        simp at rbc0 rbc1 rbc2
        go_wp2_with (go_at_call 25; (with_reducible refine (o_breach1 a0 c0 xs _ (h0.later (by (exact kpt)) (Nat.le_refl _)) hl0 hm0 ⟨x.a, x.b, (V9 - 1)⟩ _ ?_ xs.length 0 0 (choice x xs) HBE.out).mono ?_); (focus (exact blk)); rintro e w4 ⟨aBw4, cBw4, rfl, _, _, _, hbw4⟩)
        go_ret; exact ⟨rfl, by (exact kpt)⟩
end Go.Proofs.Ytlloijkmpmfapaa

/-
  TrimWorst, the statement: for every input the call returns true and leaves the input alone.
-/
namespace Go.Proofs.Ytlloijkmpmfapaa.trimWorst
open Go.ChangeShapes Go.WideShapes Go.ChangeAt Go.RowKit Bal Bal.Trim
open Go.ChangeMaps (open_string shut_string)
set_option linter.unusedVariables false

theorem own : ownKnob Try.prog.godebug = none := by kernel_rfl
theorem laidOut : laidOutB Try.prog = true := by kernel_rfl

set_option maxRecDepth 100000 in
theorem lifted (os : Os) (started : os.Started) (H : Type) (enc : TypeId × Value → H) :
    ReturnsInHanded {} Try.checked os 12 .any (Rows.trimWorstSpec.pre6 enc Try.prog Try.f12 Rows.trimWorstRow.domain false) (Rows.trimWorstSpec.post enc Try.prog Try.f12 false true false false) := by
  refine returnsInHanded_of_change (C := Try.checked) own started (by kernel_rfl) Try.func12
    (ChangeSpec.witness6 (enc := enc) (C := Try.checked) false ⟨#[], #[.slice none 0 0, .agg #[.int .i64 0, .int .i64 0, .int .i64 0], .slice none 0 0], []⟩ 8 (by kernel_rfl) (by kernel_rfl) (by kernel_rfl) (by kernel_rfl)) ?_
  intro W base args ds gs before hval0 hW hcnd _
  have hval : ∀ (j : Nat) t v, Try.f12.params[j]? = some t → args[j]? = some v → Value.okWide Try.prog W .any base t v := hval0
  have hW' := hW
  obtain ⟨p, q, hA0, hV, rfl, hfz, hnd⟩ := hW
  have hA : DataW.TrodAll enc Try.prog W 0 (fun _ => true) true Try.f12.params.toList args.toList ds p := hA0
  rw [Try.params12] at hA hval
  obtain ⟨v0, vs0, d0, ds0, p0, q0, hargs, rfl, rfl, h0, r0⟩ := trodAll_cons hA
  obtain ⟨v1, vs1, d1, ds1, p1, q1, rfl, rfl, rfl, h1, r1⟩ := trodAll_cons r0
  obtain ⟨v2, vs2, d2, ds2, p2, q2, rfl, rfl, rfl, h2, r2⟩ := trodAll_cons r1
  obtain ⟨rfl, rfl, rfl⟩ := trodAll_nil r2
  obtain rfl : args = #[v0, v1, v2] := by cases args; simp_all
  obtain ⟨rfl, rfl⟩ := trodVars_none hV
  have k0 := h0
  have lt0 : ∀ x ∈ p0, x.block < W.heap.size := by obtain ⟨m, hm⟩ := k0; exact DataW.trod_lt m _ _ _ hm
  obtain ⟨a0, len0, cap0, rfl⟩ := okWide_slice Try.underlying22 (hval 0 22 v0 rfl rfl)
  obtain ⟨fuel0, hf0⟩ := h0
  obtain ⟨b0, c0, xs0, e0, hl0, hm0, row0, wf0, z0⟩ := open_typed (n := 4) (fun _ h => Load.of_leaves h) Try.underlying22 (by kernel_rfl) (by kernel_rfl) (by decide) hf0
  simp [Value.cells] at e0
  obtain ⟨rfl, rfl, rfl⟩ := e0
  have k1 := h1
  have lt1 : ∀ x ∈ p1, x.block < W.heap.size := by obtain ⟨m, hm⟩ := k1; exact DataW.trod_lt m _ _ _ hm
  obtain ⟨a1, rfl, wf1⟩ := open_agg (n := 5) (fun _ h => Limit.of_leaves h) Try.underlying47 (by kernel_rfl) (hval 1 47 v1 rfl rfl) h1
  have k2 := h2
  have lt2 : ∀ x ∈ p2, x.block < W.heap.size := by obtain ⟨m, hm⟩ := k2; exact DataW.trod_lt m _ _ _ hm
  obtain ⟨a2, len2, cap2, rfl⟩ := okWide_slice Try.underlying91 (hval 2 91 v2 rfl rfl)
  obtain ⟨fuel2, hf2⟩ := h2
  obtain ⟨b2, c2, xs2, e2, hl2, hm2, row2, wf2, z2⟩ := open_typed (n := 4) (fun _ h => u16_of_leaves h) Try.underlying91 (by kernel_rfl) (by kernel_rfl) (by decide) hf2
  simp [Value.cells] at e2
  obtain ⟨rfl, rfl, rfl⟩ := e2
  clear hA0 hval0
  refine (law_TrimWorst _ _ xs0 a1 _ _ xs2 W row0 hl0 hm0 row2 hl2 hm2 (fun n hn => wf_u16 (wf2 n hn))).mono fun e W' ⟨he, bel⟩ => ?_
  subst he
  exact ⟨_, rfl, _, _, _, [], _, [], hW', trodAll_mk1 (shut_bool Try.underlying4 _), (trodAll_cons_mk (Below.trod laidOut (by kernel_rfl) (of_decide_eq_true (by kernel_rfl)) k0 bel lt0) (trodAll_cons_mk (Below.trod laidOut (by kernel_rfl) (of_decide_eq_true (by kernel_rfl)) k1 bel lt1) (trodAll_cons_mk (Below.trod laidOut (by kernel_rfl) (of_decide_eq_true (by kernel_rfl)) k2 bel lt2) trodAll_mk0))), rfl, bel.frame _, fun h => by cases h⟩

theorem joined : joinedFacts Try.prog 12 Try.f12 Rows.trimWorstSpec Rows.trimWorstRow = true := by
  unfold joinedFacts
  rw [mayEnter_is, liftsFinal_is, make_is]
  kernel_rfl
theorem over : Rows.trimWorstRow.holds Try.pinned (OpenSpec.ofChange Rows.trimWorstSpec) :=
  OpenClaim.holds_of_wide 12 Try.f12 rfl rfl rfl rfl rfl rfl rfl ⟨rfl, rfl, rfl, rfl, rfl⟩ rfl rfl rfl rfl rfl (by kernel_rfl) Try.func12 joined
    (of_decide_eq_true (by kernel_rfl)) (by unfold Func.isWrapper; first | (rw [if_pos (by decide +kernel)]; kernel_rfl) | (rw [if_neg (by decide +kernel)]; exact ⟨rfl, rfl⟩))
    (fun os started H enc _ => lifted os started H enc)
end Go.Proofs.Ytlloijkmpmfapaa.trimWorst

namespace Go.Proofs.Ytlloijkmpmfapaa
theorem trimWorst_holds : Rows.TrimWorstSaid := trimWorst.over
#print axioms trimWorst_holds
end Go.Proofs.Ytlloijkmpmfapaa
