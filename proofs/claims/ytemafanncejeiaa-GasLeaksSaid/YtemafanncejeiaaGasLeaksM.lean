/-
  GasLeaks, the statement: for every input the call returns true and leaves the input alone.
-/
import Derived.Test.YtemafanncejeiaaGasLeaksMC
import Derived.Test.YtemafanncejeiaaGasLeaksMA
import Derived.WalkSmall
import Derived.OwnWalk
import Derived.Test.YtemafanncejeiaaGasLeaksMB
import Derived.WideShapes
import Derived.Test.YtemafanncejeiaaProg
import Derived.JoinedOf
import Derived.Test.YtemafanncejeiaaRows
/-
  What can have leaked of a cell: the reference.
-/
namespace Go.Proofs.Ytemafanncejeiaa
open Go.RowKit Bal Bal.Trim Bal.Gas
set_option linter.unusedVariables false
set_option linter.unusedSimpArgs false
set_option maxHeartbeats 4000000
set_option maxRecDepth 100000
attribute [local go_sem] ite_max ite_min

theorem come_self (h : Hist) (c : Nat) (a : Int) : come h c a a = 0 := by
  unfold come
  induction h.flows with
  | nil => rfl
  | cons f fs ih =>
    rw [sumBy_cons, ih]
    have : flowN c a a f = 0 := by unfold flowN flowIn; rw [if_neg]; simp <;> omega
    omega
theorem need_bd {h : Hist} (ho : HistOk h) {c : Nat} (hc : c < h.warm.length) : ∀ k, k ≤ h.gauges.length → -1152921504606846976 ≤ needTo h c k ∧ needTo h c k ≤ 121000000000 ∧ -1000000000 ≤ canTo h c k ∧ canTo h c k ≤ 1152921504606846976
  | 0, _ => by simp [needTo, canTo]
  | k + 1, hk => by
    have ih := need_bd ho hc k (by omega)
    have b := told_bd ho (i := k) (by omega) hc
    simp only [needTo, canTo]
    omega
theorem need_one {h : Hist} (ho : HistOk h) {c : Nat} (hc : c < h.warm.length) : needTo h c 1 = alLo h 0 c ∧ canTo h c 1 = alHi h 0 c := by
  have b := told_bd ho (i := 0) (by have := ho.g1; omega) hc
  simp only [needTo, canTo]
  have e1 : toldLo h c 0 = alLo h 0 c := by unfold toldLo; rw [come_self]; omega
  have e2 : toldHi h c 0 = alHi h 0 c := by unfold toldHi; rw [come_self]; omega
  rw [e1, e2] at b
  rw [e1, e2]
  omega
theorem r_lost_one (h : Hist) (s : Spot) (w : World) (hh : HistAt h s w) (ho : HistOk h) (c : Nat) (hc : c < h.warm.length) (hn : h.gauges.length = 1) :
    Calls Try.prog 130 #[.agg #[.slice s.aw h.warm.length s.cw, .slice s.ag h.gauges.length s.cg, .slice s.af h.flows.length s.cf], .int .i64 c] w fun e w' => e = .returned (.agg #[.int .i64 (lostLo h c), .int .i64 (lostHi h c)]) ∧ Kept w w' := by
  have HL := Lib.hid (show lostLo h c = 0 by unfold lostLo; rw [if_pos hn])
  have HH := Lib.hid (show lostHi h c = 0 by unfold lostHi; rw [if_pos hn])
  have e0 : ((h.gauges.length : Int) - 1 == 0) = true := by simp; omega
  have e1 : ((h.gauges.length : Int) == 1) = true := by simp; omega
  have w1 := i64_inH (n := (h.gauges.length : Int) - 1) (by omega)
  go_enter Try.func130, Try.ntmps130
  go_wp2
  exact bodyPost_ret (v := .agg #[.int .i64 0, .int .i64 0]) (by simp [results, Try.results130, go_sem]) rfl ⟨by rw [HL.out, HH.out], by (exact kpt)⟩

theorem r_lost_more (h : Hist) (s : Spot) (w : World) (hh : HistAt h s w) (ho : HistOk h) (c : Nat) (hc : c < h.warm.length) (hn : h.gauges.length ≠ 1) :
    Calls Try.prog 130 #[.agg #[.slice s.aw h.warm.length s.cw, .slice s.ag h.gauges.length s.cg, .slice s.af h.flows.length s.cf], .int .i64 c] w fun e w' => e = .returned (.agg #[.int .i64 (lostLo h c), .int .i64 (lostHi h c)]) ∧ Kept w w' := by
  have hg1 : 0 < h.gauges.length := ho.g1
  have hg2 := ho.g2
  have hw2 := ho.w2
  have hla : h.gauges.length - 1 < h.gauges.length := by omega
  obtain ⟨t, ht⟩ : ∃ t, t = h.gauges.length - 1 := ⟨_, rfl⟩
  have htl : t < h.gauges.length := by omega
  have hti : (h.gauges.length : Int) - 1 = (t : Int) := by omega
  obtain ⟨L1, hL1⟩ : ∃ n, n = alLo h 0 c := ⟨_, rfl⟩
  obtain ⟨H1, hH1⟩ : ∃ n, n = alHi h 0 c := ⟨_, rfl⟩
  obtain ⟨L2, hL2⟩ : ∃ n, n = alLo h t c := ⟨_, rfl⟩
  obtain ⟨H2, hH2⟩ : ∃ n, n = alHi h t c := ⟨_, rfl⟩
  obtain ⟨CM, hCM⟩ : ∃ n, n = come h c (tt h 0) (tt h t) := ⟨_, rfl⟩
  have bd1 := (al_bd ho hg1 hc).2.2.2
  have bd2 := (al_bd ho htl hc).2.2.2
  have bd3 := come_bd ho c (tt h 0) (tt h t) h.flows.length
  rw [← come_all, ← hCM] at bd3
  rw [← hL1, ← hH1] at bd1
  rw [← hL2, ← hH2] at bd2
  have N1 := need_one ho hc
  rw [← hL1, ← hH1] at N1
  have HN1 := Lib.hid N1
  have HHI := Lib.hid (show lostHi h c = H1 - (L2 - CM) by
    unfold lostHi toldHi toldLo
    rw [if_neg hn, come_self, ← ht, ← hH1, ← hL2, ← hCM]
    omega)
  have HLO := Lib.hid (show lostLo h c = max 0 (needTo h c h.gauges.length - canTo h c h.gauges.length) by unfold lostLo; rw [if_neg hn, Int.max_comm])
  have HNB := Lib.hid (fun k hk => need_bd ho hc k hk)
  have E1 := Lib.hid hL1.symm
  have E2 := Lib.hid hH1.symm
  have E3 := Lib.hid hL2.symm
  have E4 := Lib.hid hH2.symm
  have E5 := Lib.hid hCM.symm
  have w1 := i64_inH (n := (h.gauges.length : Int) - 1) (by omega)
  have e0 : ((t : Int) == 0) = false := by simp; omega
  have HT := Lib.hid ht
  clear hL1 hH1 hL2 hH2 hCM N1 ht hla
  rw [hti] at w1
  have HTI := Lib.hid hti
  go_enter Try.func130, Try.ntmps130
  go_upto_region 4 with fail
  have KA := Lib.hid (show ∀ W, Kept w W → Calls Try.prog 127 #[.agg #[.slice s.aw h.warm.length s.cw, .slice s.ag h.gauges.length s.cg, .slice s.af h.flows.length s.cf], .int .i64 0, .int .i64 c] W fun e w' => e = .returned (.agg #[.int .i64 L1, .int .i64 H1]) ∧ Kept W w' from fun W hW => by
    have k := r_Allowed h s W (hh.later hW) ho 0 c hg1 hc
    rw [E1.out, E2.out] at k
    exact k)
  have KB := Lib.hid (show ∀ W, Kept w W → Calls Try.prog 127 #[.agg #[.slice s.aw h.warm.length s.cw, .slice s.ag h.gauges.length s.cg, .slice s.af h.flows.length s.cf], .int .i64 t, .int .i64 c] W fun e w' => e = .returned (.agg #[.int .i64 L2, .int .i64 H2]) ∧ Kept W w' from fun W hW => by
    have k := r_Allowed h s W (hh.later hW) ho t c htl hc
    rw [E3.out, E4.out] at k
    exact k)
  refine at_world (S := fun V => Blk V w.heap.size #[.slice s.aw h.warm.length s.cw, .slice s.ag h.gauges.length s.cg, .slice s.af h.flows.length s.cf] 85 ∧ Blk V (w.heap.size + 1) #[.int .i64 0, .int .i64 0] 23 ∧ Kept w V) ⟨by (exact blkc), by (exact blkc), by (exact kpt)⟩ ?_
  rintro V ⟨q0, q1, hkV⟩
  go_cut [6, 7] (fun s6 s7 wx => ∃ n6 n7, s6 = .pointer (some ⟨n6, 0, none⟩) ∧ s7 = .pointer (some ⟨n7, 0, none⟩) ∧ Blk wx n6 #[.int .i64 L1, .int .i64 H1] 23 ∧ Blk wx n7 #[.int .i64 L2, .int .i64 H2] 23 ∧ Blk wx w.heap.size #[.slice s.aw h.warm.length s.cw, .slice s.ag h.gauges.length s.cg, .slice s.af h.flows.length s.cf] 85 ∧ Blk wx (w.heap.size + 1) #[.int .i64 0, .int .i64 0] 23 ∧ Kept w wx)
  case first =>
    have q0k0 : ∀ w', Kept V w' → w'.cell? ⟨w.heap.size, 0, none⟩ = _ := fun w' h => (q0.keep h).cell 0
    have q0k1 : ∀ w', Kept V w' → w'.cell? ⟨w.heap.size, 1, none⟩ = _ := fun w' h => (q0.keep h).cell 1
    have q0k2 : ∀ w', Kept V w' → w'.cell? ⟨w.heap.size, 2, none⟩ = _ := fun w' h => (q0.keep h).cell 2
    simp at q0k0 q0k1 q0k2
    have l0 := q0.lt
    go_region_held3 (fun w' => Kept V w') (exact kptx) (first | (go_at_call 127; (with_reducible refine (KA.out _ (by (exact kpt))).mono ?_); rintro e w3 ⟨rfl, hb3⟩; (first | (refine Blk.thru (b := V.heap.size) (arr := #[.int .i64 0, .int .i64 0]) (t := 23) ?_ hb3 ?_; (focus (first | with_reducible assumption | (refine Blk.new' ?_; (focus (simp; done))) | (refine Blk.drew (Blk.new' ?_); (focus (simp; done))) | (refine Blk.alloc (Blk.new' ?_) _; (focus (simp; done))) | (refine Blk.drew (Blk.alloc (Blk.new' ?_) _); (focus (simp; done))) | (refine Blk.alloc (Blk.drew (Blk.new' ?_)) _; (focus (simp; done))) | (refine Blk.alloc ?_ _; with_reducible assumption) | (refine Blk.drew ?_; with_reducible assumption) | (refine Blk.drew (Blk.alloc ?_ _); with_reducible assumption) | fail)); intro ta; have tac0 := ta.cell 0; have taf0 := ta.free 0; have tac1 := ta.cell 1; have taf1 := ta.free 1; have tal := ta.lt; simp at tac0 tac1) | skip); (first | (refine Blk.thru (b := V.heap.size + 1) (arr := #[.int .i64 0, .int .i64 0]) (t := 23) ?_ hb3 ?_; (focus (first | with_reducible assumption | (refine Blk.new' ?_; (focus (simp; done))) | (refine Blk.drew (Blk.new' ?_); (focus (simp; done))) | (refine Blk.alloc (Blk.new' ?_) _; (focus (simp; done))) | (refine Blk.drew (Blk.alloc (Blk.new' ?_) _); (focus (simp; done))) | (refine Blk.alloc (Blk.drew (Blk.new' ?_)) _; (focus (simp; done))) | (refine Blk.alloc ?_ _; with_reducible assumption) | (refine Blk.drew ?_; with_reducible assumption) | (refine Blk.drew (Blk.alloc ?_ _); with_reducible assumption) | fail)); intro tb; have tbc0 := tb.cell 0; have tbf0 := tb.free 0; have tbc1 := tb.cell 1; have tbf1 := tb.free 1; have tbl := tb.lt; simp at tbc0 tbc1) | skip)) | (go_at_call 127; (with_reducible refine (KB.out _ (by (exact kpt))).mono ?_); rintro e w4 ⟨rfl, hb4⟩; (first | (refine Blk.thru (b := V.heap.size) (arr := #[.int .i64 0, .int .i64 0]) (t := 23) ?_ hb4 ?_; (focus (first | with_reducible assumption | (refine Blk.new' ?_; (focus (simp; done))) | (refine Blk.drew (Blk.new' ?_); (focus (simp; done))) | (refine Blk.alloc (Blk.new' ?_) _; (focus (simp; done))) | (refine Blk.drew (Blk.alloc (Blk.new' ?_) _); (focus (simp; done))) | (refine Blk.alloc (Blk.drew (Blk.new' ?_)) _; (focus (simp; done))) | (refine Blk.alloc ?_ _; with_reducible assumption) | (refine Blk.drew ?_; with_reducible assumption) | (refine Blk.drew (Blk.alloc ?_ _); with_reducible assumption) | fail)); intro tc; have tcc0 := tc.cell 0; have tcf0 := tc.free 0; have tcc1 := tc.cell 1; have tcf1 := tc.free 1; have tcl := tc.lt; simp at tcc0 tcc1) | skip); (first | (refine Blk.thru (b := V.heap.size + 1) (arr := #[.int .i64 0, .int .i64 0]) (t := 23) ?_ hb4 ?_; (focus (first | with_reducible assumption | (refine Blk.new' ?_; (focus (simp; done))) | (refine Blk.drew (Blk.new' ?_); (focus (simp; done))) | (refine Blk.alloc (Blk.new' ?_) _; (focus (simp; done))) | (refine Blk.drew (Blk.alloc (Blk.new' ?_) _); (focus (simp; done))) | (refine Blk.alloc (Blk.drew (Blk.new' ?_)) _; (focus (simp; done))) | (refine Blk.alloc ?_ _; with_reducible assumption) | (refine Blk.drew ?_; with_reducible assumption) | (refine Blk.drew (Blk.alloc ?_ _); with_reducible assumption) | fail)); intro td; have tdc0 := td.cell 0; have tdf0 := td.free 0; have tdc1 := td.cell 1; have tdf1 := td.free 1; have tdl := td.lt; simp at tdc0 tdc1) | skip); (first | (refine Blk.thru (b := w3.heap.size) (arr := #[.int .i64 0, .int .i64 0]) (t := 23) ?_ hb4 ?_; (focus (first | with_reducible assumption | (refine Blk.new' ?_; (focus (simp; done))) | (refine Blk.drew (Blk.new' ?_); (focus (simp; done))) | (refine Blk.alloc (Blk.new' ?_) _; (focus (simp; done))) | (refine Blk.drew (Blk.alloc (Blk.new' ?_) _); (focus (simp; done))) | (refine Blk.alloc (Blk.drew (Blk.new' ?_)) _; (focus (simp; done))) | (refine Blk.alloc ?_ _; with_reducible assumption) | (refine Blk.drew ?_; with_reducible assumption) | (refine Blk.drew (Blk.alloc ?_ _); with_reducible assumption) | fail)); intro te; have tec0 := te.cell 0; have tef0 := te.free 0; have tec1 := te.cell 1; have tef1 := te.free 1; have tel := te.lt; simp at tec0 tec1) | skip); (first | (refine Blk.thru (b := w3.heap.size + 1) (arr := #[.int .i64 0, .int .i64 0]) (t := 23) ?_ hb4 ?_; (focus (first | with_reducible assumption | (refine Blk.new' ?_; (focus (simp; done))) | (refine Blk.drew (Blk.new' ?_); (focus (simp; done))) | (refine Blk.alloc (Blk.new' ?_) _; (focus (simp; done))) | (refine Blk.drew (Blk.alloc (Blk.new' ?_) _); (focus (simp; done))) | (refine Blk.alloc (Blk.drew (Blk.new' ?_)) _; (focus (simp; done))) | (refine Blk.alloc ?_ _; with_reducible assumption) | (refine Blk.drew ?_; with_reducible assumption) | (refine Blk.drew (Blk.alloc ?_ _); with_reducible assumption) | fail)); intro tf; have tfc0 := tf.cell 0; have tff0 := tf.free 0; have tfc1 := tf.cell 1; have tff1 := tf.free 1; have tfl := tf.lt; simp at tfc0 tfc1) | skip)) | fail)
    all_goals (go_wp2_with fail; go_meet)
    all_goals
      have hz3 := hb3.size
      have hz4 := hb4.size
      (try simp only [World.size_alloc] at hz3)
      (try simp only [World.size_alloc] at hz4)
      (try simp at hz3)
      (try simp at hz4)
      exact ⟨_, _, rfl, rfl, by exact blkx, by exact blkx, by exact blkx, by exact blkx, by exact kptx⟩
  case rest =>
    clear q0 q1 hkV
    obtain ⟨n6, n7, rfl, rfl, q6, q7, q0, q1, hk⟩ := hcut
    go_upto_region 5 with fail
    refine at_world (S := fun Y => Blk Y n6 #[.int .i64 L1, .int .i64 H1] 23 ∧ Blk Y n7 #[.int .i64 L2, .int .i64 H2] 23 ∧ Blk Y w.heap.size #[.slice s.aw h.warm.length s.cw, .slice s.ag h.gauges.length s.cg, .slice s.af h.flows.length s.cf] 85 ∧ Blk Y (w.heap.size + 1) #[.int .i64 0, .int .i64 0] 23 ∧ Kept w Y) ⟨q6, q7, q0, q1, hk⟩ ?_
    clear q6 q7 q0 q1 hk
    rintro Y ⟨q6, q7, q0, q1, hkY0⟩
    have q6c0 := fun g : Later Y => (q6.later g).cell 0
    have q6f0 := fun g : Later Y => (q6.later g).free 0
    have q6c1 := fun g : Later Y => (q6.later g).cell 1
    have q6f1 := fun g : Later Y => (q6.later g).free 1
    have q6l := fun g : Later Y => (q6.later g).lt
    simp at q6c0 q6c1
    refine Later.region (by kernel_rfl) (by kernel_rfl) ?_
    repeat (first | go_big_quiet_skip | (go_big_quiet_want; go_big_quiet_op; first | go_big_quiet_on | (apply Exists.intro; refine ⟨fun g_ => ?_, ?_⟩; (focus (first | fail)); go_big_quiet_on)))
    refine wpQuiet_nil ?_
    intro gg
    clear q6c0 q6f0 q6c1 q6f1 q6l
    go_wp2
    go_loopw [8, 9, 10] (fun a b i wr => ∃ k : Nat, 1 ≤ k ∧ k ≤ h.gauges.length ∧ i = .int .i64 k ∧ a = .int .i64 (needTo h c k) ∧ b = .int .i64 (canTo h c k) ∧ Blk wr n6 #[.int .i64 L1, .int .i64 H1] 23 ∧ Blk wr n7 #[.int .i64 L2, .int .i64 H2] 23 ∧ Blk wr w.heap.size #[.slice s.aw h.warm.length s.cw, .slice s.ag h.gauges.length s.cg, .slice s.af h.flows.length s.cf] 85 ∧ Blk wr (w.heap.size + 1) #[.int .i64 0, .int .i64 0] 23 ∧ Kept w wr) (fun _ _ i _ => h.gauges.length - (intOf i).toNat)
    case atStart => exact ⟨1, by omega, by omega, rfl, by rw [HN1.out.1], by rw [HN1.out.2], q6.later gg, q7.later gg, q0.later gg, q1.later gg, Kept.drop hkY0 gg.ok⟩
    case round =>
      clear q6 q7 q0 q1 hkY0
      obtain ⟨k, hk1, hkn, rfl, rfl, rfl, q6, q7, q0, q1, hkr⟩ := hrel
      have nb := HNB.out k hkn
      obtain ⟨A, hA⟩ : ∃ A, A = needTo h c k := ⟨_, rfl⟩
      obtain ⟨B, hB⟩ : ∃ B, B = canTo h c k := ⟨_, rfl⟩
      rw [← hA, ← hB] at nb ⊢
      have HA := Lib.hid hA
      have HB := Lib.hid hB
      clear hA hB
      by_cases hlt : k < h.gauges.length
      · have hkt : k ≤ t := by rw [HT.out]; omega
        have d1 : decide ((k : Int) ≤ (t : Int)) = true := by simp; omega
        have d2 : decide (k ≤ t) = true := by simp; omega
        obtain ⟨AL, hAL⟩ : ∃ n, n = alLo h k c := ⟨_, rfl⟩
        obtain ⟨AH, hAH⟩ : ∃ n, n = alHi h k c := ⟨_, rfl⟩
        obtain ⟨CK, hCK⟩ : ∃ n, n = come h c (tt h 0) (tt h k) := ⟨_, rfl⟩
        have b1 := (al_bd ho hlt hc).2.2.2
        have b2 := come_bd ho c (tt h 0) (tt h k) h.flows.length
        rw [← come_all, ← hCK] at b2
        rw [← hAL, ← hAH] at b1
        have HNX := Lib.hid (show needTo h c (k + 1) = max A (AL - CK) ∧ canTo h c (k + 1) = min B (AH - CK) by
          unfold needTo canTo toldLo toldHi
          rw [← hAL, ← hAH, ← hCK, ← HA.out, ← HB.out]
          exact ⟨rfl, rfl⟩)
        have w2 := i64_inH (n := AL - CK) (by omega)
        have w3 := i64_inH (n := AH - CK) (by omega)
        have KC := Lib.hid (show ∀ W, Kept w W → Calls Try.prog 127 #[.agg #[.slice s.aw h.warm.length s.cw, .slice s.ag h.gauges.length s.cg, .slice s.af h.flows.length s.cf], .int .i64 k, .int .i64 c] W fun e w' => e = .returned (.agg #[.int .i64 AL, .int .i64 AH]) ∧ Kept W w' from fun W hW => by
          have z := r_Allowed h s W (hh.later hW) ho k c hlt hc
          rw [← hAL, ← hAH] at z
          exact z)
        have KM := Lib.hid (show ∀ W, Kept w W → Calls Try.prog 140 #[.agg #[.slice s.aw h.warm.length s.cw, .slice s.ag h.gauges.length s.cg, .slice s.af h.flows.length s.cf], .int .i64 c, .int .i64 0, .int .i64 k] W fun e w' => e = .returned (.int .i64 CK) ∧ Kept W w' from fun W hW => by
          have z := r_Come h s W (hh.later hW) ho c 0 k hg1 hlt hc
          rw [← hCK] at z
          exact z)
        clear hAL hAH hCK
        go_upto_region 9 with fail
        refine at_world (S := fun V => Blk V n6 #[.int .i64 L1, .int .i64 H1] 23 ∧ Blk V n7 #[.int .i64 L2, .int .i64 H2] 23 ∧ Blk V w.heap.size #[.slice s.aw h.warm.length s.cw, .slice s.ag h.gauges.length s.cg, .slice s.af h.flows.length s.cf] 85 ∧ Blk V (w.heap.size + 1) #[.int .i64 0, .int .i64 0] 23 ∧ Kept w V) ⟨q6, q7, q0, q1, hkr⟩ ?_
        clear q6 q7 q0 q1 hkr
        rintro V ⟨q6, q7, q0, q1, hkV⟩
        go_cut [11, 12] (fun s11 s12 wx => ∃ n11, s11 = .pointer (some ⟨n11, 0, none⟩) ∧ s12 = .int .i64 CK ∧ Blk wx n11 #[.int .i64 AL, .int .i64 AH] 23 ∧ Blk wx n6 #[.int .i64 L1, .int .i64 H1] 23 ∧ Blk wx n7 #[.int .i64 L2, .int .i64 H2] 23 ∧ Blk wx w.heap.size #[.slice s.aw h.warm.length s.cw, .slice s.ag h.gauges.length s.cg, .slice s.af h.flows.length s.cf] 85 ∧ Blk wx (w.heap.size + 1) #[.int .i64 0, .int .i64 0] 23 ∧ Kept w wx)
        case first =>
          have q0k0 : ∀ w', Kept V w' → w'.cell? ⟨w.heap.size, 0, none⟩ = _ := fun w' h => (q0.keep h).cell 0
          have q0k1 : ∀ w', Kept V w' → w'.cell? ⟨w.heap.size, 1, none⟩ = _ := fun w' h => (q0.keep h).cell 1
          have q0k2 : ∀ w', Kept V w' → w'.cell? ⟨w.heap.size, 2, none⟩ = _ := fun w' h => (q0.keep h).cell 2
          simp at q0k0 q0k1 q0k2
          have l0 := q0.lt
          go_region_held3 (fun w' => Kept V w') (exact kptx) (first | (go_at_call 127; (with_reducible refine (KC.out _ (by (exact kpt))).mono ?_); rintro e w3 ⟨rfl, hb3⟩; (first | (refine Blk.thru (b := V.heap.size) (arr := #[.int .i64 0, .int .i64 0]) (t := 23) ?_ hb3 ?_; (focus (first | with_reducible assumption | (refine Blk.new' ?_; (focus (simp; done))) | (refine Blk.drew (Blk.new' ?_); (focus (simp; done))) | (refine Blk.alloc (Blk.new' ?_) _; (focus (simp; done))) | (refine Blk.drew (Blk.alloc (Blk.new' ?_) _); (focus (simp; done))) | (refine Blk.alloc (Blk.drew (Blk.new' ?_)) _; (focus (simp; done))) | (refine Blk.alloc ?_ _; with_reducible assumption) | (refine Blk.drew ?_; with_reducible assumption) | (refine Blk.drew (Blk.alloc ?_ _); with_reducible assumption) | fail)); intro ta; have tac0 := ta.cell 0; have taf0 := ta.free 0; have tac1 := ta.cell 1; have taf1 := ta.free 1; have tal := ta.lt; simp at tac0 tac1) | skip); (first | (refine Blk.thru (b := V.heap.size + 1) (arr := #[.int .i64 0, .int .i64 0]) (t := 23) ?_ hb3 ?_; (focus (first | with_reducible assumption | (refine Blk.new' ?_; (focus (simp; done))) | (refine Blk.drew (Blk.new' ?_); (focus (simp; done))) | (refine Blk.alloc (Blk.new' ?_) _; (focus (simp; done))) | (refine Blk.drew (Blk.alloc (Blk.new' ?_) _); (focus (simp; done))) | (refine Blk.alloc (Blk.drew (Blk.new' ?_)) _; (focus (simp; done))) | (refine Blk.alloc ?_ _; with_reducible assumption) | (refine Blk.drew ?_; with_reducible assumption) | (refine Blk.drew (Blk.alloc ?_ _); with_reducible assumption) | fail)); intro tb; have tbc0 := tb.cell 0; have tbf0 := tb.free 0; have tbc1 := tb.cell 1; have tbf1 := tb.free 1; have tbl := tb.lt; simp at tbc0 tbc1) | skip)) | (go_at_call 140; (with_reducible refine (KM.out _ (by (exact kpt))).mono ?_); rintro e w4 ⟨rfl, hb4⟩; (first | (refine Blk.thru (b := V.heap.size) (arr := #[.int .i64 0, .int .i64 0]) (t := 23) ?_ hb4 ?_; (focus (first | with_reducible assumption | (refine Blk.new' ?_; (focus (simp; done))) | (refine Blk.drew (Blk.new' ?_); (focus (simp; done))) | (refine Blk.alloc (Blk.new' ?_) _; (focus (simp; done))) | (refine Blk.drew (Blk.alloc (Blk.new' ?_) _); (focus (simp; done))) | (refine Blk.alloc (Blk.drew (Blk.new' ?_)) _; (focus (simp; done))) | (refine Blk.alloc ?_ _; with_reducible assumption) | (refine Blk.drew ?_; with_reducible assumption) | (refine Blk.drew (Blk.alloc ?_ _); with_reducible assumption) | fail)); intro tc; have tcc0 := tc.cell 0; have tcf0 := tc.free 0; have tcc1 := tc.cell 1; have tcf1 := tc.free 1; have tcl := tc.lt; simp at tcc0 tcc1) | skip); (first | (refine Blk.thru (b := V.heap.size + 1) (arr := #[.int .i64 0, .int .i64 0]) (t := 23) ?_ hb4 ?_; (focus (first | with_reducible assumption | (refine Blk.new' ?_; (focus (simp; done))) | (refine Blk.drew (Blk.new' ?_); (focus (simp; done))) | (refine Blk.alloc (Blk.new' ?_) _; (focus (simp; done))) | (refine Blk.drew (Blk.alloc (Blk.new' ?_) _); (focus (simp; done))) | (refine Blk.alloc (Blk.drew (Blk.new' ?_)) _; (focus (simp; done))) | (refine Blk.alloc ?_ _; with_reducible assumption) | (refine Blk.drew ?_; with_reducible assumption) | (refine Blk.drew (Blk.alloc ?_ _); with_reducible assumption) | fail)); intro td; have tdc0 := td.cell 0; have tdf0 := td.free 0; have tdc1 := td.cell 1; have tdf1 := td.free 1; have tdl := td.lt; simp at tdc0 tdc1) | skip); (first | (refine Blk.thru (b := w3.heap.size) (arr := #[.int .i64 0, .int .i64 0]) (t := 23) ?_ hb4 ?_; (focus (first | with_reducible assumption | (refine Blk.new' ?_; (focus (simp; done))) | (refine Blk.drew (Blk.new' ?_); (focus (simp; done))) | (refine Blk.alloc (Blk.new' ?_) _; (focus (simp; done))) | (refine Blk.drew (Blk.alloc (Blk.new' ?_) _); (focus (simp; done))) | (refine Blk.alloc (Blk.drew (Blk.new' ?_)) _; (focus (simp; done))) | (refine Blk.alloc ?_ _; with_reducible assumption) | (refine Blk.drew ?_; with_reducible assumption) | (refine Blk.drew (Blk.alloc ?_ _); with_reducible assumption) | fail)); intro te; have tec0 := te.cell 0; have tef0 := te.free 0; have tec1 := te.cell 1; have tef1 := te.free 1; have tel := te.lt; simp at tec0 tec1) | skip); (first | (refine Blk.thru (b := w3.heap.size + 1) (arr := #[.int .i64 0, .int .i64 0]) (t := 23) ?_ hb4 ?_; (focus (first | with_reducible assumption | (refine Blk.new' ?_; (focus (simp; done))) | (refine Blk.drew (Blk.new' ?_); (focus (simp; done))) | (refine Blk.alloc (Blk.new' ?_) _; (focus (simp; done))) | (refine Blk.drew (Blk.alloc (Blk.new' ?_) _); (focus (simp; done))) | (refine Blk.alloc (Blk.drew (Blk.new' ?_)) _; (focus (simp; done))) | (refine Blk.alloc ?_ _; with_reducible assumption) | (refine Blk.drew ?_; with_reducible assumption) | (refine Blk.drew (Blk.alloc ?_ _); with_reducible assumption) | fail)); intro tf; have tfc0 := tf.cell 0; have tff0 := tf.free 0; have tfc1 := tf.cell 1; have tff1 := tf.free 1; have tfl := tf.lt; simp at tfc0 tfc1) | skip)) | fail)
          all_goals (go_wp2_with fail; go_meet)
          all_goals
            have hz3 := hb3.size
            have hz4 := hb4.size
            (try simp only [World.size_alloc] at hz3)
            (try simp only [World.size_alloc] at hz4)
            (try simp at hz3)
            (try simp at hz4)
            exact ⟨_, rfl, rfl, by exact blkx, by exact blkx, by exact blkx, by exact blkx, by exact blkx, by exact kptx⟩
        case rest =>
          clear q6 q7 q0 q1 hkV
          obtain ⟨n11, rfl, rfl, q11, q6, q7, q0, q1, hk⟩ := hcut
          have q11c0 := q11.cell 0
          have q11f0 := q11.free 0
          have q11c1 := q11.cell 1
          have q11f1 := q11.free 1
          have q11l := q11.lt
          simp at q11c0 q11c1
          go_wp2
          go_round
          case rel => exact ⟨k + 1, by omega, by omega, by go_num, by rw [HNX.out.1], by rw [HNX.out.2], q6, q7, q0, q1, hk⟩
          case measure => simp [intOf]; omega
      · obtain rfl : k = h.gauges.length := by omega
        have d1 : decide ((h.gauges.length : Int) ≤ (t : Int)) = false := by simp; omega
        have d2 : decide (h.gauges.length ≤ t) = false := by simp; omega
        have HLO2 := Lib.hid (show lostLo h c = max 0 (A - B) by rw [HLO.out, ← HA.out, ← HB.out])
        have w2 := i64_inH (n := A - B) (by omega)
        have w3 := i64_inH (n := L2 - CM) (by omega)
        have w4 := i64_inH (n := H1 - (L2 - CM)) (by omega)
        go_upto_region 12 with fail
        refine at_world (S := fun V => Blk V n6 #[.int .i64 L1, .int .i64 H1] 23 ∧ Blk V n7 #[.int .i64 L2, .int .i64 H2] 23 ∧ Blk V w.heap.size #[.slice s.aw h.warm.length s.cw, .slice s.ag h.gauges.length s.cg, .slice s.af h.flows.length s.cf] 85 ∧ Blk V (w.heap.size + 1) #[.int .i64 0, .int .i64 0] 23 ∧ Kept w V) ⟨q6, q7, q0, q1, hkr⟩ ?_
        clear q6 q7 q0 q1 hkr
        rintro V ⟨q6, q7, q0, q1, hkV⟩
        have KCM : ∀ W, Kept V W → Calls Try.prog 140 #[.agg #[.slice s.aw h.warm.length s.cw, .slice s.ag h.gauges.length s.cg, .slice s.af h.flows.length s.cf], .int .i64 c, .int .i64 0, .int .i64 t] W fun e w' => e = .returned (.int .i64 CM) ∧ Kept W w' := fun W hW => by
          have z := r_Come h s W (hh.later (Kept.drop hkV hW)) ho c 0 t hg1 htl hc
          rw [E5.out] at z
          exact z
        have q6c0 := fun g : Later V => (q6.later g).cell 0
        have q6f0 := fun g : Later V => (q6.later g).free 0
        have q6c1 := fun g : Later V => (q6.later g).cell 1
        have q6f1 := fun g : Later V => (q6.later g).free 1
        have q6l := fun g : Later V => (q6.later g).lt
        simp at q6c0 q6c1
        have q7c0 := fun g : Later V => (q7.later g).cell 0
        have q7f0 := fun g : Later V => (q7.later g).free 0
        have q7c1 := fun g : Later V => (q7.later g).cell 1
        have q7f1 := fun g : Later V => (q7.later g).free 1
        have q7l := fun g : Later V => (q7.later g).lt
        simp at q7c0 q7c1
        have q0c0 := fun g : Later V => (q0.later g).cell 0
        have q0f0 := fun g : Later V => (q0.later g).free 0
        have q0c1 := fun g : Later V => (q0.later g).cell 1
        have q0f1 := fun g : Later V => (q0.later g).free 1
        have q0c2 := fun g : Later V => (q0.later g).cell 2
        have q0f2 := fun g : Later V => (q0.later g).free 2
        have q0l := fun g : Later V => (q0.later g).lt
        simp at q0c0 q0c1 q0c2
        refine Later.tail 15 (by kernel_rfl) (by kernel_rfl) ?_
        simp only [List.take_succ_cons, List.take_zero, List.drop_succ_cons, List.drop_zero]
        repeat (first | go_big_quiet_skip | (go_big_quiet_want; go_big_quiet_op; first | go_big_quiet_on | (apply Exists.intro; refine ⟨fun g_ => ?_, ?_⟩; (focus (first | (go_at_call 140; with_reducible exact Later.call (KCM _ g_.ok)))); go_big_quiet_on)))
        refine wpQuiet_nil ?_
        intro gg
        refine wpList_plain rfl fun K1 hK1 => ?_
        clear q6c0 q6f0 q6c1 q6f1 q6l q7c0 q7f0 q7c1 q7f1 q7l q0c0 q0f0 q0c1 q0f1 q0c2 q0f2 q0l
        have n1 := q1.later gg
        have hkg := Kept.drop hkV gg.ok
        have n1c0 := n1.cell 0
        have n1f0 := n1.free 0
        have n1c1 := n1.cell 1
        have n1f1 := n1.free 1
        have n1l := n1.lt
        simp at n1c0 n1c1
        go_wp2
        all_goals exact bodyPost_ret (v := .agg #[.int .i64 (max 0 (A - B)), .int .i64 (H1 - (L2 - CM))]) (by first | (simp [results, Try.results130, go_sem, n1c0, n1f0, n1c1, n1f1]; done) | (simp [results, Try.results130, go_sem, n1c0, n1f0, n1c1, n1f1]; omega)) rfl ⟨by rw [HLO2.out, HHI.out], by (exact kpt)⟩
theorem r_lost (h : Hist) (s : Spot) (w : World) (hh : HistAt h s w) (ho : HistOk h) (c : Nat) (hc : c < h.warm.length) :
    Calls Try.prog 130 #[.agg #[.slice s.aw h.warm.length s.cw, .slice s.ag h.gauges.length s.cg, .slice s.af h.flows.length s.cf], .int .i64 c] w fun e w' => e = .returned (.agg #[.int .i64 (lostLo h c), .int .i64 (lostHi h c)]) ∧ Kept w w' := by
  by_cases hn : h.gauges.length = 1
  · exact r_lost_one h s w hh ho c hc hn
  · exact r_lost_more h s w hh ho c hc hn

end Go.Proofs.Ytemafanncejeiaa

/-
  What has leaked: the reference.
-/
namespace Go.Proofs.Ytemafanncejeiaa
open Go.RowKit Bal Bal.Trim Bal.Gas
set_option linter.unusedVariables false
set_option linter.unusedSimpArgs false
set_option maxHeartbeats 4000000
set_option maxRecDepth 100000
attribute [local go_sem] ite_max ite_min

theorem r_Leaks_bad (h : Hist) (s : Spot) (x y : Int) (w : World) (hh : HistAt h s w) (hb : histB h = false) :
    Calls Try.prog 59 #[.agg #[.slice s.aw h.warm.length s.cw, .slice s.ag h.gauges.length s.cg, .slice s.af h.flows.length s.cf], .agg #[.int .i64 x, .int .i64 y]] w fun e w' => ∃ v, e = .returned (.tuple #[v, .int .i64 (34)]) ∧ w'.ownsRow w.heap.size 23 2 (v) (([] : List Sp)).length ((([] : List Sp)).flatMap Sp.cells) ∧ Kept w w' := by
  have HE := Lib.hid hb
  clear hb
  go_enter Try.func59, Try.ntmps59
  go_wp2_with (go_at_call 126; (with_reducible refine (r_History h s _ (hh.later (by (exact kpt)))).mono ?_); rw [HE.out]; rintro e w1 ⟨rfl, hb1⟩; refine Blk.thru (b := w.heap.size) (arr := ?_) (t := ?_) ?_ hb1 ?_; rotate_left 2; (focus (exact blk)); intro ra; have rac0 := ra.cell 0; have raf0 := ra.free 0; have rac1 := ra.cell 1; have raf1 := ra.free 1; have rac2 := ra.cell 2; have raf2 := ra.free 2; have ral := ra.lt; simp at rac0 rac1 rac2; refine Blk.thru (b := w.heap.size + 1) (arr := ?_) (t := ?_) ?_ hb1 ?_; rotate_left 2; (focus (exact blk)); intro rc; have rcc0 := rc.cell 0; have rcf0 := rc.free 0; have rcc1 := rc.cell 1; have rcf1 := rc.free 1; have rcl := rc.lt; simp at rcc0 rcc1)
  exact bodyPost_ret (v := .tuple #[.slice none 0 0, .int .i64 34]) (by simp [results, Try.results59, go_sem]) rfl ⟨.slice none 0 0, rfl, owns_nil (α := Sp) (enc := Sp.cells), by (exact kpt)⟩

theorem r_Leaks_arg (h : Hist) (s : Spot) (x y : Int) (w : World) (hh : HistAt h s w) (hb : histB h = true) (hs : spanIn x y 0 1000000000000 = false) :
    Calls Try.prog 59 #[.agg #[.slice s.aw h.warm.length s.cw, .slice s.ag h.gauges.length s.cg, .slice s.af h.flows.length s.cf], .agg #[.int .i64 x, .int .i64 y]] w fun e w' => ∃ v, e = .returned (.tuple #[v, .int .i64 (2)]) ∧ w'.ownsRow w.heap.size 23 2 (v) (([] : List Sp)).length ((([] : List Sp)).flatMap Sp.cells) ∧ Kept w w' := by
  have HE := Lib.hid hb
  have HS := Lib.hid hs
  clear hb hs
  go_enter Try.func59, Try.ntmps59
  go_wp2_with (first | (go_at_call 126; (with_reducible refine (r_History h s _ (hh.later (by (exact kpt)))).mono ?_); rw [HE.out]; rintro e w1 ⟨rfl, hb1⟩; refine Blk.thru (b := w.heap.size) (arr := ?_) (t := ?_) ?_ hb1 ?_; rotate_left 2; (focus (exact blk)); intro ra; have rac0 := ra.cell 0; have raf0 := ra.free 0; have rac1 := ra.cell 1; have raf1 := ra.free 1; have rac2 := ra.cell 2; have raf2 := ra.free 2; have ral := ra.lt; simp at rac0 rac1 rac2; refine Blk.thru (b := w.heap.size + 1) (arr := ?_) (t := ?_) ?_ hb1 ?_; rotate_left 2; (focus (exact blk)); intro rc; have rcc0 := rc.cell 0; have rcf0 := rc.free 0; have rcc1 := rc.cell 1; have rcf1 := rc.free 1; have rcl := rc.lt; simp at rcc0 rcc1) | (go_at_call 129; (with_reducible refine (r_spanned x y _ _ _).mono ?_); rw [HS.out]; rintro e w2 ⟨rfl, hb2⟩; refine Blk.thru (b := w.heap.size) (arr := ?_) (t := ?_) ?_ hb2 ?_; rotate_left 2; (focus (exact blk)); intro rb; have rbc0 := rb.cell 0; have rbf0 := rb.free 0; have rbc1 := rb.cell 1; have rbf1 := rb.free 1; have rbc2 := rb.cell 2; have rbf2 := rb.free 2; have rbl := rb.lt; simp at rbc0 rbc1 rbc2; refine Blk.thru (b := w.heap.size + 1) (arr := ?_) (t := ?_) ?_ hb2 ?_; rotate_left 2; (focus (exact blk)); intro rd; have rdc0 := rd.cell 0; have rdf0 := rd.free 0; have rdc1 := rd.cell 1; have rdf1 := rd.free 1; have rdl := rd.lt; simp at rdc0 rdc1))
  exact bodyPost_ret (v := .tuple #[.slice none 0 0, .int .i64 2]) (by simp [results, Try.results59, go_sem]) rfl ⟨.slice none 0 0, rfl, owns_nil (α := Sp) (enc := Sp.cells), by (exact kpt)⟩

theorem r_Leaks_conf (h : Hist) (s : Spot) (x y : Int) (w : World) (hh : HistAt h s w) (hb : histB h = true) (hs : spanIn x y 0 1000000000000 = true) (hc : confE h = 0) :
    Calls Try.prog 59 #[.agg #[.slice s.aw h.warm.length s.cw, .slice s.ag h.gauges.length s.cg, .slice s.af h.flows.length s.cf], .agg #[.int .i64 x, .int .i64 y]] w fun e w' => ∃ v, e = .returned (.tuple #[v, .int .i64 (6)]) ∧ w'.ownsRow w.heap.size 23 2 (v) (([] : List Sp)).length ((([] : List Sp)).flatMap Sp.cells) ∧ Kept w w' := by
  have HE := Lib.hid hb
  have HS := Lib.hid hs
  have HC := Lib.hid hc
  clear hb hs hc
  go_enter Try.func59, Try.ntmps59
  go_wp2_with (first | (go_at_call 126; (with_reducible refine (r_History h s _ (hh.later (by (exact kpt)))).mono ?_); rw [HE.out]; rintro e w1 ⟨rfl, hb1⟩; refine Blk.thru (b := w.heap.size) (arr := ?_) (t := ?_) ?_ hb1 ?_; rotate_left 2; (focus (exact blk)); intro ra; have rac0 := ra.cell 0; have raf0 := ra.free 0; have rac1 := ra.cell 1; have raf1 := ra.free 1; have rac2 := ra.cell 2; have raf2 := ra.free 2; have ral := ra.lt; simp at rac0 rac1 rac2; refine Blk.thru (b := w.heap.size + 1) (arr := ?_) (t := ?_) ?_ hb1 ?_; rotate_left 2; (focus (exact blk)); intro rc; have rcc0 := rc.cell 0; have rcf0 := rc.free 0; have rcc1 := rc.cell 1; have rcf1 := rc.free 1; have rcl := rc.lt; simp at rcc0 rcc1) | (go_at_call 129; (with_reducible refine (r_spanned x y _ _ _).mono ?_); rw [HS.out]; rintro e w2 ⟨rfl, hb2⟩; refine Blk.thru (b := w.heap.size) (arr := ?_) (t := ?_) ?_ hb2 ?_; rotate_left 2; (focus (exact blk)); intro rb; have rbc0 := rb.cell 0; have rbf0 := rb.free 0; have rbc1 := rb.cell 1; have rbf1 := rb.free 1; have rbc2 := rb.cell 2; have rbf2 := rb.free 2; have rbl := rb.lt; simp at rbc0 rbc1 rbc2; refine Blk.thru (b := w.heap.size + 1) (arr := ?_) (t := ?_) ?_ hb2 ?_; rotate_left 2; (focus (exact blk)); intro rd; have rdc0 := rd.cell 0; have rdf0 := rd.free 0; have rdc1 := rd.cell 1; have rdf1 := rd.free 1; have rdl := rd.lt; simp at rdc0 rdc1) | (go_at_call 63; (with_reducible refine (r_Conflict h s _ (hh.later (by (exact kpt)))).mono ?_); rw [HC.out]; rintro e w3 ⟨rfl, hb3⟩; refine Blk.thru (b := w.heap.size) (arr := ?_) (t := ?_) ?_ hb3 ?_; rotate_left 2; (focus (exact blk)); intro re; have rec0 := re.cell 0; have ref0 := re.free 0; have rec1 := re.cell 1; have ref1 := re.free 1; have rec2 := re.cell 2; have ref2 := re.free 2; have rel := re.lt; simp at rec0 rec1 rec2; refine Blk.thru (b := w.heap.size + 1) (arr := ?_) (t := ?_) ?_ hb3 ?_; rotate_left 2; (focus (exact blk)); intro rg; have rgc0 := rg.cell 0; have rgf0 := rg.free 0; have rgc1 := rg.cell 1; have rgf1 := rg.free 1; have rgl := rg.lt; simp at rgc0 rgc1))
  exact bodyPost_ret (v := .tuple #[.slice none 0 0, .int .i64 6]) (by simp [results, Try.results59, go_sem]) rfl ⟨.slice none 0 0, rfl, owns_nil (α := Sp) (enc := Sp.cells), by (exact kpt)⟩

theorem r_Leaks_main (h : Hist) (s : Spot) (x y : Int) (w : World) (hh : HistAt h s w) (hb : histB h = true) (hs : spanIn x y 0 1000000000000 = true) (hc : confE h ≠ 0) :
    Calls Try.prog 59 #[.agg #[.slice s.aw h.warm.length s.cw, .slice s.ag h.gauges.length s.cg, .slice s.af h.flows.length s.cf], .agg #[.int .i64 x, .int .i64 y]] w fun e w' => ∃ v, e = .returned (.tuple #[v, .int .i64 (leaksE h x y)]) ∧ w'.ownsRow w.heap.size 23 2 (v) (leaksL h x y).length ((leaksL h x y).flatMap Sp.cells) ∧ Kept w w' := by
  have HE := Lib.hid hb
  have ho := histB_ok hb
  have HLE := Lib.hid (leaks_free hb hs hc)
  have xy := span3 hs
  have hw1 := ho.w1
  have hw2 := ho.w2
  have hcw := hh.wc
  have hcm := hh.wm
  unfold maxLen at hcm
  have HO := Lib.hid ho
  have HS := Lib.hid hs
  have hcn : (confE h == 0) = false := by simp [hc]
  have HC := Lib.hid (Eq.refl (confE h))
  have HAB := Lib.hid (fun k hk => all_bd ho k hk)
  have HLB := Lib.hid (fun (c : Nat) (hc : c < h.warm.length) => lost_bd ho hc)
  clear hb hs hc ho
  go_enter Try.func59, Try.ntmps59
  go_wp2_with (first | (go_at_call 126; (with_reducible refine (r_History h s _ (hh.later (by (exact kpt)))).mono ?_); rw [HE.out]; rintro e w1 ⟨rfl, hb1⟩; refine Blk.thru (b := w.heap.size) (arr := ?_) (t := ?_) ?_ hb1 ?_; rotate_left 2; (focus (exact blk)); intro ra; have rac0 := ra.cell 0; have raf0 := ra.free 0; have rac1 := ra.cell 1; have raf1 := ra.free 1; have rac2 := ra.cell 2; have raf2 := ra.free 2; have ral := ra.lt; simp at rac0 rac1 rac2; refine Blk.thru (b := w.heap.size + 1) (arr := ?_) (t := ?_) ?_ hb1 ?_; rotate_left 2; (focus (exact blk)); intro rc; have rcc0 := rc.cell 0; have rcf0 := rc.free 0; have rcc1 := rc.cell 1; have rcf1 := rc.free 1; have rcl := rc.lt; simp at rcc0 rcc1) | (go_at_call 129; (with_reducible refine (r_spanned x y _ _ _).mono ?_); rw [HS.out]; rintro e w2 ⟨rfl, hb2⟩; refine Blk.thru (b := w.heap.size) (arr := ?_) (t := ?_) ?_ hb2 ?_; rotate_left 2; (focus (exact blk)); intro rb; have rbc0 := rb.cell 0; have rbf0 := rb.free 0; have rbc1 := rb.cell 1; have rbf1 := rb.free 1; have rbc2 := rb.cell 2; have rbf2 := rb.free 2; have rbl := rb.lt; simp at rbc0 rbc1 rbc2; refine Blk.thru (b := w.heap.size + 1) (arr := ?_) (t := ?_) ?_ hb2 ?_; rotate_left 2; (focus (exact blk)); intro rd; have rdc0 := rd.cell 0; have rdf0 := rd.free 0; have rdc1 := rd.cell 1; have rdf1 := rd.free 1; have rdl := rd.lt; simp at rdc0 rdc1) | (go_at_call 63; (with_reducible refine (r_Conflict h s _ (hh.later (by (exact kpt)))).mono ?_); rintro e w3 ⟨rfl, hb3⟩; refine Blk.thru (b := w.heap.size) (arr := ?_) (t := ?_) ?_ hb3 ?_; rotate_left 2; (focus (exact blk)); intro re; have rec0 := re.cell 0; have ref0 := re.free 0; have rec1 := re.cell 1; have ref1 := re.free 1; have rec2 := re.cell 2; have ref2 := re.free 2; have rel := re.lt; simp at rec0 rec1 rec2; refine Blk.thru (b := w.heap.size + 1) (arr := ?_) (t := ?_) ?_ hb3 ?_; rotate_left 2; (focus (exact blk)); intro rg; have rgc0 := rg.cell 0; have rgf0 := rg.free 0; have rgc1 := rg.cell 1; have rgf1 := rg.free 1; have rgl := rg.lt; simp at rgc0 rgc1))
  refine at_world (S := fun V => Blk V w.heap.size #[.slice s.aw h.warm.length s.cw, .slice s.ag h.gauges.length s.cg, .slice s.af h.flows.length s.cf] 85 ∧ Blk V (w.heap.size + 1) #[.int .i64 x, .int .i64 y] 23 ∧ Kept w V ∧ w3.heap.size + 1 ≤ V.heap.size) ⟨by (exact blkc), by (exact blkc), by (exact kpt), by simp⟩ ?_
  clear re rg rec0 ref0 rec1 ref1 rec2 ref2 rel rgc0 rgf0 rgc1 rgf1 rgl
  rintro V ⟨q0, q1, hkV, hVs⟩
  go_loopw [8, 9, 10, 11] (fun l sa sb i wr => ∃ k : Nat, k ≤ h.warm.length ∧ i = .int .i64 k ∧ sa = .int .i64 (allLo h k) ∧ sb = .int .i64 (allHi h k) ∧ wr.ownsRow (w3.heap.size + 1) 23 2 l (partL h k).length ((partL h k).flatMap Sp.cells) ∧ Blk wr w.heap.size #[.slice s.aw h.warm.length s.cw, .slice s.ag h.gauges.length s.cg, .slice s.af h.flows.length s.cf] 85 ∧ Blk wr (w.heap.size + 1) #[.int .i64 x, .int .i64 y] 23 ∧ Kept w wr ∧ w3.heap.size + 1 ≤ wr.heap.size) (fun _ _ _ i _ => h.warm.length - (intOf i).toNat)
  case atStart => exact ⟨0, Nat.zero_le _, rfl, rfl, rfl, owns_nil (α := Sp) (enc := Sp.cells), q0, q1, hkV, hVs⟩
  case round =>
    clear q0 q1 hkV hVs
    obtain ⟨k, hk, rfl, rfl, rfl, hown, q0, q1, hkr, hrs⟩ := hrel
    have hw3 := hb3.size
    by_cases hlt : k < h.warm.length
    · obtain ⟨AL, hAL⟩ : ∃ n, n = allLo h k := ⟨_, rfl⟩
      obtain ⟨AH, hAH⟩ : ∃ n, n = allHi h k := ⟨_, rfl⟩
      obtain ⟨LL, hLL⟩ : ∃ n, n = lostLo h k := ⟨_, rfl⟩
      obtain ⟨LH, hLH⟩ : ∃ n, n = lostHi h k := ⟨_, rfl⟩
      have ab := HAB.out k hk
      have lb := HLB.out k hlt
      rw [← hAL, ← hAH] at ab ⊢
      rw [← hLL, ← hLH] at lb
      have EL := Lib.hid hLL.symm
      have EH := Lib.hid hLH.symm
      have EAL := Lib.hid (show allLo h (k + 1) = AL + LL by rw [allLo_succ, hAL, hLL])
      have EAH := Lib.hid (show allHi h (k + 1) = AH + LH by rw [allHi_succ, hAH, hLH])
      clear hAL hAH hLL hLH
      have w1_ := i64_inH (n := AL + LL) (by omega)
      have w2_ := i64_inH (n := AH + LH) (by omega)
      have q0c0 := q0.cell 0
      have q0f0 := q0.free 0
      have q0c1 := q0.cell 1
      have q0f1 := q0.free 1
      have q0c2 := q0.cell 2
      have q0f2 := q0.free 2
      have q0l := q0.lt
      simp at q0c0 q0c1 q0c2
      have q1c0 := q1.cell 0
      have q1f0 := q1.free 0
      have q1c1 := q1.cell 1
      have q1f1 := q1.free 1
      have q1l := q1.lt
      simp at q1c0 q1c1
      have hpl := Lib.hid (partL_len h k)
      go_wp2_with (first | (go_at_call 130; (with_reducible refine (r_lost h s _ (hh.later (by (exact kpt))) HO.out k hlt).mono ?_); rw [EL.out, EH.out]; rintro e w4 ⟨rfl, hb4⟩; have hown4 := owns_keep hown (by with_reducible assumption); refine Blk.thru (b := w.heap.size) (arr := ?_) (t := ?_) ?_ hb4 ?_; rotate_left 2; (focus (exact blk)); intro ra; have rac0 := ra.cell 0; have raf0 := ra.free 0; have rac1 := ra.cell 1; have raf1 := ra.free 1; have rac2 := ra.cell 2; have raf2 := ra.free 2; have ral := ra.lt; simp at rac0 rac1 rac2; refine Blk.thru (b := w.heap.size + 1) (arr := ?_) (t := ?_) ?_ hb4 ?_; rotate_left 2; (focus (exact blk)); intro rb; have rbc0 := rb.cell 0; have rbf0 := rb.free 0; have rbc1 := rb.cell 1; have rbf1 := rb.free 1; have rbl := rb.lt; simp at rbc0 rbc1) | (at_builtin; obtain ⟨i0, hi, hz0, hz1, hz2⟩ := info_parts infoSp; refine wpList_append_own _ rfl _ _ 81 rfl (w3.heap.size + 1) 23 i0 (.agg #[.int .i64 0, .int .i64 0]) 2 16 Try.underlying81 hi hz0 hz1 hz2 rfl (by decide) _ _ _ rfl ((hown4.alloc _).alloc _) ⟨_, 0, none⟩ 1 1 [.int .i64 LL, .int .i64 LH] rfl rfl (cell_two_at (by simp) _ _ _) (fun x hx => by simp at hx; rcases hx with rfl | rfl <;> rfl) (by unfold maxLen; rw [partL_len]; omega) (by rw [partL_len]; omega) (by have := hb4.size; simp; omega) ?_; intro v9 w9 hown9 hgrow9 hnil9; clear hi hz0 hz1 hz2; have n0 := Blk.grownN (b := w.heap.size) (arr := #[.slice s.aw h.warm.length s.cw, .slice s.ag h.gauges.length s.cg, .slice s.af h.flows.length s.cf]) (t := 85) (by exact blkc) (owns_ge hown4 (by omega)) hgrow9; have n0c0 := n0.cell 0; have n0f0 := n0.free 0; have n0c1 := n0.cell 1; have n0f1 := n0.free 1; have n0c2 := n0.cell 2; have n0f2 := n0.free 2; have n0l := Blk.lt n0; simp at n0c0 n0c1 n0c2; have n1 := Blk.grownN (b := w.heap.size + 1) (arr := #[.int .i64 x, .int .i64 y]) (t := 23) (by exact blkc) (owns_ge hown4 (by omega)) hgrow9; have n1c0 := n1.cell 0; have n1f0 := n1.free 0; have n1c1 := n1.cell 1; have n1f1 := n1.free 1; have n1l := Blk.lt n1; simp at n1c0 n1c1; have nx := Blk.grownN (b := w4.heap.size) (arr := #[.int .i64 LL, .int .i64 LH]) (t := 23) (by exact blkc) (owns_newer hown4 (Nat.le_refl _)) hgrow9; have nxc0 := nx.cell 0; have nxf0 := nx.free 0; have nxc1 := nx.cell 1; have nxf1 := nx.free 1; have nxl := Blk.lt nx; simp at nxc0 nxc1))
      have hown10 : w9.ownsRow (w3.heap.size + 1) 23 2 v9 (partL h (k + 1)).length ((partL h (k + 1)).flatMap Sp.cells) := by
        rw [partL_succ, List.length_append, List.flatMap_append, EL.out, EH.out]; exact hown9
      have hk9 : Kept w w9 := Kept.grownB (by exact kpt) (owns_keep hown4 (by exact kpt)) (by omega) hgrow9
      go_roundw
      case rel => exact ⟨k + 1, by omega, by go_num, by rw [EAL.out], by rw [EAH.out], hown10, n0, n1, hk9, by have := hgrow9.size; have := hb4.size; simp at *; omega⟩
      case measure => simp [intOf]; omega
    · obtain rfl : k = h.warm.length := by omega
      have hown1 := hown
      rw [← mixL_zero h x y, mixL_len] at hown1
      obtain ⟨g, cap, cur, rfl, hgb, hcur, hgc, hgm⟩ := owns_block hown1 (by omega)
      have hown2 : wr.ownsRow (w3.heap.size + 1) 23 2 (.slice (some ⟨g, 0, none⟩) h.warm.length cap) (mixL h x y 0).length ((mixL h x y 0).flatMap Sp.cells) := by rw [mixL_len]; exact hown1
      clear hown hown1 hcur
      unfold maxLen at hgm
      have ab := HAB.out _ hk
      have HOB := Lib.hid (show outB h x y = (decide (y < allLo h h.warm.length) || decide (allHi h h.warm.length < x)) from rfl)
      have HLKL := Lib.hid (fun c => show leakLo h x c = max (lostLo h c) (x - allHi h h.warm.length + lostHi h c) from rfl)
      have HLKH := Lib.hid (fun c => show leakHi h y c = min (lostHi h c) (y - allLo h h.warm.length + lostLo h c) from rfl)
      obtain ⟨AL, hAL⟩ : ∃ n, n = allLo h h.warm.length := ⟨_, rfl⟩
      obtain ⟨AH, hAH⟩ : ∃ n, n = allHi h h.warm.length := ⟨_, rfl⟩
      rw [← hAL, ← hAH] at ab HOB ⊢
      rw [← hAH] at HLKL
      rw [← hAL] at HLKH
      clear hAL hAH
      have q0c0 := q0.cell 0
      have q0f0 := q0.free 0
      have q0c1 := q0.cell 1
      have q0f1 := q0.free 1
      have q0c2 := q0.cell 2
      have q0f2 := q0.free 2
      have q0l := q0.lt
      simp at q0c0 q0c1 q0c2
      have q1c0 := q1.cell 0
      have q1f0 := q1.free 0
      have q1c1 := q1.cell 1
      have q1f1 := q1.free 1
      have q1l := q1.lt
      simp at q1c0 q1c1
      have out : ∀ (b1 b2 : Bool), decide (y < AL) = b1 → decide (AH < x) = b2 → leaksE h x y = if b1 || b2 then 6 else 0 := fun b1 b2 e1 e2 => by rw [HLE.out, HOB.out, e1, e2]
      have HOUT := Lib.hid out
      clear out
      cases d1 : decide (y < AL)
      · cases d2 : decide (AH < x)
        · have HE0 := Lib.hid (show leaksE h x y = 0 from HOUT.out _ _ d1 d2)
          have HIN := Lib.hid (show leaksL h x y = mixL h x y h.warm.length from leaks_in HE0.out)
          go_wp2
          clear q0c0 q0f0 q0c1 q0f1 q0c2 q0f2 q0l q1c0 q1f0 q1c1 q1f1 q1l d1 d2
          go_loopw [13] (fun i wq => ∃ k : Nat, k ≤ h.warm.length ∧ i = .int .i64 k ∧ wq.ownsRow (w3.heap.size + 1) 23 2 (.slice (some ⟨g, 0, none⟩) h.warm.length cap) (mixL h x y k).length ((mixL h x y k).flatMap Sp.cells) ∧ Blk wq w.heap.size #[.slice s.aw h.warm.length s.cw, .slice s.ag h.gauges.length s.cg, .slice s.af h.flows.length s.cf] 85 ∧ Blk wq (w.heap.size + 1) #[.int .i64 x, .int .i64 y] 23 ∧ Kept w wq) (fun i _ => h.warm.length - (intOf i).toNat)
          case atStart => exact ⟨0, Nat.zero_le _, rfl, hown2, q0, q1, hkr⟩
          case round =>
            clear hown2 q0 q1 hkr
            obtain ⟨k, hk, rfl, hown, q0, q1, hkr⟩ := hrel
            by_cases hlt : k < h.warm.length
            · obtain ⟨ad, cp, hve, hrow, _, _⟩ := owns_row (enc := Sp.cells) (k := 2) (fun _ => rfl) hown
              simp only [Value.slice.injEq] at hve
              obtain ⟨rfl, _, rfl⟩ := hve
              obtain ⟨bg, og, hbo, hbl, c0, c1⟩ := Sp.row hrow k (by rw [mixL_len]; exact hlt)
              simp only [Option.some.injEq, Addr.mk.injEq, and_true] at hbo
              obtain ⟨rfl, rfl⟩ := hbo
              have hml := mixL_at h x y hlt
              rw [show (mixL h x y k)[k]'(by rw [mixL_len]; exact hlt) = ⟨lostLo h k, lostHi h k⟩ from by rw [List.getElem?_eq_getElem (by rw [mixL_len]; exact hlt)] at hml; exact Option.some.inj hml] at c0 c1
              obtain ⟨LL, hLL⟩ : ∃ n, n = lostLo h k := ⟨_, rfl⟩
              obtain ⟨LH, hLH⟩ : ∃ n, n = lostHi h k := ⟨_, rfl⟩
              have lb := HLB.out k hlt
              have K1 := HLKL.out k
              have K2 := HLKH.out k
              rw [← hLL, ← hLH] at lb c0 c1 hml K1 K2
              rw [show x - AH + LH = x - (AH - LH) by omega] at K1
              rw [show y - AL + LL = y - (AL - LL) by omega] at K2
              have HK1 := Lib.hid K1
              have HK2 := Lib.hid K2
              have HML := Lib.hid hml
              have HROW := Lib.hid hown
              clear hLL hLH K1 K2 hml hrow hown
              have w1_ := i64_inH (n := AH - LH) (by omega)
              have w2_ := i64_inH (n := x - (AH - LH)) (by omega)
              have w3_ := i64_inH (n := AL - LL) (by omega)
              have w4_ := i64_inH (n := y - (AL - LL)) (by omega)
              simp only [Nat.zero_add] at c0 c1
              have fg0 := Blk.free (owns_cur HROW.out).2 (k * 2)
              have fg1 := Blk.free (owns_cur HROW.out).2 (k * 2 + 1)
              have q0c0 := q0.cell 0
              have q0f0 := q0.free 0
              have q0c1 := q0.cell 1
              have q0f1 := q0.free 1
              have q0c2 := q0.cell 2
              have q0f2 := q0.free 2
              have q0l := q0.lt
              simp at q0c0 q0c1 q0c2
              have q1c0 := q1.cell 0
              have q1f0 := q1.free 0
              have q1c1 := q1.cell 1
              have q1f1 := q1.free 1
              have q1l := q1.lt
              simp at q1c0 q1c1
              have ng0 : g ≠ w.heap.size + 1 := by omega
              have ng1 : w.heap.size + 1 ≠ g := by omega
              have ng4 : g ≠ wr.heap.size := by omega
              have ng5 : wr.heap.size ≠ g := by omega
              go_wp2
              have hown6 := owns_put (enc := Sp.cells) (fun _ => rfl) (i := k) (j := 0) (u := .int .i64 (max LL (x - (AH - LH)))) ⟨max LL (x - (AH - LH)), LH⟩ HROW.out HML.out (by omega) rfl
              have hown7 := owns_put (enc := Sp.cells) (fun _ => rfl) (i := k) (j := 1) (c := ⟨max LL (x - (AH - LH)), LH⟩) (u := .int .i64 (min LH (y - (AL - LL)))) ⟨max LL (x - (AH - LH)), min LH (y - (AL - LL))⟩ hown6 (by rw [List.getElem?_set_self (by rw [mixL_len]; exact hlt)]) (by omega) rfl
              rw [List.set_set, ← HK1.out, ← HK2.out, ← mixL_succ h x y hlt] at hown7
              rw [HK1.out, HK2.out] at hown7
              go_roundw
              case rel => exact ⟨k + 1, by omega, by go_num, owns_keep (by simpa using hown7) (by exact kpt), (Blk.other (Blk.other q0 (by simp; omega) _) (by simp; omega) _).alloc _, (Blk.other (Blk.other q1 (by simp; omega) _) (by simp; omega) _).alloc _, by exact kpt⟩
              case measure => simp [intOf]; omega
            · obtain rfl : k = h.warm.length := by omega
              go_wp2
              exact bodyPost_ret (v := .tuple #[.slice (some ⟨g, 0, none⟩) h.warm.length cap, .int .i64 0]) (by simp [results, Try.results59, go_sem]) rfl ⟨.slice (some ⟨g, 0, none⟩) h.warm.length cap, by rw [HE0.out], by rw [HIN.out]; exact owns_base hown (by omega), by (exact kpt)⟩
        · have HE6 := Lib.hid (show leaksE h x y = 6 from HOUT.out _ _ d1 d2)
          go_wp2
          exact bodyPost_ret (v := .tuple #[.slice none 0 0, .int .i64 6]) (by simp [results, Try.results59, go_sem]) rfl ⟨.slice none 0 0, by rw [HE6.out], by rw [leaks_out (by rw [HE6.out]; decide)]; exact owns_nil (α := Sp) (enc := Sp.cells), by (exact kpt)⟩
      · have HE6 := Lib.hid (show leaksE h x y = 6 by rw [HLE.out, HOB.out, d1]; rfl)
        go_wp2
        exact bodyPost_ret (v := .tuple #[.slice none 0 0, .int .i64 6]) (by simp [results, Try.results59, go_sem]) rfl ⟨.slice none 0 0, by rw [HE6.out], by rw [leaks_out (by rw [HE6.out]; decide)]; exact owns_nil (α := Sp) (enc := Sp.cells), by (exact kpt)⟩
theorem r_Leaks (h : Hist) (s : Spot) (x y : Int) (w : World) (hh : HistAt h s w) :
    Calls Try.prog 59 #[.agg #[.slice s.aw h.warm.length s.cw, .slice s.ag h.gauges.length s.cg, .slice s.af h.flows.length s.cf], .agg #[.int .i64 x, .int .i64 y]] w fun e w' => ∃ v, e = .returned (.tuple #[v, .int .i64 (leaksE h x y)]) ∧ w'.ownsRow w.heap.size 23 2 (v) (leaksL h x y).length ((leaksL h x y).flatMap Sp.cells) ∧ Kept w w' := by
  cases hb : histB h
  · obtain ⟨h1, h2⟩ := leaks_bad (x := x) (y := y) hb
    rw [h1, h2]
    exact r_Leaks_bad h s x y w hh hb
  · cases hs : spanIn x y 0 1000000000000
    · obtain ⟨h1, h2⟩ := leaks_arg hb hs
      rw [h1, h2]
      exact r_Leaks_arg h s x y w hh hb hs
    · by_cases hc : confE h = 0
      · obtain ⟨h1, h2⟩ := leaks_conf hb hs hc
        rw [h1, h2]
        exact r_Leaks_conf h s x y w hh hb hs hc
      · exact r_Leaks_main h s x y w hh hb hs hc

end Go.Proofs.Ytemafanncejeiaa

/-
  The cells that are named: both.
-/
namespace Go.Proofs.Ytemafanncejeiaa
open Go.RowKit Bal Bal.Trim Bal.Gas
set_option linter.unusedVariables false
set_option linter.unusedSimpArgs false
set_option maxHeartbeats 4000000
set_option maxRecDepth 100000

theorem infoIn : (Try.prog.info? 3).map (fun i => (i.zero, i.size, i.bytes)) = some (some (.int .i64 0), 1, 8) := by kernel_rfl

theorem namedTo_len (l : List Sp) : ∀ k, (namedTo l k).length ≤ k
  | 0 => Nat.le_refl _
  | k + 1 => by
    have := namedTo_len l k
    simp only [namedTo, List.length_append]
    split <;> simp <;> omega
theorem namedTo_nil : ∀ k, namedTo [] k = []
  | 0 => rfl
  | k + 1 => by
    show namedTo [] k ++ (if 0 < (([] : List Sp).getD k default).lo then [(k : Int)] else []) = []
    rw [namedTo_nil k]
    rfl

def NamedR (n : Nat) (L : List Sp) (w w1 : World) (l i : Value) (wr : World) : Prop :=
  ∃ k : Nat, k ≤ n ∧ i = .int .i64 k ∧ wr.ownsRow w1.heap.size 3 1 l (namedTo L k).length ((namedTo L k).flatMap icell) ∧ Kept w1 wr ∧ Kept w wr

theorem f_Named (h : Hist) (s : Spot) (x y : Int) (w : World) (hh : HistAt h s w) :
    Calls Try.prog 60 #[.agg #[.slice s.aw h.warm.length s.cw, .slice s.ag h.gauges.length s.cg, .slice s.af h.flows.length s.cf], .agg #[.int .i64 x, .int .i64 y]] w fun e w' => ∃ v, e = .returned (.tuple #[v, .int .i64 (leaksE h x y)]) ∧ w'.ownsRow w.heap.size 3 1 (v) (namedL h x y).length ((namedL h x y).flatMap icell) ∧ Kept w w' := by
  obtain ⟨E, hE⟩ : ∃ E, E = leaksE h x y := ⟨_, rfl⟩
  have hEc := leaks_cases h x y
  rw [← hE] at hEc ⊢
  have HE := Lib.hid hE.symm
  by_cases h0 : E = 0
  · have hl0 : (leaksL h x y).length = h.warm.length := by rw [leaks_in (by rw [HE.out]; exact h0), mixL_len]
    have hn12 : h.warm.length ≤ 12 := by
      have : histB h = true := by
        cases hb : histB h
        · have := (leaks_bad (x := x) (y := y) hb).1; rw [HE.out, h0] at this; cases this
        · rfl
      exact (histB_ok this).w2
    subst h0
    have HNL := Lib.hid (show namedL h x y = namedTo (leaksL h x y) h.warm.length from rfl)
    obtain ⟨L, hL⟩ : ∃ L, L = leaksL h x y := ⟨_, rfl⟩
    rw [← hL] at hl0 HNL
    have HL := Lib.hid hL.symm
    obtain ⟨n, hn⟩ : ∃ n, n = h.warm.length := ⟨_, rfl⟩
    rw [← hn] at hl0 hn12 HNL
    clear hE hL hEc hn
    go_enter Try.func60, Try.ntmps60
    go_wp2_with (go_at_call 58; (with_reducible refine (f_Leaks h s x y _ (hh.later (by (exact kpt)))).mono ?_); rw [HE.out]; rintro e w1 ⟨v1, rfl, ho1, hb1⟩; obtain ⟨ad, cp, rfl, hrow, hcp, hcm⟩ := owns_row (enc := Sp.cells) (k := 2) (fun _ => rfl) ho1)
    rw [HL.out] at hrow hcp
    have hlen : (leaksL h x y).length = n := by rw [HL.out]; exact hl0
    rw [hl0] at hcp
    simp only [hlen]
    clear ho1
    have HROW := Lib.hid (fun (W : World) (hW : Kept w1 W) => hrow.later hW (Nat.le_refl _))
    clear hrow
    unfold maxLen at hcm
    refine at_world (S := fun V => Kept w1 V ∧ Kept w V) ⟨by (exact kpt), by (exact kpt)⟩ ?_
    rintro V ⟨hk1, hkw⟩
    go_loopw [8, 22] (fun l i wr => NamedR n L w w1 l i wr) (fun _ i _ => n - (intOf i).toNat)
    case atStart => exact ⟨0, Nat.zero_le _, rfl, owns_nil (α := Int) (enc := icell), hk1, hkw⟩
    case round =>
      clear hk1 hkw
      obtain ⟨k, hk, rfl, hown, hkr, hkw⟩ := hrel
      have hnl := namedTo_len L k
      by_cases hlt : k < n
      · obtain ⟨bb, ob, rfl, hbb, c0, c1⟩ := Sp.row (HROW.out _ hkr) k (by rw [hl0]; exact hlt)
        have HNS := Lib.hid (show namedTo L (k + 1) = namedTo L k ++ (if 0 < (L[k]'(by rw [hl0]; exact hlt)).lo then [(k : Int)] else []) by
          show namedTo L k ++ (if 0 < (L.getD k default).lo then [(k : Int)] else []) = _
          congr 3
          simp [hl0, hlt])
        obtain ⟨z, hz⟩ : ∃ z, z = L[k]'(by rw [hl0]; exact hlt) := ⟨_, rfl⟩
        rw [← hz] at c0 c1 HNS
        clear hz
        by_cases hp : 0 < z.lo
        · have d1 : decide (0 < z.lo) = true := by simp [hp]
          have HN1 := Lib.hid (show namedTo L (k + 1) = namedTo L k ++ [(k : Int)] by rw [HNS.out, if_pos hp])
          go_wp2_with (at_builtin; obtain ⟨i0, hi, hz0, hz1, hz2⟩ := info_parts infoIn; refine wpList_append_own _ rfl _ _ 93 rfl w1.heap.size 3 i0 (.int .i64 0) 1 8 Try.underlying93 hi hz0 hz1 hz2 rfl (by decide) _ _ _ rfl (owns_keep hown (by exact kpt)) ⟨_, 0, none⟩ 1 1 [.int .i64 k] rfl rfl (cell_one_at (by simp) _ _) (fun x hx => by simp at hx; rcases hx with rfl | rfl <;> rfl) (by unfold maxLen; omega) (by omega) (by have := hkr.size; simp; omega) ?_; intro v9 w9 hown9 hgrow9 hnil9; clear hi hz0 hz1 hz2)
          have hw1 := hb1.size
          simp only [World.size_alloc] at hw1
          have hown10 : w9.ownsRow w1.heap.size 3 1 v9 (namedTo L (k + 1)).length ((namedTo L (k + 1)).flatMap icell) := by
            rw [HN1.out, List.length_append, List.flatMap_append]; exact hown9
          have hkz : Kept w1 w9 := Kept.grownB (by exact kpt) (owns_keep hown (by exact kpt)) (Nat.le_refl _) hgrow9
          have hky : Kept w w9 := Kept.grownB (by exact kpt) (owns_keep hown (by exact kpt)) (by omega) hgrow9
          go_roundw
          case rel =>
            first
            | exact ⟨k + 1, by omega, by go_num, hown10, hkz, hky⟩
            | (repeat (apply Exists.intro)
               refine ⟨?_, rfl⟩
               exact ⟨k + 1, by omega, by go_num, hown10, hkz, hky⟩)
          case measure => simp [intOf]; omega
        · have d1 : decide (0 < z.lo) = false := by simp; omega
          have HN1 := Lib.hid (show namedTo L (k + 1) = namedTo L k by rw [HNS.out, if_neg hp, List.append_nil])
          go_wp2
          go_roundw
          case rel => exact ⟨k + 1, by omega, by go_num, by rw [HN1.out]; exact owns_keep hown (by exact kpt), by exact kpt, by exact kpt⟩
          case measure => simp [intOf]; omega
      · obtain rfl : k = n := by omega
        go_wp2
        exact bodyPost_ret (by simp only [results, Try.results60]; simp [go_sem]; rfl) rfl ⟨_, rfl, by rw [HNL.out]; exact owns_base hown (by have := hb1.size; simp at this; omega), hkw⟩
  · have hNL : namedL h x y = [] := by unfold namedL; rw [leaks_out (by rw [HE.out]; exact h0)]; exact namedTo_nil _
    rw [hNL]
    have d1 : (E != 0) = true := by simp [h0]
    have d2 : (E == 0) = false := by simp [h0]
    have HOUT := Lib.hid (show leaksL h x y = [] from leaks_out (by rw [HE.out]; exact h0))
    clear hE h0
    go_enter Try.func60, Try.ntmps60
    go_wp2_with (go_at_call 58; (with_reducible refine (f_Leaks h s x y _ (hh.later (by (exact kpt)))).mono ?_); rw [HE.out]; rintro e w1 ⟨v1, rfl, ho1, hb1⟩; obtain ⟨ad, cp, rfl, hrow, hcp, hcm⟩ := owns_row (enc := Sp.cells) (k := 2) (fun _ => rfl) ho1)
    exact bodyPost_ret (v := .tuple #[.slice none 0 0, .int .i64 E]) (by simp [results, Try.results60, go_sem]) rfl ⟨.slice none 0 0, rfl, owns_nil (α := Int) (enc := icell), by (exact kpt)⟩

theorem r_Named (h : Hist) (s : Spot) (x y : Int) (w : World) (hh : HistAt h s w) :
    Calls Try.prog 61 #[.agg #[.slice s.aw h.warm.length s.cw, .slice s.ag h.gauges.length s.cg, .slice s.af h.flows.length s.cf], .agg #[.int .i64 x, .int .i64 y]] w fun e w' => ∃ v, e = .returned (.tuple #[v, .int .i64 (leaksE h x y)]) ∧ w'.ownsRow w.heap.size 3 1 (v) (namedL h x y).length ((namedL h x y).flatMap icell) ∧ Kept w w' := by
  obtain ⟨E, hE⟩ : ∃ E, E = leaksE h x y := ⟨_, rfl⟩
  have hEc := leaks_cases h x y
  rw [← hE] at hEc ⊢
  have HE := Lib.hid hE.symm
  by_cases h0 : E = 0
  · have hl0 : (leaksL h x y).length = h.warm.length := by rw [leaks_in (by rw [HE.out]; exact h0), mixL_len]
    have hn12 : h.warm.length ≤ 12 := by
      have : histB h = true := by
        cases hb : histB h
        · have := (leaks_bad (x := x) (y := y) hb).1; rw [HE.out, h0] at this; cases this
        · rfl
      exact (histB_ok this).w2
    subst h0
    have HNL := Lib.hid (show namedL h x y = namedTo (leaksL h x y) h.warm.length from rfl)
    obtain ⟨L, hL⟩ : ∃ L, L = leaksL h x y := ⟨_, rfl⟩
    rw [← hL] at hl0 HNL
    have HL := Lib.hid hL.symm
    obtain ⟨n, hn⟩ : ∃ n, n = h.warm.length := ⟨_, rfl⟩
    rw [← hn] at hl0 hn12 HNL
    clear hE hL hEc hn
    go_enter Try.func61, Try.ntmps61
    go_wp2_with (go_at_call 59; (with_reducible refine (r_Leaks h s x y _ (hh.later (by (exact kpt)))).mono ?_); rw [HE.out]; rintro e w1 ⟨v1, rfl, ho1, hb1⟩; obtain ⟨ad, cp, rfl, hrow, hcp, hcm⟩ := owns_row (enc := Sp.cells) (k := 2) (fun _ => rfl) ho1)
    rw [HL.out] at hrow hcp
    have hlen : (leaksL h x y).length = n := by rw [HL.out]; exact hl0
    rw [hl0] at hcp
    simp only [hlen]
    clear ho1
    have HROW := Lib.hid (fun (W : World) (hW : Kept w1 W) => hrow.later hW (Nat.le_refl _))
    clear hrow
    unfold maxLen at hcm
    refine at_world (S := fun V => Kept w1 V ∧ Kept w V) ⟨by (exact kpt), by (exact kpt)⟩ ?_
    rintro V ⟨hk1, hkw⟩
    go_loopw [8, 9] (fun l i wr => NamedR n L w w1 l i wr) (fun _ i _ => n - (intOf i).toNat)
    case atStart => exact ⟨0, Nat.zero_le _, rfl, owns_nil (α := Int) (enc := icell), hk1, hkw⟩
    case round =>
      clear hk1 hkw
      obtain ⟨k, hk, rfl, hown, hkr, hkw⟩ := hrel
      have hnl := namedTo_len L k
      by_cases hlt : k < n
      · obtain ⟨bb, ob, rfl, hbb, c0, c1⟩ := Sp.row (HROW.out _ hkr) k (by rw [hl0]; exact hlt)
        have HNS := Lib.hid (show namedTo L (k + 1) = namedTo L k ++ (if 0 < (L[k]'(by rw [hl0]; exact hlt)).lo then [(k : Int)] else []) by
          show namedTo L k ++ (if 0 < (L.getD k default).lo then [(k : Int)] else []) = _
          congr 3
          simp [hl0, hlt])
        obtain ⟨z, hz⟩ : ∃ z, z = L[k]'(by rw [hl0]; exact hlt) := ⟨_, rfl⟩
        rw [← hz] at c0 c1 HNS
        clear hz
        by_cases hp : 0 < z.lo
        · have d1 : decide (0 < z.lo) = true := by simp [hp]
          have HN1 := Lib.hid (show namedTo L (k + 1) = namedTo L k ++ [(k : Int)] by rw [HNS.out, if_pos hp])
          go_wp2_with (at_builtin; obtain ⟨i0, hi, hz0, hz1, hz2⟩ := info_parts infoIn; refine wpList_append_own _ rfl _ _ 93 rfl w1.heap.size 3 i0 (.int .i64 0) 1 8 Try.underlying93 hi hz0 hz1 hz2 rfl (by decide) _ _ _ rfl (owns_keep hown (by exact kpt)) ⟨_, 0, none⟩ 1 1 [.int .i64 k] rfl rfl (cell_one_at (by simp) _ _) (fun x hx => by simp at hx; rcases hx with rfl | rfl <;> rfl) (by unfold maxLen; omega) (by omega) (by have := hkr.size; simp; omega) ?_; intro v9 w9 hown9 hgrow9 hnil9; clear hi hz0 hz1 hz2)
          have hw1 := hb1.size
          simp only [World.size_alloc] at hw1
          have hown10 : w9.ownsRow w1.heap.size 3 1 v9 (namedTo L (k + 1)).length ((namedTo L (k + 1)).flatMap icell) := by
            rw [HN1.out, List.length_append, List.flatMap_append]; exact hown9
          have hkz : Kept w1 w9 := Kept.grownB (by exact kpt) (owns_keep hown (by exact kpt)) (Nat.le_refl _) hgrow9
          have hky : Kept w w9 := Kept.grownB (by exact kpt) (owns_keep hown (by exact kpt)) (by omega) hgrow9
          go_roundw
          case rel =>
            first
            | exact ⟨k + 1, by omega, by go_num, hown10, hkz, hky⟩
            | (repeat (apply Exists.intro)
               refine ⟨?_, rfl⟩
               exact ⟨k + 1, by omega, by go_num, hown10, hkz, hky⟩)
          case measure => simp [intOf]; omega
        · have d1 : decide (0 < z.lo) = false := by simp; omega
          have HN1 := Lib.hid (show namedTo L (k + 1) = namedTo L k by rw [HNS.out, if_neg hp, List.append_nil])
          go_wp2
          go_roundw
          case rel => exact ⟨k + 1, by omega, by go_num, by rw [HN1.out]; exact owns_keep hown (by exact kpt), by exact kpt, by exact kpt⟩
          case measure => simp [intOf]; omega
      · obtain rfl : k = n := by omega
        go_wp2
        exact bodyPost_ret (by simp only [results, Try.results61]; simp [go_sem]; rfl) rfl ⟨_, rfl, by rw [HNL.out]; exact owns_base hown (by have := hb1.size; simp at this; omega), hkw⟩
  · have hNL : namedL h x y = [] := by unfold namedL; rw [leaks_out (by rw [HE.out]; exact h0)]; exact namedTo_nil _
    rw [hNL]
    have d1 : (E != 0) = true := by simp [h0]
    have d2 : (E == 0) = false := by simp [h0]
    have HOUT := Lib.hid (show leaksL h x y = [] from leaks_out (by rw [HE.out]; exact h0))
    clear hE h0
    go_enter Try.func61, Try.ntmps61
    go_wp2_with (go_at_call 59; (with_reducible refine (r_Leaks h s x y _ (hh.later (by (exact kpt)))).mono ?_); rw [HE.out]; rintro e w1 ⟨v1, rfl, ho1, hb1⟩; obtain ⟨ad, cp, rfl, hrow, hcp, hcm⟩ := owns_row (enc := Sp.cells) (k := 2) (fun _ => rfl) ho1)
    exact bodyPost_ret (v := .tuple #[.slice none 0 0, .int .i64 E]) (by simp [results, Try.results61, go_sem]) rfl ⟨.slice none 0 0, rfl, owns_nil (α := Int) (enc := icell), by (exact kpt)⟩

end Go.Proofs.Ytemafanncejeiaa

/-
  GasLeaks: histories are the same in the program and in the reference: for every input.
-/
namespace Go.Proofs.Ytemafanncejeiaa
open Go.RowKit Bal Bal.Trim Bal.Gas
set_option linter.unusedVariables false
set_option linter.unusedSimpArgs false
set_option maxHeartbeats 4000000
set_option maxRecDepth 100000

theorem law_GasLeaks (h : Hist) (s : Bal.Gas.Spot) (x y gi ci : Int) (w : World) (hh : HistAt h s w) :
    Calls Try.prog 8 #[.agg #[.slice s.aw h.warm.length s.cw, .slice s.ag h.gauges.length s.cg, .slice s.af h.flows.length s.cf], .agg #[.int .i64 x, .int .i64 y], .int .i64 gi, .int .i64 ci] w fun e w' => e = .returned (.bool true) ∧ Kept w w' := by
  cases hg : greatH h
  · have HG := Lib.hid hg
    clear hg
    obtain ⟨aE, hA1⟩ : ∃ n, n = amtE h gi ci := ⟨_, rfl⟩
    obtain ⟨aL, hA2⟩ : ∃ n, n = Bal.Gas.ifOk aE (alLo h gi.toNat ci.toNat) := ⟨_, rfl⟩
    obtain ⟨aH, hA3⟩ : ∃ n, n = Bal.Gas.ifOk aE (alHi h gi.toNat ci.toNat) := ⟨_, rfl⟩
    obtain ⟨lE, hLE⟩ : ∃ n, n = leaksE h x y := ⟨_, rfl⟩
    obtain ⟨L, hLL⟩ : ∃ n, n = leaksL h x y := ⟨_, rfl⟩
    obtain ⟨N, hNL⟩ : ∃ n, n = namedL h x y := ⟨_, rfl⟩
    obtain ⟨c1, hC1⟩ : ∃ n, n = cfC h := ⟨_, rfl⟩
    obtain ⟨c2, hC2⟩ : ∃ n, n = cfF h := ⟨_, rfl⟩
    obtain ⟨c3, hC3⟩ : ∃ n, n = cfT h := ⟨_, rfl⟩
    obtain ⟨c4, hC4⟩ : ∃ n, n = confE h := ⟨_, rfl⟩
    have A1 := Lib.hid hA1.symm
    have A2 := Lib.hid hA2.symm
    have A3 := Lib.hid hA3.symm
    have LE := Lib.hid hLE.symm
    have LL := Lib.hid hLL.symm
    have NL := Lib.hid hNL.symm
    have C1 := Lib.hid hC1.symm
    have C2 := Lib.hid hC2.symm
    have C3 := Lib.hid hC3.symm
    have C4 := Lib.hid hC4.symm
    clear hA1 hA2 hA3 hLE hLL hNL hC1 hC2 hC3 hC4
    go_enter Try.func8, Try.ntmps8
    go_upto_region 11 with (first | (go_at_call 55; (with_reducible refine (r_GreatH h s _ (hh.later (by (exact kpt)))).mono ?_); rw [HG.out]; rintro e w0 ⟨rfl, hb0⟩; refine Blk.thru (b := w.heap.size) (arr := ?_) (t := ?_) ?_ hb0 ?_; rotate_left 2; (focus (exact blk)); intro qa0; have qa0c0 := qa0.cell 0; have qa0f0 := qa0.free 0; have qa0c1 := qa0.cell 1; have qa0f1 := qa0.free 1; have qa0c2 := qa0.cell 2; have qa0f2 := qa0.free 2; have qa0l := qa0.lt; simp at qa0c0 qa0c1 qa0c2; refine Blk.thru (b := w.heap.size + 1) (arr := ?_) (t := ?_) ?_ hb0 ?_; rotate_left 2; (focus (exact blk)); intro qb0; have qb0c0 := qb0.cell 0; have qb0f0 := qb0.free 0; have qb0c1 := qb0.cell 1; have qb0f1 := qb0.free 1; have qb0l := qb0.lt; simp at qb0c0 qb0c1) | (go_at_call 56; (with_reducible refine (f_Amounts h s _ (hh.later (by (exact kpt))) gi ci).mono ?_); rw [A1.out, A2.out, A3.out]; rintro e wAf ⟨rfl, hbAf⟩; refine Blk.thru (b := w.heap.size) (arr := ?_) (t := ?_) ?_ hbAf ?_; rotate_left 2; (focus (exact blk)); intro qaAf; have qaAfc0 := qaAf.cell 0; have qaAff0 := qaAf.free 0; have qaAfc1 := qaAf.cell 1; have qaAff1 := qaAf.free 1; have qaAfc2 := qaAf.cell 2; have qaAff2 := qaAf.free 2; have qaAfl := qaAf.lt; simp at qaAfc0 qaAfc1 qaAfc2; refine Blk.thru (b := w.heap.size + 1) (arr := ?_) (t := ?_) ?_ hbAf ?_; rotate_left 2; (focus (exact blk)); intro qbAf; have qbAfc0 := qbAf.cell 0; have qbAff0 := qbAf.free 0; have qbAfc1 := qbAf.cell 1; have qbAff1 := qbAf.free 1; have qbAfl := qbAf.lt; simp at qbAfc0 qbAfc1) | (go_at_call 57; (with_reducible refine (r_Amounts h s _ (hh.later (by (exact kpt))) gi ci).mono ?_); rw [A1.out, A2.out, A3.out]; rintro e wAr ⟨rfl, hbAr⟩; refine Blk.thru (b := w.heap.size) (arr := ?_) (t := ?_) ?_ hbAr ?_; rotate_left 2; (focus (exact blk)); intro qaAr; have qaArc0 := qaAr.cell 0; have qaArf0 := qaAr.free 0; have qaArc1 := qaAr.cell 1; have qaArf1 := qaAr.free 1; have qaArc2 := qaAr.cell 2; have qaArf2 := qaAr.free 2; have qaArl := qaAr.lt; simp at qaArc0 qaArc1 qaArc2; refine Blk.thru (b := w.heap.size + 1) (arr := ?_) (t := ?_) ?_ hbAr ?_; rotate_left 2; (focus (exact blk)); intro qbAr; have qbArc0 := qbAr.cell 0; have qbArf0 := qbAr.free 0; have qbArc1 := qbAr.cell 1; have qbArf1 := qbAr.free 1; have qbArl := qbAr.lt; simp at qbArc0 qbArc1) | (go_at_call 58; (with_reducible refine (f_Leaks h s x y _ (hh.later (by (exact kpt)))).mono ?_); rw [LE.out, LL.out]; rintro e wLf ⟨vLf, rfl, hoLf, hbLf⟩; obtain ⟨adLf, cpLf, rfl, hrLf, hcLf, hmLf⟩ := owns_row (enc := Sp.cells) (k := 2) (fun _ => rfl) hoLf; clear hoLf; refine Blk.thru (b := w.heap.size) (arr := ?_) (t := ?_) ?_ hbLf ?_; rotate_left 2; (focus (exact blk)); intro qaLf; have qaLfc0 := qaLf.cell 0; have qaLff0 := qaLf.free 0; have qaLfc1 := qaLf.cell 1; have qaLff1 := qaLf.free 1; have qaLfc2 := qaLf.cell 2; have qaLff2 := qaLf.free 2; have qaLfl := qaLf.lt; simp at qaLfc0 qaLfc1 qaLfc2; refine Blk.thru (b := w.heap.size + 1) (arr := ?_) (t := ?_) ?_ hbLf ?_; rotate_left 2; (focus (exact blk)); intro qbLf; have qbLfc0 := qbLf.cell 0; have qbLff0 := qbLf.free 0; have qbLfc1 := qbLf.cell 1; have qbLff1 := qbLf.free 1; have qbLfl := qbLf.lt; simp at qbLfc0 qbLfc1) | (go_at_call 59; (with_reducible refine (r_Leaks h s x y _ (hh.later (by (exact kpt)))).mono ?_); rw [LE.out, LL.out]; rintro e wLr ⟨vLr, rfl, hoLr, hbLr⟩; obtain ⟨adLr, cpLr, rfl, hrLr, hcLr, hmLr⟩ := owns_row (enc := Sp.cells) (k := 2) (fun _ => rfl) hoLr; clear hoLr; refine Blk.thru (b := w.heap.size) (arr := ?_) (t := ?_) ?_ hbLr ?_; rotate_left 2; (focus (exact blk)); intro qaLr; have qaLrc0 := qaLr.cell 0; have qaLrf0 := qaLr.free 0; have qaLrc1 := qaLr.cell 1; have qaLrf1 := qaLr.free 1; have qaLrc2 := qaLr.cell 2; have qaLrf2 := qaLr.free 2; have qaLrl := qaLr.lt; simp at qaLrc0 qaLrc1 qaLrc2; refine Blk.thru (b := w.heap.size + 1) (arr := ?_) (t := ?_) ?_ hbLr ?_; rotate_left 2; (focus (exact blk)); intro qbLr; have qbLrc0 := qbLr.cell 0; have qbLrf0 := qbLr.free 0; have qbLrc1 := qbLr.cell 1; have qbLrf1 := qbLr.free 1; have qbLrl := qbLr.lt; simp at qbLrc0 qbLrc1) | (go_at_call 60; (with_reducible refine (f_Named h s x y _ (hh.later (by (exact kpt)))).mono ?_); rw [LE.out, NL.out]; rintro e wNf ⟨vNf, rfl, hoNf, hbNf⟩; obtain ⟨adNf, cpNf, rfl, hrNf, hcNf, hmNf⟩ := owns_row (enc := icell) (k := 1) (fun _ => rfl) hoNf; clear hoNf; refine Blk.thru (b := w.heap.size) (arr := ?_) (t := ?_) ?_ hbNf ?_; rotate_left 2; (focus (exact blk)); intro qaNf; have qaNfc0 := qaNf.cell 0; have qaNff0 := qaNf.free 0; have qaNfc1 := qaNf.cell 1; have qaNff1 := qaNf.free 1; have qaNfc2 := qaNf.cell 2; have qaNff2 := qaNf.free 2; have qaNfl := qaNf.lt; simp at qaNfc0 qaNfc1 qaNfc2; refine Blk.thru (b := w.heap.size + 1) (arr := ?_) (t := ?_) ?_ hbNf ?_; rotate_left 2; (focus (exact blk)); intro qbNf; have qbNfc0 := qbNf.cell 0; have qbNff0 := qbNf.free 0; have qbNfc1 := qbNf.cell 1; have qbNff1 := qbNf.free 1; have qbNfl := qbNf.lt; simp at qbNfc0 qbNfc1) | (go_at_call 61; (with_reducible refine (r_Named h s x y _ (hh.later (by (exact kpt)))).mono ?_); rw [LE.out, NL.out]; rintro e wNr ⟨vNr, rfl, hoNr, hbNr⟩; obtain ⟨adNr, cpNr, rfl, hrNr, hcNr, hmNr⟩ := owns_row (enc := icell) (k := 1) (fun _ => rfl) hoNr; clear hoNr; refine Blk.thru (b := w.heap.size) (arr := ?_) (t := ?_) ?_ hbNr ?_; rotate_left 2; (focus (exact blk)); intro qaNr; have qaNrc0 := qaNr.cell 0; have qaNrf0 := qaNr.free 0; have qaNrc1 := qaNr.cell 1; have qaNrf1 := qaNr.free 1; have qaNrc2 := qaNr.cell 2; have qaNrf2 := qaNr.free 2; have qaNrl := qaNr.lt; simp at qaNrc0 qaNrc1 qaNrc2; refine Blk.thru (b := w.heap.size + 1) (arr := ?_) (t := ?_) ?_ hbNr ?_; rotate_left 2; (focus (exact blk)); intro qbNr; have qbNrc0 := qbNr.cell 0; have qbNrf0 := qbNr.free 0; have qbNrc1 := qbNr.cell 1; have qbNrf1 := qbNr.free 1; have qbNrl := qbNr.lt; simp at qbNrc0 qbNrc1) | (go_at_call 62; (with_reducible refine (f_Conflict h s _ (hh.later (by (exact kpt)))).mono ?_); rw [C1.out, C2.out, C3.out, C4.out]; rintro e wCf ⟨rfl, hbCf⟩; refine Blk.thru (b := w.heap.size) (arr := ?_) (t := ?_) ?_ hbCf ?_; rotate_left 2; (focus (exact blk)); intro qaCf; have qaCfc0 := qaCf.cell 0; have qaCff0 := qaCf.free 0; have qaCfc1 := qaCf.cell 1; have qaCff1 := qaCf.free 1; have qaCfc2 := qaCf.cell 2; have qaCff2 := qaCf.free 2; have qaCfl := qaCf.lt; simp at qaCfc0 qaCfc1 qaCfc2; refine Blk.thru (b := w.heap.size + 1) (arr := ?_) (t := ?_) ?_ hbCf ?_; rotate_left 2; (focus (exact blk)); intro qbCf; have qbCfc0 := qbCf.cell 0; have qbCff0 := qbCf.free 0; have qbCfc1 := qbCf.cell 1; have qbCff1 := qbCf.free 1; have qbCfl := qbCf.lt; simp at qbCfc0 qbCfc1) | (go_at_call 63; (with_reducible refine (r_Conflict h s _ (hh.later (by (exact kpt)))).mono ?_); rw [C1.out, C2.out, C3.out, C4.out]; rintro e wCr ⟨rfl, hbCr⟩; refine Blk.thru (b := w.heap.size) (arr := ?_) (t := ?_) ?_ hbCr ?_; rotate_left 2; (focus (exact blk)); intro qaCr; have qaCrc0 := qaCr.cell 0; have qaCrf0 := qaCr.free 0; have qaCrc1 := qaCr.cell 1; have qaCrf1 := qaCr.free 1; have qaCrc2 := qaCr.cell 2; have qaCrf2 := qaCr.free 2; have qaCrl := qaCr.lt; simp at qaCrc0 qaCrc1 qaCrc2; refine Blk.thru (b := w.heap.size + 1) (arr := ?_) (t := ?_) ?_ hbCr ?_; rotate_left 2; (focus (exact blk)); intro qbCr; have qbCrc0 := qbCr.cell 0; have qbCrf0 := qbCr.free 0; have qbCrc1 := qbCr.cell 1; have qbCrf1 := qbCr.free 1; have qbCrl := qbCr.lt; simp at qbCrc0 qbCrc1))
    refine at_world (S := fun W => Blk W (w.heap.size) #[.slice s.aw h.warm.length s.cw, .slice s.ag h.gauges.length s.cg, .slice s.af h.flows.length s.cf] 85 ∧ Blk W (wAf.heap.size) #[.int .i64 aL, .int .i64 aH] 23 ∧ Blk W (wAr.heap.size) #[.int .i64 aL, .int .i64 aH] 23 ∧ Blk W (wCf.heap.size) #[.int .i64 c1, .int .i64 c2, .int .i64 c3] 99 ∧ Blk W (wCr.heap.size) #[.int .i64 c1, .int .i64 c2, .int .i64 c3] 99 ∧ Row Sp.cells 2 W.heap.size W adLf L ∧ Row Sp.cells 2 W.heap.size W adLr L ∧ Row icell 1 W.heap.size W adNf N ∧ Row icell 1 W.heap.size W adNr N ∧ Kept w W) ⟨by (exact blkc), by (exact blkc), by (exact blkc), by (exact blkc), by (exact blkc), hrLf.later (by (exact kpt)) (Nat.le_refl _), hrLr.later (by (exact kpt)) (Nat.le_refl _), hrNf.later (by (exact kpt)) (Nat.le_refl _), hrNr.later (by (exact kpt)) (Nat.le_refl _), by (exact kpt)⟩ ?_
    rintro W ⟨r0, r1, r2, r3, r4, kLf, kLr, kNf, kNr, hk⟩
    have r0c0 := fun g : Later W => (r0.later g).cell 0
    have r0f0 := fun g : Later W => (r0.later g).free 0
    have r0c1 := fun g : Later W => (r0.later g).cell 1
    have r0f1 := fun g : Later W => (r0.later g).free 1
    have r0c2 := fun g : Later W => (r0.later g).cell 2
    have r0f2 := fun g : Later W => (r0.later g).free 2
    have r0l := fun g : Later W => (r0.later g).lt
    simp at r0c0 r0c1 r0c2
    have r1c0 := fun g : Later W => (r1.later g).cell 0
    have r1f0 := fun g : Later W => (r1.later g).free 0
    have r1c1 := fun g : Later W => (r1.later g).cell 1
    have r1f1 := fun g : Later W => (r1.later g).free 1
    have r1l := fun g : Later W => (r1.later g).lt
    simp at r1c0 r1c1
    have r2c0 := fun g : Later W => (r2.later g).cell 0
    have r2f0 := fun g : Later W => (r2.later g).free 0
    have r2c1 := fun g : Later W => (r2.later g).cell 1
    have r2f1 := fun g : Later W => (r2.later g).free 1
    have r2l := fun g : Later W => (r2.later g).lt
    simp at r2c0 r2c1
    have r3c0 := fun g : Later W => (r3.later g).cell 0
    have r3f0 := fun g : Later W => (r3.later g).free 0
    have r3c1 := fun g : Later W => (r3.later g).cell 1
    have r3f1 := fun g : Later W => (r3.later g).free 1
    have r3c2 := fun g : Later W => (r3.later g).cell 2
    have r3f2 := fun g : Later W => (r3.later g).free 2
    have r3l := fun g : Later W => (r3.later g).lt
    simp at r3c0 r3c1 r3c2
    have r4c0 := fun g : Later W => (r4.later g).cell 0
    have r4f0 := fun g : Later W => (r4.later g).free 0
    have r4c1 := fun g : Later W => (r4.later g).cell 1
    have r4f1 := fun g : Later W => (r4.later g).free 1
    have r4c2 := fun g : Later W => (r4.later g).cell 2
    have r4f2 := fun g : Later W => (r4.later g).free 2
    have r4l := fun g : Later W => (r4.later g).lt
    simp at r4c0 r4c1 r4c2
    have KS : ∀ V, Kept W V → Calls Try.prog 66 #[.slice adLf L.length cpLf, .slice adLr L.length cpLr] V fun e w' => e = .returned (.bool true) ∧ Kept V w' := fun V hV => r_SameSpans adLf adLr cpLf cpLr L V (kLf.later hV (Nat.le_refl _)) (kLr.later hV (Nat.le_refl _)) hcLf hcLr hmLf hmLr
    have KI : ∀ V, Kept W V → Calls Try.prog 67 #[.slice adNf N.length cpNf, .slice adNr N.length cpNr] V fun e w' => e = .returned (.bool true) ∧ Kept V w' := fun V hV => r_SameInts adNf adNr cpNf cpNr N V (kNf.later hV (Nat.le_refl _)) (kNr.later hV (Nat.le_refl _)) hcNf hcNr hmNf hmNr
    refine Later.region (by kernel_rfl) (by kernel_rfl) ?_
    repeat (first | go_big_quiet_skip | (go_big_quiet_want; go_big_quiet_op; first | go_big_quiet_on | (apply Exists.intro; refine ⟨fun g_ => ?_, ?_⟩; (focus (first | (go_at_call 64; with_reducible exact Later.call (f_CheckHistory h s _ (hh.later (Kept.drop hk g_.ok)))) | (go_at_call 65; with_reducible exact Later.call (r_CheckHistory h s _ (hh.later (Kept.drop hk g_.ok)))) | (go_at_call 66; with_reducible exact Later.call (KS _ g_.ok)) | (go_at_call 67; with_reducible exact Later.call (KI _ g_.ok)))); go_big_quiet_on)))
    refine wpQuiet_nil ?_
    intro gg
    have hkg := Kept.drop hk gg.ok
    go_wp2
    go_ret
    exact ⟨rfl, by (exact kpt)⟩
  · have HG := Lib.hid hg
    clear hg
    go_enter Try.func8, Try.ntmps8
    go_wp2_with (go_at_call 55; (with_reducible refine (r_GreatH h s _ (hh.later (by (exact kpt)))).mono ?_); rw [HG.out]; rintro e w0 ⟨rfl, hb0⟩; refine Blk.thru (b := w.heap.size) (arr := ?_) (t := ?_) ?_ hb0 ?_; rotate_left 2; (focus (exact blk)); intro qa0; have qa0c0 := qa0.cell 0; have qa0f0 := qa0.free 0; have qa0c1 := qa0.cell 1; have qa0f1 := qa0.free 1; have qa0c2 := qa0.cell 2; have qa0f2 := qa0.free 2; have qa0l := qa0.lt; simp at qa0c0 qa0c1 qa0c2; refine Blk.thru (b := w.heap.size + 1) (arr := ?_) (t := ?_) ?_ hb0 ?_; rotate_left 2; (focus (exact blk)); intro qb0; have qb0c0 := qb0.cell 0; have qb0f0 := qb0.free 0; have qb0c1 := qb0.cell 1; have qb0f1 := qb0.free 1; have qb0l := qb0.lt; simp at qb0c0 qb0c1)
    go_ret
    exact ⟨rfl, by (exact kpt)⟩
end Go.Proofs.Ytemafanncejeiaa

/-
  An argument that is a struct of numbers, opened. No program in sight.
-/
namespace Bal
open Go Go.RowKit Go.WideShapes
section
variable {H : Type} {enc : TypeId × Value → H} {P : Program} {w : World} {base : Nat} {spare : Nat → Bool} {held : Bool}
theorem open_agg {α : Type} {enc' : α → List Value} {wf : α → Prop} {ls : List Leaf} (hdec : ∀ cs, LeavesOk ls cs → ∃ x : α, cs = enc' x ∧ wf x) {t : TypeId} {fs : Array Field} {n : Nat} {v : Value} {d : DataW H} {ps : List MemPlace} {r : Reach} {b0 : Nat}
    (ht : P.underlying t = some (.struct fs)) (hls : leaves P n t = some ls) (hval : Value.okWide P w r b0 t v) (hd : DataW.Trod enc P w base spare held t v d ps) :
    ∃ x : α, v = .agg (enc' x).toArray ∧ wf x := by
  obtain ⟨cs, rfl, _⟩ := okWide_struct ht hval
  obtain ⟨fuel, hf⟩ := hd
  obtain ⟨x, e, hw⟩ := hdec _ (leaves_ok n _ _ _ _ _ hls hf)
  refine ⟨x, ?_, hw⟩
  rw [← e]
  simp [Value.cells]
end
end Bal

/-
  A history that came in, opened: superheats, gauges with their volumes, flows.
-/
namespace Go.Proofs.Ytemafanncejeiaa
open Go.RowKit Go.ChangeShapes Go.WideShapes Go.ChangeAt Bal Bal.Trim Bal.Gas
set_option linter.unusedVariables false
set_option maxRecDepth 100000
theorem trod_fieldH {H : Type} {enc : TypeId × Value → H} {P : Program} {w : World} {base fuel : Nat} {spare : Nat → Bool} {held : Bool} {fs : Array Field} {cs : List Value} {xs : List (DataW H × List MemPlace)} (hxl : xs.length = fs.size)
    (hg : ∀ (i : Nat) (f : Field), fs[i]? = some f → DataW.trod enc P w base spare held fuel f.type ((cs.drop f.offset).take (P.cellsOf f.type)) = xs[i]?) (i : Nat) (f : Field) (hi : fs[i]? = some f) :
    ∃ x, DataW.trod enc P w base spare held fuel f.type ((cs.drop f.offset).take (P.cellsOf f.type)) = some x := by
  have hlt : i < fs.size := (Array.getElem?_eq_some_iff.1 hi).1
  refine ⟨xs[i]'(by omega), ?_⟩
  rw [hg i f hi]
  exact List.getElem?_eq_getElem (by omega)
/-- a slice whose elements are known by what their reading shows -/
theorem open_rows {H : Type} {enc : TypeId × Value → H} {P : Program} {w : World} {base fuel : Nat} {spare : Nat → Bool} {held : Bool} {t e : TypeId} {cs : List Value} {x : DataW H × List MemPlace} {ok : List Value → Prop} {k : Nat}
    (hok : ∀ q cs x, DataW.trod enc P w base spare held q e cs = some x → ok cs) (hlen : ∀ cs, ok cs → cs.length = k) (ht : P.underlying t = some (.slice e)) (hk : P.cellsOf e = k) (hne : 0 < k)
    (h : DataW.trod enc P w base spare held fuel t cs = some x) :
    ∃ (a : Option Addr) (cap : Nat) (xs : List (List Value)), cs = [.slice a xs.length cap] ∧ xs.length ≤ cap ∧ cap ≤ maxLen ∧ Row id k w.heap.size w a xs ∧ (∀ x ∈ xs, ok x) ∧ (a = none → cap = 0) := by
  rcases Go.Deep.open_slice ht h with ⟨rfl, _⟩ | ⟨a, len, cap, m, q, D, Pl, rfl, hb, hl, hm, hmm, _, hi⟩
  · exact ⟨none, 0, [], rfl, by simp, by simp [maxLen], Row.nil, by simp, fun _ => rfl⟩
  · have hlm : len ≤ m := by subst hmm; split <;> omega
    obtain ⟨f, hf⟩ := Go.Deep.choose_lt (n := len) (p := fun i cs' => w.cells? base (a.add (i * P.cellsOf e)) (P.cellsOf e) = some cs' ∧ DataW.trod enc P w base spare held q e cs' = some (D i, Pl i)) (fun i hil => hi i (by omega))
    have hfl : ∀ i, i < len → (f i).length = k := fun i hil => hlen _ (hok _ _ _ (hf i hil).2)
    refine ⟨some a, cap, (List.range len).map f, by simp, by simpa using hl, hm, ?_, ?_, by simp⟩
    · intro i y hy
      have hil : i < len := by
        have := (List.getElem?_eq_some_iff.1 hy).1
        simpa using this
      simp [hil] at hy
      subst hy
      have hsp : a.spot = none := by
        obtain ⟨hc, ht'⟩ := hf 0 (by omega)
        have hl0 := hfl 0 (by omega)
        obtain ⟨_, hcl, hat⟩ := World.cells?_some hc
        have h1 := hat 0 (by omega)
        have hv : (f 0)[0]? = some ((f 0)[0]'(by omega)) := List.getElem?_eq_getElem (by omega)
        rw [hv] at h1
        have := World.cell?_spot h1
        simpa [Addr.add] using this
      obtain ⟨ab, ao, asp⟩ := a
      simp at hsp
      subst hsp
      obtain ⟨hc, ht'⟩ := hf i hil
      have hli := hfl i hil
      obtain ⟨_, hcl, hat⟩ := World.cells?_some hc
      have hat' : ∀ j, j < k → w.cell? ⟨ab, ao + i * k + j, none⟩ = (f i)[j]? := by
        intro j hj
        have h1 := hat j (by omega)
        rw [Go.Deep.add_add, hk] at h1
        rw [← h1]
        congr 1
        unfold Addr.add
        split
        · rename_i h0
          have h3 : ao + i * k + j = ao := by omega
          rw [h3]
        · simp [Nat.add_assoc]
      refine ⟨ab, ao, rfl, ?_, fun j v hj => ?_⟩
      · have h0 := hat' 0 hne
        have hv : (f i)[0]? = some ((f i)[0]'(by omega)) := List.getElem?_eq_getElem (by omega)
        rw [hv] at h0
        rcases Nat.lt_or_ge ab w.heap.size with h' | h'
        · exact h'
        · simp [World.cell?, Array.getElem?_eq_none h'] at h0
      · have hjl : j < (f i).length := (List.getElem?_eq_some_iff.1 hj).1
        rw [hat' j (by omega)]
        exact hj
    · intro y hy
      simp at hy
      obtain ⟨i, hil, rfl⟩ := hy
      exact hok _ _ _ (hf i hil).2
theorem decodeH {α : Type} {enc : α → List Value} {ok : List Value → Prop} {wf : α → Prop} (hdec : ∀ cs, ok cs → ∃ x : α, cs = enc x ∧ wf x) : ∀ (xs : List (List Value)), (∀ x ∈ xs, ok x) → ∃ ys : List α, xs = ys.map enc ∧ ∀ y ∈ ys, wf y
  | [], _ => ⟨[], rfl, by simp⟩
  | c :: cs, h => by
    obtain ⟨y, rfl, hy⟩ := hdec c (h c (by simp))
    obtain ⟨ys, rfl, hys⟩ := decodeH hdec cs (fun x hx => h x (by simp [hx]))
    exact ⟨y :: ys, rfl, by simpa using ⟨hy, hys⟩⟩
theorem air_leaves {H : Type} {enc : TypeId × Value → H} {w : World} {base fuel : Nat} {spare : Nat → Bool} {held : Bool} {cs : List Value} {x : DataW H × List MemPlace} (h : DataW.trod enc Try.prog w base spare held fuel 27 cs = some x) :
    ∃ a b c d : Int, cs = [.int .i64 a, .int .i64 b, .int .i64 c, .int .i64 d] := by
  obtain ⟨hl, h⟩ := leaves_ok (P := Try.prog) 4 27 [.int .i64, .int .i64, .int .i64, .int .i64] fuel cs x (by kernel_rfl) h
  match cs, hl with
  | [v0, v1, v2, v3], _ =>
    obtain ⟨_, e0, n0, rfl, w0⟩ := h 0 (.int .i64) rfl; simp at e0; subst e0
    obtain ⟨_, e1, n1, rfl, w1⟩ := h 1 (.int .i64) rfl; simp at e1; subst e1
    obtain ⟨_, e2, n2, rfl, w2⟩ := h 2 (.int .i64) rfl; simp at e2; subst e2
    obtain ⟨_, e3, n3, rfl, w3⟩ := h 3 (.int .i64) rfl; simp at e3; subst e3
    exact ⟨n0, n1, n2, n3, rfl⟩
def GaugeOk (w : World) (g : Gauge) : Prop := Row Sp.cells 2 w.heap.size w (gv g) g.vols ∧ g.vols.length ≤ g.vc ∧ g.vc ≤ maxLen
theorem open_gauge {H : Type} {enc : TypeId × Value → H} {w : World} {base fuel : Nat} {spare : Nat → Bool} {held : Bool} {cs : List Value} {x : DataW H × List MemPlace} (h : DataW.trod enc Try.prog w base spare held fuel 124 cs = some x) :
    ∃ g : Gauge, cs = g.cells ∧ GaugeOk w g := by
  obtain ⟨zs, n, _, _, hcl, hxl, hg⟩ := DataW.trod_struct Try.underlying124 h
  have k1 : Try.prog.cellsOf 3 = 1 := by kernel_rfl
  have k2 : Try.prog.cellsOf 81 = 1 := by kernel_rfl
  have k3 : Try.prog.cellsOf 27 = 4 := by kernel_rfl
  have k6 : Try.prog.cellsOf 124 = 6 := by kernel_rfl
  obtain ⟨x0, h0⟩ := trod_fieldH hxl hg 0 _ rfl
  obtain ⟨x1, h1⟩ := trod_fieldH hxl hg 1 _ rfl
  obtain ⟨x2, h2⟩ := trod_fieldH hxl hg 2 _ rfl
  have g0 : DataW.trod enc Try.prog w base spare held n 3 ((cs.drop 0).take (Try.prog.cellsOf 3)) = some x0 := h0
  have g1 : DataW.trod enc Try.prog w base spare held n 27 ((cs.drop 1).take (Try.prog.cellsOf 27)) = some x1 := h1
  have g2 : DataW.trod enc Try.prog w base spare held n 81 ((cs.drop 5).take (Try.prog.cellsOf 81)) = some x2 := h2
  rw [k1] at g0
  rw [k3] at g1
  rw [k2] at g2
  obtain ⟨q0, e0, _, _⟩ := DataW.trod_int Try.underlying3 g0
  obtain ⟨a1, a2, a3, a4, e1⟩ := air_leaves g1
  obtain ⟨a, c, xs, e2, hl2, hm2, row2, _, _⟩ := open_typed (n := 4) (fun _ h => Sp.of_leaves h) Try.underlying81 (by kernel_rfl) (by kernel_rfl) (by decide) g2
  refine ⟨⟨q0, ⟨a1, a2, a3, a4⟩, a.map fun p => (p.block, p.off, p.spot), c, xs⟩, ?_, ?_, hl2, hm2⟩
  · rw [k6] at hcl
    match cs, hcl with
    | [c0, c1, c2, c3, c4, c5], _ =>
      simp at e0 e1 e2
      cases a <;> simp [Gauge.cells, gv, e0, e1, e2]
  · have : gv ⟨q0, ⟨a1, a2, a3, a4⟩, a.map fun p => (p.block, p.off, p.spot), c, xs⟩ = a := by cases a <;> simp [gv]
    rw [this]
    exact row2
theorem open_history {H : Type} {enc : TypeId × Value → H} {w : World} {base : Nat} {spare : Nat → Bool} {held : Bool} {v : Value} {d : DataW H} {ps : List MemPlace} {r : Reach} {b0 : Nat}
    (hval : Value.okWide Try.prog w r b0 85 v) (hd : DataW.Trod enc Try.prog w base spare held 85 v d ps) :
    ∃ (h : Hist) (s : Bal.Gas.Spot), v = .agg (histV s h) ∧ HistAt h s w := by
  obtain ⟨cs, rfl, hsz⟩ := okWide_struct Try.underlying85 hval
  obtain ⟨fuel, hf⟩ := hd
  obtain ⟨zs, n, _, _, hcl, hxl, hg⟩ := DataW.trod_struct Try.underlying85 hf
  have hc3 : Try.prog.cellsOf 85 = 3 := by kernel_rfl
  have k1 : Try.prog.cellsOf 81 = 1 := by kernel_rfl
  have k2 : Try.prog.cellsOf 82 = 1 := by kernel_rfl
  have k3 : Try.prog.cellsOf 83 = 1 := by kernel_rfl
  obtain ⟨x0, h0⟩ := trod_fieldH hxl hg 0 _ rfl
  obtain ⟨x1, h1⟩ := trod_fieldH hxl hg 1 _ rfl
  obtain ⟨x2, h2⟩ := trod_fieldH hxl hg 2 _ rfl
  have g0 : DataW.trod enc Try.prog w base spare held n 81 (((Value.agg cs).cells.toList.drop 0).take (Try.prog.cellsOf 81)) = some x0 := h0
  have g1 : DataW.trod enc Try.prog w base spare held n 82 (((Value.agg cs).cells.toList.drop 1).take (Try.prog.cellsOf 82)) = some x1 := h1
  have g2 : DataW.trod enc Try.prog w base spare held n 83 (((Value.agg cs).cells.toList.drop 2).take (Try.prog.cellsOf 83)) = some x2 := h2
  clear h0 h1 h2
  rw [k1] at g0
  rw [k2] at g1
  rw [k3] at g2
  obtain ⟨aw, cw, ws, e0, wl, wm, wrow, _, _⟩ := open_typed (n := 4) (fun _ h => Sp.of_leaves h) Try.underlying81 (by kernel_rfl) (by kernel_rfl) (by decide) g0
  obtain ⟨ag, cg, gs0, e1, gl, gm, grow, gok, _⟩ := open_rows (ok := fun cs => ∃ g : Gauge, cs = g.cells ∧ GaugeOk w g) (k := 6) (fun q cs x h => open_gauge h) (fun cs ⟨g, hg, _⟩ => by rw [hg]; rfl) Try.underlying82 (by kernel_rfl) (by decide) g1
  obtain ⟨af, cf, fs, e2, fl, fm, frow, _, _⟩ := open_typed (n := 4) (fun _ h => Flow.of_leaves h) Try.underlying83 (by kernel_rfl) (by kernel_rfl) (by decide) g2
  obtain ⟨gs, rfl, gw⟩ := decodeH (wf := GaugeOk w) (fun cs h => h) gs0 gok
  rw [List.length_map] at e1 gl
  refine ⟨⟨ws, gs, fs⟩, ⟨aw, ag, af, cw, cg, cf⟩, ?_, ⟨wrow, grow.of_map, frow, fun g hg => (gw g hg).1, wl, gl, fl, wm, gm, fm, fun g hg => (gw g hg).2⟩⟩
  obtain ⟨l⟩ := cs
  rw [hc3] at hsz
  match l, hsz with
  | [c0, c1, c2], _ =>
    simp [Value.cells] at e0 e1 e2
    simp [histV, e0, e1, e2]
end Go.Proofs.Ytemafanncejeiaa

/-
  The words of a string that is known sign by sign: for the facts on how a program was made. No program in sight.
-/
namespace Bal
open Go
theorem words_cons : ∀ (w r : List Char), w.all (fun c => c != Char.ofNat 32) = true → wordsSigns (w ++ Char.ofNat 32 :: r) = w :: wordsSigns r
  | [], r, _ => by simp [wordsSigns]
  | c :: w, r, h => by
    simp only [List.all_cons, Bool.and_eq_true, bne_iff_ne, ne_eq] at h
    obtain ⟨h1, h2⟩ := h
    have ih := words_cons w r h2
    rw [List.cons_append]
    simp [wordsSigns, ih]
theorem words_last : ∀ (w : List Char), w.all (fun c => c != Char.ofNat 32) = true → wordsSigns w = [w]
  | [], _ => by simp [wordsSigns]
  | c :: w, h => by
    simp only [List.all_cons, Bool.and_eq_true, bne_iff_ne, ne_eq] at h
    obtain ⟨h1, h2⟩ := h
    simp [wordsSigns, words_last w h2]
/-! A program that was cut, behind a harness. (With the program a variable the kernel never unfolds it.) -/
section
variable {P : Program} {w0 w1 : List Char} {r : List (List Char)}
theorem behind_cut (h : wordsSigns P.initOrder.toList = w0 :: w1 :: [Char.ofNat 99, Char.ofNat 117, Char.ofNat 116] :: r) (h0 : w0 = "harness".toList) (h1 : isSumSigns w1 = true) : behindMainWord (wordsSigns P.initOrder.toList) = [Char.ofNat 99, Char.ofNat 117, Char.ofNat 116] :: r := by
  rw [h]
  have e : (w0 == "harness".toList) = true := by rw [h0]; simp
  simp only [behindMainWord, e, h1, Bool.true_or, Bool.and_self, if_true]
theorem make_cut (h : wordsSigns P.initOrder.toList = w0 :: w1 :: [Char.ofNat 99, Char.ofNat 117, Char.ofNat 116] :: r) (h0 : w0 = "harness".toList) (h1 : isSumSigns w1 = true) : P.make = some .cut := by
  unfold Program.make
  rw [behind_cut h h0 h1]
  rfl
theorem lifts_cut (h : wordsSigns P.initOrder.toList = w0 :: w1 :: [Char.ofNat 99, Char.ofNat 117, Char.ofNat 116] :: r) (h0 : w0 = "harness".toList) (h1 : isSumSigns w1 = true) : P.liftsFinal = false := by
  unfold Program.liftsFinal Program.headLifts
  rw [behind_cut h h0 h1]
  rfl
theorem enter_cut (h : wordsSigns P.initOrder.toList = w0 :: w1 :: [Char.ofNat 99, Char.ofNat 117, Char.ofNat 116] :: r) (h0 : w0 = "harness".toList) (h1 : isSumSigns w1 = true) (l : P.laysLater = false) (b : P.bearsReflect = false) (d : P.doorFits [] = true) : P.mayEnter = true := by
  unfold Program.mayEnter
  rw [behind_cut h h0 h1]
  have e : stripLifts liftWords ([Char.ofNat 99, Char.ofNat 117, Char.ofNat 116] :: r) = ([], [Char.ofNat 99, Char.ofNat 117, Char.ofNat 116] :: r) := rfl
  simp only [e, l, b, d]
  rfl
end
end Bal

/-
  How the program was made: its words, and what follows for every row of the seat.
-/
namespace Go.Proofs.Ytemafanncejeiaa
open Bal
set_option maxRecDepth 100000
def initW0 : List Char := List.map Char.ofNat [104, 97, 114, 110, 101, 115, 115]
def initW1 : List Char := List.map Char.ofNat [97, 100, 52, 49, 56, 99, 52, 98, 97, 54, 50, 52, 52, 49, 56, 97, 100, 48, 100, 56, 56, 52, 55, 97, 56, 98, 97, 98, 49, 52, 54, 52, 48, 98, 101, 50, 97, 56, 99, 49, 52, 49, 53, 97, 54, 99, 57, 49, 100, 57, 101, 99, 49, 97, 50, 99, 99, 102, 99, 97, 102, 97, 49, 51]
def initW2 : List Char := List.map Char.ofNat [99, 117, 116]
def initW3 : List Char := List.map Char.ofNat [97, 116]
def initW4 : List Char := List.map Char.ofNat [98, 97, 108, 108, 111, 110, 101, 116, 47, 98, 97, 108, 108, 111, 110, 101, 116, 108, 97, 119, 48, 51, 46, 71, 97, 115, 86, 111, 108, 117, 109, 101, 115]
def initW5 : List Char := List.map Char.ofNat [98, 97, 108, 108, 111, 110, 101, 116, 47, 98, 97, 108, 108, 111, 110, 101, 116, 108, 97, 119, 48, 51, 46, 71, 97, 115, 76, 105, 102, 116, 115]
def initW6 : List Char := List.map Char.ofNat [98, 97, 108, 108, 111, 110, 101, 116, 47, 98, 97, 108, 108, 111, 110, 101, 116, 108, 97, 119, 48, 51, 46, 71, 97, 115, 72, 117, 108, 108, 115]
def initW7 : List Char := List.map Char.ofNat [98, 97, 108, 108, 111, 110, 101, 116, 47, 98, 97, 108, 108, 111, 110, 101, 116, 108, 97, 119, 48, 51, 46, 71, 97, 115, 68, 111, 101, 115]
def initW8 : List Char := List.map Char.ofNat [98, 97, 108, 108, 111, 110, 101, 116, 47, 98, 97, 108, 108, 111, 110, 101, 116, 108, 97, 119, 48, 51, 46, 71, 97, 115, 80, 108, 97, 121, 115]
def initW9 : List Char := List.map Char.ofNat [98, 97, 108, 108, 111, 110, 101, 116, 47, 98, 97, 108, 108, 111, 110, 101, 116, 108, 97, 119, 48, 51, 46, 71, 97, 115, 76, 101, 97, 107, 115]
def initW10 : List Char := List.map Char.ofNat [98, 97, 108, 108, 111, 110, 101, 116, 47, 98, 97, 108, 108, 111, 110, 101, 116, 108, 97, 119, 48, 51, 46, 71, 97, 115, 87, 97, 114, 109, 101, 114]
def initW11 : List Char := List.map Char.ofNat [98, 97, 108, 108, 111, 110, 101, 116, 47, 98, 97, 108, 108, 111, 110, 101, 116, 108, 97, 119, 48, 51, 46, 71, 97, 115, 75, 101, 112, 116]
def initW12 : List Char := List.map Char.ofNat [98, 97, 108, 108, 111, 110, 101, 116, 47, 98, 97, 108, 108, 111, 110, 101, 116, 108, 97, 119, 48, 51, 46, 71, 97, 115, 80, 117, 114, 101]
def initW13 : List Char := List.map Char.ofNat [98, 97, 108, 108, 111, 110, 101, 116, 47, 98, 97, 108, 108, 111, 110, 101, 116, 108, 97, 119, 48, 51, 46, 71, 97, 115, 72, 101, 108, 100]
def initW14 : List Char := List.map Char.ofNat [98, 97, 108, 108, 111, 110, 101, 116, 47, 98, 97, 108, 108, 111, 110, 101, 116, 108, 97, 119, 48, 51, 46, 71, 97, 115, 84, 105, 103, 104, 116]
def initW15 : List Char := List.map Char.ofNat [98, 97, 108, 108, 111, 110, 101, 116, 47, 98, 97, 108, 108, 111, 110, 101, 116, 108, 97, 119, 48, 51, 46, 71, 97, 115, 78, 97, 109, 101, 100]
def initW16 : List Char := List.map Char.ofNat [98, 97, 108, 108, 111, 110, 101, 116, 47, 98, 97, 108, 108, 111, 110, 101, 116, 108, 97, 119, 48, 51, 46, 71, 97, 115, 69, 120, 97, 99, 116]
def initW17 : List Char := List.map Char.ofNat [98, 97, 108, 108, 111, 110, 101, 116, 47, 98, 97, 108, 108, 111, 110, 101, 116, 108, 97, 119, 48, 51, 46, 71, 97, 115, 80, 114, 111, 118, 101, 100]
def initW18 : List Char := List.map Char.ofNat [98, 97, 108, 108, 111, 110, 101, 116, 47, 98, 97, 108, 108, 111, 110, 101, 116, 108, 97, 119, 48, 51, 46, 71, 97, 115, 66, 108, 111, 119, 110]
def initW19 : List Char := List.map Char.ofNat [98, 97, 108, 108, 111, 110, 101, 116, 47, 98, 97, 108, 108, 111, 110, 101, 116, 108, 97, 119, 48, 51, 46, 71, 97, 115, 82, 111, 111, 102]
def initW20 : List Char := List.map Char.ofNat [98, 97, 108, 108, 111, 110, 101, 116, 47, 98, 97, 108, 108, 111, 110, 101, 116, 108, 97, 119, 48, 51, 46, 71, 97, 115, 80, 108, 97, 121, 101, 100]
def initW21 : List Char := List.map Char.ofNat [98, 97, 108, 108, 111, 110, 101, 116, 47, 98, 97, 108, 108, 111, 110, 101, 116, 108, 97, 119, 48, 51, 46, 71, 97, 115, 70, 117, 108, 108]
def initW22 : List Char := List.map Char.ofNat [98, 97, 108, 108, 111, 110, 101, 116, 47, 98, 97, 108, 108, 111, 110, 101, 116, 108, 97, 119, 48, 51, 46, 71, 97, 115, 69, 120, 97, 109, 112, 108, 101, 115]
def initL : List Char := initW0 ++ Char.ofNat 32 :: (initW1 ++ Char.ofNat 32 :: (initW2 ++ Char.ofNat 32 :: (initW3 ++ Char.ofNat 32 :: (initW4 ++ Char.ofNat 32 :: (initW5 ++ Char.ofNat 32 :: (initW6 ++ Char.ofNat 32 :: (initW7 ++ Char.ofNat 32 :: (initW8 ++ Char.ofNat 32 :: (initW9 ++ Char.ofNat 32 :: (initW10 ++ Char.ofNat 32 :: (initW11 ++ Char.ofNat 32 :: (initW12 ++ Char.ofNat 32 :: (initW13 ++ Char.ofNat 32 :: (initW14 ++ Char.ofNat 32 :: (initW15 ++ Char.ofNat 32 :: (initW16 ++ Char.ofNat 32 :: (initW17 ++ Char.ofNat 32 :: (initW18 ++ Char.ofNat 32 :: (initW19 ++ Char.ofNat 32 :: (initW20 ++ Char.ofNat 32 :: (initW21 ++ Char.ofNat 32 :: initW22)))))))))))))))))))))
theorem init_is : Try.prog.initOrder = String.ofList initL := by kernel_rfl
theorem init_words : wordsSigns Try.prog.initOrder.toList = [initW0, initW1, initW2, initW3, initW4, initW5, initW6, initW7, initW8, initW9, initW10, initW11, initW12, initW13, initW14, initW15, initW16, initW17, initW18, initW19, initW20, initW21, initW22] := by
  rw [init_is, String.toList_ofList]
  unfold initL
  rw [words_cons _ _ (by decide), words_cons _ _ (by decide), words_cons _ _ (by decide), words_cons _ _ (by decide), words_cons _ _ (by decide), words_cons _ _ (by decide), words_cons _ _ (by decide), words_cons _ _ (by decide), words_cons _ _ (by decide), words_cons _ _ (by decide), words_cons _ _ (by decide), words_cons _ _ (by decide), words_cons _ _ (by decide), words_cons _ _ (by decide), words_cons _ _ (by decide), words_cons _ _ (by decide), words_cons _ _ (by decide), words_cons _ _ (by decide), words_cons _ _ (by decide), words_cons _ _ (by decide), words_cons _ _ (by decide), words_cons _ _ (by decide), words_last _ (by decide)]
theorem init_cut : wordsSigns Try.prog.initOrder.toList = initW0 :: initW1 :: [Char.ofNat 99, Char.ofNat 117, Char.ofNat 116] :: [initW3, initW4, initW5, initW6, initW7, initW8, initW9, initW10, initW11, initW12, initW13, initW14, initW15, initW16, initW17, initW18, initW19, initW20, initW21, initW22] := init_words
theorem init_sum : isSumSigns initW1 = true := by decide
theorem make_is : Try.prog.make = some .cut := make_cut init_cut rfl init_sum
theorem liftsFinal_is : Try.prog.liftsFinal = false := lifts_cut init_cut rfl init_sum
theorem mayEnter_is : Try.prog.mayEnter = true := enter_cut init_cut rfl init_sum (by kernel_rfl) (by kernel_rfl) (by kernel_rfl)
end Go.Proofs.Ytemafanncejeiaa

/-
  GasLeaks, the statement: for every input the call returns true and leaves the input alone.
-/
namespace Go.Proofs.Ytemafanncejeiaa.gasLeaks
open Go.ChangeShapes Go.WideShapes Go.ChangeAt Go.RowKit Bal Bal.Trim Bal.Gas
open Go.ChangeMaps (open_string shut_string)
set_option linter.unusedVariables false

theorem own : ownKnob Try.prog.godebug = none := by kernel_rfl
theorem laidOut : laidOutB Try.prog = true := by kernel_rfl

set_option maxRecDepth 100000 in
theorem lifted (os : Os) (started : os.Started) (H : Type) (enc : TypeId × Value → H) :
    ReturnsInHanded {} Try.checked os 8 .any (Rows.gasLeaksSpec.pre6 enc Try.prog Try.f8 Rows.gasLeaksRow.domain false) (Rows.gasLeaksSpec.post enc Try.prog Try.f8 false true false false) := by
  refine returnsInHanded_of_change (C := Try.checked) own started (by kernel_rfl) Try.func8
    (ChangeSpec.witness6 (enc := enc) (C := Try.checked) false ⟨#[], #[.agg #[.slice none 0 0, .slice none 0 0, .slice none 0 0], .agg #[.int .i64 0, .int .i64 0], .int .i64 0, .int .i64 0], []⟩ 8 (by kernel_rfl) (by kernel_rfl) (by kernel_rfl) (by kernel_rfl)) ?_
  intro W base args ds gs before hval0 hW hcnd _
  have hval : ∀ (j : Nat) t v, Try.f8.params[j]? = some t → args[j]? = some v → Value.okWide Try.prog W .any base t v := hval0
  have hW' := hW
  obtain ⟨p, q, hA0, hV, rfl, hfz, hnd⟩ := hW
  have hA : DataW.TrodAll enc Try.prog W 0 (fun _ => true) true Try.f8.params.toList args.toList ds p := hA0
  rw [Try.params8] at hA hval
  obtain ⟨v0, vs0, d0, ds0, p0, q0, hargs, rfl, rfl, h0, r0⟩ := trodAll_cons hA
  obtain ⟨v1, vs1, d1, ds1, p1, q1, rfl, rfl, rfl, h1, r1⟩ := trodAll_cons r0
  obtain ⟨v2, vs2, d2, ds2, p2, q2, rfl, rfl, rfl, h2, r2⟩ := trodAll_cons r1
  obtain ⟨v3, vs3, d3, ds3, p3, q3, rfl, rfl, rfl, h3, r3⟩ := trodAll_cons r2
  obtain ⟨rfl, rfl, rfl⟩ := trodAll_nil r3
  obtain rfl : args = #[v0, v1, v2, v3] := by cases args; simp_all
  obtain ⟨rfl, rfl⟩ := trodVars_none hV
  have k0 := h0
  have lt0 : ∀ x ∈ p0, x.block < W.heap.size := by obtain ⟨m, hm⟩ := k0; exact DataW.trod_lt m _ _ _ hm
  obtain ⟨hs0, sp0, rfl, ha0⟩ := open_history (hval 0 85 v0 rfl rfl) h0
  have k1 := h1
  have lt1 : ∀ x ∈ p1, x.block < W.heap.size := by obtain ⟨m, hm⟩ := k1; exact DataW.trod_lt m _ _ _ hm
  obtain ⟨a1, rfl, wf1⟩ := open_agg (n := 5) (fun _ h => Sp.of_leaves h) Try.underlying23 (by kernel_rfl) (hval 1 23 v1 rfl rfl) h1
  obtain ⟨a2, rfl, rfl, rfl, w2⟩ := open_int Try.underlying3 (hval 2 3 v2 rfl rfl) h2
  obtain ⟨a3, rfl, rfl, rfl, w3⟩ := open_int Try.underlying3 (hval 3 3 v3 rfl rfl) h3
  clear hA0 hval0
  refine (law_GasLeaks hs0 sp0 a1.lo a1.hi a2 a3 W ha0).mono fun e W' ⟨he, bel⟩ => ?_
  subst he
  exact ⟨_, rfl, _, _, _, [], _, [], hW', trodAll_mk1 (shut_bool Try.underlying4 _), (trodAll_cons_mk (Below.trod laidOut (by kernel_rfl) (of_decide_eq_true (by kernel_rfl)) k0 bel lt0) (trodAll_cons_mk (Below.trod laidOut (by kernel_rfl) (of_decide_eq_true (by kernel_rfl)) k1 bel lt1) (trodAll_cons_mk (shut_int Try.underlying3 w2) (trodAll_cons_mk (shut_int Try.underlying3 w3) trodAll_mk0)))), rfl, bel.frame _, fun h => by cases h⟩

theorem joined : joinedFacts Try.prog 8 Try.f8 Rows.gasLeaksSpec Rows.gasLeaksRow = true := by
  unfold joinedFacts
  rw [mayEnter_is, liftsFinal_is, make_is]
  kernel_rfl
theorem over : Rows.gasLeaksRow.holds Try.pinned (OpenSpec.ofChange Rows.gasLeaksSpec) :=
  OpenClaim.holds_of_wide 8 Try.f8 rfl rfl rfl rfl rfl rfl rfl ⟨rfl, rfl, rfl, rfl, rfl⟩ rfl rfl rfl rfl rfl (by kernel_rfl) Try.func8 joined
    (of_decide_eq_true (by kernel_rfl)) (by unfold Func.isWrapper; first | (rw [if_pos (by decide +kernel)]; kernel_rfl) | (rw [if_neg (by decide +kernel)]; exact ⟨rfl, rfl⟩))
    (fun os started H enc _ => lifted os started H enc)
end Go.Proofs.Ytemafanncejeiaa.gasLeaks

namespace Go.Proofs.Ytemafanncejeiaa
theorem gasLeaks_holds : Rows.GasLeaksSaid := gasLeaks.over
#print axioms gasLeaks_holds
end Go.Proofs.Ytemafanncejeiaa
