/-
  The contracts of chapter 3 that the statement on gauges leans on:
  f_Do f_VolumeC f_FitsC f_CheckAir f_CheckCell f_Check f_Leaks f_Named r_Check f_Volume_ok f_Fits_ok open_plant open_typed open_rows open_agg wf_u16 wf_u8o wf_i64 wf_u8 mayEnter_is liftsFinal_is make_is
  Row Own owns_put owns_row owns_block owns_cur owns_base owns_lt wpAny_rel wpAny_dp0 tailIn regionIn held_vol span_bd copyO copy wpList_copy wpList_copyO owns_made owns_nil owns_keep owns_grownT owns_shape grownLt grown grownN grownB
  int_of_leaves Deed Cell Air Sp Flow Gauge of_leaves row Mine plantCells later_mix tail region at_world at_worldR at_worldQ blk blkc blkd blk0 kpt kpt0 blkx kptx own thru wpSteps_want wpSteps_any later_dies held_walk
  conf_none conf_some told_bd al_bd tt_mono come_bd come_split clash_told leaks_in leaks_out leaks_free leaks_cases lost_bd all_bd histB_ok histB_true okG_parts sizesB_iff amtE namedL namedTo_mem need_le can_ge plantB_iff cellB_iff airB_iff prod_bd mul_bd div_bd spanIn_iff ceil_bd pull_bd HistAt later
  resA_len kept_cell kept_books doE_cases argB_iff err_arg ticks_booked ticks_at leakK_bd leakK_same tickTo_at allLo_succ allHi_succ cf_none
-/
import Derived.RangeFuncNested
import Derived.RangeFuncBound
import Derived.RangeFuncCalls
import Derived.RangeFuncLeaves
import Derived.Shelf.Abstract
import Derived.Shelf.RegionOpen
import Derived.WalkKit
import Derived.OwnWalkIn
import Derived.TacticsInMore
import Derived.LoopNIn
import Derived.LoopIn
import Derived.WalkSmall
import Derived.OwnWalk
import Derived.Deep.RegionHeld3
import Derived.Deep.DeepCutAuto
import Derived.WideShapes
import Derived.Test.YtnfhcpnpjkefmaaProg
import Derived.JoinedOf
import Derived.WalkSpells
import Derived.WalkLawsBesides
import Derived.Lib.Hide
import Derived.ProofKit
import Derived.OpenShut
import Derived.ChangeOld
import Derived.Below
import Derived.Deep.Slices
import Derived.Deep.Fields
import Derived.Deep.Quiet
import Derived.Laws.AppendOwn
import Derived.Laws.AppendOwnNone
import Derived.StillTail
import Derived.Deep.QuietTactic
import Derived.BigQuiet
import Derived.Deep.RegionWith
import Derived.Deep.DrawnRows
import Derived.OrdersHeld
import Derived.Recover
import Derived.Laws.EntriesVeiled
import Derived.OrdersIn
import Derived.Test.YtnfhcpnpjkefmaaTopGBaseMA
import Derived.Test.YtnfhcpnpjkefmaaTopGBaseMB
import Derived.Test.YtnfhcpnpjkefmaaTopGBaseMC
set_option linter.unusedVariables false
set_option linter.unusedSimpArgs false
/-
  What can have leaked of a cell: the program.
-/
namespace Go.Proofs.Ytnfhcpnpjkefmaa
open Go.RowKit Go.Shelf Bal Bal.Trim Bal.Gas
set_option linter.unusedVariables false
set_option linter.unusedSimpArgs false
set_option maxHeartbeats 4000000
set_option maxRecDepth 100000
attribute [local go_sem] Oper.semAt_some ite_max ite_min toldV

def hiTo (h : Hist) (c k : Nat) : Int := if k = 0 then 0 else if k = h.gauges.length then toldHi h c 0 - toldLo h c (h.gauges.length - 1) else toldHi h c 0
/-- what the loop's cells hold when the gauges pre have come -/
def LostI (h : Hist) (c : Nat) (b2 b3 b4 : Nat) (pre : List (Fin h.gauges.length)) (W : World) : Prop :=
  ∃ nd cn hi : Int, (-1152921504606846976 ≤ nd ∧ nd ≤ 121000000000) ∧ (-1000000000 ≤ cn ∧ cn ≤ 1152921504606846976) ∧ (-(200000000000 * ((pre.length : Int) + 1)) ≤ hi ∧ hi ≤ 200000000000 * ((pre.length : Int) + 1)) ∧
    Blk W b2 #[.int .i64 nd] 3 ∧ Blk W b3 #[.int .i64 cn] 3 ∧ Blk W b4 #[.int .i64 0, .int .i64 hi] 29 ∧
    (Up pre → nd = needTo h c pre.length ∧ cn = canTo h c pre.length ∧ hi = hiTo h c pre.length)
theorem lostI_from (B : Nat) (h : Hist) (c b2 b3 b4 : Nat) : OwnFrom B (LostI h c b2 b3 b4) := by
  rintro pre X Y row ⟨nd, cn, hi, e1, e2, e3, k2, k3, k4, hu⟩ hg hr
  exact ⟨nd, cn, hi, e1, e2, e3, blk_from (β := Unit) B _ _ _ () X Y row k2 hg hr, blk_from (β := Unit) B _ _ _ () X Y row k3 hg hr, blk_from (β := Unit) B _ _ _ () X Y row k4 hg hr, hu⟩
theorem f_lost (h : Hist) (s : Spot) (w : World) (hh : HistAt h s w) (ho : HistOk h) (c : Nat) (hc : c < h.warm.length) :
    Calls Try.prog 40 #[.agg #[.slice s.aw h.warm.length s.cw, .slice s.ag h.gauges.length s.cg, .slice s.af h.flows.length s.cf], .int .i64 c] w fun e w' => e = .returned (.agg #[.int .i64 (lostLo h c), .int .i64 (lostHi h c)]) ∧ Kept w w' := by
  have hg1 := ho.g1
  have hg2 := ho.g2
  have hgc := hh.gc
  have hgm := hh.gm
  unfold maxLen at hgm
  refine (callsIn_wide (n := 6)).1 ?_
  refine callsIn_of_wp_marks Try.func40 rfl trivial ?_ rfl
  simp only [Try.ntmps40, List.size_toArray, List.length_cons, List.length_nil, Nat.reduceAdd, Nat.reduceSub, Array.replicate_succ, Array.replicate_zero, List.push_toArray, List.append_toArray, List.nil_append, List.cons_append]
  gi_wp2_with (refine ⟨trivial, ?_⟩; gi_at_call 71; (refine (callsIn_wide.2 (f_told h s _ _)).mono ?_); rintro e w1 ⟨rfl, rfl⟩)
  refine at_worldR (S := fun V => Blk V w.heap.size #[.slice s.aw h.warm.length s.cw, .slice s.ag h.gauges.length s.cg, .slice s.af h.flows.length s.cf] 52 ∧ Blk V (w.heap.size + 1) #[.int .i64 0, .int .i64 0] 29 ∧ Blk V (w.heap.size + 1 + 1) #[.int .i64 (-1152921504606846976)] 3 ∧ Blk V (w.heap.size + 1 + 1 + 1) #[.int .i64 1152921504606846976] 3 ∧ Blk V (w.heap.size + 1 + 1 + 1 + 1) #[.int .i64 0, .int .i64 0] 29 ∧ Blk V (w.heap.size + 1 + 1 + 1 + 1 + 1) #[.slice s.aw h.warm.length s.cw, .slice s.ag h.gauges.length s.cg, .slice s.af h.flows.length s.cf] 52 ∧ Blk V (w.heap.size + 1 + 1 + 1 + 1 + 1 + 1) #[.int .i64 c] 3 ∧ Kept w V) ⟨by (exact blkc), by (exact blkc), by (exact blkc), by (exact blkc), by (exact blkc), by (exact blkc), by (exact blkc), by (exact kpt)⟩ ?_
  rintro V ⟨k0, k1, k2, k3, k4, k5, k6, hkV⟩
  have hs0 := (Blk.lt k6)
  have HH2 := hh.later hkV
  obtain ⟨n0, hn0⟩ : ∃ n, n = h.gauges.length := ⟨_, rfl⟩
  refine wpIn_rangeFunc_ownH (gf := 84) (lb := #[.pointer (some ⟨w.heap.size + 1 + 1 + 1 + 1 + 1, 0, none⟩), .pointer (some ⟨w.heap.size + 1 + 1 + 1 + 1 + 1 + 1, 0, none⟩)]) rfl (by omega) rfl trivial (enters_of Try.func84 (by kernel_rfl) rfl)
    (f_told1 h s w V hh hkV ho c hc (w.heap.size + 1 + 1 + 1 + 1 + 1) (w.heap.size + 1 + 1 + 1 + 1 + 1 + 1) k5 k6 5 (by omega)) KeptB.trans (KeptB.put hkV.size k5.lt k6.lt) (Below.refl _ _) (fun _ => rfl)
    (fun pre W => LostI h c (w.heap.size + 1 + 1) (w.heap.size + 1 + 1 + 1) (w.heap.size + 1 + 1 + 1 + 1) pre W ∧ Blk W w.heap.size #[.slice s.aw h.warm.length s.cw, .slice s.ag h.gauges.length s.cg, .slice s.af h.flows.length s.cf] 52 ∧ Blk W (w.heap.size + 1) #[.int .i64 0, .int .i64 0] 29 ∧ Kept w W ∧ V.heap.size ≤ W.heap.size)
    (fun _ _ _ => False)
    (OwnFrom.and (lostI_from _ _ _ _ _ _) (OwnFrom.and (blk_from _ _ _ _) (OwnFrom.and (blk_from _ _ _ _) (OwnFrom.and (ownFrom_below (Nat.le_refl _) hkV.size) (fun _ _ _ _ hs hg _ => Nat.le_trans hs hg.size)))))
    (fun _ _ _ _ _ hs _ _ => hs)
    ⟨⟨-1152921504606846976, 1152921504606846976, 0, by omega, by omega, by simp, k2, k3, k4, fun _ => ⟨rfl, rfl, rfl⟩⟩, k0, k1, hkV, Nat.le_refl _⟩
    (fun x a' W => ∃ Bx, V.heap.size ≤ Bx ∧ Blk W Bx #[.int .i64 (toldLo h c x.val), .int .i64 (toldHi h c x.val)] 29 ∧ a' = { tmps := #[.agg #[.slice s.aw h.warm.length s.cw, .slice s.ag h.gauges.length s.cg, .slice s.af h.flows.length s.cf], .int .i64 c, .pointer (some ⟨w.heap.size, 0, none⟩), undef, .pointer (some ⟨w.heap.size + 1, 0, none⟩), .pointer (some ⟨w.heap.size + 1 + 1, 0, none⟩), .pointer (some ⟨w.heap.size + 1 + 1 + 1, 0, none⟩), .pointer (some ⟨w.heap.size + 1 + 1 + 1 + 1, 0, none⟩), .int .i64 x.val, .pointer (some ⟨Bx, 0, none⟩), .agg #[.slice s.aw h.warm.length s.cw, .slice s.ag h.gauges.length s.cg, .slice s.af h.flows.length s.cf], .int .i64 c, .func (.func 84) #[] #[.pointer (some ⟨w.heap.size + 1 + 1 + 1 + 1 + 1, 0, none⟩), .pointer (some ⟨w.heap.size + 1 + 1 + 1 + 1 + 1 + 1, 0, none⟩)], .int .i64 x.val, .agg #[.int .i64 (toldLo h c x.val), .int .i64 (toldHi h c x.val)], undef, undef, undef, undef, undef, undef, undef, undef, undef, undef, undef, undef, undef, undef, undef, undef, undef, undef, undef, undef, undef, undef, undef, undef, undef, undef, undef, undef, undef, undef, undef, undef, undef, undef, undef, undef], defers := [] })
    (fun x a' _ X Y row hs hg hr => by obtain ⟨Bx, e1, e2, e3⟩ := hs; exact ⟨Bx, e1, blk_from (β := Unit) V.heap.size _ _ _ () X Y row e2 hg hr, e3⟩)
    ?assign ?body ?done ?stop
  case assign =>
    rintro l pre x W K ⟨hL, q0, q1, hkw, hsz⟩ hK
    gi_wp2
    have hka : Kept W (W.alloc (.cells #[.int .i64 (toldLo h c x.val), .int .i64 (toldHi h c x.val)] 29)) := Kept.alloc (Below.refl _ _) _
    have z5 := Blk.lt k5
    have z6 := Blk.lt k6
    exact hK _ _ (keepsFrom_kept hka _) (KeptB.of_kept hka hkw.size (by omega) (by omega)) ⟨(lostI_from V.heap.size _ _ _ _ _).alloc _ hL, q0.alloc _, q1.alloc _, Kept.alloc hkw _, by rw [World.size_alloc]; omega⟩ ⟨W.heap.size, hsz, Blk.new, rfl⟩
  case body =>
    rintro l pre x a' W hl _ ⟨⟨nd, cn, hi, e1, e2, e3, q2, q3, q4, hu⟩, q0, q1, hkw, hsz⟩ ⟨Bx, hBx, qx, rfl⟩ hlen
    have bd := told_bd ho x.isLt hc
    obtain ⟨i, hi0⟩ : ∃ i, i = x.val := ⟨_, rfl⟩
    have hil : i < h.gauges.length := by rw [hi0]; exact x.isLt
    rw [← hi0] at bd qx ⊢
    obtain ⟨TL, hTL⟩ : ∃ n, n = toldLo h c i := ⟨_, rfl⟩
    obtain ⟨TH, hTH⟩ : ∃ n, n = toldHi h c i := ⟨_, rfl⟩
    rw [← hTL, ← hTH] at bd qx ⊢
    have HTL := Lib.hid hTL
    have HTH := Lib.hid hTH
    have HU := Lib.hid hu
    have HI0 := Lib.hid hi0
    have z5 := Blk.lt k5
    have z6 := Blk.lt k6
    clear k0 k1 k2 k3 k4 k5 k6 hkV hs0 HH2 hTL hTH hu hi0 hn0 n0
    gi_wp2
    have q2c0 := fun g : Later W => (q2.later g).cell 0
    have q2f0 := fun g : Later W => (q2.later g).free 0
    have q2l := fun g : Later W => (q2.later g).lt
    simp at q2c0
    have q3c0 := fun g : Later W => (q3.later g).cell 0
    have q3f0 := fun g : Later W => (q3.later g).free 0
    have q3l := fun g : Later W => (q3.later g).lt
    simp at q3c0
    have qxc0 := fun g : Later W => (qx.later g).cell 0
    have qxf0 := fun g : Later W => (qx.later g).free 0
    have qxc1 := fun g : Later W => (qx.later g).cell 1
    have qxf1 := fun g : Later W => (qx.later g).free 1
    have qxl := fun g : Later W => (qx.later g).lt
    simp at qxc0 qxc1
    refine wpIn_region_any (by kernel_rfl) (anyIn_of (by kernel_rfl) (fun ⟨_, _, h⟩ => h) _ _ _ _ (wpAny_dp0 (fun L => #[.agg #[.slice s.aw h.warm.length s.cw, .slice s.ag h.gauges.length s.cg, .slice s.af h.flows.length s.cf], .int .i64 c, .pointer (some ⟨w.heap.size, 0, none⟩), undef, .pointer (some ⟨w.heap.size + 1, 0, none⟩), .pointer (some ⟨w.heap.size + 1 + 1, 0, none⟩), .pointer (some ⟨w.heap.size + 1 + 1 + 1, 0, none⟩), .pointer (some ⟨w.heap.size + 1 + 1 + 1 + 1, 0, none⟩), .int .i64 i, .pointer (some ⟨Bx, 0, none⟩), .agg #[.slice s.aw h.warm.length s.cw, .slice s.ag h.gauges.length s.cg, .slice s.af h.flows.length s.cf], .int .i64 c, .func (.func 84) #[] #[.pointer (some ⟨w.heap.size + 1 + 1 + 1 + 1 + 1, 0, none⟩), .pointer (some ⟨w.heap.size + 1 + 1 + 1 + 1 + 1 + 1, 0, none⟩)], .int .i64 i, .agg #[.int .i64 TL, .int .i64 TH], cond (L 0) (.int .i64 nd) undef, cond (L 1) (.pointer (some ⟨Bx, 0, none⟩)) undef, cond (L 2) (.int .i64 TL) undef, cond (L 3) (.int .i64 (max nd TL)) undef, cond (L 4) (.int .i64 cn) undef, cond (L 5) (.pointer (some ⟨Bx, 1, none⟩)) undef, cond (L 6) (.int .i64 TH) undef, cond (L 7) (.int .i64 (min cn TH)) undef, undef, undef, undef, undef, undef, undef, undef, undef, undef, undef, undef, undef, undef, undef, undef, undef, undef, undef, undef, undef, undef, undef, undef, undef, undef, undef, undef, undef]) [] (fun L X => (L 8 = true → L 0 = true) ∧ (L 9 = true → L 4 = true) ∧ Blk X (w.heap.size + 1 + 1) #[.int .i64 (cond (L 8) (max nd TL) nd)] 3 ∧ Blk X (w.heap.size + 1 + 1 + 1) #[.int .i64 (cond (L 9) (min cn TH) cn)] 3 ∧ Blk X (w.heap.size + 1 + 1 + 1 + 1) #[.int .i64 0, .int .i64 hi] 29 ∧ Blk X Bx #[.int .i64 TL, .int .i64 TH] 29 ∧ Blk X w.heap.size #[.slice s.aw h.warm.length s.cw, .slice s.ag h.gauges.length s.cg, .slice s.af h.flows.length s.cf] 52 ∧ Blk X (w.heap.size + 1) #[.int .i64 0, .int .i64 0] 29 ∧ Kept w X ∧ KeptB w.heap.size (w.heap.size + 1 + 1 + 1 + 1 + 1) (w.heap.size + 1 + 1 + 1 + 1 + 1 + 1) W X ∧ KeepsFrom V.heap.size W X ∧ V.heap.size ≤ X.heap.size)
      (by intro i oi hoi; have hlt := (Array.getElem?_eq_some_iff.1 hoi).1; simp only [List.size_toArray, List.length_cons, List.length_nil, Nat.reduceAdd] at hlt; obtain rfl | rfl | rfl | rfl | rfl | rfl | rfl | rfl | rfl | rfl : i = 0 ∨ i = 1 ∨ i = 2 ∨ i = 3 ∨ i = 4 ∨ i = 5 ∨ i = 6 ∨ i = 7 ∨ i = 8 ∨ i = 9 := by omega
          all_goals (simp at hoi; subst hoi; refine ⟨rfl, ?_⟩; simp [Region.binds])) rfl ?_ ?_ ?_))
    · exact ⟨fun h => (by cases h), fun h => (by cases h), q2, q3, q4, qx, q0, q1, Below.drew hkw, KeptB.of_kept (Below.drew (Below.refl _ _)) hkw.size (by omega) (by omega), keepsFrom_kept (Below.drew (Below.refl _ _)) _, hsz⟩
    · intro m oi hoi L X hL hd ⟨hc8, hc9, r2, r3, r4, rx, r0, r1, rk, rb, rf, rz⟩ K hK
      have hlt := (Array.getElem?_eq_some_iff.1 hoi).1
      simp only [List.size_toArray, List.length_cons, List.length_nil, Nat.reduceAdd] at hlt
      have r2c0 := r2.cell 0
      have r2f0 := r2.free 0
      have r2l := r2.lt
      simp at r2c0
      have r3c0 := r3.cell 0
      have r3f0 := r3.free 0
      have r3l := r3.lt
      simp at r3c0
      have rxc0 := rx.cell 0
      have rxf0 := rx.free 0
      have rxc1 := rx.cell 1
      have rxf1 := rx.free 1
      have rxl := rx.lt
      simp at rxc0 rxc1
      obtain rfl | rfl | rfl | rfl | rfl | rfl | rfl | rfl | rfl | rfl : m = 0 ∨ m = 1 ∨ m = 2 ∨ m = 3 ∨ m = 4 ∨ m = 5 ∨ m = 6 ∨ m = 7 ∨ m = 8 ∨ m = 9 := by omega
      all_goals (simp at hoi; subst hoi; simp [Region.binds] at hd)
      · have h8 : L 8 = false := by (cases h : L 8 with | false => rfl | true => (have := hc8 h; rw [hL] at this; cases this))
        simp only [h8, cond_false] at r2c0
        have z := hK _ ⟨fun _ => rfl, hc9, r2, r3, r4, rx, r0, r1, rk, rb, rf, rz⟩
        simp [upL, hd] at z
        go_simp
        simpa using z
      · have z := hK _ ⟨hc8, hc9, r2, r3, r4, rx, r0, r1, rk, rb, rf, rz⟩
        simp [upL, hd] at z
        go_simp
        simpa using z
      · have z := hK _ ⟨hc8, hc9, r2, r3, r4, rx, r0, r1, rk, rb, rf, rz⟩
        simp [upL, hd] at z
        go_simp
        simpa using z
      · have z := hK _ ⟨hc8, hc9, r2, r3, r4, rx, r0, r1, rk, rb, rf, rz⟩
        simp [upL, hd] at z
        go_simp
        simpa using z
      · have h9 : L 9 = false := by (cases h : L 9 with | false => rfl | true => (have := hc9 h; rw [hL] at this; cases this))
        simp only [h9, cond_false] at r3c0
        have z := hK _ ⟨hc8, fun _ => rfl, r2, r3, r4, rx, r0, r1, rk, rb, rf, rz⟩
        simp [upL, hd] at z
        go_simp
        simpa using z
      · have z := hK _ ⟨hc8, hc9, r2, r3, r4, rx, r0, r1, rk, rb, rf, rz⟩
        simp [upL, hd] at z
        go_simp
        simpa using z
      · have z := hK _ ⟨hc8, hc9, r2, r3, r4, rx, r0, r1, rk, rb, rf, rz⟩
        simp [upL, hd] at z
        go_simp
        simpa using z
      · have z := hK _ ⟨hc8, hc9, r2, r3, r4, rx, r0, r1, rk, rb, rf, rz⟩
        simp [upL, hd] at z
        go_simp
        simpa using z
      · have z := hK _ ⟨fun _ => by simp [upL, hd], hc9, Blk.cast (Blk.set r2 0 (.int .i64 (max nd TL))) (by simp [upL]), Blk.other r3 (by first | (simp; done) | (simp; omega)) _, Blk.other r4 (by first | (simp; done) | (simp; omega)) _, Blk.other rx (by simp; omega) _, Blk.other r0 (by first | (simp; done) | (simp; omega)) _, Blk.other r1 (by first | (simp; done) | (simp; omega)) _, by exact kpt, rb.set (by simp; omega) (by first | (simp; done) | (simp; omega)) (by first | (simp; done) | (simp; omega)) _, rf.trans ((KeepsOthers.setCell _ _ _).from _), by simpa using rz⟩
        simp [upL, hd] at z
        go_simp
        simpa using z
      · have z := hK _ ⟨hc8, fun _ => by simp [upL, hd], Blk.other r2 (by first | (simp; done) | (simp; omega)) _, Blk.cast (Blk.set r3 0 (.int .i64 (min cn TH))) (by simp [upL]), Blk.other r4 (by first | (simp; done) | (simp; omega)) _, Blk.other rx (by simp; omega) _, Blk.other r0 (by first | (simp; done) | (simp; omega)) _, Blk.other r1 (by first | (simp; done) | (simp; omega)) _, by exact kpt, rb.set (by simp; omega) (by first | (simp; done) | (simp; omega)) (by first | (simp; done) | (simp; omega)) _, rf.trans ((KeepsOthers.setCell _ _ _).from _), by simpa using rz⟩
        simp [upL, hd] at z
        go_simp
        simpa using z
    · intro L X hall ⟨hc8, hc9, r2, r3, r4, rx, r0, r1, rk, rb, rf, rz⟩
      simp only [List.size_toArray, List.length_cons, List.length_nil, Nat.reduceAdd] at hall
      simp only [hall 0 (by omega), hall 1 (by omega), hall 2 (by omega), hall 3 (by omega), hall 4 (by omega), hall 5 (by omega), hall 6 (by omega), hall 7 (by omega), cond_true]
      simp only [hall 8 (by omega), hall 9 (by omega), cond_true] at r2 r3
      clear hc8 hc9 hall q2 q3 q4 q0 q1 qx hkw q2c0 q2f0 q2l q3c0 q3f0 q3l qxc0 qxf0 qxc1 qxf1 qxl
      have r4c0 := r4.cell 0
      have r4f0 := r4.free 0
      have r4c1 := r4.cell 1
      have r4f1 := r4.free 1
      have r4l := r4.lt
      simp at r4c0 r4c1
      have rxc0 := rx.cell 0
      have rxf0 := rx.free 0
      have rxc1 := rx.cell 1
      have rxf1 := rx.free 1
      have rxl := rx.lt
      simp at rxc0 rxc1
      have r0c0 := r0.cell 0
      have r0f0 := r0.free 0
      have r0c1 := r0.cell 1
      have r0f1 := r0.free 1
      have r0c2 := r0.cell 2
      have r0f2 := r0.free 2
      have r0l := r0.lt
      simp at r0c0 r0c1 r0c2
      by_cases hz : i = 0
      · have e0 : ((i : Int) == 0) = true := by simp [hz]
        by_cases hn : i + 1 = h.gauges.length
        · have e9 : ((i : Int) == (h.gauges.length : Int) - 1) = true := by simp; omega
          have w9 := i64_inH (n := TH - TL) (by omega)
          gi_wp2
          refine ⟨KeepsFrom.trans (KeepsFrom.trans (rf) ((KeepsOthers.setCell _ _ _).from _)) ((KeepsOthers.setCell _ _ _).from _), KeptB.set (KeptB.set (rb) (by simp; omega) (by first | (simp; done) | (simp; omega)) (by first | (simp; done) | (simp; omega)) _) (by simp; omega) (by first | (simp; done) | (simp; omega)) (by first | (simp; done) | (simp; omega)) _, ⟨max nd TL, min cn TH, TH - TL, by omega, by omega, by (rw [List.length_append]; simp; omega), Blk.other (Blk.other (r2) (by first | (simp; done) | (simp; omega)) _) (by first | (simp; done) | (simp; omega)) _, Blk.other (Blk.other (r3) (by first | (simp; done) | (simp; omega)) _) (by first | (simp; done) | (simp; omega)) _, Blk.cast (Blk.set (Blk.set (r4) 1 (.int .i64 TH)) 1 (.int .i64 (TH - TL))) (by simp), fun hu2 => ?_⟩, Blk.other (Blk.other (r0) (by first | (simp; done) | (simp; omega)) _) (by first | (simp; done) | (simp; omega)) _, Blk.other (Blk.other (r1) (by first | (simp; done) | (simp; omega)) _) (by first | (simp; done) | (simp; omega)) _, by exact kpt, by simpa using rz⟩
          obtain ⟨u1, u2⟩ := hu2.init
          obtain ⟨u3, u4, u5⟩ := HU.out u1
          rw [← HI0.out] at u2
          rw [← u2] at u3 u4 u5
          have u6 : (pre ++ [x]).length = i + 1 := by simp [u2]
          rw [u6]
          refine ⟨by rw [u3, HTL.out]; rfl, by rw [u4, HTH.out]; rfl, ?_⟩
          unfold hiTo; rw [if_neg (by omega), if_pos hn]; rw [show h.gauges.length - 1 = i by omega, ← HTL.out]; congr 1
          rw [HTH.out, hz]
        · have e9 : ((i : Int) == (h.gauges.length : Int) - 1) = false := by simp; omega
          gi_wp2
          refine ⟨KeepsFrom.trans (rf) ((KeepsOthers.setCell _ _ _).from _), KeptB.set (rb) (by simp; omega) (by first | (simp; done) | (simp; omega)) (by first | (simp; done) | (simp; omega)) _, ⟨max nd TL, min cn TH, TH, by omega, by omega, by (rw [List.length_append]; simp; omega), Blk.other (r2) (by first | (simp; done) | (simp; omega)) _, Blk.other (r3) (by first | (simp; done) | (simp; omega)) _, Blk.cast (Blk.set (r4) 1 (.int .i64 TH)) (by simp), fun hu2 => ?_⟩, Blk.other (r0) (by first | (simp; done) | (simp; omega)) _, Blk.other (r1) (by first | (simp; done) | (simp; omega)) _, by exact kpt, by simpa using rz⟩
          obtain ⟨u1, u2⟩ := hu2.init
          obtain ⟨u3, u4, u5⟩ := HU.out u1
          rw [← HI0.out] at u2
          rw [← u2] at u3 u4 u5
          have u6 : (pre ++ [x]).length = i + 1 := by simp [u2]
          rw [u6]
          refine ⟨by rw [u3, HTL.out]; rfl, by rw [u4, HTH.out]; rfl, ?_⟩
          unfold hiTo; rw [if_neg (by omega), if_neg hn]
          rw [HTH.out, hz]
      · have e0 : ((i : Int) == 0) = false := by simp [hz]
        by_cases hn : i + 1 = h.gauges.length
        · have e9 : ((i : Int) == (h.gauges.length : Int) - 1) = true := by simp; omega
          have w9 := i64_inH (n := hi - TL) (by omega)
          gi_wp2
          refine ⟨KeepsFrom.trans (rf) ((KeepsOthers.setCell _ _ _).from _), KeptB.set (rb) (by simp; omega) (by first | (simp; done) | (simp; omega)) (by first | (simp; done) | (simp; omega)) _, ⟨max nd TL, min cn TH, hi - TL, by omega, by omega, by (rw [List.length_append]; simp; omega), Blk.other (r2) (by first | (simp; done) | (simp; omega)) _, Blk.other (r3) (by first | (simp; done) | (simp; omega)) _, Blk.cast (Blk.set (r4) 1 (.int .i64 (hi - TL))) (by simp), fun hu2 => ?_⟩, Blk.other (r0) (by first | (simp; done) | (simp; omega)) _, Blk.other (r1) (by first | (simp; done) | (simp; omega)) _, by exact kpt, by simpa using rz⟩
          obtain ⟨u1, u2⟩ := hu2.init
          obtain ⟨u3, u4, u5⟩ := HU.out u1
          rw [← HI0.out] at u2
          rw [← u2] at u3 u4 u5
          have u6 : (pre ++ [x]).length = i + 1 := by simp [u2]
          rw [u6]
          refine ⟨by rw [u3, HTL.out]; rfl, by rw [u4, HTH.out]; rfl, ?_⟩
          unfold hiTo; rw [if_neg (by omega), if_pos hn]; rw [show h.gauges.length - 1 = i by omega, ← HTL.out]; congr 1
          rw [u5]; unfold hiTo; rw [if_neg hz, if_neg (by omega)]
        · have e9 : ((i : Int) == (h.gauges.length : Int) - 1) = false := by simp; omega
          gi_wp2
          refine ⟨rf, rb, ⟨max nd TL, min cn TH, hi, by omega, by omega, by (rw [List.length_append]; simp; omega), r2, r3, Blk.cast (r4) (by simp), fun hu2 => ?_⟩, r0, r1, by exact kpt, by simpa using rz⟩
          obtain ⟨u1, u2⟩ := hu2.init
          obtain ⟨u3, u4, u5⟩ := HU.out u1
          rw [← HI0.out] at u2
          rw [← u2] at u3 u4 u5
          have u6 : (pre ++ [x]).length = i + 1 := by simp [u2]
          rw [u6]
          refine ⟨by rw [u3, HTL.out]; rfl, by rw [u4, HTH.out]; rfl, ?_⟩
          unfold hiTo; rw [if_neg (by omega), if_neg hn]
          rw [u5]; unfold hiTo; rw [if_neg hz, if_neg (by omega)]
  case done =>
    rintro D ys X hD ⟨hup, hlen⟩ ⟨⟨nd, cn, hi, e1, e2, e3, q2, q3, q4, hu⟩, q0, q1, hkw, hsz⟩ hK
    obtain ⟨u3, u4, u5⟩ := hu hup
    rw [hlen] at u3 u4 u5
    have hVs := hkV.size
    have HK := Lib.hid hK
    clear k0 k1 k2 k3 k4 k5 k6 hs0 HH2 hkV hu hK
    by_cases hn1 : h.gauges.length = 1
    · have HL := Lib.hid (show lostLo h c = 0 by unfold lostLo; rw [if_pos hn1])
      have HH := Lib.hid (show lostHi h c = 0 by unfold lostHi; rw [if_pos hn1])
      have e0 : ((h.gauges.length : Int) == 1) = true := by simp; omega
      clear u3 u4 u5
      have q0c0 := q0.cell 0
      have q0f0 := q0.free 0
      have q0c1 := q0.cell 1
      have q0f1 := q0.free 1
      have q0c2 := q0.cell 2
      have q0f2 := q0.free 2
      have q0l := q0.lt
      simp at q0c0 q0c1 q0c2
      have q1c0 := q1.cell 0
      have q1f0 := q1.free 0
      have q1c1 := q1.cell 1
      have q1f1 := q1.free 1
      have q1l := q1.lt
      simp at q1c0 q1c1
      gi_wp2
      refine leaves_marks (B := w.heap.size) (fun W => Blk W (w.heap.size + 1) #[.int .i64 0, .int .i64 0] 29 ∧ Kept w W) (OwnFrom.and (blk_from _ _ _ _) (ownFrom_below (Nat.le_refl _) (Nat.le_refl _))) ?_ [D] _ ⟨by simp, fun E hE => ?_⟩ ⟨Blk.cast (Blk.set (Blk.set q1 0 _) 1 _) (by simp), by exact kpt⟩
      · rintro W5 ⟨k1, hkp⟩
        have k1c0 := k1.cell 0
        have k1f0 := k1.free 0
        have k1c1 := k1.cell 1
        have k1f1 := k1.free 1
        have k1l := k1.lt
        simp at k1c0 k1c1
        exact ⟨.agg #[.int .i64 0, .int .i64 0], by simp [results, Try.results40, go_sem, k1c0, k1c1], by rw [HL.out, HH.out], hkp⟩
      · obtain rfl : E = D := by simpa using hE
        exact ⟨by omega, ((KeepsOthers.setCell _ _ _).trans (KeepsOthers.setCell _ _ _)).same _ _ HK.out rfl⟩
    · have HL := Lib.hid (show lostLo h c = max (nd - cn) 0 by unfold lostLo; rw [if_neg hn1, u3, u4])
      have HH := Lib.hid (show lostHi h c = hi by unfold lostHi; rw [if_neg hn1, u5]; unfold hiTo; rw [if_neg (by omega), if_pos rfl])
      have e0 : ((h.gauges.length : Int) == 1) = false := by simp; omega
      have w1 := i64_inH (n := nd - cn) (by omega)
      clear u3 u4 u5
      have q0c0 := q0.cell 0
      have q0f0 := q0.free 0
      have q0c1 := q0.cell 1
      have q0f1 := q0.free 1
      have q0c2 := q0.cell 2
      have q0f2 := q0.free 2
      have q0l := q0.lt
      simp at q0c0 q0c1 q0c2
      have q1c0 := q1.cell 0
      have q1f0 := q1.free 0
      have q1c1 := q1.cell 1
      have q1f1 := q1.free 1
      have q1l := q1.lt
      simp at q1c0 q1c1
      have q2c0 := q2.cell 0
      have q2f0 := q2.free 0
      have q2l := q2.lt
      simp at q2c0
      have q3c0 := q3.cell 0
      have q3f0 := q3.free 0
      have q3l := q3.lt
      simp at q3c0
      have q4c0 := q4.cell 0
      have q4f0 := q4.free 0
      have q4c1 := q4.cell 1
      have q4f1 := q4.free 1
      have q4l := q4.lt
      simp at q4c0 q4c1
      gi_wp2
      refine leaves_marks (B := w.heap.size) (fun W => Blk W (w.heap.size + 1) #[.int .i64 (max (nd - cn) 0), .int .i64 hi] 29 ∧ Kept w W) (OwnFrom.and (blk_from _ _ _ _) (ownFrom_below (Nat.le_refl _) (Nat.le_refl _))) ?_ [D] _ ⟨by simp, fun E hE => ?_⟩ ⟨Blk.cast (Blk.set (Blk.set (Blk.other q1 (by simp; omega) _) 0 _) 1 _) (by simp), by exact kpt⟩
      · rintro W5 ⟨k1, hkp⟩
        have k1c0 := k1.cell 0
        have k1f0 := k1.free 0
        have k1c1 := k1.cell 1
        have k1f1 := k1.free 1
        have k1l := k1.lt
        simp at k1c0 k1c1
        exact ⟨.agg #[.int .i64 (max (nd - cn) 0), .int .i64 hi], by simp [results, Try.results40, go_sem, k1c0, k1c1], by rw [HL.out, HH.out], hkp⟩
      · obtain rfl : E = D := by simpa using hE
        exact ⟨by omega, (((KeepsOthers.setCell _ _ _).trans (KeepsOthers.setCell _ _ _)).trans (KeepsOthers.setCell _ _ _)).same _ _ HK.out rfl⟩
  case stop =>
    rintro D c pre W _ _ h _
    exact h.elim

end Go.Proofs.Ytnfhcpnpjkefmaa

/-
  The first clash: the program.
-/
namespace Go.Proofs.Ytnfhcpnpjkefmaa
open Go.RowKit Go.Shelf Bal Bal.Trim Bal.Gas
set_option linter.unusedVariables false
set_option linter.unusedSimpArgs false
set_option maxHeartbeats 4000000
set_option maxRecDepth 100000
attribute [local go_sem] Oper.semAt_some toldV

theorem list73 (f : Nat → Value) : ((List.range 73).map f).toArray = #[f 0, f 1, f 2, f 3, f 4, f 5, f 6, f 7, f 8, f 9, f 10, f 11, f 12, f 13, f 14, f 15, f 16, f 17, f 18, f 19, f 20, f 21, f 22, f 23, f 24, f 25, f 26, f 27, f 28, f 29, f 30, f 31, f 32, f 33, f 34, f 35, f 36, f 37, f 38, f 39, f 40, f 41, f 42, f 43, f 44, f 45, f 46, f 47, f 48, f 49, f 50, f 51, f 52, f 53, f 54, f 55, f 56, f 57, f 58, f 59, f 60, f 61, f 62, f 63, f 64, f 65, f 66, f 67, f 68, f 69, f 70, f 71, f 72] := by rfl
theorem conf_act (A : Array Value) {v0 v1 v2 v3 v19 v20 : Value} (hs : A.size = 73) (h0 : A[0]? = some v0) (h1 : A[1]? = some v1) (h2 : A[2]? = some v2) (h3 : A[3]? = some v3) (h19 : A[19]? = some v19) (h20 : A[20]? = some v20) :
    ∃ u : Nat → Value, A = #[v0, v1, v2, v3, u 4, u 5, u 6, u 7, u 8, u 9, u 10, u 11, u 12, u 13, u 14, u 15, u 16, u 17, u 18, v19, v20, u 21, u 22, u 23, u 24, u 25, u 26, u 27, u 28, u 29, u 30, u 31, u 32, u 33, u 34, u 35, u 36, u 37, u 38, u 39, u 40, u 41, u 42, u 43, u 44, u 45, u 46, u 47, u 48, u 49, u 50, u 51, u 52, u 53, u 54, u 55, u 56, u 57, u 58, u 59, u 60, u 61, u 62, u 63, u 64, u 65, u 66, u 67, u 68, u 69, u 70, u 71, u 72] := by
  obtain ⟨f, hf⟩ : ∃ f : Nat → Value, f = fun i => A.getD i undef := ⟨_, rfl⟩
  have key : A = ((List.range 73).map f).toArray := by
    apply Array.ext
    · simp [hs]
    · intro i h1 h2
      simp [hf, Array.getD, h1]
  have g : ∀ (i : Nat) (v : Value), A[i]? = some v → f i = v := by
    intro i v h
    rw [hf]
    simp [Array.getD_eq_getD_getElem?, h]
  refine ⟨f, ?_⟩
  rw [list73] at key
  rw [key, g 0 _ h0, g 1 _ h1, g 2 _ h2, g 3 _ h3, g 19 _ h19, g 20 _ h20]

theorem mark_from {β : Type} {B C : Nat} {Ds : List Nat} {W1 : World} (hM : Marked C Ds W1) (hB : W1.heap.size ≤ B) : OwnFrom B (fun (_ : β) W => Marked C Ds W) := by
  intro _ X Y row hb hg hr
  refine ⟨hb.1, fun D hD => ⟨(hb.2 D hD).1, ?_⟩⟩
  refine (hg.block D (Array.getElem?_eq_some_iff.1 (hb.2 D hD).2).1 (fun e => ?_)).trans (hb.2 D hD).2
  have h1 := (hr D e.symm).1
  have h2 := (Array.getElem?_eq_some_iff.1 (hM.2 D hD).2).1
  omega
def ConfI (h : Hist) (s : Spot) (w : World) (k cb : Nat) (Ds : List Nat) (pre : List (Fin h.gauges.length)) (X : World) : Prop :=
  Blk X w.heap.size #[.slice s.aw h.warm.length s.cw, .slice s.ag h.gauges.length s.cg, .slice s.af h.flows.length s.cf] 52 ∧ Blk X (w.heap.size + 1) #[.int .i64 0, .int .i64 0, .int .i64 0] 100 ∧ Blk X (w.heap.size + 1 + 1) #[.int .i64 0] 36 ∧ Kept w X ∧ Blk X cb #[.int .i64 k] 3 ∧ Marked w.heap.size Ds X ∧ ∀ t ∈ pre, ∀ f : Nat, f ≤ t.val → clashB h k f t.val = false
theorem confI_from {h : Hist} {s : Spot} {w V : World} {k cb B : Nat} {Ds : List Nat} (hM : Marked w.heap.size Ds V) (hB : V.heap.size ≤ B) (hw : w.heap.size ≤ V.heap.size) : OwnFrom B (ConfI h s w k cb Ds) := by
  rintro pre X Y row ⟨e0, e1, e2, e3, e4, e5, e6⟩ hg hr
  exact ⟨blk_from (β := Unit) B _ _ _ () X Y row e0 hg hr, blk_from (β := Unit) B _ _ _ () X Y row e1 hg hr, blk_from (β := Unit) B _ _ _ () X Y row e2 hg hr, ownFrom_below (β := Unit) (Nat.le_refl _) (by omega) () X Y row e3 hg hr, blk_from (β := Unit) B _ _ _ () X Y row e4 hg hr, mark_from (β := Unit) hM hB () X Y row e5 hg hr, e6⟩
theorem ConfI.keep {h : Hist} {s : Spot} {w : World} {k cb : Nat} {Ds : List Nat} {pre : List (Fin h.gauges.length)} {X Y : World} (hI : ConfI h s w k cb Ds pre X) (hk : Kept X Y) : ConfI h s w k cb Ds pre Y :=
  ⟨Blk.keep hI.1 hk, Blk.keep hI.2.1 hk, Blk.keep hI.2.2.1 hk, Kept.drop hI.2.2.2.1 hk, Blk.keep hI.2.2.2.2.1 hk, hI.2.2.2.2.2.1.keep hk (Nat.le_refl _), hI.2.2.2.2.2.2⟩
def ConfI2 (h : Hist) (s : Spot) (w : World) (k cb B6 B7 x : Nat) (LX HX : Int) (Ds : List Nat) (pre : List (Fin h.gauges.length)) (X : World) : Prop :=
  Blk X w.heap.size #[.slice s.aw h.warm.length s.cw, .slice s.ag h.gauges.length s.cg, .slice s.af h.flows.length s.cf] 52 ∧ Blk X (w.heap.size + 1) #[.int .i64 0, .int .i64 0, .int .i64 0] 100 ∧ Blk X (w.heap.size + 1 + 1) #[.int .i64 0] 36 ∧ Kept w X ∧ Blk X cb #[.int .i64 k] 3 ∧ Marked w.heap.size Ds X ∧ Blk X B6 #[.int .i64 x] 3 ∧ Blk X B7 #[.int .i64 LX, .int .i64 HX] 29 ∧ ∀ f ∈ pre, f.val ≤ x → clashB h k f.val x = false
theorem confI2_from {h : Hist} {s : Spot} {w V : World} {k cb B6 B7 x B : Nat} {LX HX : Int} {Ds : List Nat} (hM : Marked w.heap.size Ds V) (hB : V.heap.size ≤ B) (hw : w.heap.size ≤ V.heap.size) : OwnFrom B (ConfI2 h s w k cb B6 B7 x LX HX Ds) := by
  rintro pre X Y row ⟨e0, e1, e2, e3, e4, e5, e6, e7, e8⟩ hg hr
  exact ⟨blk_from (β := Unit) B _ _ _ () X Y row e0 hg hr, blk_from (β := Unit) B _ _ _ () X Y row e1 hg hr, blk_from (β := Unit) B _ _ _ () X Y row e2 hg hr, ownFrom_below (β := Unit) (Nat.le_refl _) (by omega) () X Y row e3 hg hr, blk_from (β := Unit) B _ _ _ () X Y row e4 hg hr, mark_from (β := Unit) hM hB () X Y row e5 hg hr, blk_from (β := Unit) B _ _ _ () X Y row e6 hg hr, blk_from (β := Unit) B _ _ _ () X Y row e7 hg hr, e8⟩
theorem ConfI2.keep {h : Hist} {s : Spot} {w : World} {k cb B6 B7 x : Nat} {LX HX : Int} {Ds : List Nat} {pre : List (Fin h.gauges.length)} {X Y : World} (hI : ConfI2 h s w k cb B6 B7 x LX HX Ds pre X) (hk : Kept X Y) : ConfI2 h s w k cb B6 B7 x LX HX Ds pre Y := by
  obtain ⟨e0, e1, e2, e3, e4, e5, e6, e7, e8⟩ := hI
  exact ⟨Blk.keep e0 hk, Blk.keep e1 hk, Blk.keep e2 hk, Kept.drop e3 hk, Blk.keep e4 hk, e5.keep hk (Nat.le_refl _), Blk.keep e6 hk, Blk.keep e7 hk, e8⟩
/-- the clash is found: its cells -/
def ConfR (w : World) (k f x : Nat) (Ds : List Nat) (X : World) : Prop := Blk X (w.heap.size + 1) #[.int .i64 k, .int .i64 f, .int .i64 x] 100 ∧ Blk X (w.heap.size + 1 + 1) #[.int .i64 0] 36 ∧ Kept w X ∧ Marked w.heap.size Ds X
theorem confR_from {β : Type} {w V : World} {k f x B : Nat} {Ds : List Nat} (hM : Marked w.heap.size Ds V) (hB : V.heap.size ≤ B) (hw : w.heap.size ≤ V.heap.size) : OwnFrom B (fun (_ : β) X => ConfR w k f x Ds X) := by
  rintro _ X Y row ⟨e1, e2, e3, e5⟩ hg hr
  exact ⟨blk_from (β := Unit) B _ _ _ () X Y row e1 hg hr, blk_from (β := Unit) B _ _ _ () X Y row e2 hg hr, ownFrom_below (β := Unit) (Nat.le_refl _) (by omega) () X Y row e3 hg hr, mark_from (β := Unit) hM hB () X Y row e5 hg hr⟩
def ConfE (h : Hist) (w : World) (k : Nat) (Ds : List Nat) (pre : List (Fin h.gauges.length)) (X : World) : Prop :=
  ∃ pre0 x f, pre = pre0 ++ [x] ∧ (∀ t ∈ pre0, ∀ f : Nat, f ≤ t.val → clashB h k f t.val = false) ∧ f ≤ x.val ∧ (∀ g, g < f → clashB h k g x.val = false) ∧ clashB h k f x.val = true ∧ ConfR w k f x.val Ds X
theorem confE_from {h : Hist} {w V : World} {k B : Nat} {Ds : List Nat} (hM : Marked w.heap.size Ds V) (hB : V.heap.size ≤ B) (hw : w.heap.size ≤ V.heap.size) : OwnFrom B (ConfE h w k Ds) := by
  rintro pre X Y row ⟨pre0, x, f, e1, e2, e3, e4, e5, e6⟩ hg hr
  exact ⟨pre0, x, f, e1, e2, e3, e4, e5, confR_from (β := Unit) hM hB hw () X Y row e6 hg hr⟩
def ConfE2 (h : Hist) (w : World) (k x : Nat) (Ds : List Nat) (pre : List (Fin h.gauges.length)) (X : World) : Prop :=
  ∃ pre1 f, pre = pre1 ++ [f] ∧ (∀ g ∈ pre1, g.val ≤ x → clashB h k g.val x = false) ∧ f.val ≤ x ∧ clashB h k f.val x = true ∧ ConfR w k f.val x Ds X
theorem confE2_from {h : Hist} {w V : World} {k x B : Nat} {Ds : List Nat} (hM : Marked w.heap.size Ds V) (hB : V.heap.size ≤ B) (hw : w.heap.size ≤ V.heap.size) : OwnFrom B (ConfE2 h w k x Ds) := by
  rintro pre X Y row ⟨pre1, f, e1, e2, e3, e4, e6⟩ hg hr
  exact ⟨pre1, f, e1, e2, e3, e4, confR_from (β := Unit) hM hB hw () X Y row e6 hg hr⟩

theorem f_Conflict_bad (h : Hist) (s : Spot) (w : World) (hh : HistAt h s w) (hb : histB h = false) :
    Calls Try.prog 39 #[.agg #[.slice s.aw h.warm.length s.cw, .slice s.ag h.gauges.length s.cg, .slice s.af h.flows.length s.cf]] w fun e w' => e = .returned (.tuple #[.agg #[.int .i64 (cfC h), .int .i64 (cfF h), .int .i64 (cfT h)], .int .i64 (confE h)]) ∧ Kept w w' := by
  have HE := Lib.hid (show histE h = 34 by unfold histE; rw [hb]; rfl)
  have HC := Lib.hid (cf_bad hb)
  clear hb
  go_enter Try.func39, Try.ntmps39
  go_wp2_with (go_at_call 38; (with_reducible refine (f_CheckHistory h s _ (hh.later (by (exact kpt)))).mono ?_); rw [HE.out]; rintro e w1 ⟨rfl, hb1⟩; refine Blk.thru (b := w.heap.size) (arr := ?_) (t := ?_) ?_ hb1 ?_; rotate_left 2; (focus (exact blk)); intro ra; have rac0 := ra.cell 0; have raf0 := ra.free 0; have rac1 := ra.cell 1; have raf1 := ra.free 1; have rac2 := ra.cell 2; have raf2 := ra.free 2; have ral := ra.lt; simp at rac0 rac1 rac2; refine Blk.thru (b := w.heap.size + 1) (arr := ?_) (t := ?_) ?_ hb1 ?_; rotate_left 2; (focus (exact blk)); intro rb; have rbc0 := rb.cell 0; have rbf0 := rb.free 0; have rbc1 := rb.cell 1; have rbf1 := rb.free 1; have rbc2 := rb.cell 2; have rbf2 := rb.free 2; have rbl := rb.lt; simp at rbc0 rbc1 rbc2; refine Blk.thru (b := w.heap.size + 1 + 1) (arr := ?_) (t := ?_) ?_ hb1 ?_; rotate_left 2; (focus (exact blk)); intro rc; have rcc0 := rc.cell 0; have rcf0 := rc.free 0; have rcl := rc.lt; simp at rcc0)
  exact bodyPost_ret (v := .tuple #[.agg #[.int .i64 0, .int .i64 0, .int .i64 0], .int .i64 34]) (by simp [results, Try.results39, go_sem, rbc0, rbf0, rbc1, rbf1, rbc2, rbf2, rbl, rcc0, rcf0, rcl]) rfl ⟨by rw [HC.out.1, HC.out.2.1, HC.out.2.2.1, HC.out.2.2.2], by (exact kpt)⟩
theorem f_Conflict_ok (h : Hist) (s : Spot) (w : World) (hh : HistAt h s w) (hb : histB h = true) :
    Calls Try.prog 39 #[.agg #[.slice s.aw h.warm.length s.cw, .slice s.ag h.gauges.length s.cg, .slice s.af h.flows.length s.cf]] w fun e w' => e = .returned (.tuple #[.agg #[.int .i64 (cfC h), .int .i64 (cfF h), .int .i64 (cfT h)], .int .i64 (confE h)]) ∧ Kept w w' := by
  have HE := Lib.hid (show histE h = 0 by unfold histE; rw [hb]; rfl)
  have ho := histB_ok hb
  have hw2 := ho.w2
  have hg2 := ho.g2
  have HB := Lib.hid hb
  clear hb
  refine (callsIn_wide (n := 6)).1 ?_
  refine callsIn_of_wp_marks Try.func39 rfl trivial ?_ rfl
  simp only [Try.ntmps39, List.size_toArray, List.length_cons, List.length_nil, Nat.reduceAdd, Nat.reduceSub, Array.replicate_succ, Array.replicate_zero, List.push_toArray, List.append_toArray, List.nil_append, List.cons_append]
  gi_wp2_with (refine ⟨trivial, ?_⟩; gi_at_call 38; (refine (callsIn_wide.2 (f_CheckHistory h s _ (hh.later (by (exact kpt))))).mono ?_); rw [HE.out]; rintro e w1 ⟨rfl, hb1⟩; refine Blk.thru (b := w.heap.size) (arr := ?_) (t := ?_) ?_ hb1 ?_; rotate_left 2; (focus (exact blk)); intro ra; have rac0 := ra.cell 0; have raf0 := ra.free 0; have rac1 := ra.cell 1; have raf1 := ra.free 1; have rac2 := ra.cell 2; have raf2 := ra.free 2; have ral := ra.lt; simp at rac0 rac1 rac2)
  refine at_worldR (S := fun V => Blk V w.heap.size #[.slice s.aw h.warm.length s.cw, .slice s.ag h.gauges.length s.cg, .slice s.af h.flows.length s.cf] 52 ∧ Blk V (w.heap.size + 1) #[.int .i64 0, .int .i64 0, .int .i64 0] 100 ∧ Blk V (w.heap.size + 1 + 1) #[.int .i64 0] 36 ∧ Kept w V) ⟨by (exact blkc), by (exact blkc), by (exact blkc), by (exact kpt)⟩ ?_
  rintro V ⟨k0, k1, k2, hkV⟩
  refine wpIn_loop (fun a' W => ∃ (k : Nat) (Ds : List Nat), (∃ u : Nat → Value, a' = { tmps := #[.agg #[.slice s.aw h.warm.length s.cw, .slice s.ag h.gauges.length s.cg, .slice s.af h.flows.length s.cf], .pointer (some ⟨w.heap.size, 0, none⟩), .pointer (some ⟨w.heap.size + 1, 0, none⟩), .pointer (some ⟨w.heap.size + 1 + 1, 0, none⟩), u 4, u 5, u 6, u 7, u 8, u 9, u 10, u 11, u 12, u 13, u 14, u 15, u 16, u 17, u 18, .int .i64 h.warm.length, .int .i64 k, u 21, u 22, u 23, u 24, u 25, u 26, u 27, u 28, u 29, u 30, u 31, u 32, u 33, u 34, u 35, u 36, u 37, u 38, u 39, u 40, u 41, u 42, u 43, u 44, u 45, u 46, u 47, u 48, u 49, u 50, u 51, u 52, u 53, u 54, u 55, u 56, u 57, u 58, u 59, u 60, u 61, u 62, u 63, u 64, u 65, u 66, u 67, u 68, u 69, u 70, u 71, u 72], defers := marks Ds }) ∧ k ≤ h.warm.length ∧ Marked w.heap.size Ds W ∧ (Blk W w.heap.size #[.slice s.aw h.warm.length s.cw, .slice s.ag h.gauges.length s.cg, .slice s.af h.flows.length s.cf] 52 ∧ Blk W (w.heap.size + 1) #[.int .i64 0, .int .i64 0, .int .i64 0] 100 ∧ Blk W (w.heap.size + 1 + 1) #[.int .i64 0] 36 ∧ Kept w W) ∧ Clear h k 0 0)
    (fun a' _ => h.warm.length - (intOf ((a'.tmps[20]?).getD undef)).toNat) ?_ ?_
  · refine ⟨0, [], ?_, by omega, ⟨by simp, by simp⟩, ⟨k0, k1, k2, hkV⟩, Clear.zero h⟩
    exact (conf_act _ rfl rfl rfl rfl rfl rfl rfl).imp fun u hu => congrArg (fun A => Act.mk A []) hu
  clear k0 k1 k2 hkV V
  rintro a' W ⟨k, Ds, ⟨u, rfl⟩, hk, hM, ⟨k0, k1, k2, hkW⟩, hclr⟩
  have HCLR := Lib.hid hclr
  clear hclr
  have k0c0 := k0.cell 0
  have k0f0 := k0.free 0
  have k0c1 := k0.cell 1
  have k0f1 := k0.free 1
  have k0c2 := k0.cell 2
  have k0f2 := k0.free 2
  have k0l := k0.lt
  simp at k0c0 k0c1 k0c2
  by_cases hc : k < h.warm.length
  · have hc' : (k : Int) < (h.warm.length : Int) := by omega
    gi_wp2_with (refine ⟨trivial, ?_⟩; gi_at_call 71; (refine (callsIn_wide.2 (f_told h s _ _)).mono ?_); rintro e w1 ⟨rfl, rfl⟩)
    refine at_worldR (S := fun V => Blk V w.heap.size #[.slice s.aw h.warm.length s.cw, .slice s.ag h.gauges.length s.cg, .slice s.af h.flows.length s.cf] 52 ∧ Blk V (w.heap.size + 1) #[.int .i64 0, .int .i64 0, .int .i64 0] 100 ∧ Blk V (w.heap.size + 1 + 1) #[.int .i64 0] 36 ∧ Kept w V ∧ Blk V W.heap.size #[.int .i64 k] 3 ∧ Blk V (W.heap.size + 1) #[.slice s.aw h.warm.length s.cw, .slice s.ag h.gauges.length s.cg, .slice s.af h.flows.length s.cf] 52 ∧ Blk V (W.heap.size + 1 + 1) #[.int .i64 k] 3 ∧ Marked w.heap.size Ds V) ⟨by (exact blkc), by (exact blkc), by (exact blkc), by (exact kpt), by (exact blkc), by (exact blkc), by (exact blkc), hM.keep (by (exact kpt) : Kept W _) (Nat.le_refl _)⟩ ?_
    clear k0 k1 k2 k0c0 k0f0 k0c1 k0f1 k0c2 k0f2 k0l
    rintro V ⟨k0, k1, k2, hkV, j4, j5, j6, hM1⟩
    have hWs := hkW.size
    have hVW : W.heap.size + 1 + 1 < V.heap.size := Blk.lt j6
    have hMV := hM1
    have hc2 := hkV.size
    refine wpIn_rangeFunc_ownH (gf := 84) (lb := #[.pointer (some ⟨W.heap.size + 1, 0, none⟩), .pointer (some ⟨W.heap.size + 1 + 1, 0, none⟩)]) rfl (by omega) rfl trivial (enters_of Try.func84 (by kernel_rfl) rfl)
      (f_told1 h s w V hh hkV ho k hc (W.heap.size + 1) (W.heap.size + 1 + 1) j5 j6 5 (by omega)) KeptB.trans (KeptB.put hkV.size j5.lt j6.lt) (Below.refl _ _) (fun _ => rfl)
      (fun pre X => ConfI h s w k W.heap.size Ds pre X ∧ V.heap.size ≤ X.heap.size)
      (fun c pre X => c = .ret ∧ ConfE h w k Ds pre X)
      (OwnFrom.and (confI_from hMV (Nat.le_refl _) hc2) (fun _ _ _ _ hs hg _ => Nat.le_trans hs hg.size))
      (fun c pre X Y row hs hg hr => ⟨hs.1, confE_from hMV (Nat.le_refl _) hc2 pre X Y row hs.2 hg hr⟩)
      ⟨⟨k0, k1, k2, hkV, j4, hM1, fun t ht => by cases ht⟩, Nat.le_refl _⟩
      (fun x a' X => ∃ B6 B7, V.heap.size ≤ B6 ∧ V.heap.size ≤ B7 ∧ Blk X B6 #[.int .i64 x.val] 3 ∧ Blk X B7 #[.int .i64 (toldLo h k x.val), .int .i64 (toldHi h k x.val)] 29 ∧ a' = { tmps := #[.agg #[.slice s.aw h.warm.length s.cw, .slice s.ag h.gauges.length s.cg, .slice s.af h.flows.length s.cf], .pointer (some ⟨w.heap.size, 0, none⟩), .pointer (some ⟨w.heap.size + 1, 0, none⟩), .pointer (some ⟨w.heap.size + 1 + 1, 0, none⟩), u 4, .pointer (some ⟨W.heap.size, 0, none⟩), .pointer (some ⟨B6, 0, none⟩), .pointer (some ⟨B7, 0, none⟩), u 8, u 9, u 10, u 11, u 12, u 13, u 14, u 15, u 16, u 17, u 18, .int .i64 h.warm.length, .int .i64 k, .bool true, .int .i64 k, .agg #[.slice s.aw h.warm.length s.cw, .slice s.ag h.gauges.length s.cg, .slice s.af h.flows.length s.cf], .int .i64 k, .func (.func 84) #[] #[.pointer (some ⟨W.heap.size + 1, 0, none⟩), .pointer (some ⟨W.heap.size + 1 + 1, 0, none⟩)], .int .i64 x.val, .agg #[.int .i64 (toldLo h k x.val), .int .i64 (toldHi h k x.val)], u 28, u 29, u 30, u 31, u 32, u 33, u 34, u 35, u 36, u 37, u 38, u 39, u 40, u 41, u 42, u 43, u 44, u 45, u 46, u 47, u 48, u 49, u 50, u 51, u 52, u 53, u 54, u 55, u 56, u 57, u 58, u 59, u 60, u 61, u 62, u 63, u 64, u 65, u 66, u 67, u 68, u 69, u 70, u 71, u 72], defers := [] })
      (fun x a' _ X Y row hs hg hr => by obtain ⟨B6, B7, e1, e2, e3, e4, e5⟩ := hs; exact ⟨B6, B7, e1, e2, blk_from (β := Unit) V.heap.size _ _ _ () X Y row e3 hg hr, blk_from (β := Unit) V.heap.size _ _ _ () X Y row e4 hg hr, e5⟩)
      ?assign ?body ?done ?stop
    case assign =>
      rintro l pre x X K ⟨hI, hsz⟩ hK
      gi_wp2
      have hka : Kept X ((X.alloc (.cells #[.int .i64 x.val] 3)).alloc (.cells #[.int .i64 (toldLo h k x.val), .int .i64 (toldHi h k x.val)] 29)) := by exact kpt
      exact hK _ _ (keepsFrom_kept hka _) (KeptB.of_kept hka (Nat.le_trans hc2 hsz) (by omega) (by omega)) ⟨hI.keep hka, by have := hka.size; omega⟩ ⟨X.heap.size, X.heap.size + 1, hsz, by omega, Blk.alloc Blk.new _, by simpa using Blk.new (w := X.alloc (.cells #[.int .i64 x.val] 3)), rfl⟩
    case body =>
      rintro l pre x a' X hl ⟨r, hr⟩ ⟨⟨q0, q1, q2, hkX, q4, hMX, hno⟩, hsz⟩ ⟨B6, B7, hB6, hB7, p6, p7, rfl⟩ hlen
      have HNO := Lib.hid hno
      clear hno k0 k1 k2 j4 j5 j6 hM1
      obtain ⟨x, hxl⟩ := x
      dsimp only at p6 p7 ⊢
      have bdx := told_bd ho hxl hc
      obtain ⟨LX, hLX⟩ : ∃ n, n = toldLo h k x := ⟨_, rfl⟩
      obtain ⟨HX, hHX⟩ : ∃ n, n = toldHi h k x := ⟨_, rfl⟩
      rw [← hLX, ← hHX] at p7 bdx ⊢
      have HLX := Lib.hid hLX
      have HHX := Lib.hid hHX
      clear hLX hHX
      have q0c0 := q0.cell 0
      have q0f0 := q0.free 0
      have q0c1 := q0.cell 1
      have q0f1 := q0.free 1
      have q0c2 := q0.cell 2
      have q0f2 := q0.free 2
      have q0l := q0.lt
      simp at q0c0 q0c1 q0c2
      have q4c0 := q4.cell 0
      have q4f0 := q4.free 0
      have q4l := q4.lt
      simp at q4c0
      gi_wp2_with (refine ⟨trivial, ?_⟩; gi_at_call 71; refine (CallsIn.inRound l (callsIn_wide.2 (f_told h s _ _))).mono ?_; rintro e w1 ⟨rfl, rfl⟩)
      have hkY0 : Kept X ((X.alloc (.cells #[.slice s.aw h.warm.length s.cw, .slice s.ag h.gauges.length s.cg, .slice s.af h.flows.length s.cf] 52)).alloc (.cells #[.int .i64 k] 3)) := by exact kpt
      have hr0 : ((X.alloc (.cells #[.slice s.aw h.warm.length s.cw, .slice s.ag h.gauges.length s.cg, .slice s.af h.flows.length s.cf] 52)).alloc (.cells #[.int .i64 k] 3)).heap[l]? = some (.loop r) := (hkY0.block l (Array.getElem?_eq_some_iff.1 hr).1).trans hr
      refine at_worldR (S := fun Y => Blk Y w.heap.size #[.slice s.aw h.warm.length s.cw, .slice s.ag h.gauges.length s.cg, .slice s.af h.flows.length s.cf] 52 ∧ Blk Y (w.heap.size + 1) #[.int .i64 0, .int .i64 0, .int .i64 0] 100 ∧ Blk Y (w.heap.size + 1 + 1) #[.int .i64 0] 36 ∧ Kept w Y ∧ Blk Y W.heap.size #[.int .i64 k] 3 ∧ Marked w.heap.size Ds Y ∧ Blk Y B6 #[.int .i64 x] 3 ∧ Blk Y B7 #[.int .i64 LX, .int .i64 HX] 29 ∧ Blk Y X.heap.size #[.slice s.aw h.warm.length s.cw, .slice s.ag h.gauges.length s.cg, .slice s.af h.flows.length s.cf] 52 ∧ Blk Y (X.heap.size + 1) #[.int .i64 k] 3 ∧ Kept X Y ∧ Y.heap[l]? = some (.loop r)) ⟨by (exact blkc), by (exact blkc), by (exact blkc), by (exact kpt), by (exact blkc), hMX.keep hkY0 (Nat.le_refl _), by (exact blkc), by (exact blkc), by (exact blkc), by (exact blkc), hkY0, hr0⟩ ?_
      clear q0 q1 q2 q4 p6 p7 hkY0 hr0 q0c0 q0f0 q0c1 q0f1 q0c2 q0f2 q0l q4c0 q4f0 q4l
      rintro Y ⟨q0, q1, q2, hkwY, q4, hMY, p6, p7, p5, p8, hkY, hrY⟩
      have hlY := (Array.getElem?_eq_some_iff.1 hrY).1
      have hXY := hkY.size
      refine wpIn_rangeFunc_ownN (l₀ := l) (r₀ := r) rfl hrY (by omega) (gf := 84) (lb := #[.pointer (some ⟨X.heap.size, 0, none⟩), .pointer (some ⟨X.heap.size + 1, 0, none⟩)]) rfl trivial (enters_of Try.func84 (by kernel_rfl) rfl)
        ((f_told1 h s w Y hh hkwY ho k hc X.heap.size (X.heap.size + 1) p5 p8 3 (by omega)).inRound l) KeptB.trans (KeptB.put hkwY.size p5.lt p8.lt) (Below.refl _ _) (fun _ => rfl)
        (fun pre' Z => ConfI2 h s w k W.heap.size B6 B7 x LX HX Ds pre' Z ∧ KeptB w.heap.size (W.heap.size + 1) (W.heap.size + 1 + 1) X Z ∧ KeepsFrom V.heap.size X Z ∧ Y.heap.size ≤ Z.heap.size)
        (fun c pre' Z => c = .ret ∧ ConfE2 h w k x Ds pre' Z ∧ KeepsFrom V.heap.size X Z)
        (OwnFrom.and (confI2_from hMY (Nat.le_refl _) hkwY.size) (OwnFrom.and (keptB_from (Nat.le_trans hc2 hsz) hkwY.size (by omega) (by omega) (by omega) (by omega)) (OwnFrom.and (ownFrom_keepsFrom hXY) (fun _ _ _ _ hs hg _ => Nat.le_trans hs hg.size))))
        (fun c pre' A B row hs hg hr => ⟨hs.1, confE2_from hMY (Nat.le_refl _) hkwY.size pre' A B row hs.2.1 hg hr, ownFrom_keepsFrom (β := Unit) hXY () A B row hs.2.2 hg hr⟩)
        ⟨⟨q0, q1, q2, hkwY, q4, hMY, p6, p7, fun t ht => by cases ht⟩, KeptB.of_kept hkY (Nat.le_trans hc2 hsz) (by omega) (by omega), keepsFrom_kept hkY _, Nat.le_refl _⟩
        (fun f a'' Z => ∃ B9, Y.heap.size ≤ B9 ∧ Blk Z B9 #[.int .i64 (toldLo h k f.val), .int .i64 (toldHi h k f.val)] 29 ∧ a'' = { tmps := #[.agg #[.slice s.aw h.warm.length s.cw, .slice s.ag h.gauges.length s.cg, .slice s.af h.flows.length s.cf], .pointer (some ⟨w.heap.size, 0, none⟩), .pointer (some ⟨w.heap.size + 1, 0, none⟩), .pointer (some ⟨w.heap.size + 1 + 1, 0, none⟩), u 4, .pointer (some ⟨W.heap.size, 0, none⟩), .pointer (some ⟨B6, 0, none⟩), .pointer (some ⟨B7, 0, none⟩), .int .i64 f.val, .pointer (some ⟨B9, 0, none⟩), u 10, u 11, u 12, u 13, u 14, u 15, u 16, u 17, u 18, .int .i64 h.warm.length, .int .i64 k, .bool true, .int .i64 k, .agg #[.slice s.aw h.warm.length s.cw, .slice s.ag h.gauges.length s.cg, .slice s.af h.flows.length s.cf], .int .i64 k, .func (.func 84) #[] #[.pointer (some ⟨W.heap.size + 1, 0, none⟩), .pointer (some ⟨W.heap.size + 1 + 1, 0, none⟩)], .int .i64 x, .agg #[.int .i64 LX, .int .i64 HX], .agg #[.slice s.aw h.warm.length s.cw, .slice s.ag h.gauges.length s.cg, .slice s.af h.flows.length s.cf], .int .i64 k, .func (.func 84) #[] #[.pointer (some ⟨X.heap.size, 0, none⟩), .pointer (some ⟨X.heap.size + 1, 0, none⟩)], .int .i64 f.val, .agg #[.int .i64 (toldLo h k f.val), .int .i64 (toldHi h k f.val)], u 33, u 34, u 35, u 36, u 37, u 38, u 39, u 40, u 41, u 42, u 43, u 44, u 45, u 46, u 47, u 48, u 49, u 50, u 51, u 52, u 53, u 54, u 55, u 56, u 57, u 58, u 59, u 60, u 61, u 62, u 63, u 64, u 65, u 66, u 67, u 68, u 69, u 70, u 71, u 72], defers := [] })
        (fun f a'' _ A B row hs hg hr => by obtain ⟨B9, e1, e2, e3⟩ := hs; exact ⟨B9, e1, blk_from (β := Unit) Y.heap.size _ _ _ () A B row e2 hg hr, e3⟩)
        ?assign2 ?body2 ?done2 ?stop2
      case assign2 =>
        rintro l2 pre' f Z K ⟨hI, hkb, hkf, hsz2⟩ hK
        gi_wp2
        have hka : Kept Z (Z.alloc (.cells #[.int .i64 (toldLo h k f.val), .int .i64 (toldHi h k f.val)] 29)) := Kept.alloc (Below.refl _ _) _
        have z5 := Blk.lt p5
        have z8 := Blk.lt p8
        have hzX := hkb.below.size
        exact hK _ _ (keepsFrom_kept hka _) (KeptB.of_kept hka (by have := hkwY.size; omega) (by omega) (by omega)) ⟨hI.keep hka, hkb.trans (KeptB.of_kept hka (by have := hkwY.size; omega) (by omega) (by omega)), hkf.trans (keepsFrom_kept hka _), by have := hka.size; omega⟩ ⟨Z.heap.size, hsz2, Blk.new, rfl⟩
      case body2 =>
        rintro l2 pre' f a'' Z hl2 _ ⟨⟨q0, q1, q2, hkZ, q4, hMZ, p6, p7, hno2⟩, hkb, hkf, hsz2⟩ ⟨B9, hB9, p9, rfl⟩ hlen2
        have HNO2 := Lib.hid hno2
        have HKB := Lib.hid hkb
        have HKF := Lib.hid hkf
        clear hno2 hkb hkf
        obtain ⟨f, hfl⟩ := f
        dsimp only at p9 ⊢
        have bdf := told_bd ho hfl hc
        have HCT0 : f ≤ x → clashB h k f x = ((decide (f = x) && decide (toldHi h k f < toldLo h k f)) || (decide (f < x) && !decide (toldHi h k f < toldLo h k f) && decide (LX ≤ HX) && decide (toldHi h k f < LX))) := fun hfx => by rw [clash_told ho hfx hxl, HLX.out, HHX.out]
        obtain ⟨LF, hLF⟩ : ∃ n, n = toldLo h k f := ⟨_, rfl⟩
        obtain ⟨HF, hHF⟩ : ∃ n, n = toldHi h k f := ⟨_, rfl⟩
        rw [← hLF, ← hHF] at p9 bdf HCT0 ⊢
        have HCT := Lib.hid HCT0
        clear HCT0 hLF hHF bdx bdf
        have q1c0 := q1.cell 0
        have q1f0 := q1.free 0
        have q1c1 := q1.cell 1
        have q1f1 := q1.free 1
        have q1c2 := q1.cell 2
        have q1f2 := q1.free 2
        have q1l := q1.lt
        simp at q1c0 q1c1 q1c2
        have q2c0 := q2.cell 0
        have q2f0 := q2.free 0
        have q2l := q2.lt
        simp at q2c0
        have q4c0 := q4.cell 0
        have q4f0 := q4.free 0
        have q4l := q4.lt
        simp at q4c0
        have p6c0 := p6.cell 0
        have p6f0 := p6.free 0
        have p6l := p6.lt
        simp at p6c0
        have p7c0 := p7.cell 0
        have p7f0 := p7.free 0
        have p7c1 := p7.cell 1
        have p7f1 := p7.free 1
        have p7l := p7.lt
        simp at p7c0 p7c1
        have p9c0 := p9.cell 0
        have p9f0 := p9.free 0
        have p9c1 := p9.cell 1
        have p9f1 := p9.free 1
        have p9l := p9.lt
        simp at p9c0 p9c1
        by_cases k1 : f ≤ x
        · by_cases k2 : f = x
          · have d1 : ((f : Int) == (x : Int)) = true := by simp; omega
            have d2 : (f == x) = true := by simp; omega
            have d3 : decide (f = x) = true := by simp; omega
            by_cases k3 : HF < LF
            · have d4 : decide (HF < LF) = true := by simp; omega
              have hfx : f ≤ x := by omega
              have HT := Lib.hid (show clashB h k f x = true by rw [HCT.out hfx]; simp; omega)
              clear k1 k2 k3
              gi_wp2
              have hko : KeepsOthers Z ((((Z.setCell ⟨w.heap.size + 1, 0, none⟩ (.int .i64 k)).setCell ⟨w.heap.size + 1, 1, none⟩ (.int .i64 f)).setCell ⟨w.heap.size + 1, 2, none⟩ (.int .i64 x)).setCell ⟨w.heap.size + 1 + 1, 0, none⟩ (.int .i64 0)) := (((KeepsOthers.setCell _ _ _).trans (KeepsOthers.setCell _ _ _)).trans (KeepsOthers.setCell _ _ _)).trans (KeepsOthers.setCell _ _ _)
              exact ⟨hko.from _, rfl, ⟨pre', ⟨f, hfl⟩, rfl, HNO2.out, hfx, HT.out, Blk.other (Blk.cast (((q1.set 0 _).set 1 _).set 2 _) (by simp)) (by simp) _, Blk.cast ((Blk.other (Blk.other (Blk.other q2 (by simp) _) (by simp) _) (by simp) _).set 0 _) (by simp), by exact kpt, hMZ.from (hko.from w.heap.size) (Nat.le_refl _)⟩, HKF.out.trans (hko.from _)⟩
            · have d4 : decide (HF < LF) = false := by simp; omega
              have d5 : decide ((f : Int) < (x : Int)) = false := by simp; omega
              have d6 : decide (f < x) = false := by simp; omega
              have HN := Lib.hid (show f ≤ x → clashB h k f x = false from fun hfx => by rw [HCT.out hfx]; simp; omega)
              clear k1 k2 k3
              gi_wp2
              refine ⟨KeepsFrom.refl _ _, KeptB.of_kept (Below.refl _ _) (by have := hkwY.size; omega) (by have := Blk.lt p5; omega) (by have := Blk.lt p8; omega), ⟨q0, q1, q2, hkZ, q4, hMZ, p6, p7, fun g hg hgx => ?_⟩, HKB.out, HKF.out, hsz2⟩
              rcases List.mem_append.1 hg with hg | hg
              · exact HNO2.out g hg hgx
              · obtain rfl : g = ⟨f, hfl⟩ := by simpa using hg
                exact HN.out hgx
          · have d1 : ((f : Int) == (x : Int)) = false := by simp; omega
            have d2 : (f == x) = false := by simp; omega
            have d3 : decide (f = x) = false := by simp; omega
            have d5 : decide ((f : Int) < (x : Int)) = true := by simp; omega
            have d6 : decide (f < x) = true := by simp; omega
            by_cases k3 : HF < LF
            · have d4 : decide (HF < LF) = true := by simp; omega
              have HN := Lib.hid (show f ≤ x → clashB h k f x = false from fun hfx => by rw [HCT.out hfx]; simp; omega)
              clear k1 k2 k3
              gi_wp2
              refine ⟨KeepsFrom.refl _ _, KeptB.of_kept (Below.refl _ _) (by have := hkwY.size; omega) (by have := Blk.lt p5; omega) (by have := Blk.lt p8; omega), ⟨q0, q1, q2, hkZ, q4, hMZ, p6, p7, fun g hg hgx => ?_⟩, HKB.out, HKF.out, hsz2⟩
              rcases List.mem_append.1 hg with hg | hg
              · exact HNO2.out g hg hgx
              · obtain rfl : g = ⟨f, hfl⟩ := by simpa using hg
                exact HN.out hgx
            · have d4 : decide (HF < LF) = false := by simp; omega
              by_cases k4 : LX ≤ HX
              · have d7 : decide (LX ≤ HX) = true := by simp; omega
                by_cases k5 : HF < LX
                · have d8 : decide (HF < LX) = true := by simp; omega
                  have hfx : f ≤ x := by omega
                  have HT := Lib.hid (show clashB h k f x = true by rw [HCT.out hfx]; simp; omega)
                  clear k1 k2 k3 k4 k5
                  gi_wp2
                  have hko : KeepsOthers Z ((((Z.setCell ⟨w.heap.size + 1, 0, none⟩ (.int .i64 k)).setCell ⟨w.heap.size + 1, 1, none⟩ (.int .i64 f)).setCell ⟨w.heap.size + 1, 2, none⟩ (.int .i64 x)).setCell ⟨w.heap.size + 1 + 1, 0, none⟩ (.int .i64 0)) := (((KeepsOthers.setCell _ _ _).trans (KeepsOthers.setCell _ _ _)).trans (KeepsOthers.setCell _ _ _)).trans (KeepsOthers.setCell _ _ _)
                  exact ⟨hko.from _, rfl, ⟨pre', ⟨f, hfl⟩, rfl, HNO2.out, hfx, HT.out, Blk.other (Blk.cast (((q1.set 0 _).set 1 _).set 2 _) (by simp)) (by simp) _, Blk.cast ((Blk.other (Blk.other (Blk.other q2 (by simp) _) (by simp) _) (by simp) _).set 0 _) (by simp), by exact kpt, hMZ.from (hko.from w.heap.size) (Nat.le_refl _)⟩, HKF.out.trans (hko.from _)⟩
                · have d8 : decide (HF < LX) = false := by simp; omega
                  have HN := Lib.hid (show f ≤ x → clashB h k f x = false from fun hfx => by rw [HCT.out hfx]; simp; omega)
                  clear k1 k2 k3 k4 k5
                  gi_wp2
                  refine ⟨KeepsFrom.refl _ _, KeptB.of_kept (Below.refl _ _) (by have := hkwY.size; omega) (by have := Blk.lt p5; omega) (by have := Blk.lt p8; omega), ⟨q0, q1, q2, hkZ, q4, hMZ, p6, p7, fun g hg hgx => ?_⟩, HKB.out, HKF.out, hsz2⟩
                  rcases List.mem_append.1 hg with hg | hg
                  · exact HNO2.out g hg hgx
                  · obtain rfl : g = ⟨f, hfl⟩ := by simpa using hg
                    exact HN.out hgx
              · have d7 : decide (LX ≤ HX) = false := by simp; omega
                have HN := Lib.hid (show f ≤ x → clashB h k f x = false from fun hfx => by rw [HCT.out hfx]; simp; omega)
                clear k1 k2 k3 k4
                gi_wp2
                refine ⟨KeepsFrom.refl _ _, KeptB.of_kept (Below.refl _ _) (by have := hkwY.size; omega) (by have := Blk.lt p5; omega) (by have := Blk.lt p8; omega), ⟨q0, q1, q2, hkZ, q4, hMZ, p6, p7, fun g hg hgx => ?_⟩, HKB.out, HKF.out, hsz2⟩
                rcases List.mem_append.1 hg with hg | hg
                · exact HNO2.out g hg hgx
                · obtain rfl : g = ⟨f, hfl⟩ := by simpa using hg
                  exact HN.out hgx
        · have d1 : ((f : Int) == (x : Int)) = false := by simp; omega
          have d2 : (f == x) = false := by simp; omega
          have d3 : decide (f = x) = false := by simp; omega
          have d5 : decide ((f : Int) < (x : Int)) = false := by simp; omega
          have d6 : decide (f < x) = false := by simp; omega
          have HN := Lib.hid (show f ≤ x → clashB h k f x = false from fun hfx => by exact absurd hfx k1)
          clear d3
          gi_wp2
          refine ⟨KeepsFrom.refl _ _, KeptB.of_kept (Below.refl _ _) (by have := hkwY.size; omega) (by have := Blk.lt p5; omega) (by have := Blk.lt p8; omega), ⟨q0, q1, q2, hkZ, q4, hMZ, p6, p7, fun g hg hgx => ?_⟩, HKB.out, HKF.out, hsz2⟩
          rcases List.mem_append.1 hg with hg | hg
          · exact HNO2.out g hg hgx
          · obtain rfl : g = ⟨f, hfl⟩ := by simpa using hg
            exact HN.out hgx
      case done2 =>
        rintro ys Z ⟨hup, hlen2⟩ ⟨⟨q0, q1, q2, hkZ, q4, hMZ, p6, p7, hno2⟩, hkb, hkf, hsz2⟩
        gi_wp2
        refine ⟨hkf, hkb, ⟨q0, q1, q2, hkZ, q4, hMZ, fun t ht f hft => ?_⟩, by have := hkf.size; omega⟩
        rcases List.mem_append.1 ht with ht | ht
        · exact HNO.out t ht f hft
        · obtain rfl : t = ⟨x, hxl⟩ := by simpa using ht
          exact hno2 ⟨f, by simp at hft; omega⟩ (hup.mem.2 (by simp at hft; rw [hlen2]; simp; omega)) hft
      case stop2 =>
        rintro c pre' Z hup ⟨rfl, ⟨pre1, f, rfl, hno2, hfx, hcl, hR⟩, hkf⟩
        obtain ⟨hup1, hfv⟩ := hup.init
        have hfl := f.isLt
        gi_wp2
        exact ⟨hkf, rfl, pre, ⟨x, hxl⟩, f.val, rfl, HNO.out, hfx, fun g hg => hno2 ⟨g, by omega⟩ (hup1.mem.2 (by simp; omega)) (by simp; omega), hcl, hR⟩
    case done =>
      rintro D ys X hD ⟨hup, hlen⟩ ⟨⟨q0, q1, q2, hkX, q4, hMX, hno⟩, hsz⟩ hK
      have hlM : ∀ E ∈ Ds, E < V.heap.size := fun E hE => (Array.getElem?_eq_some_iff.1 (hMV.2 E hE).2).1
      have hM3 : Marked w.heap.size (D :: Ds) X := by
        refine ⟨List.nodup_cons.2 ⟨fun h => by have := hlM D h; omega, hMX.1⟩, fun E hE => ?_⟩
        rcases List.mem_cons.1 hE with rfl | hE
        · exact ⟨by omega, hK⟩
        · exact hMX.2 E hE
      have hcl3 : Clear h (k + 1) 0 0 := fun c' t' f' h1 h2 h3 hx => by
        by_cases hck : c' < k
        · exact HCLR.out c' t' f' h1 h2 h3 (.inl hck)
        · obtain rfl : c' = k := by omega
          exact hno ⟨t', h2⟩ (hup.mem.2 (by rw [hlen]; exact h2)) f' h3
      have HM3 := Lib.hid hM3
      have HCL3 := Lib.hid hcl3
      clear hM3 hcl3 hno hMX k0 k1 k2 j4 j5 j6 hM1
      gi_wp2
      refine ⟨⟨k + 1, D :: Ds, ?_, by omega, HM3.out, ⟨q0, q1, q2, hkX⟩, HCL3.out⟩, ?_⟩
      · exact (conf_act _ rfl rfl rfl rfl rfl rfl rfl).imp fun u hu => congrArg (fun A => Act.mk A (marks (D :: Ds))) hu
      · simp [intOf]; omega
    case stop =>
      rintro D c pre X hD hup ⟨rfl, pre0, x, f, rfl, hno, hfx, hlt, hcl, hR⟩ hK
      obtain ⟨hup0, hxv⟩ := hup.init
      have hxl := x.isLt
      have hlM : ∀ E ∈ Ds, E < V.heap.size := fun E hE => (Array.getElem?_eq_some_iff.1 (hMV.2 E hE).2).1
      have HC := Lib.hid (cf_some HB.out (Clear.found (c := k) (t := x.val) (f := f) (fun c' t' f' h1 h2 h3 hx => by
        by_cases hck : c' < k
        · exact HCLR.out c' t' f' h1 h2 h3 (.inl hck)
        · by_cases htx : t' < x.val
          · obtain rfl : c' = k := by omega
            exact hno ⟨t', h2⟩ (hup0.mem.2 (by simp; omega)) f' h3
          · obtain ⟨rfl, rfl⟩ : c' = k ∧ t' = x.val := by omega
            exact hlt f' (by omega)) hc hxl hfx hcl))
      gi_wp2
      refine leaves_marks (B := w.heap.size) (fun W => ConfR w k f x.val [] W) (confR_from (V := w) ⟨by simp, by simp⟩ (Nat.le_refl _) (Nat.le_refl _)) ?_ (D :: Ds) X ⟨List.nodup_cons.2 ⟨fun h => by have := hlM D h; omega, hR.2.2.2.1⟩, fun E hE => ?_⟩ ⟨hR.1, hR.2.1, hR.2.2.1, ⟨by simp, by simp⟩⟩
      · rintro W5 ⟨e1, e2, hkp, _⟩
        have e1c0 := e1.cell 0
        have e1f0 := e1.free 0
        have e1c1 := e1.cell 1
        have e1f1 := e1.free 1
        have e1c2 := e1.cell 2
        have e1f2 := e1.free 2
        have e1l := e1.lt
        simp at e1c0 e1c1 e1c2
        have e2c0 := e2.cell 0
        have e2f0 := e2.free 0
        have e2l := e2.lt
        simp at e2c0
        exact ⟨.tuple #[.agg #[.int .i64 k, .int .i64 f, .int .i64 x.val], .int .i64 0], by simp [results, Try.results39, go_sem, e1c0, e1c1, e1c2, e2c0], by rw [HC.out.1, HC.out.2.1, HC.out.2.2.1, HC.out.2.2.2], hkp⟩
      · rcases List.mem_cons.1 hE with rfl | hE
        · exact ⟨by omega, hK⟩
        · exact hR.2.2.2.2 E hE
  · obtain rfl : k = h.warm.length := by omega
    have HC := Lib.hid (cf_none HB.out HCLR.out.none)
    have k1c0 := k1.cell 0
    have k1f0 := k1.free 0
    have k1c1 := k1.cell 1
    have k1f1 := k1.free 1
    have k1c2 := k1.cell 2
    have k1f2 := k1.free 2
    have k1l := k1.lt
    simp at k1c0 k1c1 k1c2
    have k2c0 := k2.cell 0
    have k2f0 := k2.free 0
    have k2l := k2.lt
    simp at k2c0
    gi_wp2
    refine leaves_marks (B := w.heap.size) (fun W => Blk W (w.heap.size + 1) #[.int .i64 0, .int .i64 0, .int .i64 0] 100 ∧ Blk W (w.heap.size + 1 + 1) #[.int .i64 6] 36 ∧ Kept w W) (OwnFrom.and (blk_from _ _ _ _) (OwnFrom.and (blk_from _ _ _ _) (ownFrom_below (Nat.le_refl _) (Nat.le_refl _)))) ?_ Ds _ (hM.from (((((KeepsOthers.setCell _ _ _).trans (KeepsOthers.setCell _ _ _)).trans (KeepsOthers.setCell _ _ _)).trans (KeepsOthers.setCell _ _ _)).from w.heap.size) (Nat.le_refl _)) ⟨Blk.other (Blk.cast (((k1.set 0 _).set 1 _).set 2 _) (by simp)) (by simp) _, Blk.cast ((Blk.other (Blk.other (Blk.other k2 (by simp) _) (by simp) _) (by simp) _).set 0 _) (by simp), by exact kpt⟩
    rintro W5 ⟨e1, e2, hkp⟩
    have e1c0 := e1.cell 0
    have e1f0 := e1.free 0
    have e1c1 := e1.cell 1
    have e1f1 := e1.free 1
    have e1c2 := e1.cell 2
    have e1f2 := e1.free 2
    have e1l := e1.lt
    simp at e1c0 e1c1 e1c2
    have e2c0 := e2.cell 0
    have e2f0 := e2.free 0
    have e2l := e2.lt
    simp at e2c0
    exact ⟨.tuple #[.agg #[.int .i64 0, .int .i64 0, .int .i64 0], .int .i64 6], by simp [results, Try.results39, go_sem, e1c0, e1c1, e1c2, e2c0], by rw [HC.out.1, HC.out.2.1, HC.out.2.2.1, HC.out.2.2.2], hkp⟩
theorem f_Conflict (h : Hist) (s : Spot) (w : World) (hh : HistAt h s w) :
    Calls Try.prog 39 #[.agg #[.slice s.aw h.warm.length s.cw, .slice s.ag h.gauges.length s.cg, .slice s.af h.flows.length s.cf]] w fun e w' => e = .returned (.tuple #[.agg #[.int .i64 (cfC h), .int .i64 (cfF h), .int .i64 (cfT h)], .int .i64 (confE h)]) ∧ Kept w w' := by
  cases hb : histB h
  · exact f_Conflict_bad h s w hh hb
  · exact f_Conflict_ok h s w hh hb

end Go.Proofs.Ytnfhcpnpjkefmaa

/-
  A slice that the call owns: stores into its elements; blocks beside it, of whatever type. No program in sight.
-/
namespace Bal
open Go Go.RowKit
theorem flatMap_setP {α : Type} {enc : α → List Value} {k : Nat} (he : ∀ x, (enc x).length = k) : ∀ (xs : List α) (i : Nat) (c c' : α) (j : Nat) (u : Value), xs[i]? = some c → j < k → enc c' = (enc c).set j u →
    (xs.set i c').flatMap enc = (xs.flatMap enc).set (i * k + j) u
  | [], i, c, c', j, u, h, _, _ => by simp at h
  | y :: ys, 0, c, c', j, u, h, hj, hc => by
    simp at h
    subst h
    rw [List.set_cons_zero, List.flatMap_cons, List.flatMap_cons, hc, Nat.zero_mul, Nat.zero_add, List.set_append_left _ _ (by rw [he]; exact hj)]
  | y :: ys, i + 1, c, c', j, u, h, hj, hc => by
    have ih := flatMap_setP he ys i c c' j u (by simpa using h) hj hc
    rw [List.set_cons_succ, List.flatMap_cons, List.flatMap_cons, ih, List.set_append_right _ _ (by rw [he, Nat.succ_mul]; omega), he]
    congr 2
    rw [Nat.succ_mul]; omega
theorem owns_ge {w : World} {base k n b : Nat} {e : TypeId} {v : Value} {xs : List Value} (ho : w.ownsRow base e k v n xs) (h : b < base) : v.ownBlock ≠ some b := by
  obtain ⟨_, ⟨rfl, _⟩ | ⟨g, cap, cur, rfl, hg, _⟩⟩ := ho
  · simp [Value.ownBlock]
  · simp only [Value.ownBlock, ne_eq, Option.some.injEq]; omega
theorem owns_newer {w : World} {base k n b : Nat} {e : TypeId} {v : Value} {xs : List Value} (ho : w.ownsRow base e k v n xs) (h : w.heap.size ≤ b) : v.ownBlock ≠ some b := by
  obtain ⟨_, ⟨rfl, _⟩ | ⟨g, cap, cur, rfl, hg, hh, _⟩⟩ := ho
  · simp [Value.ownBlock]
  · simp only [Value.ownBlock, ne_eq, Option.some.injEq]
    have : g < w.heap.size := Blk.lt (show Blk w g cur e from hh)
    omega
theorem Blk.grownN {w w' : World} {b : Nat} {arr : Array Value} {t : TypeId} {v : Value} (h : Blk w b arr t) (hne : v.ownBlock ≠ some b) (hg : w.grownBy w' v.ownBlock) : Blk w' b arr t :=
  (hg.block b h.lt (fun e => hne e.symm)).trans h
theorem Kept.grownB {w0 w w' : World} {base k n : Nat} {e : TypeId} {v : Value} {xs : List Value} (h : Kept w0 w) (ho : w.ownsRow base e k v n xs) (hb : w0.heap.size ≤ base) (hg : w.grownBy w' v.ownBlock) : Kept w0 w' := Kept.grown h ho hb hg
/-- the block of a row that is not nil -/
theorem owns_block {w : World} {base k n : Nat} {e : TypeId} {v : Value} {xs : List Value} (ho : w.ownsRow base e k v n xs) (hn : 0 < n) : ∃ g cap cur, v = .slice (some ⟨g, 0, none⟩) n cap ∧ base ≤ g ∧ Blk w g cur e ∧ n ≤ cap ∧ cap ≤ maxLen := by
  obtain ⟨_, ⟨_, h⟩ | ⟨g, cap, cur, hv, hg, hh, h1, h2, _⟩⟩ := ho
  · omega
  · exact ⟨g, cap, cur, hv, hg, hh, h1, h2⟩
theorem owns_cur {w : World} {base k n g m cap : Nat} {e : TypeId} {xs : List Value} (ho : w.ownsRow base e k (.slice (some ⟨g, 0, none⟩) m cap) n xs) : base ≤ g ∧ Blk w g (((w.heap[g]?).bind fun o => match o with | .cells c _ _ => some c | _ => none).getD #[]) e := by
  obtain ⟨_, ⟨h, _⟩ | ⟨g', cap', cur, hv, hg, hh, _⟩⟩ := ho
  · cases h
  · simp only [Value.slice.injEq, Option.some.injEq, Addr.mk.injEq, and_true] at hv
    obtain ⟨rfl, _, _⟩ := hv
    refine ⟨hg, ?_⟩
    rw [hh]
    exact hh
/-- a store into one element's field -/
theorem owns_put {α : Type} {enc : α → List Value} {k : Nat} (he : ∀ x, (enc x).length = k) {w : World} {base g n cap : Nat} {e : TypeId} {xs : List α} {i j : Nat} {c : α} {u : Value} (c' : α)
    (ho : w.ownsRow base e k (.slice (some ⟨g, 0, none⟩) n cap) xs.length (xs.flatMap enc)) (hx : xs[i]? = some c) (hj : j < k) (hc : enc c' = (enc c).set j u) :
    (w.setCell ⟨g, i * k + j, none⟩ u).ownsRow base e k (.slice (some ⟨g, 0, none⟩) n cap) (xs.set i c').length ((xs.set i c').flatMap enc) := by
  obtain ⟨h1, ⟨h2, _⟩ | ⟨g', cap', cur, hv, hg, hh, h3, h4, h5, h6⟩⟩ := ho
  · cases h2
  · simp only [Value.slice.injEq, Option.some.injEq, Addr.mk.injEq, and_true, true_and] at hv
    obtain ⟨rfl, rfl, rfl⟩ := hv
    have hi : i < xs.length := (List.getElem?_eq_some_iff.1 hx).1
    refine ⟨by rw [List.length_set, flatMap_len he, List.length_set], .inr ⟨g, cap, cur.setIfInBounds (i * k + j) u, by simp, hg, Blk.set (show Blk w g cur e from hh) _ _, by simpa using h3, h4, by simpa using h5, ?_⟩⟩
    rw [Array.toList_setIfInBounds, List.length_set, List.take_set, h6, flatMap_setP he xs i c c' j u hx hj hc]
end Bal

/-
  What has leaked: the program.
-/
namespace Go.Proofs.Ytnfhcpnpjkefmaa
open Go.RowKit Bal Bal.Trim Bal.Gas
set_option linter.unusedVariables false
set_option linter.unusedSimpArgs false
set_option maxHeartbeats 4000000
set_option maxRecDepth 100000
attribute [local go_sem] ite_max ite_min

theorem infoSp : (Try.prog.info? 29).map (fun i => (i.zero, i.size, i.bytes)) = some (some (.agg #[.int .i64 0, .int .i64 0]), 2, 16) := by kernel_rfl

theorem f_Leaks_bad (h : Hist) (s : Spot) (x y : Int) (w : World) (hh : HistAt h s w) (hb : histB h = false) :
    Calls Try.prog 11 #[.agg #[.slice s.aw h.warm.length s.cw, .slice s.ag h.gauges.length s.cg, .slice s.af h.flows.length s.cf], .agg #[.int .i64 x, .int .i64 y]] w fun e w' => ∃ v, e = .returned (.tuple #[v, .int .i64 (34)]) ∧ w'.ownsRow w.heap.size 29 2 (v) (([] : List Sp)).length ((([] : List Sp)).flatMap Sp.cells) ∧ Kept w w' := by
  have HE := Lib.hid (show histE h = 34 by unfold histE; rw [hb]; rfl)
  clear hb
  go_enter Try.func11, Try.ntmps11
  go_wp2_with (go_at_call 38; (with_reducible refine (f_CheckHistory h s _ (hh.later (by (exact kpt)))).mono ?_); rw [HE.out]; rintro e w1 ⟨rfl, hb1⟩; refine Blk.thru (b := w.heap.size) (arr := ?_) (t := ?_) ?_ hb1 ?_; rotate_left 2; (focus (exact blk)); intro ra; have rac0 := ra.cell 0; have raf0 := ra.free 0; have rac1 := ra.cell 1; have raf1 := ra.free 1; have rac2 := ra.cell 2; have raf2 := ra.free 2; have ral := ra.lt; simp at rac0 rac1 rac2; refine Blk.thru (b := w.heap.size + 1) (arr := ?_) (t := ?_) ?_ hb1 ?_; rotate_left 2; (focus (exact blk)); intro rc; have rcc0 := rc.cell 0; have rcf0 := rc.free 0; have rcc1 := rc.cell 1; have rcf1 := rc.free 1; have rcl := rc.lt; simp at rcc0 rcc1)
  exact bodyPost_ret (v := .tuple #[.slice none 0 0, .int .i64 34]) (by simp [results, Try.results11, go_sem]) rfl ⟨.slice none 0 0, rfl, owns_nil (α := Sp) (enc := Sp.cells), by (exact kpt)⟩

theorem f_Leaks_arg (h : Hist) (s : Spot) (x y : Int) (w : World) (hh : HistAt h s w) (hb : histB h = true) (hs : spanIn x y 0 1000000000000 = false) :
    Calls Try.prog 11 #[.agg #[.slice s.aw h.warm.length s.cw, .slice s.ag h.gauges.length s.cg, .slice s.af h.flows.length s.cf], .agg #[.int .i64 x, .int .i64 y]] w fun e w' => ∃ v, e = .returned (.tuple #[v, .int .i64 (2)]) ∧ w'.ownsRow w.heap.size 29 2 (v) (([] : List Sp)).length ((([] : List Sp)).flatMap Sp.cells) ∧ Kept w w' := by
  have HE := Lib.hid (show histE h = 0 by unfold histE; rw [hb]; rfl)
  have HS := Lib.hid hs
  clear hb hs
  go_enter Try.func11, Try.ntmps11
  go_wp2_with (first | (go_at_call 38; (with_reducible refine (f_CheckHistory h s _ (hh.later (by (exact kpt)))).mono ?_); rw [HE.out]; rintro e w1 ⟨rfl, hb1⟩; refine Blk.thru (b := w.heap.size) (arr := ?_) (t := ?_) ?_ hb1 ?_; rotate_left 2; (focus (exact blk)); intro ra; have rac0 := ra.cell 0; have raf0 := ra.free 0; have rac1 := ra.cell 1; have raf1 := ra.free 1; have rac2 := ra.cell 2; have raf2 := ra.free 2; have ral := ra.lt; simp at rac0 rac1 rac2; refine Blk.thru (b := w.heap.size + 1) (arr := ?_) (t := ?_) ?_ hb1 ?_; rotate_left 2; (focus (exact blk)); intro rc; have rcc0 := rc.cell 0; have rcf0 := rc.free 0; have rcc1 := rc.cell 1; have rcf1 := rc.free 1; have rcl := rc.lt; simp at rcc0 rcc1) | (go_at_call 22; (with_reducible refine (f_span x y _ _ _).mono ?_); rw [HS.out]; rintro e w2 ⟨rfl, hb2⟩; refine Blk.thru (b := w.heap.size) (arr := ?_) (t := ?_) ?_ hb2 ?_; rotate_left 2; (focus (exact blk)); intro rb; have rbc0 := rb.cell 0; have rbf0 := rb.free 0; have rbc1 := rb.cell 1; have rbf1 := rb.free 1; have rbc2 := rb.cell 2; have rbf2 := rb.free 2; have rbl := rb.lt; simp at rbc0 rbc1 rbc2; refine Blk.thru (b := w.heap.size + 1) (arr := ?_) (t := ?_) ?_ hb2 ?_; rotate_left 2; (focus (exact blk)); intro rd; have rdc0 := rd.cell 0; have rdf0 := rd.free 0; have rdc1 := rd.cell 1; have rdf1 := rd.free 1; have rdl := rd.lt; simp at rdc0 rdc1))
  exact bodyPost_ret (v := .tuple #[.slice none 0 0, .int .i64 2]) (by simp [results, Try.results11, go_sem]) rfl ⟨.slice none 0 0, rfl, owns_nil (α := Sp) (enc := Sp.cells), by (exact kpt)⟩

theorem f_Leaks_conf (h : Hist) (s : Spot) (x y : Int) (w : World) (hh : HistAt h s w) (hb : histB h = true) (hs : spanIn x y 0 1000000000000 = true) (hc : confE h = 0) :
    Calls Try.prog 11 #[.agg #[.slice s.aw h.warm.length s.cw, .slice s.ag h.gauges.length s.cg, .slice s.af h.flows.length s.cf], .agg #[.int .i64 x, .int .i64 y]] w fun e w' => ∃ v, e = .returned (.tuple #[v, .int .i64 (6)]) ∧ w'.ownsRow w.heap.size 29 2 (v) (([] : List Sp)).length ((([] : List Sp)).flatMap Sp.cells) ∧ Kept w w' := by
  have HE := Lib.hid (show histE h = 0 by unfold histE; rw [hb]; rfl)
  have HS := Lib.hid hs
  have HC := Lib.hid hc
  clear hb hs hc
  go_enter Try.func11, Try.ntmps11
  go_wp2_with (first | (go_at_call 38; (with_reducible refine (f_CheckHistory h s _ (hh.later (by (exact kpt)))).mono ?_); rw [HE.out]; rintro e w1 ⟨rfl, hb1⟩; refine Blk.thru (b := w.heap.size) (arr := ?_) (t := ?_) ?_ hb1 ?_; rotate_left 2; (focus (exact blk)); intro ra; have rac0 := ra.cell 0; have raf0 := ra.free 0; have rac1 := ra.cell 1; have raf1 := ra.free 1; have rac2 := ra.cell 2; have raf2 := ra.free 2; have ral := ra.lt; simp at rac0 rac1 rac2; refine Blk.thru (b := w.heap.size + 1) (arr := ?_) (t := ?_) ?_ hb1 ?_; rotate_left 2; (focus (exact blk)); intro rc; have rcc0 := rc.cell 0; have rcf0 := rc.free 0; have rcc1 := rc.cell 1; have rcf1 := rc.free 1; have rcl := rc.lt; simp at rcc0 rcc1) | (go_at_call 22; (with_reducible refine (f_span x y _ _ _).mono ?_); rw [HS.out]; rintro e w2 ⟨rfl, hb2⟩; refine Blk.thru (b := w.heap.size) (arr := ?_) (t := ?_) ?_ hb2 ?_; rotate_left 2; (focus (exact blk)); intro rb; have rbc0 := rb.cell 0; have rbf0 := rb.free 0; have rbc1 := rb.cell 1; have rbf1 := rb.free 1; have rbc2 := rb.cell 2; have rbf2 := rb.free 2; have rbl := rb.lt; simp at rbc0 rbc1 rbc2; refine Blk.thru (b := w.heap.size + 1) (arr := ?_) (t := ?_) ?_ hb2 ?_; rotate_left 2; (focus (exact blk)); intro rd; have rdc0 := rd.cell 0; have rdf0 := rd.free 0; have rdc1 := rd.cell 1; have rdf1 := rd.free 1; have rdl := rd.lt; simp at rdc0 rdc1) | (go_at_call 39; (with_reducible refine (f_Conflict h s _ (hh.later (by (exact kpt)))).mono ?_); rw [HC.out]; rintro e w3 ⟨rfl, hb3⟩; refine Blk.thru (b := w.heap.size) (arr := ?_) (t := ?_) ?_ hb3 ?_; rotate_left 2; (focus (exact blk)); intro re; have rec0 := re.cell 0; have ref0 := re.free 0; have rec1 := re.cell 1; have ref1 := re.free 1; have rec2 := re.cell 2; have ref2 := re.free 2; have rel := re.lt; simp at rec0 rec1 rec2; refine Blk.thru (b := w.heap.size + 1) (arr := ?_) (t := ?_) ?_ hb3 ?_; rotate_left 2; (focus (exact blk)); intro rg; have rgc0 := rg.cell 0; have rgf0 := rg.free 0; have rgc1 := rg.cell 1; have rgf1 := rg.free 1; have rgl := rg.lt; simp at rgc0 rgc1))
  exact bodyPost_ret (v := .tuple #[.slice none 0 0, .int .i64 6]) (by simp [results, Try.results11, go_sem]) rfl ⟨.slice none 0 0, rfl, owns_nil (α := Sp) (enc := Sp.cells), by (exact kpt)⟩

theorem f_Leaks_main (h : Hist) (s : Spot) (x y : Int) (w : World) (hh : HistAt h s w) (hb : histB h = true) (hs : spanIn x y 0 1000000000000 = true) (hc : confE h ≠ 0) :
    Calls Try.prog 11 #[.agg #[.slice s.aw h.warm.length s.cw, .slice s.ag h.gauges.length s.cg, .slice s.af h.flows.length s.cf], .agg #[.int .i64 x, .int .i64 y]] w fun e w' => ∃ v, e = .returned (.tuple #[v, .int .i64 (leaksE h x y)]) ∧ w'.ownsRow w.heap.size 29 2 (v) (leaksL h x y).length ((leaksL h x y).flatMap Sp.cells) ∧ Kept w w' := by
  have HE := Lib.hid (show histE h = 0 by unfold histE; rw [hb]; rfl)
  have ho := histB_ok hb
  have HLE := Lib.hid (leaks_free hb hs hc)
  have xy := span3 hs
  have hw1 := ho.w1
  have hw2 := ho.w2
  have hcw := hh.wc
  have hcm := hh.wm
  unfold maxLen at hcm
  have HO := Lib.hid ho
  have HS := Lib.hid hs
  have hcn : (confE h == 0) = false := by simp [hc]
  have HC := Lib.hid (Eq.refl (confE h))
  have HAB := Lib.hid (fun k hk => all_bd ho k hk)
  have HLB := Lib.hid (fun (c : Nat) (hc : c < h.warm.length) => lost_bd ho hc)
  clear hb hs hc ho
  go_enter Try.func11, Try.ntmps11
  go_wp2_with (first | (go_at_call 38; (with_reducible refine (f_CheckHistory h s _ (hh.later (by (exact kpt)))).mono ?_); rw [HE.out]; rintro e w1 ⟨rfl, hb1⟩; refine Blk.thru (b := w.heap.size) (arr := ?_) (t := ?_) ?_ hb1 ?_; rotate_left 2; (focus (exact blk)); intro ra; have rac0 := ra.cell 0; have raf0 := ra.free 0; have rac1 := ra.cell 1; have raf1 := ra.free 1; have rac2 := ra.cell 2; have raf2 := ra.free 2; have ral := ra.lt; simp at rac0 rac1 rac2; refine Blk.thru (b := w.heap.size + 1) (arr := ?_) (t := ?_) ?_ hb1 ?_; rotate_left 2; (focus (exact blk)); intro rc; have rcc0 := rc.cell 0; have rcf0 := rc.free 0; have rcc1 := rc.cell 1; have rcf1 := rc.free 1; have rcl := rc.lt; simp at rcc0 rcc1) | (go_at_call 22; (with_reducible refine (f_span x y _ _ _).mono ?_); rw [HS.out]; rintro e w2 ⟨rfl, hb2⟩; refine Blk.thru (b := w.heap.size) (arr := ?_) (t := ?_) ?_ hb2 ?_; rotate_left 2; (focus (exact blk)); intro rb; have rbc0 := rb.cell 0; have rbf0 := rb.free 0; have rbc1 := rb.cell 1; have rbf1 := rb.free 1; have rbc2 := rb.cell 2; have rbf2 := rb.free 2; have rbl := rb.lt; simp at rbc0 rbc1 rbc2; refine Blk.thru (b := w.heap.size + 1) (arr := ?_) (t := ?_) ?_ hb2 ?_; rotate_left 2; (focus (exact blk)); intro rd; have rdc0 := rd.cell 0; have rdf0 := rd.free 0; have rdc1 := rd.cell 1; have rdf1 := rd.free 1; have rdl := rd.lt; simp at rdc0 rdc1) | (go_at_call 39; (with_reducible refine (f_Conflict h s _ (hh.later (by (exact kpt)))).mono ?_); rintro e w3 ⟨rfl, hb3⟩; refine Blk.thru (b := w.heap.size) (arr := ?_) (t := ?_) ?_ hb3 ?_; rotate_left 2; (focus (exact blk)); intro re; have rec0 := re.cell 0; have ref0 := re.free 0; have rec1 := re.cell 1; have ref1 := re.free 1; have rec2 := re.cell 2; have ref2 := re.free 2; have rel := re.lt; simp at rec0 rec1 rec2; refine Blk.thru (b := w.heap.size + 1) (arr := ?_) (t := ?_) ?_ hb3 ?_; rotate_left 2; (focus (exact blk)); intro rg; have rgc0 := rg.cell 0; have rgf0 := rg.free 0; have rgc1 := rg.cell 1; have rgf1 := rg.free 1; have rgl := rg.lt; simp at rgc0 rgc1))
  refine at_world (S := fun V => Blk V w.heap.size #[.slice s.aw h.warm.length s.cw, .slice s.ag h.gauges.length s.cg, .slice s.af h.flows.length s.cf] 52 ∧ Blk V (w.heap.size + 1) #[.int .i64 x, .int .i64 y] 29 ∧ Blk V (w3.heap.size + 1) #[.int .i64 0, .int .i64 0] 29 ∧ Kept w V ∧ w3.heap.size + 1 + 1 ≤ V.heap.size) ⟨by (exact blkc), by (exact blkc), by (exact blkc), by (exact kpt), by simp⟩ ?_
  clear re rg rec0 ref0 rec1 ref1 rec2 ref2 rel rgc0 rgf0 rgc1 rgf1 rgl
  rintro V ⟨q0, q1, qt, hkV, hVs⟩
  go_loopw [9, 33] (fun l i wr => ∃ k : Nat, k ≤ h.warm.length ∧ i = .int .i64 k ∧ wr.ownsRow (w3.heap.size + 1 + 1) 29 2 l (partL h k).length ((partL h k).flatMap Sp.cells) ∧ Blk wr w.heap.size #[.slice s.aw h.warm.length s.cw, .slice s.ag h.gauges.length s.cg, .slice s.af h.flows.length s.cf] 52 ∧ Blk wr (w.heap.size + 1) #[.int .i64 x, .int .i64 y] 29 ∧ Blk wr (w3.heap.size + 1) #[.int .i64 (allLo h k), .int .i64 (allHi h k)] 29 ∧ Kept w wr ∧ w3.heap.size + 1 + 1 ≤ wr.heap.size) (fun _ i _ => h.warm.length - (intOf i).toNat)
  case atStart => exact ⟨0, Nat.zero_le _, rfl, owns_nil (α := Sp) (enc := Sp.cells), q0, q1, qt, hkV, hVs⟩
  case round =>
    clear q0 q1 qt hkV hVs
    obtain ⟨k, hk, rfl, hown, q0, q1, qt, hkr, hrs⟩ := hrel
    have hw3 := hb3.size
    by_cases hlt : k < h.warm.length
    · obtain ⟨AL, hAL⟩ : ∃ n, n = allLo h k := ⟨_, rfl⟩
      obtain ⟨AH, hAH⟩ : ∃ n, n = allHi h k := ⟨_, rfl⟩
      obtain ⟨LL, hLL⟩ : ∃ n, n = lostLo h k := ⟨_, rfl⟩
      obtain ⟨LH, hLH⟩ : ∃ n, n = lostHi h k := ⟨_, rfl⟩
      have ab := HAB.out k hk
      have lb := HLB.out k hlt
      rw [← hAL, ← hAH] at ab qt
      rw [← hLL, ← hLH] at lb
      have EL := Lib.hid hLL.symm
      have EH := Lib.hid hLH.symm
      have EAL := Lib.hid (show allLo h (k + 1) = AL + LL by rw [allLo_succ, hAL, hLL])
      have EAH := Lib.hid (show allHi h (k + 1) = AH + LH by rw [allHi_succ, hAH, hLH])
      clear hAL hAH hLL hLH
      have w1_ := i64_inH (n := AL + LL) (by omega)
      have w2_ := i64_inH (n := AH + LH) (by omega)
      have q0c0 := q0.cell 0
      have q0f0 := q0.free 0
      have q0c1 := q0.cell 1
      have q0f1 := q0.free 1
      have q0c2 := q0.cell 2
      have q0f2 := q0.free 2
      have q0l := q0.lt
      simp at q0c0 q0c1 q0c2
      have q1c0 := q1.cell 0
      have q1f0 := q1.free 0
      have q1c1 := q1.cell 1
      have q1f1 := q1.free 1
      have q1l := q1.lt
      simp at q1c0 q1c1
      have qtc0 := qt.cell 0
      have qtf0 := qt.free 0
      have qtc1 := qt.cell 1
      have qtf1 := qt.free 1
      have qtl := qt.lt
      simp at qtc0 qtc1
      have hzs : w3.heap.size + 1 < wr.heap.size := by omega
      have hpl := Lib.hid (partL_len h k)
      go_wp2_with (first | (go_at_call 40; (with_reducible refine (f_lost h s _ (hh.later (by (exact kpt))) HO.out k hlt).mono ?_); rw [EL.out, EH.out]; rintro e w4 ⟨rfl, hb4⟩; have hown4 := owns_keep hown (by with_reducible assumption); refine Blk.thru (b := w.heap.size) (arr := ?_) (t := ?_) ?_ hb4 ?_; rotate_left 2; (focus (exact blk)); intro ra; have rac0 := ra.cell 0; have raf0 := ra.free 0; have rac1 := ra.cell 1; have raf1 := ra.free 1; have rac2 := ra.cell 2; have raf2 := ra.free 2; have ral := ra.lt; simp at rac0 rac1 rac2; refine Blk.thru (b := w.heap.size + 1) (arr := ?_) (t := ?_) ?_ hb4 ?_; rotate_left 2; (focus (exact blk)); intro rb; have rbc0 := rb.cell 0; have rbf0 := rb.free 0; have rbc1 := rb.cell 1; have rbf1 := rb.free 1; have rbl := rb.lt; simp at rbc0 rbc1; refine Blk.thru (b := w3.heap.size + 1) (arr := ?_) (t := ?_) ?_ hb4 ?_; rotate_left 2; (focus (exact blk)); intro rt; have rtc0 := rt.cell 0; have rtf0 := rt.free 0; have rtc1 := rt.cell 1; have rtf1 := rt.free 1; have rtl := rt.lt; simp at rtc0 rtc1) | (at_builtin; obtain ⟨i0, hi, hz0, hz1, hz2⟩ := info_parts infoSp; refine wpList_append_own _ rfl _ _ 44 rfl (w3.heap.size + 1 + 1) 29 i0 (.agg #[.int .i64 0, .int .i64 0]) 2 16 Try.underlying44 hi hz0 hz1 hz2 rfl (by decide) _ _ _ rfl ((hown4.alloc _).alloc _) ⟨_, 0, none⟩ 1 1 [.int .i64 LL, .int .i64 LH] rfl rfl (cell_two_at (by simp) _ _ _) (fun x hx => by simp at hx; rcases hx with rfl | rfl <;> rfl) (by unfold maxLen; rw [partL_len]; omega) (by rw [partL_len]; omega) (by have := hb4.size; simp; omega) ?_; intro v9 w9 hown9 hgrow9 hnil9; clear hi hz0 hz1 hz2; have n0 := Blk.grownN (b := w.heap.size) (arr := #[.slice s.aw h.warm.length s.cw, .slice s.ag h.gauges.length s.cg, .slice s.af h.flows.length s.cf]) (t := 52) (by exact blkc) (owns_ge hown4 (by omega)) hgrow9; have n0c0 := n0.cell 0; have n0f0 := n0.free 0; have n0c1 := n0.cell 1; have n0f1 := n0.free 1; have n0c2 := n0.cell 2; have n0f2 := n0.free 2; have n0l := Blk.lt n0; simp at n0c0 n0c1 n0c2; have n1 := Blk.grownN (b := w.heap.size + 1) (arr := #[.int .i64 x, .int .i64 y]) (t := 29) (by exact blkc) (owns_ge hown4 (by omega)) hgrow9; have n1c0 := n1.cell 0; have n1f0 := n1.free 0; have n1c1 := n1.cell 1; have n1f1 := n1.free 1; have n1l := Blk.lt n1; simp at n1c0 n1c1; have nt := Blk.grownN (b := w3.heap.size + 1) (arr := #[.int .i64 AL, .int .i64 AH]) (t := 29) (by exact blkc) (owns_ge hown4 (by omega)) hgrow9; have ntc0 := nt.cell 0; have ntf0 := nt.free 0; have ntc1 := nt.cell 1; have ntf1 := nt.free 1; have ntl := Blk.lt nt; simp at ntc0 ntc1; have nx := Blk.grownN (b := w4.heap.size) (arr := #[.int .i64 LL, .int .i64 LH]) (t := 29) (by exact blkc) (owns_newer hown4 (Nat.le_refl _)) hgrow9; have nxc0 := nx.cell 0; have nxf0 := nx.free 0; have nxc1 := nx.cell 1; have nxf1 := nx.free 1; have nxl := Blk.lt nx; simp at nxc0 nxc1))
      have hown10 : w9.ownsRow (w3.heap.size + 1 + 1) 29 2 v9 (partL h (k + 1)).length ((partL h (k + 1)).flatMap Sp.cells) := by
        rw [partL_succ, List.length_append, List.flatMap_append, EL.out, EH.out]; exact hown9
      have hk9 : Kept w w9 := Kept.grownB (by exact kpt) (owns_keep hown4 (by exact kpt)) (by omega) hgrow9
      go_roundw
      case rel => exact ⟨k + 1, by omega, by go_num, owns_setB (owns_setB hown10 (owns_ge hown10 (by omega))) (owns_ge hown10 (by omega)), Blk.other (Blk.other n0 (by simp; omega) _) (by simp; omega) _, Blk.other (Blk.other n1 (by simp; omega) _) (by simp; omega) _, by rw [EAL.out, EAH.out]; exact Blk.cast ((nt.set 0 _).set 1 _) (by simp), by exact kpt, by have := hgrow9.size; have := hb4.size; simp at *; omega⟩
      case measure => simp [intOf]; omega
    · obtain rfl : k = h.warm.length := by omega
      have hown1 := hown
      rw [← mixL_zero h x y, mixL_len] at hown1
      obtain ⟨g, cap, cur, rfl, hgb, hcur, hgc, hgm⟩ := owns_block hown1 (by omega)
      have hown2 : wr.ownsRow (w3.heap.size + 1 + 1) 29 2 (.slice (some ⟨g, 0, none⟩) h.warm.length cap) (mixL h x y 0).length ((mixL h x y 0).flatMap Sp.cells) := by rw [mixL_len]; exact hown1
      clear hown hown1 hcur
      unfold maxLen at hgm
      have ab := HAB.out _ hk
      have HOB := Lib.hid (show outB h x y = (decide (y < allLo h h.warm.length) || decide (allHi h h.warm.length < x)) from rfl)
      have HLKL := Lib.hid (fun c => show leakLo h x c = max (lostLo h c) (x - allHi h h.warm.length + lostHi h c) from rfl)
      have HLKH := Lib.hid (fun c => show leakHi h y c = min (lostHi h c) (y - allLo h h.warm.length + lostLo h c) from rfl)
      obtain ⟨AL, hAL⟩ : ∃ n, n = allLo h h.warm.length := ⟨_, rfl⟩
      obtain ⟨AH, hAH⟩ : ∃ n, n = allHi h h.warm.length := ⟨_, rfl⟩
      rw [← hAL, ← hAH] at ab qt HOB
      rw [← hAH] at HLKL
      rw [← hAL] at HLKH
      clear hAL hAH
      have q0c0 := q0.cell 0
      have q0f0 := q0.free 0
      have q0c1 := q0.cell 1
      have q0f1 := q0.free 1
      have q0c2 := q0.cell 2
      have q0f2 := q0.free 2
      have q0l := q0.lt
      simp at q0c0 q0c1 q0c2
      have q1c0 := q1.cell 0
      have q1f0 := q1.free 0
      have q1c1 := q1.cell 1
      have q1f1 := q1.free 1
      have q1l := q1.lt
      simp at q1c0 q1c1
      have qtc0 := qt.cell 0
      have qtf0 := qt.free 0
      have qtc1 := qt.cell 1
      have qtf1 := qt.free 1
      have qtl := qt.lt
      simp at qtc0 qtc1
      have out : ∀ (b1 b2 : Bool), decide (y < AL) = b1 → decide (AH < x) = b2 → leaksE h x y = if b1 || b2 then 6 else 0 := fun b1 b2 e1 e2 => by rw [HLE.out, HOB.out, e1, e2]
      have HOUT := Lib.hid out
      clear out
      cases d1 : decide (y < AL)
      · cases d2 : decide (AH < x)
        · have HE0 := Lib.hid (show leaksE h x y = 0 from HOUT.out _ _ d1 d2)
          have HIN := Lib.hid (show leaksL h x y = mixL h x y h.warm.length from leaks_in HE0.out)
          go_wp2
          clear q0c0 q0f0 q0c1 q0f1 q0c2 q0f2 q0l q1c0 q1f0 q1c1 q1f1 q1l qtc0 qtf0 qtc1 qtf1 qtl d1 d2
          go_loopw [70] (fun i wq => ∃ k : Nat, k ≤ h.warm.length ∧ i = .int .i64 k ∧ wq.ownsRow (w3.heap.size + 1 + 1) 29 2 (.slice (some ⟨g, 0, none⟩) h.warm.length cap) (mixL h x y k).length ((mixL h x y k).flatMap Sp.cells) ∧ Blk wq w.heap.size #[.slice s.aw h.warm.length s.cw, .slice s.ag h.gauges.length s.cg, .slice s.af h.flows.length s.cf] 52 ∧ Blk wq (w.heap.size + 1) #[.int .i64 x, .int .i64 y] 29 ∧ Blk wq (w3.heap.size + 1) #[.int .i64 AL, .int .i64 AH] 29 ∧ Kept w wq) (fun i _ => h.warm.length - (intOf i).toNat)
          case atStart => exact ⟨0, Nat.zero_le _, rfl, hown2, q0, q1, qt, hkr⟩
          case round =>
            clear hown2 q0 q1 qt hkr
            obtain ⟨k, hk, rfl, hown, q0, q1, qt, hkr⟩ := hrel
            by_cases hlt : k < h.warm.length
            · obtain ⟨ad, cp, hve, hrow, _, _⟩ := owns_row (enc := Sp.cells) (k := 2) (fun _ => rfl) hown
              simp only [Value.slice.injEq] at hve
              obtain ⟨rfl, _, rfl⟩ := hve
              obtain ⟨bg, og, hbo, hbl, c0, c1⟩ := Sp.row hrow k (by rw [mixL_len]; exact hlt)
              simp only [Option.some.injEq, Addr.mk.injEq, and_true] at hbo
              obtain ⟨rfl, rfl⟩ := hbo
              have hml := mixL_at h x y hlt
              rw [show (mixL h x y k)[k]'(by rw [mixL_len]; exact hlt) = ⟨lostLo h k, lostHi h k⟩ from by rw [List.getElem?_eq_getElem (by rw [mixL_len]; exact hlt)] at hml; exact Option.some.inj hml] at c0 c1
              obtain ⟨LL, hLL⟩ : ∃ n, n = lostLo h k := ⟨_, rfl⟩
              obtain ⟨LH, hLH⟩ : ∃ n, n = lostHi h k := ⟨_, rfl⟩
              have lb := HLB.out k hlt
              have K1 := HLKL.out k
              have K2 := HLKH.out k
              rw [← hLL, ← hLH] at lb c0 c1 hml K1 K2
              have HK1 := Lib.hid K1
              have HK2 := Lib.hid K2
              have HML := Lib.hid hml
              have HROW := Lib.hid hown
              clear hLL hLH K1 K2 hml hrow hown
              have w1_ := i64_inH (n := x - AH) (by omega)
              have w2_ := i64_inH (n := x - AH + LH) (by omega)
              have w3_ := i64_inH (n := y - AL) (by omega)
              have w4_ := i64_inH (n := y - AL + LL) (by omega)
              simp only [Nat.zero_add] at c0 c1
              have fg0 := Blk.free (owns_cur HROW.out).2 (k * 2)
              have fg1 := Blk.free (owns_cur HROW.out).2 (k * 2 + 1)
              have q0c0 := q0.cell 0
              have q0f0 := q0.free 0
              have q0c1 := q0.cell 1
              have q0f1 := q0.free 1
              have q0c2 := q0.cell 2
              have q0f2 := q0.free 2
              have q0l := q0.lt
              simp at q0c0 q0c1 q0c2
              have q1c0 := q1.cell 0
              have q1f0 := q1.free 0
              have q1c1 := q1.cell 1
              have q1f1 := q1.free 1
              have q1l := q1.lt
              simp at q1c0 q1c1
              have qtc0 := qt.cell 0
              have qtf0 := qt.free 0
              have qtc1 := qt.cell 1
              have qtf1 := qt.free 1
              have qtl := qt.lt
              simp at qtc0 qtc1
              have ng0 : g ≠ w.heap.size + 1 := by omega
              have ng1 : w.heap.size + 1 ≠ g := by omega
              have ng2 : g ≠ w3.heap.size + 1 := by omega
              have ng3 : w3.heap.size + 1 ≠ g := by omega
              have ng4 : g ≠ wr.heap.size := by omega
              have ng5 : wr.heap.size ≠ g := by omega
              go_wp2
              have hown6 := owns_put (enc := Sp.cells) (fun _ => rfl) (i := k) (j := 0) (u := .int .i64 (max LL (x - AH + LH))) ⟨max LL (x - AH + LH), LH⟩ HROW.out HML.out (by omega) rfl
              have hown7 := owns_put (enc := Sp.cells) (fun _ => rfl) (i := k) (j := 1) (c := ⟨max LL (x - AH + LH), LH⟩) (u := .int .i64 (min LH (y - AL + LL))) ⟨max LL (x - AH + LH), min LH (y - AL + LL)⟩ hown6 (by rw [List.getElem?_set_self (by rw [mixL_len]; exact hlt)]) (by omega) rfl
              rw [List.set_set, ← HK1.out, ← HK2.out, ← mixL_succ h x y hlt] at hown7
              rw [HK1.out, HK2.out] at hown7
              go_roundw
              case rel => exact ⟨k + 1, by omega, by go_num, owns_keep (by simpa using hown7) (by exact kpt), (Blk.other (Blk.other q0 (by simp; omega) _) (by simp; omega) _).alloc _, (Blk.other (Blk.other q1 (by simp; omega) _) (by simp; omega) _).alloc _, (Blk.other (Blk.other qt (by simp; omega) _) (by simp; omega) _).alloc _, by exact kpt⟩
              case measure => simp [intOf]; omega
            · obtain rfl : k = h.warm.length := by omega
              go_wp2
              exact bodyPost_ret (v := .tuple #[.slice (some ⟨g, 0, none⟩) h.warm.length cap, .int .i64 0]) (by simp [results, Try.results11, go_sem]) rfl ⟨.slice (some ⟨g, 0, none⟩) h.warm.length cap, by rw [HE0.out], by rw [HIN.out]; exact owns_base hown (by omega), by (exact kpt)⟩
        · have HE6 := Lib.hid (show leaksE h x y = 6 from HOUT.out _ _ d1 d2)
          go_wp2
          exact bodyPost_ret (v := .tuple #[.slice none 0 0, .int .i64 6]) (by simp [results, Try.results11, go_sem]) rfl ⟨.slice none 0 0, by rw [HE6.out], by rw [leaks_out (by rw [HE6.out]; decide)]; exact owns_nil (α := Sp) (enc := Sp.cells), by (exact kpt)⟩
      · have HE6 := Lib.hid (show leaksE h x y = 6 by rw [HLE.out, HOB.out, d1]; rfl)
        go_wp2
        exact bodyPost_ret (v := .tuple #[.slice none 0 0, .int .i64 6]) (by simp [results, Try.results11, go_sem]) rfl ⟨.slice none 0 0, by rw [HE6.out], by rw [leaks_out (by rw [HE6.out]; decide)]; exact owns_nil (α := Sp) (enc := Sp.cells), by (exact kpt)⟩
theorem f_Leaks (h : Hist) (s : Spot) (x y : Int) (w : World) (hh : HistAt h s w) :
    Calls Try.prog 11 #[.agg #[.slice s.aw h.warm.length s.cw, .slice s.ag h.gauges.length s.cg, .slice s.af h.flows.length s.cf], .agg #[.int .i64 x, .int .i64 y]] w fun e w' => ∃ v, e = .returned (.tuple #[v, .int .i64 (leaksE h x y)]) ∧ w'.ownsRow w.heap.size 29 2 (v) (leaksL h x y).length ((leaksL h x y).flatMap Sp.cells) ∧ Kept w w' := by
  cases hb : histB h
  · obtain ⟨h1, h2⟩ := leaks_bad (x := x) (y := y) hb
    rw [h1, h2]
    exact f_Leaks_bad h s x y w hh hb
  · cases hs : spanIn x y 0 1000000000000
    · obtain ⟨h1, h2⟩ := leaks_arg hb hs
      rw [h1, h2]
      exact f_Leaks_arg h s x y w hh hb hs
    · by_cases hc : confE h = 0
      · obtain ⟨h1, h2⟩ := leaks_conf hb hs hc
        rw [h1, h2]
        exact f_Leaks_conf h s x y w hh hb hs hc
      · exact f_Leaks_main h s x y w hh hb hs hc

end Go.Proofs.Ytnfhcpnpjkefmaa

/-
  The cells that are named: both.
-/
namespace Go.Proofs.Ytnfhcpnpjkefmaa
open Go.RowKit Bal Bal.Trim Bal.Gas
set_option linter.unusedVariables false
set_option linter.unusedSimpArgs false
set_option maxHeartbeats 4000000
set_option maxRecDepth 100000

theorem infoIn : (Try.prog.info? 3).map (fun i => (i.zero, i.size, i.bytes)) = some (some (.int .i64 0), 1, 8) := by kernel_rfl

theorem namedTo_len (l : List Sp) : ∀ k, (namedTo l k).length ≤ k
  | 0 => Nat.le_refl _
  | k + 1 => by
    have := namedTo_len l k
    simp only [namedTo, List.length_append]
    split <;> simp <;> omega
theorem namedTo_nil : ∀ k, namedTo [] k = []
  | 0 => rfl
  | k + 1 => by
    show namedTo [] k ++ (if 0 < (([] : List Sp).getD k default).lo then [(k : Int)] else []) = []
    rw [namedTo_nil k]
    rfl

def NamedR (n : Nat) (L : List Sp) (w w1 : World) (l i : Value) (wr : World) : Prop :=
  ∃ k : Nat, k ≤ n ∧ i = .int .i64 k ∧ wr.ownsRow w1.heap.size 3 1 l (namedTo L k).length ((namedTo L k).flatMap icell) ∧ Kept w1 wr ∧ Kept w wr

theorem f_Named (h : Hist) (s : Spot) (x y : Int) (w : World) (hh : HistAt h s w) :
    Calls Try.prog 12 #[.agg #[.slice s.aw h.warm.length s.cw, .slice s.ag h.gauges.length s.cg, .slice s.af h.flows.length s.cf], .agg #[.int .i64 x, .int .i64 y]] w fun e w' => ∃ v, e = .returned (.tuple #[v, .int .i64 (leaksE h x y)]) ∧ w'.ownsRow w.heap.size 3 1 (v) (namedL h x y).length ((namedL h x y).flatMap icell) ∧ Kept w w' := by
  obtain ⟨E, hE⟩ : ∃ E, E = leaksE h x y := ⟨_, rfl⟩
  have hEc := leaks_cases h x y
  rw [← hE] at hEc ⊢
  have HE := Lib.hid hE.symm
  by_cases h0 : E = 0
  · have hl0 : (leaksL h x y).length = h.warm.length := by rw [leaks_in (by rw [HE.out]; exact h0), mixL_len]
    have hn12 : h.warm.length ≤ 12 := by
      have : histB h = true := by
        cases hb : histB h
        · have := (leaks_bad (x := x) (y := y) hb).1; rw [HE.out, h0] at this; cases this
        · rfl
      exact (histB_ok this).w2
    subst h0
    have HNL := Lib.hid (show namedL h x y = namedTo (leaksL h x y) h.warm.length from rfl)
    obtain ⟨L, hL⟩ : ∃ L, L = leaksL h x y := ⟨_, rfl⟩
    rw [← hL] at hl0 HNL
    have HL := Lib.hid hL.symm
    obtain ⟨n, hn⟩ : ∃ n, n = h.warm.length := ⟨_, rfl⟩
    rw [← hn] at hl0 hn12 HNL
    clear hE hL hEc hn
    go_enter Try.func12, Try.ntmps12
    go_wp2_with (go_at_call 11; (with_reducible refine (f_Leaks h s x y _ (hh.later (by (exact kpt)))).mono ?_); rw [HE.out]; rintro e w1 ⟨v1, rfl, ho1, hb1⟩; obtain ⟨ad, cp, rfl, hrow, hcp, hcm⟩ := owns_row (enc := Sp.cells) (k := 2) (fun _ => rfl) ho1)
    rw [HL.out] at hrow hcp
    have hlen : (leaksL h x y).length = n := by rw [HL.out]; exact hl0
    rw [hl0] at hcp
    simp only [hlen]
    clear ho1
    have HROW := Lib.hid (fun (W : World) (hW : Kept w1 W) => hrow.later hW (Nat.le_refl _))
    clear hrow
    unfold maxLen at hcm
    refine at_world (S := fun V => Kept w1 V ∧ Kept w V) ⟨by (exact kpt), by (exact kpt)⟩ ?_
    rintro V ⟨hk1, hkw⟩
    go_loopw [8, 22] (fun l i wr => NamedR n L w w1 l i wr) (fun _ i _ => n - (intOf i).toNat)
    case atStart => exact ⟨0, Nat.zero_le _, rfl, owns_nil (α := Int) (enc := icell), hk1, hkw⟩
    case round =>
      clear hk1 hkw
      obtain ⟨k, hk, rfl, hown, hkr, hkw⟩ := hrel
      have hnl := namedTo_len L k
      by_cases hlt : k < n
      · obtain ⟨bb, ob, rfl, hbb, c0, c1⟩ := Sp.row (HROW.out _ hkr) k (by rw [hl0]; exact hlt)
        have HNS := Lib.hid (show namedTo L (k + 1) = namedTo L k ++ (if 0 < (L[k]'(by rw [hl0]; exact hlt)).lo then [(k : Int)] else []) by
          show namedTo L k ++ (if 0 < (L.getD k default).lo then [(k : Int)] else []) = _
          congr 3
          simp [hl0, hlt])
        obtain ⟨z, hz⟩ : ∃ z, z = L[k]'(by rw [hl0]; exact hlt) := ⟨_, rfl⟩
        rw [← hz] at c0 c1 HNS
        clear hz
        by_cases hp : 0 < z.lo
        · have d1 : decide (0 < z.lo) = true := by simp [hp]
          have HN1 := Lib.hid (show namedTo L (k + 1) = namedTo L k ++ [(k : Int)] by rw [HNS.out, if_pos hp])
          go_wp2_with (at_builtin; obtain ⟨i0, hi, hz0, hz1, hz2⟩ := info_parts infoIn; refine wpList_append_own _ rfl _ _ 59 rfl w1.heap.size 3 i0 (.int .i64 0) 1 8 Try.underlying59 hi hz0 hz1 hz2 rfl (by decide) _ _ _ rfl (owns_keep hown (by exact kpt)) ⟨_, 0, none⟩ 1 1 [.int .i64 k] rfl rfl (cell_one_at (by simp) _ _) (fun x hx => by simp at hx; rcases hx with rfl | rfl <;> rfl) (by unfold maxLen; omega) (by omega) (by have := hkr.size; simp; omega) ?_; intro v9 w9 hown9 hgrow9 hnil9; clear hi hz0 hz1 hz2)
          have hw1 := hb1.size
          simp only [World.size_alloc] at hw1
          have hown10 : w9.ownsRow w1.heap.size 3 1 v9 (namedTo L (k + 1)).length ((namedTo L (k + 1)).flatMap icell) := by
            rw [HN1.out, List.length_append, List.flatMap_append]; exact hown9
          have hkz : Kept w1 w9 := Kept.grownB (by exact kpt) (owns_keep hown (by exact kpt)) (Nat.le_refl _) hgrow9
          have hky : Kept w w9 := Kept.grownB (by exact kpt) (owns_keep hown (by exact kpt)) (by omega) hgrow9
          go_roundw
          case rel =>
            first
            | exact ⟨k + 1, by omega, by go_num, hown10, hkz, hky⟩
            | (repeat (apply Exists.intro)
               refine ⟨?_, rfl⟩
               exact ⟨k + 1, by omega, by go_num, hown10, hkz, hky⟩)
          case measure => simp [intOf]; omega
        · have d1 : decide (0 < z.lo) = false := by simp; omega
          have HN1 := Lib.hid (show namedTo L (k + 1) = namedTo L k by rw [HNS.out, if_neg hp, List.append_nil])
          go_wp2
          go_roundw
          case rel => exact ⟨k + 1, by omega, by go_num, by rw [HN1.out]; exact owns_keep hown (by exact kpt), by exact kpt, by exact kpt⟩
          case measure => simp [intOf]; omega
      · obtain rfl : k = n := by omega
        go_wp2
        exact bodyPost_ret (by simp only [results, Try.results12]; simp [go_sem]; rfl) rfl ⟨_, rfl, by rw [HNL.out]; exact owns_base hown (by have := hb1.size; simp at this; omega), hkw⟩
  · have hNL : namedL h x y = [] := by unfold namedL; rw [leaks_out (by rw [HE.out]; exact h0)]; exact namedTo_nil _
    rw [hNL]
    have d1 : (E != 0) = true := by simp [h0]
    have d2 : (E == 0) = false := by simp [h0]
    have HOUT := Lib.hid (show leaksL h x y = [] from leaks_out (by rw [HE.out]; exact h0))
    clear hE h0
    go_enter Try.func12, Try.ntmps12
    go_wp2_with (go_at_call 11; (with_reducible refine (f_Leaks h s x y _ (hh.later (by (exact kpt)))).mono ?_); rw [HE.out]; rintro e w1 ⟨v1, rfl, ho1, hb1⟩; obtain ⟨ad, cp, rfl, hrow, hcp, hcm⟩ := owns_row (enc := Sp.cells) (k := 2) (fun _ => rfl) ho1)
    exact bodyPost_ret (v := .tuple #[.slice none 0 0, .int .i64 E]) (by simp [results, Try.results12, go_sem]) rfl ⟨.slice none 0 0, rfl, owns_nil (α := Int) (enc := icell), by (exact kpt)⟩

end Go.Proofs.Ytnfhcpnpjkefmaa

/-
  The lifts of a cell.
-/
namespace Go.Proofs.Ytnfhcpnpjkefmaa
open Go.RowKit Bal Bal.Trim Bal.Gas
set_option linter.unusedVariables false
set_option linter.unusedSimpArgs false
set_option maxHeartbeats 800000

/-- what stands around the lift's loops: the arguments' boxes, the result, the cell in air, the two superheats -/
def LiftB (w w1 W : World) (c : Cell) (a : Air) : Prop :=
  Blk W w.heap.size #[.int .i64 c.room, .int .i64 c.helium, .int .i64 c.air, .int .i64 c.wlo, .int .i64 c.whi, .int .i64 c.leak, .int .i64 c.owed] 54 ∧ Blk W (w.heap.size + 1) #[.int .i64 a.plo, .int .i64 a.phi, .int .i64 a.tlo, .int .i64 a.thi] 35 ∧ Blk W (w.heap.size + 1 + 1) #[.int .i64 0, .int .i64 0] 29 ∧ Blk W w1.heap.size #[.int .i64 c.room, .int .i64 c.helium, .int .i64 c.air, .int .i64 c.wlo, .int .i64 c.whi, .int .i64 c.leak, .int .i64 c.owed, .int .i64 a.plo, .int .i64 a.phi, .int .i64 a.tlo, .int .i64 a.thi, .int .i64 (amount c), .int .i64 (heatLo c a), .int .i64 (heatHi c a)] 92 ∧ Kept w W
theorem LiftB.keep {w w1 W W' : World} {c : Cell} {a : Air} (h : LiftB w w1 W c a) (k : Kept W W') : LiftB w w1 W' c a :=
  ⟨h.1.keep k, h.2.1.keep k, h.2.2.1.keep k, h.2.2.2.1.keep k, Kept.drop h.2.2.2.2 k⟩
theorem LiftB.grown {w w1 W W' : World} {c : Cell} {a : Air} {k n : Nat} {v : Value} {xs : List Value} (h : LiftB w w1 W c a) (ho : W.ownsRow w.heap.size 97 k v n xs) (hg : W.grownBy W' v.ownBlock) : LiftB w w1 W' c a :=
  ⟨h.1.grown ho (by decide) hg, h.2.1.grown ho (by decide) hg, h.2.2.1.grown ho (by decide) hg, h.2.2.2.1.grown ho (by decide) hg, h.2.2.2.2.grown ho (Nat.le_refl _) hg⟩
end Go.Proofs.Ytnfhcpnpjkefmaa

/-
  The outright statements of chapter 3: contracts in one value; the parts of the examples.
-/
namespace Go.Proofs.Ytnfhcpnpjkefmaa
open Go.RowKit Bal Bal.Trim Bal.Gas
set_option linter.unusedVariables false
set_option linter.unusedSimpArgs false
set_option maxHeartbeats 4000000
set_option maxRecDepth 100000

theorem f_VolumeC (c : Cell) (a : Air) (w : World) : Calls Try.prog 10 #[.agg #[.int .i64 c.room, .int .i64 c.helium, .int .i64 c.air, .int .i64 c.wlo, .int .i64 c.whi, .int .i64 c.leak, .int .i64 c.owed], .agg #[.int .i64 a.plo, .int .i64 a.phi, .int .i64 a.tlo, .int .i64 a.thi]] w fun e w' => e = .returned (.tuple #[.agg #[.int .i64 (Bal.Gas.ifOk (asked c a) (volLo c a)), .int .i64 (Bal.Gas.ifOk (asked c a) (volHi c a))], .int .i64 (asked c a)]) ∧ Kept w w' := by
  cases hv : cellB c
  · rw [show asked c a = 31 by simp [asked, hv]]
    exact f_Volume_bad c a w hv
  · cases ha : airB a
    · rw [show asked c a = 30 by simp [asked, hv, checkAir, ha]]
      exact f_Volume_air c a w hv ha
    · rw [show asked c a = 0 by simp [asked, hv, checkAir, ha]]
      exact f_Volume_ok c a w hv ha

theorem f_FitsC (c : Cell) (a : Air) (w : World) : Calls Try.prog 14 #[.agg #[.int .i64 c.room, .int .i64 c.helium, .int .i64 c.air, .int .i64 c.wlo, .int .i64 c.whi, .int .i64 c.leak, .int .i64 c.owed], .agg #[.int .i64 a.plo, .int .i64 a.phi, .int .i64 a.tlo, .int .i64 a.thi]] w fun e w' => e = .returned (.tuple #[.int .u8 (Bal.Gas.ifOk (asked c a) (state c a)), .int .i64 (asked c a)]) ∧ Kept w w' := by
  cases hv : cellB c
  · rw [show asked c a = 31 by simp [asked, hv]]
    exact f_Fits_bad c a w hv
  · cases ha : airB a
    · rw [show asked c a = 30 by simp [asked, hv, checkAir, ha]]
      exact f_Fits_air c a w hv ha
    · rw [show asked c a = 0 by simp [asked, hv, checkAir, ha]]
      exact f_Fits_ok c a w hv ha

end Go.Proofs.Ytnfhcpnpjkefmaa

/-
  An argument that is a struct of numbers, opened. No program in sight.
-/
namespace Bal
open Go Go.RowKit Go.WideShapes
section
variable {H : Type} {enc : TypeId × Value → H} {P : Program} {w : World} {base : Nat} {spare : Nat → Bool} {held : Bool}
theorem open_agg {α : Type} {enc' : α → List Value} {wf : α → Prop} {ls : List Leaf} (hdec : ∀ cs, LeavesOk ls cs → ∃ x : α, cs = enc' x ∧ wf x) {t : TypeId} {fs : Array Field} {n : Nat} {v : Value} {d : DataW H} {ps : List MemPlace} {r : Reach} {b0 : Nat}
    (ht : P.underlying t = some (.struct fs)) (hls : leaves P n t = some ls) (hval : Value.okWide P w r b0 t v) (hd : DataW.Trod enc P w base spare held t v d ps) :
    ∃ x : α, v = .agg (enc' x).toArray ∧ wf x := by
  obtain ⟨cs, rfl, _⟩ := okWide_struct ht hval
  obtain ⟨fuel, hf⟩ := hd
  obtain ⟨x, e, hw⟩ := hdec _ (leaves_ok n _ _ _ _ _ hls hf)
  refine ⟨x, ?_, hw⟩
  rw [← e]
  simp [Value.cells]
end
end Bal

/-
  A plant that came in, opened: its cells, its numbers.
-/
namespace Go.Proofs.Ytnfhcpnpjkefmaa
open Go.RowKit Go.ChangeShapes Go.WideShapes Go.ChangeAt Bal Bal.Trim Bal.Gas
set_option linter.unusedVariables false
set_option maxRecDepth 100000
theorem trod_field {H : Type} {enc : TypeId × Value → H} {P : Program} {w : World} {base fuel : Nat} {spare : Nat → Bool} {held : Bool} {fs : Array Field} {cs : List Value} {xs : List (DataW H × List MemPlace)} (hxl : xs.length = fs.size)
    (hg : ∀ (i : Nat) (f : Field), fs[i]? = some f → DataW.trod enc P w base spare held fuel f.type ((cs.drop f.offset).take (P.cellsOf f.type)) = xs[i]?) (i : Nat) (f : Field) (hi : fs[i]? = some f) :
    ∃ x, DataW.trod enc P w base spare held fuel f.type ((cs.drop f.offset).take (P.cellsOf f.type)) = some x := by
  have hlt : i < fs.size := (Array.getElem?_eq_some_iff.1 hi).1
  refine ⟨xs[i]'(by omega), ?_⟩
  rw [hg i f hi]
  exact List.getElem?_eq_getElem (by omega)
theorem pair_leaves {H : Type} {enc : TypeId × Value → H} {w : World} {base fuel : Nat} {spare : Nat → Bool} {held : Bool} {cs : List Value} {x : DataW H × List MemPlace} (h : DataW.trod enc Try.prog w base spare held fuel 24 cs = some x) :
    ∃ a b : Int, cs = [.int .i64 a, .int .i64 b] := by
  have hl := leaves_ok (P := Try.prog) 4 24 [.int .i64, .int .i64] fuel cs x (by kernel_rfl) h
  obtain ⟨hl, h⟩ := hl
  match cs, hl with
  | [v0, v1], _ =>
    obtain ⟨_, e0, n0, rfl, w0⟩ := h 0 (.int .i64) rfl; simp at e0; subst e0
    obtain ⟨_, e1, n1, rfl, w1⟩ := h 1 (.int .i64) rfl; simp at e1; subst e1
    exact ⟨n0, n1, rfl⟩
theorem open_plant {H : Type} {enc : TypeId × Value → H} {w : World} {base : Nat} {spare : Nat → Bool} {held : Bool} {v : Value} {d : DataW H} {ps : List MemPlace} {r : Reach} {b0 : Nat}
    (hval : Value.okWide Try.prog w r b0 26 v) (hd : DataW.Trod enc Try.prog w base spare held 26 v d ps) :
    ∃ (a : Option Addr) (c : Nat) (p : Plant), v = .agg (plantCells (.slice a p.cells.length c) p) ∧
      Row Cell.cells 7 w.heap.size w a p.cells ∧ p.cells.length ≤ c ∧ c ≤ maxLen ∧ (a = none → c = 0) := by
  obtain ⟨cs, rfl, hsz⟩ := okWide_struct Try.underlying26 hval
  obtain ⟨fuel, hf⟩ := hd
  obtain ⟨zs, n, _, _, hcl, hxl, hg⟩ := DataW.trod_struct Try.underlying26 hf
  have hc5 : Try.prog.cellsOf 26 = 10 := by kernel_rfl
  have k1 : Try.prog.cellsOf 3 = 1 := by kernel_rfl
  have k2 : Try.prog.cellsOf 22 = 1 := by kernel_rfl
  have k3 : Try.prog.cellsOf 24 = 2 := by kernel_rfl
  obtain ⟨x0, h0⟩ := trod_field hxl hg 0 _ rfl
  obtain ⟨x1, h1⟩ := trod_field hxl hg 1 _ rfl
  obtain ⟨x2, h2⟩ := trod_field hxl hg 2 _ rfl
  obtain ⟨x3, h3⟩ := trod_field hxl hg 3 _ rfl
  obtain ⟨x4, h4⟩ := trod_field hxl hg 4 _ rfl
  obtain ⟨x5, h5⟩ := trod_field hxl hg 5 _ rfl
  have g0 : DataW.trod enc Try.prog w base spare held n 22 (((Value.agg cs).cells.toList.drop 0).take (Try.prog.cellsOf 22)) = some x0 := h0
  have g1 : DataW.trod enc Try.prog w base spare held n 3 (((Value.agg cs).cells.toList.drop 1).take (Try.prog.cellsOf 3)) = some x1 := h1
  have g2 : DataW.trod enc Try.prog w base spare held n 24 (((Value.agg cs).cells.toList.drop 2).take (Try.prog.cellsOf 24)) = some x2 := h2
  have g3 : DataW.trod enc Try.prog w base spare held n 24 (((Value.agg cs).cells.toList.drop 4).take (Try.prog.cellsOf 24)) = some x3 := h3
  have g4 : DataW.trod enc Try.prog w base spare held n 24 (((Value.agg cs).cells.toList.drop 6).take (Try.prog.cellsOf 24)) = some x4 := h4
  have g5 : DataW.trod enc Try.prog w base spare held n 24 (((Value.agg cs).cells.toList.drop 8).take (Try.prog.cellsOf 24)) = some x5 := h5
  clear h0 h1 h2 h3 h4 h5
  rw [k2] at g0
  rw [k1] at g1
  rw [k3] at g2 g3 g4 g5
  obtain ⟨a, c, xs, e0, hl0, hm0, row0, _, z0⟩ := open_typed (n := 4) (fun _ h => Cell.of_leaves h) Try.underlying22 (by kernel_rfl) (by kernel_rfl) (by decide) g0
  obtain ⟨q1, e1, _, _⟩ := DataW.trod_int Try.underlying3 g1
  obtain ⟨q2h, q2a, e2⟩ := pair_leaves g2
  obtain ⟨q3h, q3a, e3⟩ := pair_leaves g3
  obtain ⟨q4h, q4a, e4⟩ := pair_leaves g4
  obtain ⟨q5h, q5a, e5⟩ := pair_leaves g5
  refine ⟨a, c, ⟨xs, q1, q2h, q2a, q3h, q3a, q4h, q4a, q5h, q5a⟩, ?_, row0, hl0, hm0, z0⟩
  obtain ⟨l⟩ := cs
  rw [hc5] at hsz
  match l, hsz with
  | [c0, c1, c2, c3, c4, c5, c6, c7, c8, c9], _ =>
    simp [Value.cells] at e0 e1 e2 e3 e4 e5
    simp [plantCells, e0, e1, e2, e3, e4, e5]
end Go.Proofs.Ytnfhcpnpjkefmaa

/-
  A history that came in, opened: superheats, gauges with their volumes, flows.
-/
namespace Go.Proofs.Ytnfhcpnpjkefmaa
open Go.RowKit Go.ChangeShapes Go.WideShapes Go.ChangeAt Bal Bal.Trim Bal.Gas
set_option linter.unusedVariables false
set_option maxRecDepth 100000
/-- a slice whose elements are known by what their reading shows -/
theorem open_rows {H : Type} {enc : TypeId × Value → H} {P : Program} {w : World} {base fuel : Nat} {spare : Nat → Bool} {held : Bool} {t e : TypeId} {cs : List Value} {x : DataW H × List MemPlace} {ok : List Value → Prop} {k : Nat}
    (hok : ∀ q cs x, DataW.trod enc P w base spare held q e cs = some x → ok cs) (hlen : ∀ cs, ok cs → cs.length = k) (ht : P.underlying t = some (.slice e)) (hk : P.cellsOf e = k) (hne : 0 < k)
    (h : DataW.trod enc P w base spare held fuel t cs = some x) :
    ∃ (a : Option Addr) (cap : Nat) (xs : List (List Value)), cs = [.slice a xs.length cap] ∧ xs.length ≤ cap ∧ cap ≤ maxLen ∧ Row id k w.heap.size w a xs ∧ (∀ x ∈ xs, ok x) ∧ (a = none → cap = 0) := by
  rcases Go.Deep.open_slice ht h with ⟨rfl, _⟩ | ⟨a, len, cap, m, q, D, Pl, rfl, hb, hl, hm, hmm, _, hi⟩
  · exact ⟨none, 0, [], rfl, by simp, by simp [maxLen], Row.nil, by simp, fun _ => rfl⟩
  · have hlm : len ≤ m := by subst hmm; split <;> omega
    obtain ⟨f, hf⟩ := Go.Deep.choose_lt (n := len) (p := fun i cs' => w.cells? base (a.add (i * P.cellsOf e)) (P.cellsOf e) = some cs' ∧ DataW.trod enc P w base spare held q e cs' = some (D i, Pl i)) (fun i hil => hi i (by omega))
    have hfl : ∀ i, i < len → (f i).length = k := fun i hil => hlen _ (hok _ _ _ (hf i hil).2)
    refine ⟨some a, cap, (List.range len).map f, by simp, by simpa using hl, hm, ?_, ?_, by simp⟩
    · intro i y hy
      have hil : i < len := by
        have := (List.getElem?_eq_some_iff.1 hy).1
        simpa using this
      simp [hil] at hy
      subst hy
      have hsp : a.spot = none := by
        obtain ⟨hc, ht'⟩ := hf 0 (by omega)
        have hl0 := hfl 0 (by omega)
        obtain ⟨_, hcl, hat⟩ := World.cells?_some hc
        have h1 := hat 0 (by omega)
        have hv : (f 0)[0]? = some ((f 0)[0]'(by omega)) := List.getElem?_eq_getElem (by omega)
        rw [hv] at h1
        have := World.cell?_spot h1
        simpa [Addr.add] using this
      obtain ⟨ab, ao, asp⟩ := a
      simp at hsp
      subst hsp
      obtain ⟨hc, ht'⟩ := hf i hil
      have hli := hfl i hil
      obtain ⟨_, hcl, hat⟩ := World.cells?_some hc
      have hat' : ∀ j, j < k → w.cell? ⟨ab, ao + i * k + j, none⟩ = (f i)[j]? := by
        intro j hj
        have h1 := hat j (by omega)
        rw [Go.Deep.add_add, hk] at h1
        rw [← h1]
        congr 1
        unfold Addr.add
        split
        · rename_i h0
          have h3 : ao + i * k + j = ao := by omega
          rw [h3]
        · simp [Nat.add_assoc]
      refine ⟨ab, ao, rfl, ?_, fun j v hj => ?_⟩
      · have h0 := hat' 0 hne
        have hv : (f i)[0]? = some ((f i)[0]'(by omega)) := List.getElem?_eq_getElem (by omega)
        rw [hv] at h0
        rcases Nat.lt_or_ge ab w.heap.size with h' | h'
        · exact h'
        · simp [World.cell?, Array.getElem?_eq_none h'] at h0
      · have hjl : j < (f i).length := (List.getElem?_eq_some_iff.1 hj).1
        rw [hat' j (by omega)]
        exact hj
    · intro y hy
      simp at hy
      obtain ⟨i, hil, rfl⟩ := hy
      exact hok _ _ _ (hf i hil).2
end Go.Proofs.Ytnfhcpnpjkefmaa

/-
  A history that is drawn step by step, in memory: two rows of numbers that may be written, a history whose three slices grow. No program in sight.
-/
namespace Bal.Gas
open Go Go.RowKit Bal Bal.Trim
set_option linter.unusedVariables false
def ints (l : List Int) : Array Value := (l.map (Value.int .i64)).toArray
end Bal.Gas
namespace Bal
open Go Go.RowKit
theorem Blk.grownLt {w w' : World} {b base k n : Nat} {arr : Array Value} {t e : TypeId} {v : Value} {xs : List Value} (h : Blk w b arr t) (hb : b < base) (ho : w.ownsRow base e k v n xs) (hg : w.grownBy w' v.ownBlock) : Blk w' b arr t := by
  have hl := h.lt
  unfold Blk at *
  rw [hg.block b hl ?_]
  · exact h
  · intro he
    obtain ⟨_, ⟨rfl, _⟩ | ⟨g, cap, cur, rfl, hbg, hh, _⟩⟩ := ho
    · cases he
    · simp only [Value.ownBlock, Option.some.injEq] at he
      omega
end Bal
namespace Bal.Gas
open Go Go.RowKit Bal Bal.Trim
theorem owns_grownT {w w' : World} {base k n base' k' n' : Nat} {e e' : TypeId} {v v' : Value} {xs xs' : List Value} (ho : w.ownsRow base e k v n xs) (ho' : w.ownsRow base' e' k' v' n' xs') (hne : e ≠ e') (hg : w.grownBy w' v'.ownBlock) : w'.ownsRow base e k v n xs := by
  obtain ⟨h1, h2 | ⟨g, cap, cur, hv, hb, hh, r⟩⟩ := ho
  · exact ⟨h1, .inl h2⟩
  · exact ⟨h1, .inr ⟨g, cap, cur, hv, hb, Blk.grown (show Blk w g cur e from hh) ho' hne hg, r⟩⟩
theorem owns_shape {w : World} {base k n : Nat} {e : TypeId} {v : Value} {xs : List Value} (h : w.ownsRow base e k v n xs) : ∃ ad cp, v = .slice ad n cp := by
  obtain ⟨_, ⟨rfl, rfl⟩ | ⟨g, cap, cur, rfl, _⟩⟩ := h
  · exact ⟨none, 0, rfl⟩
  · exact ⟨_, _, rfl⟩
def gvV (g : Gauge) : Value := .slice (gv g) g.vols.length g.vc
/-- the state of the drawing: the air's box, the superheat's box, the history, the amounts, what was lost; B: where the call's own rows begin -/
structure NSt (TA TS TH TI TG TF : TypeId) (B b7 b8 b13 bA bL : Nat) (x : Air) (wl wh : Int) (w wr : World) (vw vg vf : Value) (am lo : List Int) (W : List Sp) (G : List Gauge) (F : List Flow) : Prop where
  l7 : b7 < B
  l8 : b8 < B
  l13 : b13 < B
  lA : bA < B
  lL : bL < B
  n7 : b7 ≠ b13 ∧ b7 ≠ bA ∧ b7 ≠ bL
  n8 : b8 ≠ b13 ∧ b8 ≠ bA ∧ b8 ≠ bL
  n13 : b13 ≠ bA ∧ b13 ≠ bL
  nA : bA ≠ bL
  b0 : w.heap.size ≤ b13 ∧ w.heap.size ≤ bA ∧ w.heap.size ≤ bL
  hB : B ≤ wr.heap.size
  air : Blk wr b7 #[.int .i64 x.plo, .int .i64 x.phi, .int .i64 x.tlo, .int .i64 x.thi] TA
  wm : Blk wr b8 #[.int .i64 wl, .int .i64 wh] TS
  hist : Blk wr b13 #[vw, vg, vf] TH
  am : Blk wr bA (ints am) TI
  lo : Blk wr bL (ints lo) TI
  ow : wr.ownsRow B TS 2 vw W.length (W.flatMap Sp.cells)
  og : wr.ownsRow B TG 6 vg G.length (G.flatMap Gauge.cells)
  of : wr.ownsRow B TF 3 vf F.length (F.flatMap Flow.cells)
  vols : ∀ g ∈ G, wr.ownsRow B TS 2 (gvV g) g.vols.length (g.vols.flatMap Sp.cells)
  kept : Kept w wr
section
variable {TA TS TH TI TG TF : TypeId} {B b7 b8 b13 bA bL : Nat} {x : Air} {wl wh : Int} {w wr : World} {vw vg vf : Value} {am lo : List Int} {W : List Sp} {G : List Gauge} {F : List Flow}
theorem NSt.keep (h : NSt TA TS TH TI TG TF B b7 b8 b13 bA bL x wl wh w wr vw vg vf am lo W G F) {w' : World} (hb : Kept wr w') : NSt TA TS TH TI TG TF B b7 b8 b13 bA bL x wl wh w w' vw vg vf am lo W G F :=
  ⟨h.l7, h.l8, h.l13, h.lA, h.lL, h.n7, h.n8, h.n13, h.nA, h.b0, Nat.le_trans h.hB hb.size, h.air.keep hb, h.wm.keep hb, h.hist.keep hb, h.am.keep hb, h.lo.keep hb, owns_keep h.ow hb, owns_keep h.og hb, owns_keep h.of hb, fun g hg => owns_keep (h.vols g hg) hb, Kept.drop h.kept hb⟩
/-- what has been drawn, as a history -/
theorem NSt.at_ (h : NSt TA TS TH TI TG TF B b7 b8 b13 bA bL x wl wh w wr vw vg vf am lo W G F) : ∃ s : Spot, #[vw, vg, vf] = histV s ⟨W, G, F⟩ ∧ ∀ w', Kept wr w' → HistAt ⟨W, G, F⟩ s w' := by
  obtain ⟨aw, cw, rfl, r1, c1, d1⟩ := owns_row (enc := Sp.cells) (k := 2) (fun _ => rfl) h.ow
  obtain ⟨ag, cg, rfl, r2, c2, d2⟩ := owns_row (enc := Gauge.cells) (k := 6) (fun _ => rfl) h.og
  obtain ⟨af, cf, rfl, r3, c3, d3⟩ := owns_row (enc := Flow.cells) (k := 3) (fun _ => rfl) h.of
  refine ⟨⟨aw, ag, af, cw, cg, cf⟩, rfl, fun w' hk => HistAt.later ⟨r1, r2, r3, fun g hg => ?_, c1, c2, c3, d1, d2, d3, fun g hg => ?_⟩ hk⟩
  · obtain ⟨a4, c4, e4, r4, _, _⟩ := owns_row (enc := Sp.cells) (k := 2) (fun _ => rfl) (h.vols g hg)
    unfold gvV at e4
    injection e4 with e5 e6 e7
    rw [e5]
    exact r4
  · obtain ⟨a4, c4, e4, r4, c5, d5⟩ := owns_row (enc := Sp.cells) (k := 2) (fun _ => rfl) (h.vols g hg)
    unfold gvV at e4
    injection e4 with e5 e6 e7
    rw [e7]
    exact ⟨c5, d5⟩
end
/-- the gauges of the first k steps -/
def GOk (start : List Int) (sts : List (List Int)) (x : Air) (wl wide : Int) (G : List Gauge) (k : Nat) : Prop :=
  G.length = k + 1 ∧ ∀ i, i < k + 1 → (G.getD i default).time = 10 * i ∧ (G.getD i default).air = x ∧ (G.getD i default).vols = (Dr.after start sts i).am.map (gV x wl wide)
theorem GOk.zero {start : List Int} {sts : List (List Int)} {x : Air} {wl wide : Int} {b c : Nat} : GOk start sts x wl wide [⟨0, x, some (b, 0, none), c, start.map (gV x wl wide)⟩] 0 := by
  refine ⟨rfl, fun i hi => ?_⟩
  obtain rfl : i = 0 := by omega
  exact ⟨rfl, rfl, rfl⟩
theorem GOk.push {start : List Int} {sts : List (List Int)} {x : Air} {wl wide : Int} {G : List Gauge} {k b c : Nat} (h : GOk start sts x wl wide G k) : GOk start sts x wl wide (G ++ [⟨10 * k + 10, x, some (b, 0, none), c, (Dr.after start sts (k + 1)).am.map (gV x wl wide)⟩]) (k + 1) := by
  obtain ⟨h1, h2⟩ := h
  refine ⟨by simp [h1], fun i hi => ?_⟩
  by_cases e : i < k + 1
  · have := h2 i e
    rw [List.getD_eq_getElem?_getD, List.getElem?_append_left (by omega), ← List.getD_eq_getElem?_getD]
    exact this
  · obtain rfl : i = k + 1 := by omega
    rw [List.getD_eq_getElem?_getD, List.getElem?_append_right (by omega), h1]
    simp
    omega
end Bal.Gas

/-
  The words of a string that is known sign by sign: for the facts on how a program was made. No program in sight.
-/
namespace Bal
open Go
theorem words_cons : ∀ (w r : List Char), w.all (fun c => c != Char.ofNat 32) = true → wordsSigns (w ++ Char.ofNat 32 :: r) = w :: wordsSigns r
  | [], r, _ => by simp [wordsSigns]
  | c :: w, r, h => by
    simp only [List.all_cons, Bool.and_eq_true, bne_iff_ne, ne_eq] at h
    obtain ⟨h1, h2⟩ := h
    have ih := words_cons w r h2
    rw [List.cons_append]
    simp [wordsSigns, ih]
theorem words_last : ∀ (w : List Char), w.all (fun c => c != Char.ofNat 32) = true → wordsSigns w = [w]
  | [], _ => by simp [wordsSigns]
  | c :: w, h => by
    simp only [List.all_cons, Bool.and_eq_true, bne_iff_ne, ne_eq] at h
    obtain ⟨h1, h2⟩ := h
    simp [wordsSigns, words_last w h2]
/-! A program that was cut, behind a harness. (With the program a variable the kernel never unfolds it.) -/
section
variable {P : Program} {w0 w1 : List Char} {r : List (List Char)}
theorem behind_cut (h : wordsSigns P.initOrder.toList = w0 :: w1 :: [Char.ofNat 99, Char.ofNat 117, Char.ofNat 116] :: r) (h0 : w0 = "harness".toList) (h1 : isSumSigns w1 = true) : behindMainWord (wordsSigns P.initOrder.toList) = [Char.ofNat 99, Char.ofNat 117, Char.ofNat 116] :: r := by
  rw [h]
  have e : (w0 == "harness".toList) = true := by rw [h0]; simp
  simp only [behindMainWord, e, h1, Bool.true_or, Bool.and_self, if_true]
theorem make_cut (h : wordsSigns P.initOrder.toList = w0 :: w1 :: [Char.ofNat 99, Char.ofNat 117, Char.ofNat 116] :: r) (h0 : w0 = "harness".toList) (h1 : isSumSigns w1 = true) : P.make = some .cut := by
  unfold Program.make
  rw [behind_cut h h0 h1]
  rfl
theorem lifts_cut (h : wordsSigns P.initOrder.toList = w0 :: w1 :: [Char.ofNat 99, Char.ofNat 117, Char.ofNat 116] :: r) (h0 : w0 = "harness".toList) (h1 : isSumSigns w1 = true) : P.liftsFinal = false := by
  unfold Program.liftsFinal Program.headLifts
  rw [behind_cut h h0 h1]
  rfl
theorem enter_cut (h : wordsSigns P.initOrder.toList = w0 :: w1 :: [Char.ofNat 99, Char.ofNat 117, Char.ofNat 116] :: r) (h0 : w0 = "harness".toList) (h1 : isSumSigns w1 = true) (l : P.laysLater = false) (b : P.bearsReflect = false) (d : P.doorFits [] = true) : P.mayEnter = true := by
  unfold Program.mayEnter
  rw [behind_cut h h0 h1]
  have e : stripLifts liftWords ([Char.ofNat 99, Char.ofNat 117, Char.ofNat 116] :: r) = ([], [Char.ofNat 99, Char.ofNat 117, Char.ofNat 116] :: r) := rfl
  simp only [e, l, b, d]
  rfl
end
end Bal

/-
  How the program was made: its words, and what follows for every row of the seat.
-/
namespace Go.Proofs.Ytnfhcpnpjkefmaa
open Bal
set_option maxRecDepth 100000
def initW0 : List Char := List.map Char.ofNat [104, 97, 114, 110, 101, 115, 115]
def initW1 : List Char := List.map Char.ofNat [99, 100, 49, 52, 54, 57, 99, 98, 56, 55, 57, 48, 50, 97, 57, 100, 50, 102, 48, 51, 98, 53, 100, 53, 102, 102, 52, 52, 48, 52, 52, 102, 97, 53, 49, 101, 50, 98, 97, 100, 100, 55, 98, 56, 55, 57, 50, 102, 57, 102, 56, 53, 53, 57, 98, 52, 49, 98, 99, 52, 52, 52, 54, 98]
def initW2 : List Char := List.map Char.ofNat [99, 117, 116]
def initW3 : List Char := List.map Char.ofNat [97, 116]
def initW4 : List Char := List.map Char.ofNat [98, 97, 108, 108, 111, 110, 101, 116, 47, 98, 97, 108, 108, 111, 110, 101, 116, 116, 111, 112, 46, 84, 111, 112, 71, 97, 117, 103, 101, 100]
def initL : List Char := initW0 ++ Char.ofNat 32 :: (initW1 ++ Char.ofNat 32 :: (initW2 ++ Char.ofNat 32 :: (initW3 ++ Char.ofNat 32 :: initW4)))
theorem init_is : Try.prog.initOrder = String.ofList initL := by kernel_rfl
theorem init_words : wordsSigns Try.prog.initOrder.toList = [initW0, initW1, initW2, initW3, initW4] := by
  rw [init_is, String.toList_ofList]
  unfold initL
  rw [words_cons _ _ (by decide), words_cons _ _ (by decide), words_cons _ _ (by decide), words_cons _ _ (by decide), words_last _ (by decide)]
theorem init_cut : wordsSigns Try.prog.initOrder.toList = initW0 :: initW1 :: [Char.ofNat 99, Char.ofNat 117, Char.ofNat 116] :: [initW3, initW4] := init_words
theorem init_sum : isSumSigns initW1 = true := by decide
theorem make_is : Try.prog.make = some .cut := make_cut init_cut rfl init_sum
theorem liftsFinal_is : Try.prog.liftsFinal = false := lifts_cut init_cut rfl init_sum
theorem mayEnter_is : Try.prog.mayEnter = true := enter_cut init_cut rfl init_sum (by kernel_rfl) (by kernel_rfl) (by kernel_rfl)
end Go.Proofs.Ytnfhcpnpjkefmaa

/-
  Bounds of numbers that came in.
-/
namespace Go.Proofs.Ytnfhcpnpjkefmaa
open Go Go.RowKit
theorem wf_u16 {n : Int} (h : (Lit.int .u16 n).wf = true) : 0 ≤ n ∧ n ≤ 65535 := by
  simp only [Lit.wf, Bool.and_eq_true, decide_eq_true_eq] at h
  have e1 : IntKind.min .u16 = 0 := by decide
  have e2 : IntKind.max .u16 = 65535 := by decide
  rw [e1, e2] at h
  exact h
theorem wf_u8o {n : Int} (h : (Lit.int .u8 n).wf = true) : 0 ≤ n ∧ n ≤ 255 := by
  simp only [Lit.wf, Bool.and_eq_true, decide_eq_true_eq] at h
  have e1 : IntKind.min .u8 = 0 := by decide
  have e2 : IntKind.max .u8 = 255 := by decide
  rw [e1, e2] at h
  exact h
theorem wf_i64 {n : Int} (h : (Lit.int .i64 n).wf = true) : -9223372036854775808 ≤ n ∧ n ≤ 9223372036854775807 := by
  simp only [Lit.wf, Bool.and_eq_true, decide_eq_true_eq] at h
  have e1 : IntKind.min .i64 = -9223372036854775808 := by decide
  have e2 : IntKind.max .i64 = 9223372036854775807 := by decide
  rw [e1, e2] at h
  exact h
end Go.Proofs.Ytnfhcpnpjkefmaa

/-
  The contracts of chapter 3 that the statement on gauges leans on:
  f_Do f_VolumeC f_FitsC f_CheckAir f_CheckCell f_Check f_Leaks f_Named r_Check f_Volume_ok f_Fits_ok open_plant open_typed open_rows open_agg wf_u16 wf_u8o wf_i64 wf_u8 mayEnter_is liftsFinal_is make_is
  Row Own owns_put owns_row owns_block owns_cur owns_base owns_lt wpAny_rel wpAny_dp0 tailIn regionIn held_vol span_bd copyO copy wpList_copy wpList_copyO owns_made owns_nil owns_keep owns_grownT owns_shape grownLt grown grownN grownB
  int_of_leaves Deed Cell Air Sp Flow Gauge of_leaves row Mine plantCells later_mix tail region at_world at_worldR at_worldQ blk blkc blkd blk0 kpt kpt0 blkx kptx own thru wpSteps_want wpSteps_any later_dies held_walk
  conf_none conf_some told_bd al_bd tt_mono come_bd come_split clash_told leaks_in leaks_out leaks_free leaks_cases lost_bd all_bd histB_ok histB_true okG_parts sizesB_iff amtE namedL namedTo_mem need_le can_ge plantB_iff cellB_iff airB_iff prod_bd mul_bd div_bd spanIn_iff ceil_bd pull_bd HistAt later
  resA_len kept_cell kept_books doE_cases argB_iff err_arg ticks_booked ticks_at leakK_bd leakK_same tickTo_at allLo_succ allHi_succ cf_none
-/
namespace Go.Proofs.Ytnfhcpnpjkefmaa
open Go.RowKit Bal Bal.Trim Bal.Gas
end Go.Proofs.Ytnfhcpnpjkefmaa
