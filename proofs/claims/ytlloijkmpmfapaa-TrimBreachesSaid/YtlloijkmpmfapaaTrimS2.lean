/-
  The check of a breach, in the reference.
-/
import Derived.Test.YtlloijkmpmfapaaTrimS
namespace Go.Proofs.Ytlloijkmpmfapaa
open Go.RowKit Bal Bal.Trim
set_option linter.unusedVariables false
set_option linter.unusedSimpArgs false
set_option maxHeartbeats 800000

set_option maxRecDepth 10000

def RCheckRel (w : World) (i : Nat) (ab : Option Addr) (cp : Nat) (xs : List Load) (ps : List Put) (s : Value) (wr : World) : Prop :=
  ∃ k : Nat, k ≤ xs.length ∧ s = .int .i64 k ∧ (∀ j, j < k → badAt xs ps j = false) ∧ Blk wr w.heap.size #[.int .i64 i, .slice ab xs.length cp] 36 ∧ Kept w wr

theorem r_CheckBreach (a : Option Addr) (cap : Nat) (xs : List Load) (b : Option Addr) (cb : Nat) (ms : List Limit) (w : World) (hx : Row Load.cells 4 w.heap.size w a xs) (hc : xs.length ≤ cap) (hM : cap ≤ maxLen) (hy : Row Limit.cells 3 w.heap.size w b ms) (hd : ms.length ≤ cb) (hN : cb ≤ maxLen) (n : Int) (ab : Option Addr) (cp : Nat) (ps : List Put) (hp : Row Put.cells 2 w.heap.size w ab ps) (hpc : ps.length ≤ cp) (hpM : cp ≤ maxLen) :
    Calls Try.prog 29 #[.slice a xs.length cap, .slice b ms.length cb, .agg #[.int .i64 n, .slice ab ps.length cp]] w fun e w' => e = .returned (.int .i64 (proofE xs ms n ps)) ∧ Kept w w' := by
  unfold proofE
  by_cases he : both xs ms = 0
  · rw [if_pos he]
    obtain ⟨he1, he2⟩ := both_ok he
    obtain ⟨hn, hv⟩ := checkLoads_ok he1
    obtain ⟨hn2, hv2⟩ := checkLimits_ok he2
    have HE := Lib.hid he
    clear he he1 he2
    unfold maxLen at hpM
    have hMM := hM
    have hNN := hN
    unfold maxLen at hMM hNN
    cases hr : inB n 0 (ms.length - 1)
    · have HR := Lib.hid hr
      simp only [Bool.false_and, Bool.false_eq_true, if_false]
      clear hr
      go_enter Try.func29, Try.ntmps29
      go_wp2_with (first | (go_at_call 73; (with_reducible refine (r_asked _ _ _ _ _ _ _ (hx.later (by (repeat (first | with_reducible exact Below.refl _ _ | with_reducible assumption | with_reducible refine Kept.drop ?_ (by with_reducible assumption) | with_reducible refine Kept.alloc ?_ _ | ((with_reducible refine Below.setCell ?_ ?_ _); rotate_left 1; (focus (first | exact Nat.le_refl _ | (simp; done) | (simp; omega) | exact Below.size (by with_reducible assumption) | (refine Kept.size ?_; (repeat (first | with_reducible exact Below.refl _ _ | with_reducible assumption | with_reducible refine Kept.drop ?_ (by with_reducible assumption) | with_reducible refine Kept.alloc ?_ _ | with_reducible refine Below.drew ?_)))))) | with_reducible refine Below.drew ?_))) (Nat.le_refl _)) hc hM (hy.later (by (repeat (first | with_reducible exact Below.refl _ _ | with_reducible assumption | with_reducible refine Kept.drop ?_ (by with_reducible assumption) | with_reducible refine Kept.alloc ?_ _ | ((with_reducible refine Below.setCell ?_ ?_ _); rotate_left 1; (focus (first | exact Nat.le_refl _ | (simp; done) | (simp; omega) | exact Below.size (by with_reducible assumption) | (refine Kept.size ?_; (repeat (first | with_reducible exact Below.refl _ _ | with_reducible assumption | with_reducible refine Kept.drop ?_ (by with_reducible assumption) | with_reducible refine Kept.alloc ?_ _ | with_reducible refine Below.drew ?_)))))) | with_reducible refine Below.drew ?_))) (Nat.le_refl _)) hd hN).mono ?_); rw [HE.out]; rintro e w1 ⟨rfl, hb1⟩; obtain ⟨hc1, hf1, hl1⟩ := bcell3 hb1; refine Blk.thru (b := w.heap.size) (arr := ?_) (t := ?_) ?_ hb1 ?_; rotate_left 2; (focus (repeat (first | with_reducible assumption | ((with_reducible refine Blk.new' ?_); first | with_reducible rfl | (simp; done) | (simp [World.drew]; done)) | with_reducible refine Blk.alloc ?_ _ | ((with_reducible refine Blk.set (arr := ?_) ?_ _ _); rotate_left 1) | ((with_reducible refine Blk.other ?_ ?_ _); rotate_left 1; (focus (first | (simp; done) | (simp; omega) | (refine Nat.ne_of_gt (Blk.lt (arr := ?_) (t := ?_) ?_); rotate_left 2; focus (repeat (first | with_reducible assumption | ((with_reducible refine Blk.new' ?_); first | with_reducible rfl | (simp; done) | (simp [World.drew]; done)) | with_reducible refine Blk.alloc ?_ _ | with_reducible refine Blk.keep ?_ (by with_reducible assumption) | with_reducible refine Blk.drew ?_))) | (refine Nat.ne_of_lt (Blk.lt (arr := ?_) (t := ?_) ?_); rotate_left 2; focus (repeat (first | with_reducible assumption | ((with_reducible refine Blk.new' ?_); first | with_reducible rfl | (simp; done) | (simp [World.drew]; done)) | with_reducible refine Blk.alloc ?_ _ | with_reducible refine Blk.keep ?_ (by with_reducible assumption) | with_reducible refine Blk.drew ?_)))))) | with_reducible refine Blk.keep ?_ (by with_reducible assumption) | with_reducible refine Blk.drew ?_))); intro qb; have qbc0 := qb.cell 0; have qbf0 := qb.free 0; have qbc1 := qb.cell 1; have qbf1 := qb.free 1; have qbl := qb.lt; simp at qbc0 qbc1) | (go_at_call 70; (with_reducible refine (r_within _ _ _ _).mono ?_); rw [HR.out]; rintro e w2 ⟨rfl, rfl⟩))
      go_ret
      exact ⟨rfl, by (repeat (first | with_reducible exact Below.refl _ _ | with_reducible assumption | with_reducible refine Kept.drop ?_ (by with_reducible assumption) | with_reducible refine Kept.alloc ?_ _ | ((with_reducible refine Below.setCell ?_ ?_ _); rotate_left 1; (focus (first | exact Nat.le_refl _ | (simp; done) | (simp; omega) | exact Below.size (by with_reducible assumption) | (refine Kept.size ?_; (repeat (first | with_reducible exact Below.refl _ _ | with_reducible assumption | with_reducible refine Kept.drop ?_ (by with_reducible assumption) | with_reducible refine Kept.alloc ?_ _ | with_reducible refine Below.drew ?_)))))) | with_reducible refine Below.drew ?_))⟩
    · by_cases hl : ps.length = xs.length
      · have hr' := inB_iff.1 hr
        obtain ⟨i, rfl⟩ : ∃ i : Nat, n = i := ⟨n.toNat, by omega⟩
        have hi : i < ms.length := by omega
        simp only [hl, Int.toNat_natCast, List.getElem?_eq_getElem hi, decide_true, Bool.and_true, if_true]
        have HM := Lib.hid (hv2 ms[i] (List.getElem_mem hi))
        obtain ⟨bm, om, rfl, hbm, l0, l1, l2⟩ := Limit.row hy i hi
        obtain ⟨m, hm0⟩ : ∃ m, m = ms[i] := ⟨_, rfl⟩
        rw [← hm0] at HM l0 l1 l2 ⊢
        clear hm0
        have HR := Lib.hid hr
        have HV := Lib.hid hv
        have L0 : ∀ V, Kept w V → _ := fun V (h : Kept w V) => (h.cell (p := ⟨bm, om + i * 3, none⟩) hbm).trans l0
        have L1 : ∀ V, Kept w V → _ := fun V (h : Kept w V) => (h.cell (p := ⟨bm, om + i * 3 + 1, none⟩) hbm).trans l1
        have L2 : ∀ V, Kept w V → _ := fun V (h : Kept w V) => (h.cell (p := ⟨bm, om + i * 3 + 2, none⟩) hbm).trans l2
        clear hr hv hv2
        go_enter Try.func29, Try.ntmps29
        go_wp2_with (first | (go_at_call 73; (with_reducible refine (r_asked _ _ _ _ _ _ _ (hx.later (by (repeat (first | with_reducible exact Below.refl _ _ | with_reducible assumption | with_reducible refine Kept.drop ?_ (by with_reducible assumption) | with_reducible refine Kept.alloc ?_ _ | ((with_reducible refine Below.setCell ?_ ?_ _); rotate_left 1; (focus (first | exact Nat.le_refl _ | (simp; done) | (simp; omega) | exact Below.size (by with_reducible assumption) | (refine Kept.size ?_; (repeat (first | with_reducible exact Below.refl _ _ | with_reducible assumption | with_reducible refine Kept.drop ?_ (by with_reducible assumption) | with_reducible refine Kept.alloc ?_ _ | with_reducible refine Below.drew ?_)))))) | with_reducible refine Below.drew ?_))) (Nat.le_refl _)) hc hM (hy.later (by (repeat (first | with_reducible exact Below.refl _ _ | with_reducible assumption | with_reducible refine Kept.drop ?_ (by with_reducible assumption) | with_reducible refine Kept.alloc ?_ _ | ((with_reducible refine Below.setCell ?_ ?_ _); rotate_left 1; (focus (first | exact Nat.le_refl _ | (simp; done) | (simp; omega) | exact Below.size (by with_reducible assumption) | (refine Kept.size ?_; (repeat (first | with_reducible exact Below.refl _ _ | with_reducible assumption | with_reducible refine Kept.drop ?_ (by with_reducible assumption) | with_reducible refine Kept.alloc ?_ _ | with_reducible refine Below.drew ?_)))))) | with_reducible refine Below.drew ?_))) (Nat.le_refl _)) hd hN).mono ?_); rw [HE.out]; rintro e w1 ⟨rfl, hb1⟩; obtain ⟨hc1, hf1, hl1⟩ := bcell3 hb1; refine Blk.thru (b := w.heap.size) (arr := ?_) (t := ?_) ?_ hb1 ?_; rotate_left 2; (focus (repeat (first | with_reducible assumption | ((with_reducible refine Blk.new' ?_); first | with_reducible rfl | (simp; done) | (simp [World.drew]; done)) | with_reducible refine Blk.alloc ?_ _ | ((with_reducible refine Blk.set (arr := ?_) ?_ _ _); rotate_left 1) | ((with_reducible refine Blk.other ?_ ?_ _); rotate_left 1; (focus (first | (simp; done) | (simp; omega) | (refine Nat.ne_of_gt (Blk.lt (arr := ?_) (t := ?_) ?_); rotate_left 2; focus (repeat (first | with_reducible assumption | ((with_reducible refine Blk.new' ?_); first | with_reducible rfl | (simp; done) | (simp [World.drew]; done)) | with_reducible refine Blk.alloc ?_ _ | with_reducible refine Blk.keep ?_ (by with_reducible assumption) | with_reducible refine Blk.drew ?_))) | (refine Nat.ne_of_lt (Blk.lt (arr := ?_) (t := ?_) ?_); rotate_left 2; focus (repeat (first | with_reducible assumption | ((with_reducible refine Blk.new' ?_); first | with_reducible rfl | (simp; done) | (simp [World.drew]; done)) | with_reducible refine Blk.alloc ?_ _ | with_reducible refine Blk.keep ?_ (by with_reducible assumption) | with_reducible refine Blk.drew ?_)))))) | with_reducible refine Blk.keep ?_ (by with_reducible assumption) | with_reducible refine Blk.drew ?_))); intro qb; have qbc0 := qb.cell 0; have qbf0 := qb.free 0; have qbc1 := qb.cell 1; have qbf1 := qb.free 1; have qbl := qb.lt; simp at qbc0 qbc1) | (go_at_call 70; (with_reducible refine (r_within _ _ _ _).mono ?_); rw [HR.out]; rintro e w2 ⟨rfl, rfl⟩))
        go_loopw [8] (fun s wr => RCheckRel w i ab cp xs ps s wr) (fun s _ => xs.length - (intOf s).toNat)
        case atStart => exact ⟨0, Nat.zero_le _, rfl, fun j hj => by omega, by (repeat (first | with_reducible assumption | ((with_reducible refine Blk.new' ?_); first | with_reducible rfl | (simp; done) | (simp [World.drew]; done)) | with_reducible refine Blk.alloc ?_ _ | ((with_reducible refine Blk.set (arr := ?_) ?_ _ _); rotate_left 1) | ((with_reducible refine Blk.other ?_ ?_ _); rotate_left 1; (focus (first | (simp; done) | (simp; omega) | (refine Nat.ne_of_gt (Blk.lt (arr := ?_) (t := ?_) ?_); rotate_left 2; focus (repeat (first | with_reducible assumption | ((with_reducible refine Blk.new' ?_); first | with_reducible rfl | (simp; done) | (simp [World.drew]; done)) | with_reducible refine Blk.alloc ?_ _ | with_reducible refine Blk.keep ?_ (by with_reducible assumption) | with_reducible refine Blk.drew ?_))) | (refine Nat.ne_of_lt (Blk.lt (arr := ?_) (t := ?_) ?_); rotate_left 2; focus (repeat (first | with_reducible assumption | ((with_reducible refine Blk.new' ?_); first | with_reducible rfl | (simp; done) | (simp [World.drew]; done)) | with_reducible refine Blk.alloc ?_ _ | with_reducible refine Blk.keep ?_ (by with_reducible assumption) | with_reducible refine Blk.drew ?_)))))) | with_reducible refine Blk.keep ?_ (by with_reducible assumption) | with_reducible refine Blk.drew ?_)), by (repeat (first | with_reducible exact Below.refl _ _ | with_reducible assumption | with_reducible refine Kept.drop ?_ (by with_reducible assumption) | with_reducible refine Kept.alloc ?_ _ | ((with_reducible refine Below.setCell ?_ ?_ _); rotate_left 1; (focus (first | exact Nat.le_refl _ | (simp; done) | (simp; omega) | exact Below.size (by with_reducible assumption) | (refine Kept.size ?_; (repeat (first | with_reducible exact Below.refl _ _ | with_reducible assumption | with_reducible refine Kept.drop ?_ (by with_reducible assumption) | with_reducible refine Kept.alloc ?_ _ | with_reducible refine Below.drew ?_)))))) | with_reducible refine Below.drew ?_))⟩
        case round =>
          clear hc1 hf1 hl1 qbc0 qbc1 qbf0 qbf1 qbl qb
          obtain ⟨k, hk, rfl, hno, q0, hkk⟩ := hrel
          have HNO := Lib.hid hno
          clear hno
          by_cases hlt : k < xs.length
          · have hlp : k < ps.length := by omega
            obtain ⟨bx, ox, rfl, hbx, x0, x1, x2, x3⟩ := Load.row hx k hlt
            obtain ⟨bp, op, rfl, hbp, p0, p1⟩ := Put.row hp k hlp
            have HBA := Lib.hid (badAt_at hlt hlp)
            have HBADK := Lib.hid (fun hb => @proof_bad xs m ps k hlt HNO.out hb)
            obtain ⟨x, hx0⟩ : ∃ x, x = xs[k] := ⟨_, rfl⟩
            obtain ⟨p, hp0⟩ : ∃ p, p = ps[k] := ⟨_, rfl⟩
            rw [← hx0] at HBA x0 x1 x2 x3
            rw [← hp0] at HBA p0 p1
            clear hx0 hp0
            have X0 : ∀ V, Kept w V → _ := fun V (h : Kept w V) => (h.cell (p := ⟨bx, ox + k * 4, none⟩) hbx).trans x0
            have X1 : ∀ V, Kept w V → _ := fun V (h : Kept w V) => (h.cell (p := ⟨bx, ox + k * 4 + 1, none⟩) hbx).trans x1
            have X2 : ∀ V, Kept w V → _ := fun V (h : Kept w V) => (h.cell (p := ⟨bx, ox + k * 4 + 2, none⟩) hbx).trans x2
            have X3 : ∀ V, Kept w V → _ := fun V (h : Kept w V) => (h.cell (p := ⟨bx, ox + k * 4 + 3, none⟩) hbx).trans x3
            have P0 : ∀ V, Kept w V → _ := fun V (h : Kept w V) => (h.cell (p := ⟨bp, op + k * 2, none⟩) hbp).trans p0
            have P1 : ∀ V, Kept w V → _ := fun V (h : Kept w V) => (h.cell (p := ⟨bp, op + k * 2 + 1, none⟩) hbp).trans p1
            clear x0 x1 x2 x3 p0 p1
            cases h1 : inB p.pos x.alo x.ahi
            · have R1 := Lib.hid (fun w => (by have := r_within p.pos x.alo x.ahi w; rwa [h1] at this : Calls Try.prog 70 #[.int .i64 p.pos, .int .i64 x.alo, .int .i64 x.ahi] w fun e w' => e = .returned (.bool false) ∧ w = w'))
              have HB := Lib.hid (HBADK.out (by rw [HBA.out]; simp [putIn, h1]))
              clear h1
              go_upto_region 9 with fail
              have y0 := fun g : Later wr => X0 _ (Kept.drop hkk g.ok)
              have y1 := fun g : Later wr => X1 _ (Kept.drop hkk g.ok)
              have y2 := fun g : Later wr => X2 _ (Kept.drop hkk g.ok)
              have y3 := fun g : Later wr => X3 _ (Kept.drop hkk g.ok)
              have t0 := fun g : Later wr => P0 _ (Kept.drop hkk g.ok)
              have t1 := fun g : Later wr => P1 _ (Kept.drop hkk g.ok)
              have q0c0 := fun g : Later wr => (q0.later g).cell 0
              have q0f0 := fun g : Later wr => (q0.later g).free 0
              have q0c1 := fun g : Later wr => (q0.later g).cell 1
              have q0f1 := fun g : Later wr => (q0.later g).free 1
              have q0l := fun g : Later wr => (q0.later g).lt
              simp at q0c0 q0c1
              refine Later.region (by kernel_rfl) (by kernel_rfl) ?_
              repeat (first | go_big_quiet_skip | (go_big_quiet_want; go_big_quiet_op; first | go_big_quiet_on | (apply Exists.intro; refine ⟨fun g => ?_, ?_⟩; (focus (first | (go_at_call 70; with_reducible exact Later.call_same (R1.out _)))); go_big_quiet_on)))
              refine wpQuiet_nil ?_
              intro gg
              have hkgg := Kept.drop hkk gg.ok
              go_wp2
              go_ret
              exact ⟨ret_int HB.out.symm, by (repeat (first | with_reducible exact Below.refl _ _ | with_reducible assumption | with_reducible refine Kept.drop ?_ (by with_reducible assumption) | with_reducible refine Kept.alloc ?_ _ | ((with_reducible refine Below.setCell ?_ ?_ _); rotate_left 1; (focus (first | exact Nat.le_refl _ | (simp; done) | (simp; omega) | exact Below.size (by with_reducible assumption) | (refine Kept.size ?_; (repeat (first | with_reducible exact Below.refl _ _ | with_reducible assumption | with_reducible refine Kept.drop ?_ (by with_reducible assumption) | with_reducible refine Kept.alloc ?_ _ | with_reducible refine Below.drew ?_)))))) | with_reducible refine Below.drew ?_))⟩
            · cases h2 : inB p.wt x.wlo x.whi
              · have R1 := Lib.hid (fun w => (by have := r_within p.pos x.alo x.ahi w; rwa [h1] at this : Calls Try.prog 70 #[.int .i64 p.pos, .int .i64 x.alo, .int .i64 x.ahi] w fun e w' => e = .returned (.bool true) ∧ w = w'))
                have R2 := Lib.hid (fun w => (by have := r_within p.wt x.wlo x.whi w; rwa [h2] at this : Calls Try.prog 70 #[.int .i64 p.wt, .int .i64 x.wlo, .int .i64 x.whi] w fun e w' => e = .returned (.bool false) ∧ w = w'))
                have HB := Lib.hid (HBADK.out (by rw [HBA.out]; simp [putIn, h1, h2]))
                clear h1 h2
                go_upto_region 9 with fail
                have y0 := fun g : Later wr => X0 _ (Kept.drop hkk g.ok)
                have y1 := fun g : Later wr => X1 _ (Kept.drop hkk g.ok)
                have y2 := fun g : Later wr => X2 _ (Kept.drop hkk g.ok)
                have y3 := fun g : Later wr => X3 _ (Kept.drop hkk g.ok)
                have t0 := fun g : Later wr => P0 _ (Kept.drop hkk g.ok)
                have t1 := fun g : Later wr => P1 _ (Kept.drop hkk g.ok)
                have q0c0 := fun g : Later wr => (q0.later g).cell 0
                have q0f0 := fun g : Later wr => (q0.later g).free 0
                have q0c1 := fun g : Later wr => (q0.later g).cell 1
                have q0f1 := fun g : Later wr => (q0.later g).free 1
                have q0l := fun g : Later wr => (q0.later g).lt
                simp at q0c0 q0c1
                refine Later.region (by kernel_rfl) (by kernel_rfl) ?_
                repeat (first | go_big_quiet_skip | (go_big_quiet_want; go_big_quiet_op; first | go_big_quiet_on | (apply Exists.intro; refine ⟨fun g => ?_, ?_⟩; (focus (first | (go_at_call 70; with_reducible exact Later.call_same (R1.out _)) | (go_at_call 70; with_reducible exact Later.call_same (R2.out _)))); go_big_quiet_on)))
                refine wpQuiet_nil ?_
                intro gg
                have hkgg := Kept.drop hkk gg.ok
                go_wp2
                go_ret
                exact ⟨ret_int HB.out.symm, by (repeat (first | with_reducible exact Below.refl _ _ | with_reducible assumption | with_reducible refine Kept.drop ?_ (by with_reducible assumption) | with_reducible refine Kept.alloc ?_ _ | ((with_reducible refine Below.setCell ?_ ?_ _); rotate_left 1; (focus (first | exact Nat.le_refl _ | (simp; done) | (simp; omega) | exact Below.size (by with_reducible assumption) | (refine Kept.size ?_; (repeat (first | with_reducible exact Below.refl _ _ | with_reducible assumption | with_reducible refine Kept.drop ?_ (by with_reducible assumption) | with_reducible refine Kept.alloc ?_ _ | with_reducible refine Below.drew ?_)))))) | with_reducible refine Below.drew ?_))⟩
              · have R1 := Lib.hid (fun w => (by have := r_within p.pos x.alo x.ahi w; rwa [h1] at this : Calls Try.prog 70 #[.int .i64 p.pos, .int .i64 x.alo, .int .i64 x.ahi] w fun e w' => e = .returned (.bool true) ∧ w = w'))
                have R2 := Lib.hid (fun w => (by have := r_within p.wt x.wlo x.whi w; rwa [h2] at this : Calls Try.prog 70 #[.int .i64 p.wt, .int .i64 x.wlo, .int .i64 x.whi] w fun e w' => e = .returned (.bool true) ∧ w = w'))
                have HGOOD := Lib.hid (show badAt xs ps k = false by rw [HBA.out]; simp [putIn, h1, h2])
                clear h1 h2
                go_upto_region 9 with fail
                have y0 := fun g : Later wr => X0 _ (Kept.drop hkk g.ok)
                have y1 := fun g : Later wr => X1 _ (Kept.drop hkk g.ok)
                have y2 := fun g : Later wr => X2 _ (Kept.drop hkk g.ok)
                have y3 := fun g : Later wr => X3 _ (Kept.drop hkk g.ok)
                have t0 := fun g : Later wr => P0 _ (Kept.drop hkk g.ok)
                have t1 := fun g : Later wr => P1 _ (Kept.drop hkk g.ok)
                have q0c0 := fun g : Later wr => (q0.later g).cell 0
                have q0f0 := fun g : Later wr => (q0.later g).free 0
                have q0c1 := fun g : Later wr => (q0.later g).cell 1
                have q0f1 := fun g : Later wr => (q0.later g).free 1
                have q0l := fun g : Later wr => (q0.later g).lt
                simp at q0c0 q0c1
                refine Later.region (by kernel_rfl) (by kernel_rfl) ?_
                repeat (first | go_big_quiet_skip | (go_big_quiet_want; go_big_quiet_op; first | go_big_quiet_on | (apply Exists.intro; refine ⟨fun g => ?_, ?_⟩; (focus (first | (go_at_call 70; with_reducible exact Later.call_same (R1.out _)) | (go_at_call 70; with_reducible exact Later.call_same (R2.out _)))); go_big_quiet_on)))
                refine wpQuiet_nil ?_
                intro gg
                have hkgg := Kept.drop hkk gg.ok
                go_wp2
                go_round
                case rel =>
                  refine ⟨k + 1, by omega, by go_num, ?_, q0.later gg, by (repeat (first | with_reducible exact Below.refl _ _ | with_reducible assumption | with_reducible refine Kept.drop ?_ (by with_reducible assumption) | with_reducible refine Kept.alloc ?_ _ | ((with_reducible refine Below.setCell ?_ ?_ _); rotate_left 1; (focus (first | exact Nat.le_refl _ | (simp; done) | (simp; omega) | exact Below.size (by with_reducible assumption) | (refine Kept.size ?_; (repeat (first | with_reducible exact Below.refl _ _ | with_reducible assumption | with_reducible refine Kept.drop ?_ (by with_reducible assumption) | with_reducible refine Kept.alloc ?_ _ | with_reducible refine Below.drew ?_)))))) | with_reducible refine Below.drew ?_))⟩
                  intro j hj
                  by_cases hjk : j < k
                  · exact HNO.out j hjk
                  · obtain rfl : j = k := by omega
                    exact HGOOD.out
                case measure => simp [intOf]; omega
          · obtain rfl : k = xs.length := by omega
            have HG := Lib.hid (@proof_good xs m ps HNO.out)
            have hpa := take_B hl HV.out (Nat.le_refl _) HNO.out
            rw [← hl, List.take_length] at hpa
            have HPA := Lib.hid hpa
            have HPL := Lib.hid (show ps.length ≤ 60 by omega)
            clear hpa
            have hpl : ps.length = xs.length := hl
            by_cases hcv : value m ps ≤ m.c
            · have HR2 := Lib.hid (show proofIn xs m ps = 47 by rw [HG.out, if_pos hcv])
              go_upto_region 11 with fail
              have q0c0 := fun g : Later wr => (q0.later g).cell 0
              have q0f0 := fun g : Later wr => (q0.later g).free 0
              have q0c1 := fun g : Later wr => (q0.later g).cell 1
              have q0f1 := fun g : Later wr => (q0.later g).free 1
              have q0l := fun g : Later wr => (q0.later g).lt
              simp at q0c0 q0c1
              have y0 := fun g : Later wr => L0 _ (Kept.drop hkk g.ok)
              have y1 := fun g : Later wr => L1 _ (Kept.drop hkk g.ok)
              have y2 := fun g : Later wr => L2 _ (Kept.drop hkk g.ok)
              refine Later.region (by kernel_rfl) (by kernel_rfl) ?_
              repeat (first | go_big_quiet_skip | (go_big_quiet_want; go_big_quiet_op; first | go_big_quiet_on | (apply Exists.intro; refine ⟨fun g => ?_, ?_⟩; (focus (first | (go_at_call 77; exact Later.call (r_Value m _ xs.length _ ps _ hl (hp.later (Kept.drop hkk g.ok) (Nat.le_refl _)) HPL.out HM.out HPA.out)))); go_big_quiet_on)))
              refine wpQuiet_nil ?_
              intro gg
              have hkgg := Kept.drop hkk gg.ok
              go_wp2
              go_ret
              exact ⟨ret_int HR2.out.symm, by (repeat (first | with_reducible exact Below.refl _ _ | with_reducible assumption | with_reducible refine Kept.drop ?_ (by with_reducible assumption) | with_reducible refine Kept.alloc ?_ _ | ((with_reducible refine Below.setCell ?_ ?_ _); rotate_left 1; (focus (first | exact Nat.le_refl _ | (simp; done) | (simp; omega) | exact Below.size (by with_reducible assumption) | (refine Kept.size ?_; (repeat (first | with_reducible exact Below.refl _ _ | with_reducible assumption | with_reducible refine Kept.drop ?_ (by with_reducible assumption) | with_reducible refine Kept.alloc ?_ _ | with_reducible refine Below.drew ?_)))))) | with_reducible refine Below.drew ?_))⟩
            · have HR2 := Lib.hid (show proofIn xs m ps = 0 by rw [HG.out, if_neg hcv])
              go_upto_region 11 with fail
              have q0c0 := fun g : Later wr => (q0.later g).cell 0
              have q0f0 := fun g : Later wr => (q0.later g).free 0
              have q0c1 := fun g : Later wr => (q0.later g).cell 1
              have q0f1 := fun g : Later wr => (q0.later g).free 1
              have q0l := fun g : Later wr => (q0.later g).lt
              simp at q0c0 q0c1
              have y0 := fun g : Later wr => L0 _ (Kept.drop hkk g.ok)
              have y1 := fun g : Later wr => L1 _ (Kept.drop hkk g.ok)
              have y2 := fun g : Later wr => L2 _ (Kept.drop hkk g.ok)
              refine Later.region (by kernel_rfl) (by kernel_rfl) ?_
              repeat (first | go_big_quiet_skip | (go_big_quiet_want; go_big_quiet_op; first | go_big_quiet_on | (apply Exists.intro; refine ⟨fun g => ?_, ?_⟩; (focus (first | (go_at_call 77; exact Later.call (r_Value m _ xs.length _ ps _ hl (hp.later (Kept.drop hkk g.ok) (Nat.le_refl _)) HPL.out HM.out HPA.out)))); go_big_quiet_on)))
              refine wpQuiet_nil ?_
              intro gg
              have hkgg := Kept.drop hkk gg.ok
              go_wp2
              go_ret
              exact ⟨ret_int HR2.out.symm, by (repeat (first | with_reducible exact Below.refl _ _ | with_reducible assumption | with_reducible refine Kept.drop ?_ (by with_reducible assumption) | with_reducible refine Kept.alloc ?_ _ | ((with_reducible refine Below.setCell ?_ ?_ _); rotate_left 1; (focus (first | exact Nat.le_refl _ | (simp; done) | (simp; omega) | exact Below.size (by with_reducible assumption) | (refine Kept.size ?_; (repeat (first | with_reducible exact Below.refl _ _ | with_reducible assumption | with_reducible refine Kept.drop ?_ (by with_reducible assumption) | with_reducible refine Kept.alloc ?_ _ | with_reducible refine Below.drew ?_)))))) | with_reducible refine Below.drew ?_))⟩
      · simp only [hl, decide_false, Bool.and_false, Bool.false_eq_true, if_false]
        have HR := Lib.hid hr
        have hl' : (ps.length : Int) ≠ xs.length := by omega
        clear hr
        go_enter Try.func29, Try.ntmps29
        go_wp2_with (first | (go_at_call 73; (with_reducible refine (r_asked _ _ _ _ _ _ _ (hx.later (by (repeat (first | with_reducible exact Below.refl _ _ | with_reducible assumption | with_reducible refine Kept.drop ?_ (by with_reducible assumption) | with_reducible refine Kept.alloc ?_ _ | ((with_reducible refine Below.setCell ?_ ?_ _); rotate_left 1; (focus (first | exact Nat.le_refl _ | (simp; done) | (simp; omega) | exact Below.size (by with_reducible assumption) | (refine Kept.size ?_; (repeat (first | with_reducible exact Below.refl _ _ | with_reducible assumption | with_reducible refine Kept.drop ?_ (by with_reducible assumption) | with_reducible refine Kept.alloc ?_ _ | with_reducible refine Below.drew ?_)))))) | with_reducible refine Below.drew ?_))) (Nat.le_refl _)) hc hM (hy.later (by (repeat (first | with_reducible exact Below.refl _ _ | with_reducible assumption | with_reducible refine Kept.drop ?_ (by with_reducible assumption) | with_reducible refine Kept.alloc ?_ _ | ((with_reducible refine Below.setCell ?_ ?_ _); rotate_left 1; (focus (first | exact Nat.le_refl _ | (simp; done) | (simp; omega) | exact Below.size (by with_reducible assumption) | (refine Kept.size ?_; (repeat (first | with_reducible exact Below.refl _ _ | with_reducible assumption | with_reducible refine Kept.drop ?_ (by with_reducible assumption) | with_reducible refine Kept.alloc ?_ _ | with_reducible refine Below.drew ?_)))))) | with_reducible refine Below.drew ?_))) (Nat.le_refl _)) hd hN).mono ?_); rw [HE.out]; rintro e w1 ⟨rfl, hb1⟩; obtain ⟨hc1, hf1, hl1⟩ := bcell3 hb1; refine Blk.thru (b := w.heap.size) (arr := ?_) (t := ?_) ?_ hb1 ?_; rotate_left 2; (focus (repeat (first | with_reducible assumption | ((with_reducible refine Blk.new' ?_); first | with_reducible rfl | (simp; done) | (simp [World.drew]; done)) | with_reducible refine Blk.alloc ?_ _ | ((with_reducible refine Blk.set (arr := ?_) ?_ _ _); rotate_left 1) | ((with_reducible refine Blk.other ?_ ?_ _); rotate_left 1; (focus (first | (simp; done) | (simp; omega) | (refine Nat.ne_of_gt (Blk.lt (arr := ?_) (t := ?_) ?_); rotate_left 2; focus (repeat (first | with_reducible assumption | ((with_reducible refine Blk.new' ?_); first | with_reducible rfl | (simp; done) | (simp [World.drew]; done)) | with_reducible refine Blk.alloc ?_ _ | with_reducible refine Blk.keep ?_ (by with_reducible assumption) | with_reducible refine Blk.drew ?_))) | (refine Nat.ne_of_lt (Blk.lt (arr := ?_) (t := ?_) ?_); rotate_left 2; focus (repeat (first | with_reducible assumption | ((with_reducible refine Blk.new' ?_); first | with_reducible rfl | (simp; done) | (simp [World.drew]; done)) | with_reducible refine Blk.alloc ?_ _ | with_reducible refine Blk.keep ?_ (by with_reducible assumption) | with_reducible refine Blk.drew ?_)))))) | with_reducible refine Blk.keep ?_ (by with_reducible assumption) | with_reducible refine Blk.drew ?_))); intro qb; have qbc0 := qb.cell 0; have qbf0 := qb.free 0; have qbc1 := qb.cell 1; have qbf1 := qb.free 1; have qbl := qb.lt; simp at qbc0 qbc1) | (go_at_call 70; (with_reducible refine (r_within _ _ _ _).mono ?_); rw [HR.out]; rintro e w2 ⟨rfl, rfl⟩))
        go_ret
        exact ⟨rfl, by (repeat (first | with_reducible exact Below.refl _ _ | with_reducible assumption | with_reducible refine Kept.drop ?_ (by with_reducible assumption) | with_reducible refine Kept.alloc ?_ _ | ((with_reducible refine Below.setCell ?_ ?_ _); rotate_left 1; (focus (first | exact Nat.le_refl _ | (simp; done) | (simp; omega) | exact Below.size (by with_reducible assumption) | (refine Kept.size ?_; (repeat (first | with_reducible exact Below.refl _ _ | with_reducible assumption | with_reducible refine Kept.drop ?_ (by with_reducible assumption) | with_reducible refine Kept.alloc ?_ _ | with_reducible refine Below.drew ?_)))))) | with_reducible refine Below.drew ?_))⟩
  · rw [if_neg he]
    have hb : (both xs ms != 0) = true := by simp [he]
    obtain ⟨E, hEE⟩ : ∃ E, E = both xs ms := ⟨_, rfl⟩
    have HE := Lib.hid hEE.symm
    rw [← hEE] at he hb ⊢
    clear hEE
    go_enter Try.func29, Try.ntmps29
    go_wp2_with (go_at_call 73; (with_reducible refine (r_asked _ _ _ _ _ _ _ (hx.later (by (repeat (first | with_reducible exact Below.refl _ _ | with_reducible assumption | with_reducible refine Kept.drop ?_ (by with_reducible assumption) | with_reducible refine Kept.alloc ?_ _ | ((with_reducible refine Below.setCell ?_ ?_ _); rotate_left 1; (focus (first | exact Nat.le_refl _ | (simp; done) | (simp; omega) | exact Below.size (by with_reducible assumption) | (refine Kept.size ?_; (repeat (first | with_reducible exact Below.refl _ _ | with_reducible assumption | with_reducible refine Kept.drop ?_ (by with_reducible assumption) | with_reducible refine Kept.alloc ?_ _ | with_reducible refine Below.drew ?_)))))) | with_reducible refine Below.drew ?_))) (Nat.le_refl _)) hc hM (hy.later (by (repeat (first | with_reducible exact Below.refl _ _ | with_reducible assumption | with_reducible refine Kept.drop ?_ (by with_reducible assumption) | with_reducible refine Kept.alloc ?_ _ | ((with_reducible refine Below.setCell ?_ ?_ _); rotate_left 1; (focus (first | exact Nat.le_refl _ | (simp; done) | (simp; omega) | exact Below.size (by with_reducible assumption) | (refine Kept.size ?_; (repeat (first | with_reducible exact Below.refl _ _ | with_reducible assumption | with_reducible refine Kept.drop ?_ (by with_reducible assumption) | with_reducible refine Kept.alloc ?_ _ | with_reducible refine Below.drew ?_)))))) | with_reducible refine Below.drew ?_))) (Nat.le_refl _)) hd hN).mono ?_); rw [HE.out]; rintro e w1 ⟨rfl, hb1⟩; obtain ⟨hc1, hf1, hl1⟩ := bcell3 hb1; refine Blk.thru (b := w.heap.size) (arr := ?_) (t := ?_) ?_ hb1 ?_; rotate_left 2; (focus (repeat (first | with_reducible assumption | ((with_reducible refine Blk.new' ?_); first | with_reducible rfl | (simp; done) | (simp [World.drew]; done)) | with_reducible refine Blk.alloc ?_ _ | ((with_reducible refine Blk.set (arr := ?_) ?_ _ _); rotate_left 1) | ((with_reducible refine Blk.other ?_ ?_ _); rotate_left 1; (focus (first | (simp; done) | (simp; omega) | (refine Nat.ne_of_gt (Blk.lt (arr := ?_) (t := ?_) ?_); rotate_left 2; focus (repeat (first | with_reducible assumption | ((with_reducible refine Blk.new' ?_); first | with_reducible rfl | (simp; done) | (simp [World.drew]; done)) | with_reducible refine Blk.alloc ?_ _ | with_reducible refine Blk.keep ?_ (by with_reducible assumption) | with_reducible refine Blk.drew ?_))) | (refine Nat.ne_of_lt (Blk.lt (arr := ?_) (t := ?_) ?_); rotate_left 2; focus (repeat (first | with_reducible assumption | ((with_reducible refine Blk.new' ?_); first | with_reducible rfl | (simp; done) | (simp [World.drew]; done)) | with_reducible refine Blk.alloc ?_ _ | with_reducible refine Blk.keep ?_ (by with_reducible assumption) | with_reducible refine Blk.drew ?_)))))) | with_reducible refine Blk.keep ?_ (by with_reducible assumption) | with_reducible refine Blk.drew ?_))); intro qb; have qbc0 := qb.cell 0; have qbf0 := qb.free 0; have qbc1 := qb.cell 1; have qbf1 := qb.free 1; have qbl := qb.lt; simp at qbc0 qbc1)
    go_ret
    exact ⟨rfl, by (repeat (first | with_reducible exact Below.refl _ _ | with_reducible assumption | with_reducible refine Kept.drop ?_ (by with_reducible assumption) | with_reducible refine Kept.alloc ?_ _ | ((with_reducible refine Below.setCell ?_ ?_ _); rotate_left 1; (focus (first | exact Nat.le_refl _ | (simp; done) | (simp; omega) | exact Below.size (by with_reducible assumption) | (refine Kept.size ?_; (repeat (first | with_reducible exact Below.refl _ _ | with_reducible assumption | with_reducible refine Kept.drop ?_ (by with_reducible assumption) | with_reducible refine Kept.alloc ?_ _ | with_reducible refine Below.drew ?_)))))) | with_reducible refine Below.drew ?_))⟩

end Go.Proofs.Ytlloijkmpmfapaa
