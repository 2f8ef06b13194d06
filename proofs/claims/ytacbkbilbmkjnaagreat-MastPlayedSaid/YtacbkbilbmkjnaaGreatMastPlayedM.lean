/-
  MastPlayed, the statement: for every input the call returns true and leaves the input alone.
-/
import Derived.Test.YtacbkbilbmkjnaaGreatMastBaseZM
import Derived.Test.YtacbkbilbmkjnaaGreatRows
set_option linter.unusedVariables false
set_option linter.unusedSimpArgs false
/-
  MastPlayed: what Play does is what Do does: the walk.
-/
namespace Go.Proofs.YtacbkbilbmkjnaaGreat
open Go.RowKit Bal Bal.Trim Bal.Mast
set_option linter.unusedVariables false
set_option linter.unusedSimpArgs false
set_option maxHeartbeats 4000000
set_option maxRecDepth 100000

theorem played_inj {a a' : Berth} {i i' r r' e e' : Int} (h : (⟨a, i, r, e⟩ : Played) = ⟨a', i', r', e'⟩) : a = a' ∧ i = i' ∧ r = r' ∧ e = e' := by
  injection h with h1 h2 h3 h4
  exact ⟨h1, h2, h3, h4⟩
theorem law_MastPlayed (a : Option Addr) (c : Nat) (e : Option Addr) (d : Nat) (p : Port) (w : World) (sa : Option Addr) (sc : Nat) (ss : List Step) (hx : Row Axis.cells 2 w.heap.size w a p.axes) (hc : p.axes.length ≤ c) (hM : c ≤ maxLen) (hy : Row Span.cells 2 w.heap.size w e p.pulls) (hd : p.pulls.length ≤ d) (hN : d ≤ maxLen) (b : Berth) (hs0 : 0 ≤ b.ship) (hss : Row Step.cells 6 w.heap.size w sa ss) (hsl : ss.length ≤ sc) (hsm : sc ≤ maxLen) (hkk : ∀ s ∈ ss, 0 ≤ s.act.kind ∧ s.act.kind ≤ 255) : Calls Tryz.prog 8 #[.agg #[.slice a p.axes.length c, .int .i64 p.people, .int .i64 p.most, .slice e p.pulls.length d, .int .i64 p.cross], .agg #[.int .u8 b.ship, .int .i64 b.axis, .int .i64 b.held, .bool b.wire, .bool b.opn], .slice sa ss.length sc] w fun z w' => z = .returned (.bool true) ∧ Kept w w' := by
  have hM' := hM
  have hN' := hN
  have hsm' := hsm
  unfold maxLen at hM' hN' hsm'
  cases hg : (decide (40 < p.axes.length) || decide (20 < p.pulls.length))
  · have HG := Lib.hid hg
    have hn : p.axes.length ≤ 40 ∧ p.pulls.length ≤ 20 := by simp at hg; omega
    have h1 : p.axes.length ≤ 1000000 := by omega
    have h2 : p.pulls.length ≤ 1000000 := by omega
    clear hg
    by_cases c0 : 220 < ss.length
    · have c3 : (220 : Int) < (ss.length : Int) := by omega
      go_enter Tryz.func8, Tryz.ntmps8
      go_wp2_with (first | (go_at_call 11; (with_reducible refine (o_alive _).mono ?_); rintro z wA ⟨rfl, hbA⟩; refine Blk.thru (b := w.heap.size) (arr := ?_) (t := ?_) ?_ hbA ?_; rotate_left 2; (focus (exact blk)); intro r0; have r0c0 := r0.cell 0; have r0f0 := r0.free 0; have r0c1 := r0.cell 1; have r0f1 := r0.free 1; have r0c2 := r0.cell 2; have r0f2 := r0.free 2; have r0c3 := r0.cell 3; have r0f3 := r0.free 3; have r0c4 := r0.cell 4; have r0f4 := r0.free 4; have r0l := r0.lt; simp at r0c0 r0c1 r0c2 r0c3 r0c4; refine Blk.thru (b := (w.heap.size + 1)) (arr := ?_) (t := ?_) ?_ hbA ?_; rotate_left 2; (focus (exact blk)); intro r1; have r1c0 := r1.cell 0; have r1f0 := r1.free 0; have r1c1 := r1.cell 1; have r1f1 := r1.free 1; have r1c2 := r1.cell 2; have r1f2 := r1.free 2; have r1c3 := r1.cell 3; have r1f3 := r1.free 3; have r1c4 := r1.cell 4; have r1f4 := r1.free 4; have r1l := r1.lt; simp at r1c0 r1c1 r1c2 r1c3 r1c4) | (go_at_call 12; (with_reducible refine (r_Great a c p.axes p.people p.most e d p.pulls p.cross _ hM hN hc hd).mono ?_); rw [HG.out]; rintro z wG ⟨rfl, hbG⟩; refine Blk.thru (b := w.heap.size) (arr := ?_) (t := ?_) ?_ hbG ?_; rotate_left 2; (focus (exact blk)); intro r0; have r0c0 := r0.cell 0; have r0f0 := r0.free 0; have r0c1 := r0.cell 1; have r0f1 := r0.free 1; have r0c2 := r0.cell 2; have r0f2 := r0.free 2; have r0c3 := r0.cell 3; have r0f3 := r0.free 3; have r0c4 := r0.cell 4; have r0f4 := r0.free 4; have r0l := r0.lt; simp at r0c0 r0c1 r0c2 r0c3 r0c4; refine Blk.thru (b := (w.heap.size + 1)) (arr := ?_) (t := ?_) ?_ hbG ?_; rotate_left 2; (focus (exact blk)); intro r1; have r1c0 := r1.cell 0; have r1f0 := r1.free 0; have r1c1 := r1.cell 1; have r1f1 := r1.free 1; have r1c2 := r1.cell 2; have r1f2 := r1.free 2; have r1c3 := r1.cell 3; have r1f3 := r1.free 3; have r1c4 := r1.cell 4; have r1f4 := r1.free 4; have r1l := r1.lt; simp at r1c0 r1c1 r1c2 r1c3 r1c4))
      go_ret
      exact ⟨rfl, by (exact kpt)⟩
    · have c3 : ¬ (220 : Int) < (ss.length : Int) := by omega
      by_cases c1 : checkBerth p b = 0
      · have HCB := Lib.hid c1
        have HKK := Lib.hid hkk
        by_cases c2 : 200 < ss.length
        · have HX := Lib.hid (show playE p b ss = ⟨noBerth, 0, 0, 4⟩ by unfold playE; rw [if_pos c1, if_pos c2])
          have c4 : (200 : Int) < (ss.length : Int) := by omega
          have hnb : noBerth = ⟨0, 0, 0, false, false⟩ := rfl
          rw [hnb] at HX
          clear c1 hkk hnb
          go_enter Tryz.func8, Tryz.ntmps8
          go_wp2_with (first | (go_at_call 11; (with_reducible refine (o_alive _).mono ?_); rintro z wA ⟨rfl, hbA⟩; refine Blk.thru (b := w.heap.size) (arr := ?_) (t := ?_) ?_ hbA ?_; rotate_left 2; (focus (exact blk)); intro r0; have r0c0 := r0.cell 0; have r0f0 := r0.free 0; have r0c1 := r0.cell 1; have r0f1 := r0.free 1; have r0c2 := r0.cell 2; have r0f2 := r0.free 2; have r0c3 := r0.cell 3; have r0f3 := r0.free 3; have r0c4 := r0.cell 4; have r0f4 := r0.free 4; have r0l := r0.lt; simp at r0c0 r0c1 r0c2 r0c3 r0c4; refine Blk.thru (b := (w.heap.size + 1)) (arr := ?_) (t := ?_) ?_ hbA ?_; rotate_left 2; (focus (exact blk)); intro r1; have r1c0 := r1.cell 0; have r1f0 := r1.free 0; have r1c1 := r1.cell 1; have r1f1 := r1.free 1; have r1c2 := r1.cell 2; have r1f2 := r1.free 2; have r1c3 := r1.cell 3; have r1f3 := r1.free 3; have r1c4 := r1.cell 4; have r1f4 := r1.free 4; have r1l := r1.lt; simp at r1c0 r1c1 r1c2 r1c3 r1c4) | (go_at_call 12; (with_reducible refine (r_Great a c p.axes p.people p.most e d p.pulls p.cross _ hM hN hc hd).mono ?_); rw [HG.out]; rintro z wG ⟨rfl, hbG⟩; refine Blk.thru (b := w.heap.size) (arr := ?_) (t := ?_) ?_ hbG ?_; rotate_left 2; (focus (exact blk)); intro r0; have r0c0 := r0.cell 0; have r0f0 := r0.free 0; have r0c1 := r0.cell 1; have r0f1 := r0.free 1; have r0c2 := r0.cell 2; have r0f2 := r0.free 2; have r0c3 := r0.cell 3; have r0f3 := r0.free 3; have r0c4 := r0.cell 4; have r0f4 := r0.free 4; have r0l := r0.lt; simp at r0c0 r0c1 r0c2 r0c3 r0c4; refine Blk.thru (b := (w.heap.size + 1)) (arr := ?_) (t := ?_) ?_ hbG ?_; rotate_left 2; (focus (exact blk)); intro r1; have r1c0 := r1.cell 0; have r1f0 := r1.free 0; have r1c1 := r1.cell 1; have r1f1 := r1.free 1; have r1c2 := r1.cell 2; have r1f2 := r1.free 2; have r1c3 := r1.cell 3; have r1f3 := r1.free 3; have r1c4 := r1.cell 4; have r1f4 := r1.free 4; have r1l := r1.lt; simp at r1c0 r1c1 r1c2 r1c3 r1c4) | (go_at_call 15; (with_reducible refine (r_CheckBerth a c e d p _ (hx.later (by (exact kpt)) (Nat.le_refl _)) hc hM (hy.later (by (exact kpt)) (Nat.le_refl _)) hd hN h1 h2 b hs0).mono ?_); rw [HCB.out]; rintro z w1 ⟨rfl, hb1⟩; refine Blk.thru (b := w.heap.size) (arr := ?_) (t := ?_) ?_ hb1 ?_; rotate_left 2; (focus (exact blk)); intro r0; have r0c0 := r0.cell 0; have r0f0 := r0.free 0; have r0c1 := r0.cell 1; have r0f1 := r0.free 1; have r0c2 := r0.cell 2; have r0f2 := r0.free 2; have r0c3 := r0.cell 3; have r0f3 := r0.free 3; have r0c4 := r0.cell 4; have r0f4 := r0.free 4; have r0l := r0.lt; simp at r0c0 r0c1 r0c2 r0c3 r0c4; refine Blk.thru (b := (w.heap.size + 1)) (arr := ?_) (t := ?_) ?_ hb1 ?_; rotate_left 2; (focus (exact blk)); intro r1; have r1c0 := r1.cell 0; have r1f0 := r1.free 0; have r1c1 := r1.cell 1; have r1f1 := r1.free 1; have r1c2 := r1.cell 2; have r1f2 := r1.free 2; have r1c3 := r1.cell 3; have r1f3 := r1.free 3; have r1c4 := r1.cell 4; have r1f4 := r1.free 4; have r1l := r1.lt; simp at r1c0 r1c1 r1c2 r1c3 r1c4) | (go_at_call 32; (with_reducible refine (f_Play a c e d p _ sa sc ss (hx.later (by (exact kpt)) (Nat.le_refl _)) hc hM (hy.later (by (exact kpt)) (Nat.le_refl _)) hd hN h1 h2 b hs0 (hss.later (by (exact kpt)) (Nat.le_refl _)) hsl hsm HKK.out).mono ?_); rw [HX.out]; rintro z w2 ⟨rfl, hb2⟩; refine Blk.thru (b := w.heap.size) (arr := ?_) (t := ?_) ?_ hb2 ?_; rotate_left 2; (focus (exact blk)); intro r0; have r0c0 := r0.cell 0; have r0f0 := r0.free 0; have r0c1 := r0.cell 1; have r0f1 := r0.free 1; have r0c2 := r0.cell 2; have r0f2 := r0.free 2; have r0c3 := r0.cell 3; have r0f3 := r0.free 3; have r0c4 := r0.cell 4; have r0f4 := r0.free 4; have r0l := r0.lt; simp at r0c0 r0c1 r0c2 r0c3 r0c4; refine Blk.thru (b := (w.heap.size + 1)) (arr := ?_) (t := ?_) ?_ hb2 ?_; rotate_left 2; (focus (exact blk)); intro r1; have r1c0 := r1.cell 0; have r1f0 := r1.free 0; have r1c1 := r1.cell 1; have r1f1 := r1.free 1; have r1c2 := r1.cell 2; have r1f2 := r1.free 2; have r1c3 := r1.cell 3; have r1f3 := r1.free 3; have r1c4 := r1.cell 4; have r1f4 := r1.free 4; have r1l := r1.lt; simp at r1c0 r1c1 r1c2 r1c3 r1c4))
          go_ret
          exact ⟨rfl, by (exact kpt)⟩
        · have hpl0 : playE p b ss = play p b (ss.drop 0) 0 := by unfold playE; rw [if_pos c1, if_neg c2]; rfl
          obtain ⟨X, hX⟩ : ∃ X, playE p b ss = X := ⟨_, rfl⟩
          rw [hX] at hpl0
          obtain ⟨XB, XI, XR, XE⟩ := X
          have HX := Lib.hid hX
          have c4 : ¬ (200 : Int) < (ss.length : Int) := by omega
          have HP0 := Lib.hid hpl0
          clear c1 hX hkk hpl0
          go_enter Tryz.func8, Tryz.ntmps8
          go_upto_region 9 with (first | (go_at_call 11; (with_reducible refine (o_alive _).mono ?_); rintro z wA ⟨rfl, hbA⟩; refine Blk.thru (b := w.heap.size) (arr := ?_) (t := ?_) ?_ hbA ?_; rotate_left 2; (focus (exact blk)); intro r0; have r0c0 := r0.cell 0; have r0f0 := r0.free 0; have r0c1 := r0.cell 1; have r0f1 := r0.free 1; have r0c2 := r0.cell 2; have r0f2 := r0.free 2; have r0c3 := r0.cell 3; have r0f3 := r0.free 3; have r0c4 := r0.cell 4; have r0f4 := r0.free 4; have r0l := r0.lt; simp at r0c0 r0c1 r0c2 r0c3 r0c4; refine Blk.thru (b := (w.heap.size + 1)) (arr := ?_) (t := ?_) ?_ hbA ?_; rotate_left 2; (focus (exact blk)); intro r1; have r1c0 := r1.cell 0; have r1f0 := r1.free 0; have r1c1 := r1.cell 1; have r1f1 := r1.free 1; have r1c2 := r1.cell 2; have r1f2 := r1.free 2; have r1c3 := r1.cell 3; have r1f3 := r1.free 3; have r1c4 := r1.cell 4; have r1f4 := r1.free 4; have r1l := r1.lt; simp at r1c0 r1c1 r1c2 r1c3 r1c4) | (go_at_call 12; (with_reducible refine (r_Great a c p.axes p.people p.most e d p.pulls p.cross _ hM hN hc hd).mono ?_); rw [HG.out]; rintro z wG ⟨rfl, hbG⟩; refine Blk.thru (b := w.heap.size) (arr := ?_) (t := ?_) ?_ hbG ?_; rotate_left 2; (focus (exact blk)); intro r0; have r0c0 := r0.cell 0; have r0f0 := r0.free 0; have r0c1 := r0.cell 1; have r0f1 := r0.free 1; have r0c2 := r0.cell 2; have r0f2 := r0.free 2; have r0c3 := r0.cell 3; have r0f3 := r0.free 3; have r0c4 := r0.cell 4; have r0f4 := r0.free 4; have r0l := r0.lt; simp at r0c0 r0c1 r0c2 r0c3 r0c4; refine Blk.thru (b := (w.heap.size + 1)) (arr := ?_) (t := ?_) ?_ hbG ?_; rotate_left 2; (focus (exact blk)); intro r1; have r1c0 := r1.cell 0; have r1f0 := r1.free 0; have r1c1 := r1.cell 1; have r1f1 := r1.free 1; have r1c2 := r1.cell 2; have r1f2 := r1.free 2; have r1c3 := r1.cell 3; have r1f3 := r1.free 3; have r1c4 := r1.cell 4; have r1f4 := r1.free 4; have r1l := r1.lt; simp at r1c0 r1c1 r1c2 r1c3 r1c4) | (go_at_call 15; (with_reducible refine (r_CheckBerth a c e d p _ (hx.later (by (exact kpt)) (Nat.le_refl _)) hc hM (hy.later (by (exact kpt)) (Nat.le_refl _)) hd hN h1 h2 b hs0).mono ?_); rw [HCB.out]; rintro z w1 ⟨rfl, hb1⟩; refine Blk.thru (b := w.heap.size) (arr := ?_) (t := ?_) ?_ hb1 ?_; rotate_left 2; (focus (exact blk)); intro r0; have r0c0 := r0.cell 0; have r0f0 := r0.free 0; have r0c1 := r0.cell 1; have r0f1 := r0.free 1; have r0c2 := r0.cell 2; have r0f2 := r0.free 2; have r0c3 := r0.cell 3; have r0f3 := r0.free 3; have r0c4 := r0.cell 4; have r0f4 := r0.free 4; have r0l := r0.lt; simp at r0c0 r0c1 r0c2 r0c3 r0c4; refine Blk.thru (b := (w.heap.size + 1)) (arr := ?_) (t := ?_) ?_ hb1 ?_; rotate_left 2; (focus (exact blk)); intro r1; have r1c0 := r1.cell 0; have r1f0 := r1.free 0; have r1c1 := r1.cell 1; have r1f1 := r1.free 1; have r1c2 := r1.cell 2; have r1f2 := r1.free 2; have r1c3 := r1.cell 3; have r1f3 := r1.free 3; have r1c4 := r1.cell 4; have r1f4 := r1.free 4; have r1l := r1.lt; simp at r1c0 r1c1 r1c2 r1c3 r1c4) | (go_at_call 32; (with_reducible refine (f_Play a c e d p _ sa sc ss (hx.later (by (exact kpt)) (Nat.le_refl _)) hc hM (hy.later (by (exact kpt)) (Nat.le_refl _)) hd hN h1 h2 b hs0 (hss.later (by (exact kpt)) (Nat.le_refl _)) hsl hsm HKK.out).mono ?_); rw [HX.out]; rintro z w2 ⟨rfl, hb2⟩; refine Blk.thru (b := w.heap.size) (arr := ?_) (t := ?_) ?_ hb2 ?_; rotate_left 2; (focus (exact blk)); intro r0; have r0c0 := r0.cell 0; have r0f0 := r0.free 0; have r0c1 := r0.cell 1; have r0f1 := r0.free 1; have r0c2 := r0.cell 2; have r0f2 := r0.free 2; have r0c3 := r0.cell 3; have r0f3 := r0.free 3; have r0c4 := r0.cell 4; have r0f4 := r0.free 4; have r0l := r0.lt; simp at r0c0 r0c1 r0c2 r0c3 r0c4; refine Blk.thru (b := (w.heap.size + 1)) (arr := ?_) (t := ?_) ?_ hb2 ?_; rotate_left 2; (focus (exact blk)); intro r1; have r1c0 := r1.cell 0; have r1f0 := r1.free 0; have r1c1 := r1.cell 1; have r1f1 := r1.free 1; have r1c2 := r1.cell 2; have r1f2 := r1.free 2; have r1c3 := r1.cell 3; have r1f3 := r1.free 3; have r1c4 := r1.cell 4; have r1f4 := r1.free 4; have r1l := r1.lt; simp at r1c0 r1c1 r1c2 r1c3 r1c4))
          refine at_world (S := fun V => Blk V w.heap.size #[.slice a p.axes.length c, .int .i64 p.people, .int .i64 p.most, .slice e p.pulls.length d, .int .i64 p.cross] 25 ∧ Blk V (w.heap.size + 1) #[.int .u8 b.ship, .int .i64 b.axis, .int .i64 b.held, .bool b.wire, .bool b.opn] 37 ∧ Blk V w2.heap.size #[.int .u8 XB.ship, .int .i64 XB.axis, .int .i64 XB.held, .bool XB.wire, .bool XB.opn] 37 ∧ Kept w V) ⟨by (exact blk), by (exact blk), by (exact blkc), by (exact kpt)⟩ ?_
          obtain ⟨n2, hn2⟩ : ∃ n, n = w2.heap.size := ⟨_, rfl⟩
          have hn2g : w.heap.size + 1 < n2 := by rw [hn2]; first | exact r1l | (have h := r1l; simp at h; omega) | (have h := hb2.size; simp at h; omega)
          rw [← hn2]
          clear hn2 r0 r1 r0c0 r0f0 r0c1 r0f1 r0c2 r0f2 r0c3 r0f3 r0c4 r0f4 r1c0 r1f0 r1c1 r1f1 r1c2 r1f2 r1c3 r1f3 r1c4 r1f4 r0l r1l
          rintro V ⟨r0, r1, q1, hk⟩
          go_wp2
          go_loopw [58] (fun i wr => ∃ (k : Nat) (bq : Berth), k ≤ ss.length ∧ i = .int .i64 k ∧ 0 ≤ bq.ship ∧ (⟨XB, XI, XR, XE⟩ : Played) = play p bq (ss.drop k) k ∧ Blk wr w.heap.size #[.slice a p.axes.length c, .int .i64 p.people, .int .i64 p.most, .slice e p.pulls.length d, .int .i64 p.cross] 25 ∧ Blk wr (w.heap.size + 1) #[.int .u8 bq.ship, .int .i64 bq.axis, .int .i64 bq.held, .bool bq.wire, .bool bq.opn] 37 ∧ Blk wr n2 #[.int .u8 XB.ship, .int .i64 XB.axis, .int .i64 XB.held, .bool XB.wire, .bool XB.opn] 37 ∧ Kept w wr) (fun i _ => ss.length - (intOf i).toNat)
          case atStart => exact ⟨0, b, Nat.zero_le _, rfl, hs0, HP0.out, r0, r1, q1, hk⟩
          case round =>
            clear r0 r1 q1 hk HP0
            obtain ⟨k, bq, hkl, rfl, hq0, hpl, r0, r1, q1, hk⟩ := hrel
            have HPL := Lib.hid hpl
            clear hpl
            by_cases hlt : k < ss.length
            · obtain ⟨bb, off, rfl, hbb, g0, g1, g2, g3, g4, g5⟩ := Step.row (hss.later hk (Nat.le_refl _)) k hlt
              have HGO := Lib.hid (fun h => play_go (p := p) (b := bq) hlt h)
              have HNO := Lib.hid (fun h => play_no (p := p) (b := bq) hlt h)
              have hk0 := HKK.out _ (List.getElem_mem hlt)
              obtain ⟨s, hs⟩ : ∃ s, s = ss[k] := ⟨_, rfl⟩
              rw [← hs] at g0 g1 g2 g3 g4 g5 HGO HNO hk0
              clear hs
              obtain ⟨DB, hDB⟩ : ∃ x, doB p bq s = x := ⟨_, rfl⟩
              obtain ⟨DE, hDE⟩ : ∃ x, doE p bq s = x := ⟨_, rfl⟩
              obtain ⟨DR, hDR⟩ : ∃ x, doRule p bq s = x := ⟨_, rfl⟩
              have HSB := Lib.hid (show 0 ≤ DB.ship by rw [← hDB]; exact doB_ship hq0)
              have HDB := Lib.hid hDB
              have HDE := Lib.hid hDE
              have HDR := Lib.hid hDR
              clear hDB hDE hDR
              have j0 : (0 : Int) ≤ (k : Int) := by omega
              have j1 : (k : Int) < (ss.length : Int) := by omega
              by_cases he : DE = 0
              · subst he
                have HX2 := Lib.hid (HPL.out.trans (HGO.out HDE.out))
                rw [HDB.out] at HX2
                clear HGO HNO HPL
                have r0c0 := r0.cell 0
                have r0c1 := r0.cell 1
                have r0c2 := r0.cell 2
                have r0c3 := r0.cell 3
                have r0c4 := r0.cell 4
                have r0f0 := r0.free 0
                have r0f1 := r0.free 1
                have r0f2 := r0.free 2
                have r0f3 := r0.free 3
                have r0f4 := r0.free 4
                have r0l := r0.lt
                simp at r0c0 r0c1 r0c2 r0c3 r0c4
                have r1c0 := r1.cell 0
                have r1c1 := r1.cell 1
                have r1c2 := r1.cell 2
                have r1c3 := r1.cell 3
                have r1c4 := r1.cell 4
                have r1f0 := r1.free 0
                have r1f1 := r1.free 1
                have r1f2 := r1.free 2
                have r1f3 := r1.free 3
                have r1f4 := r1.free 4
                have r1l := r1.lt
                simp at r1c0 r1c1 r1c2 r1c3 r1c4
                have q1c0 := q1.cell 0
                have q1c1 := q1.cell 1
                have q1c2 := q1.cell 2
                have q1c3 := q1.cell 3
                have q1c4 := q1.cell 4
                have q1f0 := q1.free 0
                have q1f1 := q1.free 1
                have q1f2 := q1.free 2
                have q1f3 := q1.free 3
                have q1f4 := q1.free 4
                have q1l := q1.lt
                simp at q1c0 q1c1 q1c2 q1c3 q1c4
                go_wp2_with (go_at_call 23; (with_reducible refine (f_Do a c e d p _ (hx.later (by (exact kpt)) (Nat.le_refl _)) hc hM (hy.later (by (exact kpt)) (Nat.le_refl _)) hd hN h1 h2 bq hq0 s hk0).mono ?_); rw [HDB.out, HDE.out, HDR.out]; rintro z w5 ⟨rfl, hb5⟩; refine Blk.thru (b := w.heap.size) (arr := ?_) (t := ?_) ?_ hb5 ?_; rotate_left 2; (focus (exact blk)); intro r0; have r0c0 := r0.cell 0; have r0f0 := r0.free 0; have r0c1 := r0.cell 1; have r0f1 := r0.free 1; have r0c2 := r0.cell 2; have r0f2 := r0.free 2; have r0c3 := r0.cell 3; have r0f3 := r0.free 3; have r0c4 := r0.cell 4; have r0f4 := r0.free 4; have r0l := r0.lt; simp at r0c0 r0c1 r0c2 r0c3 r0c4; refine Blk.thru (b := (w.heap.size + 1)) (arr := ?_) (t := ?_) ?_ hb5 ?_; rotate_left 2; (focus (exact blk)); intro r1; have r1c0 := r1.cell 0; have r1f0 := r1.free 0; have r1c1 := r1.cell 1; have r1f1 := r1.free 1; have r1c2 := r1.cell 2; have r1f2 := r1.free 2; have r1c3 := r1.cell 3; have r1f3 := r1.free 3; have r1c4 := r1.cell 4; have r1f4 := r1.free 4; have r1l := r1.lt; simp at r1c0 r1c1 r1c2 r1c3 r1c4; refine Blk.thru (b := n2) (arr := ?_) (t := ?_) ?_ hb5 ?_; rotate_left 2; (focus (exact blk)); intro q1; have q1c0 := q1.cell 0; have q1f0 := q1.free 0; have q1c1 := q1.cell 1; have q1f1 := q1.free 1; have q1c2 := q1.cell 2; have q1f2 := q1.free 2; have q1c3 := q1.cell 3; have q1f3 := q1.free 3; have q1c4 := q1.cell 4; have q1f4 := q1.free 4; have q1l := q1.lt; simp at q1c0 q1c1 q1c2 q1c3 q1c4)
                go_roundw
                case rel => exact ⟨k + 1, DB, by omega, by go_num, HSB.out, HX2.out, by (exact blk), by (exact blkc), by (exact blk), by (exact kpt)⟩
                case measure => simp [intOf]; omega
              · have HX2 := Lib.hid (HPL.out.trans (HNO.out (by rw [HDE.out]; exact he)))
                rw [HDR.out, HDE.out] at HX2
                have heb : (DE == 0) = false := beq_eq_false_iff_ne.2 he
                have hen : (DE != 0) = true := by simp [he]
                obtain ⟨e1, e2, e3, e4⟩ := played_inj HX2.out
                have e1' := e1.symm
                have e2' := e2.symm
                have e3' := e3.symm
                have e4' := e4.symm
                clear e1 e2 e3 e4
                subst e1' e2' e3' e4'
                clear HGO HNO HPL HX2
                have r0c0 := r0.cell 0
                have r0c1 := r0.cell 1
                have r0c2 := r0.cell 2
                have r0c3 := r0.cell 3
                have r0c4 := r0.cell 4
                have r0f0 := r0.free 0
                have r0f1 := r0.free 1
                have r0f2 := r0.free 2
                have r0f3 := r0.free 3
                have r0f4 := r0.free 4
                have r0l := r0.lt
                simp at r0c0 r0c1 r0c2 r0c3 r0c4
                have r1c0 := r1.cell 0
                have r1c1 := r1.cell 1
                have r1c2 := r1.cell 2
                have r1c3 := r1.cell 3
                have r1c4 := r1.cell 4
                have r1f0 := r1.free 0
                have r1f1 := r1.free 1
                have r1f2 := r1.free 2
                have r1f3 := r1.free 3
                have r1f4 := r1.free 4
                have r1l := r1.lt
                simp at r1c0 r1c1 r1c2 r1c3 r1c4
                have q1c0 := q1.cell 0
                have q1c1 := q1.cell 1
                have q1c2 := q1.cell 2
                have q1c3 := q1.cell 3
                have q1c4 := q1.cell 4
                have q1f0 := q1.free 0
                have q1f1 := q1.free 1
                have q1f2 := q1.free 2
                have q1f3 := q1.free 3
                have q1f4 := q1.free 4
                have q1l := q1.lt
                simp at q1c0 q1c1 q1c2 q1c3 q1c4
                go_wp2_with (go_at_call 23; (with_reducible refine (f_Do a c e d p _ (hx.later (by (exact kpt)) (Nat.le_refl _)) hc hM (hy.later (by (exact kpt)) (Nat.le_refl _)) hd hN h1 h2 bq hq0 s hk0).mono ?_); rw [HDB.out, HDE.out, HDR.out]; rintro z w5 ⟨rfl, hb5⟩; refine Blk.thru (b := w.heap.size) (arr := ?_) (t := ?_) ?_ hb5 ?_; rotate_left 2; (focus (exact blk)); intro r0; have r0c0 := r0.cell 0; have r0f0 := r0.free 0; have r0c1 := r0.cell 1; have r0f1 := r0.free 1; have r0c2 := r0.cell 2; have r0f2 := r0.free 2; have r0c3 := r0.cell 3; have r0f3 := r0.free 3; have r0c4 := r0.cell 4; have r0f4 := r0.free 4; have r0l := r0.lt; simp at r0c0 r0c1 r0c2 r0c3 r0c4; refine Blk.thru (b := (w.heap.size + 1)) (arr := ?_) (t := ?_) ?_ hb5 ?_; rotate_left 2; (focus (exact blk)); intro r1; have r1c0 := r1.cell 0; have r1f0 := r1.free 0; have r1c1 := r1.cell 1; have r1f1 := r1.free 1; have r1c2 := r1.cell 2; have r1f2 := r1.free 2; have r1c3 := r1.cell 3; have r1f3 := r1.free 3; have r1c4 := r1.cell 4; have r1f4 := r1.free 4; have r1l := r1.lt; simp at r1c0 r1c1 r1c2 r1c3 r1c4; refine Blk.thru (b := n2) (arr := ?_) (t := ?_) ?_ hb5 ?_; rotate_left 2; (focus (exact blk)); intro q1; have q1c0 := q1.cell 0; have q1f0 := q1.free 0; have q1c1 := q1.cell 1; have q1f1 := q1.free 1; have q1c2 := q1.cell 2; have q1f2 := q1.free 2; have q1c3 := q1.cell 3; have q1f3 := q1.free 3; have q1c4 := q1.cell 4; have q1f4 := q1.free 4; have q1l := q1.lt; simp at q1c0 q1c1 q1c2 q1c3 q1c4)
                go_ret
                exact ⟨rfl, by (exact kpt)⟩
            · obtain rfl : ss.length = k := by omega
              obtain ⟨rfl, rfl, rfl, rfl⟩ := played_inj (HPL.out.trans play_end)
              have j1 : ¬ (ss.length : Int) < (ss.length : Int) := by omega
              clear HPL
              have r0c0 := r0.cell 0
              have r0c1 := r0.cell 1
              have r0c2 := r0.cell 2
              have r0c3 := r0.cell 3
              have r0c4 := r0.cell 4
              have r0f0 := r0.free 0
              have r0f1 := r0.free 1
              have r0f2 := r0.free 2
              have r0f3 := r0.free 3
              have r0f4 := r0.free 4
              have r0l := r0.lt
              simp at r0c0 r0c1 r0c2 r0c3 r0c4
              have r1c0 := r1.cell 0
              have r1c1 := r1.cell 1
              have r1c2 := r1.cell 2
              have r1c3 := r1.cell 3
              have r1c4 := r1.cell 4
              have r1f0 := r1.free 0
              have r1f1 := r1.free 1
              have r1f2 := r1.free 2
              have r1f3 := r1.free 3
              have r1f4 := r1.free 4
              have r1l := r1.lt
              simp at r1c0 r1c1 r1c2 r1c3 r1c4
              have q1c0 := q1.cell 0
              have q1c1 := q1.cell 1
              have q1c2 := q1.cell 2
              have q1c3 := q1.cell 3
              have q1c4 := q1.cell 4
              have q1f0 := q1.free 0
              have q1f1 := q1.free 1
              have q1f2 := q1.free 2
              have q1f3 := q1.free 3
              have q1f4 := q1.free 4
              have q1l := q1.lt
              simp at q1c0 q1c1 q1c2 q1c3 q1c4
              go_wp2
              go_ret
              exact ⟨rfl, by (exact kpt)⟩
      · obtain ⟨E, hE⟩ : ∃ E, checkBerth p b = E := ⟨_, rfl⟩
        have HCB := Lib.hid hE
        have hE0 : (E != 0) = true := by rw [← hE]; simp [c1]
        clear c1 hE
        go_enter Tryz.func8, Tryz.ntmps8
        go_wp2_with (first | (go_at_call 11; (with_reducible refine (o_alive _).mono ?_); rintro z wA ⟨rfl, hbA⟩; refine Blk.thru (b := w.heap.size) (arr := ?_) (t := ?_) ?_ hbA ?_; rotate_left 2; (focus (exact blk)); intro r0; have r0c0 := r0.cell 0; have r0f0 := r0.free 0; have r0c1 := r0.cell 1; have r0f1 := r0.free 1; have r0c2 := r0.cell 2; have r0f2 := r0.free 2; have r0c3 := r0.cell 3; have r0f3 := r0.free 3; have r0c4 := r0.cell 4; have r0f4 := r0.free 4; have r0l := r0.lt; simp at r0c0 r0c1 r0c2 r0c3 r0c4; refine Blk.thru (b := (w.heap.size + 1)) (arr := ?_) (t := ?_) ?_ hbA ?_; rotate_left 2; (focus (exact blk)); intro r1; have r1c0 := r1.cell 0; have r1f0 := r1.free 0; have r1c1 := r1.cell 1; have r1f1 := r1.free 1; have r1c2 := r1.cell 2; have r1f2 := r1.free 2; have r1c3 := r1.cell 3; have r1f3 := r1.free 3; have r1c4 := r1.cell 4; have r1f4 := r1.free 4; have r1l := r1.lt; simp at r1c0 r1c1 r1c2 r1c3 r1c4) | (go_at_call 12; (with_reducible refine (r_Great a c p.axes p.people p.most e d p.pulls p.cross _ hM hN hc hd).mono ?_); rw [HG.out]; rintro z wG ⟨rfl, hbG⟩; refine Blk.thru (b := w.heap.size) (arr := ?_) (t := ?_) ?_ hbG ?_; rotate_left 2; (focus (exact blk)); intro r0; have r0c0 := r0.cell 0; have r0f0 := r0.free 0; have r0c1 := r0.cell 1; have r0f1 := r0.free 1; have r0c2 := r0.cell 2; have r0f2 := r0.free 2; have r0c3 := r0.cell 3; have r0f3 := r0.free 3; have r0c4 := r0.cell 4; have r0f4 := r0.free 4; have r0l := r0.lt; simp at r0c0 r0c1 r0c2 r0c3 r0c4; refine Blk.thru (b := (w.heap.size + 1)) (arr := ?_) (t := ?_) ?_ hbG ?_; rotate_left 2; (focus (exact blk)); intro r1; have r1c0 := r1.cell 0; have r1f0 := r1.free 0; have r1c1 := r1.cell 1; have r1f1 := r1.free 1; have r1c2 := r1.cell 2; have r1f2 := r1.free 2; have r1c3 := r1.cell 3; have r1f3 := r1.free 3; have r1c4 := r1.cell 4; have r1f4 := r1.free 4; have r1l := r1.lt; simp at r1c0 r1c1 r1c2 r1c3 r1c4) | (go_at_call 15; (with_reducible refine (r_CheckBerth a c e d p _ (hx.later (by (exact kpt)) (Nat.le_refl _)) hc hM (hy.later (by (exact kpt)) (Nat.le_refl _)) hd hN h1 h2 b hs0).mono ?_); rw [HCB.out]; rintro z w1 ⟨rfl, hb1⟩; refine Blk.thru (b := w.heap.size) (arr := ?_) (t := ?_) ?_ hb1 ?_; rotate_left 2; (focus (exact blk)); intro r0; have r0c0 := r0.cell 0; have r0f0 := r0.free 0; have r0c1 := r0.cell 1; have r0f1 := r0.free 1; have r0c2 := r0.cell 2; have r0f2 := r0.free 2; have r0c3 := r0.cell 3; have r0f3 := r0.free 3; have r0c4 := r0.cell 4; have r0f4 := r0.free 4; have r0l := r0.lt; simp at r0c0 r0c1 r0c2 r0c3 r0c4; refine Blk.thru (b := (w.heap.size + 1)) (arr := ?_) (t := ?_) ?_ hb1 ?_; rotate_left 2; (focus (exact blk)); intro r1; have r1c0 := r1.cell 0; have r1f0 := r1.free 0; have r1c1 := r1.cell 1; have r1f1 := r1.free 1; have r1c2 := r1.cell 2; have r1f2 := r1.free 2; have r1c3 := r1.cell 3; have r1f3 := r1.free 3; have r1c4 := r1.cell 4; have r1f4 := r1.free 4; have r1l := r1.lt; simp at r1c0 r1c1 r1c2 r1c3 r1c4))
        go_ret
        exact ⟨rfl, by (exact kpt)⟩
  · have HG := Lib.hid hg
    clear hg
    go_enter Tryz.func8, Tryz.ntmps8
    go_wp2_with (first | (go_at_call 11; (with_reducible refine (o_alive _).mono ?_); rintro z wA ⟨rfl, hbA⟩; refine Blk.thru (b := w.heap.size) (arr := ?_) (t := ?_) ?_ hbA ?_; rotate_left 2; (focus (exact blk)); intro r0; have r0c0 := r0.cell 0; have r0f0 := r0.free 0; have r0c1 := r0.cell 1; have r0f1 := r0.free 1; have r0c2 := r0.cell 2; have r0f2 := r0.free 2; have r0c3 := r0.cell 3; have r0f3 := r0.free 3; have r0c4 := r0.cell 4; have r0f4 := r0.free 4; have r0l := r0.lt; simp at r0c0 r0c1 r0c2 r0c3 r0c4; refine Blk.thru (b := (w.heap.size + 1)) (arr := ?_) (t := ?_) ?_ hbA ?_; rotate_left 2; (focus (exact blk)); intro r1; have r1c0 := r1.cell 0; have r1f0 := r1.free 0; have r1c1 := r1.cell 1; have r1f1 := r1.free 1; have r1c2 := r1.cell 2; have r1f2 := r1.free 2; have r1c3 := r1.cell 3; have r1f3 := r1.free 3; have r1c4 := r1.cell 4; have r1f4 := r1.free 4; have r1l := r1.lt; simp at r1c0 r1c1 r1c2 r1c3 r1c4) | (go_at_call 12; (with_reducible refine (r_Great a c p.axes p.people p.most e d p.pulls p.cross _ hM hN hc hd).mono ?_); rw [HG.out]; rintro z wG ⟨rfl, hbG⟩; refine Blk.thru (b := w.heap.size) (arr := ?_) (t := ?_) ?_ hbG ?_; rotate_left 2; (focus (exact blk)); intro r0; have r0c0 := r0.cell 0; have r0f0 := r0.free 0; have r0c1 := r0.cell 1; have r0f1 := r0.free 1; have r0c2 := r0.cell 2; have r0f2 := r0.free 2; have r0c3 := r0.cell 3; have r0f3 := r0.free 3; have r0c4 := r0.cell 4; have r0f4 := r0.free 4; have r0l := r0.lt; simp at r0c0 r0c1 r0c2 r0c3 r0c4; refine Blk.thru (b := (w.heap.size + 1)) (arr := ?_) (t := ?_) ?_ hbG ?_; rotate_left 2; (focus (exact blk)); intro r1; have r1c0 := r1.cell 0; have r1f0 := r1.free 0; have r1c1 := r1.cell 1; have r1f1 := r1.free 1; have r1c2 := r1.cell 2; have r1f2 := r1.free 2; have r1c3 := r1.cell 3; have r1f3 := r1.free 3; have r1c4 := r1.cell 4; have r1f4 := r1.free 4; have r1l := r1.lt; simp at r1c0 r1c1 r1c2 r1c3 r1c4))
    go_ret
    exact ⟨rfl, by (exact kpt)⟩
end Go.Proofs.YtacbkbilbmkjnaaGreat

/-
  MastPlayed, the statement: for every input the call returns true and leaves the input alone.
-/
namespace Go.Proofs.YtacbkbilbmkjnaaGreat.mastPlayed
open Go.ChangeShapes Go.WideShapes Go.ChangeAt Go.RowKit Bal Bal.Trim Bal.Mast
open Go.ChangeMaps (open_string shut_string)
set_option linter.unusedVariables false

theorem own : ownKnob Tryz.prog.godebug = none := by kernel_rfl
theorem laidOut : laidOutB Tryz.prog = true := by kernel_rfl

set_option maxRecDepth 100000 in
theorem lifted (os : Os) (started : os.Started) (H : Type) (enc : TypeId × Value → H) :
    ReturnsInHanded {} Tryz.checked os 8 .any (Rows.mastPlayedSpec.pre6 enc Tryz.prog Tryz.f8 Rows.mastPlayedRow.domain false) (Rows.mastPlayedSpec.post enc Tryz.prog Tryz.f8 false true false false) := by
  refine returnsInHanded_of_change (C := Tryz.checked) own started (by kernel_rfl) Tryz.func8
    (ChangeSpec.witness6 (enc := enc) (C := Tryz.checked) false ⟨#[], #[.agg #[.slice none 0 0, .int .i64 0, .int .i64 0, .slice none 0 0, .int .i64 0], .agg #[.int .u8 0, .int .i64 0, .int .i64 0, .bool false, .bool false], .slice none 0 0], []⟩ 8 (by kernel_rfl) (by kernel_rfl) (by kernel_rfl) (by kernel_rfl)) ?_
  intro W base args ds gs before hval0 hW hcnd _
  have hval : ∀ (j : Nat) t v, Tryz.f8.params[j]? = some t → args[j]? = some v → Value.okWide Tryz.prog W .any base t v := hval0
  have hW' := hW
  obtain ⟨p, q, hA0, hV, rfl, hfz, hnd⟩ := hW
  have hA : DataW.TrodAll enc Tryz.prog W 0 (fun _ => true) true Tryz.f8.params.toList args.toList ds p := hA0
  rw [Tryz.params8] at hA hval
  obtain ⟨v0, vs0, d0, ds0, p0, q0, hargs, rfl, rfl, h0, r0⟩ := trodAll_cons hA
  obtain ⟨v1, vs1, d1, ds1, p1, q1, rfl, rfl, rfl, h1, r1⟩ := trodAll_cons r0
  obtain ⟨v2, vs2, d2, ds2, p2, q2, rfl, rfl, rfl, h2, r2⟩ := trodAll_cons r1
  obtain ⟨rfl, rfl, rfl⟩ := trodAll_nil r2
  obtain rfl : args = #[v0, v1, v2] := by cases args; simp_all
  obtain ⟨rfl, rfl⟩ := trodVars_none hV
  have k0 := h0
  have lt0 : ∀ x ∈ p0, x.block < W.heap.size := by obtain ⟨m, hm⟩ := k0; exact DataW.trod_lt m _ _ _ hm
  obtain ⟨pa, pc, pxs, ppe, pmo, pb, pd, pys, pcr, rfl, px1, px2, px3, px4, py1, py2, py3, py4⟩ := open_port (hval 0 25 v0 rfl rfl) h0
  have k1 := h1
  have lt1 : ∀ x ∈ p1, x.block < W.heap.size := by obtain ⟨m, hm⟩ := k1; exact DataW.trod_lt m _ _ _ hm
  obtain ⟨a1, rfl, wf1⟩ := open_agg (n := 5) (fun _ h => Berth.of_leaves h) Tryz.underlying37 (by kernel_rfl) (hval 1 37 v1 rfl rfl) h1
  have k2 := h2
  have lt2 : ∀ x ∈ p2, x.block < W.heap.size := by obtain ⟨m, hm⟩ := k2; exact DataW.trod_lt m _ _ _ hm
  obtain ⟨a2, len2, cap2, rfl⟩ := okWide_slice Tryz.underlying82 (hval 2 82 v2 rfl rfl)
  obtain ⟨fuel2, hf2⟩ := h2
  obtain ⟨b2, c2, xs2, e2, hl2, hm2, row2, wf2, z2⟩ := open_typed (n := 4) (fun _ h => Step.of_leaves h) Tryz.underlying82 (by kernel_rfl) (by kernel_rfl) (by decide) hf2
  simp [Value.cells] at e2
  obtain ⟨rfl, rfl, rfl⟩ := e2
  clear hA0 hval0
  refine (law_MastPlayed pa pc pb pd ⟨pxs, ppe, pmo, pys, pcr⟩ W _ _ xs2 px1 px2 px3 py1 py2 py3 a1 wf1.1 row2 hl2 hm2 (fun s hs => wf2 s hs)).mono fun e W' ⟨he, bel⟩ => ?_
  subst he
  exact ⟨_, rfl, _, _, _, [], _, [], hW', trodAll_mk1 (shut_bool Tryz.underlying4 _), (trodAll_cons_mk (Below.trod laidOut (by kernel_rfl) (of_decide_eq_true (by kernel_rfl)) k0 bel lt0) (trodAll_cons_mk (Below.trod laidOut (by kernel_rfl) (of_decide_eq_true (by kernel_rfl)) k1 bel lt1) (trodAll_cons_mk (Below.trod laidOut (by kernel_rfl) (of_decide_eq_true (by kernel_rfl)) k2 bel lt2) trodAll_mk0))), rfl, bel.frame _, fun h => by cases h⟩

theorem joined : joinedFacts Tryz.prog 8 Tryz.f8 Rows.mastPlayedSpec Rows.mastPlayedRow = true := by
  unfold joinedFacts
  rw [mayEnter_is, liftsFinal_is, make_is]
  kernel_rfl
theorem over : Rows.mastPlayedRow.holds Tryz.pinned (OpenSpec.ofChange Rows.mastPlayedSpec) :=
  OpenClaim.holds_of_wide 8 Tryz.f8 rfl rfl rfl rfl rfl rfl rfl ⟨rfl, rfl, rfl, rfl, rfl⟩ rfl rfl rfl rfl rfl (by kernel_rfl) Tryz.func8 joined
    (of_decide_eq_true (by kernel_rfl)) (by unfold Func.isWrapper; first | (rw [if_pos (by decide +kernel)]; kernel_rfl) | (rw [if_neg (by decide +kernel)]; exact ⟨rfl, rfl⟩))
    (fun os started H enc _ => lifted os started H enc)
end Go.Proofs.YtacbkbilbmkjnaaGreat.mastPlayed

namespace Go.Proofs.YtacbkbilbmkjnaaGreat
theorem mastPlayed_holds : Rows.MastPlayedSaid := mastPlayed.over
#print axioms mastPlayed_holds
end Go.Proofs.YtacbkbilbmkjnaaGreat
