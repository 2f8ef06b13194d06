/-
  Ratios and their least spans.
-/
import Derived.Test.YtemafanncejeiaaGasA
import Derived.Test.YtemafanncejeiaaOrder
import Derived.Deep.DeepCutAuto
namespace Go.Proofs.Ytemafanncejeiaa
open Go.RowKit Bal Bal.Trim Bal.Gas
set_option linter.unusedVariables false
set_option linter.unusedSimpArgs false
set_option maxHeartbeats 400000

theorem f_heated (x y u v : Int) (w : World) :
    Calls Try.prog 93 #[.agg #[.int .i64 x, .int .i64 y], .agg #[.int .i64 u, .int .i64 v]] w fun e w' => e = .returned (.agg #[.int .i64 (wrap64 (x + u)), .int .i64 (wrap64 (y + v))]) ∧ Kept w w' := by
  go_enter Try.func93, Try.ntmps93
  go_wp2
  exact bodyPost_ret (v := .agg #[.int .i64 (wrap64 (x + u)), .int .i64 (wrap64 (y + v))]) (by simp [results, Try.results93, go_sem]) rfl ⟨rfl, by (exact kpt)⟩

theorem f_down (r : Ratio) (w : World) (h0 : 0 < r.den) (h1 : r.den ≤ 1000000000000000) (h2 : -1000000000000000 ≤ r.num) (h3 : r.num ≤ 1000000000000000) :
    Calls Try.prog 95 #[.agg #[.int .i64 r.num, .int .i64 r.den]] w fun e w' => e = .returned (.int .i64 (down r)) ∧ Kept w w' := by
  obtain ⟨d1, d2⟩ := div_bd (N := 1000000000000000) h2 h3 h0 (by omega)
  by_cases hn : r.num < 0
  · have ht := tdiv_down hn h0
    have b1 : -1000000000000001 ≤ r.num.tdiv r.den := by split at ht <;> omega
    have b2 : r.num.tdiv r.den ≤ 1000000000000001 := by split at ht <;> omega
    have HT := Lib.hid ht
    clear ht
    go_enter Try.func95, Try.ntmps95
    go_wp2
    all_goals
      go_ret
      refine ⟨ret_int ?_, by (exact kpt)⟩
      have ht := HT.out
      simp_all [down]
  · have HT := Lib.hid (tdiv_pos (b := r.den) (show 0 ≤ r.num by omega))
    go_enter Try.func95, Try.ntmps95
    go_wp2
    go_ret
    exact ⟨ret_int (by simp [down]), by (exact kpt)⟩

theorem f_up (r : Ratio) (w : World) (h0 : 0 < r.den) (h1 : r.den ≤ 1000000000000000) (h2 : -1000000000000000 ≤ r.num) (h3 : r.num ≤ 1000000000000000) :
    Calls Try.prog 133 #[.agg #[.int .i64 r.num, .int .i64 r.den]] w fun e w' => e = .returned (.int .i64 (up r)) ∧ Kept w w' := by
  obtain ⟨d1, d2⟩ := div_bd (N := 1000000000000000) (a := -r.num) (b := r.den) (by omega) (by omega) h0 (by omega)
  go_enter Try.func133, Try.ntmps133
  go_wp2_with (go_at_call 95; (with_reducible refine (f_down ⟨-r.num, r.den⟩ _ h0 h1 (by simp; omega) (by simp; omega)).mono ?_); rintro e w1 ⟨rfl, hb1⟩; simp only [down])
  go_ret
  exact ⟨ret_int (by simp [up]), by (exact kpt)⟩

def ratioOk (r : Ratio) : Prop := 0 < r.den ∧ r.den ≤ 1000000000000000 ∧ -1000000000000000 ≤ r.num ∧ r.num ≤ 1000000000000000
/-- a span lies in a block of the call's own, the result's block is there -/
def Made (w : World) (lo hi : Int) (s : Value) (wx : World) : Prop :=
  ∃ g, s = .pointer (some ⟨g, 0, none⟩) ∧ w.heap.size < g ∧ Blk wx g #[.int .i64 lo, .int .i64 hi] 23 ∧ Blk wx w.heap.size #[.int .i64 0, .int .i64 0] 23 ∧ Kept w wx
def LeastRel (w : World) (g : Nat) (xs : List Ratio) (i : Value) (wx : World) : Prop :=
  ∃ k : Nat, k + 1 ≤ xs.length ∧ i = .int .i64 k ∧ Blk wx g #[.int .i64 (leastLo (xs.take (k + 1))), .int .i64 (leastHi (xs.take (k + 1)))] 23 ∧ Blk wx w.heap.size #[.int .i64 0, .int .i64 0] 23 ∧ Kept w wx

theorem f_least (a : Option Addr) (n cap : Nat) (xs : List Ratio) (w : World) (hn : xs.length = n) {B : Nat} (hx : Row Ratio.cells 2 w.heap.size w a xs) (h0 : 2 ≤ n) (h1 : n ≤ cap) (h2 : cap ≤ 9223372036854775807) (hv : ∀ x ∈ xs, ratioOk x) :
    Calls Try.prog 81 #[.slice a n cap] w fun e w' => e = .returned (.agg #[.int .i64 (leastLo xs), .int .i64 (leastHi xs)]) ∧ Kept w w' := by
  subst hn
  have HV := Lib.hid hv
  clear hv
  obtain ⟨b, off, rfl, hb, c0, c1⟩ := Ratio.row hx 0 (by omega)
  have c00 : w.cell? ⟨b, off, none⟩ = some (.int .i64 xs[0].num) := by simpa using c0
  have c01 : w.cell? ⟨b, off + 1, none⟩ = some (.int .i64 xs[0].den) := by simpa using c1
  clear c0 c1
  have hlt1 : (0 : Int) < xs.length := by omega
  have hlt0 : 0 < xs.length := by omega
  have k0 : ∀ w', Kept w w' → w'.cell? ⟨b, off, none⟩ = some (.int .i64 xs[0].num) := fun w' h => by rw [h.cell (p := ⟨b, off, none⟩) hb]; exact c00
  have k1 : ∀ w', Kept w w' → w'.cell? ⟨b, off + 1, none⟩ = some (.int .i64 xs[0].den) := fun w' h => by rw [h.cell (p := ⟨b, off + 1, none⟩) hb]; exact c01
  go_enter Try.func81, Try.ntmps81
  go_upto_region 1 with fail
  go_cut [3] (fun s3 wx => Made w (down xs[0]) (up xs[0]) s3 wx)
  case first =>
    obtain ⟨v0, v1, v2, v3⟩ := HV.out xs[0] (List.getElem_mem (by omega))
    go_region_held3 (fun w' => Kept w w') (exact kpt) (first | (go_at_call 95; (with_reducible refine (f_down xs[0] _ v0 v1 v2 v3).mono ?_); rintro e w1 ⟨rfl, hb1⟩; obtain ⟨hc1, hf1, hl1⟩ := bcell3 hb1) | (go_at_call 133; (with_reducible refine (f_up xs[0] _ v0 v1 v2 v3).mono ?_); rintro e w1 ⟨rfl, hb1⟩; obtain ⟨hc1, hf1, hl1⟩ := bcell3 hb1))
    all_goals (go_wp2_with fail; go_meet)
    all_goals
      refine ⟨_, rfl, ?_, ?_, ?_, ?_⟩
      · first | (simp; done) | (refine Blk.lt (arr := ?_) (t := ?_) ?_; rotate_left 2; focus (exact blk))
      · (exact blkc)
      · (exact blkc)
      · (exact kpt)
  case rest =>
    obtain ⟨g, rfl, hg, q1, q0, hk⟩ := hcut
    have ecap : (1 : Int) < cap := by omega
    go_wp2
    go_loopw [18] (fun i wr => LeastRel w g xs i wr) (fun i _ => xs.length - (intOf i).toNat)
    case atStart => exact ⟨0, by omega, rfl, by rw [List.take_succ_eq_append_getElem hlt0]; simpa [leastLo, leastHi, lmin, lmax] using q1, q0, hk⟩
    case round =>
      obtain ⟨k, hkl, rfl, q1, q0, hk'⟩ := hrel
      by_cases hlt : k < xs.length - 1
      · have hlt' : k + 1 < xs.length := by omega
        obtain ⟨b', off', hab, hb', e0, e1⟩ := Ratio.row (hx.later hk' (Nat.le_refl _)) (k + 1) hlt'
        simp only [Option.some.injEq, Addr.mk.injEq, and_true] at hab
        obtain ⟨rfl, rfl⟩ := hab
        rw [show off + (k + 1) * 2 = off + 2 + k * 2 by omega] at e0 e1
        obtain ⟨v0, v1, v2, v3⟩ := HV.out xs[k + 1] (List.getElem_mem hlt')
        go_wp2
        refine at_world (S := fun W => Blk W g #[.int .i64 (leastLo (xs.take (k + 1))), .int .i64 (leastHi (xs.take (k + 1)))] 23 ∧ Blk W wr.heap.size #[.int .i64 xs[k + 1].num, .int .i64 xs[k + 1].den] 149 ∧ Blk W w.heap.size #[.int .i64 0, .int .i64 0] 23 ∧ Kept w W) ⟨by (exact blk), by (exact blk), by (exact blk), by (exact kpt)⟩ ?_
        rintro W ⟨r1, r2, r0, hkW⟩
        have r1c0 := fun g : Later W => (r1.later g).cell 0
        have r1f0 := fun g : Later W => (r1.later g).free 0
        have r1c1 := fun g : Later W => (r1.later g).cell 1
        have r1f1 := fun g : Later W => (r1.later g).free 1
        have r1l := fun g : Later W => (r1.later g).lt
        simp at r1c0 r1c1
        have r2c0 := fun g : Later W => (r2.later g).cell 0
        have r2f0 := fun g : Later W => (r2.later g).free 0
        have r2c1 := fun g : Later W => (r2.later g).cell 1
        have r2f1 := fun g : Later W => (r2.later g).free 1
        have r2l := fun g : Later W => (r2.later g).lt
        simp at r2c0 r2c1
        refine later_mix [(false, 0), (false, 1), (false, 2), (false, 3), (false, 4), (false, 5), (false, 6), (false, 7), (false, 8), (false, 10), (true, 9)] 11 [12, 13] (by kernel_rfl) (by kernel_rfl) ?_
        simp only [List.filterMap_cons, List.filterMap_nil, List.getElem?_cons_zero, List.getElem?_cons_succ, Option.map_some]
        repeat (refine wpSteps_quiet ?_; (first | go_big_quiet_skip | (go_big_quiet_want; go_big_quiet_op; first | go_big_quiet_on | (apply Exists.intro; refine ⟨fun g => ?_, ?_⟩; (focus (first | (go_at_call 95; exact Later.call (f_down xs[k + 1] _ v0 v1 v2 v3)) | (go_at_call 133; exact Later.call (f_up xs[k + 1] _ v0 v1 v2 v3)))); go_big_quiet_on))); refine wpQuiet_nil ?_)
        refine wpSteps_any (.int .i64 (max (leastHi (xs.take (k + 1))) (up xs[k + 1]))) rfl (fun w => ?_) ?_
        · first | (go_simp; done) | (go_simp; simp [ite_max])
        simp only [Act.put, List.setIfInBounds_toArray, List.set_cons_zero, List.set_cons_succ]
        refine wpSteps_nil ?_
        intro gg
        simp only [ite_min, ite_max]
        have hkg := Kept.drop hkW gg.ok
        have p1 := r1.later gg
        have p0 := r0.later gg
        have c2 := p1.cell 0
        have c3 := p1.cell 1
        have f2 := p1.free 0
        have f3 := p1.free 1
        simp at c2 c3
        go_wp2
        refine NoPanic.normal ?_
        go_wp2
        go_round
        case rel =>
          refine ⟨k + 1, by omega, by go_num, ?_, ?_, by (exact kpt)⟩
          · refine Blk.cast (arr := ?_) ?_ ?_
            rotate_left 1
            · focus (exact blk)
            · have hne : xs.take (k + 1) ≠ [] := by intro h; have h2 : (xs.take (k + 1)).length = 0 := (by rw [h]; rfl); rw [List.length_take] at h2; omega
              rw [List.take_succ_eq_append_getElem hlt', leastLo_snoc _ hne, leastHi_snoc _ hne]
              simp [ite_min, ite_max]
          · (exact blkc)
        case measure => simp [intOf]; omega
      · have hk1 : k + 1 = xs.length := by omega
        have c2 := q1.cell 0
        have c3 := q1.cell 1
        have c4 := q0.cell 0
        have c5 := q0.cell 1
        have f4 := q0.free 0
        have f5 := q0.free 1
        rw [List.take_of_length_le (by omega)] at c2 c3
        simp at c2 c3 c4 c5
        go_wp2
        exact bodyPost_ret (v := .agg #[.int .i64 (leastLo xs), .int .i64 (leastHi xs)]) (by simp [results, Try.results81, go_sem, c4, c5, f4, f5]) rfl ⟨rfl, by (exact kpt)⟩

end Go.Proofs.Ytemafanncejeiaa
