/-
  The reference: what is great; plants that are the same.
-/
import Derived.Test.YtemafanncejeiaaGasDG
import Derived.Test.YtemafanncejeiaaGasEA
namespace Go.Proofs.Ytemafanncejeiaa
open Go.RowKit Bal Bal.Trim Bal.Gas
set_option linter.unusedVariables false
set_option linter.unusedSimpArgs false
set_option maxHeartbeats 4000000
set_option maxRecDepth 100000

def bigD (d : Deed) : Bool := decide (d.kind = 7) && inB d.n 51 1000
def greatB (p : Plant) (ds : List Deed) : Bool := decide (20 < p.cells.length) || (decide (210 < ds.length) || ds.any bigD)
theorem any_take_false {α : Type} (g : α → Bool) : ∀ (l : List α), l.any g = false → ∀ x ∈ l, g x = false
  | [], _, x, h => by simp at h
  | y :: ys, h0, x, h => by
    simp only [List.any_cons, Bool.or_eq_false_iff] at h0
    rcases List.mem_cons.1 h with rfl | h
    · exact h0.1
    · exact any_take_false g ys h0.2 x h
theorem any_prefix {α : Type} (g : α → Bool) {l : List α} {k : Nat} (hk : k < l.length) (h : (l.take k).any g = false) (hx : g l[k] = false) : (l.take (k + 1)).any g = false := by
  rw [List.take_succ_eq_append_getElem hk, List.any_append, h]
  simp [hx]
theorem r_Great (p : Plant) (ds : List Deed) (v : Value) (a : Option Addr) (cap : Nat) (b : Option Addr) (cb : Nat) (w : World) (hv : v = .slice a p.cells.length cap) (hx : Row Deed.cells 4 w.heap.size w b ds) (hc : p.cells.length ≤ cap) (hM : cap ≤ maxLen) (hd : ds.length ≤ cb) (hN : cb ≤ maxLen) :
    Calls Try.prog 46 #[.agg #[v, .int .i64 p.bottles, .int .i64 p.inH, .int .i64 p.inA, .int .i64 p.vH, .int .i64 p.vA, .int .i64 p.lH, .int .i64 p.lA, .int .i64 p.pH, .int .i64 p.pA], .slice b ds.length cb] w fun e w' => e = .returned (.bool (greatB p ds)) ∧ Kept w w' := by
  subst hv
  unfold maxLen at hM hN
  by_cases h1 : 20 < p.cells.length
  · have e1 : decide ((20 : Int) < (p.cells.length : Int)) = true := by simp; omega
    have HG := Lib.hid (show greatB p ds = true by simp [greatB, h1])
    go_enter Try.func46, Try.ntmps46
    go_wp2
    go_ret
    exact ⟨ret_bool HG.out.symm, by (exact kpt)⟩
  · have e1 : decide ((20 : Int) < (p.cells.length : Int)) = false := by simp; omega
    by_cases h2 : 210 < ds.length
    · have e2 : decide ((210 : Int) < (ds.length : Int)) = true := by simp; omega
      have HG := Lib.hid (show greatB p ds = true by simp [greatB, h2])
      go_enter Try.func46, Try.ntmps46
      go_wp2
      go_ret
      exact ⟨ret_bool HG.out.symm, by (exact kpt)⟩
    · have e2 : decide ((210 : Int) < (ds.length : Int)) = false := by simp; omega
      have HQ := Lib.hid (show greatB p ds = ds.any bigD by simp [greatB, h1, h2])
      go_enter Try.func46, Try.ntmps46
      go_wp2
      clear e1 e2
      go_loopw [5] (fun i wr => ∃ k : Nat, k ≤ ds.length ∧ i = .int .i64 k ∧ (ds.take k).any bigD = false ∧ Kept w wr) (fun i _ => ds.length - (intOf i).toNat)
      case atStart => exact ⟨0, Nat.zero_le _, rfl, by simp, by (exact kpt)⟩
      case round =>
        obtain ⟨k, hk, rfl, hany, hkk⟩ := hrel
        have HA := Lib.hid hany
        clear hany
        by_cases hlt : k < ds.length
        · obtain ⟨b1, o1, rfl, hb1, c0, c1, c2, c3⟩ := Deed.row (hx.later hkk (Nat.le_refl _)) k hlt
          obtain ⟨x, hxx⟩ : ∃ x, x = ds[k] := ⟨_, rfl⟩
          rw [← hxx] at c0 c1 c2 c3
          have HX := Lib.hid hxx
          clear hxx
          cases hb : bigD x
          · have HB := Lib.hid hb
            by_cases h7 : x.kind = 7
            · have g7 : (x.kind == 7) = true := by simp [h7]
              have d7 : decide (x.kind = 7) = true := by simp [h7]
              have HI := Lib.hid (show inB x.n 51 1000 = false by simpa [bigD, h7] using hb)
              clear hb h7
              go_wp2_with (go_at_call 104; (with_reducible refine (r_within x.n _ _ _).mono ?_); rw [HI.out]; rintro e w1 ⟨rfl, rfl⟩)
              go_round
              case rel => exact ⟨k + 1, by omega, by go_num, any_prefix bigD hlt HA.out (by rw [← HX.out]; exact HB.out), hkk⟩
              case measure => simp [intOf]; omega
            · have g7 : (x.kind == 7) = false := by simp [h7]
              have d7 : decide (x.kind = 7) = false := by simp [h7]
              clear hb h7
              go_wp2
              go_round
              case rel => exact ⟨k + 1, by omega, by go_num, any_prefix bigD hlt HA.out (by rw [← HX.out]; exact HB.out), hkk⟩
              case measure => simp [intOf]; omega
          · have h7 : x.kind = 7 ∧ inB x.n 51 1000 = true := by simpa [bigD] using hb
            have g7 : (x.kind == 7) = true := by simp [h7.1]
            have d7 : decide (x.kind = 7) = true := by simp [h7.1]
            have HI := Lib.hid h7.2
            have HG := Lib.hid (show greatB p ds = true by rw [HQ.out, List.any_eq_true]; exact ⟨x, by rw [HX.out]; exact List.getElem_mem hlt, hb⟩)
            clear hb h7
            go_wp2_with (go_at_call 104; (with_reducible refine (r_within x.n _ _ _).mono ?_); rw [HI.out]; rintro e w1 ⟨rfl, rfl⟩)
            go_ret
            exact ⟨ret_bool HG.out.symm, hkk⟩
        · obtain rfl : k = ds.length := by omega
          have HG := Lib.hid (show greatB p ds = false by rw [HQ.out]; have := HA.out; rwa [List.take_length] at this)
          go_wp2
          go_ret
          exact ⟨ret_bool HG.out.symm, hkk⟩

theorem r_SameCells (a b : Option Addr) (c d : Nat) (xs : List Cell) (w : World) (hx : Row Cell.cells 7 w.heap.size w a xs) (hy : Row Cell.cells 7 w.heap.size w b xs) (hc : xs.length ≤ c) (hd : xs.length ≤ d) (hM : c ≤ maxLen) (hN : d ≤ maxLen) :
    Calls Try.prog 124 #[.slice a xs.length c, .slice b xs.length d] w fun e w' => e = .returned (.bool true) ∧ Kept w w' := by
  unfold maxLen at hM hN
  go_enter Try.func124, Try.ntmps124
  go_wp2
  go_loopw [5] (fun i wr => ∃ k : Nat, k ≤ xs.length ∧ i = .int .i64 k ∧ Kept w wr) (fun i _ => xs.length - (intOf i).toNat)
  case atStart => exact ⟨0, Nat.zero_le _, rfl, Below.refl _ _⟩
  case round =>
    obtain ⟨k, hk, rfl, hkk⟩ := hrel
    by_cases hlt : k < xs.length
    · obtain ⟨b1, o1, rfl, hb1, h0, h1, h2, h3, h4, h5, h6⟩ := Cell.row (hx.later hkk (Nat.le_refl _)) k hlt
      obtain ⟨b2, o2, rfl, hb2, j0, j1, j2, j3, j4, j5, j6⟩ := Cell.row (hy.later hkk (Nat.le_refl _)) k hlt
      have x0 := fun g : Later wr => g.some h0
      have y0 := fun g : Later wr => g.some j0
      have x1 := fun g : Later wr => g.some h1
      have y1 := fun g : Later wr => g.some j1
      have x2 := fun g : Later wr => g.some h2
      have y2 := fun g : Later wr => g.some j2
      have x3 := fun g : Later wr => g.some h3
      have y3 := fun g : Later wr => g.some j3
      have x4 := fun g : Later wr => g.some h4
      have y4 := fun g : Later wr => g.some j4
      have x5 := fun g : Later wr => g.some h5
      have y5 := fun g : Later wr => g.some j5
      have x6 := fun g : Later wr => g.some h6
      have y6 := fun g : Later wr => g.some j6
      go_upto_region 6 with fail
      refine Later.region (by kernel_rfl) (by kernel_rfl) ?_
      repeat (first | go_big_quiet_skip | (go_big_quiet_want; go_big_quiet_op; first | go_big_quiet_on | (apply Exists.intro; refine ⟨fun g => ?_, ?_⟩; (focus (first | fail)); go_big_quiet_on)))
      refine wpQuiet_nil ?_
      intro gg
      have hkgg := Kept.drop hkk gg.ok
      go_wp2
      go_round
      case rel => exact ⟨k + 1, by omega, by go_num, by (exact kpt)⟩
      case measure => simp [intOf]; omega
    · obtain rfl : k = xs.length := by omega
      go_wp2
      go_ret
      exact ⟨rfl, hkk⟩

theorem r_SamePlant (a b : Option Addr) (c d : Nat) (p : Plant) (w : World) (hx : Row Cell.cells 7 w.heap.size w a p.cells) (hy : Row Cell.cells 7 w.heap.size w b p.cells) (hc : p.cells.length ≤ c) (hd : p.cells.length ≤ d) (hM : c ≤ maxLen) (hN : d ≤ maxLen) :
    Calls Try.prog 52 #[.agg #[.slice a p.cells.length c, .int .i64 p.bottles, .int .i64 p.inH, .int .i64 p.inA, .int .i64 p.vH, .int .i64 p.vA, .int .i64 p.lH, .int .i64 p.lA, .int .i64 p.pH, .int .i64 p.pA], .agg #[.slice b p.cells.length d, .int .i64 p.bottles, .int .i64 p.inH, .int .i64 p.inA, .int .i64 p.vH, .int .i64 p.vA, .int .i64 p.lH, .int .i64 p.lA, .int .i64 p.pH, .int .i64 p.pA]] w fun e w' => e = .returned (.bool true) ∧ Kept w w' := by
  go_enter Try.func52, Try.ntmps52
  go_wp2_with (go_at_call 124; (with_reducible refine (r_SameCells a b c d p.cells _ (hx.later (by (exact kpt)) (Nat.le_refl _)) (hy.later (by (exact kpt)) (Nat.le_refl _)) hc hd hM hN).mono ?_); rintro e w1 ⟨rfl, hb1⟩; refine Blk.thru (b := w.heap.size) (arr := ?_) (t := ?_) ?_ hb1 ?_; rotate_left 2; (focus (exact blk)); intro rr; have rrc0 := rr.cell 0; have rrf0 := rr.free 0; have rrc1 := rr.cell 1; have rrf1 := rr.free 1; have rrc2 := rr.cell 2; have rrf2 := rr.free 2; have rrc3 := rr.cell 3; have rrf3 := rr.free 3; have rrc4 := rr.cell 4; have rrf4 := rr.free 4; have rrc5 := rr.cell 5; have rrf5 := rr.free 5; have rrc6 := rr.cell 6; have rrf6 := rr.free 6; have rrc7 := rr.cell 7; have rrf7 := rr.free 7; have rrc8 := rr.cell 8; have rrf8 := rr.free 8; have rrc9 := rr.cell 9; have rrf9 := rr.free 9; have rrl := rr.lt; simp at rrc0 rrc1 rrc2 rrc3 rrc4 rrc5 rrc6 rrc7 rrc8 rrc9; refine Blk.thru (b := (w.heap.size + 1)) (arr := ?_) (t := ?_) ?_ hb1 ?_; rotate_left 2; (focus (exact blk)); intro rq; have rqc0 := rq.cell 0; have rqf0 := rq.free 0; have rqc1 := rq.cell 1; have rqf1 := rq.free 1; have rqc2 := rq.cell 2; have rqf2 := rq.free 2; have rqc3 := rq.cell 3; have rqf3 := rq.free 3; have rqc4 := rq.cell 4; have rqf4 := rq.free 4; have rqc5 := rq.cell 5; have rqf5 := rq.free 5; have rqc6 := rq.cell 6; have rqf6 := rq.free 6; have rqc7 := rq.cell 7; have rqf7 := rq.free 7; have rqc8 := rq.cell 8; have rqf8 := rq.free 8; have rqc9 := rq.cell 9; have rqf9 := rq.free 9; have rql := rq.lt; simp at rqc0 rqc1 rqc2 rqc3 rqc4 rqc5 rqc6 rqc7 rqc8 rqc9)
  go_ret
  exact ⟨rfl, by (exact kpt)⟩
theorem r_SamePlantK {B C m n c d : Nat} {a b : Option Addr} {p : Plant} {w : World} (h : Mine 25 B w (.slice a m c) p.cells) (k : Mine 25 C w (.slice b n d) p.cells) :
    Calls Try.prog 52 #[.agg #[.slice a m c, .int .i64 p.bottles, .int .i64 p.inH, .int .i64 p.inA, .int .i64 p.vH, .int .i64 p.vA, .int .i64 p.lH, .int .i64 p.lA, .int .i64 p.pH, .int .i64 p.pA], .agg #[.slice b n d, .int .i64 p.bottles, .int .i64 p.inH, .int .i64 p.inA, .int .i64 p.vH, .int .i64 p.vA, .int .i64 p.lH, .int .i64 p.lA, .int .i64 p.pH, .int .i64 p.pA]] w fun e w' => e = .returned (.bool true) ∧ Kept w w' := by
  obtain ⟨h1, h2, h3, h4, _⟩ := h.row
  obtain ⟨k1, k2, k3, k4, _⟩ := k.row
  subst h1 k1
  exact r_SamePlant a b c d p w h2 k2 h3 k3 h4 k4

end Go.Proofs.Ytemafanncejeiaa
