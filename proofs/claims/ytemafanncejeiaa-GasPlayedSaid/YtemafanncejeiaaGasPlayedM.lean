/-
  GasPlayed, the statement: for every input the call returns true and leaves the input alone.
-/
import Derived.Test.YtemafanncejeiaaGasBaseM
import Derived.Test.YtemafanncejeiaaRows
set_option linter.unusedVariables false
set_option linter.unusedSimpArgs false
/-
  GasPlayed: acts played one behind the other are their plays one by one: the walk.
-/
namespace Go.Proofs.Ytemafanncejeiaa
open Go.RowKit Bal Bal.Trim Bal.Gas
set_option linter.unusedVariables false
set_option linter.unusedSimpArgs false
set_option maxHeartbeats 8000000
set_option maxRecDepth 100000

/-- a plant's cells: the caller's row, or a row of the call's own -/
def Rw (T : TypeId) (s : Nat) (W : World) (ad : Option Addr) (cp : Nat) (q : Plant) : Prop :=
  (Row Cell.cells 7 s W ad q.cells ∧ q.cells.length ≤ cp ∧ cp ≤ maxLen ∧ (ad = none → cp = 0) ∧ s ≤ W.heap.size) ∨ Mine T s W (.slice ad q.cells.length cp) q.cells
theorem Rw.keep {T : TypeId} {s cp : Nat} {W W' : World} {ad : Option Addr} {q : Plant} (h : Rw T s W ad cp q) (hk : Kept W W') : Rw T s W' ad cp q := by
  rcases h with ⟨h1, h2, h3, h4, h5⟩ | h
  · exact .inl ⟨h1.keep (hk.mono h5) (Nat.le_refl _), h2, h3, h4, Nat.le_trans h5 hk.size⟩
  · exact .inr (h.keep hk)
theorem Rw.row {T : TypeId} {s cp : Nat} {W : World} {ad : Option Addr} {q : Plant} (h : Rw T s W ad cp q) : Row Cell.cells 7 W.heap.size W ad q.cells ∧ q.cells.length ≤ cp ∧ cp ≤ maxLen ∧ (ad = none → cp = 0) := by
  rcases h with ⟨h1, h2, h3, h4, h5⟩ | h
  · exact ⟨h1.up h5, h2, h3, h4⟩
  · exact h.row.2
theorem Rw.of {T : TypeId} {s cp : Nat} {W : World} {ad : Option Addr} {q : Plant} (h : Mine T s W (.slice ad q.cells.length cp) q.cells) : Rw T s W ad cp q := .inr h
theorem f_DoR {T : TypeId} {s cp : Nat} {ad : Option Addr} {p : Plant} (d : Deed) {W w : World} (h : Rw T s W ad cp p) (hk : Kept W w) (hu : 0 ≤ d.kind ∧ d.kind ≤ 255) (Q : Plant) (E : Int) (hQ : Q = doQ p d) (hE : E = doE p d) :
    Calls Try.prog 48 #[.agg #[.slice ad p.cells.length cp, .int .i64 p.bottles, .int .i64 p.inH, .int .i64 p.inA, .int .i64 p.vH, .int .i64 p.vA, .int .i64 p.lH, .int .i64 p.lA, .int .i64 p.pH, .int .i64 p.pA], .agg #[.int .u8 d.kind, .int .i64 d.cell, .int .i64 d.to, .int .i64 d.n]] w fun e w' => ∃ v, e = .returned (.tuple #[.agg #[v, .int .i64 Q.bottles, .int .i64 Q.inH, .int .i64 Q.inA, .int .i64 Q.vH, .int .i64 Q.vA, .int .i64 Q.lH, .int .i64 Q.lA, .int .i64 Q.pH, .int .i64 Q.pA], .int .i64 E]) ∧ Mine 25 w.heap.size w' v Q.cells ∧ Kept w w' := by
  obtain ⟨h2, h3, h4, h5⟩ := (h.keep hk).row
  subst hQ hE
  exact f_Do p d ad cp w h2 h3 h4 h5 hu
theorem r_SamePlantR {T U : TypeId} {s t cp dp : Nat} {ad bd : Option Addr} {p : Plant} {W w : World} (h : Rw T s W ad cp p) (k : Rw U t W bd dp p) (hk : Kept W w) :
    Calls Try.prog 52 #[.agg #[.slice ad p.cells.length cp, .int .i64 p.bottles, .int .i64 p.inH, .int .i64 p.inA, .int .i64 p.vH, .int .i64 p.vA, .int .i64 p.lH, .int .i64 p.lA, .int .i64 p.pH, .int .i64 p.pA], .agg #[.slice bd p.cells.length dp, .int .i64 p.bottles, .int .i64 p.inH, .int .i64 p.inA, .int .i64 p.vH, .int .i64 p.vA, .int .i64 p.lH, .int .i64 p.lA, .int .i64 p.pH, .int .i64 p.pA]] w fun e w' => e = .returned (.bool true) ∧ Kept w w' := by
  obtain ⟨h2, h3, h4, h5⟩ := (h.keep hk).row
  obtain ⟨k2, k3, k4, k5⟩ := (k.keep hk).row
  exact r_SamePlant ad bd cp dp p w h2 k2 h3 k3 h4 k4
theorem law_GasPlayed_bad (p : Plant) (ds : List Deed) (a : Option Addr) (cap : Nat) (b : Option Addr) (cb : Nat) (w : World) (hx : Row Cell.cells 7 w.heap.size w a p.cells) (hc : p.cells.length ≤ cap) (hM : cap ≤ maxLen) (hz : a = none → cap = 0) (hd : Row Deed.cells 4 w.heap.size w b ds) (hdc : ds.length ≤ cb) (hdM : cb ≤ maxLen) (hu : greatB p ds = true ∨ greatB p ds = false ∧ plantB p = false) : Calls Try.prog 19 #[.agg #[.slice a p.cells.length cap, .int .i64 p.bottles, .int .i64 p.inH, .int .i64 p.inA, .int .i64 p.vH, .int .i64 p.vA, .int .i64 p.lH, .int .i64 p.lA, .int .i64 p.pH, .int .i64 p.pA], .slice b ds.length cb] w fun e w' => e = .returned (.bool true) ∧ Kept w w' := by
  rcases hu with hg | ⟨hg, hp⟩
  · have HG := Lib.hid hg
    clear hg
    go_enter Try.func19, Try.ntmps19
    go_wp2_with (first | (go_at_call 68; (with_reducible refine (o_alive _).mono ?_); rintro e wa ⟨rfl, hba⟩; refine Blk.thru (b := w.heap.size) (arr := ?_) (t := ?_) ?_ hba ?_; rotate_left 2; (focus (exact blk)); intro ra; have rac0 := ra.cell 0; have raf0 := ra.free 0; have rac1 := ra.cell 1; have raf1 := ra.free 1; have rac2 := ra.cell 2; have raf2 := ra.free 2; have rac3 := ra.cell 3; have raf3 := ra.free 3; have rac4 := ra.cell 4; have raf4 := ra.free 4; have rac5 := ra.cell 5; have raf5 := ra.free 5; have rac6 := ra.cell 6; have raf6 := ra.free 6; have rac7 := ra.cell 7; have raf7 := ra.free 7; have rac8 := ra.cell 8; have raf8 := ra.free 8; have rac9 := ra.cell 9; have raf9 := ra.free 9; have ral := ra.lt; simp at rac0 rac1 rac2 rac3 rac4 rac5 rac6 rac7 rac8 rac9) | (go_at_call 46; (with_reducible refine (r_Great p ds _ a cap b cb _ rfl (hd.later (by (exact kpt)) (Nat.le_refl _)) hc hM hdc hdM).mono ?_); rw [HG.out]; rintro e w1 ⟨rfl, hb1⟩; refine Blk.thru (b := w.heap.size) (arr := ?_) (t := ?_) ?_ hb1 ?_; rotate_left 2; (focus (exact blk)); intro rb; have rbc0 := rb.cell 0; have rbf0 := rb.free 0; have rbc1 := rb.cell 1; have rbf1 := rb.free 1; have rbc2 := rb.cell 2; have rbf2 := rb.free 2; have rbc3 := rb.cell 3; have rbf3 := rb.free 3; have rbc4 := rb.cell 4; have rbf4 := rb.free 4; have rbc5 := rb.cell 5; have rbf5 := rb.free 5; have rbc6 := rb.cell 6; have rbf6 := rb.free 6; have rbc7 := rb.cell 7; have rbf7 := rb.free 7; have rbc8 := rb.cell 8; have rbf8 := rb.free 8; have rbc9 := rb.cell 9; have rbf9 := rb.free 9; have rbl := rb.lt; simp at rbc0 rbc1 rbc2 rbc3 rbc4 rbc5 rbc6 rbc7 rbc8 rbc9))
    go_ret
    exact ⟨rfl, by exact kpt⟩
  · have HG := Lib.hid hg
    have HPE := Lib.hid (show plantE p = 32 by simp [plantE, hp])
    clear hg hp
    go_enter Try.func19, Try.ntmps19
    go_wp2_with (first | (go_at_call 68; (with_reducible refine (o_alive _).mono ?_); rintro e wa ⟨rfl, hba⟩; refine Blk.thru (b := w.heap.size) (arr := ?_) (t := ?_) ?_ hba ?_; rotate_left 2; (focus (exact blk)); intro ra; have rac0 := ra.cell 0; have raf0 := ra.free 0; have rac1 := ra.cell 1; have raf1 := ra.free 1; have rac2 := ra.cell 2; have raf2 := ra.free 2; have rac3 := ra.cell 3; have raf3 := ra.free 3; have rac4 := ra.cell 4; have raf4 := ra.free 4; have rac5 := ra.cell 5; have raf5 := ra.free 5; have rac6 := ra.cell 6; have raf6 := ra.free 6; have rac7 := ra.cell 7; have raf7 := ra.free 7; have rac8 := ra.cell 8; have raf8 := ra.free 8; have rac9 := ra.cell 9; have raf9 := ra.free 9; have ral := ra.lt; simp at rac0 rac1 rac2 rac3 rac4 rac5 rac6 rac7 rac8 rac9) | (go_at_call 46; (with_reducible refine (r_Great p ds _ a cap b cb _ rfl (hd.later (by (exact kpt)) (Nat.le_refl _)) hc hM hdc hdM).mono ?_); rw [HG.out]; rintro e w1 ⟨rfl, hb1⟩; refine Blk.thru (b := w.heap.size) (arr := ?_) (t := ?_) ?_ hb1 ?_; rotate_left 2; (focus (exact blk)); intro rb; have rbc0 := rb.cell 0; have rbf0 := rb.free 0; have rbc1 := rb.cell 1; have rbf1 := rb.free 1; have rbc2 := rb.cell 2; have rbf2 := rb.free 2; have rbc3 := rb.cell 3; have rbf3 := rb.free 3; have rbc4 := rb.cell 4; have rbf4 := rb.free 4; have rbc5 := rb.cell 5; have rbf5 := rb.free 5; have rbc6 := rb.cell 6; have rbf6 := rb.free 6; have rbc7 := rb.cell 7; have rbf7 := rb.free 7; have rbc8 := rb.cell 8; have rbf8 := rb.free 8; have rbc9 := rb.cell 9; have rbf9 := rb.free 9; have rbl := rb.lt; simp at rbc0 rbc1 rbc2 rbc3 rbc4 rbc5 rbc6 rbc7 rbc8 rbc9) | (go_at_call 50; (with_reducible refine (f_Check p a cap _ (hx.later (by (exact kpt)) (Nat.le_refl _)) hc hM).mono ?_); rw [HPE.out]; rintro e w2 ⟨rfl, hb2⟩; refine Blk.thru (b := w.heap.size) (arr := ?_) (t := ?_) ?_ hb2 ?_; rotate_left 2; (focus (exact blk)); intro rc; have rcc0 := rc.cell 0; have rcf0 := rc.free 0; have rcc1 := rc.cell 1; have rcf1 := rc.free 1; have rcc2 := rc.cell 2; have rcf2 := rc.free 2; have rcc3 := rc.cell 3; have rcf3 := rc.free 3; have rcc4 := rc.cell 4; have rcf4 := rc.free 4; have rcc5 := rc.cell 5; have rcf5 := rc.free 5; have rcc6 := rc.cell 6; have rcf6 := rc.free 6; have rcc7 := rc.cell 7; have rcf7 := rc.free 7; have rcc8 := rc.cell 8; have rcf8 := rc.free 8; have rcc9 := rc.cell 9; have rcf9 := rc.free 9; have rcl := rc.lt; simp at rcc0 rcc1 rcc2 rcc3 rcc4 rcc5 rcc6 rcc7 rcc8 rcc9))
    go_ret
    exact ⟨rfl, by exact kpt⟩
theorem law_GasPlayed_many (p : Plant) (ds : List Deed) (a : Option Addr) (cap : Nat) (b : Option Addr) (cb : Nat) (w : World) (hx : Row Cell.cells 7 w.heap.size w a p.cells) (hc : p.cells.length ≤ cap) (hM : cap ≤ maxLen) (hz : a = none → cap = 0) (hd : Row Deed.cells 4 w.heap.size w b ds) (hdc : ds.length ≤ cb) (hdM : cb ≤ maxLen) (hku : ∀ d ∈ ds, 0 ≤ d.kind ∧ d.kind ≤ 255) (hg : greatB p ds = false) (hp : plantB p = true) (hl : 200 < ds.length) : Calls Try.prog 19 #[.agg #[.slice a p.cells.length cap, .int .i64 p.bottles, .int .i64 p.inH, .int .i64 p.inA, .int .i64 p.vH, .int .i64 p.vA, .int .i64 p.lH, .int .i64 p.lA, .int .i64 p.pH, .int .i64 p.pA], .slice b ds.length cb] w fun e w' => e = .returned (.bool true) ∧ Kept w w' := by
  have HG := Lib.hid hg
  have HU := Lib.hid hku
  have HPE := Lib.hid (show plantE p = 0 by simp [plantE, hp])
  have HR := Lib.hid (show play p ds = (noPlant, 0, 4) by unfold play; rw [if_pos hp, if_neg (by omega)])
  have hl2 : decide ((200 : Int) < (ds.length : Int)) = true := by simp; omega
  have hn0 : noPlant.cells.length = 0 := rfl
  clear hg hp hku
  go_enter Try.func19, Try.ntmps19
  go_wp2_with (first | (go_at_call 68; (with_reducible refine (o_alive _).mono ?_); rintro e wa ⟨rfl, hba⟩; refine Blk.thru (b := w.heap.size) (arr := ?_) (t := ?_) ?_ hba ?_; rotate_left 2; (focus (exact blk)); intro ra; have rac0 := ra.cell 0; have raf0 := ra.free 0; have rac1 := ra.cell 1; have raf1 := ra.free 1; have rac2 := ra.cell 2; have raf2 := ra.free 2; have rac3 := ra.cell 3; have raf3 := ra.free 3; have rac4 := ra.cell 4; have raf4 := ra.free 4; have rac5 := ra.cell 5; have raf5 := ra.free 5; have rac6 := ra.cell 6; have raf6 := ra.free 6; have rac7 := ra.cell 7; have raf7 := ra.free 7; have rac8 := ra.cell 8; have raf8 := ra.free 8; have rac9 := ra.cell 9; have raf9 := ra.free 9; have ral := ra.lt; simp at rac0 rac1 rac2 rac3 rac4 rac5 rac6 rac7 rac8 rac9) | (go_at_call 46; (with_reducible refine (r_Great p ds _ a cap b cb _ rfl (hd.later (by (exact kpt)) (Nat.le_refl _)) hc hM hdc hdM).mono ?_); rw [HG.out]; rintro e w1 ⟨rfl, hb1⟩; refine Blk.thru (b := w.heap.size) (arr := ?_) (t := ?_) ?_ hb1 ?_; rotate_left 2; (focus (exact blk)); intro rb; have rbc0 := rb.cell 0; have rbf0 := rb.free 0; have rbc1 := rb.cell 1; have rbf1 := rb.free 1; have rbc2 := rb.cell 2; have rbf2 := rb.free 2; have rbc3 := rb.cell 3; have rbf3 := rb.free 3; have rbc4 := rb.cell 4; have rbf4 := rb.free 4; have rbc5 := rb.cell 5; have rbf5 := rb.free 5; have rbc6 := rb.cell 6; have rbf6 := rb.free 6; have rbc7 := rb.cell 7; have rbf7 := rb.free 7; have rbc8 := rb.cell 8; have rbf8 := rb.free 8; have rbc9 := rb.cell 9; have rbf9 := rb.free 9; have rbl := rb.lt; simp at rbc0 rbc1 rbc2 rbc3 rbc4 rbc5 rbc6 rbc7 rbc8 rbc9) | (go_at_call 50; (with_reducible refine (f_Check p a cap _ (hx.later (by (exact kpt)) (Nat.le_refl _)) hc hM).mono ?_); rw [HPE.out]; rintro e w2 ⟨rfl, hb2⟩; refine Blk.thru (b := w.heap.size) (arr := ?_) (t := ?_) ?_ hb2 ?_; rotate_left 2; (focus (exact blk)); intro rc; have rcc0 := rc.cell 0; have rcf0 := rc.free 0; have rcc1 := rc.cell 1; have rcf1 := rc.free 1; have rcc2 := rc.cell 2; have rcf2 := rc.free 2; have rcc3 := rc.cell 3; have rcf3 := rc.free 3; have rcc4 := rc.cell 4; have rcf4 := rc.free 4; have rcc5 := rc.cell 5; have rcf5 := rc.free 5; have rcc6 := rc.cell 6; have rcf6 := rc.free 6; have rcc7 := rc.cell 7; have rcf7 := rc.free 7; have rcc8 := rc.cell 8; have rcf8 := rc.free 8; have rcc9 := rc.cell 9; have rcf9 := rc.free 9; have rcl := rc.lt; simp at rcc0 rcc1 rcc2 rcc3 rcc4 rcc5 rcc6 rcc7 rcc8 rcc9) | (go_at_call 53; (with_reducible refine (f_Play p ds a cap b cb _ (hx.later (by (exact kpt)) (Nat.le_refl _)) hc hM hz (hd.later (by (exact kpt)) (Nat.le_refl _)) hdc hdM HU.out noPlant 0 4 HR.out).mono ?_); rintro e w4 ⟨v4, rfl, hm4, hb4⟩; obtain ⟨ad4, cp4, rfl, hl4, hc4, hz4⟩ := hm4.slice; refine Blk.thru (b := w.heap.size) (arr := ?_) (t := ?_) ?_ hb4 ?_; rotate_left 2; (focus (exact blk)); intro rd; have rdc0 := rd.cell 0; have rdf0 := rd.free 0; have rdc1 := rd.cell 1; have rdf1 := rd.free 1; have rdc2 := rd.cell 2; have rdf2 := rd.free 2; have rdc3 := rd.cell 3; have rdf3 := rd.free 3; have rdc4 := rd.cell 4; have rdf4 := rd.free 4; have rdc5 := rd.cell 5; have rdf5 := rd.free 5; have rdc6 := rd.cell 6; have rdf6 := rd.free 6; have rdc7 := rd.cell 7; have rdf7 := rd.free 7; have rdc8 := rd.cell 8; have rdf8 := rd.free 8; have rdc9 := rd.cell 9; have rdf9 := rd.free 9; have rdl := rd.lt; simp at rdc0 rdc1 rdc2 rdc3 rdc4 rdc5 rdc6 rdc7 rdc8 rdc9))
  go_ret
  exact ⟨rfl, by exact kpt⟩

theorem law_GasPlayed_ok (p : Plant) (ds : List Deed) (a : Option Addr) (cap : Nat) (b : Option Addr) (cb : Nat) (w : World) (hx : Row Cell.cells 7 w.heap.size w a p.cells) (hc : p.cells.length ≤ cap) (hM : cap ≤ maxLen) (hz : a = none → cap = 0) (hd : Row Deed.cells 4 w.heap.size w b ds) (hdc : ds.length ≤ cb) (hdM : cb ≤ maxLen) (hku : ∀ d ∈ ds, 0 ≤ d.kind ∧ d.kind ≤ 255) (hg : greatB p ds = false) (hp : plantB p = true) (hl : ds.length ≤ 200) : Calls Try.prog 19 #[.agg #[.slice a p.cells.length cap, .int .i64 p.bottles, .int .i64 p.inH, .int .i64 p.inA, .int .i64 p.vH, .int .i64 p.vA, .int .i64 p.lH, .int .i64 p.lA, .int .i64 p.pH, .int .i64 p.pA], .slice b ds.length cb] w fun e w' => e = .returned (.bool true) ∧ Kept w w' := by
  obtain ⟨Q, N, E, hR⟩ : ∃ Q N E, playGo p ds 0 = (Q, N, E) := ⟨_, _, _, rfl⟩
  have HG := Lib.hid hg
  have HU := Lib.hid hku
  have HPE := Lib.hid (show plantE p = 0 by simp [plantE, hp])
  have HR := Lib.hid (show play p ds = (Q, N, E) by unfold play; rw [if_pos hp, if_pos hl]; exact hR)
  have HRG := Lib.hid hR
  have hl2 : decide ((200 : Int) < (ds.length : Int)) = false := by simp; omega
  clear hg hp hku hR
  go_enter Try.func19, Try.ntmps19
  go_upto_region 7 with (first | (go_at_call 68; (with_reducible refine (o_alive _).mono ?_); rintro e wa ⟨rfl, hba⟩; refine Blk.thru (b := w.heap.size) (arr := ?_) (t := ?_) ?_ hba ?_; rotate_left 2; (focus (exact blk)); intro ra; have rac0 := ra.cell 0; have raf0 := ra.free 0; have rac1 := ra.cell 1; have raf1 := ra.free 1; have rac2 := ra.cell 2; have raf2 := ra.free 2; have rac3 := ra.cell 3; have raf3 := ra.free 3; have rac4 := ra.cell 4; have raf4 := ra.free 4; have rac5 := ra.cell 5; have raf5 := ra.free 5; have rac6 := ra.cell 6; have raf6 := ra.free 6; have rac7 := ra.cell 7; have raf7 := ra.free 7; have rac8 := ra.cell 8; have raf8 := ra.free 8; have rac9 := ra.cell 9; have raf9 := ra.free 9; have ral := ra.lt; simp at rac0 rac1 rac2 rac3 rac4 rac5 rac6 rac7 rac8 rac9) | (go_at_call 46; (with_reducible refine (r_Great p ds _ a cap b cb _ rfl (hd.later (by (exact kpt)) (Nat.le_refl _)) hc hM hdc hdM).mono ?_); rw [HG.out]; rintro e w1 ⟨rfl, hb1⟩; refine Blk.thru (b := w.heap.size) (arr := ?_) (t := ?_) ?_ hb1 ?_; rotate_left 2; (focus (exact blk)); intro rb; have rbc0 := rb.cell 0; have rbf0 := rb.free 0; have rbc1 := rb.cell 1; have rbf1 := rb.free 1; have rbc2 := rb.cell 2; have rbf2 := rb.free 2; have rbc3 := rb.cell 3; have rbf3 := rb.free 3; have rbc4 := rb.cell 4; have rbf4 := rb.free 4; have rbc5 := rb.cell 5; have rbf5 := rb.free 5; have rbc6 := rb.cell 6; have rbf6 := rb.free 6; have rbc7 := rb.cell 7; have rbf7 := rb.free 7; have rbc8 := rb.cell 8; have rbf8 := rb.free 8; have rbc9 := rb.cell 9; have rbf9 := rb.free 9; have rbl := rb.lt; simp at rbc0 rbc1 rbc2 rbc3 rbc4 rbc5 rbc6 rbc7 rbc8 rbc9) | (go_at_call 50; (with_reducible refine (f_Check p a cap _ (hx.later (by (exact kpt)) (Nat.le_refl _)) hc hM).mono ?_); rw [HPE.out]; rintro e w2 ⟨rfl, hb2⟩; refine Blk.thru (b := w.heap.size) (arr := ?_) (t := ?_) ?_ hb2 ?_; rotate_left 2; (focus (exact blk)); intro rc; have rcc0 := rc.cell 0; have rcf0 := rc.free 0; have rcc1 := rc.cell 1; have rcf1 := rc.free 1; have rcc2 := rc.cell 2; have rcf2 := rc.free 2; have rcc3 := rc.cell 3; have rcf3 := rc.free 3; have rcc4 := rc.cell 4; have rcf4 := rc.free 4; have rcc5 := rc.cell 5; have rcf5 := rc.free 5; have rcc6 := rc.cell 6; have rcf6 := rc.free 6; have rcc7 := rc.cell 7; have rcf7 := rc.free 7; have rcc8 := rc.cell 8; have rcf8 := rc.free 8; have rcc9 := rc.cell 9; have rcf9 := rc.free 9; have rcl := rc.lt; simp at rcc0 rcc1 rcc2 rcc3 rcc4 rcc5 rcc6 rcc7 rcc8 rcc9) | (go_at_call 53; (with_reducible refine (f_Play p ds a cap b cb _ (hx.later (by (exact kpt)) (Nat.le_refl _)) hc hM hz (hd.later (by (exact kpt)) (Nat.le_refl _)) hdc hdM HU.out Q N E HR.out).mono ?_); rintro e w4 ⟨v4, rfl, hm4, hb4⟩; obtain ⟨ad4, cp4, rfl, hl4, hc4, hz4⟩ := hm4.slice; refine Blk.thru (b := w.heap.size) (arr := ?_) (t := ?_) ?_ hb4 ?_; rotate_left 2; (focus (exact blk)); intro rd; have rdc0 := rd.cell 0; have rdf0 := rd.free 0; have rdc1 := rd.cell 1; have rdf1 := rd.free 1; have rdc2 := rd.cell 2; have rdf2 := rd.free 2; have rdc3 := rd.cell 3; have rdf3 := rd.free 3; have rdc4 := rd.cell 4; have rdf4 := rd.free 4; have rdc5 := rd.cell 5; have rdf5 := rd.free 5; have rdc6 := rd.cell 6; have rdf6 := rd.free 6; have rdc7 := rd.cell 7; have rdf7 := rd.free 7; have rdc8 := rd.cell 8; have rdf8 := rd.free 8; have rdc9 := rd.cell 9; have rdf9 := rd.free 9; have rdl := rd.lt; simp at rdc0 rdc1 rdc2 rdc3 rdc4 rdc5 rdc6 rdc7 rdc8 rdc9))
  have hm4b := hm4.base (C := w.heap.size) (by exact (show Kept w _ by exact kpt).size)
  refine at_world (S := fun X => Blk X w.heap.size #[.slice a p.cells.length cap, .int .i64 p.bottles, .int .i64 p.inH, .int .i64 p.inA, .int .i64 p.vH, .int .i64 p.vA, .int .i64 p.lH, .int .i64 p.lA, .int .i64 p.pH, .int .i64 p.pA] 63 ∧ Blk X w4.heap.size #[.slice ad4 Q.cells.length cp4, .int .i64 Q.bottles, .int .i64 Q.inH, .int .i64 Q.inA, .int .i64 Q.vH, .int .i64 Q.vA, .int .i64 Q.lH, .int .i64 Q.lA, .int .i64 Q.pH, .int .i64 Q.pA] 63 ∧ Mine 25 w.heap.size X (.slice ad4 Q.cells.length cp4) Q.cells ∧ Kept w X ∧ w.heap.size < w4.heap.size) ⟨by (exact blkd), by (exact blkd), (by exact (by have hnp := mine_past hm4b (Nat.le_refl _); (repeat (with_reducible refine Mine.off ?_ hnp _)); first | exact hm4b | exact hm4b.alloc _)), by (exact kpt), rd.lt⟩ ?_
  clear hm4 hm4b
  rintro X ⟨b0, b6, hm6, hk, hs6⟩
  obtain ⟨ad6, ha6⟩ : ∃ x, x = ad4 := ⟨_, rfl⟩
  obtain ⟨cp6, hc6⟩ : ∃ x, x = cp4 := ⟨_, rfl⟩
  subst ha6 hc6
  generalize w4.heap.size = s6 at b6 hs6 ⊢
  have b0c0 := b0.cell 0
  have b0f0 := b0.free 0
  have b0c1 := b0.cell 1
  have b0f1 := b0.free 1
  have b0c2 := b0.cell 2
  have b0f2 := b0.free 2
  have b0c3 := b0.cell 3
  have b0f3 := b0.free 3
  have b0c4 := b0.cell 4
  have b0f4 := b0.free 4
  have b0c5 := b0.cell 5
  have b0f5 := b0.free 5
  have b0c6 := b0.cell 6
  have b0f6 := b0.free 6
  have b0c7 := b0.cell 7
  have b0f7 := b0.free 7
  have b0c8 := b0.cell 8
  have b0f8 := b0.free 8
  have b0c9 := b0.cell 9
  have b0f9 := b0.free 9
  have b0l := b0.lt
  simp at b0c0 b0c1 b0c2 b0c3 b0c4 b0c5 b0c6 b0c7 b0c8 b0c9
  go_upto_region 10 with fail
  have hs9 := hk.size
  have hne1 : s6 ≠ X.heap.size := by have := b6.lt; omega
  have hne2 : X.heap.size ≠ s6 := by have := b6.lt; omega
  refine at_world (S := fun Y => Blk Y s6 #[.slice ad6 Q.cells.length cp6, .int .i64 Q.bottles, .int .i64 Q.inH, .int .i64 Q.inA, .int .i64 Q.vH, .int .i64 Q.vA, .int .i64 Q.lH, .int .i64 Q.lA, .int .i64 Q.pH, .int .i64 Q.pA] 63 ∧ Blk Y X.heap.size #[.slice a p.cells.length cap, .int .i64 p.bottles, .int .i64 p.inH, .int .i64 p.inA, .int .i64 p.vH, .int .i64 p.vA, .int .i64 p.lH, .int .i64 p.lA, .int .i64 p.pH, .int .i64 p.pA] 63 ∧ Rw 25 w.heap.size Y a cap p ∧ Mine 25 w.heap.size Y (.slice ad6 Q.cells.length cp6) Q.cells ∧ Kept w Y) ⟨by (exact blkd), by (exact blkd), .inl ⟨hx.keep (by (exact kpt)) (Nat.le_refl _), hc, hM, hz, (show Kept w _ by (exact kpt)).size⟩, (by exact (by have hnp := mine_past hm6 (Nat.le_refl _); (repeat (with_reducible refine Mine.off ?_ hnp _)); first | exact hm6 | exact hm6.alloc _)), by (exact kpt)⟩ ?_
  clear b0 b6 hm6 hk
  rintro Y ⟨b6, b9, hrw, hm6, hk⟩
  generalize X.heap.size = s9 at b9 hs9 hne1 hne2 ⊢
  go_wp2
  go_loopw [50] (fun i wr => ∃ (k : Nat) (q : Plant) (ad : Option Addr) (cp : Nat), k ≤ ds.length ∧ i = .int .i64 k ∧ Blk wr s6 #[.slice ad6 Q.cells.length cp6, .int .i64 Q.bottles, .int .i64 Q.inH, .int .i64 Q.inA, .int .i64 Q.vH, .int .i64 Q.vA, .int .i64 Q.lH, .int .i64 Q.lA, .int .i64 Q.pH, .int .i64 Q.pA] 63 ∧ Blk wr s9 #[.slice ad q.cells.length cp, .int .i64 q.bottles, .int .i64 q.inH, .int .i64 q.inA, .int .i64 q.vH, .int .i64 q.vA, .int .i64 q.lH, .int .i64 q.lA, .int .i64 q.pH, .int .i64 q.pA] 63 ∧ Rw 25 w.heap.size wr ad cp q ∧ Mine 25 w.heap.size wr (.slice ad6 Q.cells.length cp6) Q.cells ∧ Kept w wr ∧ playGo p ds 0 = playGo q (ds.drop k) k) (fun i _ => ds.length - (intOf i).toNat)
  case atStart => exact ⟨0, p, a, cap, Nat.zero_le _, rfl, b6, b9, hrw, hm6, hk, by simp⟩
  case round =>
    clear b6 b9 hrw hm6 hk
    obtain ⟨k, q, ad, cp, hk0, rfl, b6, b9, hrw, hm6, hk, hpl⟩ := hrel
    have HPL := Lib.hid hpl
    clear hpl
    by_cases hlt : k < ds.length
    · obtain ⟨b1, o1, rfl, hb1, d0, d1, d2, d3⟩ := Deed.row (hd.later hk (Nat.le_refl _)) k hlt
      have hux := HU.out ds[k] (List.getElem_mem hlt)
      obtain ⟨x, hxx⟩ : ∃ x, x = ds[k] := ⟨_, rfl⟩
      rw [← hxx] at d0 d1 d2 d3 hux
      have HX := Lib.hid hxx
      have HUX := Lib.hid hux
      clear hxx hux
      obtain ⟨Q1, hQ1⟩ : ∃ Q1, Q1 = doQ q x := ⟨_, rfl⟩
      obtain ⟨E1, hE1⟩ : ∃ E1, E1 = doE q x := ⟨_, rfl⟩
      have HQ1 := Lib.hid hQ1
      have HE1 := Lib.hid hE1
      clear hQ1 hE1
      have b9c0 := b9.cell 0
      have b9f0 := b9.free 0
      have b9c1 := b9.cell 1
      have b9f1 := b9.free 1
      have b9c2 := b9.cell 2
      have b9f2 := b9.free 2
      have b9c3 := b9.cell 3
      have b9f3 := b9.free 3
      have b9c4 := b9.cell 4
      have b9f4 := b9.free 4
      have b9c5 := b9.cell 5
      have b9f5 := b9.free 5
      have b9c6 := b9.cell 6
      have b9f6 := b9.free 6
      have b9c7 := b9.cell 7
      have b9f7 := b9.free 7
      have b9c8 := b9.cell 8
      have b9f8 := b9.free 8
      have b9c9 := b9.cell 9
      have b9f9 := b9.free 9
      have b9l := b9.lt
      simp at b9c0 b9c1 b9c2 b9c3 b9c4 b9c5 b9c6 b9c7 b9c8 b9c9
      go_upto_region 14 with (go_at_call 48; (with_reducible refine (f_DoR x hrw (by (exact kpt)) HUX.out Q1 E1 HQ1.out HE1.out).mono ?_); rintro e w3 ⟨v3, rfl, hm3, hb3⟩; obtain ⟨ad3, cp3, rfl, hl3, hc3, hz3⟩ := hm3.slice)
      clear b9c0 b9f0 b9c1 b9f1 b9c2 b9f2 b9c3 b9f3 b9c4 b9f4 b9c5 b9f5 b9c6 b9f6 b9c7 b9f7 b9c8 b9f8 b9c9 b9f9 b9l d0 d1 d2 d3
      have hrw3 := hrw.keep (show Kept wr w3 by exact kpt)
      have hm63 := hm6.keep (show Kept wr w3 by exact kpt)
      have hm3b := hm3.base (C := w.heap.size) (by exact (show Kept w _ by exact kpt).size)
      refine at_world (S := fun Z => Blk Z s6 #[.slice ad6 Q.cells.length cp6, .int .i64 Q.bottles, .int .i64 Q.inH, .int .i64 Q.inA, .int .i64 Q.vH, .int .i64 Q.vA, .int .i64 Q.lH, .int .i64 Q.lA, .int .i64 Q.pH, .int .i64 Q.pA] 63 ∧ Blk Z s9 #[.slice ad q.cells.length cp, .int .i64 q.bottles, .int .i64 q.inH, .int .i64 q.inA, .int .i64 q.vH, .int .i64 q.vA, .int .i64 q.lH, .int .i64 q.lA, .int .i64 q.pH, .int .i64 q.pA] 63 ∧ Blk Z w3.heap.size #[.slice ad3 Q1.cells.length cp3, .int .i64 Q1.bottles, .int .i64 Q1.inH, .int .i64 Q1.inA, .int .i64 Q1.vH, .int .i64 Q1.vA, .int .i64 Q1.lH, .int .i64 Q1.lA, .int .i64 Q1.pH, .int .i64 Q1.pA] 63 ∧ Rw 25 w.heap.size Z ad cp q ∧ Mine 25 w.heap.size Z (.slice ad6 Q.cells.length cp6) Q.cells ∧ Mine 25 w.heap.size Z (.slice ad3 Q1.cells.length cp3) Q1.cells ∧ Kept w Z) ⟨by (exact blkd), by (exact blkd), by (exact blkd), hrw3.keep (by (exact kpt)), (by exact (by have hnp := mine_past hm63 (Nat.le_refl _); (repeat (with_reducible refine Mine.off ?_ hnp _)); first | exact hm63 | exact hm63.alloc _)), (by exact (by have hnp := mine_past hm3b (Nat.le_refl _); (repeat (with_reducible refine Mine.off ?_ hnp _)); first | exact hm3b | exact hm3b.alloc _)), by (exact kpt)⟩ ?_
      clear b6 b9 hrw hm6 hk hrw3 hm63 hm3b hm3 hb3
      rintro Z ⟨b6, b9, b12, hrw, hm6, hm1, hk⟩
      generalize w3.heap.size = s12 at b12 ⊢
      by_cases he : E1 = 0
      · have e1 : (E1 == 0) = true := by simp [he]
        have e3 : (E1 != 0) = false := by simp [he]
        have HEE := Lib.hid he
        clear he hrw
        have b12c0 := b12.cell 0
        have b12f0 := b12.free 0
        have b12c1 := b12.cell 1
        have b12f1 := b12.free 1
        have b12c2 := b12.cell 2
        have b12f2 := b12.free 2
        have b12c3 := b12.cell 3
        have b12f3 := b12.free 3
        have b12c4 := b12.cell 4
        have b12f4 := b12.free 4
        have b12c5 := b12.cell 5
        have b12f5 := b12.free 5
        have b12c6 := b12.cell 6
        have b12f6 := b12.free 6
        have b12c7 := b12.cell 7
        have b12f7 := b12.free 7
        have b12c8 := b12.cell 8
        have b12f8 := b12.free 8
        have b12c9 := b12.cell 9
        have b12f9 := b12.free 9
        have b12l := b12.lt
        simp at b12c0 b12c1 b12c2 b12c3 b12c4 b12c5 b12c6 b12c7 b12c8 b12c9
        have b9c0 := b9.cell 0
        have b9f0 := b9.free 0
        have b9c1 := b9.cell 1
        have b9f1 := b9.free 1
        have b9c2 := b9.cell 2
        have b9f2 := b9.free 2
        have b9c3 := b9.cell 3
        have b9f3 := b9.free 3
        have b9c4 := b9.cell 4
        have b9f4 := b9.free 4
        have b9c5 := b9.cell 5
        have b9f5 := b9.free 5
        have b9c6 := b9.cell 6
        have b9f6 := b9.free 6
        have b9c7 := b9.cell 7
        have b9f7 := b9.free 7
        have b9c8 := b9.cell 8
        have b9f8 := b9.free 8
        have b9c9 := b9.cell 9
        have b9f9 := b9.free 9
        have b9l := b9.lt
        simp at b9c0 b9c1 b9c2 b9c3 b9c4 b9c5 b9c6 b9c7 b9c8 b9c9
        go_wp2
        go_round
        case rel =>
          refine ⟨k + 1, Q1, ad3, cp3, by omega, by go_num, by (exact blkd), by (exact blkd), ?_, ?_, by (exact kpt), ?_⟩
          · have hn4 := hm1.ne b9 (by decide)
            refine .inr ?_
            (repeat (with_reducible refine Mine.off ?_ hn4 _))
            exact hm1
          · have hn4 := hm6.ne b9 (by decide)
            (repeat (with_reducible refine Mine.off ?_ hn4 _))
            exact hm6
          · rw [HPL.out, HQ1.out]; exact playGo_ok hlt HX.out (by rw [← HE1.out]; exact HEE.out)
        case measure => simp [intOf]; omega
      · have e1 : (E1 == 0) = false := by simp [he]
        have e3 : (E1 != 0) = true := by simp [he]
        have hfin : (Q, N, E) = (q, (k : Int), E1) := by rw [← HRG.out, HPL.out, HE1.out]; exact playGo_no hlt HX.out (by rw [← HE1.out]; exact he)
        clear he
        obtain ⟨rfl, rfl, rfl⟩ : Q = q ∧ N = (k : Int) ∧ E = E1 := by simpa using hfin
        clear hfin
        have b6c0 := b6.cell 0
        have b6f0 := b6.free 0
        have b6c1 := b6.cell 1
        have b6f1 := b6.free 1
        have b6c2 := b6.cell 2
        have b6f2 := b6.free 2
        have b6c3 := b6.cell 3
        have b6f3 := b6.free 3
        have b6c4 := b6.cell 4
        have b6f4 := b6.free 4
        have b6c5 := b6.cell 5
        have b6f5 := b6.free 5
        have b6c6 := b6.cell 6
        have b6f6 := b6.free 6
        have b6c7 := b6.cell 7
        have b6f7 := b6.free 7
        have b6c8 := b6.cell 8
        have b6f8 := b6.free 8
        have b6c9 := b6.cell 9
        have b6f9 := b6.free 9
        have b6l := b6.lt
        simp at b6c0 b6c1 b6c2 b6c3 b6c4 b6c5 b6c6 b6c7 b6c8 b6c9
        have b9c0 := b9.cell 0
        have b9f0 := b9.free 0
        have b9c1 := b9.cell 1
        have b9f1 := b9.free 1
        have b9c2 := b9.cell 2
        have b9f2 := b9.free 2
        have b9c3 := b9.cell 3
        have b9f3 := b9.free 3
        have b9c4 := b9.cell 4
        have b9f4 := b9.free 4
        have b9c5 := b9.cell 5
        have b9f5 := b9.free 5
        have b9c6 := b9.cell 6
        have b9f6 := b9.free 6
        have b9c7 := b9.cell 7
        have b9f7 := b9.free 7
        have b9c8 := b9.cell 8
        have b9f8 := b9.free 8
        have b9c9 := b9.cell 9
        have b9f9 := b9.free 9
        have b9l := b9.lt
        simp at b9c0 b9c1 b9c2 b9c3 b9c4 b9c5 b9c6 b9c7 b9c8 b9c9
        have hr6 := Rw.of hm6
        go_wp2_with (go_at_call 52; (with_reducible refine (r_SamePlantR hr6 hrw (by (exact kpt))).mono ?_); rintro e w5 ⟨rfl, hb5⟩)
        go_ret
        exact ⟨rfl, by exact kpt⟩
    · obtain rfl : k = ds.length := by omega
      have hfin : (Q, N, E) = (q, 0, 0) := by rw [← HRG.out, HPL.out]; exact playGo_last q ds
      obtain ⟨rfl, rfl, rfl⟩ : Q = q ∧ N = 0 ∧ E = 0 := by simpa using hfin
      clear hfin
      have b6c0 := b6.cell 0
      have b6f0 := b6.free 0
      have b6c1 := b6.cell 1
      have b6f1 := b6.free 1
      have b6c2 := b6.cell 2
      have b6f2 := b6.free 2
      have b6c3 := b6.cell 3
      have b6f3 := b6.free 3
      have b6c4 := b6.cell 4
      have b6f4 := b6.free 4
      have b6c5 := b6.cell 5
      have b6f5 := b6.free 5
      have b6c6 := b6.cell 6
      have b6f6 := b6.free 6
      have b6c7 := b6.cell 7
      have b6f7 := b6.free 7
      have b6c8 := b6.cell 8
      have b6f8 := b6.free 8
      have b6c9 := b6.cell 9
      have b6f9 := b6.free 9
      have b6l := b6.lt
      simp at b6c0 b6c1 b6c2 b6c3 b6c4 b6c5 b6c6 b6c7 b6c8 b6c9
      have b9c0 := b9.cell 0
      have b9f0 := b9.free 0
      have b9c1 := b9.cell 1
      have b9f1 := b9.free 1
      have b9c2 := b9.cell 2
      have b9f2 := b9.free 2
      have b9c3 := b9.cell 3
      have b9f3 := b9.free 3
      have b9c4 := b9.cell 4
      have b9f4 := b9.free 4
      have b9c5 := b9.cell 5
      have b9f5 := b9.free 5
      have b9c6 := b9.cell 6
      have b9f6 := b9.free 6
      have b9c7 := b9.cell 7
      have b9f7 := b9.free 7
      have b9c8 := b9.cell 8
      have b9f8 := b9.free 8
      have b9c9 := b9.cell 9
      have b9f9 := b9.free 9
      have b9l := b9.lt
      simp at b9c0 b9c1 b9c2 b9c3 b9c4 b9c5 b9c6 b9c7 b9c8 b9c9
      have hr6 := Rw.of hm6
      go_wp2_with (go_at_call 52; (with_reducible refine (r_SamePlantR hr6 hrw (by (exact kpt))).mono ?_); rintro e w5 ⟨rfl, hb5⟩)
      go_ret
      exact ⟨rfl, by exact kpt⟩
theorem law_GasPlayed (p : Plant) (ds : List Deed) (a : Option Addr) (cap : Nat) (b : Option Addr) (cb : Nat) (w : World) (hx : Row Cell.cells 7 w.heap.size w a p.cells) (hc : p.cells.length ≤ cap) (hM : cap ≤ maxLen) (hz : a = none → cap = 0) (hd : Row Deed.cells 4 w.heap.size w b ds) (hdc : ds.length ≤ cb) (hdM : cb ≤ maxLen) (hku : ∀ d ∈ ds, 0 ≤ d.kind ∧ d.kind ≤ 255) : Calls Try.prog 19 #[.agg #[.slice a p.cells.length cap, .int .i64 p.bottles, .int .i64 p.inH, .int .i64 p.inA, .int .i64 p.vH, .int .i64 p.vA, .int .i64 p.lH, .int .i64 p.lA, .int .i64 p.pH, .int .i64 p.pA], .slice b ds.length cb] w fun e w' => e = .returned (.bool true) ∧ Kept w w' := by
  cases hg : greatB p ds
  · cases hp : plantB p
    · exact law_GasPlayed_bad p ds a cap b cb w hx hc hM hz hd hdc hdM (.inr ⟨hg, hp⟩)
    · by_cases hl : 200 < ds.length
      · exact law_GasPlayed_many p ds a cap b cb w hx hc hM hz hd hdc hdM hku hg hp hl
      · exact law_GasPlayed_ok p ds a cap b cb w hx hc hM hz hd hdc hdM hku hg hp (by omega)
  · exact law_GasPlayed_bad p ds a cap b cb w hx hc hM hz hd hdc hdM (.inl hg)
end Go.Proofs.Ytemafanncejeiaa

/-
  GasPlayed, the statement: for every input the call returns true and leaves the input alone.
-/
namespace Go.Proofs.Ytemafanncejeiaa.gasPlayed
open Go.ChangeShapes Go.WideShapes Go.ChangeAt Go.RowKit Bal Bal.Trim Bal.Gas
open Go.ChangeMaps (open_string shut_string)
set_option linter.unusedVariables false

theorem own : ownKnob Try.prog.godebug = none := by kernel_rfl
theorem laidOut : laidOutB Try.prog = true := by kernel_rfl

set_option maxRecDepth 100000 in
theorem lifted (os : Os) (started : os.Started) (H : Type) (enc : TypeId × Value → H) :
    ReturnsInHanded {} Try.checked os 19 .any (Rows.gasPlayedSpec.pre6 enc Try.prog Try.f19 Rows.gasPlayedRow.domain false) (Rows.gasPlayedSpec.post enc Try.prog Try.f19 false true false false) := by
  refine returnsInHanded_of_change (C := Try.checked) own started (by kernel_rfl) Try.func19
    (ChangeSpec.witness6 (enc := enc) (C := Try.checked) false ⟨#[], #[.agg #[.slice none 0 0, .int .i64 0, .int .i64 0, .int .i64 0, .int .i64 0, .int .i64 0, .int .i64 0, .int .i64 0, .int .i64 0, .int .i64 0], .slice none 0 0], []⟩ 8 (by kernel_rfl) (by kernel_rfl) (by kernel_rfl) (by kernel_rfl)) ?_
  intro W base args ds gs before hval0 hW hcnd _
  have hval : ∀ (j : Nat) t v, Try.f19.params[j]? = some t → args[j]? = some v → Value.okWide Try.prog W .any base t v := hval0
  have hW' := hW
  obtain ⟨p, q, hA0, hV, rfl, hfz, hnd⟩ := hW
  have hA : DataW.TrodAll enc Try.prog W 0 (fun _ => true) true Try.f19.params.toList args.toList ds p := hA0
  rw [Try.params19] at hA hval
  obtain ⟨v0, vs0, d0, ds0, p0, q0, hargs, rfl, rfl, h0, r0⟩ := trodAll_cons hA
  obtain ⟨v1, vs1, d1, ds1, p1, q1, rfl, rfl, rfl, h1, r1⟩ := trodAll_cons r0
  obtain ⟨rfl, rfl, rfl⟩ := trodAll_nil r1
  obtain rfl : args = #[v0, v1] := by cases args; simp_all
  obtain ⟨rfl, rfl⟩ := trodVars_none hV
  have k0 := h0
  have lt0 : ∀ x ∈ p0, x.block < W.heap.size := by obtain ⟨m, hm⟩ := k0; exact DataW.trod_lt m _ _ _ hm
  obtain ⟨a0, c0, pl0, rfl, row0, hl0, hm0, z0⟩ := open_plant (hval 0 63 v0 rfl rfl) h0
  have k1 := h1
  have lt1 : ∀ x ∈ p1, x.block < W.heap.size := by obtain ⟨m, hm⟩ := k1; exact DataW.trod_lt m _ _ _ hm
  obtain ⟨a1, len1, cap1, rfl⟩ := okWide_slice Try.underlying67 (hval 1 67 v1 rfl rfl)
  obtain ⟨fuel1, hf1⟩ := h1
  obtain ⟨b1, c1, xs1, e1, hl1, hm1, row1, wf1, z1⟩ := open_typed (n := 4) (fun _ h => Deed.of_leaves h) Try.underlying67 (by kernel_rfl) (by kernel_rfl) (by decide) hf1
  simp [Value.cells] at e1
  obtain ⟨rfl, rfl, rfl⟩ := e1
  clear hA0 hval0
  refine (law_GasPlayed pl0 xs1 a0 c0 _ _ W row0 hl0 hm0 z0 row1 hl1 hm1 (fun d hd => wf_u8 (wf1 d hd).1)).mono fun e W' ⟨he, bel⟩ => ?_
  subst he
  exact ⟨_, rfl, _, _, _, [], _, [], hW', trodAll_mk1 (shut_bool Try.underlying4 _), (trodAll_cons_mk (Below.trod laidOut (by kernel_rfl) (of_decide_eq_true (by kernel_rfl)) k0 bel lt0) (trodAll_cons_mk (Below.trod laidOut (by kernel_rfl) (of_decide_eq_true (by kernel_rfl)) k1 bel lt1) trodAll_mk0)), rfl, bel.frame _, fun h => by cases h⟩

theorem joined : joinedFacts Try.prog 19 Try.f19 Rows.gasPlayedSpec Rows.gasPlayedRow = true := by
  unfold joinedFacts
  rw [mayEnter_is, liftsFinal_is, make_is]
  kernel_rfl
theorem over : Rows.gasPlayedRow.holds Try.pinned (OpenSpec.ofChange Rows.gasPlayedSpec) :=
  OpenClaim.holds_of_wide 19 Try.f19 rfl rfl rfl rfl rfl rfl rfl ⟨rfl, rfl, rfl, rfl, rfl⟩ rfl rfl rfl rfl rfl (by kernel_rfl) Try.func19 joined
    (of_decide_eq_true (by kernel_rfl)) (by unfold Func.isWrapper; first | (rw [if_pos (by decide +kernel)]; kernel_rfl) | (rw [if_neg (by decide +kernel)]; exact ⟨rfl, rfl⟩))
    (fun os started H enc _ => lifted os started H enc)
end Go.Proofs.Ytemafanncejeiaa.gasPlayed

namespace Go.Proofs.Ytemafanncejeiaa
theorem gasPlayed_holds : Rows.GasPlayedSaid := gasPlayed.over
#print axioms gasPlayed_holds
end Go.Proofs.Ytemafanncejeiaa
