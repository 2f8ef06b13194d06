/-
  MastPlays, the statement: for every input the call returns true and leaves the input alone.
-/
import Derived.Test.YtacbkbilbmkjnaaMastBaseM
import Derived.Test.YtacbkbilbmkjnaaRows
set_option linter.unusedVariables false
set_option linter.unusedSimpArgs false
/-
  Steps, played one behind the other: the plain side; steps as cells.
-/
namespace Bal.Mast
open Go Go.RowKit Bal Bal.Trim
structure Played where
  b : Berth
  i : Int
  r : Int
  e : Int
def play (p : Port) : Berth → List Step → Nat → Played
  | b, [], _ => ⟨b, 0, 0, 0⟩
  | b, s :: ss, i => if doE p b s = 0 then play p (doB p b s) ss (i + 1) else ⟨b, i, doRule p b s, doE p b s⟩
def playE (p : Port) (b : Berth) (ss : List Step) : Played := if checkBerth p b = 0 then (if 200 < ss.length then ⟨noBerth, 0, 0, 4⟩ else play p b ss 0) else ⟨noBerth, 0, 0, checkBerth p b⟩
theorem play_go {p : Port} {b : Berth} {ss : List Step} {k : Nat} (hk : k < ss.length) (h : doE p b ss[k] = 0) : play p b (ss.drop k) k = play p (doB p b ss[k]) (ss.drop (k + 1)) (k + 1) := by
  rw [List.drop_eq_getElem_cons hk, play, if_pos h]
theorem play_no {p : Port} {b : Berth} {ss : List Step} {k : Nat} (hk : k < ss.length) (h : doE p b ss[k] ≠ 0) : play p b (ss.drop k) k = ⟨b, k, doRule p b ss[k], doE p b ss[k]⟩ := by
  rw [List.drop_eq_getElem_cons hk, play, if_neg h]
theorem play_end {p : Port} {b : Berth} {ss : List Step} {i : Nat} : play p b (ss.drop ss.length) i = ⟨b, 0, 0, 0⟩ := by rw [List.drop_length]; rfl
theorem doneB_ship {k : Dock} (h : 0 ≤ k.b.ship) (t : Int) : 0 ≤ (doneB k t).ship := by
  unfold doneB
  split <;> (try simp only [toShip]) <;> first | exact h | omega | (split <;> first | exact h | omega)
theorem doB_ship {p : Port} {b : Berth} {s : Step} (h : 0 ≤ b.ship) : 0 ≤ (doB p b s).ship := by
  unfold doB
  split
  · exact doneB_ship (k := dockOf p b s) h _
  · exact Int.le_refl 0
theorem Step.row {B : Nat} {w : World} {a : Option Addr} {xs : List Step} (h : Row Step.cells 6 B w a xs) (i : Nat) (hi : i < xs.length) :
    ∃ b off, a = some ⟨b, off, none⟩ ∧ b < B ∧ w.cell? ⟨b, off + i * 6, none⟩ = some (.int .u8 xs[i].act.kind) ∧ w.cell? ⟨b, off + i * 6 + 1, none⟩ = some (.int .i64 xs[i].act.n) ∧ w.cell? ⟨b, off + i * 6 + 2, none⟩ = some (.int .i64 xs[i].wind.xlo) ∧ w.cell? ⟨b, off + i * 6 + 3, none⟩ = some (.int .i64 xs[i].wind.xhi) ∧ w.cell? ⟨b, off + i * 6 + 4, none⟩ = some (.int .i64 xs[i].wind.ylo) ∧ w.cell? ⟨b, off + i * 6 + 5, none⟩ = some (.int .i64 xs[i].wind.yhi) := by
  obtain ⟨b, off, ha, hb, hc⟩ := h i xs[i] (by simp [hi])
  exact ⟨b, off, ha, hb, hc 0 _ rfl, hc 1 _ rfl, hc 2 _ rfl, hc 3 _ rfl, hc 4 _ rfl, hc 5 _ rfl⟩
end Bal.Mast

/-
  Steps, played.
-/
namespace Go.Proofs.Ytacbkbilbmkjnaa
open Go.RowKit Bal Bal.Trim Bal.Mast
set_option linter.unusedVariables false
set_option linter.unusedSimpArgs false
set_option maxHeartbeats 4000000
set_option maxRecDepth 10000

theorem f_Play (a : Option Addr) (c : Nat) (e : Option Addr) (d : Nat) (p : Port) (w : World) (sa : Option Addr) (sc : Nat) (ss : List Step) (hx : Row Axis.cells 2 w.heap.size w a p.axes) (hc : p.axes.length ≤ c) (hM : c ≤ maxLen) (hy : Row Span.cells 2 w.heap.size w e p.pulls) (hd : p.pulls.length ≤ d) (hN : d ≤ maxLen) (h1 : p.axes.length ≤ 1000000) (h2 : p.pulls.length ≤ 1000000) (b : Berth) (hs0 : 0 ≤ b.ship) (hss : Row Step.cells 6 w.heap.size w sa ss) (hsl : ss.length ≤ sc) (hsm : sc ≤ maxLen) (hkk : ∀ s ∈ ss, 0 ≤ s.act.kind ∧ s.act.kind ≤ 255) :
    Calls Try.prog 29 #[.agg #[.slice a p.axes.length c, .int .i64 p.people, .int .i64 p.most, .slice e p.pulls.length d, .int .i64 p.cross], .agg #[.int .u8 b.ship, .int .i64 b.axis, .int .i64 b.held, .bool b.wire, .bool b.opn], .slice sa ss.length sc] w fun z w' => z = .returned (.tuple #[.agg #[.int .u8 (playE p b ss).b.ship, .int .i64 (playE p b ss).b.axis, .int .i64 (playE p b ss).b.held, .bool (playE p b ss).b.wire, .bool (playE p b ss).b.opn], .int .i64 (playE p b ss).i, .int .i64 (playE p b ss).r, .int .i64 (playE p b ss).e]) ∧ Kept w w' := by
  have hM' := hM
  have hN' := hN
  have hsm' := hsm
  unfold maxLen at hM' hN' hsm'
  by_cases c1 : checkBerth p b = 0
  · have HCB := Lib.hid c1
    by_cases c2 : 200 < ss.length
    · rw [show playE p b ss = ⟨noBerth, 0, 0, 4⟩ by unfold playE; rw [if_pos c1, if_pos c2]]
      have c3 : (200 : Int) < (ss.length : Int) := by omega
      clear c1
      go_enter Try.func29, Try.ntmps29
      go_wp2_with (go_at_call 27; (with_reducible refine (f_CheckBerth a c e d p _ (hx.later (by (exact kpt)) (Nat.le_refl _)) hc hM (hy.later (by (exact kpt)) (Nat.le_refl _)) hd hN h1 h2 b hs0).mono ?_); rw [HCB.out]; rintro z w1 ⟨rfl, hb1⟩; refine Blk.thru (b := w.heap.size) (arr := ?_) (t := ?_) ?_ hb1 ?_; rotate_left 2; (focus (exact blk)); intro r0; have r0c0 := r0.cell 0; have r0f0 := r0.free 0; have r0c1 := r0.cell 1; have r0f1 := r0.free 1; have r0c2 := r0.cell 2; have r0f2 := r0.free 2; have r0c3 := r0.cell 3; have r0f3 := r0.free 3; have r0c4 := r0.cell 4; have r0f4 := r0.free 4; have r0l := r0.lt; simp at r0c0 r0c1 r0c2 r0c3 r0c4; refine Blk.thru (b := (w.heap.size + 1)) (arr := ?_) (t := ?_) ?_ hb1 ?_; rotate_left 2; (focus (exact blk)); intro r1; have r1c0 := r1.cell 0; have r1f0 := r1.free 0; have r1c1 := r1.cell 1; have r1f1 := r1.free 1; have r1c2 := r1.cell 2; have r1f2 := r1.free 2; have r1c3 := r1.cell 3; have r1f3 := r1.free 3; have r1c4 := r1.cell 4; have r1f4 := r1.free 4; have r1l := r1.lt; simp at r1c0 r1c1 r1c2 r1c3 r1c4; refine Blk.thru (b := (w.heap.size + 1 + 1)) (arr := ?_) (t := ?_) ?_ hb1 ?_; rotate_left 2; (focus (exact blk)); intro r3; have r3c0 := r3.cell 0; have r3f0 := r3.free 0; have r3c1 := r3.cell 1; have r3f1 := r3.free 1; have r3c2 := r3.cell 2; have r3f2 := r3.free 2; have r3c3 := r3.cell 3; have r3f3 := r3.free 3; have r3c4 := r3.cell 4; have r3f4 := r3.free 4; have r3l := r3.lt; simp at r3c0 r3c1 r3c2 r3c3 r3c4)
      exact bodyPost_ret (v := .tuple #[.agg #[.int .u8 noBerth.ship, .int .i64 noBerth.axis, .int .i64 noBerth.held, .bool noBerth.wire, .bool noBerth.opn], .int .i64 0, .int .i64 0, .int .i64 4]) (by first | (simp [results, Try.results29, go_sem, noBerth, r3c0, r3c1, r3c2, r3c3, r3c4, r3l]; done) | (simp [results, Try.results29, go_sem, noBerth, r3c0, r3c1, r3c2, r3c3, r3c4, r3l]; rfl)) rfl ⟨rfl, by (exact kpt)⟩
    · have hpl0 : playE p b ss = play p b (ss.drop 0) 0 := by unfold playE; rw [if_pos c1, if_neg c2]; rfl
      obtain ⟨X, hX⟩ : ∃ X, playE p b ss = X := ⟨_, rfl⟩
      rw [hX] at hpl0
      rw [hX]
      have c3 : ¬ (200 : Int) < (ss.length : Int) := by omega
      have HKK := Lib.hid hkk
      clear c1 hX hkk
      go_enter Try.func29, Try.ntmps29
      go_upto_region 6 with (go_at_call 27; (with_reducible refine (f_CheckBerth a c e d p _ (hx.later (by (exact kpt)) (Nat.le_refl _)) hc hM (hy.later (by (exact kpt)) (Nat.le_refl _)) hd hN h1 h2 b hs0).mono ?_); rw [HCB.out]; rintro z w1 ⟨rfl, hb1⟩; refine Blk.thru (b := w.heap.size) (arr := ?_) (t := ?_) ?_ hb1 ?_; rotate_left 2; (focus (exact blk)); intro r0; have r0c0 := r0.cell 0; have r0f0 := r0.free 0; have r0c1 := r0.cell 1; have r0f1 := r0.free 1; have r0c2 := r0.cell 2; have r0f2 := r0.free 2; have r0c3 := r0.cell 3; have r0f3 := r0.free 3; have r0c4 := r0.cell 4; have r0f4 := r0.free 4; have r0l := r0.lt; simp at r0c0 r0c1 r0c2 r0c3 r0c4; refine Blk.thru (b := (w.heap.size + 1)) (arr := ?_) (t := ?_) ?_ hb1 ?_; rotate_left 2; (focus (exact blk)); intro r1; have r1c0 := r1.cell 0; have r1f0 := r1.free 0; have r1c1 := r1.cell 1; have r1f1 := r1.free 1; have r1c2 := r1.cell 2; have r1f2 := r1.free 2; have r1c3 := r1.cell 3; have r1f3 := r1.free 3; have r1c4 := r1.cell 4; have r1f4 := r1.free 4; have r1l := r1.lt; simp at r1c0 r1c1 r1c2 r1c3 r1c4; refine Blk.thru (b := (w.heap.size + 1 + 1)) (arr := ?_) (t := ?_) ?_ hb1 ?_; rotate_left 2; (focus (exact blk)); intro r3; have r3c0 := r3.cell 0; have r3f0 := r3.free 0; have r3c1 := r3.cell 1; have r3f1 := r3.free 1; have r3c2 := r3.cell 2; have r3f2 := r3.free 2; have r3c3 := r3.cell 3; have r3f3 := r3.free 3; have r3c4 := r3.cell 4; have r3f4 := r3.free 4; have r3l := r3.lt; simp at r3c0 r3c1 r3c2 r3c3 r3c4)
      refine at_world (S := fun V => Blk V w.heap.size #[.slice a p.axes.length c, .int .i64 p.people, .int .i64 p.most, .slice e p.pulls.length d, .int .i64 p.cross] 45 ∧ Blk V (w.heap.size + 1) #[.int .u8 b.ship, .int .i64 b.axis, .int .i64 b.held, .bool b.wire, .bool b.opn] 59 ∧ Blk V (w.heap.size + 1 + 1) #[.int .u8 0, .int .i64 0, .int .i64 0, .bool false, .bool false] 59 ∧ Kept w V) ⟨by (exact blk), by (exact blk), by (exact blk), by (exact kpt)⟩ ?_
      clear r0 r1 r3 r0c0 r0f0 r0c1 r0f1 r0c2 r0f2 r0c3 r0f3 r0c4 r0f4 r1c0 r1f0 r1c1 r1f1 r1c2 r1f2 r1c3 r1f3 r1c4 r1f4 r3c0 r3f0 r3c1 r3f1 r3c2 r3f2 r3c3 r3f3 r3c4 r3f4 r0l r1l r3l
      rintro W ⟨r0, r1, r3, hk⟩
      go_wp2
      go_loopw [29] (fun i wr => ∃ (k : Nat) (bq : Berth), k ≤ ss.length ∧ i = .int .i64 k ∧ 0 ≤ bq.ship ∧ X = play p bq (ss.drop k) k ∧ Blk wr w.heap.size #[.slice a p.axes.length c, .int .i64 p.people, .int .i64 p.most, .slice e p.pulls.length d, .int .i64 p.cross] 45 ∧ Blk wr (w.heap.size + 1) #[.int .u8 bq.ship, .int .i64 bq.axis, .int .i64 bq.held, .bool bq.wire, .bool bq.opn] 59 ∧ Blk wr (w.heap.size + 1 + 1) #[.int .u8 0, .int .i64 0, .int .i64 0, .bool false, .bool false] 59 ∧ Kept w wr) (fun i _ => ss.length - (intOf i).toNat)
      case atStart => exact ⟨0, b, Nat.zero_le _, rfl, hs0, hpl0, r0, r1, r3, hk⟩
      case round =>
        clear r0 r1 r3 hk hpl0
        obtain ⟨k, bq, hkl, rfl, hq0, hpl, r0, r1, r3, hk⟩ := hrel
        have HPL := Lib.hid hpl
        clear hpl
        by_cases hlt : k < ss.length
        · obtain ⟨bb, off, rfl, hbb, g0, g1, g2, g3, g4, g5⟩ := Step.row (hss.later hk (Nat.le_refl _)) k hlt
          have HGO := Lib.hid (fun h => play_go (p := p) (b := bq) hlt h)
          have HNO := Lib.hid (fun h => play_no (p := p) (b := bq) hlt h)
          have hk0 := HKK.out _ (List.getElem_mem hlt)
          obtain ⟨s, hs⟩ : ∃ s, s = ss[k] := ⟨_, rfl⟩
          rw [← hs] at g0 g1 g2 g3 g4 g5 HGO HNO hk0
          clear hs
          obtain ⟨DB, hDB⟩ : ∃ x, doB p bq s = x := ⟨_, rfl⟩
          obtain ⟨DE, hDE⟩ : ∃ x, doE p bq s = x := ⟨_, rfl⟩
          obtain ⟨DR, hDR⟩ : ∃ x, doRule p bq s = x := ⟨_, rfl⟩
          have HSB := Lib.hid (show 0 ≤ DB.ship by rw [← hDB]; exact doB_ship hq0)
          have HDB := Lib.hid hDB
          have HDE := Lib.hid hDE
          have HDR := Lib.hid hDR
          clear hDB hDE hDR
          have j0 : (0 : Int) ≤ (k : Int) := by omega
          have j1 : (k : Int) < (ss.length : Int) := by omega
          have r0c0 := r0.cell 0
          have r0c1 := r0.cell 1
          have r0c2 := r0.cell 2
          have r0c3 := r0.cell 3
          have r0c4 := r0.cell 4
          have r0f0 := r0.free 0
          have r0f1 := r0.free 1
          have r0f2 := r0.free 2
          have r0f3 := r0.free 3
          have r0f4 := r0.free 4
          have r0l := r0.lt
          simp at r0c0 r0c1 r0c2 r0c3 r0c4
          have r1c0 := r1.cell 0
          have r1c1 := r1.cell 1
          have r1c2 := r1.cell 2
          have r1c3 := r1.cell 3
          have r1c4 := r1.cell 4
          have r1f0 := r1.free 0
          have r1f1 := r1.free 1
          have r1f2 := r1.free 2
          have r1f3 := r1.free 3
          have r1f4 := r1.free 4
          have r1l := r1.lt
          simp at r1c0 r1c1 r1c2 r1c3 r1c4
          have r3c0 := r3.cell 0
          have r3c1 := r3.cell 1
          have r3c2 := r3.cell 2
          have r3c3 := r3.cell 3
          have r3c4 := r3.cell 4
          have r3f0 := r3.free 0
          have r3f1 := r3.free 1
          have r3f2 := r3.free 2
          have r3f3 := r3.free 3
          have r3f4 := r3.free 4
          have r3l := r3.lt
          simp at r3c0 r3c1 r3c2 r3c3 r3c4
          by_cases he : DE = 0
          · subst he
            have HX2 := Lib.hid (HPL.out.trans (HGO.out HDE.out))
            rw [show doB p bq s = DB from HDB.out] at HX2
            clear HGO HNO HPL
            go_wp2_with (go_at_call 23; (with_reducible refine (f_Do a c e d p _ (hx.later (by (exact kpt)) (Nat.le_refl _)) hc hM (hy.later (by (exact kpt)) (Nat.le_refl _)) hd hN h1 h2 bq hq0 s hk0).mono ?_); rw [HDB.out, HDE.out, HDR.out]; rintro z w5 ⟨rfl, hb5⟩; refine Blk.thru (b := w.heap.size) (arr := ?_) (t := ?_) ?_ hb5 ?_; rotate_left 2; (focus (exact blk)); intro r0; have r0c0 := r0.cell 0; have r0f0 := r0.free 0; have r0c1 := r0.cell 1; have r0f1 := r0.free 1; have r0c2 := r0.cell 2; have r0f2 := r0.free 2; have r0c3 := r0.cell 3; have r0f3 := r0.free 3; have r0c4 := r0.cell 4; have r0f4 := r0.free 4; have r0l := r0.lt; simp at r0c0 r0c1 r0c2 r0c3 r0c4; refine Blk.thru (b := (w.heap.size + 1)) (arr := ?_) (t := ?_) ?_ hb5 ?_; rotate_left 2; (focus (exact blk)); intro r1; have r1c0 := r1.cell 0; have r1f0 := r1.free 0; have r1c1 := r1.cell 1; have r1f1 := r1.free 1; have r1c2 := r1.cell 2; have r1f2 := r1.free 2; have r1c3 := r1.cell 3; have r1f3 := r1.free 3; have r1c4 := r1.cell 4; have r1f4 := r1.free 4; have r1l := r1.lt; simp at r1c0 r1c1 r1c2 r1c3 r1c4; refine Blk.thru (b := (w.heap.size + 1 + 1)) (arr := ?_) (t := ?_) ?_ hb5 ?_; rotate_left 2; (focus (exact blk)); intro r3; have r3c0 := r3.cell 0; have r3f0 := r3.free 0; have r3c1 := r3.cell 1; have r3f1 := r3.free 1; have r3c2 := r3.cell 2; have r3f2 := r3.free 2; have r3c3 := r3.cell 3; have r3f3 := r3.free 3; have r3c4 := r3.cell 4; have r3f4 := r3.free 4; have r3l := r3.lt; simp at r3c0 r3c1 r3c2 r3c3 r3c4)
            go_round
            case rel => exact ⟨k + 1, DB, by omega, by go_num, HSB.out, HX2.out, by (exact blk), by (exact blkc), by (exact blk), by (exact kpt)⟩
            case measure => simp [intOf]; omega
          · have HX2 := Lib.hid (HPL.out.trans (HNO.out (by rw [HDE.out]; exact he)))
            rw [show doRule p bq s = DR from HDR.out, show doE p bq s = DE from HDE.out] at HX2
            have heb : (DE == 0) = false := beq_eq_false_iff_ne.2 he
            have hen : (DE != 0) = true := by simp [he]
            clear HGO HNO HPL
            go_wp2_with (go_at_call 23; (with_reducible refine (f_Do a c e d p _ (hx.later (by (exact kpt)) (Nat.le_refl _)) hc hM (hy.later (by (exact kpt)) (Nat.le_refl _)) hd hN h1 h2 bq hq0 s hk0).mono ?_); rw [HDB.out, HDE.out, HDR.out]; rintro z w5 ⟨rfl, hb5⟩; refine Blk.thru (b := w.heap.size) (arr := ?_) (t := ?_) ?_ hb5 ?_; rotate_left 2; (focus (exact blk)); intro r0; have r0c0 := r0.cell 0; have r0f0 := r0.free 0; have r0c1 := r0.cell 1; have r0f1 := r0.free 1; have r0c2 := r0.cell 2; have r0f2 := r0.free 2; have r0c3 := r0.cell 3; have r0f3 := r0.free 3; have r0c4 := r0.cell 4; have r0f4 := r0.free 4; have r0l := r0.lt; simp at r0c0 r0c1 r0c2 r0c3 r0c4; refine Blk.thru (b := (w.heap.size + 1)) (arr := ?_) (t := ?_) ?_ hb5 ?_; rotate_left 2; (focus (exact blk)); intro r1; have r1c0 := r1.cell 0; have r1f0 := r1.free 0; have r1c1 := r1.cell 1; have r1f1 := r1.free 1; have r1c2 := r1.cell 2; have r1f2 := r1.free 2; have r1c3 := r1.cell 3; have r1f3 := r1.free 3; have r1c4 := r1.cell 4; have r1f4 := r1.free 4; have r1l := r1.lt; simp at r1c0 r1c1 r1c2 r1c3 r1c4; refine Blk.thru (b := (w.heap.size + 1 + 1)) (arr := ?_) (t := ?_) ?_ hb5 ?_; rotate_left 2; (focus (exact blk)); intro r3; have r3c0 := r3.cell 0; have r3f0 := r3.free 0; have r3c1 := r3.cell 1; have r3f1 := r3.free 1; have r3c2 := r3.cell 2; have r3f2 := r3.free 2; have r3c3 := r3.cell 3; have r3f3 := r3.free 3; have r3c4 := r3.cell 4; have r3f4 := r3.free 4; have r3l := r3.lt; simp at r3c0 r3c1 r3c2 r3c3 r3c4)
            obtain rfl : X = ⟨bq, k, DR, DE⟩ := HX2.out
            exact bodyPost_ret (v := .tuple #[.agg #[.int .u8 bq.ship, .int .i64 bq.axis, .int .i64 bq.held, .bool bq.wire, .bool bq.opn], .int .i64 (k : Int), .int .i64 DR, .int .i64 DE]) (by first | (simp [results, Try.results29, go_sem, noBerth, r3c0, r3c1, r3c2, r3c3, r3c4, r3l]; done) | (simp [results, Try.results29, go_sem, noBerth, r3c0, r3c1, r3c2, r3c3, r3c4, r3l]; rfl)) rfl ⟨rfl, by (exact kpt)⟩
        · obtain rfl : ss.length = k := by omega
          obtain rfl : X = ⟨bq, 0, 0, 0⟩ := HPL.out.trans play_end
          have r0c0 := r0.cell 0
          have r0c1 := r0.cell 1
          have r0c2 := r0.cell 2
          have r0c3 := r0.cell 3
          have r0c4 := r0.cell 4
          have r0f0 := r0.free 0
          have r0f1 := r0.free 1
          have r0f2 := r0.free 2
          have r0f3 := r0.free 3
          have r0f4 := r0.free 4
          have r0l := r0.lt
          simp at r0c0 r0c1 r0c2 r0c3 r0c4
          have r1c0 := r1.cell 0
          have r1c1 := r1.cell 1
          have r1c2 := r1.cell 2
          have r1c3 := r1.cell 3
          have r1c4 := r1.cell 4
          have r1f0 := r1.free 0
          have r1f1 := r1.free 1
          have r1f2 := r1.free 2
          have r1f3 := r1.free 3
          have r1f4 := r1.free 4
          have r1l := r1.lt
          simp at r1c0 r1c1 r1c2 r1c3 r1c4
          have r3c0 := r3.cell 0
          have r3c1 := r3.cell 1
          have r3c2 := r3.cell 2
          have r3c3 := r3.cell 3
          have r3c4 := r3.cell 4
          have r3f0 := r3.free 0
          have r3f1 := r3.free 1
          have r3f2 := r3.free 2
          have r3f3 := r3.free 3
          have r3f4 := r3.free 4
          have r3l := r3.lt
          simp at r3c0 r3c1 r3c2 r3c3 r3c4
          go_wp2
          exact bodyPost_ret (v := .tuple #[.agg #[.int .u8 bq.ship, .int .i64 bq.axis, .int .i64 bq.held, .bool bq.wire, .bool bq.opn], .int .i64 0, .int .i64 0, .int .i64 0]) (by first | (simp [results, Try.results29, go_sem, noBerth, r3c0, r3c1, r3c2, r3c3, r3c4, r3l]; done) | (simp [results, Try.results29, go_sem, noBerth, r3c0, r3c1, r3c2, r3c3, r3c4, r3l]; rfl)) rfl ⟨rfl, by (exact kpt)⟩
  · obtain ⟨E, hE⟩ : ∃ E, checkBerth p b = E := ⟨_, rfl⟩
    rw [show playE p b ss = ⟨noBerth, 0, 0, E⟩ by unfold playE; rw [if_neg c1, hE]]
    have HCB := Lib.hid hE
    have hE0 : ¬ E = 0 := by rw [← hE]; exact c1
    have hEb : (E == 0) = false := beq_eq_false_iff_ne.2 hE0
    clear c1 hE
    go_enter Try.func29, Try.ntmps29
    go_wp2_with (go_at_call 27; (with_reducible refine (f_CheckBerth a c e d p _ (hx.later (by (exact kpt)) (Nat.le_refl _)) hc hM (hy.later (by (exact kpt)) (Nat.le_refl _)) hd hN h1 h2 b hs0).mono ?_); rw [HCB.out]; rintro z w1 ⟨rfl, hb1⟩; refine Blk.thru (b := w.heap.size) (arr := ?_) (t := ?_) ?_ hb1 ?_; rotate_left 2; (focus (exact blk)); intro r0; have r0c0 := r0.cell 0; have r0f0 := r0.free 0; have r0c1 := r0.cell 1; have r0f1 := r0.free 1; have r0c2 := r0.cell 2; have r0f2 := r0.free 2; have r0c3 := r0.cell 3; have r0f3 := r0.free 3; have r0c4 := r0.cell 4; have r0f4 := r0.free 4; have r0l := r0.lt; simp at r0c0 r0c1 r0c2 r0c3 r0c4; refine Blk.thru (b := (w.heap.size + 1)) (arr := ?_) (t := ?_) ?_ hb1 ?_; rotate_left 2; (focus (exact blk)); intro r1; have r1c0 := r1.cell 0; have r1f0 := r1.free 0; have r1c1 := r1.cell 1; have r1f1 := r1.free 1; have r1c2 := r1.cell 2; have r1f2 := r1.free 2; have r1c3 := r1.cell 3; have r1f3 := r1.free 3; have r1c4 := r1.cell 4; have r1f4 := r1.free 4; have r1l := r1.lt; simp at r1c0 r1c1 r1c2 r1c3 r1c4; refine Blk.thru (b := (w.heap.size + 1 + 1)) (arr := ?_) (t := ?_) ?_ hb1 ?_; rotate_left 2; (focus (exact blk)); intro r3; have r3c0 := r3.cell 0; have r3f0 := r3.free 0; have r3c1 := r3.cell 1; have r3f1 := r3.free 1; have r3c2 := r3.cell 2; have r3f2 := r3.free 2; have r3c3 := r3.cell 3; have r3f3 := r3.free 3; have r3c4 := r3.cell 4; have r3f4 := r3.free 4; have r3l := r3.lt; simp at r3c0 r3c1 r3c2 r3c3 r3c4)
    exact bodyPost_ret (v := .tuple #[.agg #[.int .u8 noBerth.ship, .int .i64 noBerth.axis, .int .i64 noBerth.held, .bool noBerth.wire, .bool noBerth.opn], .int .i64 0, .int .i64 0, .int .i64 E]) (by first | (simp [results, Try.results29, go_sem, noBerth, r3c0, r3c1, r3c2, r3c3, r3c4, r3l]; done) | (simp [results, Try.results29, go_sem, noBerth, r3c0, r3c1, r3c2, r3c3, r3c4, r3l]; rfl)) rfl ⟨rfl, by (exact kpt)⟩

end Go.Proofs.Ytacbkbilbmkjnaa

/-
  Steps, played in the reference.
-/
namespace Go.Proofs.Ytacbkbilbmkjnaa
open Go.RowKit Bal Bal.Trim Bal.Mast
set_option linter.unusedVariables false
set_option linter.unusedSimpArgs false
set_option maxHeartbeats 4000000
set_option maxRecDepth 10000

theorem r_Play (a : Option Addr) (c : Nat) (e : Option Addr) (d : Nat) (p : Port) (w : World) (sa : Option Addr) (sc : Nat) (ss : List Step) (hx : Row Axis.cells 2 w.heap.size w a p.axes) (hc : p.axes.length ≤ c) (hM : c ≤ maxLen) (hy : Row Span.cells 2 w.heap.size w e p.pulls) (hd : p.pulls.length ≤ d) (hN : d ≤ maxLen) (h1 : p.axes.length ≤ 1000000) (h2 : p.pulls.length ≤ 1000000) (b : Berth) (hs0 : 0 ≤ b.ship) (hss : Row Step.cells 6 w.heap.size w sa ss) (hsl : ss.length ≤ sc) (hsm : sc ≤ maxLen) (hkk : ∀ s ∈ ss, 0 ≤ s.act.kind ∧ s.act.kind ≤ 255) :
    Calls Try.prog 30 #[.agg #[.slice a p.axes.length c, .int .i64 p.people, .int .i64 p.most, .slice e p.pulls.length d, .int .i64 p.cross], .agg #[.int .u8 b.ship, .int .i64 b.axis, .int .i64 b.held, .bool b.wire, .bool b.opn], .slice sa ss.length sc] w fun z w' => z = .returned (.tuple #[.agg #[.int .u8 (playE p b ss).b.ship, .int .i64 (playE p b ss).b.axis, .int .i64 (playE p b ss).b.held, .bool (playE p b ss).b.wire, .bool (playE p b ss).b.opn], .int .i64 (playE p b ss).i, .int .i64 (playE p b ss).r, .int .i64 (playE p b ss).e]) ∧ Kept w w' := by
  have hM' := hM
  have hN' := hN
  have hsm' := hsm
  unfold maxLen at hM' hN' hsm'
  by_cases c1 : checkBerth p b = 0
  · have HCB := Lib.hid c1
    by_cases c2 : 200 < ss.length
    · rw [show playE p b ss = ⟨noBerth, 0, 0, 4⟩ by unfold playE; rw [if_pos c1, if_pos c2]]
      have c3 : (200 : Int) < (ss.length : Int) := by omega
      clear c1
      go_enter Try.func30, Try.ntmps30
      go_wp2_with (go_at_call 28; (with_reducible refine (r_CheckBerth a c e d p _ (hx.later (by (exact kpt)) (Nat.le_refl _)) hc hM (hy.later (by (exact kpt)) (Nat.le_refl _)) hd hN h1 h2 b hs0).mono ?_); rw [HCB.out]; rintro z w1 ⟨rfl, hb1⟩; refine Blk.thru (b := w.heap.size) (arr := ?_) (t := ?_) ?_ hb1 ?_; rotate_left 2; (focus (exact blk)); intro r0; have r0c0 := r0.cell 0; have r0f0 := r0.free 0; have r0c1 := r0.cell 1; have r0f1 := r0.free 1; have r0c2 := r0.cell 2; have r0f2 := r0.free 2; have r0c3 := r0.cell 3; have r0f3 := r0.free 3; have r0c4 := r0.cell 4; have r0f4 := r0.free 4; have r0l := r0.lt; simp at r0c0 r0c1 r0c2 r0c3 r0c4; refine Blk.thru (b := (w.heap.size + 1)) (arr := ?_) (t := ?_) ?_ hb1 ?_; rotate_left 2; (focus (exact blk)); intro r1; have r1c0 := r1.cell 0; have r1f0 := r1.free 0; have r1c1 := r1.cell 1; have r1f1 := r1.free 1; have r1c2 := r1.cell 2; have r1f2 := r1.free 2; have r1c3 := r1.cell 3; have r1f3 := r1.free 3; have r1c4 := r1.cell 4; have r1f4 := r1.free 4; have r1l := r1.lt; simp at r1c0 r1c1 r1c2 r1c3 r1c4; refine Blk.thru (b := (w.heap.size + 1 + 1)) (arr := ?_) (t := ?_) ?_ hb1 ?_; rotate_left 2; (focus (exact blk)); intro r3; have r3c0 := r3.cell 0; have r3f0 := r3.free 0; have r3c1 := r3.cell 1; have r3f1 := r3.free 1; have r3c2 := r3.cell 2; have r3f2 := r3.free 2; have r3c3 := r3.cell 3; have r3f3 := r3.free 3; have r3c4 := r3.cell 4; have r3f4 := r3.free 4; have r3l := r3.lt; simp at r3c0 r3c1 r3c2 r3c3 r3c4)
      exact bodyPost_ret (v := .tuple #[.agg #[.int .u8 noBerth.ship, .int .i64 noBerth.axis, .int .i64 noBerth.held, .bool noBerth.wire, .bool noBerth.opn], .int .i64 0, .int .i64 0, .int .i64 4]) (by first | (simp [results, Try.results30, go_sem, noBerth, r3c0, r3c1, r3c2, r3c3, r3c4, r3l]; done) | (simp [results, Try.results30, go_sem, noBerth, r3c0, r3c1, r3c2, r3c3, r3c4, r3l]; rfl)) rfl ⟨rfl, by (exact kpt)⟩
    · have hpl0 : playE p b ss = play p b (ss.drop 0) 0 := by unfold playE; rw [if_pos c1, if_neg c2]; rfl
      obtain ⟨X, hX⟩ : ∃ X, playE p b ss = X := ⟨_, rfl⟩
      rw [hX] at hpl0
      rw [hX]
      have c3 : ¬ (200 : Int) < (ss.length : Int) := by omega
      have HKK := Lib.hid hkk
      clear c1 hX hkk
      go_enter Try.func30, Try.ntmps30
      go_upto_region 6 with (go_at_call 28; (with_reducible refine (r_CheckBerth a c e d p _ (hx.later (by (exact kpt)) (Nat.le_refl _)) hc hM (hy.later (by (exact kpt)) (Nat.le_refl _)) hd hN h1 h2 b hs0).mono ?_); rw [HCB.out]; rintro z w1 ⟨rfl, hb1⟩; refine Blk.thru (b := w.heap.size) (arr := ?_) (t := ?_) ?_ hb1 ?_; rotate_left 2; (focus (exact blk)); intro r0; have r0c0 := r0.cell 0; have r0f0 := r0.free 0; have r0c1 := r0.cell 1; have r0f1 := r0.free 1; have r0c2 := r0.cell 2; have r0f2 := r0.free 2; have r0c3 := r0.cell 3; have r0f3 := r0.free 3; have r0c4 := r0.cell 4; have r0f4 := r0.free 4; have r0l := r0.lt; simp at r0c0 r0c1 r0c2 r0c3 r0c4; refine Blk.thru (b := (w.heap.size + 1)) (arr := ?_) (t := ?_) ?_ hb1 ?_; rotate_left 2; (focus (exact blk)); intro r1; have r1c0 := r1.cell 0; have r1f0 := r1.free 0; have r1c1 := r1.cell 1; have r1f1 := r1.free 1; have r1c2 := r1.cell 2; have r1f2 := r1.free 2; have r1c3 := r1.cell 3; have r1f3 := r1.free 3; have r1c4 := r1.cell 4; have r1f4 := r1.free 4; have r1l := r1.lt; simp at r1c0 r1c1 r1c2 r1c3 r1c4; refine Blk.thru (b := (w.heap.size + 1 + 1)) (arr := ?_) (t := ?_) ?_ hb1 ?_; rotate_left 2; (focus (exact blk)); intro r3; have r3c0 := r3.cell 0; have r3f0 := r3.free 0; have r3c1 := r3.cell 1; have r3f1 := r3.free 1; have r3c2 := r3.cell 2; have r3f2 := r3.free 2; have r3c3 := r3.cell 3; have r3f3 := r3.free 3; have r3c4 := r3.cell 4; have r3f4 := r3.free 4; have r3l := r3.lt; simp at r3c0 r3c1 r3c2 r3c3 r3c4)
      refine at_world (S := fun V => Blk V w.heap.size #[.slice a p.axes.length c, .int .i64 p.people, .int .i64 p.most, .slice e p.pulls.length d, .int .i64 p.cross] 45 ∧ Blk V (w.heap.size + 1) #[.int .u8 b.ship, .int .i64 b.axis, .int .i64 b.held, .bool b.wire, .bool b.opn] 59 ∧ Blk V (w.heap.size + 1 + 1) #[.int .u8 0, .int .i64 0, .int .i64 0, .bool false, .bool false] 59 ∧ Kept w V) ⟨by (exact blk), by (exact blk), by (exact blk), by (exact kpt)⟩ ?_
      clear r0 r1 r3 r0c0 r0f0 r0c1 r0f1 r0c2 r0f2 r0c3 r0f3 r0c4 r0f4 r1c0 r1f0 r1c1 r1f1 r1c2 r1f2 r1c3 r1f3 r1c4 r1f4 r3c0 r3f0 r3c1 r3f1 r3c2 r3f2 r3c3 r3f3 r3c4 r3f4 r0l r1l r3l
      rintro W ⟨r0, r1, r3, hk⟩
      go_wp2
      go_loopw [11] (fun i wr => ∃ (k : Nat) (bq : Berth), k ≤ ss.length ∧ i = .int .i64 k ∧ 0 ≤ bq.ship ∧ X = play p bq (ss.drop k) k ∧ Blk wr w.heap.size #[.slice a p.axes.length c, .int .i64 p.people, .int .i64 p.most, .slice e p.pulls.length d, .int .i64 p.cross] 45 ∧ Blk wr (w.heap.size + 1) #[.int .u8 bq.ship, .int .i64 bq.axis, .int .i64 bq.held, .bool bq.wire, .bool bq.opn] 59 ∧ Blk wr (w.heap.size + 1 + 1) #[.int .u8 0, .int .i64 0, .int .i64 0, .bool false, .bool false] 59 ∧ Kept w wr) (fun i _ => ss.length - (intOf i).toNat)
      case atStart => exact ⟨0, b, Nat.zero_le _, rfl, hs0, hpl0, r0, r1, r3, hk⟩
      case round =>
        clear r0 r1 r3 hk hpl0
        obtain ⟨k, bq, hkl, rfl, hq0, hpl, r0, r1, r3, hk⟩ := hrel
        have HPL := Lib.hid hpl
        clear hpl
        by_cases hlt : k < ss.length
        · obtain ⟨bb, off, rfl, hbb, g0, g1, g2, g3, g4, g5⟩ := Step.row (hss.later hk (Nat.le_refl _)) k hlt
          have HGO := Lib.hid (fun h => play_go (p := p) (b := bq) hlt h)
          have HNO := Lib.hid (fun h => play_no (p := p) (b := bq) hlt h)
          have hk0 := HKK.out _ (List.getElem_mem hlt)
          obtain ⟨s, hs⟩ : ∃ s, s = ss[k] := ⟨_, rfl⟩
          rw [← hs] at g0 g1 g2 g3 g4 g5 HGO HNO hk0
          clear hs
          obtain ⟨DB, hDB⟩ : ∃ x, doB p bq s = x := ⟨_, rfl⟩
          obtain ⟨DE, hDE⟩ : ∃ x, doE p bq s = x := ⟨_, rfl⟩
          obtain ⟨DR, hDR⟩ : ∃ x, doRule p bq s = x := ⟨_, rfl⟩
          have HSB := Lib.hid (show 0 ≤ DB.ship by rw [← hDB]; exact doB_ship hq0)
          have HDB := Lib.hid hDB
          have HDE := Lib.hid hDE
          have HDR := Lib.hid hDR
          clear hDB hDE hDR
          have j0 : (0 : Int) ≤ (k : Int) := by omega
          have j1 : (k : Int) < (ss.length : Int) := by omega
          go_upto_region 9 with fail
          have r0k0 : ∀ w', Kept wr w' → w'.cell? ⟨w.heap.size, 0, none⟩ = some (.slice a p.axes.length c) := fun w' h => by simpa using (r0.keep h).cell 0
          have r0k1 : ∀ w', Kept wr w' → w'.cell? ⟨w.heap.size, 1, none⟩ = some (.int .i64 p.people) := fun w' h => by simpa using (r0.keep h).cell 1
          have r0k2 : ∀ w', Kept wr w' → w'.cell? ⟨w.heap.size, 2, none⟩ = some (.int .i64 p.most) := fun w' h => by simpa using (r0.keep h).cell 2
          have r0k3 : ∀ w', Kept wr w' → w'.cell? ⟨w.heap.size, 3, none⟩ = some (.slice e p.pulls.length d) := fun w' h => by simpa using (r0.keep h).cell 3
          have r0k4 : ∀ w', Kept wr w' → w'.cell? ⟨w.heap.size, 4, none⟩ = some (.int .i64 p.cross) := fun w' h => by simpa using (r0.keep h).cell 4
          have r1k0 : ∀ w', Kept wr w' → w'.cell? ⟨(w.heap.size + 1), 0, none⟩ = some (.int .u8 bq.ship) := fun w' h => by simpa using (r1.keep h).cell 0
          have r1k1 : ∀ w', Kept wr w' → w'.cell? ⟨(w.heap.size + 1), 1, none⟩ = some (.int .i64 bq.axis) := fun w' h => by simpa using (r1.keep h).cell 1
          have r1k2 : ∀ w', Kept wr w' → w'.cell? ⟨(w.heap.size + 1), 2, none⟩ = some (.int .i64 bq.held) := fun w' h => by simpa using (r1.keep h).cell 2
          have r1k3 : ∀ w', Kept wr w' → w'.cell? ⟨(w.heap.size + 1), 3, none⟩ = some (.bool bq.wire) := fun w' h => by simpa using (r1.keep h).cell 3
          have r1k4 : ∀ w', Kept wr w' → w'.cell? ⟨(w.heap.size + 1), 4, none⟩ = some (.bool bq.opn) := fun w' h => by simpa using (r1.keep h).cell 4
          have y0 : ∀ w', Kept wr w' → w'.cell? ⟨bb, off + k * 6, none⟩ = some (.int .u8 s.act.kind) := fun w' h => (by rw [h.cell (p := ⟨bb, off + k * 6, none⟩) hbb]; exact g0)
          have y1 : ∀ w', Kept wr w' → w'.cell? ⟨bb, off + k * 6 + 1, none⟩ = some (.int .i64 s.act.n) := fun w' h => (by rw [h.cell (p := ⟨bb, off + k * 6 + 1, none⟩) hbb]; exact g1)
          have y2 : ∀ w', Kept wr w' → w'.cell? ⟨bb, off + k * 6 + 2, none⟩ = some (.int .i64 s.wind.xlo) := fun w' h => (by rw [h.cell (p := ⟨bb, off + k * 6 + 2, none⟩) hbb]; exact g2)
          have y3 : ∀ w', Kept wr w' → w'.cell? ⟨bb, off + k * 6 + 3, none⟩ = some (.int .i64 s.wind.xhi) := fun w' h => (by rw [h.cell (p := ⟨bb, off + k * 6 + 3, none⟩) hbb]; exact g3)
          have y4 : ∀ w', Kept wr w' → w'.cell? ⟨bb, off + k * 6 + 4, none⟩ = some (.int .i64 s.wind.ylo) := fun w' h => (by rw [h.cell (p := ⟨bb, off + k * 6 + 4, none⟩) hbb]; exact g4)
          have y5 : ∀ w', Kept wr w' → w'.cell? ⟨bb, off + k * 6 + 5, none⟩ = some (.int .i64 s.wind.yhi) := fun w' h => (by rw [h.cell (p := ⟨bb, off + k * 6 + 5, none⟩) hbb]; exact g5)
          have l0 := r0.lt
          have l1 := r1.lt
          have l3 := r3.lt
          go_cut [12, 13, 14] (fun s12 s13 s14 wx => ∃ nb, s12 = .pointer (some ⟨nb, 0, none⟩) ∧ s13 = .int .i64 DR ∧ s14 = .int .i64 DE ∧ wr.heap.size ≤ nb ∧ Blk wx nb #[.int .u8 DB.ship, .int .i64 DB.axis, .int .i64 DB.held, .bool DB.wire, .bool DB.opn] 59 ∧ Blk wx w.heap.size #[.slice a p.axes.length c, .int .i64 p.people, .int .i64 p.most, .slice e p.pulls.length d, .int .i64 p.cross] 45 ∧ Blk wx (w.heap.size + 1) #[.int .u8 bq.ship, .int .i64 bq.axis, .int .i64 bq.held, .bool bq.wire, .bool bq.opn] 59 ∧ Blk wx (w.heap.size + 1 + 1) #[.int .u8 0, .int .i64 0, .int .i64 0, .bool false, .bool false] 59 ∧ Kept w wx)
          case first =>
            clear g0 g1 g2 g3 g4 g5
            go_region_held3 (fun w' => Kept wr w') (exact kpt) (first | (go_at_call 24; (with_reducible refine (r_Do a c e d p _ (hx.later (by (exact kpt)) (Nat.le_refl _)) hc hM (hy.later (by (exact kpt)) (Nat.le_refl _)) hd hN h1 h2 bq hq0 s hk0).mono ?_); rw [HDB.out, HDE.out, HDR.out]; rintro z w5 ⟨rfl, hb5⟩; (first | (refine Blk.thru (b := wr.heap.size) (arr := #[.int .u8 0, .int .i64 0, .int .i64 0, .bool false, .bool false]) (t := 59) ?_ hb5 ?_; (focus (first | with_reducible assumption | (refine Blk.new' ?_; (focus (simp; done))) | (refine Blk.drew (Blk.new' ?_); (focus (simp; done))) | (refine Blk.alloc (Blk.new' ?_) _; (focus (simp; done))) | (refine Blk.drew (Blk.alloc (Blk.new' ?_) _); (focus (simp; done))) | (refine Blk.alloc (Blk.drew (Blk.new' ?_)) _; (focus (simp; done))) | (refine Blk.alloc ?_ _; with_reducible assumption) | (refine Blk.drew ?_; with_reducible assumption) | (refine Blk.drew (Blk.alloc ?_ _); with_reducible assumption) | fail)); intro tz; have tzc0 := tz.cell 0; have tzf0 := tz.free 0; have tzc1 := tz.cell 1; have tzf1 := tz.free 1; have tzc2 := tz.cell 2; have tzf2 := tz.free 2; have tzc3 := tz.cell 3; have tzf3 := tz.free 3; have tzc4 := tz.cell 4; have tzf4 := tz.free 4; have tzl := tz.lt; simp at tzc0 tzc1 tzc2 tzc3 tzc4) | skip)) | fail)
            all_goals (go_wp2_with fail; go_meet)
            all_goals
              refine ⟨_, rfl, rfl, rfl, ?_, ?_, ?_, ?_, ?_, ?_⟩
              · first | exact Nat.le_refl _ | (simp; done) | exact Kept.size (by assumption) | (refine Kept.size ?_; (exact kpt)) | (simp; omega)
              · (refine Blk.cast (arr := ?_) ?_ ?_; rotate_left 1; (focus (exact blk)); (first | with_reducible rfl | (simp; done) | rfl))
              · (exact blk)
              · (exact blk)
              · (exact blk)
              · (exact kpt)
          case rest =>
            clear r0 r1 r3 hk g0 g1 g2 g3 g4 g5 r0k0 r1k0 r0k1 r1k1 r0k2 r1k2 r0k3 r1k3 r0k4 r1k4 y0 y1 y2 y3 y4 y5
            obtain ⟨nb, rfl, rfl, rfl, hnb, rn, r0, r1, r3, hk⟩ := hcut
            have ne0 : nb ≠ w.heap.size := by omega
            have ne1 : nb ≠ w.heap.size + 1 := by omega
            have ne3 : nb ≠ w.heap.size + 1 + 1 := by omega
            have r0c0 := r0.cell 0
            have r0c1 := r0.cell 1
            have r0c2 := r0.cell 2
            have r0c3 := r0.cell 3
            have r0c4 := r0.cell 4
            have r0f0 := r0.free 0
            have r0f1 := r0.free 1
            have r0f2 := r0.free 2
            have r0f3 := r0.free 3
            have r0f4 := r0.free 4
            have r0l := r0.lt
            simp at r0c0 r0c1 r0c2 r0c3 r0c4
            have r1c0 := r1.cell 0
            have r1c1 := r1.cell 1
            have r1c2 := r1.cell 2
            have r1c3 := r1.cell 3
            have r1c4 := r1.cell 4
            have r1f0 := r1.free 0
            have r1f1 := r1.free 1
            have r1f2 := r1.free 2
            have r1f3 := r1.free 3
            have r1f4 := r1.free 4
            have r1l := r1.lt
            simp at r1c0 r1c1 r1c2 r1c3 r1c4
            have r3c0 := r3.cell 0
            have r3c1 := r3.cell 1
            have r3c2 := r3.cell 2
            have r3c3 := r3.cell 3
            have r3c4 := r3.cell 4
            have r3f0 := r3.free 0
            have r3f1 := r3.free 1
            have r3f2 := r3.free 2
            have r3f3 := r3.free 3
            have r3f4 := r3.free 4
            have r3l := r3.lt
            simp at r3c0 r3c1 r3c2 r3c3 r3c4
            have rnc0 := rn.cell 0
            have rnc1 := rn.cell 1
            have rnc2 := rn.cell 2
            have rnc3 := rn.cell 3
            have rnc4 := rn.cell 4
            have rnf0 := rn.free 0
            have rnf1 := rn.free 1
            have rnf2 := rn.free 2
            have rnf3 := rn.free 3
            have rnf4 := rn.free 4
            have rnl := rn.lt
            simp at rnc0 rnc1 rnc2 rnc3 rnc4
            by_cases he : DE = 0
            · subst he
              have HX2 := Lib.hid (HPL.out.trans (HGO.out HDE.out))
              rw [show doB p bq s = DB from HDB.out] at HX2
              clear HGO HNO HPL
              go_wp2
              go_round
              case rel => exact ⟨k + 1, DB, by omega, by go_num, HSB.out, HX2.out, by (exact blk), by (exact blkc), by (exact blk), by (exact kpt)⟩
              case measure => simp [intOf]; omega
            · have HX2 := Lib.hid (HPL.out.trans (HNO.out (by rw [HDE.out]; exact he)))
              rw [show doRule p bq s = DR from HDR.out, show doE p bq s = DE from HDE.out] at HX2
              have heb : (DE == 0) = false := beq_eq_false_iff_ne.2 he
              have hen : (DE != 0) = true := by simp [he]
              clear HGO HNO HPL
              go_wp2
              obtain rfl : X = ⟨bq, k, DR, DE⟩ := HX2.out
              exact bodyPost_ret (v := .tuple #[.agg #[.int .u8 bq.ship, .int .i64 bq.axis, .int .i64 bq.held, .bool bq.wire, .bool bq.opn], .int .i64 (k : Int), .int .i64 DR, .int .i64 DE]) (by first | (simp [results, Try.results30, go_sem, noBerth, r3c0, r3c1, r3c2, r3c3, r3c4, r3l]; done) | (simp [results, Try.results30, go_sem, noBerth, r3c0, r3c1, r3c2, r3c3, r3c4, r3l]; rfl)) rfl ⟨rfl, by (exact kpt)⟩
        · obtain rfl : ss.length = k := by omega
          obtain rfl : X = ⟨bq, 0, 0, 0⟩ := HPL.out.trans play_end
          have r0c0 := r0.cell 0
          have r0c1 := r0.cell 1
          have r0c2 := r0.cell 2
          have r0c3 := r0.cell 3
          have r0c4 := r0.cell 4
          have r0f0 := r0.free 0
          have r0f1 := r0.free 1
          have r0f2 := r0.free 2
          have r0f3 := r0.free 3
          have r0f4 := r0.free 4
          have r0l := r0.lt
          simp at r0c0 r0c1 r0c2 r0c3 r0c4
          have r1c0 := r1.cell 0
          have r1c1 := r1.cell 1
          have r1c2 := r1.cell 2
          have r1c3 := r1.cell 3
          have r1c4 := r1.cell 4
          have r1f0 := r1.free 0
          have r1f1 := r1.free 1
          have r1f2 := r1.free 2
          have r1f3 := r1.free 3
          have r1f4 := r1.free 4
          have r1l := r1.lt
          simp at r1c0 r1c1 r1c2 r1c3 r1c4
          have r3c0 := r3.cell 0
          have r3c1 := r3.cell 1
          have r3c2 := r3.cell 2
          have r3c3 := r3.cell 3
          have r3c4 := r3.cell 4
          have r3f0 := r3.free 0
          have r3f1 := r3.free 1
          have r3f2 := r3.free 2
          have r3f3 := r3.free 3
          have r3f4 := r3.free 4
          have r3l := r3.lt
          simp at r3c0 r3c1 r3c2 r3c3 r3c4
          go_wp2
          exact bodyPost_ret (v := .tuple #[.agg #[.int .u8 bq.ship, .int .i64 bq.axis, .int .i64 bq.held, .bool bq.wire, .bool bq.opn], .int .i64 0, .int .i64 0, .int .i64 0]) (by first | (simp [results, Try.results30, go_sem, noBerth, r3c0, r3c1, r3c2, r3c3, r3c4, r3l]; done) | (simp [results, Try.results30, go_sem, noBerth, r3c0, r3c1, r3c2, r3c3, r3c4, r3l]; rfl)) rfl ⟨rfl, by (exact kpt)⟩
  · obtain ⟨E, hE⟩ : ∃ E, checkBerth p b = E := ⟨_, rfl⟩
    rw [show playE p b ss = ⟨noBerth, 0, 0, E⟩ by unfold playE; rw [if_neg c1, hE]]
    have HCB := Lib.hid hE
    have hE0 : ¬ E = 0 := by rw [← hE]; exact c1
    have hEb : (E == 0) = false := beq_eq_false_iff_ne.2 hE0
    clear c1 hE
    go_enter Try.func30, Try.ntmps30
    go_wp2_with (go_at_call 28; (with_reducible refine (r_CheckBerth a c e d p _ (hx.later (by (exact kpt)) (Nat.le_refl _)) hc hM (hy.later (by (exact kpt)) (Nat.le_refl _)) hd hN h1 h2 b hs0).mono ?_); rw [HCB.out]; rintro z w1 ⟨rfl, hb1⟩; refine Blk.thru (b := w.heap.size) (arr := ?_) (t := ?_) ?_ hb1 ?_; rotate_left 2; (focus (exact blk)); intro r0; have r0c0 := r0.cell 0; have r0f0 := r0.free 0; have r0c1 := r0.cell 1; have r0f1 := r0.free 1; have r0c2 := r0.cell 2; have r0f2 := r0.free 2; have r0c3 := r0.cell 3; have r0f3 := r0.free 3; have r0c4 := r0.cell 4; have r0f4 := r0.free 4; have r0l := r0.lt; simp at r0c0 r0c1 r0c2 r0c3 r0c4; refine Blk.thru (b := (w.heap.size + 1)) (arr := ?_) (t := ?_) ?_ hb1 ?_; rotate_left 2; (focus (exact blk)); intro r1; have r1c0 := r1.cell 0; have r1f0 := r1.free 0; have r1c1 := r1.cell 1; have r1f1 := r1.free 1; have r1c2 := r1.cell 2; have r1f2 := r1.free 2; have r1c3 := r1.cell 3; have r1f3 := r1.free 3; have r1c4 := r1.cell 4; have r1f4 := r1.free 4; have r1l := r1.lt; simp at r1c0 r1c1 r1c2 r1c3 r1c4; refine Blk.thru (b := (w.heap.size + 1 + 1)) (arr := ?_) (t := ?_) ?_ hb1 ?_; rotate_left 2; (focus (exact blk)); intro r3; have r3c0 := r3.cell 0; have r3f0 := r3.free 0; have r3c1 := r3.cell 1; have r3f1 := r3.free 1; have r3c2 := r3.cell 2; have r3f2 := r3.free 2; have r3c3 := r3.cell 3; have r3f3 := r3.free 3; have r3c4 := r3.cell 4; have r3f4 := r3.free 4; have r3l := r3.lt; simp at r3c0 r3c1 r3c2 r3c3 r3c4)
    exact bodyPost_ret (v := .tuple #[.agg #[.int .u8 noBerth.ship, .int .i64 noBerth.axis, .int .i64 noBerth.held, .bool noBerth.wire, .bool noBerth.opn], .int .i64 0, .int .i64 0, .int .i64 E]) (by first | (simp [results, Try.results30, go_sem, noBerth, r3c0, r3c1, r3c2, r3c3, r3c4, r3l]; done) | (simp [results, Try.results30, go_sem, noBerth, r3c0, r3c1, r3c2, r3c3, r3c4, r3l]; rfl)) rfl ⟨rfl, by (exact kpt)⟩

end Go.Proofs.Ytacbkbilbmkjnaa

/-
  MastPlays: the law, walked.
-/
namespace Go.Proofs.Ytacbkbilbmkjnaa
open Go.RowKit Bal Bal.Trim Bal.Mast
set_option linter.unusedVariables false
set_option linter.unusedSimpArgs false
set_option maxHeartbeats 4000000
set_option maxRecDepth 10000

theorem law_MastPlays (a : Option Addr) (c : Nat) (e : Option Addr) (d : Nat) (p : Port) (w : World) (sa : Option Addr) (sc : Nat) (ss : List Step) (hx : Row Axis.cells 2 w.heap.size w a p.axes) (hc : p.axes.length ≤ c) (hM : c ≤ maxLen) (hy : Row Span.cells 2 w.heap.size w e p.pulls) (hd : p.pulls.length ≤ d) (hN : d ≤ maxLen) (b : Berth) (hs0 : 0 ≤ b.ship) (hss : Row Step.cells 6 w.heap.size w sa ss) (hsl : ss.length ≤ sc) (hsm : sc ≤ maxLen) (hkk : ∀ s ∈ ss, 0 ≤ s.act.kind ∧ s.act.kind ≤ 255) :
    Calls Try.prog 6 #[.agg #[.slice a p.axes.length c, .int .i64 p.people, .int .i64 p.most, .slice e p.pulls.length d, .int .i64 p.cross], .agg #[.int .u8 b.ship, .int .i64 b.axis, .int .i64 b.held, .bool b.wire, .bool b.opn], .slice sa ss.length sc] w fun z w' => z = .returned (.bool true) ∧ Kept w w' := by
  have hsm' := hsm
  unfold maxLen at hsm'
  cases hg : (decide (40 < p.axes.length) || decide (20 < p.pulls.length))
  · have HG := Lib.hid hg
    have hn : p.axes.length ≤ 40 ∧ p.pulls.length ≤ 20 := by simp at hg; omega
    have h1 : p.axes.length ≤ 1000000 := by omega
    have h2 : p.pulls.length ≤ 1000000 := by omega
    by_cases c2 : 220 < ss.length
    · have c3 : (220 : Int) < (ss.length : Int) := by omega
      clear hg
      go_enter Try.func6, Try.ntmps6
      go_wp2_with (go_at_call 17; (with_reducible refine (r_Great a c p.axes p.people p.most e d p.pulls p.cross _ hM hN hc hd).mono ?_); rw [HG.out]; rintro z w1 ⟨rfl, hb1⟩)
      go_ret
      exact ⟨rfl, by (exact kpt)⟩
    have c3 : ¬ (220 : Int) < (ss.length : Int) := by omega
    obtain ⟨X, hX⟩ : ∃ x, playE p b ss = x := ⟨_, rfl⟩
    have HX := Lib.hid hX
    clear hg hX
    go_enter Try.func6, Try.ntmps6
    go_upto_region 4 with (first | (go_at_call 17; (with_reducible refine (r_Great a c p.axes p.people p.most e d p.pulls p.cross _ hM hN hc hd).mono ?_); rw [HG.out]; rintro z w1 ⟨rfl, hb1⟩; refine Blk.thru (b := w.heap.size) (arr := ?_) (t := ?_) ?_ hb1 ?_; rotate_left 2; (focus (exact blk)); intro r0; have r0c0 := r0.cell 0; have r0f0 := r0.free 0; have r0c1 := r0.cell 1; have r0f1 := r0.free 1; have r0c2 := r0.cell 2; have r0f2 := r0.free 2; have r0c3 := r0.cell 3; have r0f3 := r0.free 3; have r0c4 := r0.cell 4; have r0f4 := r0.free 4; have r0l := r0.lt; simp at r0c0 r0c1 r0c2 r0c3 r0c4; refine Blk.thru (b := (w.heap.size + 1)) (arr := ?_) (t := ?_) ?_ hb1 ?_; rotate_left 2; (focus (exact blk)); intro r1; have r1c0 := r1.cell 0; have r1f0 := r1.free 0; have r1c1 := r1.cell 1; have r1f1 := r1.free 1; have r1c2 := r1.cell 2; have r1f2 := r1.free 2; have r1c3 := r1.cell 3; have r1f3 := r1.free 3; have r1c4 := r1.cell 4; have r1f4 := r1.free 4; have r1l := r1.lt; simp at r1c0 r1c1 r1c2 r1c3 r1c4) | (go_at_call 29; (with_reducible refine (f_Play a c e d p _ sa sc ss (hx.later (by (exact kpt)) (Nat.le_refl _)) hc hM (hy.later (by (exact kpt)) (Nat.le_refl _)) hd hN h1 h2 b hs0 (hss.later (by (exact kpt)) (Nat.le_refl _)) hsl hsm hkk).mono ?_); rw [show playE p b ss = X from HX.out]; rintro z w2 ⟨rfl, hb2⟩; refine Blk.thru (b := w.heap.size) (arr := ?_) (t := ?_) ?_ hb2 ?_; rotate_left 2; (focus (exact blk)); intro r0; have r0c0 := r0.cell 0; have r0f0 := r0.free 0; have r0c1 := r0.cell 1; have r0f1 := r0.free 1; have r0c2 := r0.cell 2; have r0f2 := r0.free 2; have r0c3 := r0.cell 3; have r0f3 := r0.free 3; have r0c4 := r0.cell 4; have r0f4 := r0.free 4; have r0l := r0.lt; simp at r0c0 r0c1 r0c2 r0c3 r0c4; refine Blk.thru (b := (w.heap.size + 1)) (arr := ?_) (t := ?_) ?_ hb2 ?_; rotate_left 2; (focus (exact blk)); intro r1; have r1c0 := r1.cell 0; have r1f0 := r1.free 0; have r1c1 := r1.cell 1; have r1f1 := r1.free 1; have r1c2 := r1.cell 2; have r1f2 := r1.free 2; have r1c3 := r1.cell 3; have r1f3 := r1.free 3; have r1c4 := r1.cell 4; have r1f4 := r1.free 4; have r1l := r1.lt; simp at r1c0 r1c1 r1c2 r1c3 r1c4))
    refine at_world (S := fun V => Blk V w.heap.size #[.slice a p.axes.length c, .int .i64 p.people, .int .i64 p.most, .slice e p.pulls.length d, .int .i64 p.cross] 45 ∧ Blk V (w.heap.size + 1) #[.int .u8 b.ship, .int .i64 b.axis, .int .i64 b.held, .bool b.wire, .bool b.opn] 59 ∧ Blk V w2.heap.size #[.int .u8 X.b.ship, .int .i64 X.b.axis, .int .i64 X.b.held, .bool X.b.wire, .bool X.b.opn] 59 ∧ Kept w V) ⟨by (exact blk), by (exact blk), by (exact blkc), by (exact kpt)⟩ ?_
    obtain ⟨n1, hn1⟩ : ∃ n, n = w2.heap.size := ⟨_, rfl⟩
    rw [← hn1]
    clear hn1 r0 r1 r0c0 r0f0 r0c1 r0f1 r0c2 r0f2 r0c3 r0f3 r0c4 r0f4 r1c0 r1f0 r1c1 r1f1 r1c2 r1f2 r1c3 r1f3 r1c4 r1f4 r0l r1l
    rintro W4 ⟨r0, r1, q1, hk⟩
    have r0c0 := r0.cell 0
    have r0c1 := r0.cell 1
    have r0c2 := r0.cell 2
    have r0c3 := r0.cell 3
    have r0c4 := r0.cell 4
    have r0f0 := r0.free 0
    have r0f1 := r0.free 1
    have r0f2 := r0.free 2
    have r0f3 := r0.free 3
    have r0f4 := r0.free 4
    have r0l := r0.lt
    simp at r0c0 r0c1 r0c2 r0c3 r0c4
    have r1c0 := r1.cell 0
    have r1c1 := r1.cell 1
    have r1c2 := r1.cell 2
    have r1c3 := r1.cell 3
    have r1c4 := r1.cell 4
    have r1f0 := r1.free 0
    have r1f1 := r1.free 1
    have r1f2 := r1.free 2
    have r1f3 := r1.free 3
    have r1f4 := r1.free 4
    have r1l := r1.lt
    simp at r1c0 r1c1 r1c2 r1c3 r1c4
    have q1c0 := q1.cell 0
    have q1c1 := q1.cell 1
    have q1c2 := q1.cell 2
    have q1c3 := q1.cell 3
    have q1c4 := q1.cell 4
    have q1f0 := q1.free 0
    have q1f1 := q1.free 1
    have q1f2 := q1.free 2
    have q1f3 := q1.free 3
    have q1f4 := q1.free 4
    have q1l := q1.lt
    simp at q1c0 q1c1 q1c2 q1c3 q1c4
    go_upto_region 5 with (go_at_call 30; (with_reducible refine (r_Play a c e d p _ sa sc ss (hx.later (by (exact kpt)) (Nat.le_refl _)) hc hM (hy.later (by (exact kpt)) (Nat.le_refl _)) hd hN h1 h2 b hs0 (hss.later (by (exact kpt)) (Nat.le_refl _)) hsl hsm hkk).mono ?_); rw [show playE p b ss = X from HX.out]; rintro z w3 ⟨rfl, hb3⟩)
    refine at_world (S := fun V => Blk V n1 #[.int .u8 X.b.ship, .int .i64 X.b.axis, .int .i64 X.b.held, .bool X.b.wire, .bool X.b.opn] 59 ∧ Blk V w3.heap.size #[.int .u8 X.b.ship, .int .i64 X.b.axis, .int .i64 X.b.held, .bool X.b.wire, .bool X.b.opn] 59 ∧ Kept w V) ⟨by (exact blk), by (exact blkc), by (exact kpt)⟩ ?_
    obtain ⟨n2, hn2⟩ : ∃ n, n = w3.heap.size := ⟨_, rfl⟩
    rw [← hn2]
    clear hn2 r0 r1 q1 hk r0c0 r0f0 r0c1 r0f1 r0c2 r0f2 r0c3 r0f3 r0c4 r0f4 r1c0 r1f0 r1c1 r1f1 r1c2 r1f2 r1c3 r1f3 r1c4 r1f4 r0l r1l q1c0 q1f0 q1c1 q1f1 q1c2 q1f2 q1c3 q1f3 q1c4 q1f4 q1l
    rintro W5 ⟨q1, q2, hk⟩
    have q1c0 := q1.cell 0
    have q1c1 := q1.cell 1
    have q1c2 := q1.cell 2
    have q1c3 := q1.cell 3
    have q1c4 := q1.cell 4
    have q1f0 := q1.free 0
    have q1f1 := q1.free 1
    have q1f2 := q1.free 2
    have q1f3 := q1.free 3
    have q1f4 := q1.free 4
    have q1l := q1.lt
    simp at q1c0 q1c1 q1c2 q1c3 q1c4
    have q2c0 := q2.cell 0
    have q2c1 := q2.cell 1
    have q2c2 := q2.cell 2
    have q2c3 := q2.cell 3
    have q2c4 := q2.cell 4
    have q2f0 := q2.free 0
    have q2f1 := q2.free 1
    have q2f2 := q2.free 2
    have q2f3 := q2.free 3
    have q2f4 := q2.free 4
    have q2l := q2.lt
    simp at q2c0 q2c1 q2c2 q2c3 q2c4
    go_wp2
    exact bodyPost_ret (v := .bool true) (by simp [results, Try.results6, go_sem]) rfl ⟨rfl, by (exact kpt)⟩
  · have HG := Lib.hid hg
    go_enter Try.func6, Try.ntmps6
    go_wp2_with (go_at_call 17; (with_reducible refine (r_Great a c p.axes p.people p.most e d p.pulls p.cross _ hM hN hc hd).mono ?_); rw [HG.out]; rintro z w1 ⟨rfl, hb1⟩)
    go_ret
    exact ⟨rfl, by (exact kpt)⟩

end Go.Proofs.Ytacbkbilbmkjnaa

/-
  MastPlays, the statement: for every input the call returns true and leaves the input alone.
-/
namespace Go.Proofs.Ytacbkbilbmkjnaa.mastPlays
open Go.ChangeShapes Go.WideShapes Go.ChangeAt Go.RowKit Bal Bal.Trim Bal.Mast
open Go.ChangeMaps (open_string shut_string)
set_option linter.unusedVariables false

theorem own : ownKnob Try.prog.godebug = none := by kernel_rfl
theorem laidOut : laidOutB Try.prog = true := by kernel_rfl

set_option maxRecDepth 100000 in
theorem lifted (os : Os) (started : os.Started) (H : Type) (enc : TypeId × Value → H) :
    ReturnsInHanded {} Try.checked os 6 .any (Rows.mastPlaysSpec.pre6 enc Try.prog Try.f6 Rows.mastPlaysRow.domain false) (Rows.mastPlaysSpec.post enc Try.prog Try.f6 false true false false) := by
  refine returnsInHanded_of_change (C := Try.checked) own started (by kernel_rfl) Try.func6
    (ChangeSpec.witness6 (enc := enc) (C := Try.checked) false ⟨#[], #[.agg #[.slice none 0 0, .int .i64 0, .int .i64 0, .slice none 0 0, .int .i64 0], .agg #[.int .u8 0, .int .i64 0, .int .i64 0, .bool false, .bool false], .slice none 0 0], []⟩ 8 (by kernel_rfl) (by kernel_rfl) (by kernel_rfl) (by kernel_rfl)) ?_
  intro W base args ds gs before hval0 hW hcnd _
  have hval : ∀ (j : Nat) t v, Try.f6.params[j]? = some t → args[j]? = some v → Value.okWide Try.prog W .any base t v := hval0
  have hW' := hW
  obtain ⟨p, q, hA0, hV, rfl, hfz, hnd⟩ := hW
  have hA : DataW.TrodAll enc Try.prog W 0 (fun _ => true) true Try.f6.params.toList args.toList ds p := hA0
  rw [Try.params6] at hA hval
  obtain ⟨v0, vs0, d0, ds0, p0, q0, hargs, rfl, rfl, h0, r0⟩ := trodAll_cons hA
  obtain ⟨v1, vs1, d1, ds1, p1, q1, rfl, rfl, rfl, h1, r1⟩ := trodAll_cons r0
  obtain ⟨v2, vs2, d2, ds2, p2, q2, rfl, rfl, rfl, h2, r2⟩ := trodAll_cons r1
  obtain ⟨rfl, rfl, rfl⟩ := trodAll_nil r2
  obtain rfl : args = #[v0, v1, v2] := by cases args; simp_all
  obtain ⟨rfl, rfl⟩ := trodVars_none hV
  have k0 := h0
  have lt0 : ∀ x ∈ p0, x.block < W.heap.size := by obtain ⟨m, hm⟩ := k0; exact DataW.trod_lt m _ _ _ hm
  obtain ⟨pa, pc, pxs, ppe, pmo, pb, pd, pys, pcr, rfl, px1, px2, px3, px4, py1, py2, py3, py4⟩ := open_port (hval 0 45 v0 rfl rfl) h0
  have k1 := h1
  have lt1 : ∀ x ∈ p1, x.block < W.heap.size := by obtain ⟨m, hm⟩ := k1; exact DataW.trod_lt m _ _ _ hm
  obtain ⟨a1, rfl, wf1⟩ := open_agg (n := 5) (fun _ h => Berth.of_leaves h) Try.underlying59 (by kernel_rfl) (hval 1 59 v1 rfl rfl) h1
  have k2 := h2
  have lt2 : ∀ x ∈ p2, x.block < W.heap.size := by obtain ⟨m, hm⟩ := k2; exact DataW.trod_lt m _ _ _ hm
  obtain ⟨a2, len2, cap2, rfl⟩ := okWide_slice Try.underlying73 (hval 2 73 v2 rfl rfl)
  obtain ⟨fuel2, hf2⟩ := h2
  obtain ⟨b2, c2, xs2, e2, hl2, hm2, row2, wf2, z2⟩ := open_typed (n := 4) (fun _ h => Step.of_leaves h) Try.underlying73 (by kernel_rfl) (by kernel_rfl) (by decide) hf2
  simp [Value.cells] at e2
  obtain ⟨rfl, rfl, rfl⟩ := e2
  clear hA0 hval0
  refine (law_MastPlays pa pc pb pd ⟨pxs, ppe, pmo, pys, pcr⟩ W _ _ xs2 px1 px2 px3 py1 py2 py3 a1 wf1.1 row2 hl2 hm2 (fun s hs => wf2 s hs)).mono fun e W' ⟨he, bel⟩ => ?_
  subst he
  exact ⟨_, rfl, _, _, _, [], _, [], hW', trodAll_mk1 (shut_bool Try.underlying4 _), (trodAll_cons_mk (Below.trod laidOut (by kernel_rfl) (of_decide_eq_true (by kernel_rfl)) k0 bel lt0) (trodAll_cons_mk (Below.trod laidOut (by kernel_rfl) (of_decide_eq_true (by kernel_rfl)) k1 bel lt1) (trodAll_cons_mk (Below.trod laidOut (by kernel_rfl) (of_decide_eq_true (by kernel_rfl)) k2 bel lt2) trodAll_mk0))), rfl, bel.frame _, fun h => by cases h⟩

theorem joined : joinedFacts Try.prog 6 Try.f6 Rows.mastPlaysSpec Rows.mastPlaysRow = true := by
  unfold joinedFacts
  rw [mayEnter_is, liftsFinal_is, make_is]
  kernel_rfl
theorem over : Rows.mastPlaysRow.holds Try.pinned (OpenSpec.ofChange Rows.mastPlaysSpec) :=
  OpenClaim.holds_of_wide 6 Try.f6 rfl rfl rfl rfl rfl rfl rfl ⟨rfl, rfl, rfl, rfl, rfl⟩ rfl rfl rfl rfl rfl (by kernel_rfl) Try.func6 joined
    (of_decide_eq_true (by kernel_rfl)) (by unfold Func.isWrapper; first | (rw [if_pos (by decide +kernel)]; kernel_rfl) | (rw [if_neg (by decide +kernel)]; exact ⟨rfl, rfl⟩))
    (fun os started H enc _ => lifted os started H enc)
end Go.Proofs.Ytacbkbilbmkjnaa.mastPlays

namespace Go.Proofs.Ytacbkbilbmkjnaa
theorem mastPlays_holds : Rows.MastPlaysSaid := mastPlays.over
#print axioms mastPlays_holds
end Go.Proofs.Ytacbkbilbmkjnaa
