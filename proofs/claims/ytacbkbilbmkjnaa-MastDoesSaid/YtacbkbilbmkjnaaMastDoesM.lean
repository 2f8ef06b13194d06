/-
  MastDoes, the statement: for every input the call returns true and leaves the input alone.
-/
import Derived.Test.YtacbkbilbmkjnaaMastBaseM
import Derived.Test.YtacbkbilbmkjnaaRows
set_option linter.unusedVariables false
set_option linter.unusedSimpArgs false
/-
  MastDoes: the law, walked.
-/
namespace Go.Proofs.Ytacbkbilbmkjnaa
open Go.RowKit Bal Bal.Trim Bal.Mast
set_option linter.unusedVariables false
set_option linter.unusedSimpArgs false
set_option maxHeartbeats 4000000
set_option maxRecDepth 10000

theorem law_MastDoes (a : Option Addr) (c : Nat) (e : Option Addr) (d : Nat) (p : Port) (w : World) (hx : Row Axis.cells 2 w.heap.size w a p.axes) (hc : p.axes.length ≤ c) (hM : c ≤ maxLen) (hy : Row Span.cells 2 w.heap.size w e p.pulls) (hd : p.pulls.length ≤ d) (hN : d ≤ maxLen) (b : Berth) (hs0 : 0 ≤ b.ship) (s : Step) (hk0 : 0 ≤ s.act.kind ∧ s.act.kind ≤ 255) :
    Calls Try.prog 5 #[.agg #[.slice a p.axes.length c, .int .i64 p.people, .int .i64 p.most, .slice e p.pulls.length d, .int .i64 p.cross], .agg #[.int .u8 b.ship, .int .i64 b.axis, .int .i64 b.held, .bool b.wire, .bool b.opn], .agg #[.int .u8 s.act.kind, .int .i64 s.act.n, .int .i64 s.wind.xlo, .int .i64 s.wind.xhi, .int .i64 s.wind.ylo, .int .i64 s.wind.yhi]] w fun z w' => z = .returned (.bool true) ∧ Kept w w' := by
  cases hg : (decide (40 < p.axes.length) || decide (20 < p.pulls.length))
  · have HG := Lib.hid hg
    have hn : p.axes.length ≤ 40 ∧ p.pulls.length ≤ 20 := by simp at hg; omega
    have h1 : p.axes.length ≤ 1000000 := by omega
    have h2 : p.pulls.length ≤ 1000000 := by omega
    obtain ⟨DB, hDB⟩ : ∃ x, doB p b s = x := ⟨_, rfl⟩
    obtain ⟨DE, hDE⟩ : ∃ x, doE p b s = x := ⟨_, rfl⟩
    obtain ⟨DR, hDR⟩ : ∃ x, doRule p b s = x := ⟨_, rfl⟩
    have HDB := Lib.hid hDB
    have HDE := Lib.hid hDE
    have HDR := Lib.hid hDR
    clear hg hDB hDE hDR
    go_enter Try.func5, Try.ntmps5
    go_upto_region 4 with (first | (go_at_call 17; (with_reducible refine (r_Great a c p.axes p.people p.most e d p.pulls p.cross _ hM hN hc hd).mono ?_); rw [HG.out]; rintro z w1 ⟨rfl, hb1⟩; refine Blk.thru (b := w.heap.size) (arr := ?_) (t := ?_) ?_ hb1 ?_; rotate_left 2; (focus (exact blk)); intro r0; have r0c0 := r0.cell 0; have r0f0 := r0.free 0; have r0c1 := r0.cell 1; have r0f1 := r0.free 1; have r0c2 := r0.cell 2; have r0f2 := r0.free 2; have r0c3 := r0.cell 3; have r0f3 := r0.free 3; have r0c4 := r0.cell 4; have r0f4 := r0.free 4; have r0l := r0.lt; simp at r0c0 r0c1 r0c2 r0c3 r0c4; refine Blk.thru (b := (w.heap.size + 1)) (arr := ?_) (t := ?_) ?_ hb1 ?_; rotate_left 2; (focus (exact blk)); intro r1; have r1c0 := r1.cell 0; have r1f0 := r1.free 0; have r1c1 := r1.cell 1; have r1f1 := r1.free 1; have r1c2 := r1.cell 2; have r1f2 := r1.free 2; have r1c3 := r1.cell 3; have r1f3 := r1.free 3; have r1c4 := r1.cell 4; have r1f4 := r1.free 4; have r1l := r1.lt; simp at r1c0 r1c1 r1c2 r1c3 r1c4; refine Blk.thru (b := (w.heap.size + 1 + 1)) (arr := ?_) (t := ?_) ?_ hb1 ?_; rotate_left 2; (focus (exact blk)); intro r2; have r2c0 := r2.cell 0; have r2f0 := r2.free 0; have r2c1 := r2.cell 1; have r2f1 := r2.free 1; have r2c2 := r2.cell 2; have r2f2 := r2.free 2; have r2c3 := r2.cell 3; have r2f3 := r2.free 3; have r2c4 := r2.cell 4; have r2f4 := r2.free 4; have r2c5 := r2.cell 5; have r2f5 := r2.free 5; have r2l := r2.lt; simp at r2c0 r2c1 r2c2 r2c3 r2c4 r2c5) | (go_at_call 23; (with_reducible refine (f_Do a c e d p _ (hx.later (by (exact kpt)) (Nat.le_refl _)) hc hM (hy.later (by (exact kpt)) (Nat.le_refl _)) hd hN h1 h2 b hs0 s hk0).mono ?_); rw [show doB p b s = DB from HDB.out, show doE p b s = DE from HDE.out, show doRule p b s = DR from HDR.out]; rintro z w2 ⟨rfl, hb2⟩; refine Blk.thru (b := w.heap.size) (arr := ?_) (t := ?_) ?_ hb2 ?_; rotate_left 2; (focus (exact blk)); intro r0; have r0c0 := r0.cell 0; have r0f0 := r0.free 0; have r0c1 := r0.cell 1; have r0f1 := r0.free 1; have r0c2 := r0.cell 2; have r0f2 := r0.free 2; have r0c3 := r0.cell 3; have r0f3 := r0.free 3; have r0c4 := r0.cell 4; have r0f4 := r0.free 4; have r0l := r0.lt; simp at r0c0 r0c1 r0c2 r0c3 r0c4; refine Blk.thru (b := (w.heap.size + 1)) (arr := ?_) (t := ?_) ?_ hb2 ?_; rotate_left 2; (focus (exact blk)); intro r1; have r1c0 := r1.cell 0; have r1f0 := r1.free 0; have r1c1 := r1.cell 1; have r1f1 := r1.free 1; have r1c2 := r1.cell 2; have r1f2 := r1.free 2; have r1c3 := r1.cell 3; have r1f3 := r1.free 3; have r1c4 := r1.cell 4; have r1f4 := r1.free 4; have r1l := r1.lt; simp at r1c0 r1c1 r1c2 r1c3 r1c4; refine Blk.thru (b := (w.heap.size + 1 + 1)) (arr := ?_) (t := ?_) ?_ hb2 ?_; rotate_left 2; (focus (exact blk)); intro r2; have r2c0 := r2.cell 0; have r2f0 := r2.free 0; have r2c1 := r2.cell 1; have r2f1 := r2.free 1; have r2c2 := r2.cell 2; have r2f2 := r2.free 2; have r2c3 := r2.cell 3; have r2f3 := r2.free 3; have r2c4 := r2.cell 4; have r2f4 := r2.free 4; have r2c5 := r2.cell 5; have r2f5 := r2.free 5; have r2l := r2.lt; simp at r2c0 r2c1 r2c2 r2c3 r2c4 r2c5))
    refine at_world (S := fun V => Blk V w.heap.size #[.slice a p.axes.length c, .int .i64 p.people, .int .i64 p.most, .slice e p.pulls.length d, .int .i64 p.cross] 45 ∧ Blk V (w.heap.size + 1) #[.int .u8 b.ship, .int .i64 b.axis, .int .i64 b.held, .bool b.wire, .bool b.opn] 59 ∧ Blk V (w.heap.size + 1 + 1) #[.int .u8 s.act.kind, .int .i64 s.act.n, .int .i64 s.wind.xlo, .int .i64 s.wind.xhi, .int .i64 s.wind.ylo, .int .i64 s.wind.yhi] 63 ∧ Blk V w2.heap.size #[.int .u8 DB.ship, .int .i64 DB.axis, .int .i64 DB.held, .bool DB.wire, .bool DB.opn] 59 ∧ Kept w V) ⟨by (exact blk), by (exact blk), by (exact blk), by (exact blkc), by (exact kpt)⟩ ?_
    obtain ⟨n1, hn1⟩ : ∃ n, n = w2.heap.size := ⟨_, rfl⟩
    rw [← hn1]
    clear hn1 r0 r1 r2 r0c0 r0f0 r0c1 r0f1 r0c2 r0f2 r0c3 r0f3 r0c4 r0f4 r1c0 r1f0 r1c1 r1f1 r1c2 r1f2 r1c3 r1f3 r1c4 r1f4 r2c0 r2f0 r2c1 r2f1 r2c2 r2f2 r2c3 r2f3 r2c4 r2f4 r2c5 r2f5 r0l r1l r2l
    rintro W4 ⟨r0, r1, r2, q1, hk⟩
    have r0c0 := r0.cell 0
    have r0c1 := r0.cell 1
    have r0c2 := r0.cell 2
    have r0c3 := r0.cell 3
    have r0c4 := r0.cell 4
    have r0f0 := r0.free 0
    have r0f1 := r0.free 1
    have r0f2 := r0.free 2
    have r0f3 := r0.free 3
    have r0f4 := r0.free 4
    have r0l := r0.lt
    simp at r0c0 r0c1 r0c2 r0c3 r0c4
    have r1c0 := r1.cell 0
    have r1c1 := r1.cell 1
    have r1c2 := r1.cell 2
    have r1c3 := r1.cell 3
    have r1c4 := r1.cell 4
    have r1f0 := r1.free 0
    have r1f1 := r1.free 1
    have r1f2 := r1.free 2
    have r1f3 := r1.free 3
    have r1f4 := r1.free 4
    have r1l := r1.lt
    simp at r1c0 r1c1 r1c2 r1c3 r1c4
    have r2c0 := r2.cell 0
    have r2c1 := r2.cell 1
    have r2c2 := r2.cell 2
    have r2c3 := r2.cell 3
    have r2c4 := r2.cell 4
    have r2c5 := r2.cell 5
    have r2f0 := r2.free 0
    have r2f1 := r2.free 1
    have r2f2 := r2.free 2
    have r2f3 := r2.free 3
    have r2f4 := r2.free 4
    have r2f5 := r2.free 5
    have r2l := r2.lt
    simp at r2c0 r2c1 r2c2 r2c3 r2c4 r2c5
    have q1c0 := q1.cell 0
    have q1c1 := q1.cell 1
    have q1c2 := q1.cell 2
    have q1c3 := q1.cell 3
    have q1c4 := q1.cell 4
    have q1f0 := q1.free 0
    have q1f1 := q1.free 1
    have q1f2 := q1.free 2
    have q1f3 := q1.free 3
    have q1f4 := q1.free 4
    have q1l := q1.lt
    simp at q1c0 q1c1 q1c2 q1c3 q1c4
    go_upto_region 5 with (go_at_call 24; (with_reducible refine (r_Do a c e d p _ (hx.later (by (exact kpt)) (Nat.le_refl _)) hc hM (hy.later (by (exact kpt)) (Nat.le_refl _)) hd hN h1 h2 b hs0 s hk0).mono ?_); rw [show doB p b s = DB from HDB.out, show doE p b s = DE from HDE.out, show doRule p b s = DR from HDR.out]; rintro z w3 ⟨rfl, hb3⟩)
    refine at_world (S := fun V => Blk V w.heap.size #[.slice a p.axes.length c, .int .i64 p.people, .int .i64 p.most, .slice e p.pulls.length d, .int .i64 p.cross] 45 ∧ Blk V (w.heap.size + 1) #[.int .u8 b.ship, .int .i64 b.axis, .int .i64 b.held, .bool b.wire, .bool b.opn] 59 ∧ Blk V (w.heap.size + 1 + 1) #[.int .u8 s.act.kind, .int .i64 s.act.n, .int .i64 s.wind.xlo, .int .i64 s.wind.xhi, .int .i64 s.wind.ylo, .int .i64 s.wind.yhi] 63 ∧ Blk V n1 #[.int .u8 DB.ship, .int .i64 DB.axis, .int .i64 DB.held, .bool DB.wire, .bool DB.opn] 59 ∧ Blk V w3.heap.size #[.int .u8 DB.ship, .int .i64 DB.axis, .int .i64 DB.held, .bool DB.wire, .bool DB.opn] 59 ∧ Kept w V) ⟨by (exact blk), by (exact blk), by (exact blk), by (exact blk), by (exact blkc), by (exact kpt)⟩ ?_
    obtain ⟨n2, hn2⟩ : ∃ n, n = w3.heap.size := ⟨_, rfl⟩
    rw [← hn2]
    clear hn2 r0 r1 r2 q1 hk r0c0 r0f0 r0c1 r0f1 r0c2 r0f2 r0c3 r0f3 r0c4 r0f4 r1c0 r1f0 r1c1 r1f1 r1c2 r1f2 r1c3 r1f3 r1c4 r1f4 r2c0 r2f0 r2c1 r2f1 r2c2 r2f2 r2c3 r2f3 r2c4 r2f4 r2c5 r2f5 r0l r1l r2l q1c0 q1f0 q1c1 q1f1 q1c2 q1f2 q1c3 q1f3 q1c4 q1f4 q1l
    rintro W5 ⟨r0, r1, r2, q1, q2, hk⟩
    have r0c0 := fun g : Later W5 => (r0.later g).cell 0
    have r0c1 := fun g : Later W5 => (r0.later g).cell 1
    have r0c2 := fun g : Later W5 => (r0.later g).cell 2
    have r0c3 := fun g : Later W5 => (r0.later g).cell 3
    have r0c4 := fun g : Later W5 => (r0.later g).cell 4
    have r0f0 := fun g : Later W5 => (r0.later g).free 0
    have r0f1 := fun g : Later W5 => (r0.later g).free 1
    have r0f2 := fun g : Later W5 => (r0.later g).free 2
    have r0f3 := fun g : Later W5 => (r0.later g).free 3
    have r0f4 := fun g : Later W5 => (r0.later g).free 4
    have r0l := fun g : Later W5 => (r0.later g).lt
    simp at r0c0 r0c1 r0c2 r0c3 r0c4
    have r1c0 := fun g : Later W5 => (r1.later g).cell 0
    have r1c1 := fun g : Later W5 => (r1.later g).cell 1
    have r1c2 := fun g : Later W5 => (r1.later g).cell 2
    have r1c3 := fun g : Later W5 => (r1.later g).cell 3
    have r1c4 := fun g : Later W5 => (r1.later g).cell 4
    have r1f0 := fun g : Later W5 => (r1.later g).free 0
    have r1f1 := fun g : Later W5 => (r1.later g).free 1
    have r1f2 := fun g : Later W5 => (r1.later g).free 2
    have r1f3 := fun g : Later W5 => (r1.later g).free 3
    have r1f4 := fun g : Later W5 => (r1.later g).free 4
    have r1l := fun g : Later W5 => (r1.later g).lt
    simp at r1c0 r1c1 r1c2 r1c3 r1c4
    have r2c0 := fun g : Later W5 => (r2.later g).cell 0
    have r2c1 := fun g : Later W5 => (r2.later g).cell 1
    have r2c2 := fun g : Later W5 => (r2.later g).cell 2
    have r2c3 := fun g : Later W5 => (r2.later g).cell 3
    have r2c4 := fun g : Later W5 => (r2.later g).cell 4
    have r2c5 := fun g : Later W5 => (r2.later g).cell 5
    have r2f0 := fun g : Later W5 => (r2.later g).free 0
    have r2f1 := fun g : Later W5 => (r2.later g).free 1
    have r2f2 := fun g : Later W5 => (r2.later g).free 2
    have r2f3 := fun g : Later W5 => (r2.later g).free 3
    have r2f4 := fun g : Later W5 => (r2.later g).free 4
    have r2f5 := fun g : Later W5 => (r2.later g).free 5
    have r2l := fun g : Later W5 => (r2.later g).lt
    simp at r2c0 r2c1 r2c2 r2c3 r2c4 r2c5
    have q1c0 := fun g : Later W5 => (q1.later g).cell 0
    have q1c1 := fun g : Later W5 => (q1.later g).cell 1
    have q1c2 := fun g : Later W5 => (q1.later g).cell 2
    have q1c3 := fun g : Later W5 => (q1.later g).cell 3
    have q1c4 := fun g : Later W5 => (q1.later g).cell 4
    have q1f0 := fun g : Later W5 => (q1.later g).free 0
    have q1f1 := fun g : Later W5 => (q1.later g).free 1
    have q1f2 := fun g : Later W5 => (q1.later g).free 2
    have q1f3 := fun g : Later W5 => (q1.later g).free 3
    have q1f4 := fun g : Later W5 => (q1.later g).free 4
    have q1l := fun g : Later W5 => (q1.later g).lt
    simp at q1c0 q1c1 q1c2 q1c3 q1c4
    have q2c0 := fun g : Later W5 => (q2.later g).cell 0
    have q2c1 := fun g : Later W5 => (q2.later g).cell 1
    have q2c2 := fun g : Later W5 => (q2.later g).cell 2
    have q2c3 := fun g : Later W5 => (q2.later g).cell 3
    have q2c4 := fun g : Later W5 => (q2.later g).cell 4
    have q2f0 := fun g : Later W5 => (q2.later g).free 0
    have q2f1 := fun g : Later W5 => (q2.later g).free 1
    have q2f2 := fun g : Later W5 => (q2.later g).free 2
    have q2f3 := fun g : Later W5 => (q2.later g).free 3
    have q2f4 := fun g : Later W5 => (q2.later g).free 4
    have q2l := fun g : Later W5 => (q2.later g).lt
    simp at q2c0 q2c1 q2c2 q2c3 q2c4
    refine Later.region (by kernel_rfl) (by kernel_rfl) ?_
    repeat (first | go_big_quiet_skip | (go_big_quiet_want; go_big_quiet_op; first | go_big_quiet_on | (apply Exists.intro; refine ⟨fun g => ?_, ?_⟩; (focus (first | (go_at_call 25; with_reducible exact Later.call (f_CheckPort a c e d p _ (hx.later (Kept.drop hk g.ok) (Nat.le_refl _)) hc hM (hy.later (Kept.drop hk g.ok) (Nat.le_refl _)) hd hN h1 h2)) | (go_at_call 26; with_reducible exact Later.call (r_CheckPort a c e d p _ (hx.later (Kept.drop hk g.ok) (Nat.le_refl _)) hc hM (hy.later (Kept.drop hk g.ok) (Nat.le_refl _)) hd hN h1 h2)) | (go_at_call 27; with_reducible exact Later.call (f_CheckBerth a c e d p _ (hx.later (Kept.drop hk g.ok) (Nat.le_refl _)) hc hM (hy.later (Kept.drop hk g.ok) (Nat.le_refl _)) hd hN h1 h2 b hs0)) | (go_at_call 28; with_reducible exact Later.call (r_CheckBerth a c e d p _ (hx.later (Kept.drop hk g.ok) (Nat.le_refl _)) hc hM (hy.later (Kept.drop hk g.ok) (Nat.le_refl _)) hd hN h1 h2 b hs0)))); go_big_quiet_on)))
    refine wpQuiet_nil ?_
    intro gg
    have hkg := Kept.drop hk gg.ok
    go_wp2
    exact bodyPost_ret (v := .bool true) (by simp [results, Try.results5, go_sem]) rfl ⟨rfl, by (exact kpt)⟩
  · have HG := Lib.hid hg
    go_enter Try.func5, Try.ntmps5
    go_wp2_with (go_at_call 17; (with_reducible refine (r_Great a c p.axes p.people p.most e d p.pulls p.cross _ hM hN hc hd).mono ?_); rw [HG.out]; rintro z w1 ⟨rfl, hb1⟩)
    go_ret
    exact ⟨rfl, by (exact kpt)⟩

end Go.Proofs.Ytacbkbilbmkjnaa

/-
  MastDoes, the statement: for every input the call returns true and leaves the input alone.
-/
namespace Go.Proofs.Ytacbkbilbmkjnaa.mastDoes
open Go.ChangeShapes Go.WideShapes Go.ChangeAt Go.RowKit Bal Bal.Trim Bal.Mast
open Go.ChangeMaps (open_string shut_string)
set_option linter.unusedVariables false

theorem own : ownKnob Try.prog.godebug = none := by kernel_rfl
theorem laidOut : laidOutB Try.prog = true := by kernel_rfl

set_option maxRecDepth 100000 in
theorem lifted (os : Os) (started : os.Started) (H : Type) (enc : TypeId × Value → H) :
    ReturnsInHanded {} Try.checked os 5 .any (Rows.mastDoesSpec.pre6 enc Try.prog Try.f5 Rows.mastDoesRow.domain false) (Rows.mastDoesSpec.post enc Try.prog Try.f5 false true false false) := by
  refine returnsInHanded_of_change (C := Try.checked) own started (by kernel_rfl) Try.func5
    (ChangeSpec.witness6 (enc := enc) (C := Try.checked) false ⟨#[], #[.agg #[.slice none 0 0, .int .i64 0, .int .i64 0, .slice none 0 0, .int .i64 0], .agg #[.int .u8 0, .int .i64 0, .int .i64 0, .bool false, .bool false], .agg #[.int .u8 0, .int .i64 0, .int .i64 0, .int .i64 0, .int .i64 0, .int .i64 0]], []⟩ 8 (by kernel_rfl) (by kernel_rfl) (by kernel_rfl) (by kernel_rfl)) ?_
  intro W base args ds gs before hval0 hW hcnd _
  have hval : ∀ (j : Nat) t v, Try.f5.params[j]? = some t → args[j]? = some v → Value.okWide Try.prog W .any base t v := hval0
  have hW' := hW
  obtain ⟨p, q, hA0, hV, rfl, hfz, hnd⟩ := hW
  have hA : DataW.TrodAll enc Try.prog W 0 (fun _ => true) true Try.f5.params.toList args.toList ds p := hA0
  rw [Try.params5] at hA hval
  obtain ⟨v0, vs0, d0, ds0, p0, q0, hargs, rfl, rfl, h0, r0⟩ := trodAll_cons hA
  obtain ⟨v1, vs1, d1, ds1, p1, q1, rfl, rfl, rfl, h1, r1⟩ := trodAll_cons r0
  obtain ⟨v2, vs2, d2, ds2, p2, q2, rfl, rfl, rfl, h2, r2⟩ := trodAll_cons r1
  obtain ⟨rfl, rfl, rfl⟩ := trodAll_nil r2
  obtain rfl : args = #[v0, v1, v2] := by cases args; simp_all
  obtain ⟨rfl, rfl⟩ := trodVars_none hV
  have k0 := h0
  have lt0 : ∀ x ∈ p0, x.block < W.heap.size := by obtain ⟨m, hm⟩ := k0; exact DataW.trod_lt m _ _ _ hm
  obtain ⟨pa, pc, pxs, ppe, pmo, pb, pd, pys, pcr, rfl, px1, px2, px3, px4, py1, py2, py3, py4⟩ := open_port (hval 0 45 v0 rfl rfl) h0
  have k1 := h1
  have lt1 : ∀ x ∈ p1, x.block < W.heap.size := by obtain ⟨m, hm⟩ := k1; exact DataW.trod_lt m _ _ _ hm
  obtain ⟨a1, rfl, wf1⟩ := open_agg (n := 5) (fun _ h => Berth.of_leaves h) Try.underlying59 (by kernel_rfl) (hval 1 59 v1 rfl rfl) h1
  have k2 := h2
  have lt2 : ∀ x ∈ p2, x.block < W.heap.size := by obtain ⟨m, hm⟩ := k2; exact DataW.trod_lt m _ _ _ hm
  obtain ⟨a2, rfl, wf2⟩ := open_agg (n := 5) (fun _ h => Step.of_leaves h) Try.underlying63 (by kernel_rfl) (hval 2 63 v2 rfl rfl) h2
  clear hA0 hval0
  refine (law_MastDoes pa pc pb pd ⟨pxs, ppe, pmo, pys, pcr⟩ W px1 px2 px3 py1 py2 py3 a1 wf1.1 a2 wf2).mono fun e W' ⟨he, bel⟩ => ?_
  subst he
  exact ⟨_, rfl, _, _, _, [], _, [], hW', trodAll_mk1 (shut_bool Try.underlying4 _), (trodAll_cons_mk (Below.trod laidOut (by kernel_rfl) (of_decide_eq_true (by kernel_rfl)) k0 bel lt0) (trodAll_cons_mk (Below.trod laidOut (by kernel_rfl) (of_decide_eq_true (by kernel_rfl)) k1 bel lt1) (trodAll_cons_mk (Below.trod laidOut (by kernel_rfl) (of_decide_eq_true (by kernel_rfl)) k2 bel lt2) trodAll_mk0))), rfl, bel.frame _, fun h => by cases h⟩

theorem joined : joinedFacts Try.prog 5 Try.f5 Rows.mastDoesSpec Rows.mastDoesRow = true := by
  unfold joinedFacts
  rw [mayEnter_is, liftsFinal_is, make_is]
  kernel_rfl
theorem over : Rows.mastDoesRow.holds Try.pinned (OpenSpec.ofChange Rows.mastDoesSpec) :=
  OpenClaim.holds_of_wide 5 Try.f5 rfl rfl rfl rfl rfl rfl rfl ⟨rfl, rfl, rfl, rfl, rfl⟩ rfl rfl rfl rfl rfl (by kernel_rfl) Try.func5 joined
    (of_decide_eq_true (by kernel_rfl)) (by unfold Func.isWrapper; first | (rw [if_pos (by decide +kernel)]; kernel_rfl) | (rw [if_neg (by decide +kernel)]; exact ⟨rfl, rfl⟩))
    (fun os started H enc _ => lifted os started H enc)
end Go.Proofs.Ytacbkbilbmkjnaa.mastDoes

namespace Go.Proofs.Ytacbkbilbmkjnaa
theorem mastDoes_holds : Rows.MastDoesSaid := mastDoes.over
#print axioms mastDoes_holds
end Go.Proofs.Ytacbkbilbmkjnaa
