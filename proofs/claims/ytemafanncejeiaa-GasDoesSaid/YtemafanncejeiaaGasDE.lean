/-
  Plants: the cell of an act.
-/
import Derived.Test.YtemafanncejeiaaGasDD
import Derived.Test.YtemafanncejeiaaGasDC
import Derived.Deep.RegionWith
import Derived.Deep.DrawnRows
import Derived.Test.YtemafanncejeiaaDies
namespace Go.Proofs.Ytemafanncejeiaa
open Go.RowKit Bal Bal.Trim Bal.Gas
set_option linter.unusedVariables false
set_option linter.unusedSimpArgs false
set_option maxHeartbeats 4000000
set_option maxRecDepth 10000

theorem f_ranged1B (lo hi x : Int) (m : Nat) (W : World) (h : Blk W m #[.int .i64 x] 3) :
    Calls Try.prog 91 #[.int .i64 lo, .int .i64 hi, .slice (some ⟨m, 0, none⟩) 1 1] W fun e w' => e = .returned (.bool (rng [x] lo hi)) ∧ W = w' :=
  f_ranged lo hi _ 1 1 [x] W rfl (Row.one (enc := icell) h rfl) (by decide)

attribute [local go_sem ↓] Go.wp_at_zero Go.wp_at_succ
theorem f_cell_no1 (s : Nat) (ad : Option Addr) (cp : Nat) (p : Plant) (d : Deed) (w : World) (hs : Blk w s #[.slice ad p.cells.length cp, .int .i64 p.bottles, .int .i64 p.inH, .int .i64 p.inA, .int .i64 p.vH, .int .i64 p.vA, .int .i64 p.lH, .int .i64 p.lA, .int .i64 p.pH, .int .i64 p.pA] 174) (hn : p.cells.length ≤ 12) (h : rng [d.cell] 0 (p.cells.length - 1) = false) :
    Calls Try.prog 135 #[.pointer (some ⟨s, 0, none⟩), .agg #[.int .u8 d.kind, .int .i64 d.cell, .int .i64 d.to, .int .i64 d.n]] w fun e w' => e = .panicked [{ v := refusal 2, recovered := false }] ∧ Kept w w' := by
  have H1 := Lib.hid h
  clear h
  have hwl := i64_inx (n := (p.cells.length : Int) - 1) (by omega)
  go_enter Try.func135, Try.ntmps135
  go_upto_region 1 with fail
  refine at_world (S := fun W => Blk W w.heap.size #[.int .u8 d.kind, .int .i64 d.cell, .int .i64 d.to, .int .i64 d.n] 65 ∧ Kept w W) ⟨by (exact blkc), by (exact kpt)⟩ ?_
  rintro W ⟨r0, hk⟩
  have hsW := hs.keep hk
  have r0c0 := r0.cell 0
  have r0f0 := r0.free 0
  have r0c1 := r0.cell 1
  have r0f1 := r0.free 1
  have r0c2 := r0.cell 2
  have r0f2 := r0.free 2
  have r0c3 := r0.cell 3
  have r0f3 := r0.free 3
  have r0l := r0.lt
  simp at r0c0 r0c1 r0c2 r0c3
  have hsWc0 := hsW.cell 0
  have hsWf0 := hsW.free 0
  have hsWc1 := hsW.cell 1
  have hsWf1 := hsW.free 1
  have hsWc2 := hsW.cell 2
  have hsWf2 := hsW.free 2
  have hsWc3 := hsW.cell 3
  have hsWf3 := hsW.free 3
  have hsWc4 := hsW.cell 4
  have hsWf4 := hsW.free 4
  have hsWc5 := hsW.cell 5
  have hsWf5 := hsW.free 5
  have hsWc6 := hsW.cell 6
  have hsWf6 := hsW.free 6
  have hsWc7 := hsW.cell 7
  have hsWf7 := hsW.free 7
  have hsWc8 := hsW.cell 8
  have hsWf8 := hsW.free 8
  have hsWc9 := hsW.cell 9
  have hsWf9 := hsW.free 9
  have hsWl := hsW.lt
  simp at hsWc0 hsWc1 hsWc2 hsWc3 hsWc4 hsWc5 hsWc6 hsWc7 hsWc8 hsWc9

  first | go_region_with (first | (go_at_call 91; (with_reducible refine (f_ranged1B _ _ d.cell _ _ ?_).mono ?_); (focus ((repeat with_reducible refine Blk.drew ?_); exact Blk.new' (by first | rfl | (simp; done)))); rw [H1.out]; rintro e w1 ⟨rfl, rfl⟩) | (go_at_call 113; (with_reducible refine (f_need_no _ _).mono ?_); rintro e w1 ⟨rfl, rfl⟩; refine done_any (P := Try.prog) (a := ⟨#[], []⟩) (w := w) ⟨rfl, rfl, by (exact kpt)⟩ ?_)) | fail
  all_goals trivial
theorem f_cell_no2 (s : Nat) (ad : Option Addr) (cp : Nat) (p : Plant) (d : Deed) (w : World) (hs : Blk w s #[.slice ad p.cells.length cp, .int .i64 p.bottles, .int .i64 p.inH, .int .i64 p.inA, .int .i64 p.vH, .int .i64 p.vA, .int .i64 p.lH, .int .i64 p.lA, .int .i64 p.pH, .int .i64 p.pA] 174) (hn : p.cells.length ≤ 12) (h : rng [d.cell] 0 (p.cells.length - 1) = true) (h' : rng [d.n] 1 10000000 = false) :
    Calls Try.prog 135 #[.pointer (some ⟨s, 0, none⟩), .agg #[.int .u8 d.kind, .int .i64 d.cell, .int .i64 d.to, .int .i64 d.n]] w fun e w' => e = .panicked [{ v := refusal 2, recovered := false }] ∧ Kept w w' := by
  have H1 := Lib.hid h
  have H2 := Lib.hid h'
  clear h h'
  have hwl := i64_inx (n := (p.cells.length : Int) - 1) (by omega)
  go_enter Try.func135, Try.ntmps135
  go_upto_region 1 with fail
  refine at_world (S := fun W => Blk W w.heap.size #[.int .u8 d.kind, .int .i64 d.cell, .int .i64 d.to, .int .i64 d.n] 65 ∧ Kept w W) ⟨by (exact blkc), by (exact kpt)⟩ ?_
  rintro W ⟨r0, hk⟩
  have hsW := hs.keep hk
  have r0c0 := r0.cell 0
  have r0f0 := r0.free 0
  have r0c1 := r0.cell 1
  have r0f1 := r0.free 1
  have r0c2 := r0.cell 2
  have r0f2 := r0.free 2
  have r0c3 := r0.cell 3
  have r0f3 := r0.free 3
  have r0l := r0.lt
  simp at r0c0 r0c1 r0c2 r0c3
  have hsWc0 := hsW.cell 0
  have hsWf0 := hsW.free 0
  have hsWc1 := hsW.cell 1
  have hsWf1 := hsW.free 1
  have hsWc2 := hsW.cell 2
  have hsWf2 := hsW.free 2
  have hsWc3 := hsW.cell 3
  have hsWf3 := hsW.free 3
  have hsWc4 := hsW.cell 4
  have hsWf4 := hsW.free 4
  have hsWc5 := hsW.cell 5
  have hsWf5 := hsW.free 5
  have hsWc6 := hsW.cell 6
  have hsWf6 := hsW.free 6
  have hsWc7 := hsW.cell 7
  have hsWf7 := hsW.free 7
  have hsWc8 := hsW.cell 8
  have hsWf8 := hsW.free 8
  have hsWc9 := hsW.cell 9
  have hsWf9 := hsW.free 9
  have hsWl := hsW.lt
  simp at hsWc0 hsWc1 hsWc2 hsWc3 hsWc4 hsWc5 hsWc6 hsWc7 hsWc8 hsWc9

  first | go_region_with (first | (go_at_call 91; (with_reducible refine (f_ranged1B _ _ d.cell _ _ ?_).mono ?_); (focus ((repeat with_reducible refine Blk.drew ?_); exact Blk.new' (by first | rfl | (simp; done)))); rw [H1.out]; rintro e w1 ⟨rfl, rfl⟩) | (go_at_call 91; (with_reducible refine (f_ranged1B _ _ d.n _ _ ?_).mono ?_); (focus ((repeat with_reducible refine Blk.drew ?_); exact Blk.new' (by first | rfl | (simp; done)))); rw [H2.out]; rintro e w1 ⟨rfl, rfl⟩) | (go_at_call 113; (with_reducible refine (f_need_no _ _).mono ?_); rintro e w1 ⟨rfl, rfl⟩; refine done_any (P := Try.prog) (a := ⟨#[], []⟩) (w := w) ⟨rfl, rfl, by (exact kpt)⟩ ?_)) | fail
  all_goals trivial
theorem f_cell_no (s : Nat) (ad : Option Addr) (cp : Nat) (p : Plant) (d : Deed) (w : World) (hs : Blk w s #[.slice ad p.cells.length cp, .int .i64 p.bottles, .int .i64 p.inH, .int .i64 p.inA, .int .i64 p.vH, .int .i64 p.vA, .int .i64 p.lH, .int .i64 p.lA, .int .i64 p.pH, .int .i64 p.pA] 174) (hn : p.cells.length ≤ 12) (h : argB p d = false) :
    Calls Try.prog 135 #[.pointer (some ⟨s, 0, none⟩), .agg #[.int .u8 d.kind, .int .i64 d.cell, .int .i64 d.to, .int .i64 d.n]] w fun e w' => e = .panicked [{ v := refusal 2, recovered := false }] ∧ Kept w w' := by
  cases h1 : rng [d.cell] 0 (p.cells.length - 1)
  · exact f_cell_no1 s ad cp p d w hs hn h1
  · exact f_cell_no2 s ad cp p d w hs hn h1 (by simpa [argB, h1] using h)
theorem f_cell_ok (s g cp : Nat) (p : Plant) (d : Deed) (w : World) (hs : Blk w s #[.slice (some ⟨g, 0, none⟩) p.cells.length cp, .int .i64 p.bottles, .int .i64 p.inH, .int .i64 p.inA, .int .i64 p.vH, .int .i64 p.vA, .int .i64 p.lH, .int .i64 p.lA, .int .i64 p.pH, .int .i64 p.pA] 174) (hn : p.cells.length ≤ 12) (h : argB p d = true) :
    Calls Try.prog 135 #[.pointer (some ⟨s, 0, none⟩), .agg #[.int .u8 d.kind, .int .i64 d.cell, .int .i64 d.to, .int .i64 d.n]] w fun e w' => e = .returned (.pointer (some ⟨g, d.cell.toNat * 7, none⟩)) ∧ Kept w w' := by
  have h1 : rng [d.cell] 0 (p.cells.length - 1) = true := by unfold argB at h; simp only [Bool.and_eq_true] at h; exact h.1
  have h2 : rng [d.n] 1 10000000 = true := by unfold argB at h; simp only [Bool.and_eq_true] at h; exact h.2
  have hb : 0 ≤ d.cell ∧ d.cell ≤ p.cells.length - 1 := by simpa [rng, inB] using h1
  obtain ⟨hb0, hb1⟩ := hb
  have hb2 : d.cell < p.cells.length := by omega
  have H1 := Lib.hid h1
  have H2 := Lib.hid h2
  clear h h1 h2
  have hwl := i64_inx (n := (p.cells.length : Int) - 1) (by omega)
  go_enter Try.func135, Try.ntmps135
  go_upto_region 1 with fail
  refine at_world (S := fun W => Blk W w.heap.size #[.int .u8 d.kind, .int .i64 d.cell, .int .i64 d.to, .int .i64 d.n] 65 ∧ Kept w W) ⟨by (exact blkc), by (exact kpt)⟩ ?_
  rintro W ⟨r0, hk⟩
  have hsW := hs.keep hk
  have r0c0 := r0.cell 0
  have r0f0 := r0.free 0
  have r0c1 := r0.cell 1
  have r0f1 := r0.free 1
  have r0c2 := r0.cell 2
  have r0f2 := r0.free 2
  have r0c3 := r0.cell 3
  have r0f3 := r0.free 3
  have r0l := r0.lt
  simp at r0c0 r0c1 r0c2 r0c3
  have hsWc0 := hsW.cell 0
  have hsWf0 := hsW.free 0
  have hsWc1 := hsW.cell 1
  have hsWf1 := hsW.free 1
  have hsWc2 := hsW.cell 2
  have hsWf2 := hsW.free 2
  have hsWc3 := hsW.cell 3
  have hsWf3 := hsW.free 3
  have hsWc4 := hsW.cell 4
  have hsWf4 := hsW.free 4
  have hsWc5 := hsW.cell 5
  have hsWf5 := hsW.free 5
  have hsWc6 := hsW.cell 6
  have hsWf6 := hsW.free 6
  have hsWc7 := hsW.cell 7
  have hsWf7 := hsW.free 7
  have hsWc8 := hsW.cell 8
  have hsWf8 := hsW.free 8
  have hsWc9 := hsW.cell 9
  have hsWf9 := hsW.free 9
  have hsWl := hsW.lt
  simp at hsWc0 hsWc1 hsWc2 hsWc3 hsWc4 hsWc5 hsWc6 hsWc7 hsWc8 hsWc9

  go_cut [] (fun wx => Blk wx w.heap.size #[.int .u8 d.kind, .int .i64 d.cell, .int .i64 d.to, .int .i64 d.n] 65 ∧ Blk wx s #[.slice (some ⟨g, 0, none⟩) p.cells.length cp, .int .i64 p.bottles, .int .i64 p.inH, .int .i64 p.inA, .int .i64 p.vH, .int .i64 p.vA, .int .i64 p.lH, .int .i64 p.lA, .int .i64 p.pH, .int .i64 p.pA] 174 ∧ Kept w wx)
  case first =>
    first | go_region_with (first | (go_at_call 91; (with_reducible refine (f_ranged1B _ _ d.cell _ _ ?_).mono ?_); (focus ((repeat with_reducible refine Blk.drew ?_); exact Blk.new' (by first | rfl | (simp; done)))); rw [H1.out]; rintro e w1 ⟨rfl, rfl⟩) | (go_at_call 91; (with_reducible refine (f_ranged1B _ _ d.n _ _ ?_).mono ?_); (focus ((repeat with_reducible refine Blk.drew ?_); exact Blk.new' (by first | rfl | (simp; done)))); rw [H2.out]; rintro e w1 ⟨rfl, rfl⟩) | (go_at_call 113; (with_reducible refine (f_need_ok _ _).mono ?_); rintro e w1 ⟨rfl, rfl⟩)) | fail
    all_goals (go_wp2_with fail; go_meet)
    all_goals (first | exact ⟨(((r0.alloc _).alloc _).drew), (((hsW.alloc _).alloc _).drew), by (exact kpt)⟩ | exact ⟨(((r0.drew.alloc _).alloc _)), (((hsW.drew.alloc _).alloc _)), by (exact kpt)⟩ | trace_state)
  case rest =>
    clear hk r0 hsW r0c0 r0f0 r0c1 r0f1 r0c2 r0f2 r0c3 r0f3 hsWc0 hsWf0 hsWc1 hsWf1 hsWc2 hsWf2 hsWc3 hsWf3 hsWc4 hsWf4 hsWc5 hsWf5 hsWc6 hsWf6 hsWc7 hsWf7 hsWc8 hsWf8 hsWc9 hsWf9 r0l hsWl
    go_upto_region 2 with fail
    refine at_world (S := fun W2 => Blk W2 w.heap.size #[.int .u8 d.kind, .int .i64 d.cell, .int .i64 d.to, .int .i64 d.n] 65 ∧ Blk W2 s #[.slice (some ⟨g, 0, none⟩) p.cells.length cp, .int .i64 p.bottles, .int .i64 p.inH, .int .i64 p.inA, .int .i64 p.vH, .int .i64 p.vA, .int .i64 p.lH, .int .i64 p.lA, .int .i64 p.pH, .int .i64 p.pA] 174 ∧ Kept w W2) hcut ?_
    clear hcut
    rintro W2 ⟨r0, hsW, hk⟩
    have r0c0 := fun g : Later W2 => (r0.later g).cell 0
    have r0f0 := fun g : Later W2 => (r0.later g).free 0
    have r0c1 := fun g : Later W2 => (r0.later g).cell 1
    have r0f1 := fun g : Later W2 => (r0.later g).free 1
    have r0c2 := fun g : Later W2 => (r0.later g).cell 2
    have r0f2 := fun g : Later W2 => (r0.later g).free 2
    have r0c3 := fun g : Later W2 => (r0.later g).cell 3
    have r0f3 := fun g : Later W2 => (r0.later g).free 3
    have r0l := fun g : Later W2 => (r0.later g).lt
    simp at r0c0 r0c1 r0c2 r0c3
    have hsWc0 := fun g : Later W2 => (hsW.later g).cell 0
    have hsWf0 := fun g : Later W2 => (hsW.later g).free 0
    have hsWc1 := fun g : Later W2 => (hsW.later g).cell 1
    have hsWf1 := fun g : Later W2 => (hsW.later g).free 1
    have hsWc2 := fun g : Later W2 => (hsW.later g).cell 2
    have hsWf2 := fun g : Later W2 => (hsW.later g).free 2
    have hsWc3 := fun g : Later W2 => (hsW.later g).cell 3
    have hsWf3 := fun g : Later W2 => (hsW.later g).free 3
    have hsWc4 := fun g : Later W2 => (hsW.later g).cell 4
    have hsWf4 := fun g : Later W2 => (hsW.later g).free 4
    have hsWc5 := fun g : Later W2 => (hsW.later g).cell 5
    have hsWf5 := fun g : Later W2 => (hsW.later g).free 5
    have hsWc6 := fun g : Later W2 => (hsW.later g).cell 6
    have hsWf6 := fun g : Later W2 => (hsW.later g).free 6
    have hsWc7 := fun g : Later W2 => (hsW.later g).cell 7
    have hsWf7 := fun g : Later W2 => (hsW.later g).free 7
    have hsWc8 := fun g : Later W2 => (hsW.later g).cell 8
    have hsWf8 := fun g : Later W2 => (hsW.later g).free 8
    have hsWc9 := fun g : Later W2 => (hsW.later g).cell 9
    have hsWf9 := fun g : Later W2 => (hsW.later g).free 9
    have hsWl := fun g : Later W2 => (hsW.later g).lt
    simp at hsWc0 hsWc1 hsWc2 hsWc3 hsWc4 hsWc5 hsWc6 hsWc7 hsWc8 hsWc9
    refine Later.region (by kernel_rfl) (by kernel_rfl) ?_
    repeat (first | go_big_quiet_skip | (go_big_quiet_want; go_big_quiet_op; first | go_big_quiet_on | (apply Exists.intro; refine ⟨fun g => ?_, ?_⟩; (focus (first | fail)); go_big_quiet_on)))
    refine wpQuiet_nil ?_
    intro gh
    have hkh := Kept.drop hk gh.ok
    go_wp2
    go_ret
    exact ⟨rfl, hkh⟩

end Go.Proofs.Ytemafanncejeiaa
