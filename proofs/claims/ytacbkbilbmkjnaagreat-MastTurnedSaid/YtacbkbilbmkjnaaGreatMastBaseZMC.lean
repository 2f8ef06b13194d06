/-
  Axes of a port, lines of a port: what is valid, in the program and in the reference.
-/
import Derived.Scope
import Derived.Deep.DeepCutAuto
import Derived.Deep.RegionLaw
import Derived.Laws.AppendOwnNone
import Derived.ArgAppend
import Derived.DeepKeys4
import Derived.WalkKit
import Derived.WalkSpells
import Derived.WalkLawsBesides
import Derived.Lib.Hide
import Derived.ProofKit
import Derived.OpenShut
import Derived.ChangeOld
import Derived.Below
import Derived.Deep.Slices
import Derived.Deep.Fields
import Derived.Deep.Quiet
import Derived.Laws.AppendOwn
import Derived.StillTail
import Derived.Test.YtacbkbilbmkjnaaGreatProg
import Derived.Deep.QuietTactic
import Derived.BigQuiet
import Derived.Lib.SlicesCompact
import Derived.WalkSmall
import Derived.OwnWalk
import Derived.Deep.RegionHeld3
import Derived.OrdersHeld
import Derived.Deep.CutBlock
import Derived.Maps.OwnSet
import Derived.Laws.EntriesVeiled
import Derived.Test.YtacbkbilbmkjnaaGreatMastBaseZMA
import Derived.Test.YtacbkbilbmkjnaaGreatMastBaseZMB
set_option linter.unusedVariables false
set_option linter.unusedSimpArgs false
/-
  Axes of a port, lines of a port: what is valid, in the program and in the reference.
-/
namespace Go.Proofs.YtacbkbilbmkjnaaGreat
open Go.RowKit Bal Bal.Trim Bal.Mast
set_option linter.unusedVariables false
set_option linter.unusedSimpArgs false
set_option maxHeartbeats 800000
set_option maxRecDepth 10000

theorem f_turnable1 (a : Axis) (w : World) :
    Calls Tryz.prog 112 #[.agg #[.int .i64 a.x, .int .i64 a.y]] w fun e w' => e = .returned (.bool (!axisB a)) ∧ Kept w w' := by
  have he : (!axisB a) = decide (¬ checkAxis a = 0) := by unfold checkAxis; cases axisB a <;> simp
  rw [he]
  obtain ⟨C, hC⟩ : ∃ C, C = checkAxis a := ⟨_, rfl⟩
  have HC := fun w => f_CheckAxis a w
  rw [← hC] at HC ⊢
  clear hC he
  go_enter Tryz.func112, Tryz.ntmps112
  go_wp2_with (go_at_call 38; (with_reducible refine (HC _).mono ?_); rintro e w1 ⟨rfl, hb1⟩; obtain ⟨hc1, hf1, hl1⟩ := bcell3 hb1)
  all_goals (go_ret; exact ⟨ret_bool (by first | rfl | (by_cases h : C = 0 <;> simp [h])), by (exact kpt)⟩)

def lineB (s : Span) : Bool := spanIn s.lo s.hi 0 1000000
theorem f_lines1 (a : Span) (w : World) :
    Calls Tryz.prog 76 #[.agg #[.int .i64 a.lo, .int .i64 a.hi]] w fun e w' => e = .returned (.bool (!lineB a)) ∧ Kept w w' := by
  have HC := fun w => f_span a.lo a.hi 0 1000000 w
  have he : lineB a = spanIn a.lo a.hi 0 1000000 := rfl
  rw [← he] at HC
  clear he
  go_enter Tryz.func76, Tryz.ntmps76
  go_wp2_with (go_at_call 69; (with_reducible refine (HC _).mono ?_); rintro e w1 ⟨rfl, hb1⟩; obtain ⟨hc1, hf1, hl1⟩ := bcell3 hb1)
  go_ret
  exact ⟨ret_bool (by first | rfl | simp), by (exact kpt)⟩

theorem s_IndexAxis (a : Option Addr) (cap : Nat) (xs : List Axis) (w : World) (hx : Row Axis.cells 2 w.heap.size w a xs) (h1 : xs.length ≤ 1000000) :
    Calls Tryz.prog 117 #[.slice a xs.length cap, .func (.func 112) #[] #[]] w fun e w' => (∃ r : Int, e = .returned (.int .i64 r) ∧ decide (r < 0) = xs.all axisB ∧ -1 ≤ r) ∧ Kept w w' := by
  obtain ⟨R, hR⟩ : ∃ R, R = xs.all axisB := ⟨_, rfl⟩
  have HR := Lib.hid hR
  rw [← hR]
  clear hR
  go_enter Tryz.func117, Tryz.ntmps117
  go_wp2
  go_loopw [8] (fun i wr => Upto axisB xs w i wr) (fun i _ => xs.length - (intOf i).toNat)
  case atStart => exact ⟨0, Nat.zero_le _, rfl, by simp, Below.refl _ _⟩
  case round =>
    obtain ⟨k, hk, rfl, ha', hb'⟩ := hrel
    have ha := Lib.hid ha'
    have hb := Lib.hid hb'
    clear ha'
    by_cases hlt : k < xs.length
    · obtain ⟨b, off, rfl, hbl, h0, h1⟩ := Axis.row (hx.later hb' (Nat.le_refl _)) k hlt
      have hbad : axisB xs[k] = false → R = false := fun hv => by
        rw [HR.out, Bool.eq_false_iff]
        intro h
        rw [List.all_eq_true.1 h _ (List.getElem_mem hlt)] at hv
        cases hv
      have HB := Lib.hid hbad
      clear hbad hb'
      have HT := Lib.hid (fun h => take_all (valid := axisB) hlt ha.out h)
      have hcall := fun w => f_turnable1 xs[k] w
      obtain ⟨x, hx0⟩ : ∃ x, x = xs[k] := ⟨_, rfl⟩
      rw [← hx0] at HB HT h0 h1 hcall
      clear hx0
      obtain ⟨V, hV⟩ : ∃ V, V = axisB x := ⟨_, rfl⟩
      rw [← hV] at hcall HB HT
      clear hV
      cases V with
      | false =>
        have HF := Lib.hid (HB.out rfl)
        clear HB
        go_wp2_with (go_at_call 112; refine (hcall _).mono ?_; rintro e w1 ⟨rfl, hb1⟩)
        go_ret
        refine ⟨⟨k, rfl, ?_, by omega⟩, Kept.drop hb.out (by (exact kpt))⟩
        rw [HF.out, decide_eq_false_iff_not]; omega
      | true =>
        have HF := Lib.hid (HT.out rfl)
        clear HT
        go_wp2_with (go_at_call 112; refine (hcall _).mono ?_; rintro e w1 ⟨rfl, hb1⟩)
        go_roundw
        case rel => exact ⟨k + 1, by omega, by go_num, HF.out, Kept.drop hb.out (by (exact kpt))⟩
        case measure => simp [intOf]; omega
    · obtain rfl : k = xs.length := by omega
      have HF := Lib.hid (show R = true by rw [HR.out, ← ha.out, List.take_length])
      clear hb'
      go_wp2
      go_ret
      refine ⟨⟨-1, rfl, ?_, by omega⟩, hb.out⟩
      rw [HF.out]; rfl

theorem s_ContainsAxis (a : Option Addr) (cap : Nat) (xs : List Axis) (w : World) (hx : Row Axis.cells 2 w.heap.size w a xs) (h1 : xs.length ≤ 1000000) :
    Calls Tryz.prog 111 #[.slice a xs.length cap, .func (.func 112) #[] #[]] w fun e w' => e = .returned (.bool (!xs.all axisB)) ∧ Kept w w' := by
  obtain ⟨R, hR⟩ : ∃ R, R = xs.all axisB := ⟨_, rfl⟩
  have hcall := s_IndexAxis a cap xs w hx h1
  rw [← hR] at hcall ⊢
  clear hR
  go_enter Tryz.func111, Tryz.ntmps111
  go_wp2_with (go_at_call 117; refine hcall.mono ?_; rintro e w1 ⟨⟨r, rfl, hr1, hr2⟩, hb1⟩)
  go_ret
  refine ⟨ret_bool ?_, hb1⟩
  rw [← hr1, ← decide_not]
  exact decide_eq_decide.2 (by omega)

theorem s_IndexSpan (a : Option Addr) (cap : Nat) (xs : List Span) (w : World) (hx : Row Span.cells 2 w.heap.size w a xs) (h1 : xs.length ≤ 1000000) :
    Calls Tryz.prog 105 #[.slice a xs.length cap, .func (.func 76) #[] #[]] w fun e w' => (∃ r : Int, e = .returned (.int .i64 r) ∧ decide (r < 0) = xs.all lineB ∧ -1 ≤ r) ∧ Kept w w' := by
  obtain ⟨R, hR⟩ : ∃ R, R = xs.all lineB := ⟨_, rfl⟩
  have HR := Lib.hid hR
  rw [← hR]
  clear hR
  go_enter Tryz.func105, Tryz.ntmps105
  go_wp2
  go_loopw [8] (fun i wr => Upto lineB xs w i wr) (fun i _ => xs.length - (intOf i).toNat)
  case atStart => exact ⟨0, Nat.zero_le _, rfl, by simp, Below.refl _ _⟩
  case round =>
    obtain ⟨k, hk, rfl, ha', hb'⟩ := hrel
    have ha := Lib.hid ha'
    have hb := Lib.hid hb'
    clear ha'
    by_cases hlt : k < xs.length
    · obtain ⟨b, off, rfl, hbl, h0, h1⟩ := Span.row (hx.later hb' (Nat.le_refl _)) k hlt
      have hbad : lineB xs[k] = false → R = false := fun hv => by
        rw [HR.out, Bool.eq_false_iff]
        intro h
        rw [List.all_eq_true.1 h _ (List.getElem_mem hlt)] at hv
        cases hv
      have HB := Lib.hid hbad
      clear hbad hb'
      have HT := Lib.hid (fun h => take_all (valid := lineB) hlt ha.out h)
      have hcall := fun w => f_lines1 xs[k] w
      obtain ⟨x, hx0⟩ : ∃ x, x = xs[k] := ⟨_, rfl⟩
      rw [← hx0] at HB HT h0 h1 hcall
      clear hx0
      obtain ⟨V, hV⟩ : ∃ V, V = lineB x := ⟨_, rfl⟩
      rw [← hV] at hcall HB HT
      clear hV
      cases V with
      | false =>
        have HF := Lib.hid (HB.out rfl)
        clear HB
        go_wp2_with (go_at_call 76; refine (hcall _).mono ?_; rintro e w1 ⟨rfl, hb1⟩)
        go_ret
        refine ⟨⟨k, rfl, ?_, by omega⟩, Kept.drop hb.out (by (exact kpt))⟩
        rw [HF.out, decide_eq_false_iff_not]; omega
      | true =>
        have HF := Lib.hid (HT.out rfl)
        clear HT
        go_wp2_with (go_at_call 76; refine (hcall _).mono ?_; rintro e w1 ⟨rfl, hb1⟩)
        go_roundw
        case rel => exact ⟨k + 1, by omega, by go_num, HF.out, Kept.drop hb.out (by (exact kpt))⟩
        case measure => simp [intOf]; omega
    · obtain rfl : k = xs.length := by omega
      have HF := Lib.hid (show R = true by rw [HR.out, ← ha.out, List.take_length])
      clear hb'
      go_wp2
      go_ret
      refine ⟨⟨-1, rfl, ?_, by omega⟩, hb.out⟩
      rw [HF.out]; rfl

theorem s_ContainsSpan (a : Option Addr) (cap : Nat) (xs : List Span) (w : World) (hx : Row Span.cells 2 w.heap.size w a xs) (h1 : xs.length ≤ 1000000) :
    Calls Tryz.prog 67 #[.slice a xs.length cap, .func (.func 76) #[] #[]] w fun e w' => e = .returned (.bool (!xs.all lineB)) ∧ Kept w w' := by
  obtain ⟨R, hR⟩ : ∃ R, R = xs.all lineB := ⟨_, rfl⟩
  have hcall := s_IndexSpan a cap xs w hx h1
  rw [← hR] at hcall ⊢
  clear hR
  go_enter Tryz.func67, Tryz.ntmps67
  go_wp2_with (go_at_call 105; refine hcall.mono ?_; rintro e w1 ⟨⟨r, rfl, hr1, hr2⟩, hb1⟩)
  go_ret
  refine ⟨ret_bool ?_, hb1⟩
  rw [← hr1, ← decide_not]
  exact decide_eq_decide.2 (by omega)

theorem turnable_rng (xs : List Axis) : turnable xs = (rng [(xs.length : Int)] 1 32 && xs.all axisB) := by
  unfold turnable
  congr 1
  rw [Bool.eq_iff_iff]
  simp [rng, inB]
  omega
theorem f_turnable (a : Option Addr) (cap : Nat) (xs : List Axis) (w : World) (hx : Row Axis.cells 2 w.heap.size w a xs) (h1 : xs.length ≤ 1000000) :
    Calls Tryz.prog 75 #[.slice a xs.length cap] w fun e w' => e = .returned (.bool (turnable xs)) ∧ Kept w w' := by
  rw [turnable_rng]
  have HC := fun (W : World) (hk : Kept w W) => s_ContainsAxis a cap xs W (hx.later hk (Nat.le_refl _)) h1
  obtain ⟨R, hR⟩ : ∃ R, R = xs.all axisB := ⟨_, rfl⟩
  rw [← hR] at HC ⊢
  clear hR
  go_enter Tryz.func75, Tryz.ntmps75
  go_wp2_with (first | (go_at_call 44; (with_reducible refine (f_ranged_1 _ _ _ _ _ _ (by simp)).mono ?_); rintro e w1 ⟨rfl, hb1⟩) | (go_at_call 111; refine (HC _ (by (exact kpt))).mono ?_; rintro e w1 ⟨rfl, hb1⟩))
  all_goals (go_ret; exact ⟨ret_bool (by simp [*]), by (exact kpt)⟩)

theorem f_lines (a : Option Addr) (cap : Nat) (xs : List Span) (w : World) (hx : Row Span.cells 2 w.heap.size w a xs) (h1 : xs.length ≤ 1000000) :
    Calls Tryz.prog 43 #[.slice a xs.length cap] w fun e w' => e = .returned (.bool (linesB xs)) ∧ Kept w w' := by
  have he : linesB xs = (decide (xs.length ≤ 8) && xs.all lineB) := rfl
  rw [he]
  have HC := fun (W : World) (hk : Kept w W) => s_ContainsSpan a cap xs W (hx.later hk (Nat.le_refl _)) h1
  obtain ⟨R, hR⟩ : ∃ R, R = xs.all lineB := ⟨_, rfl⟩
  rw [← hR] at HC ⊢
  clear hR he
  by_cases h8 : xs.length ≤ 8
  all_goals
    go_enter Tryz.func43, Tryz.ntmps43
    go_wp2_with (go_at_call 67; refine (HC _ (by (exact kpt))).mono ?_; rintro e w1 ⟨rfl, hb1⟩)
    all_goals (go_ret; exact ⟨ret_bool (by simp [h8]), by (exact kpt)⟩)

theorem r_axes (a : Option Addr) (cap : Nat) (xs : List Axis) (w : World) (hx : Row Axis.cells 2 w.heap.size w a xs) (h1 : xs.length ≤ 1000000) :
    Calls Tryz.prog 79 #[.slice a xs.length cap] w fun e w' => e = .returned (.bool (turnable xs)) ∧ Kept w w' := by
  rw [turnable_rng]
  obtain ⟨R, hR⟩ : ∃ R, R = xs.all axisB := ⟨_, rfl⟩
  have HR := Lib.hid hR
  rw [← hR]
  clear hR
  cases hg : rng [(xs.length : Int)] 1 32
  · have HI := Lib.hid (show inB (xs.length : Int) 1 32 = false by simpa [rng] using hg)
    clear hg
    go_enter Tryz.func79, Tryz.ntmps79
    go_wp2_with (go_at_call 65; (with_reducible refine (r_within _ _ _ _).mono ?_); rw [HI.out]; rintro e w1 ⟨rfl, rfl⟩)
    go_ret
    exact ⟨ret_bool (by simp), by (exact kpt)⟩
  have HI := Lib.hid (show inB (xs.length : Int) 1 32 = true by simpa [rng] using hg)
  clear hg
  skip
  go_enter Tryz.func79, Tryz.ntmps79
  go_wp2_with (go_at_call 65; (with_reducible refine (r_within _ _ _ _).mono ?_); rw [HI.out]; rintro e w1 ⟨rfl, rfl⟩)
  go_loopw [3] (fun i wr => Upto axisB xs w i wr) (fun i _ => xs.length - (intOf i).toNat)
  case atStart => exact ⟨0, Nat.zero_le _, rfl, by simp, by (exact kpt)⟩
  case round =>
    obtain ⟨k, hk, rfl, ha', hb'⟩ := hrel
    have ha := Lib.hid ha'
    have hb := Lib.hid hb'
    clear ha'
    by_cases hlt : k < xs.length
    · obtain ⟨b, off, rfl, hbl, h0, h1⟩ := Axis.row (hx.later hb' (Nat.le_refl _)) k hlt
      have hbad : axisB xs[k] = false → R = false := fun hv => by
        rw [HR.out, Bool.eq_false_iff]
        intro h
        rw [List.all_eq_true.1 h _ (List.getElem_mem hlt)] at hv
        cases hv
      have HB := Lib.hid hbad
      clear hbad hb'
      have HT := Lib.hid (fun h => take_all (valid := axisB) hlt ha.out h)
      have hcall := fun w => r_Axis xs[k] w
      obtain ⟨x, hx0⟩ : ∃ x, x = xs[k] := ⟨_, rfl⟩
      rw [← hx0] at HB HT h0 h1 hcall
      clear hx0
      skip
      obtain ⟨V, hV⟩ : ∃ V, V = axisB x := ⟨_, rfl⟩
      rw [← hV] at hcall HB HT
      clear hV
      cases V with
      | false =>
        have HF := Lib.hid (HB.out rfl)
        clear HB
        go_wp2_with (go_at_call 56; refine (hcall _).mono ?_; rintro e w1 ⟨rfl, hb1⟩)
        go_ret
        exact ⟨ret_bool (by rw [HF.out]; first | rfl | simp), Kept.drop hb.out (by (exact kpt))⟩
      | true =>
        have HF := Lib.hid (HT.out rfl)
        clear HT
        go_wp2_with (go_at_call 56; refine (hcall _).mono ?_; rintro e w1 ⟨rfl, hb1⟩)
        go_roundw
        case rel => exact ⟨k + 1, by omega, by go_num, HF.out, Kept.drop hb.out (by (exact kpt))⟩
        case measure => simp [intOf]; omega
    · obtain rfl : k = xs.length := by omega
      have HF := Lib.hid (show R = true by rw [HR.out, ← ha.out, List.take_length])
      clear hb'
      go_wp2
      go_ret
      exact ⟨ret_bool (by rw [HF.out]; first | rfl | simp [*]), hb.out⟩

theorem r_pulls (a : Option Addr) (cap : Nat) (xs : List Span) (w : World) (hx : Row Span.cells 2 w.heap.size w a xs) (h1 : xs.length ≤ 1000000) :
    Calls Tryz.prog 80 #[.slice a xs.length cap] w fun e w' => e = .returned (.bool (linesB xs)) ∧ Kept w w' := by
  have he : linesB xs = (decide (xs.length ≤ 8) && xs.all lineB) := rfl
  rw [he]
  clear he
  obtain ⟨R, hR⟩ : ∃ R, R = xs.all lineB := ⟨_, rfl⟩
  have HR := Lib.hid hR
  rw [← hR]
  clear hR
  by_cases h8 : xs.length ≤ 8
  case neg =>
    go_enter Tryz.func80, Tryz.ntmps80
    go_wp2
    go_ret
    exact ⟨ret_bool (by simp [h8]), by (exact kpt)⟩
  skip
  go_enter Tryz.func80, Tryz.ntmps80
  go_wp2
  go_loopw [3] (fun i wr => Upto lineB xs w i wr) (fun i _ => xs.length - (intOf i).toNat)
  case atStart => exact ⟨0, Nat.zero_le _, rfl, by simp, by (exact kpt)⟩
  case round =>
    obtain ⟨k, hk, rfl, ha', hb'⟩ := hrel
    have ha := Lib.hid ha'
    have hb := Lib.hid hb'
    clear ha'
    by_cases hlt : k < xs.length
    · obtain ⟨b, off, rfl, hbl, h0, h1⟩ := Span.row (hx.later hb' (Nat.le_refl _)) k hlt
      have hbad : lineB xs[k] = false → R = false := fun hv => by
        rw [HR.out, Bool.eq_false_iff]
        intro h
        rw [List.all_eq_true.1 h _ (List.getElem_mem hlt)] at hv
        cases hv
      have HB := Lib.hid hbad
      clear hbad hb'
      have HT := Lib.hid (fun h => take_all (valid := lineB) hlt ha.out h)
      have hcall := fun w => r_spanned xs[k].lo xs[k].hi 0 1000000 w
      obtain ⟨x, hx0⟩ : ∃ x, x = xs[k] := ⟨_, rfl⟩
      rw [← hx0] at HB HT h0 h1 hcall
      clear hx0
      have he : spanIn x.lo x.hi 0 1000000 = lineB x := rfl
      rw [he] at hcall
      clear he
      obtain ⟨V, hV⟩ : ∃ V, V = lineB x := ⟨_, rfl⟩
      rw [← hV] at hcall HB HT
      clear hV
      cases V with
      | false =>
        have HF := Lib.hid (HB.out rfl)
        clear HB
        go_wp2_with (go_at_call 83; refine (hcall _).mono ?_; rintro e w1 ⟨rfl, hb1⟩)
        go_ret
        exact ⟨ret_bool (by rw [HF.out]; first | rfl | simp), Kept.drop hb.out (by (exact kpt))⟩
      | true =>
        have HF := Lib.hid (HT.out rfl)
        clear HT
        go_wp2_with (go_at_call 83; refine (hcall _).mono ?_; rintro e w1 ⟨rfl, hb1⟩)
        go_roundw
        case rel => exact ⟨k + 1, by omega, by go_num, HF.out, Kept.drop hb.out (by (exact kpt))⟩
        case measure => simp [intOf]; omega
    · obtain rfl : k = xs.length := by omega
      have HF := Lib.hid (show R = true by rw [HR.out, ← ha.out, List.take_length])
      clear hb'
      go_wp2
      go_ret
      exact ⟨ret_bool (by rw [HF.out]; first | rfl | simp [*]), hb.out⟩

end Go.Proofs.YtacbkbilbmkjnaaGreat

/-
  The persons that lines need, in the program and in the reference.
-/
namespace Go.Proofs.YtacbkbilbmkjnaaGreat
open Go.RowKit Bal Bal.Trim Bal.Mast
set_option linter.unusedVariables false
set_option linter.unusedSimpArgs false
set_option maxHeartbeats 2000000
set_option maxRecDepth 10000

theorem infoI : (Tryz.prog.info? 3).map (fun i => (i.zero, i.size, i.bytes)) = some (some (.int .i64 0), 1, 8) := by kernel_rfl
theorem cell_one {w : World} {n : Nat} (h : n = w.heap.size) (x : Value) (t : TypeId) : ∀ j u, [x][j]? = some u → (w.alloc (.cells #[x] t)).cell? ((⟨n, 0, none⟩ : Addr).add j) = some u := by
  subst h
  intro j u hj
  match j, hj with
  | 0, hj => simp at hj; subst hj; simp [Addr.add]
  | j + 1, hj => simp at hj
theorem info_parts {P : Program} {e : TypeId} {z : Value} {s b : Nat} (h : (P.info? e).map (fun i => (i.zero, i.size, i.bytes)) = some (some z, s, b)) : ∃ i, P.info? e = some i ∧ i.zero = some z ∧ i.size = s ∧ i.bytes = b := by
  cases hi : P.info? e with
  | none => rw [hi] at h; cases h
  | some i => rw [hi] at h; simp at h; exact ⟨i, rfl, h.1, h.2.1, h.2.2⟩
theorem owns_row {α : Type} {enc : α → List Value} {k base : Nat} {e : TypeId} {w : World} {v : Value} {xs : List α} (he : ∀ x, (enc x).length = k) (h : w.ownsRow base e k v xs.length (xs.flatMap enc)) :
    ∃ a cap, v = .slice a xs.length cap ∧ Row enc k w.heap.size w a xs ∧ xs.length ≤ cap ∧ cap ≤ maxLen := Row.of_owns he h

theorem f_needed (a : Option Addr) (cap : Nat) (xs : List Span) (m : Int) (w : World) (hx : Row Span.cells 2 w.heap.size w a xs) (hn : xs.length ≤ 8) (hv : ∀ s ∈ xs, lineB s = true) (hm1 : 1 ≤ m) (hm2 : m ≤ 1000000) :
    Calls Tryz.prog 45 #[.slice a xs.length cap, .int .i64 m] w fun e w' => ∃ v, e = .returned (.tuple #[v, .int .i64 (total (needs m xs))]) ∧ w'.ownsRow w.heap.size 3 1 v (needs m xs).length ((needs m xs).flatMap icell) ∧ Kept w w' := by
  have HV := Lib.hid hv
  clear hv
  go_enter Tryz.func45, Tryz.ntmps45
  go_wp2
  go_loopw [6, 7, 13] (fun l s i wr => ∃ k : Nat, k ≤ xs.length ∧ i = .int .i64 k ∧ s = .int .i64 (total (needs m (xs.take k))) ∧ wr.ownsRow w.heap.size 3 1 l (needs m (xs.take k)).length ((needs m (xs.take k)).flatMap icell) ∧ Kept w wr) (fun _ _ i _ => xs.length - (intOf i).toNat)
  case atStart => exact ⟨0, Nat.zero_le _, rfl, rfl, owns_nil (α := Int) (enc := icell), Below.refl _ _⟩
  case round =>
    obtain ⟨k, hk, rfl, rfl, hown, hkk⟩ := hrel
    have hsz := hkk.size
    by_cases hlt : k < xs.length
    · skip
      obtain ⟨bb, off, rfl, hbl, h0, h1⟩ := Span.row (hx.later hkk (Nat.le_refl _)) k hlt
      have HN := Lib.hid (needs_take (m := m) hlt)
      have hb := line_bd (HV.out _ (List.getElem_mem hlt))
      have htk := total_bd (needs_bd hm1 (fun s hs => HV.out s (List.mem_of_mem_take hs)) (m := m) (l := xs.take k))
      have hll : (needs m (xs.take k)).length ≤ 8 := by rw [needs_len, List.length_take]; omega
      obtain ⟨y, hy0⟩ : ∃ y, y = xs[k] := ⟨_, rfl⟩
      rw [← hy0] at HN hb h0 h1
      clear hy0
      have hnb := need_bd hm1 hb.1 hb.2
      have HQ : (y.hi + m - 1) / m = needOf m y := rfl
      have HT : (y.hi + m - 1).tdiv m = needOf m y := by rw [Int.tdiv_eq_ediv_of_nonneg (by omega)]; rfl
      obtain ⟨q, hq⟩ : ∃ q, q = needOf m y := ⟨_, rfl⟩
      rw [← hq] at HN HQ HT hnb
      clear hq
      have HS : total (needs m (xs.take k)) + q = total (needs m (xs.take (k + 1))) := by rw [HN.out, total_snoc]
      obtain ⟨T, hT⟩ : ∃ T, T = total (needs m (xs.take k)) := ⟨_, rfl⟩
      rw [← hT] at htk HS
      rw [← hT]
      clear hT
      have HSS := Lib.hid HS
      clear HS
      go_wp2_with (at_builtin; obtain ⟨i0, hi, hz0, hz1, hz2⟩ := info_parts infoI; refine wpList_append_own _ rfl _ _ 29 rfl w.heap.size 3 i0 (.int .i64 0) 1 8 Tryz.underlying29 hi hz0 hz1 hz2 rfl (by decide) _ _ _ rfl ((hown.alloc _).alloc _) ⟨_, 0, none⟩ 1 1 [.int .i64 q] rfl rfl (cell_one (by simp) _ _) (fun x hx => by simp at hx; subst hx; rfl) (by unfold maxLen; omega) (by omega) (by simp only [World.size_alloc]; omega) ?_; intro v9 w9 hown9 hgrow9 hnil9; clear hi hz0 hz1 hz2)
      have hK9 : Kept w w9 := Kept.grown (by (exact kpt)) ((hown.alloc _).alloc _) (Nat.le_refl _) hgrow9
      go_roundw
      case rel => exact ⟨k + 1, by omega, by go_num, by rw [HSS.out], by rw [HN.out, List.flatMap_append, List.length_append]; exact hown9, hK9⟩
      case measure => simp [intOf]; omega
    · obtain rfl : xs.length = k := by omega
      obtain ⟨ad, cp, rfl, hrow, hcp, hcm⟩ := owns_row (enc := icell) (k := 1) (fun _ => rfl) hown
      rw [List.take_length] at hown
      go_wp2
      exact bodyPost_ret (v := .tuple #[.slice ad (needs m (xs.take xs.length)).length cp, .int .i64 (total (needs m (xs.take xs.length)))]) (by simp [results, Tryz.results45, go_sem]) rfl ⟨_, by first | rfl | rw [List.take_length], by first | exact hown | (rw [List.take_length]; exact hown), hkk⟩

theorem r_needs (a : Option Addr) (cap : Nat) (xs : List Span) (m : Int) (w : World) (hx : Row Span.cells 2 w.heap.size w a xs) (hn : xs.length ≤ 8) (hv : ∀ s ∈ xs, lineB s = true) (hm1 : 1 ≤ m) (hm2 : m ≤ 1000000) :
    Calls Tryz.prog 82 #[.slice a xs.length cap, .int .i64 m] w fun e w' => ∃ v, e = .returned v ∧ w'.ownsRow w.heap.size 3 1 v (needs m xs).length ((needs m xs).flatMap icell) ∧ Kept w w' := by
  have HV := Lib.hid hv
  clear hv
  go_enter Tryz.func82, Tryz.ntmps82
  go_wp2
  go_loopw [5, 6] (fun l i wr => ∃ k : Nat, k ≤ xs.length ∧ i = .int .i64 k ∧ wr.ownsRow w.heap.size 3 1 l (needs m (xs.take k)).length ((needs m (xs.take k)).flatMap icell) ∧ Kept w wr) (fun _ i _ => xs.length - (intOf i).toNat)
  case atStart => exact ⟨0, Nat.zero_le _, rfl, owns_nil (α := Int) (enc := icell), Below.refl _ _⟩
  case round =>
    obtain ⟨k, hk, rfl, hown, hkk⟩ := hrel
    have hsz := hkk.size
    by_cases hlt : k < xs.length
    · skip
      obtain ⟨bb, off, rfl, hbl, h0, h1⟩ := Span.row (hx.later hkk (Nat.le_refl _)) k hlt
      have HN := Lib.hid (needs_take (m := m) hlt)
      have hb := line_bd (HV.out _ (List.getElem_mem hlt))
      have htk := total_bd (needs_bd hm1 (fun s hs => HV.out s (List.mem_of_mem_take hs)) (m := m) (l := xs.take k))
      have hll : (needs m (xs.take k)).length ≤ 8 := by rw [needs_len, List.length_take]; omega
      obtain ⟨y, hy0⟩ : ∃ y, y = xs[k] := ⟨_, rfl⟩
      rw [← hy0] at HN hb h0 h1
      clear hy0
      have hnb := need_bd hm1 hb.1 hb.2
      have HQ : (y.hi + m - 1) / m = needOf m y := rfl
      have HT : (y.hi + m - 1).tdiv m = needOf m y := by rw [Int.tdiv_eq_ediv_of_nonneg (by omega)]; rfl
      obtain ⟨q, hq⟩ : ∃ q, q = needOf m y := ⟨_, rfl⟩
      rw [← hq] at HN HQ HT hnb
      clear hq
      go_wp2_with (at_builtin; obtain ⟨i0, hi, hz0, hz1, hz2⟩ := info_parts infoI; refine wpList_append_own _ rfl _ _ 29 rfl w.heap.size 3 i0 (.int .i64 0) 1 8 Tryz.underlying29 hi hz0 hz1 hz2 rfl (by decide) _ _ _ rfl (hown.alloc _) ⟨_, 0, none⟩ 1 1 [.int .i64 q] rfl rfl (cell_one (by simp) _ _) (fun x hx => by simp at hx; subst hx; rfl) (by unfold maxLen; omega) (by omega) (by simp only [World.size_alloc]; omega) ?_; intro v9 w9 hown9 hgrow9 hnil9; clear hi hz0 hz1 hz2)
      have hK9 : Kept w w9 := Kept.grown (by (exact kpt)) (hown.alloc _) (Nat.le_refl _) hgrow9
      go_roundw
      case rel => exact ⟨k + 1, by omega, by go_num, by rw [HN.out, List.flatMap_append, List.length_append]; exact hown9, hK9⟩
      case measure => simp [intOf]; omega
    · obtain rfl : xs.length = k := by omega
      obtain ⟨ad, cp, rfl, hrow, hcp, hcm⟩ := owns_row (enc := icell) (k := 1) (fun _ => rfl) hown
      rw [List.take_length] at hown
      go_wp2
      exact bodyPost_ret (v := .slice ad (needs m (xs.take xs.length)).length cp) (by simp [results, Tryz.results82, go_sem]) rfl ⟨_, by first | rfl | rw [List.take_length], by first | exact hown | (rw [List.take_length]; exact hown), hkk⟩

theorem r_total (a : Option Addr) (cap : Nat) (xs : List Int) (w : World) (hx : Row icell 1 w.heap.size w a xs) (hn : xs.length ≤ 8) (hb : ∀ x ∈ xs, 0 ≤ x ∧ x ≤ 1000000) :
    Calls Tryz.prog 81 #[.slice a xs.length cap] w fun e w' => e = .returned (.int .i64 (total xs)) ∧ w = w' := by
  have HB := Lib.hid hb
  clear hb
  go_enter Tryz.func81, Tryz.ntmps81
  go_wp2
  go_loop [3, 4] (fun s i => ∃ k : Nat, k ≤ xs.length ∧ i = .int .i64 k ∧ s = .int .i64 (total (xs.take k))) (fun _ i => xs.length - (intOf i).toNat)
  case atStart => exact ⟨0, Nat.zero_le _, rfl, rfl⟩
  case round =>
    obtain ⟨k, hk, rfl, rfl⟩ := hrel
    by_cases hlt : k < xs.length
    · obtain ⟨b, off, rfl, _, ck⟩ := int_row hx k hlt
      have hy := HB.out _ (List.getElem_mem hlt)
      have htk := total_bd (fun x hx => HB.out x (List.mem_of_mem_take hx)) (xs := xs.take k)
      have hlk : (xs.take k).length ≤ 8 := by rw [List.length_take]; omega
      have HS : total (xs.take k) + xs[k] = total (xs.take (k + 1)) := by rw [List.take_succ_eq_append_getElem hlt, total_snoc]
      obtain ⟨y, hy0⟩ : ∃ y, y = xs[k] := ⟨_, rfl⟩
      obtain ⟨T, hT⟩ : ∃ T, T = total (xs.take k) := ⟨_, rfl⟩
      rw [← hy0] at hy HS ck
      rw [← hT] at htk HS
      rw [← hT]
      clear hT hy0
      have HSS := Lib.hid HS
      clear HS
      go_wp2
      go_round
      case rel => exact ⟨k + 1, by omega, by go_num, by rw [HSS.out]⟩
      case measure => simp [intOf]; omega
    · obtain rfl : k = xs.length := by omega
      go_wp2
      go_ret
      exact ⟨ret_int (by first | rfl | rw [List.take_length]), rfl⟩

end Go.Proofs.YtacbkbilbmkjnaaGreat

/-
  Ports, checked; needs.
-/
namespace Go.Proofs.YtacbkbilbmkjnaaGreat
open Go.RowKit Bal Bal.Trim Bal.Mast
set_option linter.unusedVariables false
set_option linter.unusedSimpArgs false
set_option maxHeartbeats 2000000
set_option maxRecDepth 10000
attribute [local go_sem] ite_max ite_min

theorem f_CheckPort (a : Option Addr) (c : Nat) (e : Option Addr) (d : Nat) (p : Port) (w : World) (hx : Row Axis.cells 2 w.heap.size w a p.axes) (hc : p.axes.length ≤ c) (hM : c ≤ maxLen) (hy : Row Span.cells 2 w.heap.size w e p.pulls) (hd : p.pulls.length ≤ d) (hN : d ≤ maxLen) (h1 : p.axes.length ≤ 1000000) (h2 : p.pulls.length ≤ 1000000) :
    Calls Tryz.prog 40 #[.agg #[.slice a p.axes.length c, .int .i64 p.people, .int .i64 p.most, .slice e p.pulls.length d, .int .i64 p.cross]] w fun z w' => z = .returned (.int .i64 (checkPort p)) ∧ Kept w w' := by
  unfold maxLen at hM hN
  cases hHT : turnable p.axes
  · have HT := Lib.hid hHT
    rw [show checkPort p = 72 by simp [checkPort, portB, hHT]]
    clear hHT
    go_enter Tryz.func40, Tryz.ntmps40
    go_wp2_with (first | (go_at_call 75; (with_reducible refine (f_turnable _ _ _ _ (hx.later (by (exact kpt)) (Nat.le_refl _)) h1).mono ?_); rw [HT.out]; rintro z w1 ⟨rfl, hb1⟩; refine Blk.thru (b := w.heap.size) (arr := ?_) (t := ?_) ?_ hb1 ?_; rotate_left 2; (focus (exact blk)); intro r0; have r0c0 := r0.cell 0; have r0f0 := r0.free 0; have r0c1 := r0.cell 1; have r0f1 := r0.free 1; have r0c2 := r0.cell 2; have r0f2 := r0.free 2; have r0c3 := r0.cell 3; have r0f3 := r0.free 3; have r0c4 := r0.cell 4; have r0f4 := r0.free 4; have r0l := r0.lt; simp at r0c0 r0c1 r0c2 r0c3 r0c4) | (go_at_call 43; (with_reducible refine (f_lines _ _ _ _ (hy.later (by (exact kpt)) (Nat.le_refl _)) h2).mono ?_); rw [HL.out]; rintro z w1 ⟨rfl, hb1⟩; refine Blk.thru (b := w.heap.size) (arr := ?_) (t := ?_) ?_ hb1 ?_; rotate_left 2; (focus (exact blk)); intro r0; have r0c0 := r0.cell 0; have r0f0 := r0.free 0; have r0c1 := r0.cell 1; have r0f1 := r0.free 1; have r0c2 := r0.cell 2; have r0f2 := r0.free 2; have r0c3 := r0.cell 3; have r0f3 := r0.free 3; have r0c4 := r0.cell 4; have r0f4 := r0.free 4; have r0l := r0.lt; simp at r0c0 r0c1 r0c2 r0c3 r0c4) | (go_at_call 44; (with_reducible refine (f_rangedB 0 200 p.people _ 3 _ ?_).mono ?_); (focus (exact blk)); rw [HP.out]; rintro z w1 ⟨rfl, hb1⟩; refine Blk.thru (b := w.heap.size) (arr := ?_) (t := ?_) ?_ hb1 ?_; rotate_left 2; (focus (exact blk)); intro r0; have r0c0 := r0.cell 0; have r0f0 := r0.free 0; have r0c1 := r0.cell 1; have r0f1 := r0.free 1; have r0c2 := r0.cell 2; have r0f2 := r0.free 2; have r0c3 := r0.cell 3; have r0f3 := r0.free 3; have r0c4 := r0.cell 4; have r0f4 := r0.free 4; have r0l := r0.lt; simp at r0c0 r0c1 r0c2 r0c3 r0c4) | (go_at_call 44; (with_reducible refine (f_rangedB 1 1000000 p.most _ 3 _ ?_).mono ?_); (focus (exact blk)); rw [HO.out]; rintro z w1 ⟨rfl, hb1⟩; refine Blk.thru (b := w.heap.size) (arr := ?_) (t := ?_) ?_ hb1 ?_; rotate_left 2; (focus (exact blk)); intro r0; have r0c0 := r0.cell 0; have r0f0 := r0.free 0; have r0c1 := r0.cell 1; have r0f1 := r0.free 1; have r0c2 := r0.cell 2; have r0f2 := r0.free 2; have r0c3 := r0.cell 3; have r0f3 := r0.free 3; have r0c4 := r0.cell 4; have r0f4 := r0.free 4; have r0l := r0.lt; simp at r0c0 r0c1 r0c2 r0c3 r0c4) | (go_at_call 44; (with_reducible refine (f_rangedB 0 2000 p.cross _ 3 _ ?_).mono ?_); (focus (exact blk)); rw [HC.out]; rintro z w1 ⟨rfl, hb1⟩; refine Blk.thru (b := w.heap.size) (arr := ?_) (t := ?_) ?_ hb1 ?_; rotate_left 2; (focus (exact blk)); intro r0; have r0c0 := r0.cell 0; have r0f0 := r0.free 0; have r0c1 := r0.cell 1; have r0f1 := r0.free 1; have r0c2 := r0.cell 2; have r0f2 := r0.free 2; have r0c3 := r0.cell 3; have r0f3 := r0.free 3; have r0c4 := r0.cell 4; have r0f4 := r0.free 4; have r0l := r0.lt; simp at r0c0 r0c1 r0c2 r0c3 r0c4))
    exact bodyPost_ret (v := .int .i64 72) (by simp [results, Tryz.results40, go_sem]) rfl ⟨rfl, by (exact kpt)⟩
  · skip
    cases hHL : linesB p.pulls
    · have HT := Lib.hid hHT
      have HL := Lib.hid hHL
      rw [show checkPort p = 72 by simp [checkPort, portB, hHT, hHL]]
      clear hHT hHL
      go_enter Tryz.func40, Tryz.ntmps40
      go_wp2_with (first | (go_at_call 75; (with_reducible refine (f_turnable _ _ _ _ (hx.later (by (exact kpt)) (Nat.le_refl _)) h1).mono ?_); rw [HT.out]; rintro z w1 ⟨rfl, hb1⟩; refine Blk.thru (b := w.heap.size) (arr := ?_) (t := ?_) ?_ hb1 ?_; rotate_left 2; (focus (exact blk)); intro r0; have r0c0 := r0.cell 0; have r0f0 := r0.free 0; have r0c1 := r0.cell 1; have r0f1 := r0.free 1; have r0c2 := r0.cell 2; have r0f2 := r0.free 2; have r0c3 := r0.cell 3; have r0f3 := r0.free 3; have r0c4 := r0.cell 4; have r0f4 := r0.free 4; have r0l := r0.lt; simp at r0c0 r0c1 r0c2 r0c3 r0c4) | (go_at_call 43; (with_reducible refine (f_lines _ _ _ _ (hy.later (by (exact kpt)) (Nat.le_refl _)) h2).mono ?_); rw [HL.out]; rintro z w1 ⟨rfl, hb1⟩; refine Blk.thru (b := w.heap.size) (arr := ?_) (t := ?_) ?_ hb1 ?_; rotate_left 2; (focus (exact blk)); intro r0; have r0c0 := r0.cell 0; have r0f0 := r0.free 0; have r0c1 := r0.cell 1; have r0f1 := r0.free 1; have r0c2 := r0.cell 2; have r0f2 := r0.free 2; have r0c3 := r0.cell 3; have r0f3 := r0.free 3; have r0c4 := r0.cell 4; have r0f4 := r0.free 4; have r0l := r0.lt; simp at r0c0 r0c1 r0c2 r0c3 r0c4) | (go_at_call 44; (with_reducible refine (f_rangedB 0 200 p.people _ 3 _ ?_).mono ?_); (focus (exact blk)); rw [HP.out]; rintro z w1 ⟨rfl, hb1⟩; refine Blk.thru (b := w.heap.size) (arr := ?_) (t := ?_) ?_ hb1 ?_; rotate_left 2; (focus (exact blk)); intro r0; have r0c0 := r0.cell 0; have r0f0 := r0.free 0; have r0c1 := r0.cell 1; have r0f1 := r0.free 1; have r0c2 := r0.cell 2; have r0f2 := r0.free 2; have r0c3 := r0.cell 3; have r0f3 := r0.free 3; have r0c4 := r0.cell 4; have r0f4 := r0.free 4; have r0l := r0.lt; simp at r0c0 r0c1 r0c2 r0c3 r0c4) | (go_at_call 44; (with_reducible refine (f_rangedB 1 1000000 p.most _ 3 _ ?_).mono ?_); (focus (exact blk)); rw [HO.out]; rintro z w1 ⟨rfl, hb1⟩; refine Blk.thru (b := w.heap.size) (arr := ?_) (t := ?_) ?_ hb1 ?_; rotate_left 2; (focus (exact blk)); intro r0; have r0c0 := r0.cell 0; have r0f0 := r0.free 0; have r0c1 := r0.cell 1; have r0f1 := r0.free 1; have r0c2 := r0.cell 2; have r0f2 := r0.free 2; have r0c3 := r0.cell 3; have r0f3 := r0.free 3; have r0c4 := r0.cell 4; have r0f4 := r0.free 4; have r0l := r0.lt; simp at r0c0 r0c1 r0c2 r0c3 r0c4) | (go_at_call 44; (with_reducible refine (f_rangedB 0 2000 p.cross _ 3 _ ?_).mono ?_); (focus (exact blk)); rw [HC.out]; rintro z w1 ⟨rfl, hb1⟩; refine Blk.thru (b := w.heap.size) (arr := ?_) (t := ?_) ?_ hb1 ?_; rotate_left 2; (focus (exact blk)); intro r0; have r0c0 := r0.cell 0; have r0f0 := r0.free 0; have r0c1 := r0.cell 1; have r0f1 := r0.free 1; have r0c2 := r0.cell 2; have r0f2 := r0.free 2; have r0c3 := r0.cell 3; have r0f3 := r0.free 3; have r0c4 := r0.cell 4; have r0f4 := r0.free 4; have r0l := r0.lt; simp at r0c0 r0c1 r0c2 r0c3 r0c4))
      exact bodyPost_ret (v := .int .i64 72) (by simp [results, Tryz.results40, go_sem]) rfl ⟨rfl, by (exact kpt)⟩
    · skip
      cases hHP : inB p.people 0 200
      · have HT := Lib.hid hHT
        have HL := Lib.hid hHL
        have HP := Lib.hid hHP
        rw [show checkPort p = 72 by simp [checkPort, portB, hHT, hHL, hHP]]
        clear hHT hHL hHP
        go_enter Tryz.func40, Tryz.ntmps40
        go_wp2_with (first | (go_at_call 75; (with_reducible refine (f_turnable _ _ _ _ (hx.later (by (exact kpt)) (Nat.le_refl _)) h1).mono ?_); rw [HT.out]; rintro z w1 ⟨rfl, hb1⟩; refine Blk.thru (b := w.heap.size) (arr := ?_) (t := ?_) ?_ hb1 ?_; rotate_left 2; (focus (exact blk)); intro r0; have r0c0 := r0.cell 0; have r0f0 := r0.free 0; have r0c1 := r0.cell 1; have r0f1 := r0.free 1; have r0c2 := r0.cell 2; have r0f2 := r0.free 2; have r0c3 := r0.cell 3; have r0f3 := r0.free 3; have r0c4 := r0.cell 4; have r0f4 := r0.free 4; have r0l := r0.lt; simp at r0c0 r0c1 r0c2 r0c3 r0c4) | (go_at_call 43; (with_reducible refine (f_lines _ _ _ _ (hy.later (by (exact kpt)) (Nat.le_refl _)) h2).mono ?_); rw [HL.out]; rintro z w1 ⟨rfl, hb1⟩; refine Blk.thru (b := w.heap.size) (arr := ?_) (t := ?_) ?_ hb1 ?_; rotate_left 2; (focus (exact blk)); intro r0; have r0c0 := r0.cell 0; have r0f0 := r0.free 0; have r0c1 := r0.cell 1; have r0f1 := r0.free 1; have r0c2 := r0.cell 2; have r0f2 := r0.free 2; have r0c3 := r0.cell 3; have r0f3 := r0.free 3; have r0c4 := r0.cell 4; have r0f4 := r0.free 4; have r0l := r0.lt; simp at r0c0 r0c1 r0c2 r0c3 r0c4) | (go_at_call 44; (with_reducible refine (f_rangedB 0 200 p.people _ 3 _ ?_).mono ?_); (focus (exact blk)); rw [HP.out]; rintro z w1 ⟨rfl, hb1⟩; refine Blk.thru (b := w.heap.size) (arr := ?_) (t := ?_) ?_ hb1 ?_; rotate_left 2; (focus (exact blk)); intro r0; have r0c0 := r0.cell 0; have r0f0 := r0.free 0; have r0c1 := r0.cell 1; have r0f1 := r0.free 1; have r0c2 := r0.cell 2; have r0f2 := r0.free 2; have r0c3 := r0.cell 3; have r0f3 := r0.free 3; have r0c4 := r0.cell 4; have r0f4 := r0.free 4; have r0l := r0.lt; simp at r0c0 r0c1 r0c2 r0c3 r0c4) | (go_at_call 44; (with_reducible refine (f_rangedB 1 1000000 p.most _ 3 _ ?_).mono ?_); (focus (exact blk)); rw [HO.out]; rintro z w1 ⟨rfl, hb1⟩; refine Blk.thru (b := w.heap.size) (arr := ?_) (t := ?_) ?_ hb1 ?_; rotate_left 2; (focus (exact blk)); intro r0; have r0c0 := r0.cell 0; have r0f0 := r0.free 0; have r0c1 := r0.cell 1; have r0f1 := r0.free 1; have r0c2 := r0.cell 2; have r0f2 := r0.free 2; have r0c3 := r0.cell 3; have r0f3 := r0.free 3; have r0c4 := r0.cell 4; have r0f4 := r0.free 4; have r0l := r0.lt; simp at r0c0 r0c1 r0c2 r0c3 r0c4) | (go_at_call 44; (with_reducible refine (f_rangedB 0 2000 p.cross _ 3 _ ?_).mono ?_); (focus (exact blk)); rw [HC.out]; rintro z w1 ⟨rfl, hb1⟩; refine Blk.thru (b := w.heap.size) (arr := ?_) (t := ?_) ?_ hb1 ?_; rotate_left 2; (focus (exact blk)); intro r0; have r0c0 := r0.cell 0; have r0f0 := r0.free 0; have r0c1 := r0.cell 1; have r0f1 := r0.free 1; have r0c2 := r0.cell 2; have r0f2 := r0.free 2; have r0c3 := r0.cell 3; have r0f3 := r0.free 3; have r0c4 := r0.cell 4; have r0f4 := r0.free 4; have r0l := r0.lt; simp at r0c0 r0c1 r0c2 r0c3 r0c4))
        exact bodyPost_ret (v := .int .i64 72) (by simp [results, Tryz.results40, go_sem]) rfl ⟨rfl, by (exact kpt)⟩
      · skip
        cases hHO : inB p.most 1 1000000
        · have HT := Lib.hid hHT
          have HL := Lib.hid hHL
          have HP := Lib.hid hHP
          have HO := Lib.hid hHO
          rw [show checkPort p = 72 by simp [checkPort, portB, hHT, hHL, hHP, hHO]]
          clear hHT hHL hHP hHO
          go_enter Tryz.func40, Tryz.ntmps40
          go_wp2_with (first | (go_at_call 75; (with_reducible refine (f_turnable _ _ _ _ (hx.later (by (exact kpt)) (Nat.le_refl _)) h1).mono ?_); rw [HT.out]; rintro z w1 ⟨rfl, hb1⟩; refine Blk.thru (b := w.heap.size) (arr := ?_) (t := ?_) ?_ hb1 ?_; rotate_left 2; (focus (exact blk)); intro r0; have r0c0 := r0.cell 0; have r0f0 := r0.free 0; have r0c1 := r0.cell 1; have r0f1 := r0.free 1; have r0c2 := r0.cell 2; have r0f2 := r0.free 2; have r0c3 := r0.cell 3; have r0f3 := r0.free 3; have r0c4 := r0.cell 4; have r0f4 := r0.free 4; have r0l := r0.lt; simp at r0c0 r0c1 r0c2 r0c3 r0c4) | (go_at_call 43; (with_reducible refine (f_lines _ _ _ _ (hy.later (by (exact kpt)) (Nat.le_refl _)) h2).mono ?_); rw [HL.out]; rintro z w1 ⟨rfl, hb1⟩; refine Blk.thru (b := w.heap.size) (arr := ?_) (t := ?_) ?_ hb1 ?_; rotate_left 2; (focus (exact blk)); intro r0; have r0c0 := r0.cell 0; have r0f0 := r0.free 0; have r0c1 := r0.cell 1; have r0f1 := r0.free 1; have r0c2 := r0.cell 2; have r0f2 := r0.free 2; have r0c3 := r0.cell 3; have r0f3 := r0.free 3; have r0c4 := r0.cell 4; have r0f4 := r0.free 4; have r0l := r0.lt; simp at r0c0 r0c1 r0c2 r0c3 r0c4) | (go_at_call 44; (with_reducible refine (f_rangedB 0 200 p.people _ 3 _ ?_).mono ?_); (focus (exact blk)); rw [HP.out]; rintro z w1 ⟨rfl, hb1⟩; refine Blk.thru (b := w.heap.size) (arr := ?_) (t := ?_) ?_ hb1 ?_; rotate_left 2; (focus (exact blk)); intro r0; have r0c0 := r0.cell 0; have r0f0 := r0.free 0; have r0c1 := r0.cell 1; have r0f1 := r0.free 1; have r0c2 := r0.cell 2; have r0f2 := r0.free 2; have r0c3 := r0.cell 3; have r0f3 := r0.free 3; have r0c4 := r0.cell 4; have r0f4 := r0.free 4; have r0l := r0.lt; simp at r0c0 r0c1 r0c2 r0c3 r0c4) | (go_at_call 44; (with_reducible refine (f_rangedB 1 1000000 p.most _ 3 _ ?_).mono ?_); (focus (exact blk)); rw [HO.out]; rintro z w1 ⟨rfl, hb1⟩; refine Blk.thru (b := w.heap.size) (arr := ?_) (t := ?_) ?_ hb1 ?_; rotate_left 2; (focus (exact blk)); intro r0; have r0c0 := r0.cell 0; have r0f0 := r0.free 0; have r0c1 := r0.cell 1; have r0f1 := r0.free 1; have r0c2 := r0.cell 2; have r0f2 := r0.free 2; have r0c3 := r0.cell 3; have r0f3 := r0.free 3; have r0c4 := r0.cell 4; have r0f4 := r0.free 4; have r0l := r0.lt; simp at r0c0 r0c1 r0c2 r0c3 r0c4) | (go_at_call 44; (with_reducible refine (f_rangedB 0 2000 p.cross _ 3 _ ?_).mono ?_); (focus (exact blk)); rw [HC.out]; rintro z w1 ⟨rfl, hb1⟩; refine Blk.thru (b := w.heap.size) (arr := ?_) (t := ?_) ?_ hb1 ?_; rotate_left 2; (focus (exact blk)); intro r0; have r0c0 := r0.cell 0; have r0f0 := r0.free 0; have r0c1 := r0.cell 1; have r0f1 := r0.free 1; have r0c2 := r0.cell 2; have r0f2 := r0.free 2; have r0c3 := r0.cell 3; have r0f3 := r0.free 3; have r0c4 := r0.cell 4; have r0f4 := r0.free 4; have r0l := r0.lt; simp at r0c0 r0c1 r0c2 r0c3 r0c4))
          exact bodyPost_ret (v := .int .i64 72) (by simp [results, Tryz.results40, go_sem]) rfl ⟨rfl, by (exact kpt)⟩
        · skip
          cases hHC : inB p.cross 0 2000
          · have HT := Lib.hid hHT
            have HL := Lib.hid hHL
            have HP := Lib.hid hHP
            have HO := Lib.hid hHO
            have HC := Lib.hid hHC
            rw [show checkPort p = 72 by simp [checkPort, portB, hHT, hHL, hHP, hHO, hHC]]
            clear hHT hHL hHP hHO hHC
            go_enter Tryz.func40, Tryz.ntmps40
            go_wp2_with (first | (go_at_call 75; (with_reducible refine (f_turnable _ _ _ _ (hx.later (by (exact kpt)) (Nat.le_refl _)) h1).mono ?_); rw [HT.out]; rintro z w1 ⟨rfl, hb1⟩; refine Blk.thru (b := w.heap.size) (arr := ?_) (t := ?_) ?_ hb1 ?_; rotate_left 2; (focus (exact blk)); intro r0; have r0c0 := r0.cell 0; have r0f0 := r0.free 0; have r0c1 := r0.cell 1; have r0f1 := r0.free 1; have r0c2 := r0.cell 2; have r0f2 := r0.free 2; have r0c3 := r0.cell 3; have r0f3 := r0.free 3; have r0c4 := r0.cell 4; have r0f4 := r0.free 4; have r0l := r0.lt; simp at r0c0 r0c1 r0c2 r0c3 r0c4) | (go_at_call 43; (with_reducible refine (f_lines _ _ _ _ (hy.later (by (exact kpt)) (Nat.le_refl _)) h2).mono ?_); rw [HL.out]; rintro z w1 ⟨rfl, hb1⟩; refine Blk.thru (b := w.heap.size) (arr := ?_) (t := ?_) ?_ hb1 ?_; rotate_left 2; (focus (exact blk)); intro r0; have r0c0 := r0.cell 0; have r0f0 := r0.free 0; have r0c1 := r0.cell 1; have r0f1 := r0.free 1; have r0c2 := r0.cell 2; have r0f2 := r0.free 2; have r0c3 := r0.cell 3; have r0f3 := r0.free 3; have r0c4 := r0.cell 4; have r0f4 := r0.free 4; have r0l := r0.lt; simp at r0c0 r0c1 r0c2 r0c3 r0c4) | (go_at_call 44; (with_reducible refine (f_rangedB 0 200 p.people _ 3 _ ?_).mono ?_); (focus (exact blk)); rw [HP.out]; rintro z w1 ⟨rfl, hb1⟩; refine Blk.thru (b := w.heap.size) (arr := ?_) (t := ?_) ?_ hb1 ?_; rotate_left 2; (focus (exact blk)); intro r0; have r0c0 := r0.cell 0; have r0f0 := r0.free 0; have r0c1 := r0.cell 1; have r0f1 := r0.free 1; have r0c2 := r0.cell 2; have r0f2 := r0.free 2; have r0c3 := r0.cell 3; have r0f3 := r0.free 3; have r0c4 := r0.cell 4; have r0f4 := r0.free 4; have r0l := r0.lt; simp at r0c0 r0c1 r0c2 r0c3 r0c4) | (go_at_call 44; (with_reducible refine (f_rangedB 1 1000000 p.most _ 3 _ ?_).mono ?_); (focus (exact blk)); rw [HO.out]; rintro z w1 ⟨rfl, hb1⟩; refine Blk.thru (b := w.heap.size) (arr := ?_) (t := ?_) ?_ hb1 ?_; rotate_left 2; (focus (exact blk)); intro r0; have r0c0 := r0.cell 0; have r0f0 := r0.free 0; have r0c1 := r0.cell 1; have r0f1 := r0.free 1; have r0c2 := r0.cell 2; have r0f2 := r0.free 2; have r0c3 := r0.cell 3; have r0f3 := r0.free 3; have r0c4 := r0.cell 4; have r0f4 := r0.free 4; have r0l := r0.lt; simp at r0c0 r0c1 r0c2 r0c3 r0c4) | (go_at_call 44; (with_reducible refine (f_rangedB 0 2000 p.cross _ 3 _ ?_).mono ?_); (focus (exact blk)); rw [HC.out]; rintro z w1 ⟨rfl, hb1⟩; refine Blk.thru (b := w.heap.size) (arr := ?_) (t := ?_) ?_ hb1 ?_; rotate_left 2; (focus (exact blk)); intro r0; have r0c0 := r0.cell 0; have r0f0 := r0.free 0; have r0c1 := r0.cell 1; have r0f1 := r0.free 1; have r0c2 := r0.cell 2; have r0f2 := r0.free 2; have r0c3 := r0.cell 3; have r0f3 := r0.free 3; have r0c4 := r0.cell 4; have r0f4 := r0.free 4; have r0l := r0.lt; simp at r0c0 r0c1 r0c2 r0c3 r0c4))
            exact bodyPost_ret (v := .int .i64 72) (by simp [results, Tryz.results40, go_sem]) rfl ⟨rfl, by (exact kpt)⟩
          · have HT := Lib.hid hHT
            have HL := Lib.hid hHL
            have HP := Lib.hid hHP
            have HO := Lib.hid hHO
            have HC := Lib.hid hHC
            rw [show checkPort p = 0 by simp [checkPort, portB, hHT, hHL, hHP, hHO, hHC]]
            clear hHT hHL hHP hHO hHC
            go_enter Tryz.func40, Tryz.ntmps40
            go_wp2_with (first | (go_at_call 75; (with_reducible refine (f_turnable _ _ _ _ (hx.later (by (exact kpt)) (Nat.le_refl _)) h1).mono ?_); rw [HT.out]; rintro z w1 ⟨rfl, hb1⟩; refine Blk.thru (b := w.heap.size) (arr := ?_) (t := ?_) ?_ hb1 ?_; rotate_left 2; (focus (exact blk)); intro r0; have r0c0 := r0.cell 0; have r0f0 := r0.free 0; have r0c1 := r0.cell 1; have r0f1 := r0.free 1; have r0c2 := r0.cell 2; have r0f2 := r0.free 2; have r0c3 := r0.cell 3; have r0f3 := r0.free 3; have r0c4 := r0.cell 4; have r0f4 := r0.free 4; have r0l := r0.lt; simp at r0c0 r0c1 r0c2 r0c3 r0c4) | (go_at_call 43; (with_reducible refine (f_lines _ _ _ _ (hy.later (by (exact kpt)) (Nat.le_refl _)) h2).mono ?_); rw [HL.out]; rintro z w1 ⟨rfl, hb1⟩; refine Blk.thru (b := w.heap.size) (arr := ?_) (t := ?_) ?_ hb1 ?_; rotate_left 2; (focus (exact blk)); intro r0; have r0c0 := r0.cell 0; have r0f0 := r0.free 0; have r0c1 := r0.cell 1; have r0f1 := r0.free 1; have r0c2 := r0.cell 2; have r0f2 := r0.free 2; have r0c3 := r0.cell 3; have r0f3 := r0.free 3; have r0c4 := r0.cell 4; have r0f4 := r0.free 4; have r0l := r0.lt; simp at r0c0 r0c1 r0c2 r0c3 r0c4) | (go_at_call 44; (with_reducible refine (f_rangedB 0 200 p.people _ 3 _ ?_).mono ?_); (focus (exact blk)); rw [HP.out]; rintro z w1 ⟨rfl, hb1⟩; refine Blk.thru (b := w.heap.size) (arr := ?_) (t := ?_) ?_ hb1 ?_; rotate_left 2; (focus (exact blk)); intro r0; have r0c0 := r0.cell 0; have r0f0 := r0.free 0; have r0c1 := r0.cell 1; have r0f1 := r0.free 1; have r0c2 := r0.cell 2; have r0f2 := r0.free 2; have r0c3 := r0.cell 3; have r0f3 := r0.free 3; have r0c4 := r0.cell 4; have r0f4 := r0.free 4; have r0l := r0.lt; simp at r0c0 r0c1 r0c2 r0c3 r0c4) | (go_at_call 44; (with_reducible refine (f_rangedB 1 1000000 p.most _ 3 _ ?_).mono ?_); (focus (exact blk)); rw [HO.out]; rintro z w1 ⟨rfl, hb1⟩; refine Blk.thru (b := w.heap.size) (arr := ?_) (t := ?_) ?_ hb1 ?_; rotate_left 2; (focus (exact blk)); intro r0; have r0c0 := r0.cell 0; have r0f0 := r0.free 0; have r0c1 := r0.cell 1; have r0f1 := r0.free 1; have r0c2 := r0.cell 2; have r0f2 := r0.free 2; have r0c3 := r0.cell 3; have r0f3 := r0.free 3; have r0c4 := r0.cell 4; have r0f4 := r0.free 4; have r0l := r0.lt; simp at r0c0 r0c1 r0c2 r0c3 r0c4) | (go_at_call 44; (with_reducible refine (f_rangedB 0 2000 p.cross _ 3 _ ?_).mono ?_); (focus (exact blk)); rw [HC.out]; rintro z w1 ⟨rfl, hb1⟩; refine Blk.thru (b := w.heap.size) (arr := ?_) (t := ?_) ?_ hb1 ?_; rotate_left 2; (focus (exact blk)); intro r0; have r0c0 := r0.cell 0; have r0f0 := r0.free 0; have r0c1 := r0.cell 1; have r0f1 := r0.free 1; have r0c2 := r0.cell 2; have r0f2 := r0.free 2; have r0c3 := r0.cell 3; have r0f3 := r0.free 3; have r0c4 := r0.cell 4; have r0f4 := r0.free 4; have r0l := r0.lt; simp at r0c0 r0c1 r0c2 r0c3 r0c4))
            exact bodyPost_ret (v := .int .i64 0) (by simp [results, Tryz.results40, go_sem]) rfl ⟨rfl, by (exact kpt)⟩

theorem r_Port (a : Option Addr) (c : Nat) (e : Option Addr) (d : Nat) (p : Port) (w : World) (hx : Row Axis.cells 2 w.heap.size w a p.axes) (hc : p.axes.length ≤ c) (hM : c ≤ maxLen) (hy : Row Span.cells 2 w.heap.size w e p.pulls) (hd : p.pulls.length ≤ d) (hN : d ≤ maxLen) (h1 : p.axes.length ≤ 1000000) (h2 : p.pulls.length ≤ 1000000) :
    Calls Tryz.prog 46 #[.agg #[.slice a p.axes.length c, .int .i64 p.people, .int .i64 p.most, .slice e p.pulls.length d, .int .i64 p.cross]] w fun z w' => z = .returned (.bool (portB p)) ∧ Kept w w' := by
  unfold maxLen at hM hN
  cases hHT : turnable p.axes
  · have HT := Lib.hid hHT
    rw [show portB p = false by simp [checkPort, portB, hHT]]
    clear hHT
    go_enter Tryz.func46, Tryz.ntmps46
    go_wp2_with (first | (go_at_call 79; (with_reducible refine (r_axes _ _ _ _ (hx.later (by (exact kpt)) (Nat.le_refl _)) h1).mono ?_); rw [HT.out]; rintro z w1 ⟨rfl, hb1⟩; refine Blk.thru (b := w.heap.size) (arr := ?_) (t := ?_) ?_ hb1 ?_; rotate_left 2; (focus (exact blk)); intro r0; have r0c0 := r0.cell 0; have r0f0 := r0.free 0; have r0c1 := r0.cell 1; have r0f1 := r0.free 1; have r0c2 := r0.cell 2; have r0f2 := r0.free 2; have r0c3 := r0.cell 3; have r0f3 := r0.free 3; have r0c4 := r0.cell 4; have r0f4 := r0.free 4; have r0l := r0.lt; simp at r0c0 r0c1 r0c2 r0c3 r0c4) | (go_at_call 80; (with_reducible refine (r_pulls _ _ _ _ (hy.later (by (exact kpt)) (Nat.le_refl _)) h2).mono ?_); rw [HL.out]; rintro z w1 ⟨rfl, hb1⟩; refine Blk.thru (b := w.heap.size) (arr := ?_) (t := ?_) ?_ hb1 ?_; rotate_left 2; (focus (exact blk)); intro r0; have r0c0 := r0.cell 0; have r0f0 := r0.free 0; have r0c1 := r0.cell 1; have r0f1 := r0.free 1; have r0c2 := r0.cell 2; have r0f2 := r0.free 2; have r0c3 := r0.cell 3; have r0f3 := r0.free 3; have r0c4 := r0.cell 4; have r0f4 := r0.free 4; have r0l := r0.lt; simp at r0c0 r0c1 r0c2 r0c3 r0c4) | (go_at_call 65; (with_reducible refine (r_within p.people 0 200 _).mono ?_); rw [HP.out]; rintro z w1 ⟨rfl, rfl⟩) | (go_at_call 65; (with_reducible refine (r_within p.most 1 1000000 _).mono ?_); rw [HO.out]; rintro z w1 ⟨rfl, rfl⟩) | (go_at_call 65; (with_reducible refine (r_within p.cross 0 2000 _).mono ?_); rw [HC.out]; rintro z w1 ⟨rfl, rfl⟩))
    exact bodyPost_ret (v := .bool false) (by simp [results, Tryz.results46, go_sem]) rfl ⟨rfl, by (exact kpt)⟩
  · skip
    cases hHP : inB p.people 0 200
    · have HT := Lib.hid hHT
      have HP := Lib.hid hHP
      rw [show portB p = false by simp [checkPort, portB, hHT, hHP]]
      clear hHT hHP
      go_enter Tryz.func46, Tryz.ntmps46
      go_wp2_with (first | (go_at_call 79; (with_reducible refine (r_axes _ _ _ _ (hx.later (by (exact kpt)) (Nat.le_refl _)) h1).mono ?_); rw [HT.out]; rintro z w1 ⟨rfl, hb1⟩; refine Blk.thru (b := w.heap.size) (arr := ?_) (t := ?_) ?_ hb1 ?_; rotate_left 2; (focus (exact blk)); intro r0; have r0c0 := r0.cell 0; have r0f0 := r0.free 0; have r0c1 := r0.cell 1; have r0f1 := r0.free 1; have r0c2 := r0.cell 2; have r0f2 := r0.free 2; have r0c3 := r0.cell 3; have r0f3 := r0.free 3; have r0c4 := r0.cell 4; have r0f4 := r0.free 4; have r0l := r0.lt; simp at r0c0 r0c1 r0c2 r0c3 r0c4) | (go_at_call 80; (with_reducible refine (r_pulls _ _ _ _ (hy.later (by (exact kpt)) (Nat.le_refl _)) h2).mono ?_); rw [HL.out]; rintro z w1 ⟨rfl, hb1⟩; refine Blk.thru (b := w.heap.size) (arr := ?_) (t := ?_) ?_ hb1 ?_; rotate_left 2; (focus (exact blk)); intro r0; have r0c0 := r0.cell 0; have r0f0 := r0.free 0; have r0c1 := r0.cell 1; have r0f1 := r0.free 1; have r0c2 := r0.cell 2; have r0f2 := r0.free 2; have r0c3 := r0.cell 3; have r0f3 := r0.free 3; have r0c4 := r0.cell 4; have r0f4 := r0.free 4; have r0l := r0.lt; simp at r0c0 r0c1 r0c2 r0c3 r0c4) | (go_at_call 65; (with_reducible refine (r_within p.people 0 200 _).mono ?_); rw [HP.out]; rintro z w1 ⟨rfl, rfl⟩) | (go_at_call 65; (with_reducible refine (r_within p.most 1 1000000 _).mono ?_); rw [HO.out]; rintro z w1 ⟨rfl, rfl⟩) | (go_at_call 65; (with_reducible refine (r_within p.cross 0 2000 _).mono ?_); rw [HC.out]; rintro z w1 ⟨rfl, rfl⟩))
      exact bodyPost_ret (v := .bool false) (by simp [results, Tryz.results46, go_sem]) rfl ⟨rfl, by (exact kpt)⟩
    · skip
      cases hHO : inB p.most 1 1000000
      · have HT := Lib.hid hHT
        have HP := Lib.hid hHP
        have HO := Lib.hid hHO
        rw [show portB p = false by simp [checkPort, portB, hHT, hHP, hHO]]
        clear hHT hHP hHO
        go_enter Tryz.func46, Tryz.ntmps46
        go_wp2_with (first | (go_at_call 79; (with_reducible refine (r_axes _ _ _ _ (hx.later (by (exact kpt)) (Nat.le_refl _)) h1).mono ?_); rw [HT.out]; rintro z w1 ⟨rfl, hb1⟩; refine Blk.thru (b := w.heap.size) (arr := ?_) (t := ?_) ?_ hb1 ?_; rotate_left 2; (focus (exact blk)); intro r0; have r0c0 := r0.cell 0; have r0f0 := r0.free 0; have r0c1 := r0.cell 1; have r0f1 := r0.free 1; have r0c2 := r0.cell 2; have r0f2 := r0.free 2; have r0c3 := r0.cell 3; have r0f3 := r0.free 3; have r0c4 := r0.cell 4; have r0f4 := r0.free 4; have r0l := r0.lt; simp at r0c0 r0c1 r0c2 r0c3 r0c4) | (go_at_call 80; (with_reducible refine (r_pulls _ _ _ _ (hy.later (by (exact kpt)) (Nat.le_refl _)) h2).mono ?_); rw [HL.out]; rintro z w1 ⟨rfl, hb1⟩; refine Blk.thru (b := w.heap.size) (arr := ?_) (t := ?_) ?_ hb1 ?_; rotate_left 2; (focus (exact blk)); intro r0; have r0c0 := r0.cell 0; have r0f0 := r0.free 0; have r0c1 := r0.cell 1; have r0f1 := r0.free 1; have r0c2 := r0.cell 2; have r0f2 := r0.free 2; have r0c3 := r0.cell 3; have r0f3 := r0.free 3; have r0c4 := r0.cell 4; have r0f4 := r0.free 4; have r0l := r0.lt; simp at r0c0 r0c1 r0c2 r0c3 r0c4) | (go_at_call 65; (with_reducible refine (r_within p.people 0 200 _).mono ?_); rw [HP.out]; rintro z w1 ⟨rfl, rfl⟩) | (go_at_call 65; (with_reducible refine (r_within p.most 1 1000000 _).mono ?_); rw [HO.out]; rintro z w1 ⟨rfl, rfl⟩) | (go_at_call 65; (with_reducible refine (r_within p.cross 0 2000 _).mono ?_); rw [HC.out]; rintro z w1 ⟨rfl, rfl⟩))
        exact bodyPost_ret (v := .bool false) (by simp [results, Tryz.results46, go_sem]) rfl ⟨rfl, by (exact kpt)⟩
      · skip
        cases hHL : linesB p.pulls
        · have HT := Lib.hid hHT
          have HP := Lib.hid hHP
          have HO := Lib.hid hHO
          have HL := Lib.hid hHL
          rw [show portB p = false by simp [checkPort, portB, hHT, hHP, hHO, hHL]]
          clear hHT hHP hHO hHL
          go_enter Tryz.func46, Tryz.ntmps46
          go_wp2_with (first | (go_at_call 79; (with_reducible refine (r_axes _ _ _ _ (hx.later (by (exact kpt)) (Nat.le_refl _)) h1).mono ?_); rw [HT.out]; rintro z w1 ⟨rfl, hb1⟩; refine Blk.thru (b := w.heap.size) (arr := ?_) (t := ?_) ?_ hb1 ?_; rotate_left 2; (focus (exact blk)); intro r0; have r0c0 := r0.cell 0; have r0f0 := r0.free 0; have r0c1 := r0.cell 1; have r0f1 := r0.free 1; have r0c2 := r0.cell 2; have r0f2 := r0.free 2; have r0c3 := r0.cell 3; have r0f3 := r0.free 3; have r0c4 := r0.cell 4; have r0f4 := r0.free 4; have r0l := r0.lt; simp at r0c0 r0c1 r0c2 r0c3 r0c4) | (go_at_call 80; (with_reducible refine (r_pulls _ _ _ _ (hy.later (by (exact kpt)) (Nat.le_refl _)) h2).mono ?_); rw [HL.out]; rintro z w1 ⟨rfl, hb1⟩; refine Blk.thru (b := w.heap.size) (arr := ?_) (t := ?_) ?_ hb1 ?_; rotate_left 2; (focus (exact blk)); intro r0; have r0c0 := r0.cell 0; have r0f0 := r0.free 0; have r0c1 := r0.cell 1; have r0f1 := r0.free 1; have r0c2 := r0.cell 2; have r0f2 := r0.free 2; have r0c3 := r0.cell 3; have r0f3 := r0.free 3; have r0c4 := r0.cell 4; have r0f4 := r0.free 4; have r0l := r0.lt; simp at r0c0 r0c1 r0c2 r0c3 r0c4) | (go_at_call 65; (with_reducible refine (r_within p.people 0 200 _).mono ?_); rw [HP.out]; rintro z w1 ⟨rfl, rfl⟩) | (go_at_call 65; (with_reducible refine (r_within p.most 1 1000000 _).mono ?_); rw [HO.out]; rintro z w1 ⟨rfl, rfl⟩) | (go_at_call 65; (with_reducible refine (r_within p.cross 0 2000 _).mono ?_); rw [HC.out]; rintro z w1 ⟨rfl, rfl⟩))
          exact bodyPost_ret (v := .bool false) (by simp [results, Tryz.results46, go_sem]) rfl ⟨rfl, by (exact kpt)⟩
        · skip
          cases hHC : inB p.cross 0 2000
          · have HT := Lib.hid hHT
            have HP := Lib.hid hHP
            have HO := Lib.hid hHO
            have HL := Lib.hid hHL
            have HC := Lib.hid hHC
            rw [show portB p = false by simp [checkPort, portB, hHT, hHP, hHO, hHL, hHC]]
            clear hHT hHP hHO hHL hHC
            go_enter Tryz.func46, Tryz.ntmps46
            go_wp2_with (first | (go_at_call 79; (with_reducible refine (r_axes _ _ _ _ (hx.later (by (exact kpt)) (Nat.le_refl _)) h1).mono ?_); rw [HT.out]; rintro z w1 ⟨rfl, hb1⟩; refine Blk.thru (b := w.heap.size) (arr := ?_) (t := ?_) ?_ hb1 ?_; rotate_left 2; (focus (exact blk)); intro r0; have r0c0 := r0.cell 0; have r0f0 := r0.free 0; have r0c1 := r0.cell 1; have r0f1 := r0.free 1; have r0c2 := r0.cell 2; have r0f2 := r0.free 2; have r0c3 := r0.cell 3; have r0f3 := r0.free 3; have r0c4 := r0.cell 4; have r0f4 := r0.free 4; have r0l := r0.lt; simp at r0c0 r0c1 r0c2 r0c3 r0c4) | (go_at_call 80; (with_reducible refine (r_pulls _ _ _ _ (hy.later (by (exact kpt)) (Nat.le_refl _)) h2).mono ?_); rw [HL.out]; rintro z w1 ⟨rfl, hb1⟩; refine Blk.thru (b := w.heap.size) (arr := ?_) (t := ?_) ?_ hb1 ?_; rotate_left 2; (focus (exact blk)); intro r0; have r0c0 := r0.cell 0; have r0f0 := r0.free 0; have r0c1 := r0.cell 1; have r0f1 := r0.free 1; have r0c2 := r0.cell 2; have r0f2 := r0.free 2; have r0c3 := r0.cell 3; have r0f3 := r0.free 3; have r0c4 := r0.cell 4; have r0f4 := r0.free 4; have r0l := r0.lt; simp at r0c0 r0c1 r0c2 r0c3 r0c4) | (go_at_call 65; (with_reducible refine (r_within p.people 0 200 _).mono ?_); rw [HP.out]; rintro z w1 ⟨rfl, rfl⟩) | (go_at_call 65; (with_reducible refine (r_within p.most 1 1000000 _).mono ?_); rw [HO.out]; rintro z w1 ⟨rfl, rfl⟩) | (go_at_call 65; (with_reducible refine (r_within p.cross 0 2000 _).mono ?_); rw [HC.out]; rintro z w1 ⟨rfl, rfl⟩))
            exact bodyPost_ret (v := .bool false) (by simp [results, Tryz.results46, go_sem]) rfl ⟨rfl, by (exact kpt)⟩
          · have HT := Lib.hid hHT
            have HP := Lib.hid hHP
            have HO := Lib.hid hHO
            have HL := Lib.hid hHL
            have HC := Lib.hid hHC
            rw [show portB p = true by simp [checkPort, portB, hHT, hHP, hHO, hHL, hHC]]
            clear hHT hHP hHO hHL hHC
            go_enter Tryz.func46, Tryz.ntmps46
            go_wp2_with (first | (go_at_call 79; (with_reducible refine (r_axes _ _ _ _ (hx.later (by (exact kpt)) (Nat.le_refl _)) h1).mono ?_); rw [HT.out]; rintro z w1 ⟨rfl, hb1⟩; refine Blk.thru (b := w.heap.size) (arr := ?_) (t := ?_) ?_ hb1 ?_; rotate_left 2; (focus (exact blk)); intro r0; have r0c0 := r0.cell 0; have r0f0 := r0.free 0; have r0c1 := r0.cell 1; have r0f1 := r0.free 1; have r0c2 := r0.cell 2; have r0f2 := r0.free 2; have r0c3 := r0.cell 3; have r0f3 := r0.free 3; have r0c4 := r0.cell 4; have r0f4 := r0.free 4; have r0l := r0.lt; simp at r0c0 r0c1 r0c2 r0c3 r0c4) | (go_at_call 80; (with_reducible refine (r_pulls _ _ _ _ (hy.later (by (exact kpt)) (Nat.le_refl _)) h2).mono ?_); rw [HL.out]; rintro z w1 ⟨rfl, hb1⟩; refine Blk.thru (b := w.heap.size) (arr := ?_) (t := ?_) ?_ hb1 ?_; rotate_left 2; (focus (exact blk)); intro r0; have r0c0 := r0.cell 0; have r0f0 := r0.free 0; have r0c1 := r0.cell 1; have r0f1 := r0.free 1; have r0c2 := r0.cell 2; have r0f2 := r0.free 2; have r0c3 := r0.cell 3; have r0f3 := r0.free 3; have r0c4 := r0.cell 4; have r0f4 := r0.free 4; have r0l := r0.lt; simp at r0c0 r0c1 r0c2 r0c3 r0c4) | (go_at_call 65; (with_reducible refine (r_within p.people 0 200 _).mono ?_); rw [HP.out]; rintro z w1 ⟨rfl, rfl⟩) | (go_at_call 65; (with_reducible refine (r_within p.most 1 1000000 _).mono ?_); rw [HO.out]; rintro z w1 ⟨rfl, rfl⟩) | (go_at_call 65; (with_reducible refine (r_within p.cross 0 2000 _).mono ?_); rw [HC.out]; rintro z w1 ⟨rfl, rfl⟩))
            exact bodyPost_ret (v := .bool true) (by simp [results, Tryz.results46, go_sem]) rfl ⟨rfl, by (exact kpt)⟩

theorem f_need (a : Option Addr) (c : Nat) (e : Option Addr) (d : Nat) (p : Port) (w : World) (hx : Row Axis.cells 2 w.heap.size w a p.axes) (hc : p.axes.length ≤ c) (hM : c ≤ maxLen) (hy : Row Span.cells 2 w.heap.size w e p.pulls) (hd : p.pulls.length ≤ d) (hN : d ≤ maxLen) (h1 : p.axes.length ≤ 1000000) (h2 : p.pulls.length ≤ 1000000) (hp : portB p = true) :
    Calls Tryz.prog 51 #[.agg #[.slice a p.axes.length c, .int .i64 p.people, .int .i64 p.most, .slice e p.pulls.length d, .int .i64 p.cross]] w fun z w' => z = .returned (.int .i64 (needP p)) ∧ Kept w w' := by
  obtain ⟨_, hl, _, ho, _⟩ := portB_parts hp
  obtain ⟨h8, hv⟩ := linesB_parts hl
  obtain ⟨hm1, hm2⟩ := inB_iff.1 ho
  have HV := Lib.hid (show ∀ s ∈ p.pulls, lineB s = true from hv)
  clear hv hp hl ho
  unfold maxLen at hN
  go_enter Tryz.func51, Tryz.ntmps51
  go_wp2_with (go_at_call 45; (with_reducible refine (f_needed e d p.pulls p.most _ (hy.later (by (exact kpt)) (Nat.le_refl _)) h8 HV.out hm1 hm2).mono ?_); rintro z w1 ⟨v, rfl, hv, hb1⟩)
  exact bodyPost_ret (v := .int .i64 (needP p)) (by simp [results, Tryz.results51, go_sem, needP]) rfl ⟨rfl, by (exact kpt)⟩
theorem r_Need (a : Option Addr) (c : Nat) (e : Option Addr) (d : Nat) (p : Port) (w : World) (hx : Row Axis.cells 2 w.heap.size w a p.axes) (hc : p.axes.length ≤ c) (hM : c ≤ maxLen) (hy : Row Span.cells 2 w.heap.size w e p.pulls) (hd : p.pulls.length ≤ d) (hN : d ≤ maxLen) (h1 : p.axes.length ≤ 1000000) (h2 : p.pulls.length ≤ 1000000) (hp : portB p = true) :
    Calls Tryz.prog 47 #[.agg #[.slice a p.axes.length c, .int .i64 p.people, .int .i64 p.most, .slice e p.pulls.length d, .int .i64 p.cross]] w fun z w' => z = .returned (.int .i64 (needP p)) ∧ Kept w w' := by
  obtain ⟨_, hl, _, ho, _⟩ := portB_parts hp
  obtain ⟨h8, hv⟩ := linesB_parts hl
  obtain ⟨hm1, hm2⟩ := inB_iff.1 ho
  have HV := Lib.hid (show ∀ s ∈ p.pulls, lineB s = true from hv)
  have HNL := Lib.hid (show (needs p.most p.pulls).length ≤ 8 by rw [needs_len]; exact h8)
  have HNB := Lib.hid (needs_bd hm1 hv)
  clear hv hp hl ho
  unfold maxLen at hN
  go_enter Tryz.func47, Tryz.ntmps47
  go_wp2_with (first | (go_at_call 82; (with_reducible refine (r_needs e d p.pulls p.most _ (hy.later (by (exact kpt)) (Nat.le_refl _)) h8 HV.out hm1 hm2).mono ?_); rintro z w1 ⟨v, rfl, hv, hb1⟩; obtain ⟨an, cn, rfl, hn1, hn2, hn3⟩ := owns_row (enc := icell) (k := 1) (fun _ => rfl) hv) | (go_at_call 81; (with_reducible refine (r_total _ _ _ _ hn1 HNL.out HNB.out).mono ?_); rintro z w2 ⟨rfl, rfl⟩))
  exact bodyPost_ret (v := .int .i64 (needP p)) (by first | (simp [results, Tryz.results47, go_sem, needP]; done) | (simp [results, Tryz.results47, go_sem, needP]; omega)) rfl ⟨rfl, by (exact kpt)⟩

end Go.Proofs.YtacbkbilbmkjnaaGreat

/-
  Berths, checked.
-/
namespace Go.Proofs.YtacbkbilbmkjnaaGreat
open Go.RowKit Bal Bal.Trim Bal.Mast
set_option linter.unusedVariables false
set_option linter.unusedSimpArgs false
set_option maxHeartbeats 4000000
set_option maxRecDepth 10000

theorem f_CheckBerth (a : Option Addr) (c : Nat) (e : Option Addr) (d : Nat) (p : Port) (w : World) (hx : Row Axis.cells 2 w.heap.size w a p.axes) (hc : p.axes.length ≤ c) (hM : c ≤ maxLen) (hy : Row Span.cells 2 w.heap.size w e p.pulls) (hd : p.pulls.length ≤ d) (hN : d ≤ maxLen) (h1 : p.axes.length ≤ 1000000) (h2 : p.pulls.length ≤ 1000000) (b : Berth) (hs0 : 0 ≤ b.ship) :
    Calls Tryz.prog 24 #[.agg #[.slice a p.axes.length c, .int .i64 p.people, .int .i64 p.most, .slice e p.pulls.length d, .int .i64 p.cross], .agg #[.int .u8 b.ship, .int .i64 b.axis, .int .i64 b.held, .bool b.wire, .bool b.opn]] w fun z w' => z = .returned (.int .i64 (checkBerth p b)) ∧ Kept w w' := by
  have hM' := hM
  have hN' := hN
  unfold maxLen at hM' hN'
  cases hp : portB p
  · have HPC := Lib.hid (show checkPort p = 72 by simp [checkPort, hp])
    rw [show checkBerth p b = 72 by simp [checkBerth, hp]]
    clear hp
    go_enter Tryz.func24, Tryz.ntmps24
    go_wp2_with (go_at_call 40; (with_reducible refine (f_CheckPort a c e d p _ (hx.later (by (exact kpt)) (Nat.le_refl _)) hc hM (hy.later (by (exact kpt)) (Nat.le_refl _)) hd hN h1 h2).mono ?_); rw [show checkPort p = 72 from HPC.out]; rintro z w1 ⟨rfl, hb1⟩; refine Blk.thru (b := w.heap.size) (arr := ?_) (t := ?_) ?_ hb1 ?_; rotate_left 2; (focus (exact blk)); intro r0; have r0c0 := r0.cell 0; have r0f0 := r0.free 0; have r0c1 := r0.cell 1; have r0f1 := r0.free 1; have r0c2 := r0.cell 2; have r0f2 := r0.free 2; have r0c3 := r0.cell 3; have r0f3 := r0.free 3; have r0c4 := r0.cell 4; have r0f4 := r0.free 4; have r0l := r0.lt; simp at r0c0 r0c1 r0c2 r0c3 r0c4; refine Blk.thru (b := (w.heap.size + 1)) (arr := ?_) (t := ?_) ?_ hb1 ?_; rotate_left 2; (focus (exact blk)); intro r1; have r1c0 := r1.cell 0; have r1f0 := r1.free 0; have r1c1 := r1.cell 1; have r1f1 := r1.free 1; have r1c2 := r1.cell 2; have r1f2 := r1.free 2; have r1c3 := r1.cell 3; have r1f3 := r1.free 3; have r1c4 := r1.cell 4; have r1f4 := r1.free 4; have r1l := r1.lt; simp at r1c0 r1c1 r1c2 r1c3 r1c4)
    exact bodyPost_ret (v := .int .i64 72) (by simp [results, Tryz.results24, go_sem]) rfl ⟨rfl, by (exact kpt)⟩
  have HPC := Lib.hid (show checkPort p = 0 by simp [checkPort, hp])
  have hbd := portB_bd hp
  have hnd := needP_bd hp
  have u1 : IntKind.i64.wrap ((p.axes.length : Int) - 1) = (p.axes.length : Int) - 1 := by rw [IntKind.wrap_i64]; omega
  go_enter Tryz.func24, Tryz.ntmps24
  go_upto_region 4 with (go_at_call 40; (with_reducible refine (f_CheckPort a c e d p _ (hx.later (by (exact kpt)) (Nat.le_refl _)) hc hM (hy.later (by (exact kpt)) (Nat.le_refl _)) hd hN h1 h2).mono ?_); rw [show checkPort p = 0 from HPC.out]; rintro z w1 ⟨rfl, hb1⟩; refine Blk.thru (b := w.heap.size) (arr := ?_) (t := ?_) ?_ hb1 ?_; rotate_left 2; (focus (exact blk)); intro r0; have r0c0 := r0.cell 0; have r0f0 := r0.free 0; have r0c1 := r0.cell 1; have r0f1 := r0.free 1; have r0c2 := r0.cell 2; have r0f2 := r0.free 2; have r0c3 := r0.cell 3; have r0f3 := r0.free 3; have r0c4 := r0.cell 4; have r0f4 := r0.free 4; have r0l := r0.lt; simp at r0c0 r0c1 r0c2 r0c3 r0c4; refine Blk.thru (b := (w.heap.size + 1)) (arr := ?_) (t := ?_) ?_ hb1 ?_; rotate_left 2; (focus (exact blk)); intro r1; have r1c0 := r1.cell 0; have r1f0 := r1.free 0; have r1c1 := r1.cell 1; have r1f1 := r1.free 1; have r1c2 := r1.cell 2; have r1f2 := r1.free 2; have r1c3 := r1.cell 3; have r1f3 := r1.free 3; have r1c4 := r1.cell 4; have r1f4 := r1.free 4; have r1l := r1.lt; simp at r1c0 r1c1 r1c2 r1c3 r1c4)
  refine at_world (S := fun V => Blk V w.heap.size #[.slice a p.axes.length c, .int .i64 p.people, .int .i64 p.most, .slice e p.pulls.length d, .int .i64 p.cross] 25 ∧ Blk V (w.heap.size + 1) #[.int .u8 b.ship, .int .i64 b.axis, .int .i64 b.held, .bool b.wire, .bool b.opn] 37 ∧ Kept w V) ⟨by (exact blk), by (exact blk), by (exact kpt)⟩ ?_
  rintro W4 ⟨rp, rb, hk⟩
  have rpc0 := fun g : Later W4 => (rp.later g).cell 0
  have rpc1 := fun g : Later W4 => (rp.later g).cell 1
  have rpc2 := fun g : Later W4 => (rp.later g).cell 2
  have rpc3 := fun g : Later W4 => (rp.later g).cell 3
  have rpc4 := fun g : Later W4 => (rp.later g).cell 4
  have rpf0 := fun g : Later W4 => (rp.later g).free 0
  have rpf1 := fun g : Later W4 => (rp.later g).free 1
  have rpf2 := fun g : Later W4 => (rp.later g).free 2
  have rpf3 := fun g : Later W4 => (rp.later g).free 3
  have rpf4 := fun g : Later W4 => (rp.later g).free 4
  have rpl := fun g : Later W4 => (rp.later g).lt
  simp at rpc0 rpc1 rpc2 rpc3 rpc4
  have rbc0 := fun g : Later W4 => (rb.later g).cell 0
  have rbc1 := fun g : Later W4 => (rb.later g).cell 1
  have rbc2 := fun g : Later W4 => (rb.later g).cell 2
  have rbc3 := fun g : Later W4 => (rb.later g).cell 3
  have rbc4 := fun g : Later W4 => (rb.later g).cell 4
  have rbf0 := fun g : Later W4 => (rb.later g).free 0
  have rbf1 := fun g : Later W4 => (rb.later g).free 1
  have rbf2 := fun g : Later W4 => (rb.later g).free 2
  have rbf3 := fun g : Later W4 => (rb.later g).free 3
  have rbf4 := fun g : Later W4 => (rb.later g).free 4
  have rbl := fun g : Later W4 => (rb.later g).lt
  simp at rbc0 rbc1 rbc2 rbc3 rbc4
  refine Later.tail 5 (by kernel_rfl) (by kernel_rfl) ?_
  simp only [List.take_succ_cons, List.take_zero, List.drop_succ_cons, List.drop_zero]
  repeat (first | go_big_quiet_skip | (go_big_quiet_want; go_big_quiet_op; first | go_big_quiet_on | (apply Exists.intro; refine ⟨fun g => ?_, ?_⟩; (focus (first | (go_at_call 51; with_reducible exact Later.call (f_need a c e d p _ (hx.later (Kept.drop hk g.ok) (Nat.le_refl _)) hc hM (hy.later (Kept.drop hk g.ok) (Nat.le_refl _)) hd hN h1 h2 hp)))); go_big_quiet_on)))
  refine wpQuiet_nil ?_
  intro gg
  have rp2 := rp.later gg
  have rb2 := rb.later gg
  have hkg := Kept.drop hk gg.ok
  clear rpc0 rpf0 rpc1 rpf1 rpc2 rpf2 rpc3 rpf3 rpc4 rpf4 rpl rbc0 rbf0 rbc1 rbf1 rbc2 rbf2 rbc3 rbf3 rbc4 rbf4 rbl
  refine wpList_plain rfl fun K1 hK1 => ?_
  go_simp
  refine hK1 _ _ ?_
  go_upto_region 5 with fail
  refine at_world (S := fun V => Blk V w.heap.size #[.slice a p.axes.length c, .int .i64 p.people, .int .i64 p.most, .slice e p.pulls.length d, .int .i64 p.cross] 25 ∧ Blk V (w.heap.size + 1) #[.int .u8 b.ship, .int .i64 b.axis, .int .i64 b.held, .bool b.wire, .bool b.opn] 37 ∧ Blk V gg.val.heap.size (dockCells a c e d p (⟨b, needP p, ⟨0, 0, 0, 0⟩, 0⟩ : Dock)) 112 ∧ Kept w V) ⟨by (exact blk), by (exact blk), by (exact blkc), by (exact kpt)⟩ ?_
  obtain ⟨nD, hnD⟩ : ∃ n, n = gg.val.heap.size := ⟨_, rfl⟩
  rw [← hnD]
  clear hnD rp rb rp2 rb2 hk hkg gg
  rintro W ⟨rp, rb, rd, hk⟩
  have hqd := fun (w' : World) (h : Blk w' nD (dockCells a c e d p (⟨b, needP p, ⟨0, 0, 0, 0⟩, 0⟩ : Dock)) 112) => (show Blk w' nD #[.int .u8 b.ship, .int .i64 b.axis, .int .i64 b.held, .bool b.wire, .bool b.opn, .slice a p.axes.length c, .int .i64 p.people, .int .i64 p.most, .slice e p.pulls.length d, .int .i64 p.cross, .int .i64 (needP p), .int .i64 0, .int .i64 0, .int .i64 0, .int .i64 0, .int .i64 0] 112 from h)
  by_cases v1 : b.ship ≤ 5
  · cases v2 : inB b.axis 0 (p.axes.length - 1)
    · have hfit : fitsB p b = false := by simp [fitsB, v2]
      have HV2 := Lib.hid v2
      clear v2
      refine held_walk (fun w' => Blk w' w.heap.size #[.slice a p.axes.length c, .int .i64 p.people, .int .i64 p.most, .slice e p.pulls.length d, .int .i64 p.cross] 25 ∧ Blk w' (w.heap.size + 1) #[.int .u8 b.ship, .int .i64 b.axis, .int .i64 b.held, .bool b.wire, .bool b.opn] 37 ∧ Blk w' nD (dockCells a c e d p (⟨b, needP p, ⟨0, 0, 0, 0⟩, 0⟩ : Dock)) 112 ∧ Kept W w') [(true, 0), (true, 1), (true, 2), (true, 3), (true, 4), (true, 5), (true, 6), (true, 7), (true, 8), (true, 9), (false, 10), (false, 11), (true, 12), (true, 13), (true, 14), (true, 15), (true, 16), (true, 17), (true, 18), (true, 19), (true, 20), (true, 21), (true, 22), (true, 23), (true, 24), (true, 25), (true, 26), (true, 27), (true, 28), (false, 29)] 29 (by kernel_rfl) (by kernel_rfl) (fun c a d v w h => by cases d <;> exact h) ⟨rp.drew, rb.drew, rd.drew, (Below.refl _ _).drew⟩ ?_
      simp only [List.filterMap_cons, List.filterMap_nil, List.getElem?_cons_zero, List.getElem?_cons_succ, Option.map_some]
      iterate 10 ((first | (refine held_take ?_ ?_ (fun w' hS => ?_) ?_; rotate_left 1; (focus rfl); (focus (first | (go_simp; done) | (go_simp; with_reducible rfl) | (obtain ⟨S1, S2, S3, S4⟩ := hS; have q3 := hqd _ S3; have qp0 := S1.cell 0; have qp1 := S1.cell 1; have qb0 := S2.cell 0; have qb1 := S2.cell 1; have qb2 := S2.cell 2; have qd10 := q3.cell 10; simp at qp0 qp1 qb0 qb1 qb2 qd10; first | (go_simp; done) | (go_simp; with_reducible rfl))))) | (refine held_pass ?_ ?_; (focus rfl))); simp only [Act.put, List.setIfInBounds_toArray, List.set_cons_zero, List.set_cons_succ])
      refine held_one ?_
      go_wp2
      refine held_on ⟨by (exact blk), by (exact blk), by (exact blk), by (exact kpt)⟩ ?_
      refine held_one ?_
      go_wp2_with (go_at_call 44; (with_reducible refine (f_rangedB 0 (p.axes.length - 1) b.axis _ 3 _ ?_).mono ?_); (focus (first | exact Blk.drew (Blk.new' rfl) | exact Blk.new' rfl | exact Blk.drew (Blk.new' (by simp)) | (exact blk))); rw [HV2.out]; rintro z w9 ⟨rfl, hb11⟩)
      refine held_on ⟨by (exact blk), by (exact blk), by (exact blk), by (exact kpt)⟩ ?_
      iterate 17 ((first | (refine held_take ?_ ?_ (fun w' hS => ?_) ?_; rotate_left 1; (focus rfl); (focus (first | (go_simp; done) | (go_simp; with_reducible rfl) | (obtain ⟨S1, S2, S3, S4⟩ := hS; have q3 := hqd _ S3; have qp0 := S1.cell 0; have qp1 := S1.cell 1; have qb0 := S2.cell 0; have qb1 := S2.cell 1; have qb2 := S2.cell 2; have qd10 := q3.cell 10; simp at qp0 qp1 qb0 qb1 qb2 qd10; first | (go_simp; done) | (go_simp; with_reducible rfl))))) | (refine held_pass ?_ ?_; (focus rfl))); simp only [Act.put, List.setIfInBounds_toArray, List.set_cons_zero, List.set_cons_succ])
      refine held_one ?_
      refine wpList_plain rfl fun K1 hK1 => ?_
      go_wp2
      (first | refine held_end ?_ | (refine onward_on ?_; first | refine held_nil ?_ | refine ⟨.inl trivial, held_nil ?_⟩ | refine ⟨.inl rfl, held_nil ?_⟩))
      go_wp2
      exact bodyPost_ret (v := .int .i64 (checkBerth p b)) (by rw [show checkBerth p b = 73 by simp [checkBerth, hp, berthB, hfit]]; simp [results, Tryz.results24, go_sem]) rfl ⟨rfl, by (exact kpt)⟩
    · have HV2 := Lib.hid v2
      by_cases v3 : b.held = 0
      · have hfit : fitsB p b = true := by simp [fitsB, v1, v2, v3]
        have HV3 := Lib.hid (show loose (⟨b, needP p, ⟨0, 0, 0, 0⟩, 0⟩ : Dock) = true by simp [loose, v3])
        clear v2
        refine held_walk (fun w' => Blk w' w.heap.size #[.slice a p.axes.length c, .int .i64 p.people, .int .i64 p.most, .slice e p.pulls.length d, .int .i64 p.cross] 25 ∧ Blk w' (w.heap.size + 1) #[.int .u8 b.ship, .int .i64 b.axis, .int .i64 b.held, .bool b.wire, .bool b.opn] 37 ∧ Blk w' nD (dockCells a c e d p (⟨b, needP p, ⟨0, 0, 0, 0⟩, 0⟩ : Dock)) 112 ∧ Kept W w') [(true, 0), (true, 1), (true, 2), (true, 3), (true, 4), (true, 5), (true, 6), (true, 7), (true, 8), (true, 9), (false, 10), (false, 11), (true, 12), (true, 13), (true, 14), (false, 15), (true, 16), (true, 17), (true, 18), (true, 19), (true, 20), (true, 21), (true, 22), (true, 23), (true, 24), (true, 25), (true, 26), (true, 27), (true, 28), (false, 29)] 29 (by kernel_rfl) (by kernel_rfl) (fun c a d v w h => by cases d <;> exact h) ⟨rp.drew, rb.drew, rd.drew, (Below.refl _ _).drew⟩ ?_
        simp only [List.filterMap_cons, List.filterMap_nil, List.getElem?_cons_zero, List.getElem?_cons_succ, Option.map_some]
        iterate 10 ((first | (refine held_take ?_ ?_ (fun w' hS => ?_) ?_; rotate_left 1; (focus rfl); (focus (first | (go_simp; done) | (go_simp; with_reducible rfl) | (obtain ⟨S1, S2, S3, S4⟩ := hS; have q3 := hqd _ S3; have qp0 := S1.cell 0; have qp1 := S1.cell 1; have qb0 := S2.cell 0; have qb1 := S2.cell 1; have qb2 := S2.cell 2; have qd10 := q3.cell 10; simp at qp0 qp1 qb0 qb1 qb2 qd10; first | (go_simp; done) | (go_simp; with_reducible rfl))))) | (refine held_pass ?_ ?_; (focus rfl))); simp only [Act.put, List.setIfInBounds_toArray, List.set_cons_zero, List.set_cons_succ])
        refine held_one ?_
        go_wp2
        refine held_on ⟨by (exact blk), by (exact blk), by (exact blk), by (exact kpt)⟩ ?_
        refine held_one ?_
        go_wp2_with (go_at_call 44; (with_reducible refine (f_rangedB 0 (p.axes.length - 1) b.axis _ 3 _ ?_).mono ?_); (focus (first | exact Blk.drew (Blk.new' rfl) | exact Blk.new' rfl | exact Blk.drew (Blk.new' (by simp)) | (exact blk))); rw [HV2.out]; rintro z w9 ⟨rfl, hb11⟩)
        refine held_on ⟨by (exact blk), by (exact blk), by (exact blk), by (exact kpt)⟩ ?_
        iterate 3 ((first | (refine held_take ?_ ?_ (fun w' hS => ?_) ?_; rotate_left 1; (focus rfl); (focus (first | (go_simp; done) | (go_simp; with_reducible rfl) | (obtain ⟨S1, S2, S3, S4⟩ := hS; have q3 := hqd _ S3; have qp0 := S1.cell 0; have qp1 := S1.cell 1; have qb0 := S2.cell 0; have qb1 := S2.cell 1; have qb2 := S2.cell 2; have qd10 := q3.cell 10; simp at qp0 qp1 qb0 qb1 qb2 qd10; first | (go_simp; done) | (go_simp; with_reducible rfl))))) | (refine held_pass ?_ ?_; (focus rfl))); simp only [Act.put, List.setIfInBounds_toArray, List.set_cons_zero, List.set_cons_succ])
        refine held_one ?_
        go_wp2_with (go_at_call 58; (with_reducible refine (m_loose a c e d p (⟨b, needP p, ⟨0, 0, 0, 0⟩, 0⟩ : Dock) nD _ ?_).mono ?_); (focus (exact blk)); rw [HV3.out]; rintro z w8 ⟨rfl, hb15⟩)
        refine held_on ⟨by (exact blk), by (exact blk), by (exact blk), by (exact kpt)⟩ ?_
        iterate 13 ((first | (refine held_take ?_ ?_ (fun w' hS => ?_) ?_; rotate_left 1; (focus rfl); (focus (first | (go_simp; done) | (go_simp; with_reducible rfl) | (obtain ⟨S1, S2, S3, S4⟩ := hS; have q3 := hqd _ S3; have qp0 := S1.cell 0; have qp1 := S1.cell 1; have qb0 := S2.cell 0; have qb1 := S2.cell 1; have qb2 := S2.cell 2; have qd10 := q3.cell 10; simp at qp0 qp1 qb0 qb1 qb2 qd10; first | (go_simp; done) | (go_simp; with_reducible rfl))))) | (refine held_pass ?_ ?_; (focus rfl))); simp only [Act.put, List.setIfInBounds_toArray, List.set_cons_zero, List.set_cons_succ])
        refine held_one ?_
        refine wpList_plain rfl fun K1 hK1 => ?_
        go_wp2
        (first | refine held_end ?_ | (refine onward_on ?_; first | refine held_nil ?_ | refine ⟨.inl trivial, held_nil ?_⟩ | refine ⟨.inl rfl, held_nil ?_⟩))
        go_upto_region 6 with fail
        refine at_world (S := fun V => Blk V nD (dockCells a c e d p (⟨b, needP p, ⟨0, 0, 0, 0⟩, 0⟩ : Dock)) 112 ∧ Kept w V) ⟨by (exact blk), by (exact kpt)⟩ ?_
        clear rp rb rd hk 
        rintro W6 ⟨rd, hk⟩
        cases hw : b.wire <;> cases ho : b.opn <;> rcases (by omega : b.ship = 0 ∨ b.ship = 1 ∨ b.ship = 2 ∨ b.ship = 3 ∨ b.ship = 4 ∨ b.ship = 5) with he | he | he | he | he | he
        all_goals
          obtain ⟨B1, hB1⟩ : ∃ L, wired (⟨b, needP p, ⟨0, 0, 0, 0⟩, 0⟩ : Dock) = L := ⟨_, rfl⟩
          obtain ⟨B2, hB2⟩ : ∃ L, lined (⟨b, needP p, ⟨0, 0, 0, 0⟩, 0⟩ : Dock) = L := ⟨_, rfl⟩
          obtain ⟨B3, hB3⟩ : ∃ L, walking (⟨b, needP p, ⟨0, 0, 0, 0⟩, 0⟩ : Dock) = L := ⟨_, rfl⟩
          obtain ⟨B4, hB4⟩ : ∃ L, shut (⟨b, needP p, ⟨0, 0, 0, 0⟩, 0⟩ : Dock) = L := ⟨_, rfl⟩
          obtain ⟨B5, hB5⟩ : ∃ L, tied (⟨b, needP p, ⟨0, 0, 0, 0⟩, 0⟩ : Dock) = L := ⟨_, rfl⟩
          obtain ⟨B6, hB6⟩ : ∃ L, still (⟨b, needP p, ⟨0, 0, 0, 0⟩, 0⟩ : Dock) = L := ⟨_, rfl⟩
          obtain ⟨B7, hB7⟩ : ∃ L, loose (⟨b, needP p, ⟨0, 0, 0, 0⟩, 0⟩ : Dock) = L := ⟨_, rfl⟩
          obtain ⟨E, hE⟩ : ∃ E, checkBerth p b = E := ⟨_, rfl⟩
          have G1 := hB1
          have G2 := hB2
          have G3 := hB3
          have G4 := hB4
          have G5 := hB5
          have G6 := hB6
          have G7 := hB7
          have GE := hE
          simp [wired, hw] at G1
          simp [lined, he] at G2
          simp [walking, he] at G3
          simp [shut, ho] at G4
          simp [tied, lined, fast, masted, housed, he] at G5
          simp [still, walking, he] at G6
          simp [loose, v3] at G7
          simp [checkBerth, hp, berthB, hfit, shipB, he, hw, ho, v3] at GE
          subst G1 G2 G3 G4 G5 G6 G7 GE
          have H1 := Lib.hid hB1
          have H2 := Lib.hid hB2
          have H3 := Lib.hid hB3
          have H4 := Lib.hid hB4
          have H5 := Lib.hid hB5
          have H6 := Lib.hid hB6
          have H7 := Lib.hid hB7
          have HE := Lib.hid hE
          clear hB1 hB2 hB3 hB4 hB5 hB6 hB7 hE hw ho he
          go_wp2_with (first | (go_at_call 59; (with_reducible refine (m_wired a c e d p (⟨b, needP p, ⟨0, 0, 0, 0⟩, 0⟩ : Dock) nD _ ?_).mono ?_); (focus (exact blk)); rw [H1.out]; rintro z w8 ⟨rfl, hb8⟩) | (go_at_call 60; (with_reducible refine (m_lined a c e d p (⟨b, needP p, ⟨0, 0, 0, 0⟩, 0⟩ : Dock) nD _ ?_).mono ?_); (focus (exact blk)); rw [H2.out]; rintro z w8 ⟨rfl, hb8⟩) | (go_at_call 61; (with_reducible refine (m_walking a c e d p (⟨b, needP p, ⟨0, 0, 0, 0⟩, 0⟩ : Dock) nD _ ?_).mono ?_); (focus (exact blk)); rw [H3.out]; rintro z w8 ⟨rfl, hb8⟩) | (go_at_call 62; (with_reducible refine (m_shut a c e d p (⟨b, needP p, ⟨0, 0, 0, 0⟩, 0⟩ : Dock) nD _ ?_).mono ?_); (focus (exact blk)); rw [H4.out]; rintro z w8 ⟨rfl, hb8⟩) | (go_at_call 63; (with_reducible refine (m_tied a c e d p (⟨b, needP p, ⟨0, 0, 0, 0⟩, 0⟩ : Dock) nD _ ?_).mono ?_); (focus (exact blk)); rw [H5.out]; rintro z w8 ⟨rfl, hb8⟩) | (go_at_call 64; (with_reducible refine (m_still a c e d p (⟨b, needP p, ⟨0, 0, 0, 0⟩, 0⟩ : Dock) nD _ ?_).mono ?_); (focus (exact blk)); rw [H6.out]; rintro z w8 ⟨rfl, hb8⟩) | (go_at_call 58; (with_reducible refine (m_loose a c e d p (⟨b, needP p, ⟨0, 0, 0, 0⟩, 0⟩ : Dock) nD _ ?_).mono ?_); (focus (exact blk)); rw [H7.out]; rintro z w8 ⟨rfl, hb8⟩))
          exact bodyPost_ret (v := .int .i64 (checkBerth p b)) (by rw [HE.out]; simp [results, Tryz.results24, go_sem]) rfl ⟨rfl, by (exact kpt)⟩
      · have HV3 := Lib.hid (show loose (⟨b, needP p, ⟨0, 0, 0, 0⟩, 0⟩ : Dock) = false by simp [loose, v3])
        cases v4 : inB b.held (needP p) p.people
        · have hfit : fitsB p b = false := by simp [fitsB, v3, v4]
          have HV4 := Lib.hid v4
          clear v2 v4
          refine held_walk (fun w' => Blk w' w.heap.size #[.slice a p.axes.length c, .int .i64 p.people, .int .i64 p.most, .slice e p.pulls.length d, .int .i64 p.cross] 25 ∧ Blk w' (w.heap.size + 1) #[.int .u8 b.ship, .int .i64 b.axis, .int .i64 b.held, .bool b.wire, .bool b.opn] 37 ∧ Blk w' nD (dockCells a c e d p (⟨b, needP p, ⟨0, 0, 0, 0⟩, 0⟩ : Dock)) 112 ∧ Kept W w') [(true, 0), (true, 1), (true, 2), (true, 3), (true, 4), (true, 5), (true, 6), (true, 7), (true, 8), (true, 9), (false, 10), (false, 11), (true, 12), (true, 13), (true, 14), (false, 15), (true, 16), (true, 17), (true, 18), (true, 19), (true, 20), (true, 21), (true, 22), (true, 23), (true, 24), (false, 25), (false, 26), (true, 27), (true, 28), (false, 29)] 29 (by kernel_rfl) (by kernel_rfl) (fun c a d v w h => by cases d <;> exact h) ⟨rp.drew, rb.drew, rd.drew, (Below.refl _ _).drew⟩ ?_
          simp only [List.filterMap_cons, List.filterMap_nil, List.getElem?_cons_zero, List.getElem?_cons_succ, Option.map_some]
          iterate 10 ((first | (refine held_take ?_ ?_ (fun w' hS => ?_) ?_; rotate_left 1; (focus rfl); (focus (first | (go_simp; done) | (go_simp; with_reducible rfl) | (obtain ⟨S1, S2, S3, S4⟩ := hS; have q3 := hqd _ S3; have qp0 := S1.cell 0; have qp1 := S1.cell 1; have qb0 := S2.cell 0; have qb1 := S2.cell 1; have qb2 := S2.cell 2; have qd10 := q3.cell 10; simp at qp0 qp1 qb0 qb1 qb2 qd10; first | (go_simp; done) | (go_simp; with_reducible rfl))))) | (refine held_pass ?_ ?_; (focus rfl))); simp only [Act.put, List.setIfInBounds_toArray, List.set_cons_zero, List.set_cons_succ])
          refine held_one ?_
          go_wp2
          refine held_on ⟨by (exact blk), by (exact blk), by (exact blk), by (exact kpt)⟩ ?_
          refine held_one ?_
          go_wp2_with (go_at_call 44; (with_reducible refine (f_rangedB 0 (p.axes.length - 1) b.axis _ 3 _ ?_).mono ?_); (focus (first | exact Blk.drew (Blk.new' rfl) | exact Blk.new' rfl | exact Blk.drew (Blk.new' (by simp)) | (exact blk))); rw [HV2.out]; rintro z w9 ⟨rfl, hb11⟩)
          refine held_on ⟨by (exact blk), by (exact blk), by (exact blk), by (exact kpt)⟩ ?_
          iterate 3 ((first | (refine held_take ?_ ?_ (fun w' hS => ?_) ?_; rotate_left 1; (focus rfl); (focus (first | (go_simp; done) | (go_simp; with_reducible rfl) | (obtain ⟨S1, S2, S3, S4⟩ := hS; have q3 := hqd _ S3; have qp0 := S1.cell 0; have qp1 := S1.cell 1; have qb0 := S2.cell 0; have qb1 := S2.cell 1; have qb2 := S2.cell 2; have qd10 := q3.cell 10; simp at qp0 qp1 qb0 qb1 qb2 qd10; first | (go_simp; done) | (go_simp; with_reducible rfl))))) | (refine held_pass ?_ ?_; (focus rfl))); simp only [Act.put, List.setIfInBounds_toArray, List.set_cons_zero, List.set_cons_succ])
          refine held_one ?_
          go_wp2_with (go_at_call 58; (with_reducible refine (m_loose a c e d p (⟨b, needP p, ⟨0, 0, 0, 0⟩, 0⟩ : Dock) nD _ ?_).mono ?_); (focus (exact blk)); rw [HV3.out]; rintro z w8 ⟨rfl, hb15⟩)
          refine held_on ⟨by (exact blk), by (exact blk), by (exact blk), by (exact kpt)⟩ ?_
          iterate 9 ((first | (refine held_take ?_ ?_ (fun w' hS => ?_) ?_; rotate_left 1; (focus rfl); (focus (first | (go_simp; done) | (go_simp; with_reducible rfl) | (obtain ⟨S1, S2, S3, S4⟩ := hS; have q3 := hqd _ S3; have qp0 := S1.cell 0; have qp1 := S1.cell 1; have qb0 := S2.cell 0; have qb1 := S2.cell 1; have qb2 := S2.cell 2; have qd10 := q3.cell 10; simp at qp0 qp1 qb0 qb1 qb2 qd10; first | (go_simp; done) | (go_simp; with_reducible rfl))))) | (refine held_pass ?_ ?_; (focus rfl))); simp only [Act.put, List.setIfInBounds_toArray, List.set_cons_zero, List.set_cons_succ])
          refine held_one ?_
          go_wp2
          refine held_on ⟨by (exact blk), by (exact blk), by (exact blk), by (exact kpt)⟩ ?_
          refine held_one ?_
          go_wp2_with (go_at_call 44; (with_reducible refine (f_rangedB (needP p) p.people b.held _ 3 _ ?_).mono ?_); (focus (first | exact Blk.drew (Blk.new' rfl) | exact Blk.new' rfl | exact Blk.drew (Blk.new' (by simp)) | (exact blk))); rw [HV4.out]; rintro z w9 ⟨rfl, hb26⟩)
          refine held_on ⟨by (exact blk), by (exact blk), by (exact blk), by (exact kpt)⟩ ?_
          iterate 2 ((first | (refine held_take ?_ ?_ (fun w' hS => ?_) ?_; rotate_left 1; (focus rfl); (focus (first | (go_simp; done) | (go_simp; with_reducible rfl) | (obtain ⟨S1, S2, S3, S4⟩ := hS; have q3 := hqd _ S3; have qp0 := S1.cell 0; have qp1 := S1.cell 1; have qb0 := S2.cell 0; have qb1 := S2.cell 1; have qb2 := S2.cell 2; have qd10 := q3.cell 10; simp at qp0 qp1 qb0 qb1 qb2 qd10; first | (go_simp; done) | (go_simp; with_reducible rfl))))) | (refine held_pass ?_ ?_; (focus rfl))); simp only [Act.put, List.setIfInBounds_toArray, List.set_cons_zero, List.set_cons_succ])
          refine held_one ?_
          refine wpList_plain rfl fun K1 hK1 => ?_
          go_wp2
          (first | refine held_end ?_ | (refine onward_on ?_; first | refine held_nil ?_ | refine ⟨.inl trivial, held_nil ?_⟩ | refine ⟨.inl rfl, held_nil ?_⟩))
          go_wp2
          exact bodyPost_ret (v := .int .i64 (checkBerth p b)) (by rw [show checkBerth p b = 73 by simp [checkBerth, hp, berthB, hfit]]; simp [results, Tryz.results24, go_sem]) rfl ⟨rfl, by (exact kpt)⟩
        · have hfit : fitsB p b = true := by simp [fitsB, v1, v2, v3, v4]
          have hpos : 0 < b.held := by have := inB_iff.1 v4; omega
          have HV4 := Lib.hid v4
          clear v2 v4
          refine held_walk (fun w' => Blk w' w.heap.size #[.slice a p.axes.length c, .int .i64 p.people, .int .i64 p.most, .slice e p.pulls.length d, .int .i64 p.cross] 25 ∧ Blk w' (w.heap.size + 1) #[.int .u8 b.ship, .int .i64 b.axis, .int .i64 b.held, .bool b.wire, .bool b.opn] 37 ∧ Blk w' nD (dockCells a c e d p (⟨b, needP p, ⟨0, 0, 0, 0⟩, 0⟩ : Dock)) 112 ∧ Kept W w') [(true, 0), (true, 1), (true, 2), (true, 3), (true, 4), (true, 5), (true, 6), (true, 7), (true, 8), (true, 9), (false, 10), (false, 11), (true, 12), (true, 13), (true, 14), (false, 15), (true, 16), (true, 17), (true, 18), (true, 19), (true, 20), (true, 21), (true, 22), (true, 23), (true, 24), (false, 25), (false, 26), (true, 27), (true, 28), (false, 29)] 29 (by kernel_rfl) (by kernel_rfl) (fun c a d v w h => by cases d <;> exact h) ⟨rp.drew, rb.drew, rd.drew, (Below.refl _ _).drew⟩ ?_
          simp only [List.filterMap_cons, List.filterMap_nil, List.getElem?_cons_zero, List.getElem?_cons_succ, Option.map_some]
          iterate 10 ((first | (refine held_take ?_ ?_ (fun w' hS => ?_) ?_; rotate_left 1; (focus rfl); (focus (first | (go_simp; done) | (go_simp; with_reducible rfl) | (obtain ⟨S1, S2, S3, S4⟩ := hS; have q3 := hqd _ S3; have qp0 := S1.cell 0; have qp1 := S1.cell 1; have qb0 := S2.cell 0; have qb1 := S2.cell 1; have qb2 := S2.cell 2; have qd10 := q3.cell 10; simp at qp0 qp1 qb0 qb1 qb2 qd10; first | (go_simp; done) | (go_simp; with_reducible rfl))))) | (refine held_pass ?_ ?_; (focus rfl))); simp only [Act.put, List.setIfInBounds_toArray, List.set_cons_zero, List.set_cons_succ])
          refine held_one ?_
          go_wp2
          refine held_on ⟨by (exact blk), by (exact blk), by (exact blk), by (exact kpt)⟩ ?_
          refine held_one ?_
          go_wp2_with (go_at_call 44; (with_reducible refine (f_rangedB 0 (p.axes.length - 1) b.axis _ 3 _ ?_).mono ?_); (focus (first | exact Blk.drew (Blk.new' rfl) | exact Blk.new' rfl | exact Blk.drew (Blk.new' (by simp)) | (exact blk))); rw [HV2.out]; rintro z w9 ⟨rfl, hb11⟩)
          refine held_on ⟨by (exact blk), by (exact blk), by (exact blk), by (exact kpt)⟩ ?_
          iterate 3 ((first | (refine held_take ?_ ?_ (fun w' hS => ?_) ?_; rotate_left 1; (focus rfl); (focus (first | (go_simp; done) | (go_simp; with_reducible rfl) | (obtain ⟨S1, S2, S3, S4⟩ := hS; have q3 := hqd _ S3; have qp0 := S1.cell 0; have qp1 := S1.cell 1; have qb0 := S2.cell 0; have qb1 := S2.cell 1; have qb2 := S2.cell 2; have qd10 := q3.cell 10; simp at qp0 qp1 qb0 qb1 qb2 qd10; first | (go_simp; done) | (go_simp; with_reducible rfl))))) | (refine held_pass ?_ ?_; (focus rfl))); simp only [Act.put, List.setIfInBounds_toArray, List.set_cons_zero, List.set_cons_succ])
          refine held_one ?_
          go_wp2_with (go_at_call 58; (with_reducible refine (m_loose a c e d p (⟨b, needP p, ⟨0, 0, 0, 0⟩, 0⟩ : Dock) nD _ ?_).mono ?_); (focus (exact blk)); rw [HV3.out]; rintro z w8 ⟨rfl, hb15⟩)
          refine held_on ⟨by (exact blk), by (exact blk), by (exact blk), by (exact kpt)⟩ ?_
          iterate 9 ((first | (refine held_take ?_ ?_ (fun w' hS => ?_) ?_; rotate_left 1; (focus rfl); (focus (first | (go_simp; done) | (go_simp; with_reducible rfl) | (obtain ⟨S1, S2, S3, S4⟩ := hS; have q3 := hqd _ S3; have qp0 := S1.cell 0; have qp1 := S1.cell 1; have qb0 := S2.cell 0; have qb1 := S2.cell 1; have qb2 := S2.cell 2; have qd10 := q3.cell 10; simp at qp0 qp1 qb0 qb1 qb2 qd10; first | (go_simp; done) | (go_simp; with_reducible rfl))))) | (refine held_pass ?_ ?_; (focus rfl))); simp only [Act.put, List.setIfInBounds_toArray, List.set_cons_zero, List.set_cons_succ])
          refine held_one ?_
          go_wp2
          refine held_on ⟨by (exact blk), by (exact blk), by (exact blk), by (exact kpt)⟩ ?_
          refine held_one ?_
          go_wp2_with (go_at_call 44; (with_reducible refine (f_rangedB (needP p) p.people b.held _ 3 _ ?_).mono ?_); (focus (first | exact Blk.drew (Blk.new' rfl) | exact Blk.new' rfl | exact Blk.drew (Blk.new' (by simp)) | (exact blk))); rw [HV4.out]; rintro z w9 ⟨rfl, hb26⟩)
          refine held_on ⟨by (exact blk), by (exact blk), by (exact blk), by (exact kpt)⟩ ?_
          iterate 2 ((first | (refine held_take ?_ ?_ (fun w' hS => ?_) ?_; rotate_left 1; (focus rfl); (focus (first | (go_simp; done) | (go_simp; with_reducible rfl) | (obtain ⟨S1, S2, S3, S4⟩ := hS; have q3 := hqd _ S3; have qp0 := S1.cell 0; have qp1 := S1.cell 1; have qb0 := S2.cell 0; have qb1 := S2.cell 1; have qb2 := S2.cell 2; have qd10 := q3.cell 10; simp at qp0 qp1 qb0 qb1 qb2 qd10; first | (go_simp; done) | (go_simp; with_reducible rfl))))) | (refine held_pass ?_ ?_; (focus rfl))); simp only [Act.put, List.setIfInBounds_toArray, List.set_cons_zero, List.set_cons_succ])
          refine held_one ?_
          refine wpList_plain rfl fun K1 hK1 => ?_
          go_wp2
          (first | refine held_end ?_ | (refine onward_on ?_; first | refine held_nil ?_ | refine ⟨.inl trivial, held_nil ?_⟩ | refine ⟨.inl rfl, held_nil ?_⟩))
          go_upto_region 6 with fail
          refine at_world (S := fun V => Blk V nD (dockCells a c e d p (⟨b, needP p, ⟨0, 0, 0, 0⟩, 0⟩ : Dock)) 112 ∧ Kept w V) ⟨by (exact blk), by (exact kpt)⟩ ?_
          clear rp rb rd hk 
          rintro W6 ⟨rd, hk⟩
          cases hw : b.wire <;> cases ho : b.opn <;> rcases (by omega : b.ship = 0 ∨ b.ship = 1 ∨ b.ship = 2 ∨ b.ship = 3 ∨ b.ship = 4 ∨ b.ship = 5) with he | he | he | he | he | he
          all_goals
            obtain ⟨B1, hB1⟩ : ∃ L, wired (⟨b, needP p, ⟨0, 0, 0, 0⟩, 0⟩ : Dock) = L := ⟨_, rfl⟩
            obtain ⟨B2, hB2⟩ : ∃ L, lined (⟨b, needP p, ⟨0, 0, 0, 0⟩, 0⟩ : Dock) = L := ⟨_, rfl⟩
            obtain ⟨B3, hB3⟩ : ∃ L, walking (⟨b, needP p, ⟨0, 0, 0, 0⟩, 0⟩ : Dock) = L := ⟨_, rfl⟩
            obtain ⟨B4, hB4⟩ : ∃ L, shut (⟨b, needP p, ⟨0, 0, 0, 0⟩, 0⟩ : Dock) = L := ⟨_, rfl⟩
            obtain ⟨B5, hB5⟩ : ∃ L, tied (⟨b, needP p, ⟨0, 0, 0, 0⟩, 0⟩ : Dock) = L := ⟨_, rfl⟩
            obtain ⟨B6, hB6⟩ : ∃ L, still (⟨b, needP p, ⟨0, 0, 0, 0⟩, 0⟩ : Dock) = L := ⟨_, rfl⟩
            obtain ⟨B7, hB7⟩ : ∃ L, loose (⟨b, needP p, ⟨0, 0, 0, 0⟩, 0⟩ : Dock) = L := ⟨_, rfl⟩
            obtain ⟨E, hE⟩ : ∃ E, checkBerth p b = E := ⟨_, rfl⟩
            have G1 := hB1
            have G2 := hB2
            have G3 := hB3
            have G4 := hB4
            have G5 := hB5
            have G6 := hB6
            have G7 := hB7
            have GE := hE
            simp [wired, hw] at G1
            simp [lined, he] at G2
            simp [walking, he] at G3
            simp [shut, ho] at G4
            simp [tied, lined, fast, masted, housed, he] at G5
            simp [still, walking, he] at G6
            simp [loose, v3] at G7
            simp [checkBerth, hp, berthB, hfit, shipB, he, hw, ho, v3, hpos] at GE
            subst G1 G2 G3 G4 G5 G6 G7 GE
            have H1 := Lib.hid hB1
            have H2 := Lib.hid hB2
            have H3 := Lib.hid hB3
            have H4 := Lib.hid hB4
            have H5 := Lib.hid hB5
            have H6 := Lib.hid hB6
            have H7 := Lib.hid hB7
            have HE := Lib.hid hE
            clear hB1 hB2 hB3 hB4 hB5 hB6 hB7 hE hw ho he
            go_wp2_with (first | (go_at_call 59; (with_reducible refine (m_wired a c e d p (⟨b, needP p, ⟨0, 0, 0, 0⟩, 0⟩ : Dock) nD _ ?_).mono ?_); (focus (exact blk)); rw [H1.out]; rintro z w8 ⟨rfl, hb8⟩) | (go_at_call 60; (with_reducible refine (m_lined a c e d p (⟨b, needP p, ⟨0, 0, 0, 0⟩, 0⟩ : Dock) nD _ ?_).mono ?_); (focus (exact blk)); rw [H2.out]; rintro z w8 ⟨rfl, hb8⟩) | (go_at_call 61; (with_reducible refine (m_walking a c e d p (⟨b, needP p, ⟨0, 0, 0, 0⟩, 0⟩ : Dock) nD _ ?_).mono ?_); (focus (exact blk)); rw [H3.out]; rintro z w8 ⟨rfl, hb8⟩) | (go_at_call 62; (with_reducible refine (m_shut a c e d p (⟨b, needP p, ⟨0, 0, 0, 0⟩, 0⟩ : Dock) nD _ ?_).mono ?_); (focus (exact blk)); rw [H4.out]; rintro z w8 ⟨rfl, hb8⟩) | (go_at_call 63; (with_reducible refine (m_tied a c e d p (⟨b, needP p, ⟨0, 0, 0, 0⟩, 0⟩ : Dock) nD _ ?_).mono ?_); (focus (exact blk)); rw [H5.out]; rintro z w8 ⟨rfl, hb8⟩) | (go_at_call 64; (with_reducible refine (m_still a c e d p (⟨b, needP p, ⟨0, 0, 0, 0⟩, 0⟩ : Dock) nD _ ?_).mono ?_); (focus (exact blk)); rw [H6.out]; rintro z w8 ⟨rfl, hb8⟩) | (go_at_call 58; (with_reducible refine (m_loose a c e d p (⟨b, needP p, ⟨0, 0, 0, 0⟩, 0⟩ : Dock) nD _ ?_).mono ?_); (focus (exact blk)); rw [H7.out]; rintro z w8 ⟨rfl, hb8⟩))
            exact bodyPost_ret (v := .int .i64 (checkBerth p b)) (by rw [HE.out]; simp [results, Tryz.results24, go_sem]) rfl ⟨rfl, by (exact kpt)⟩
  · have hfit : fitsB p b = false := by simp [fitsB, v1]
    refine held_walk (fun w' => Blk w' w.heap.size #[.slice a p.axes.length c, .int .i64 p.people, .int .i64 p.most, .slice e p.pulls.length d, .int .i64 p.cross] 25 ∧ Blk w' (w.heap.size + 1) #[.int .u8 b.ship, .int .i64 b.axis, .int .i64 b.held, .bool b.wire, .bool b.opn] 37 ∧ Blk w' nD (dockCells a c e d p (⟨b, needP p, ⟨0, 0, 0, 0⟩, 0⟩ : Dock)) 112 ∧ Kept W w') [(true, 0), (true, 1), (true, 2), (true, 3), (true, 4), (true, 5), (true, 6), (true, 7), (true, 8), (true, 9), (true, 10), (true, 11), (true, 12), (true, 13), (true, 14), (true, 15), (true, 16), (true, 17), (true, 18), (true, 19), (true, 20), (true, 21), (true, 22), (true, 23), (true, 24), (true, 25), (true, 26), (true, 27), (true, 28), (false, 29)] 29 (by kernel_rfl) (by kernel_rfl) (fun c a d v w h => by cases d <;> exact h) ⟨rp.drew, rb.drew, rd.drew, (Below.refl _ _).drew⟩ ?_
    simp only [List.filterMap_cons, List.filterMap_nil, List.getElem?_cons_zero, List.getElem?_cons_succ, Option.map_some]
    iterate 29 ((first | (refine held_take ?_ ?_ (fun w' hS => ?_) ?_; rotate_left 1; (focus rfl); (focus (first | (go_simp; done) | (go_simp; with_reducible rfl) | (obtain ⟨S1, S2, S3, S4⟩ := hS; have q3 := hqd _ S3; have qp0 := S1.cell 0; have qp1 := S1.cell 1; have qb0 := S2.cell 0; have qb1 := S2.cell 1; have qb2 := S2.cell 2; have qd10 := q3.cell 10; simp at qp0 qp1 qb0 qb1 qb2 qd10; first | (go_simp; done) | (go_simp; with_reducible rfl))))) | (refine held_pass ?_ ?_; (focus rfl))); simp only [Act.put, List.setIfInBounds_toArray, List.set_cons_zero, List.set_cons_succ])
    refine held_one ?_
    refine wpList_plain rfl fun K1 hK1 => ?_
    go_wp2
    (first | refine held_end ?_ | (refine onward_on ?_; first | refine held_nil ?_ | refine ⟨.inl trivial, held_nil ?_⟩ | refine ⟨.inl rfl, held_nil ?_⟩))
    go_wp2
    exact bodyPost_ret (v := .int .i64 (checkBerth p b)) (by rw [show checkBerth p b = 73 by simp [checkBerth, hp, berthB, hfit]]; simp [results, Tryz.results24, go_sem]) rfl ⟨rfl, by (exact kpt)⟩

end Go.Proofs.YtacbkbilbmkjnaaGreat

/-
  Plans, in the program: the early ends.
-/
namespace Go.Proofs.YtacbkbilbmkjnaaGreat
open Go.RowKit Bal Bal.Trim Bal.Mast
set_option linter.unusedVariables false
set_option linter.unusedSimpArgs false
set_option maxHeartbeats 4000000
set_option maxRecDepth 10000

theorem f_Plan_berth (a : Option Addr) (c : Nat) (e : Option Addr) (d : Nat) (p : Port) (w : World) (hx : Row Axis.cells 2 w.heap.size w a p.axes) (hc : p.axes.length ≤ c) (hM : c ≤ maxLen) (hy : Row Span.cells 2 w.heap.size w e p.pulls) (hd : p.pulls.length ≤ d) (hN : d ≤ maxLen) (h1 : p.axes.length ≤ 1000000) (h2 : p.pulls.length ≤ 1000000) (b : Berth) (hs0 : 0 ≤ b.ship) (wd : Wind) (ship : Int) (E : Int) (hcb : checkBerth p b = E) (hE : E ≠ 0) :
    Calls Tryz.prog 17 #[.agg #[.slice a p.axes.length c, .int .i64 p.people, .int .i64 p.most, .slice e p.pulls.length d, .int .i64 p.cross], .agg #[.int .u8 b.ship, .int .i64 b.axis, .int .i64 b.held, .bool b.wire, .bool b.opn], .agg #[.int .i64 wd.xlo, .int .i64 wd.xhi, .int .i64 wd.ylo, .int .i64 wd.yhi], .int .u8 ship] w fun z w' => z = .returned (.tuple #[.slice none 0 0, .int .i64 E]) ∧ Kept w w' := by
  have HCB := Lib.hid hcb
  clear hcb
  have e1 : (E != 0) = true := by simp [hE]
  clear hE
  go_enter Tryz.func17, Tryz.ntmps17
  go_wp2_with (first | (go_at_call 24; (with_reducible refine (f_CheckBerth a c e d p _ (hx.later (by (exact kpt)) (Nat.le_refl _)) hc hM (hy.later (by (exact kpt)) (Nat.le_refl _)) hd hN h1 h2 b hs0).mono ?_); rw [HCB.out]; rintro z w1 ⟨rfl, hb1⟩; refine Blk.thru (b := w.heap.size) (arr := ?_) (t := ?_) ?_ hb1 ?_; rotate_left 2; (focus (exact blk)); intro r0; have r0c0 := r0.cell 0; have r0f0 := r0.free 0; have r0c1 := r0.cell 1; have r0f1 := r0.free 1; have r0c2 := r0.cell 2; have r0f2 := r0.free 2; have r0c3 := r0.cell 3; have r0f3 := r0.free 3; have r0c4 := r0.cell 4; have r0f4 := r0.free 4; have r0l := r0.lt; simp at r0c0 r0c1 r0c2 r0c3 r0c4; refine Blk.thru (b := (w.heap.size + 1)) (arr := ?_) (t := ?_) ?_ hb1 ?_; rotate_left 2; (focus (exact blk)); intro r1; have r1c0 := r1.cell 0; have r1f0 := r1.free 0; have r1c1 := r1.cell 1; have r1f1 := r1.free 1; have r1c2 := r1.cell 2; have r1f2 := r1.free 2; have r1c3 := r1.cell 3; have r1f3 := r1.free 3; have r1c4 := r1.cell 4; have r1f4 := r1.free 4; have r1l := r1.lt; simp at r1c0 r1c1 r1c2 r1c3 r1c4; refine Blk.thru (b := (w.heap.size + 1 + 1)) (arr := ?_) (t := ?_) ?_ hb1 ?_; rotate_left 2; (focus (exact blk)); intro r3; have r3c0 := r3.cell 0; have r3f0 := r3.free 0; have r3c1 := r3.cell 1; have r3f1 := r3.free 1; have r3c2 := r3.cell 2; have r3f2 := r3.free 2; have r3c3 := r3.cell 3; have r3f3 := r3.free 3; have r3l := r3.lt; simp at r3c0 r3c1 r3c2 r3c3))
  exact bodyPost_ret (v := .tuple #[.slice none 0 0, .int .i64 E]) (by simp [results, Tryz.results17, go_sem]) rfl ⟨rfl, by (exact kpt)⟩

theorem f_Plan_wind (a : Option Addr) (c : Nat) (e : Option Addr) (d : Nat) (p : Port) (w : World) (hx : Row Axis.cells 2 w.heap.size w a p.axes) (hc : p.axes.length ≤ c) (hM : c ≤ maxLen) (hy : Row Span.cells 2 w.heap.size w e p.pulls) (hd : p.pulls.length ≤ d) (hN : d ≤ maxLen) (h1 : p.axes.length ≤ 1000000) (h2 : p.pulls.length ≤ 1000000) (b : Berth) (hs0 : 0 ≤ b.ship) (wd : Wind) (ship : Int) (hcb : checkBerth p b = 0) (hw : windB wd = false) :
    Calls Tryz.prog 17 #[.agg #[.slice a p.axes.length c, .int .i64 p.people, .int .i64 p.most, .slice e p.pulls.length d, .int .i64 p.cross], .agg #[.int .u8 b.ship, .int .i64 b.axis, .int .i64 b.held, .bool b.wire, .bool b.opn], .agg #[.int .i64 wd.xlo, .int .i64 wd.xhi, .int .i64 wd.ylo, .int .i64 wd.yhi], .int .u8 ship] w fun z w' => z = .returned (.tuple #[.slice none 0 0, .int .i64 71]) ∧ Kept w w' := by
  have HCB := Lib.hid hcb
  clear hcb
  have HWD := Lib.hid (show checkWind wd = 71 by simp [checkWind, hw])
  clear hw
  go_enter Tryz.func17, Tryz.ntmps17
  go_wp2_with (first | (go_at_call 24; (with_reducible refine (f_CheckBerth a c e d p _ (hx.later (by (exact kpt)) (Nat.le_refl _)) hc hM (hy.later (by (exact kpt)) (Nat.le_refl _)) hd hN h1 h2 b hs0).mono ?_); rw [HCB.out]; rintro z w1 ⟨rfl, hb1⟩; refine Blk.thru (b := w.heap.size) (arr := ?_) (t := ?_) ?_ hb1 ?_; rotate_left 2; (focus (exact blk)); intro r0; have r0c0 := r0.cell 0; have r0f0 := r0.free 0; have r0c1 := r0.cell 1; have r0f1 := r0.free 1; have r0c2 := r0.cell 2; have r0f2 := r0.free 2; have r0c3 := r0.cell 3; have r0f3 := r0.free 3; have r0c4 := r0.cell 4; have r0f4 := r0.free 4; have r0l := r0.lt; simp at r0c0 r0c1 r0c2 r0c3 r0c4; refine Blk.thru (b := (w.heap.size + 1)) (arr := ?_) (t := ?_) ?_ hb1 ?_; rotate_left 2; (focus (exact blk)); intro r1; have r1c0 := r1.cell 0; have r1f0 := r1.free 0; have r1c1 := r1.cell 1; have r1f1 := r1.free 1; have r1c2 := r1.cell 2; have r1f2 := r1.free 2; have r1c3 := r1.cell 3; have r1f3 := r1.free 3; have r1c4 := r1.cell 4; have r1f4 := r1.free 4; have r1l := r1.lt; simp at r1c0 r1c1 r1c2 r1c3 r1c4; refine Blk.thru (b := (w.heap.size + 1 + 1)) (arr := ?_) (t := ?_) ?_ hb1 ?_; rotate_left 2; (focus (exact blk)); intro r3; have r3c0 := r3.cell 0; have r3f0 := r3.free 0; have r3c1 := r3.cell 1; have r3f1 := r3.free 1; have r3c2 := r3.cell 2; have r3f2 := r3.free 2; have r3c3 := r3.cell 3; have r3f3 := r3.free 3; have r3l := r3.lt; simp at r3c0 r3c1 r3c2 r3c3) | (go_at_call 39; (with_reducible refine (f_CheckWind wd _).mono ?_); rw [HWD.out]; rintro z w2 ⟨rfl, hb2⟩; refine Blk.thru (b := w.heap.size) (arr := ?_) (t := ?_) ?_ hb2 ?_; rotate_left 2; (focus (exact blk)); intro r0; have r0c0 := r0.cell 0; have r0f0 := r0.free 0; have r0c1 := r0.cell 1; have r0f1 := r0.free 1; have r0c2 := r0.cell 2; have r0f2 := r0.free 2; have r0c3 := r0.cell 3; have r0f3 := r0.free 3; have r0c4 := r0.cell 4; have r0f4 := r0.free 4; have r0l := r0.lt; simp at r0c0 r0c1 r0c2 r0c3 r0c4; refine Blk.thru (b := (w.heap.size + 1)) (arr := ?_) (t := ?_) ?_ hb2 ?_; rotate_left 2; (focus (exact blk)); intro r1; have r1c0 := r1.cell 0; have r1f0 := r1.free 0; have r1c1 := r1.cell 1; have r1f1 := r1.free 1; have r1c2 := r1.cell 2; have r1f2 := r1.free 2; have r1c3 := r1.cell 3; have r1f3 := r1.free 3; have r1c4 := r1.cell 4; have r1f4 := r1.free 4; have r1l := r1.lt; simp at r1c0 r1c1 r1c2 r1c3 r1c4; refine Blk.thru (b := (w.heap.size + 1 + 1)) (arr := ?_) (t := ?_) ?_ hb2 ?_; rotate_left 2; (focus (exact blk)); intro r3; have r3c0 := r3.cell 0; have r3f0 := r3.free 0; have r3c1 := r3.cell 1; have r3f1 := r3.free 1; have r3c2 := r3.cell 2; have r3f2 := r3.free 2; have r3c3 := r3.cell 3; have r3f3 := r3.free 3; have r3l := r3.lt; simp at r3c0 r3c1 r3c2 r3c3))
  exact bodyPost_ret (v := .tuple #[.slice none 0 0, .int .i64 71]) (by simp [results, Tryz.results17, go_sem]) rfl ⟨rfl, by (exact kpt)⟩

theorem f_Plan_ship (a : Option Addr) (c : Nat) (e : Option Addr) (d : Nat) (p : Port) (w : World) (hx : Row Axis.cells 2 w.heap.size w a p.axes) (hc : p.axes.length ≤ c) (hM : c ≤ maxLen) (hy : Row Span.cells 2 w.heap.size w e p.pulls) (hd : p.pulls.length ≤ d) (hN : d ≤ maxLen) (h1 : p.axes.length ≤ 1000000) (h2 : p.pulls.length ≤ 1000000) (b : Berth) (hs0 : 0 ≤ b.ship) (wd : Wind) (ship : Int) (hcb : checkBerth p b = 0) (hw : windB wd = true) (hsh : 5 < ship) :
    Calls Tryz.prog 17 #[.agg #[.slice a p.axes.length c, .int .i64 p.people, .int .i64 p.most, .slice e p.pulls.length d, .int .i64 p.cross], .agg #[.int .u8 b.ship, .int .i64 b.axis, .int .i64 b.held, .bool b.wire, .bool b.opn], .agg #[.int .i64 wd.xlo, .int .i64 wd.xhi, .int .i64 wd.ylo, .int .i64 wd.yhi], .int .u8 ship] w fun z w' => z = .returned (.tuple #[.slice none 0 0, .int .i64 2]) ∧ Kept w w' := by
  have HCB := Lib.hid hcb
  clear hcb
  have HWD := Lib.hid (show checkWind wd = 0 by simp [checkWind, hw])
  clear hw
  go_enter Tryz.func17, Tryz.ntmps17
  go_wp2_with (first | (go_at_call 24; (with_reducible refine (f_CheckBerth a c e d p _ (hx.later (by (exact kpt)) (Nat.le_refl _)) hc hM (hy.later (by (exact kpt)) (Nat.le_refl _)) hd hN h1 h2 b hs0).mono ?_); rw [HCB.out]; rintro z w1 ⟨rfl, hb1⟩; refine Blk.thru (b := w.heap.size) (arr := ?_) (t := ?_) ?_ hb1 ?_; rotate_left 2; (focus (exact blk)); intro r0; have r0c0 := r0.cell 0; have r0f0 := r0.free 0; have r0c1 := r0.cell 1; have r0f1 := r0.free 1; have r0c2 := r0.cell 2; have r0f2 := r0.free 2; have r0c3 := r0.cell 3; have r0f3 := r0.free 3; have r0c4 := r0.cell 4; have r0f4 := r0.free 4; have r0l := r0.lt; simp at r0c0 r0c1 r0c2 r0c3 r0c4; refine Blk.thru (b := (w.heap.size + 1)) (arr := ?_) (t := ?_) ?_ hb1 ?_; rotate_left 2; (focus (exact blk)); intro r1; have r1c0 := r1.cell 0; have r1f0 := r1.free 0; have r1c1 := r1.cell 1; have r1f1 := r1.free 1; have r1c2 := r1.cell 2; have r1f2 := r1.free 2; have r1c3 := r1.cell 3; have r1f3 := r1.free 3; have r1c4 := r1.cell 4; have r1f4 := r1.free 4; have r1l := r1.lt; simp at r1c0 r1c1 r1c2 r1c3 r1c4; refine Blk.thru (b := (w.heap.size + 1 + 1)) (arr := ?_) (t := ?_) ?_ hb1 ?_; rotate_left 2; (focus (exact blk)); intro r3; have r3c0 := r3.cell 0; have r3f0 := r3.free 0; have r3c1 := r3.cell 1; have r3f1 := r3.free 1; have r3c2 := r3.cell 2; have r3f2 := r3.free 2; have r3c3 := r3.cell 3; have r3f3 := r3.free 3; have r3l := r3.lt; simp at r3c0 r3c1 r3c2 r3c3) | (go_at_call 39; (with_reducible refine (f_CheckWind wd _).mono ?_); rw [HWD.out]; rintro z w2 ⟨rfl, hb2⟩; refine Blk.thru (b := w.heap.size) (arr := ?_) (t := ?_) ?_ hb2 ?_; rotate_left 2; (focus (exact blk)); intro r0; have r0c0 := r0.cell 0; have r0f0 := r0.free 0; have r0c1 := r0.cell 1; have r0f1 := r0.free 1; have r0c2 := r0.cell 2; have r0f2 := r0.free 2; have r0c3 := r0.cell 3; have r0f3 := r0.free 3; have r0c4 := r0.cell 4; have r0f4 := r0.free 4; have r0l := r0.lt; simp at r0c0 r0c1 r0c2 r0c3 r0c4; refine Blk.thru (b := (w.heap.size + 1)) (arr := ?_) (t := ?_) ?_ hb2 ?_; rotate_left 2; (focus (exact blk)); intro r1; have r1c0 := r1.cell 0; have r1f0 := r1.free 0; have r1c1 := r1.cell 1; have r1f1 := r1.free 1; have r1c2 := r1.cell 2; have r1f2 := r1.free 2; have r1c3 := r1.cell 3; have r1f3 := r1.free 3; have r1c4 := r1.cell 4; have r1f4 := r1.free 4; have r1l := r1.lt; simp at r1c0 r1c1 r1c2 r1c3 r1c4; refine Blk.thru (b := (w.heap.size + 1 + 1)) (arr := ?_) (t := ?_) ?_ hb2 ?_; rotate_left 2; (focus (exact blk)); intro r3; have r3c0 := r3.cell 0; have r3f0 := r3.free 0; have r3c1 := r3.cell 1; have r3f1 := r3.free 1; have r3c2 := r3.cell 2; have r3f2 := r3.free 2; have r3c3 := r3.cell 3; have r3f3 := r3.free 3; have r3l := r3.lt; simp at r3c0 r3c1 r3c2 r3c3))
  exact bodyPost_ret (v := .tuple #[.slice none 0 0, .int .i64 2]) (by simp [results, Tryz.results17, go_sem]) rfl ⟨rfl, by (exact kpt)⟩

end Go.Proofs.YtacbkbilbmkjnaaGreat

/-
  Berths, checked in the reference.
-/
namespace Go.Proofs.YtacbkbilbmkjnaaGreat
open Go.RowKit Bal Bal.Trim Bal.Mast
set_option linter.unusedVariables false
set_option linter.unusedSimpArgs false
set_option maxHeartbeats 4000000
set_option maxRecDepth 10000

theorem r_withinK (n lo hi : Int) (w : World) (V : Bool) (h : inB n lo hi = V) :
    Calls Tryz.prog 65 #[.int .i64 n, .int .i64 lo, .int .i64 hi] w fun z w' => z = .returned (.bool V) ∧ Kept w w' := by
  subst h
  exact (r_within n lo hi w).mono fun z w' ⟨h1, h2⟩ => ⟨h1, h2 ▸ Below.refl _ _⟩
theorem r_Berth (a : Option Addr) (c : Nat) (e : Option Addr) (d : Nat) (p : Port) (w : World) (hx : Row Axis.cells 2 w.heap.size w a p.axes) (hc : p.axes.length ≤ c) (hM : c ≤ maxLen) (hy : Row Span.cells 2 w.heap.size w e p.pulls) (hd : p.pulls.length ≤ d) (hN : d ≤ maxLen) (h1 : p.axes.length ≤ 1000000) (h2 : p.pulls.length ≤ 1000000) (b : Berth) (hs0 : 0 ≤ b.ship) (hp : portB p = true) :
    Calls Tryz.prog 48 #[.agg #[.slice a p.axes.length c, .int .i64 p.people, .int .i64 p.most, .slice e p.pulls.length d, .int .i64 p.cross], .agg #[.int .u8 b.ship, .int .i64 b.axis, .int .i64 b.held, .bool b.wire, .bool b.opn]] w fun z w' => z = .returned (.bool (berthB p b)) ∧ Kept w w' := by
  have hM' := hM
  have hN' := hN
  unfold maxLen at hM' hN'
  have hbd := portB_bd hp
  have hnd := needP_bd hp
  have u1 : IntKind.i64.wrap ((p.axes.length : Int) - 1) = (p.axes.length : Int) - 1 := by rw [IntKind.wrap_i64]; omega
  go_enter Tryz.func48, Tryz.ntmps48
  go_upto_region 1 with fail
  refine at_world (S := fun V => Blk V w.heap.size #[.slice a p.axes.length c, .int .i64 p.people, .int .i64 p.most, .slice e p.pulls.length d, .int .i64 p.cross] 25 ∧ Blk V (w.heap.size + 1) #[.int .u8 b.ship, .int .i64 b.axis, .int .i64 b.held, .bool b.wire, .bool b.opn] 37 ∧ Kept w V) ⟨by (exact blk), by (exact blk), by (exact kpt)⟩ ?_
  rintro W ⟨rp, rb, hk⟩
  have rpc0 := fun g : Later W => (rp.later g).cell 0
  have rpc1 := fun g : Later W => (rp.later g).cell 1
  have rpc2 := fun g : Later W => (rp.later g).cell 2
  have rpc3 := fun g : Later W => (rp.later g).cell 3
  have rpc4 := fun g : Later W => (rp.later g).cell 4
  have rpf0 := fun g : Later W => (rp.later g).free 0
  have rpf1 := fun g : Later W => (rp.later g).free 1
  have rpf2 := fun g : Later W => (rp.later g).free 2
  have rpf3 := fun g : Later W => (rp.later g).free 3
  have rpf4 := fun g : Later W => (rp.later g).free 4
  have rpl := fun g : Later W => (rp.later g).lt
  simp at rpc0 rpc1 rpc2 rpc3 rpc4
  have rbc0 := fun g : Later W => (rb.later g).cell 0
  have rbc1 := fun g : Later W => (rb.later g).cell 1
  have rbc2 := fun g : Later W => (rb.later g).cell 2
  have rbc3 := fun g : Later W => (rb.later g).cell 3
  have rbc4 := fun g : Later W => (rb.later g).cell 4
  have rbf0 := fun g : Later W => (rb.later g).free 0
  have rbf1 := fun g : Later W => (rb.later g).free 1
  have rbf2 := fun g : Later W => (rb.later g).free 2
  have rbf3 := fun g : Later W => (rb.later g).free 3
  have rbf4 := fun g : Later W => (rb.later g).free 4
  have rbl := fun g : Later W => (rb.later g).lt
  simp at rbc0 rbc1 rbc2 rbc3 rbc4
  by_cases v1 : 5 < b.ship
  · have hfit : fitsB p b = false := by simp [fitsB]; omega
    refine Later.region (by kernel_rfl) (by kernel_rfl) ?_
    repeat (first | go_big_quiet_skip | (go_big_quiet_want; go_big_quiet_op; first | go_big_quiet_on | (apply Exists.intro; refine ⟨fun g => ?_, ?_⟩; (focus (first | (go_at_call 65; with_reducible exact Later.call (r_withinK b.axis 0 (p.axes.length - 1) _ _ HV2.out)) | (go_at_call 47; with_reducible exact Later.call (r_Need a c e d p _ (hx.later (Kept.drop hk g.ok) (Nat.le_refl _)) hc hM (hy.later (Kept.drop hk g.ok) (Nat.le_refl _)) hd hN h1 h2 hp)) | (go_at_call 65; with_reducible exact Later.call (r_withinK b.held (needP p) p.people _ _ HV4.out)))); go_big_quiet_on)))
    refine wpQuiet_nil ?_
    intro gg
    have rb2 := rb.later gg
    have hkg := Kept.drop hk gg.ok
    clear rb hk rpc0 rpf0 rpc1 rpf1 rpc2 rpf2 rpc3 rpf3 rpc4 rpf4 rbc0 rbf0 rbc1 rbf1 rbc2 rbf2 rbc3 rbf3 rbc4 rbf4 rpl rbl
    have HE := Lib.hid (show berthB p b = false by simp [berthB, hfit])
    go_wp2
    exact bodyPost_ret (v := .bool (berthB p b)) (by rw [HE.out]; simp [results, Tryz.results48, go_sem]) rfl ⟨rfl, by (exact kpt)⟩
  · have v1' : b.ship ≤ 5 := by omega
    cases v2 : inB b.axis 0 (p.axes.length - 1)
    · have hfit : fitsB p b = false := by simp [fitsB, v2]
      have HV2 := Lib.hid v2
      clear v2
      refine Later.region (by kernel_rfl) (by kernel_rfl) ?_
      repeat (first | go_big_quiet_skip | (go_big_quiet_want; go_big_quiet_op; first | go_big_quiet_on | (apply Exists.intro; refine ⟨fun g => ?_, ?_⟩; (focus (first | (go_at_call 65; with_reducible exact Later.call (r_withinK b.axis 0 (p.axes.length - 1) _ _ HV2.out)) | (go_at_call 47; with_reducible exact Later.call (r_Need a c e d p _ (hx.later (Kept.drop hk g.ok) (Nat.le_refl _)) hc hM (hy.later (Kept.drop hk g.ok) (Nat.le_refl _)) hd hN h1 h2 hp)) | (go_at_call 65; with_reducible exact Later.call (r_withinK b.held (needP p) p.people _ _ HV4.out)))); go_big_quiet_on)))
      refine wpQuiet_nil ?_
      intro gg
      have rb2 := rb.later gg
      have hkg := Kept.drop hk gg.ok
      clear rb hk rpc0 rpf0 rpc1 rpf1 rpc2 rpf2 rpc3 rpf3 rpc4 rpf4 rbc0 rbf0 rbc1 rbf1 rbc2 rbf2 rbc3 rbf3 rbc4 rbf4 rpl rbl
      have HE := Lib.hid (show berthB p b = false by simp [berthB, hfit])
      go_wp2
      exact bodyPost_ret (v := .bool (berthB p b)) (by rw [HE.out]; simp [results, Tryz.results48, go_sem]) rfl ⟨rfl, by (exact kpt)⟩
    · have HV2 := Lib.hid v2
      by_cases v3 : b.held = 0
      · have hfit : fitsB p b = true := by simp [fitsB, v1', v2, v3]
        clear v2
        refine Later.region (by kernel_rfl) (by kernel_rfl) ?_
        repeat (first | go_big_quiet_skip | (go_big_quiet_want; go_big_quiet_op; first | go_big_quiet_on | (apply Exists.intro; refine ⟨fun g => ?_, ?_⟩; (focus (first | (go_at_call 65; with_reducible exact Later.call (r_withinK b.axis 0 (p.axes.length - 1) _ _ HV2.out)) | (go_at_call 47; with_reducible exact Later.call (r_Need a c e d p _ (hx.later (Kept.drop hk g.ok) (Nat.le_refl _)) hc hM (hy.later (Kept.drop hk g.ok) (Nat.le_refl _)) hd hN h1 h2 hp)) | (go_at_call 65; with_reducible exact Later.call (r_withinK b.held (needP p) p.people _ _ HV4.out)))); go_big_quiet_on)))
        refine wpQuiet_nil ?_
        intro gg
        have rb2 := rb.later gg
        have hkg := Kept.drop hk gg.ok
        clear rb hk rpc0 rpf0 rpc1 rpf1 rpc2 rpf2 rpc3 rpf3 rpc4 rpf4 rbc0 rbf0 rbc1 rbf1 rbc2 rbf2 rbc3 rbf3 rbc4 rbf4 rpl rbl
        go_upto_region 3 with fail
        refine at_world (S := fun V => Blk V (w.heap.size + 1) #[.int .u8 b.ship, .int .i64 b.axis, .int .i64 b.held, .bool b.wire, .bool b.opn] 37 ∧ Kept w V) ⟨by (exact blk), by (exact kpt)⟩ ?_
        clear rb2 hkg
        rintro W6 ⟨rb, hk⟩
        cases hw : b.wire <;> cases ho : b.opn <;> rcases (by omega : b.ship = 0 ∨ b.ship = 1 ∨ b.ship = 2 ∨ b.ship = 3 ∨ b.ship = 4 ∨ b.ship = 5) with he | he | he | he | he | he
        all_goals
          obtain ⟨E, hE⟩ : ∃ E, berthB p b = E := ⟨_, rfl⟩
          have GE := hE
          simp [berthB, hfit, shipB, he, hw, ho, v3] at GE
          subst GE
          have HE := Lib.hid hE
          rw [hw, ho, he] at rb
          have rbc0 := rb.cell 0
          have rbc1 := rb.cell 1
          have rbc2 := rb.cell 2
          have rbc3 := rb.cell 3
          have rbc4 := rb.cell 4
          have rbf0 := rb.free 0
          have rbf1 := rb.free 1
          have rbf2 := rb.free 2
          have rbf3 := rb.free 3
          have rbf4 := rb.free 4
          have rbl := rb.lt
          simp at rbc0 rbc1 rbc2 rbc3 rbc4
          clear hE hw ho he
          go_wp2
          exact bodyPost_ret (v := .bool (berthB p b)) (by rw [HE.out]; simp [results, Tryz.results48, go_sem]) rfl ⟨rfl, by (exact kpt)⟩
      · have v5 : (b.held == 0) = false := beq_eq_false_iff_ne.2 v3
        have v6 : (b.held != 0) = true := by simp [v3]
        cases v4 : inB b.held (needP p) p.people
        · have hfit : fitsB p b = false := by simp [fitsB, v3, v4]
          have HV4 := Lib.hid v4
          clear v2 v4
          refine Later.region (by kernel_rfl) (by kernel_rfl) ?_
          repeat (first | go_big_quiet_skip | (go_big_quiet_want; go_big_quiet_op; first | go_big_quiet_on | (apply Exists.intro; refine ⟨fun g => ?_, ?_⟩; (focus (first | (go_at_call 65; with_reducible exact Later.call (r_withinK b.axis 0 (p.axes.length - 1) _ _ HV2.out)) | (go_at_call 47; with_reducible exact Later.call (r_Need a c e d p _ (hx.later (Kept.drop hk g.ok) (Nat.le_refl _)) hc hM (hy.later (Kept.drop hk g.ok) (Nat.le_refl _)) hd hN h1 h2 hp)) | (go_at_call 65; with_reducible exact Later.call (r_withinK b.held (needP p) p.people _ _ HV4.out)))); go_big_quiet_on)))
          refine wpQuiet_nil ?_
          intro gg
          have rb2 := rb.later gg
          have hkg := Kept.drop hk gg.ok
          clear rb hk rpc0 rpf0 rpc1 rpf1 rpc2 rpf2 rpc3 rpf3 rpc4 rpf4 rbc0 rbf0 rbc1 rbf1 rbc2 rbf2 rbc3 rbf3 rbc4 rbf4 rpl rbl
          have HE := Lib.hid (show berthB p b = false by simp [berthB, hfit])
          go_wp2
          exact bodyPost_ret (v := .bool (berthB p b)) (by rw [HE.out]; simp [results, Tryz.results48, go_sem]) rfl ⟨rfl, by (exact kpt)⟩
        · have hfit : fitsB p b = true := by simp [fitsB, v1', v2, v3, v4]
          have hpos : 0 < b.held := by have := inB_iff.1 v4; omega
          have HV4 := Lib.hid v4
          clear v2 v4
          refine Later.region (by kernel_rfl) (by kernel_rfl) ?_
          repeat (first | go_big_quiet_skip | (go_big_quiet_want; go_big_quiet_op; first | go_big_quiet_on | (apply Exists.intro; refine ⟨fun g => ?_, ?_⟩; (focus (first | (go_at_call 65; with_reducible exact Later.call (r_withinK b.axis 0 (p.axes.length - 1) _ _ HV2.out)) | (go_at_call 47; with_reducible exact Later.call (r_Need a c e d p _ (hx.later (Kept.drop hk g.ok) (Nat.le_refl _)) hc hM (hy.later (Kept.drop hk g.ok) (Nat.le_refl _)) hd hN h1 h2 hp)) | (go_at_call 65; with_reducible exact Later.call (r_withinK b.held (needP p) p.people _ _ HV4.out)))); go_big_quiet_on)))
          refine wpQuiet_nil ?_
          intro gg
          have rb2 := rb.later gg
          have hkg := Kept.drop hk gg.ok
          clear rb hk rpc0 rpf0 rpc1 rpf1 rpc2 rpf2 rpc3 rpf3 rpc4 rpf4 rbc0 rbf0 rbc1 rbf1 rbc2 rbf2 rbc3 rbf3 rbc4 rbf4 rpl rbl
          go_upto_region 3 with fail
          refine at_world (S := fun V => Blk V (w.heap.size + 1) #[.int .u8 b.ship, .int .i64 b.axis, .int .i64 b.held, .bool b.wire, .bool b.opn] 37 ∧ Kept w V) ⟨by (exact blk), by (exact kpt)⟩ ?_
          clear rb2 hkg
          rintro W6 ⟨rb, hk⟩
          cases hw : b.wire <;> cases ho : b.opn <;> rcases (by omega : b.ship = 0 ∨ b.ship = 1 ∨ b.ship = 2 ∨ b.ship = 3 ∨ b.ship = 4 ∨ b.ship = 5) with he | he | he | he | he | he
          all_goals
            obtain ⟨E, hE⟩ : ∃ E, berthB p b = E := ⟨_, rfl⟩
            have GE := hE
            simp [berthB, hfit, shipB, he, hw, ho, v3, hpos] at GE
            subst GE
            have HE := Lib.hid hE
            rw [hw, ho, he] at rb
            have rbc0 := rb.cell 0
            have rbc1 := rb.cell 1
            have rbc2 := rb.cell 2
            have rbc3 := rb.cell 3
            have rbc4 := rb.cell 4
            have rbf0 := rb.free 0
            have rbf1 := rb.free 1
            have rbf2 := rb.free 2
            have rbf3 := rb.free 3
            have rbf4 := rb.free 4
            have rbl := rb.lt
            simp at rbc0 rbc1 rbc2 rbc3 rbc4
            clear hE hw ho he
            go_wp2
            exact bodyPost_ret (v := .bool (berthB p b)) (by rw [HE.out]; simp [results, Tryz.results48, go_sem]) rfl ⟨rfl, by (exact kpt)⟩

theorem r_CheckBerth (a : Option Addr) (c : Nat) (e : Option Addr) (d : Nat) (p : Port) (w : World) (hx : Row Axis.cells 2 w.heap.size w a p.axes) (hc : p.axes.length ≤ c) (hM : c ≤ maxLen) (hy : Row Span.cells 2 w.heap.size w e p.pulls) (hd : p.pulls.length ≤ d) (hN : d ≤ maxLen) (h1 : p.axes.length ≤ 1000000) (h2 : p.pulls.length ≤ 1000000) (b : Berth) (hs0 : 0 ≤ b.ship) :
    Calls Tryz.prog 15 #[.agg #[.slice a p.axes.length c, .int .i64 p.people, .int .i64 p.most, .slice e p.pulls.length d, .int .i64 p.cross], .agg #[.int .u8 b.ship, .int .i64 b.axis, .int .i64 b.held, .bool b.wire, .bool b.opn]] w fun z w' => z = .returned (.int .i64 (checkBerth p b)) ∧ Kept w w' := by
  unfold checkBerth
  cases hp : portB p
  · have HPB := Lib.hid hp
    clear hp
    go_enter Tryz.func15, Tryz.ntmps15
    go_wp2_with (go_at_call 46; (with_reducible refine (r_Port a c e d p _ (hx.later (by (exact kpt)) (Nat.le_refl _)) hc hM (hy.later (by (exact kpt)) (Nat.le_refl _)) hd hN h1 h2).mono ?_); rw [HPB.out]; rintro z w1 ⟨rfl, hb1⟩; refine Blk.thru (b := w.heap.size) (arr := ?_) (t := ?_) ?_ hb1 ?_; rotate_left 2; (focus (exact blk)); intro r0; have r0c0 := r0.cell 0; have r0f0 := r0.free 0; have r0c1 := r0.cell 1; have r0f1 := r0.free 1; have r0c2 := r0.cell 2; have r0f2 := r0.free 2; have r0c3 := r0.cell 3; have r0f3 := r0.free 3; have r0c4 := r0.cell 4; have r0f4 := r0.free 4; have r0l := r0.lt; simp at r0c0 r0c1 r0c2 r0c3 r0c4; refine Blk.thru (b := (w.heap.size + 1)) (arr := ?_) (t := ?_) ?_ hb1 ?_; rotate_left 2; (focus (exact blk)); intro r1; have r1c0 := r1.cell 0; have r1f0 := r1.free 0; have r1c1 := r1.cell 1; have r1f1 := r1.free 1; have r1c2 := r1.cell 2; have r1f2 := r1.free 2; have r1c3 := r1.cell 3; have r1f3 := r1.free 3; have r1c4 := r1.cell 4; have r1f4 := r1.free 4; have r1l := r1.lt; simp at r1c0 r1c1 r1c2 r1c3 r1c4)
    exact bodyPost_ret (v := .int .i64 72) (by simp [results, Tryz.results15, go_sem]) rfl ⟨rfl, by (exact kpt)⟩
  · have HPB := Lib.hid hp
    cases hb : berthB p b
    all_goals
      have HBB := Lib.hid hb
      clear hp hb
      go_enter Tryz.func15, Tryz.ntmps15
      go_wp2_with (first | (go_at_call 46; (with_reducible refine (r_Port a c e d p _ (hx.later (by (exact kpt)) (Nat.le_refl _)) hc hM (hy.later (by (exact kpt)) (Nat.le_refl _)) hd hN h1 h2).mono ?_); rw [HPB.out]; rintro z w1 ⟨rfl, hb1⟩; refine Blk.thru (b := w.heap.size) (arr := ?_) (t := ?_) ?_ hb1 ?_; rotate_left 2; (focus (exact blk)); intro r0; have r0c0 := r0.cell 0; have r0f0 := r0.free 0; have r0c1 := r0.cell 1; have r0f1 := r0.free 1; have r0c2 := r0.cell 2; have r0f2 := r0.free 2; have r0c3 := r0.cell 3; have r0f3 := r0.free 3; have r0c4 := r0.cell 4; have r0f4 := r0.free 4; have r0l := r0.lt; simp at r0c0 r0c1 r0c2 r0c3 r0c4; refine Blk.thru (b := (w.heap.size + 1)) (arr := ?_) (t := ?_) ?_ hb1 ?_; rotate_left 2; (focus (exact blk)); intro r1; have r1c0 := r1.cell 0; have r1f0 := r1.free 0; have r1c1 := r1.cell 1; have r1f1 := r1.free 1; have r1c2 := r1.cell 2; have r1f2 := r1.free 2; have r1c3 := r1.cell 3; have r1f3 := r1.free 3; have r1c4 := r1.cell 4; have r1f4 := r1.free 4; have r1l := r1.lt; simp at r1c0 r1c1 r1c2 r1c3 r1c4) | (go_at_call 48; (with_reducible refine (r_Berth a c e d p _ (hx.later (by (exact kpt)) (Nat.le_refl _)) hc hM (hy.later (by (exact kpt)) (Nat.le_refl _)) hd hN h1 h2 b hs0 HPB.out).mono ?_); rw [HBB.out]; rintro z w1 ⟨rfl, hb1⟩))
      exact bodyPost_ret (v := .int .i64 _) (by simp [results, Tryz.results15, go_sem]) rfl ⟨rfl, by (exact kpt)⟩

end Go.Proofs.YtacbkbilbmkjnaaGreat

/-
  Do.
-/
namespace Go.Proofs.YtacbkbilbmkjnaaGreat
open Go.RowKit Bal Bal.Trim Bal.Mast
set_option linter.unusedVariables false
set_option linter.unusedSimpArgs false
set_option maxHeartbeats 4000000
set_option maxRecDepth 10000

theorem f_Do_bad (a : Option Addr) (c : Nat) (e : Option Addr) (d : Nat) (p : Port) (w : World) (hx : Row Axis.cells 2 w.heap.size w a p.axes) (hc : p.axes.length ≤ c) (hM : c ≤ maxLen) (hy : Row Span.cells 2 w.heap.size w e p.pulls) (hd : p.pulls.length ≤ d) (hN : d ≤ maxLen) (h1 : p.axes.length ≤ 1000000) (h2 : p.pulls.length ≤ 1000000) (b : Berth) (hs0 : 0 ≤ b.ship) (s : Step) (hk0 : 0 ≤ s.act.kind ∧ s.act.kind ≤ 255) (h : doErr p b s ≠ 0) :
    Calls Tryz.prog 23 #[.agg #[.slice a p.axes.length c, .int .i64 p.people, .int .i64 p.most, .slice e p.pulls.length d, .int .i64 p.cross], .agg #[.int .u8 b.ship, .int .i64 b.axis, .int .i64 b.held, .bool b.wire, .bool b.opn], .agg #[.int .u8 s.act.kind, .int .i64 s.act.n, .int .i64 s.wind.xlo, .int .i64 s.wind.xhi, .int .i64 s.wind.ylo, .int .i64 s.wind.yhi]] w fun z w' => z = .returned (.tuple #[.agg #[.int .u8 (doB p b s).ship, .int .i64 (doB p b s).axis, .int .i64 (doB p b s).held, .bool (doB p b s).wire, .bool (doB p b s).opn], .int .i64 (doRule p b s), .int .i64 (doE p b s)]) ∧ Kept w w' := by
  obtain ⟨E, hE⟩ : ∃ E, doErr p b s = E := ⟨_, rfl⟩
  have e1 : doE p b s = E := by unfold doE; rw [if_neg h, hE]
  have e2 : doRule p b s = 0 := by unfold doRule; rw [if_neg h]
  have e3 : doB p b s = noBerth := by unfold doB; rw [e1, if_neg (by rw [← hE]; exact h)]
  rw [e1, e2, e3]
  clear e1 e2 e3
  unfold doErr at hE h
  by_cases c1 : checkBerth p b = 0
  · rw [if_pos c1] at hE h
    have HCB := Lib.hid c1
    cases c2 : windB s.wind
    · rw [c2] at hE
      simp at hE
      subst hE
      have HCW := Lib.hid (show checkWind s.wind = 71 by simp [checkWind, c2])
      clear h c1 c2
      go_enter Tryz.func23, Tryz.ntmps23
      go_wp2_with (first | (go_at_call 24; (with_reducible refine (f_CheckBerth a c e d p _ (hx.later (by (exact kpt)) (Nat.le_refl _)) hc hM (hy.later (by (exact kpt)) (Nat.le_refl _)) hd hN h1 h2 b hs0).mono ?_); rw [HCB.out]; rintro z w1 ⟨rfl, hb1⟩; refine Blk.thru (b := w.heap.size) (arr := ?_) (t := ?_) ?_ hb1 ?_; rotate_left 2; (focus (exact blk)); intro r0; have r0c0 := r0.cell 0; have r0f0 := r0.free 0; have r0c1 := r0.cell 1; have r0f1 := r0.free 1; have r0c2 := r0.cell 2; have r0f2 := r0.free 2; have r0c3 := r0.cell 3; have r0f3 := r0.free 3; have r0c4 := r0.cell 4; have r0f4 := r0.free 4; have r0l := r0.lt; simp at r0c0 r0c1 r0c2 r0c3 r0c4; refine Blk.thru (b := (w.heap.size + 1)) (arr := ?_) (t := ?_) ?_ hb1 ?_; rotate_left 2; (focus (exact blk)); intro r1; have r1c0 := r1.cell 0; have r1f0 := r1.free 0; have r1c1 := r1.cell 1; have r1f1 := r1.free 1; have r1c2 := r1.cell 2; have r1f2 := r1.free 2; have r1c3 := r1.cell 3; have r1f3 := r1.free 3; have r1c4 := r1.cell 4; have r1f4 := r1.free 4; have r1l := r1.lt; simp at r1c0 r1c1 r1c2 r1c3 r1c4; refine Blk.thru (b := (w.heap.size + 1 + 1)) (arr := ?_) (t := ?_) ?_ hb1 ?_; rotate_left 2; (focus (exact blk)); intro r2; have r2c0 := r2.cell 0; have r2f0 := r2.free 0; have r2c1 := r2.cell 1; have r2f1 := r2.free 1; have r2c2 := r2.cell 2; have r2f2 := r2.free 2; have r2c3 := r2.cell 3; have r2f3 := r2.free 3; have r2c4 := r2.cell 4; have r2f4 := r2.free 4; have r2c5 := r2.cell 5; have r2f5 := r2.free 5; have r2l := r2.lt; simp at r2c0 r2c1 r2c2 r2c3 r2c4 r2c5; refine Blk.thru (b := (w.heap.size + 1 + 1 + 1)) (arr := ?_) (t := ?_) ?_ hb1 ?_; rotate_left 2; (focus (exact blk)); intro r3; have r3c0 := r3.cell 0; have r3f0 := r3.free 0; have r3c1 := r3.cell 1; have r3f1 := r3.free 1; have r3c2 := r3.cell 2; have r3f2 := r3.free 2; have r3c3 := r3.cell 3; have r3f3 := r3.free 3; have r3c4 := r3.cell 4; have r3f4 := r3.free 4; have r3l := r3.lt; simp at r3c0 r3c1 r3c2 r3c3 r3c4) | (go_at_call 39; (with_reducible refine (f_CheckWind s.wind _).mono ?_); rw [HCW.out]; rintro z w2 ⟨rfl, hb2⟩; refine Blk.thru (b := w.heap.size) (arr := ?_) (t := ?_) ?_ hb2 ?_; rotate_left 2; (focus (exact blk)); intro r0; have r0c0 := r0.cell 0; have r0f0 := r0.free 0; have r0c1 := r0.cell 1; have r0f1 := r0.free 1; have r0c2 := r0.cell 2; have r0f2 := r0.free 2; have r0c3 := r0.cell 3; have r0f3 := r0.free 3; have r0c4 := r0.cell 4; have r0f4 := r0.free 4; have r0l := r0.lt; simp at r0c0 r0c1 r0c2 r0c3 r0c4; refine Blk.thru (b := (w.heap.size + 1)) (arr := ?_) (t := ?_) ?_ hb2 ?_; rotate_left 2; (focus (exact blk)); intro r1; have r1c0 := r1.cell 0; have r1f0 := r1.free 0; have r1c1 := r1.cell 1; have r1f1 := r1.free 1; have r1c2 := r1.cell 2; have r1f2 := r1.free 2; have r1c3 := r1.cell 3; have r1f3 := r1.free 3; have r1c4 := r1.cell 4; have r1f4 := r1.free 4; have r1l := r1.lt; simp at r1c0 r1c1 r1c2 r1c3 r1c4; refine Blk.thru (b := (w.heap.size + 1 + 1)) (arr := ?_) (t := ?_) ?_ hb2 ?_; rotate_left 2; (focus (exact blk)); intro r2; have r2c0 := r2.cell 0; have r2f0 := r2.free 0; have r2c1 := r2.cell 1; have r2f1 := r2.free 1; have r2c2 := r2.cell 2; have r2f2 := r2.free 2; have r2c3 := r2.cell 3; have r2f3 := r2.free 3; have r2c4 := r2.cell 4; have r2f4 := r2.free 4; have r2c5 := r2.cell 5; have r2f5 := r2.free 5; have r2l := r2.lt; simp at r2c0 r2c1 r2c2 r2c3 r2c4 r2c5; refine Blk.thru (b := (w.heap.size + 1 + 1 + 1)) (arr := ?_) (t := ?_) ?_ hb2 ?_; rotate_left 2; (focus (exact blk)); intro r3; have r3c0 := r3.cell 0; have r3f0 := r3.free 0; have r3c1 := r3.cell 1; have r3f1 := r3.free 1; have r3c2 := r3.cell 2; have r3f2 := r3.free 2; have r3c3 := r3.cell 3; have r3f3 := r3.free 3; have r3c4 := r3.cell 4; have r3f4 := r3.free 4; have r3l := r3.lt; simp at r3c0 r3c1 r3c2 r3c3 r3c4))
      exact bodyPost_ret (v := .tuple #[.agg #[.int .u8 noBerth.ship, .int .i64 noBerth.axis, .int .i64 noBerth.held, .bool noBerth.wire, .bool noBerth.opn], .int .i64 0, .int .i64 71]) (by first | (simp [results, Tryz.results23, go_sem, noBerth, r3c0, r3c1, r3c2, r3c3, r3c4, r3l]; done) | (simp [results, Tryz.results23, go_sem, noBerth, r3c0, r3c1, r3c2, r3c3, r3c4, r3l]; rfl)) rfl ⟨rfl, by (exact kpt)⟩
    · rw [c2] at hE h
      have hkn : ¬ (1 ≤ s.act.kind ∧ s.act.kind ≤ 13) := fun hq => h (by rw [if_pos rfl, if_pos (inB_iff.2 hq)])
      rw [if_pos rfl, if_neg (by rw [inB_iff]; exact hkn)] at hE
      subst hE
      have HCW := Lib.hid (show checkWind s.wind = 0 by simp [checkWind, c2])
      clear h c1 c2
      go_enter Tryz.func23, Tryz.ntmps23
      go_upto_region 8 with (first | (go_at_call 24; (with_reducible refine (f_CheckBerth a c e d p _ (hx.later (by (exact kpt)) (Nat.le_refl _)) hc hM (hy.later (by (exact kpt)) (Nat.le_refl _)) hd hN h1 h2 b hs0).mono ?_); rw [HCB.out]; rintro z w1 ⟨rfl, hb1⟩; refine Blk.thru (b := w.heap.size) (arr := ?_) (t := ?_) ?_ hb1 ?_; rotate_left 2; (focus (exact blk)); intro r0; have r0c0 := r0.cell 0; have r0f0 := r0.free 0; have r0c1 := r0.cell 1; have r0f1 := r0.free 1; have r0c2 := r0.cell 2; have r0f2 := r0.free 2; have r0c3 := r0.cell 3; have r0f3 := r0.free 3; have r0c4 := r0.cell 4; have r0f4 := r0.free 4; have r0l := r0.lt; simp at r0c0 r0c1 r0c2 r0c3 r0c4; refine Blk.thru (b := (w.heap.size + 1)) (arr := ?_) (t := ?_) ?_ hb1 ?_; rotate_left 2; (focus (exact blk)); intro r1; have r1c0 := r1.cell 0; have r1f0 := r1.free 0; have r1c1 := r1.cell 1; have r1f1 := r1.free 1; have r1c2 := r1.cell 2; have r1f2 := r1.free 2; have r1c3 := r1.cell 3; have r1f3 := r1.free 3; have r1c4 := r1.cell 4; have r1f4 := r1.free 4; have r1l := r1.lt; simp at r1c0 r1c1 r1c2 r1c3 r1c4; refine Blk.thru (b := (w.heap.size + 1 + 1)) (arr := ?_) (t := ?_) ?_ hb1 ?_; rotate_left 2; (focus (exact blk)); intro r2; have r2c0 := r2.cell 0; have r2f0 := r2.free 0; have r2c1 := r2.cell 1; have r2f1 := r2.free 1; have r2c2 := r2.cell 2; have r2f2 := r2.free 2; have r2c3 := r2.cell 3; have r2f3 := r2.free 3; have r2c4 := r2.cell 4; have r2f4 := r2.free 4; have r2c5 := r2.cell 5; have r2f5 := r2.free 5; have r2l := r2.lt; simp at r2c0 r2c1 r2c2 r2c3 r2c4 r2c5; refine Blk.thru (b := (w.heap.size + 1 + 1 + 1)) (arr := ?_) (t := ?_) ?_ hb1 ?_; rotate_left 2; (focus (exact blk)); intro r3; have r3c0 := r3.cell 0; have r3f0 := r3.free 0; have r3c1 := r3.cell 1; have r3f1 := r3.free 1; have r3c2 := r3.cell 2; have r3f2 := r3.free 2; have r3c3 := r3.cell 3; have r3f3 := r3.free 3; have r3c4 := r3.cell 4; have r3f4 := r3.free 4; have r3l := r3.lt; simp at r3c0 r3c1 r3c2 r3c3 r3c4) | (go_at_call 39; (with_reducible refine (f_CheckWind s.wind _).mono ?_); rw [HCW.out]; rintro z w2 ⟨rfl, hb2⟩; refine Blk.thru (b := w.heap.size) (arr := ?_) (t := ?_) ?_ hb2 ?_; rotate_left 2; (focus (exact blk)); intro r0; have r0c0 := r0.cell 0; have r0f0 := r0.free 0; have r0c1 := r0.cell 1; have r0f1 := r0.free 1; have r0c2 := r0.cell 2; have r0f2 := r0.free 2; have r0c3 := r0.cell 3; have r0f3 := r0.free 3; have r0c4 := r0.cell 4; have r0f4 := r0.free 4; have r0l := r0.lt; simp at r0c0 r0c1 r0c2 r0c3 r0c4; refine Blk.thru (b := (w.heap.size + 1)) (arr := ?_) (t := ?_) ?_ hb2 ?_; rotate_left 2; (focus (exact blk)); intro r1; have r1c0 := r1.cell 0; have r1f0 := r1.free 0; have r1c1 := r1.cell 1; have r1f1 := r1.free 1; have r1c2 := r1.cell 2; have r1f2 := r1.free 2; have r1c3 := r1.cell 3; have r1f3 := r1.free 3; have r1c4 := r1.cell 4; have r1f4 := r1.free 4; have r1l := r1.lt; simp at r1c0 r1c1 r1c2 r1c3 r1c4; refine Blk.thru (b := (w.heap.size + 1 + 1)) (arr := ?_) (t := ?_) ?_ hb2 ?_; rotate_left 2; (focus (exact blk)); intro r2; have r2c0 := r2.cell 0; have r2f0 := r2.free 0; have r2c1 := r2.cell 1; have r2f1 := r2.free 1; have r2c2 := r2.cell 2; have r2f2 := r2.free 2; have r2c3 := r2.cell 3; have r2f3 := r2.free 3; have r2c4 := r2.cell 4; have r2f4 := r2.free 4; have r2c5 := r2.cell 5; have r2f5 := r2.free 5; have r2l := r2.lt; simp at r2c0 r2c1 r2c2 r2c3 r2c4 r2c5; refine Blk.thru (b := (w.heap.size + 1 + 1 + 1)) (arr := ?_) (t := ?_) ?_ hb2 ?_; rotate_left 2; (focus (exact blk)); intro r3; have r3c0 := r3.cell 0; have r3f0 := r3.free 0; have r3c1 := r3.cell 1; have r3f1 := r3.free 1; have r3c2 := r3.cell 2; have r3f2 := r3.free 2; have r3c3 := r3.cell 3; have r3f3 := r3.free 3; have r3c4 := r3.cell 4; have r3f4 := r3.free 4; have r3l := r3.lt; simp at r3c0 r3c1 r3c2 r3c3 r3c4) | (go_at_call 50; (with_reducible refine (f_deeds _).mono ?_); rintro z w3 ⟨rfl, hT, hb3⟩))
      obtain ⟨M, hMe⟩ : ∃ n, n = w2.heap.size := ⟨_, rfl⟩
      obtain ⟨B, hBe⟩ : ∃ n, n = w3.heap.size := ⟨_, rfl⟩
      rw [← hMe, ← hBe] at hT
      rw [← hMe]
      have hB0 : w.heap.size + 1 + 1 + 1 < B := by rw [hBe]; have := hb3.size; have := r3l; have q := hb2.size; simp at *; omega
      refine at_world (S := fun V => B ≤ V.heap.size ∧ Table V B M ∧ Blk V w.heap.size #[.slice a p.axes.length c, .int .i64 p.people, .int .i64 p.most, .slice e p.pulls.length d, .int .i64 p.cross] 25 ∧ Blk V (w.heap.size + 1) #[.int .u8 b.ship, .int .i64 b.axis, .int .i64 b.held, .bool b.wire, .bool b.opn] 37 ∧ Blk V (w.heap.size + 1 + 1) #[.int .u8 s.act.kind, .int .i64 s.act.n, .int .i64 s.wind.xlo, .int .i64 s.wind.xhi, .int .i64 s.wind.ylo, .int .i64 s.wind.yhi] 61 ∧ Blk V (w.heap.size + 1 + 1 + 1) #[.int .u8 0, .int .i64 0, .int .i64 0, .bool false, .bool false] 37 ∧ Kept w V) ⟨Nat.le_of_eq hBe, hT, by (exact blk), by (exact blk), by (exact blk), by (exact blk), by (exact kpt)⟩ ?_
      clear r0 r1 r2 r3 hT hMe hBe r0c0 r0f0 r0c1 r0f1 r0c2 r0f2 r0c3 r0f3 r0c4 r0f4 r1c0 r1f0 r1c1 r1f1 r1c2 r1f2 r1c3 r1f3 r1c4 r1f4 r2c0 r2f0 r2c1 r2f1 r2c2 r2f2 r2c3 r2f3 r2c4 r2f4 r2c5 r2f5 r3c0 r3f0 r3c1 r3f1 r3c2 r3f2 r3c3 r3f3 r3c4 r3f4 r0l r1l r2l r3l
      rintro W ⟨hBW, hT, rp, rb, rs, rc, hk⟩
      obtain ⟨hMB, g, hI, hno, h4⟩ := hT
      have hgn : g s.act.kind = none := hno _ hkn
      have rpc0 := rp.cell 0
      have rpc1 := rp.cell 1
      have rpc2 := rp.cell 2
      have rpc3 := rp.cell 3
      have rpc4 := rp.cell 4
      have rpf0 := rp.free 0
      have rpf1 := rp.free 1
      have rpf2 := rp.free 2
      have rpf3 := rp.free 3
      have rpf4 := rp.free 4
      have rpl := rp.lt
      simp at rpc0 rpc1 rpc2 rpc3 rpc4
      have rbc0 := rb.cell 0
      have rbc1 := rb.cell 1
      have rbc2 := rb.cell 2
      have rbc3 := rb.cell 3
      have rbc4 := rb.cell 4
      have rbf0 := rb.free 0
      have rbf1 := rb.free 1
      have rbf2 := rb.free 2
      have rbf3 := rb.free 3
      have rbf4 := rb.free 4
      have rbl := rb.lt
      simp at rbc0 rbc1 rbc2 rbc3 rbc4
      have rsc0 := rs.cell 0
      have rsc1 := rs.cell 1
      have rsc2 := rs.cell 2
      have rsc3 := rs.cell 3
      have rsc4 := rs.cell 4
      have rsc5 := rs.cell 5
      have rsf0 := rs.free 0
      have rsf1 := rs.free 1
      have rsf2 := rs.free 2
      have rsf3 := rs.free 3
      have rsf4 := rs.free 4
      have rsf5 := rs.free 5
      have rsl := rs.lt
      simp at rsc0 rsc1 rsc2 rsc3 rsc4 rsc5
      have rcc0 := rc.cell 0
      have rcc1 := rc.cell 1
      have rcc2 := rc.cell 2
      have rcc3 := rc.cell 3
      have rcc4 := rc.cell 4
      have rcf0 := rc.free 0
      have rcf1 := rc.free 1
      have rcf2 := rc.free 2
      have rcf3 := rc.free 3
      have rcf4 := rc.free 4
      have rcl := rc.lt
      simp at rcc0 rcc1 rcc2 rcc3 rcc4
      go_wp2_with (at_lookup; refine wpList_look_ok _ rfl _ _ 104 rfl 5 123 keyedU8 Tryz.underlying104 _ (zeroDeed _) M _ (litF g) rfl hI _ (.int .u8 s.act.kind) rfl (keyU8 hk0) (.agg #[.slice none 0 0, .nilFunc]) (by show (g s.act.kind).getD _ = _; rw [hgn]; rfl) false (by show (g s.act.kind).isSome = _; rw [hgn]; rfl) ?_)
      exact bodyPost_ret (v := .tuple #[.agg #[.int .u8 noBerth.ship, .int .i64 noBerth.axis, .int .i64 noBerth.held, .bool noBerth.wire, .bool noBerth.opn], .int .i64 0, .int .i64 2]) (by first | (simp [results, Tryz.results23, go_sem, noBerth, rcc0, rcc1, rcc2, rcc3, rcc4, rcl]; done) | (simp [results, Tryz.results23, go_sem, noBerth, rcc0, rcc1, rcc2, rcc3, rcc4, rcl]; rfl)) rfl ⟨rfl, by (exact kpt)⟩
  · rw [if_neg c1] at hE
    have HCB := Lib.hid hE
    have hE0 : ¬ E = 0 := by rw [← hE]; exact c1
    have hEb : (E == 0) = false := beq_eq_false_iff_ne.2 hE0
    clear h c1 hE
    go_enter Tryz.func23, Tryz.ntmps23
    go_wp2_with (go_at_call 24; (with_reducible refine (f_CheckBerth a c e d p _ (hx.later (by (exact kpt)) (Nat.le_refl _)) hc hM (hy.later (by (exact kpt)) (Nat.le_refl _)) hd hN h1 h2 b hs0).mono ?_); rw [HCB.out]; rintro z w1 ⟨rfl, hb1⟩; refine Blk.thru (b := w.heap.size) (arr := ?_) (t := ?_) ?_ hb1 ?_; rotate_left 2; (focus (exact blk)); intro r0; have r0c0 := r0.cell 0; have r0f0 := r0.free 0; have r0c1 := r0.cell 1; have r0f1 := r0.free 1; have r0c2 := r0.cell 2; have r0f2 := r0.free 2; have r0c3 := r0.cell 3; have r0f3 := r0.free 3; have r0c4 := r0.cell 4; have r0f4 := r0.free 4; have r0l := r0.lt; simp at r0c0 r0c1 r0c2 r0c3 r0c4; refine Blk.thru (b := (w.heap.size + 1)) (arr := ?_) (t := ?_) ?_ hb1 ?_; rotate_left 2; (focus (exact blk)); intro r1; have r1c0 := r1.cell 0; have r1f0 := r1.free 0; have r1c1 := r1.cell 1; have r1f1 := r1.free 1; have r1c2 := r1.cell 2; have r1f2 := r1.free 2; have r1c3 := r1.cell 3; have r1f3 := r1.free 3; have r1c4 := r1.cell 4; have r1f4 := r1.free 4; have r1l := r1.lt; simp at r1c0 r1c1 r1c2 r1c3 r1c4; refine Blk.thru (b := (w.heap.size + 1 + 1)) (arr := ?_) (t := ?_) ?_ hb1 ?_; rotate_left 2; (focus (exact blk)); intro r2; have r2c0 := r2.cell 0; have r2f0 := r2.free 0; have r2c1 := r2.cell 1; have r2f1 := r2.free 1; have r2c2 := r2.cell 2; have r2f2 := r2.free 2; have r2c3 := r2.cell 3; have r2f3 := r2.free 3; have r2c4 := r2.cell 4; have r2f4 := r2.free 4; have r2c5 := r2.cell 5; have r2f5 := r2.free 5; have r2l := r2.lt; simp at r2c0 r2c1 r2c2 r2c3 r2c4 r2c5; refine Blk.thru (b := (w.heap.size + 1 + 1 + 1)) (arr := ?_) (t := ?_) ?_ hb1 ?_; rotate_left 2; (focus (exact blk)); intro r3; have r3c0 := r3.cell 0; have r3f0 := r3.free 0; have r3c1 := r3.cell 1; have r3f1 := r3.free 1; have r3c2 := r3.cell 2; have r3f2 := r3.free 2; have r3c3 := r3.cell 3; have r3f3 := r3.free 3; have r3c4 := r3.cell 4; have r3f4 := r3.free 4; have r3l := r3.lt; simp at r3c0 r3c1 r3c2 r3c3 r3c4)
    exact bodyPost_ret (v := .tuple #[.agg #[.int .u8 noBerth.ship, .int .i64 noBerth.axis, .int .i64 noBerth.held, .bool noBerth.wire, .bool noBerth.opn], .int .i64 0, .int .i64 E]) (by first | (simp [results, Tryz.results23, go_sem, noBerth, r3c0, r3c1, r3c2, r3c3, r3c4, r3l]; done) | (simp [results, Tryz.results23, go_sem, noBerth, r3c0, r3c1, r3c2, r3c3, r3c4, r3l]; rfl)) rfl ⟨rfl, by (exact kpt)⟩

theorem deed_form (b s : Nat) (k : Int) (h1 : 1 ≤ k) (h2 : k ≤ 13) : ∃ (m : Nat) (G : FuncId) (cs : Array Value), deedV b s k = .agg #[.slice (some ⟨b, 0, none⟩) m m, .func (.func G) #[] cs] := by
  rcases (by omega : k = 1 ∨ k = 2 ∨ k = 3 ∨ k = 4 ∨ k = 5 ∨ k = 6 ∨ k = 7 ∨ k = 8 ∨ k = 9 ∨ k = 10 ∨ k = 11 ∨ k = 12 ∨ k = 13) with rfl | rfl | rfl | rfl | rfl | rfl | rfl | rfl | rfl | rfl | rfl | rfl | rfl
  all_goals exact ⟨_, _, _, rfl⟩
theorem doErr_ok {p : Port} {b : Berth} {s : Step} (h : doErr p b s = 0) : portB p = true ∧ berthB p b = true ∧ windB s.wind = true ∧ 1 ≤ s.act.kind ∧ s.act.kind ≤ 13 := by
  unfold doErr at h
  by_cases c1 : checkBerth p b = 0
  · rw [if_pos c1] at h
    unfold checkBerth at c1
    cases c2 : windB s.wind
    · rw [c2] at h; simp at h
    · rw [c2] at h
      cases c3 : inB s.act.kind 1 13
      · rw [c3] at h; simp at h
      · have := inB_iff.1 c3
        cases c4 : portB p
        · rw [c4] at c1; simp at c1
        · cases c5 : berthB p b
          · rw [c4, c5] at c1; simp at c1
          · exact ⟨rfl, rfl, rfl, this.1, this.2⟩
  · rw [if_neg c1] at h; exact absurd h c1
theorem f_Do_ok (a : Option Addr) (c : Nat) (e : Option Addr) (d : Nat) (p : Port) (w : World) (hx : Row Axis.cells 2 w.heap.size w a p.axes) (hc : p.axes.length ≤ c) (hM : c ≤ maxLen) (hy : Row Span.cells 2 w.heap.size w e p.pulls) (hd : p.pulls.length ≤ d) (hN : d ≤ maxLen) (h1 : p.axes.length ≤ 1000000) (h2 : p.pulls.length ≤ 1000000) (b : Berth) (hs0 : 0 ≤ b.ship) (s : Step) (hk0 : 0 ≤ s.act.kind ∧ s.act.kind ≤ 255) (h : doErr p b s = 0) :
    Calls Tryz.prog 23 #[.agg #[.slice a p.axes.length c, .int .i64 p.people, .int .i64 p.most, .slice e p.pulls.length d, .int .i64 p.cross], .agg #[.int .u8 b.ship, .int .i64 b.axis, .int .i64 b.held, .bool b.wire, .bool b.opn], .agg #[.int .u8 s.act.kind, .int .i64 s.act.n, .int .i64 s.wind.xlo, .int .i64 s.wind.xhi, .int .i64 s.wind.ylo, .int .i64 s.wind.yhi]] w fun z w' => z = .returned (.tuple #[.agg #[.int .u8 (doB p b s).ship, .int .i64 (doB p b s).axis, .int .i64 (doB p b s).held, .bool (doB p b s).wire, .bool (doB p b s).opn], .int .i64 (doRule p b s), .int .i64 (doE p b s)]) ∧ Kept w w' := by
  have hM' := hM
  have hN' := hN
  unfold maxLen at hM' hN'
  obtain ⟨hp, hbb, c2, t1, t2⟩ := doErr_ok h
  have ht : 1 ≤ s.act.kind ∧ s.act.kind ≤ 13 := ⟨t1, t2⟩
  obtain ⟨_, ⟨ha1, ha2⟩, _⟩ := berth_parts hbb
  have hax : 0 ≤ b.axis ∧ b.axis < p.axes.length := by omega
  have HCB := Lib.hid (show checkBerth p b = 0 by simp [checkBerth, hp, hbb])
  have HCW := Lib.hid (show checkWind s.wind = 0 by simp [checkWind, c2])
  obtain ⟨R, hR⟩ : ∃ R, tryR p (dockOf p b s) s.act.kind = R := ⟨_, rfl⟩
  have hR0 : 0 ≤ R := by rw [← hR]; exact firstNot_pos
  have e2 : doRule p b s = R := by unfold doRule; rw [if_pos h, hR]
  have e1 : doE p b s = if R = 0 then 0 else 74 := by unfold doE; rw [if_pos h, e2]
  have HR := Lib.hid (show tryR p { (⟨b, needP p, s.wind, 0⟩ : Dock) with n := s.act.n } s.act.kind = R from hR)
  by_cases hz : R = 0
  · subst hz
    have e3 : doB p b s = doneB (dockOf p b s) s.act.kind := by unfold doB; rw [e1]; rfl
    rw [e2, e1, e3, if_pos rfl]
    clear hR hR0 e1 e2 e3 h
    go_enter Tryz.func23, Tryz.ntmps23
    go_upto_region 8 with (first | (go_at_call 24; (with_reducible refine (f_CheckBerth a c e d p _ (hx.later (by (exact kpt)) (Nat.le_refl _)) hc hM (hy.later (by (exact kpt)) (Nat.le_refl _)) hd hN h1 h2 b hs0).mono ?_); rw [HCB.out]; rintro z w1 ⟨rfl, hb1⟩; refine Blk.thru (b := w.heap.size) (arr := ?_) (t := ?_) ?_ hb1 ?_; rotate_left 2; (focus (exact blk)); intro r0; have r0c0 := r0.cell 0; have r0f0 := r0.free 0; have r0c1 := r0.cell 1; have r0f1 := r0.free 1; have r0c2 := r0.cell 2; have r0f2 := r0.free 2; have r0c3 := r0.cell 3; have r0f3 := r0.free 3; have r0c4 := r0.cell 4; have r0f4 := r0.free 4; have r0l := r0.lt; simp at r0c0 r0c1 r0c2 r0c3 r0c4; refine Blk.thru (b := (w.heap.size + 1)) (arr := ?_) (t := ?_) ?_ hb1 ?_; rotate_left 2; (focus (exact blk)); intro r1; have r1c0 := r1.cell 0; have r1f0 := r1.free 0; have r1c1 := r1.cell 1; have r1f1 := r1.free 1; have r1c2 := r1.cell 2; have r1f2 := r1.free 2; have r1c3 := r1.cell 3; have r1f3 := r1.free 3; have r1c4 := r1.cell 4; have r1f4 := r1.free 4; have r1l := r1.lt; simp at r1c0 r1c1 r1c2 r1c3 r1c4; refine Blk.thru (b := (w.heap.size + 1 + 1)) (arr := ?_) (t := ?_) ?_ hb1 ?_; rotate_left 2; (focus (exact blk)); intro r2; have r2c0 := r2.cell 0; have r2f0 := r2.free 0; have r2c1 := r2.cell 1; have r2f1 := r2.free 1; have r2c2 := r2.cell 2; have r2f2 := r2.free 2; have r2c3 := r2.cell 3; have r2f3 := r2.free 3; have r2c4 := r2.cell 4; have r2f4 := r2.free 4; have r2c5 := r2.cell 5; have r2f5 := r2.free 5; have r2l := r2.lt; simp at r2c0 r2c1 r2c2 r2c3 r2c4 r2c5; refine Blk.thru (b := (w.heap.size + 1 + 1 + 1)) (arr := ?_) (t := ?_) ?_ hb1 ?_; rotate_left 2; (focus (exact blk)); intro r3; have r3c0 := r3.cell 0; have r3f0 := r3.free 0; have r3c1 := r3.cell 1; have r3f1 := r3.free 1; have r3c2 := r3.cell 2; have r3f2 := r3.free 2; have r3c3 := r3.cell 3; have r3f3 := r3.free 3; have r3c4 := r3.cell 4; have r3f4 := r3.free 4; have r3l := r3.lt; simp at r3c0 r3c1 r3c2 r3c3 r3c4) | (go_at_call 39; (with_reducible refine (f_CheckWind s.wind _).mono ?_); rw [HCW.out]; rintro z w2 ⟨rfl, hb2⟩; refine Blk.thru (b := w.heap.size) (arr := ?_) (t := ?_) ?_ hb2 ?_; rotate_left 2; (focus (exact blk)); intro r0; have r0c0 := r0.cell 0; have r0f0 := r0.free 0; have r0c1 := r0.cell 1; have r0f1 := r0.free 1; have r0c2 := r0.cell 2; have r0f2 := r0.free 2; have r0c3 := r0.cell 3; have r0f3 := r0.free 3; have r0c4 := r0.cell 4; have r0f4 := r0.free 4; have r0l := r0.lt; simp at r0c0 r0c1 r0c2 r0c3 r0c4; refine Blk.thru (b := (w.heap.size + 1)) (arr := ?_) (t := ?_) ?_ hb2 ?_; rotate_left 2; (focus (exact blk)); intro r1; have r1c0 := r1.cell 0; have r1f0 := r1.free 0; have r1c1 := r1.cell 1; have r1f1 := r1.free 1; have r1c2 := r1.cell 2; have r1f2 := r1.free 2; have r1c3 := r1.cell 3; have r1f3 := r1.free 3; have r1c4 := r1.cell 4; have r1f4 := r1.free 4; have r1l := r1.lt; simp at r1c0 r1c1 r1c2 r1c3 r1c4; refine Blk.thru (b := (w.heap.size + 1 + 1)) (arr := ?_) (t := ?_) ?_ hb2 ?_; rotate_left 2; (focus (exact blk)); intro r2; have r2c0 := r2.cell 0; have r2f0 := r2.free 0; have r2c1 := r2.cell 1; have r2f1 := r2.free 1; have r2c2 := r2.cell 2; have r2f2 := r2.free 2; have r2c3 := r2.cell 3; have r2f3 := r2.free 3; have r2c4 := r2.cell 4; have r2f4 := r2.free 4; have r2c5 := r2.cell 5; have r2f5 := r2.free 5; have r2l := r2.lt; simp at r2c0 r2c1 r2c2 r2c3 r2c4 r2c5; refine Blk.thru (b := (w.heap.size + 1 + 1 + 1)) (arr := ?_) (t := ?_) ?_ hb2 ?_; rotate_left 2; (focus (exact blk)); intro r3; have r3c0 := r3.cell 0; have r3f0 := r3.free 0; have r3c1 := r3.cell 1; have r3f1 := r3.free 1; have r3c2 := r3.cell 2; have r3f2 := r3.free 2; have r3c3 := r3.cell 3; have r3f3 := r3.free 3; have r3c4 := r3.cell 4; have r3f4 := r3.free 4; have r3l := r3.lt; simp at r3c0 r3c1 r3c2 r3c3 r3c4) | (go_at_call 50; (with_reducible refine (f_deeds _).mono ?_); rintro z w3 ⟨rfl, hT, hb3⟩))
    obtain ⟨M, hMe⟩ : ∃ n, n = w2.heap.size := ⟨_, rfl⟩
    obtain ⟨B, hBe⟩ : ∃ n, n = w3.heap.size := ⟨_, rfl⟩
    rw [← hMe, ← hBe] at hT
    rw [← hMe]
    have hB0 : w.heap.size + 1 + 1 + 1 < B := by rw [hBe]; have := hb3.size; have := r3l; have q := hb2.size; simp at *; omega
    refine at_world (S := fun V => B ≤ V.heap.size ∧ Table V B M ∧ Blk V w.heap.size #[.slice a p.axes.length c, .int .i64 p.people, .int .i64 p.most, .slice e p.pulls.length d, .int .i64 p.cross] 25 ∧ Blk V (w.heap.size + 1) #[.int .u8 b.ship, .int .i64 b.axis, .int .i64 b.held, .bool b.wire, .bool b.opn] 37 ∧ Blk V (w.heap.size + 1 + 1) #[.int .u8 s.act.kind, .int .i64 s.act.n, .int .i64 s.wind.xlo, .int .i64 s.wind.xhi, .int .i64 s.wind.ylo, .int .i64 s.wind.yhi] 61 ∧ Blk V (w.heap.size + 1 + 1 + 1) #[.int .u8 0, .int .i64 0, .int .i64 0, .bool false, .bool false] 37 ∧ Kept w V) ⟨Nat.le_of_eq hBe, hT, by (exact blk), by (exact blk), by (exact blk), by (exact blk), by (exact kpt)⟩ ?_
    clear r0 r1 r2 r3 hT hMe hBe r0c0 r0f0 r0c1 r0f1 r0c2 r0f2 r0c3 r0f3 r0c4 r0f4 r1c0 r1f0 r1c1 r1f1 r1c2 r1f2 r1c3 r1f3 r1c4 r1f4 r2c0 r2f0 r2c1 r2f1 r2c2 r2f2 r2c3 r2f3 r2c4 r2f4 r2c5 r2f5 r3c0 r3f0 r3c1 r3f1 r3c2 r3f2 r3c3 r3f3 r3c4 r3f4 r0l r1l r2l r3l
    rintro W ⟨hBW, hT, rp, rb, rs, rc, hk⟩
    obtain ⟨hMB, g, hI, hno, h4⟩ := hT
    obtain ⟨b', s', hb', hs', hg, hr, hsh⟩ := h4 _ t1 t2
    obtain ⟨m, G, cs, hdf⟩ := deed_form b' s' s.act.kind t1 t2
    have HG := Lib.hid (show (g s.act.kind).getD (.agg #[.slice none 0 0, .nilFunc]) = .agg #[.slice (some ⟨b', 0, none⟩) m m, .func (.func G) #[] cs] by rw [hg, hdf]; rfl)
    have HGS := Lib.hid (show (g s.act.kind).isSome = true by rw [hg]; rfl)
    have hT : Table W B M := ⟨hMB, g, hI, hno, h4⟩
    clear hg hdf hr hsh h4
    have rpc0 := rp.cell 0
    have rpc1 := rp.cell 1
    have rpc2 := rp.cell 2
    have rpc3 := rp.cell 3
    have rpc4 := rp.cell 4
    have rpf0 := rp.free 0
    have rpf1 := rp.free 1
    have rpf2 := rp.free 2
    have rpf3 := rp.free 3
    have rpf4 := rp.free 4
    have rpl := rp.lt
    simp at rpc0 rpc1 rpc2 rpc3 rpc4
    have rbc0 := rb.cell 0
    have rbc1 := rb.cell 1
    have rbc2 := rb.cell 2
    have rbc3 := rb.cell 3
    have rbc4 := rb.cell 4
    have rbf0 := rb.free 0
    have rbf1 := rb.free 1
    have rbf2 := rb.free 2
    have rbf3 := rb.free 3
    have rbf4 := rb.free 4
    have rbl := rb.lt
    simp at rbc0 rbc1 rbc2 rbc3 rbc4
    have rsc0 := rs.cell 0
    have rsc1 := rs.cell 1
    have rsc2 := rs.cell 2
    have rsc3 := rs.cell 3
    have rsc4 := rs.cell 4
    have rsc5 := rs.cell 5
    have rsf0 := rs.free 0
    have rsf1 := rs.free 1
    have rsf2 := rs.free 2
    have rsf3 := rs.free 3
    have rsf4 := rs.free 4
    have rsf5 := rs.free 5
    have rsl := rs.lt
    simp at rsc0 rsc1 rsc2 rsc3 rsc4 rsc5
    have rcc0 := rc.cell 0
    have rcc1 := rc.cell 1
    have rcc2 := rc.cell 2
    have rcc3 := rc.cell 3
    have rcc4 := rc.cell 4
    have rcf0 := rc.free 0
    have rcf1 := rc.free 1
    have rcf2 := rc.free 2
    have rcf3 := rc.free 3
    have rcf4 := rc.free 4
    have rcl := rc.lt
    simp at rcc0 rcc1 rcc2 rcc3 rcc4
    go_upto_region 11 with (at_lookup; refine wpList_look_ok _ rfl _ _ 104 rfl 5 123 keyedU8 Tryz.underlying104 _ (zeroDeed _) M _ (litF g) rfl hI _ (.int .u8 s.act.kind) rfl (keyU8 hk0) _ HG.out true HGS.out ?_)
    refine at_world (S := fun V => B ≤ V.heap.size ∧ Table V B M ∧ Blk V w.heap.size #[.slice a p.axes.length c, .int .i64 p.people, .int .i64 p.most, .slice e p.pulls.length d, .int .i64 p.cross] 25 ∧ Blk V (w.heap.size + 1) #[.int .u8 b.ship, .int .i64 b.axis, .int .i64 b.held, .bool b.wire, .bool b.opn] 37 ∧ Blk V (w.heap.size + 1 + 1) #[.int .u8 s.act.kind, .int .i64 s.act.n, .int .i64 s.wind.xlo, .int .i64 s.wind.xhi, .int .i64 s.wind.ylo, .int .i64 s.wind.yhi] 61 ∧ Blk V (w.heap.size + 1 + 1 + 1) #[.int .u8 0, .int .i64 0, .int .i64 0, .bool false, .bool false] 37 ∧ Kept w V) ⟨by have := hBW; simp; omega, hT.below (Below.alloc (Below.refl _ _) hBW _), by (exact blk), by (exact blk), by (exact blk), by (exact blk), by (exact kpt)⟩ ?_
    clear rpc0 rpf0 rpc1 rpf1 rpc2 rpf2 rpc3 rpf3 rpc4 rpf4 rbc0 rbf0 rbc1 rbf1 rbc2 rbf2 rbc3 rbf3 rbc4 rbf4 rsc0 rsf0 rsc1 rsf1 rsc2 rsf2 rsc3 rsf3 rsc4 rsf4 rsc5 rsf5 rcc0 rcf0 rcc1 rcf1 rcc2 rcf2 rcc3 rcf3 rcc4 rcf4 rpl rbl rsl rcl hI hno hT rp rb rs rc hk hBW HG HGS
    rintro W2 ⟨hBW, hT, rp, rb, rs, rc, hk⟩
    have rpc0 := fun g : Later W2 => (rp.later g).cell 0
    have rpc1 := fun g : Later W2 => (rp.later g).cell 1
    have rpc2 := fun g : Later W2 => (rp.later g).cell 2
    have rpc3 := fun g : Later W2 => (rp.later g).cell 3
    have rpc4 := fun g : Later W2 => (rp.later g).cell 4
    have rpf0 := fun g : Later W2 => (rp.later g).free 0
    have rpf1 := fun g : Later W2 => (rp.later g).free 1
    have rpf2 := fun g : Later W2 => (rp.later g).free 2
    have rpf3 := fun g : Later W2 => (rp.later g).free 3
    have rpf4 := fun g : Later W2 => (rp.later g).free 4
    have rpl := fun g : Later W2 => (rp.later g).lt
    simp at rpc0 rpc1 rpc2 rpc3 rpc4
    have rbc0 := fun g : Later W2 => (rb.later g).cell 0
    have rbc1 := fun g : Later W2 => (rb.later g).cell 1
    have rbc2 := fun g : Later W2 => (rb.later g).cell 2
    have rbc3 := fun g : Later W2 => (rb.later g).cell 3
    have rbc4 := fun g : Later W2 => (rb.later g).cell 4
    have rbf0 := fun g : Later W2 => (rb.later g).free 0
    have rbf1 := fun g : Later W2 => (rb.later g).free 1
    have rbf2 := fun g : Later W2 => (rb.later g).free 2
    have rbf3 := fun g : Later W2 => (rb.later g).free 3
    have rbf4 := fun g : Later W2 => (rb.later g).free 4
    have rbl := fun g : Later W2 => (rb.later g).lt
    simp at rbc0 rbc1 rbc2 rbc3 rbc4
    have rsc0 := fun g : Later W2 => (rs.later g).cell 0
    have rsc1 := fun g : Later W2 => (rs.later g).cell 1
    have rsc2 := fun g : Later W2 => (rs.later g).cell 2
    have rsc3 := fun g : Later W2 => (rs.later g).cell 3
    have rsc4 := fun g : Later W2 => (rs.later g).cell 4
    have rsc5 := fun g : Later W2 => (rs.later g).cell 5
    have rsf0 := fun g : Later W2 => (rs.later g).free 0
    have rsf1 := fun g : Later W2 => (rs.later g).free 1
    have rsf2 := fun g : Later W2 => (rs.later g).free 2
    have rsf3 := fun g : Later W2 => (rs.later g).free 3
    have rsf4 := fun g : Later W2 => (rs.later g).free 4
    have rsf5 := fun g : Later W2 => (rs.later g).free 5
    have rsl := fun g : Later W2 => (rs.later g).lt
    simp at rsc0 rsc1 rsc2 rsc3 rsc4 rsc5
    have rcc0 := fun g : Later W2 => (rc.later g).cell 0
    have rcc1 := fun g : Later W2 => (rc.later g).cell 1
    have rcc2 := fun g : Later W2 => (rc.later g).cell 2
    have rcc3 := fun g : Later W2 => (rc.later g).cell 3
    have rcc4 := fun g : Later W2 => (rc.later g).cell 4
    have rcf0 := fun g : Later W2 => (rc.later g).free 0
    have rcf1 := fun g : Later W2 => (rc.later g).free 1
    have rcf2 := fun g : Later W2 => (rc.later g).free 2
    have rcf3 := fun g : Later W2 => (rc.later g).free 3
    have rcf4 := fun g : Later W2 => (rc.later g).free 4
    have rcl := fun g : Later W2 => (rc.later g).lt
    simp at rcc0 rcc1 rcc2 rcc3 rcc4
    refine Later.tail 7 (by kernel_rfl) (by kernel_rfl) ?_
    simp only [List.take_succ_cons, List.take_zero, List.drop_succ_cons, List.drop_zero]
    repeat (first | go_big_quiet_skip | (go_big_quiet_want; go_big_quiet_op; first | go_big_quiet_on | (apply Exists.intro; refine ⟨fun g_ => ?_, ?_⟩; (focus (first | (go_at_call 51; with_reducible exact Later.call (f_need a c e d p _ (hx.later (Kept.drop hk g_.ok) (Nat.le_refl _)) hc hM (hy.later (Kept.drop hk g_.ok) (Nat.le_refl _)) hd hN h1 h2 hp)))); go_big_quiet_on)))
    refine wpQuiet_nil ?_
    intro gg
    have rp2 := rp.later gg
    have rb2 := rb.later gg
    have rs2 := rs.later gg
    have rc2 := rc.later gg
    have hkg := Kept.drop hk gg.ok
    have hT2 := hT.below (gg.ok.mono hBW)
    clear rpc0 rpf0 rpc1 rpf1 rpc2 rpf2 rpc3 rpf3 rpc4 rpf4 rbc0 rbf0 rbc1 rbf1 rbc2 rbf2 rbc3 rbf3 rbc4 rbf4 rsc0 rsf0 rsc1 rsf1 rsc2 rsf2 rsc3 rsf3 rsc4 rsf4 rsc5 rsf5 rcc0 rcf0 rcc1 rcf1 rcc2 rcf2 rcc3 rcf3 rcc4 rcf4 rpl rbl rsl rcl
    refine wpList_plain rfl fun K1 hK1 => ?_
    go_simp
    refine hK1 _ _ ?_
    go_upto_region 12 with fail
    have hgs := gg.ok.size
    refine at_world (S := fun V => Table V B M ∧ Blk V w.heap.size #[.slice a p.axes.length c, .int .i64 p.people, .int .i64 p.most, .slice e p.pulls.length d, .int .i64 p.cross] 25 ∧ Blk V (w.heap.size + 1) #[.int .u8 b.ship, .int .i64 b.axis, .int .i64 b.held, .bool b.wire, .bool b.opn] 37 ∧ Blk V (w.heap.size + 1 + 1) #[.int .u8 s.act.kind, .int .i64 s.act.n, .int .i64 s.wind.xlo, .int .i64 s.wind.xhi, .int .i64 s.wind.ylo, .int .i64 s.wind.yhi] 61 ∧ Blk V (w.heap.size + 1 + 1 + 1) #[.int .u8 0, .int .i64 0, .int .i64 0, .bool false, .bool false] 37 ∧ Blk V gg.val.heap.size (dockCells a c e d p (⟨b, needP p, s.wind, 0⟩ : Dock)) 112 ∧ Row Axis.cells 2 gg.val.heap.size V a p.axes ∧ Kept w V) ⟨hT2.below (Below.alloc (Below.refl _ _) (Nat.le_trans hBW hgs) _), by (exact blk), by (exact blk), by (exact blk), by (exact blk), by (exact blkc), ((hx.keep hkg (Nat.le_refl _)).up hkg.size).keep (Below.alloc (Below.refl _ _) (Nat.le_refl _) _) (Nat.le_refl _), by (exact kpt)⟩ ?_
    have hBn0 : B ≤ gg.val.heap.size := Nat.le_trans hBW hgs
    have hcn0 : (w.heap.size + 1 + 1 + 1) < gg.val.heap.size := rc2.lt
    obtain ⟨nD, hnD⟩ : ∃ n, n = gg.val.heap.size := ⟨_, rfl⟩
    rw [← hnD] at hBn0 hcn0 ⊢
    have hwn : w.heap.size ≤ nD := by rw [hnD]; exact hkg.size
    clear hnD rp rb rs rc rp2 rb2 rs2 rc2 hT hT2 hkg hk gg hgs
    rintro W3 ⟨hT, rp, rb, rs, rc, rd, hxn, hk⟩
    have hBn := hBn0
    have rpc0 := rp.cell 0
    have rpc1 := rp.cell 1
    have rpc2 := rp.cell 2
    have rpc3 := rp.cell 3
    have rpc4 := rp.cell 4
    have rpf0 := rp.free 0
    have rpf1 := rp.free 1
    have rpf2 := rp.free 2
    have rpf3 := rp.free 3
    have rpf4 := rp.free 4
    have rpl := rp.lt
    simp at rpc0 rpc1 rpc2 rpc3 rpc4
    have rbc0 := rb.cell 0
    have rbc1 := rb.cell 1
    have rbc2 := rb.cell 2
    have rbc3 := rb.cell 3
    have rbc4 := rb.cell 4
    have rbf0 := rb.free 0
    have rbf1 := rb.free 1
    have rbf2 := rb.free 2
    have rbf3 := rb.free 3
    have rbf4 := rb.free 4
    have rbl := rb.lt
    simp at rbc0 rbc1 rbc2 rbc3 rbc4
    have rsc0 := rs.cell 0
    have rsc1 := rs.cell 1
    have rsc2 := rs.cell 2
    have rsc3 := rs.cell 3
    have rsc4 := rs.cell 4
    have rsc5 := rs.cell 5
    have rsf0 := rs.free 0
    have rsf1 := rs.free 1
    have rsf2 := rs.free 2
    have rsf3 := rs.free 3
    have rsf4 := rs.free 4
    have rsf5 := rs.free 5
    have rsl := rs.lt
    simp at rsc0 rsc1 rsc2 rsc3 rsc4 rsc5
    have rcc0 := rc.cell 0
    have rcc1 := rc.cell 1
    have rcc2 := rc.cell 2
    have rcc3 := rc.cell 3
    have rcc4 := rc.cell 4
    have rcf0 := rc.free 0
    have rcf1 := rc.free 1
    have rcf2 := rc.free 2
    have rcf3 := rc.free 3
    have rcf4 := rc.free 4
    have rcl := rc.lt
    simp at rcc0 rcc1 rcc2 rcc3 rcc4
    go_wp2_with (go_at_call 52; (with_reducible refine (f_try a c e d p (⟨b, needP p, s.wind, 0⟩ : Dock) nD s.act.kind s.act.n _ rd M B hT hBn hxn hp c2 hax ht).mono ?_); rw [show tryR p { (⟨b, needP p, s.wind, 0⟩ : Dock) with n := s.act.n } s.act.kind = 0 from HR.out]; rintro z w9 ⟨rfl, hyes, hnot, hb9⟩; have hk9 : Kept w w9 := Below.trans hk (hb9.mono hwn); have rc9 := rc.lower hb9 hcn0; have rc9c0 := rc9.cell 0; have rc9c1 := rc9.cell 1; have rc9c2 := rc9.cell 2; have rc9c3 := rc9.cell 3; have rc9c4 := rc9.cell 4; have rc9f0 := rc9.free 0; have rc9f1 := rc9.free 1; have rc9f2 := rc9.free 2; have rc9f3 := rc9.free 3; have rc9f4 := rc9.free 4; have rc9l := rc9.lt; simp at rc9c0 rc9c1 rc9c2 rc9c3 rc9c4; have rd9 := hyes rfl; unfold dockCells at rd9; have rd9c0 := rd9.cell 0; have rd9c1 := rd9.cell 1; have rd9c2 := rd9.cell 2; have rd9c3 := rd9.cell 3; have rd9c4 := rd9.cell 4; have rd9f0 := rd9.free 0; have rd9f1 := rd9.free 1; have rd9f2 := rd9.free 2; have rd9f3 := rd9.free 3; have rd9f4 := rd9.free 4; have rd9l := rd9.lt; simp at rd9c0 rd9c1 rd9c2 rd9c3 rd9c4)
    exact bodyPost_ret (v := .tuple #[.agg #[.int .u8 (doneB (dockOf p b s) s.act.kind).ship, .int .i64 (doneB (dockOf p b s) s.act.kind).axis, .int .i64 (doneB (dockOf p b s) s.act.kind).held, .bool (doneB (dockOf p b s) s.act.kind).wire, .bool (doneB (dockOf p b s) s.act.kind).opn], .int .i64 0, .int .i64 0]) (by first | (simp [results, Tryz.results23, go_sem, noBerth, rc9c0, rc9c1, rc9c2, rc9c3, rc9c4, rc9l, rd9c0, rd9c1, rd9c2, rd9c3, rd9c4, dockOf]; done) | (simp [results, Tryz.results23, go_sem, noBerth, rc9c0, rc9c1, rc9c2, rc9c3, rc9c4, rc9l, rd9c0, rd9c1, rd9c2, rd9c3, rd9c4, dockOf]; rfl)) rfl ⟨rfl, by (exact kpt)⟩
  · have hR1 : 0 < R := by omega
    have e3 : doB p b s = noBerth := by unfold doB; rw [e1, if_neg hz]; rfl
    rw [e2, e1, e3, if_neg hz]
    clear hR hR0 e1 e2 e3 h
    go_enter Tryz.func23, Tryz.ntmps23
    go_upto_region 8 with (first | (go_at_call 24; (with_reducible refine (f_CheckBerth a c e d p _ (hx.later (by (exact kpt)) (Nat.le_refl _)) hc hM (hy.later (by (exact kpt)) (Nat.le_refl _)) hd hN h1 h2 b hs0).mono ?_); rw [HCB.out]; rintro z w1 ⟨rfl, hb1⟩; refine Blk.thru (b := w.heap.size) (arr := ?_) (t := ?_) ?_ hb1 ?_; rotate_left 2; (focus (exact blk)); intro r0; have r0c0 := r0.cell 0; have r0f0 := r0.free 0; have r0c1 := r0.cell 1; have r0f1 := r0.free 1; have r0c2 := r0.cell 2; have r0f2 := r0.free 2; have r0c3 := r0.cell 3; have r0f3 := r0.free 3; have r0c4 := r0.cell 4; have r0f4 := r0.free 4; have r0l := r0.lt; simp at r0c0 r0c1 r0c2 r0c3 r0c4; refine Blk.thru (b := (w.heap.size + 1)) (arr := ?_) (t := ?_) ?_ hb1 ?_; rotate_left 2; (focus (exact blk)); intro r1; have r1c0 := r1.cell 0; have r1f0 := r1.free 0; have r1c1 := r1.cell 1; have r1f1 := r1.free 1; have r1c2 := r1.cell 2; have r1f2 := r1.free 2; have r1c3 := r1.cell 3; have r1f3 := r1.free 3; have r1c4 := r1.cell 4; have r1f4 := r1.free 4; have r1l := r1.lt; simp at r1c0 r1c1 r1c2 r1c3 r1c4; refine Blk.thru (b := (w.heap.size + 1 + 1)) (arr := ?_) (t := ?_) ?_ hb1 ?_; rotate_left 2; (focus (exact blk)); intro r2; have r2c0 := r2.cell 0; have r2f0 := r2.free 0; have r2c1 := r2.cell 1; have r2f1 := r2.free 1; have r2c2 := r2.cell 2; have r2f2 := r2.free 2; have r2c3 := r2.cell 3; have r2f3 := r2.free 3; have r2c4 := r2.cell 4; have r2f4 := r2.free 4; have r2c5 := r2.cell 5; have r2f5 := r2.free 5; have r2l := r2.lt; simp at r2c0 r2c1 r2c2 r2c3 r2c4 r2c5; refine Blk.thru (b := (w.heap.size + 1 + 1 + 1)) (arr := ?_) (t := ?_) ?_ hb1 ?_; rotate_left 2; (focus (exact blk)); intro r3; have r3c0 := r3.cell 0; have r3f0 := r3.free 0; have r3c1 := r3.cell 1; have r3f1 := r3.free 1; have r3c2 := r3.cell 2; have r3f2 := r3.free 2; have r3c3 := r3.cell 3; have r3f3 := r3.free 3; have r3c4 := r3.cell 4; have r3f4 := r3.free 4; have r3l := r3.lt; simp at r3c0 r3c1 r3c2 r3c3 r3c4) | (go_at_call 39; (with_reducible refine (f_CheckWind s.wind _).mono ?_); rw [HCW.out]; rintro z w2 ⟨rfl, hb2⟩; refine Blk.thru (b := w.heap.size) (arr := ?_) (t := ?_) ?_ hb2 ?_; rotate_left 2; (focus (exact blk)); intro r0; have r0c0 := r0.cell 0; have r0f0 := r0.free 0; have r0c1 := r0.cell 1; have r0f1 := r0.free 1; have r0c2 := r0.cell 2; have r0f2 := r0.free 2; have r0c3 := r0.cell 3; have r0f3 := r0.free 3; have r0c4 := r0.cell 4; have r0f4 := r0.free 4; have r0l := r0.lt; simp at r0c0 r0c1 r0c2 r0c3 r0c4; refine Blk.thru (b := (w.heap.size + 1)) (arr := ?_) (t := ?_) ?_ hb2 ?_; rotate_left 2; (focus (exact blk)); intro r1; have r1c0 := r1.cell 0; have r1f0 := r1.free 0; have r1c1 := r1.cell 1; have r1f1 := r1.free 1; have r1c2 := r1.cell 2; have r1f2 := r1.free 2; have r1c3 := r1.cell 3; have r1f3 := r1.free 3; have r1c4 := r1.cell 4; have r1f4 := r1.free 4; have r1l := r1.lt; simp at r1c0 r1c1 r1c2 r1c3 r1c4; refine Blk.thru (b := (w.heap.size + 1 + 1)) (arr := ?_) (t := ?_) ?_ hb2 ?_; rotate_left 2; (focus (exact blk)); intro r2; have r2c0 := r2.cell 0; have r2f0 := r2.free 0; have r2c1 := r2.cell 1; have r2f1 := r2.free 1; have r2c2 := r2.cell 2; have r2f2 := r2.free 2; have r2c3 := r2.cell 3; have r2f3 := r2.free 3; have r2c4 := r2.cell 4; have r2f4 := r2.free 4; have r2c5 := r2.cell 5; have r2f5 := r2.free 5; have r2l := r2.lt; simp at r2c0 r2c1 r2c2 r2c3 r2c4 r2c5; refine Blk.thru (b := (w.heap.size + 1 + 1 + 1)) (arr := ?_) (t := ?_) ?_ hb2 ?_; rotate_left 2; (focus (exact blk)); intro r3; have r3c0 := r3.cell 0; have r3f0 := r3.free 0; have r3c1 := r3.cell 1; have r3f1 := r3.free 1; have r3c2 := r3.cell 2; have r3f2 := r3.free 2; have r3c3 := r3.cell 3; have r3f3 := r3.free 3; have r3c4 := r3.cell 4; have r3f4 := r3.free 4; have r3l := r3.lt; simp at r3c0 r3c1 r3c2 r3c3 r3c4) | (go_at_call 50; (with_reducible refine (f_deeds _).mono ?_); rintro z w3 ⟨rfl, hT, hb3⟩))
    obtain ⟨M, hMe⟩ : ∃ n, n = w2.heap.size := ⟨_, rfl⟩
    obtain ⟨B, hBe⟩ : ∃ n, n = w3.heap.size := ⟨_, rfl⟩
    rw [← hMe, ← hBe] at hT
    rw [← hMe]
    have hB0 : w.heap.size + 1 + 1 + 1 < B := by rw [hBe]; have := hb3.size; have := r3l; have q := hb2.size; simp at *; omega
    refine at_world (S := fun V => B ≤ V.heap.size ∧ Table V B M ∧ Blk V w.heap.size #[.slice a p.axes.length c, .int .i64 p.people, .int .i64 p.most, .slice e p.pulls.length d, .int .i64 p.cross] 25 ∧ Blk V (w.heap.size + 1) #[.int .u8 b.ship, .int .i64 b.axis, .int .i64 b.held, .bool b.wire, .bool b.opn] 37 ∧ Blk V (w.heap.size + 1 + 1) #[.int .u8 s.act.kind, .int .i64 s.act.n, .int .i64 s.wind.xlo, .int .i64 s.wind.xhi, .int .i64 s.wind.ylo, .int .i64 s.wind.yhi] 61 ∧ Blk V (w.heap.size + 1 + 1 + 1) #[.int .u8 0, .int .i64 0, .int .i64 0, .bool false, .bool false] 37 ∧ Kept w V) ⟨Nat.le_of_eq hBe, hT, by (exact blk), by (exact blk), by (exact blk), by (exact blk), by (exact kpt)⟩ ?_
    clear r0 r1 r2 r3 hT hMe hBe r0c0 r0f0 r0c1 r0f1 r0c2 r0f2 r0c3 r0f3 r0c4 r0f4 r1c0 r1f0 r1c1 r1f1 r1c2 r1f2 r1c3 r1f3 r1c4 r1f4 r2c0 r2f0 r2c1 r2f1 r2c2 r2f2 r2c3 r2f3 r2c4 r2f4 r2c5 r2f5 r3c0 r3f0 r3c1 r3f1 r3c2 r3f2 r3c3 r3f3 r3c4 r3f4 r0l r1l r2l r3l
    rintro W ⟨hBW, hT, rp, rb, rs, rc, hk⟩
    obtain ⟨hMB, g, hI, hno, h4⟩ := hT
    obtain ⟨b', s', hb', hs', hg, hr, hsh⟩ := h4 _ t1 t2
    obtain ⟨m, G, cs, hdf⟩ := deed_form b' s' s.act.kind t1 t2
    have HG := Lib.hid (show (g s.act.kind).getD (.agg #[.slice none 0 0, .nilFunc]) = .agg #[.slice (some ⟨b', 0, none⟩) m m, .func (.func G) #[] cs] by rw [hg, hdf]; rfl)
    have HGS := Lib.hid (show (g s.act.kind).isSome = true by rw [hg]; rfl)
    have hT : Table W B M := ⟨hMB, g, hI, hno, h4⟩
    clear hg hdf hr hsh h4
    have rpc0 := rp.cell 0
    have rpc1 := rp.cell 1
    have rpc2 := rp.cell 2
    have rpc3 := rp.cell 3
    have rpc4 := rp.cell 4
    have rpf0 := rp.free 0
    have rpf1 := rp.free 1
    have rpf2 := rp.free 2
    have rpf3 := rp.free 3
    have rpf4 := rp.free 4
    have rpl := rp.lt
    simp at rpc0 rpc1 rpc2 rpc3 rpc4
    have rbc0 := rb.cell 0
    have rbc1 := rb.cell 1
    have rbc2 := rb.cell 2
    have rbc3 := rb.cell 3
    have rbc4 := rb.cell 4
    have rbf0 := rb.free 0
    have rbf1 := rb.free 1
    have rbf2 := rb.free 2
    have rbf3 := rb.free 3
    have rbf4 := rb.free 4
    have rbl := rb.lt
    simp at rbc0 rbc1 rbc2 rbc3 rbc4
    have rsc0 := rs.cell 0
    have rsc1 := rs.cell 1
    have rsc2 := rs.cell 2
    have rsc3 := rs.cell 3
    have rsc4 := rs.cell 4
    have rsc5 := rs.cell 5
    have rsf0 := rs.free 0
    have rsf1 := rs.free 1
    have rsf2 := rs.free 2
    have rsf3 := rs.free 3
    have rsf4 := rs.free 4
    have rsf5 := rs.free 5
    have rsl := rs.lt
    simp at rsc0 rsc1 rsc2 rsc3 rsc4 rsc5
    have rcc0 := rc.cell 0
    have rcc1 := rc.cell 1
    have rcc2 := rc.cell 2
    have rcc3 := rc.cell 3
    have rcc4 := rc.cell 4
    have rcf0 := rc.free 0
    have rcf1 := rc.free 1
    have rcf2 := rc.free 2
    have rcf3 := rc.free 3
    have rcf4 := rc.free 4
    have rcl := rc.lt
    simp at rcc0 rcc1 rcc2 rcc3 rcc4
    go_upto_region 11 with (at_lookup; refine wpList_look_ok _ rfl _ _ 104 rfl 5 123 keyedU8 Tryz.underlying104 _ (zeroDeed _) M _ (litF g) rfl hI _ (.int .u8 s.act.kind) rfl (keyU8 hk0) _ HG.out true HGS.out ?_)
    refine at_world (S := fun V => B ≤ V.heap.size ∧ Table V B M ∧ Blk V w.heap.size #[.slice a p.axes.length c, .int .i64 p.people, .int .i64 p.most, .slice e p.pulls.length d, .int .i64 p.cross] 25 ∧ Blk V (w.heap.size + 1) #[.int .u8 b.ship, .int .i64 b.axis, .int .i64 b.held, .bool b.wire, .bool b.opn] 37 ∧ Blk V (w.heap.size + 1 + 1) #[.int .u8 s.act.kind, .int .i64 s.act.n, .int .i64 s.wind.xlo, .int .i64 s.wind.xhi, .int .i64 s.wind.ylo, .int .i64 s.wind.yhi] 61 ∧ Blk V (w.heap.size + 1 + 1 + 1) #[.int .u8 0, .int .i64 0, .int .i64 0, .bool false, .bool false] 37 ∧ Kept w V) ⟨by have := hBW; simp; omega, hT.below (Below.alloc (Below.refl _ _) hBW _), by (exact blk), by (exact blk), by (exact blk), by (exact blk), by (exact kpt)⟩ ?_
    clear rpc0 rpf0 rpc1 rpf1 rpc2 rpf2 rpc3 rpf3 rpc4 rpf4 rbc0 rbf0 rbc1 rbf1 rbc2 rbf2 rbc3 rbf3 rbc4 rbf4 rsc0 rsf0 rsc1 rsf1 rsc2 rsf2 rsc3 rsf3 rsc4 rsf4 rsc5 rsf5 rcc0 rcf0 rcc1 rcf1 rcc2 rcf2 rcc3 rcf3 rcc4 rcf4 rpl rbl rsl rcl hI hno hT rp rb rs rc hk hBW HG HGS
    rintro W2 ⟨hBW, hT, rp, rb, rs, rc, hk⟩
    have rpc0 := fun g : Later W2 => (rp.later g).cell 0
    have rpc1 := fun g : Later W2 => (rp.later g).cell 1
    have rpc2 := fun g : Later W2 => (rp.later g).cell 2
    have rpc3 := fun g : Later W2 => (rp.later g).cell 3
    have rpc4 := fun g : Later W2 => (rp.later g).cell 4
    have rpf0 := fun g : Later W2 => (rp.later g).free 0
    have rpf1 := fun g : Later W2 => (rp.later g).free 1
    have rpf2 := fun g : Later W2 => (rp.later g).free 2
    have rpf3 := fun g : Later W2 => (rp.later g).free 3
    have rpf4 := fun g : Later W2 => (rp.later g).free 4
    have rpl := fun g : Later W2 => (rp.later g).lt
    simp at rpc0 rpc1 rpc2 rpc3 rpc4
    have rbc0 := fun g : Later W2 => (rb.later g).cell 0
    have rbc1 := fun g : Later W2 => (rb.later g).cell 1
    have rbc2 := fun g : Later W2 => (rb.later g).cell 2
    have rbc3 := fun g : Later W2 => (rb.later g).cell 3
    have rbc4 := fun g : Later W2 => (rb.later g).cell 4
    have rbf0 := fun g : Later W2 => (rb.later g).free 0
    have rbf1 := fun g : Later W2 => (rb.later g).free 1
    have rbf2 := fun g : Later W2 => (rb.later g).free 2
    have rbf3 := fun g : Later W2 => (rb.later g).free 3
    have rbf4 := fun g : Later W2 => (rb.later g).free 4
    have rbl := fun g : Later W2 => (rb.later g).lt
    simp at rbc0 rbc1 rbc2 rbc3 rbc4
    have rsc0 := fun g : Later W2 => (rs.later g).cell 0
    have rsc1 := fun g : Later W2 => (rs.later g).cell 1
    have rsc2 := fun g : Later W2 => (rs.later g).cell 2
    have rsc3 := fun g : Later W2 => (rs.later g).cell 3
    have rsc4 := fun g : Later W2 => (rs.later g).cell 4
    have rsc5 := fun g : Later W2 => (rs.later g).cell 5
    have rsf0 := fun g : Later W2 => (rs.later g).free 0
    have rsf1 := fun g : Later W2 => (rs.later g).free 1
    have rsf2 := fun g : Later W2 => (rs.later g).free 2
    have rsf3 := fun g : Later W2 => (rs.later g).free 3
    have rsf4 := fun g : Later W2 => (rs.later g).free 4
    have rsf5 := fun g : Later W2 => (rs.later g).free 5
    have rsl := fun g : Later W2 => (rs.later g).lt
    simp at rsc0 rsc1 rsc2 rsc3 rsc4 rsc5
    have rcc0 := fun g : Later W2 => (rc.later g).cell 0
    have rcc1 := fun g : Later W2 => (rc.later g).cell 1
    have rcc2 := fun g : Later W2 => (rc.later g).cell 2
    have rcc3 := fun g : Later W2 => (rc.later g).cell 3
    have rcc4 := fun g : Later W2 => (rc.later g).cell 4
    have rcf0 := fun g : Later W2 => (rc.later g).free 0
    have rcf1 := fun g : Later W2 => (rc.later g).free 1
    have rcf2 := fun g : Later W2 => (rc.later g).free 2
    have rcf3 := fun g : Later W2 => (rc.later g).free 3
    have rcf4 := fun g : Later W2 => (rc.later g).free 4
    have rcl := fun g : Later W2 => (rc.later g).lt
    simp at rcc0 rcc1 rcc2 rcc3 rcc4
    refine Later.tail 7 (by kernel_rfl) (by kernel_rfl) ?_
    simp only [List.take_succ_cons, List.take_zero, List.drop_succ_cons, List.drop_zero]
    repeat (first | go_big_quiet_skip | (go_big_quiet_want; go_big_quiet_op; first | go_big_quiet_on | (apply Exists.intro; refine ⟨fun g_ => ?_, ?_⟩; (focus (first | (go_at_call 51; with_reducible exact Later.call (f_need a c e d p _ (hx.later (Kept.drop hk g_.ok) (Nat.le_refl _)) hc hM (hy.later (Kept.drop hk g_.ok) (Nat.le_refl _)) hd hN h1 h2 hp)))); go_big_quiet_on)))
    refine wpQuiet_nil ?_
    intro gg
    have rp2 := rp.later gg
    have rb2 := rb.later gg
    have rs2 := rs.later gg
    have rc2 := rc.later gg
    have hkg := Kept.drop hk gg.ok
    have hT2 := hT.below (gg.ok.mono hBW)
    clear rpc0 rpf0 rpc1 rpf1 rpc2 rpf2 rpc3 rpf3 rpc4 rpf4 rbc0 rbf0 rbc1 rbf1 rbc2 rbf2 rbc3 rbf3 rbc4 rbf4 rsc0 rsf0 rsc1 rsf1 rsc2 rsf2 rsc3 rsf3 rsc4 rsf4 rsc5 rsf5 rcc0 rcf0 rcc1 rcf1 rcc2 rcf2 rcc3 rcf3 rcc4 rcf4 rpl rbl rsl rcl
    refine wpList_plain rfl fun K1 hK1 => ?_
    go_simp
    refine hK1 _ _ ?_
    go_upto_region 12 with fail
    have hgs := gg.ok.size
    refine at_world (S := fun V => Table V B M ∧ Blk V w.heap.size #[.slice a p.axes.length c, .int .i64 p.people, .int .i64 p.most, .slice e p.pulls.length d, .int .i64 p.cross] 25 ∧ Blk V (w.heap.size + 1) #[.int .u8 b.ship, .int .i64 b.axis, .int .i64 b.held, .bool b.wire, .bool b.opn] 37 ∧ Blk V (w.heap.size + 1 + 1) #[.int .u8 s.act.kind, .int .i64 s.act.n, .int .i64 s.wind.xlo, .int .i64 s.wind.xhi, .int .i64 s.wind.ylo, .int .i64 s.wind.yhi] 61 ∧ Blk V (w.heap.size + 1 + 1 + 1) #[.int .u8 0, .int .i64 0, .int .i64 0, .bool false, .bool false] 37 ∧ Blk V gg.val.heap.size (dockCells a c e d p (⟨b, needP p, s.wind, 0⟩ : Dock)) 112 ∧ Row Axis.cells 2 gg.val.heap.size V a p.axes ∧ Kept w V) ⟨hT2.below (Below.alloc (Below.refl _ _) (Nat.le_trans hBW hgs) _), by (exact blk), by (exact blk), by (exact blk), by (exact blk), by (exact blkc), ((hx.keep hkg (Nat.le_refl _)).up hkg.size).keep (Below.alloc (Below.refl _ _) (Nat.le_refl _) _) (Nat.le_refl _), by (exact kpt)⟩ ?_
    have hBn0 : B ≤ gg.val.heap.size := Nat.le_trans hBW hgs
    have hcn0 : (w.heap.size + 1 + 1 + 1) < gg.val.heap.size := rc2.lt
    obtain ⟨nD, hnD⟩ : ∃ n, n = gg.val.heap.size := ⟨_, rfl⟩
    rw [← hnD] at hBn0 hcn0 ⊢
    have hwn : w.heap.size ≤ nD := by rw [hnD]; exact hkg.size
    clear hnD rp rb rs rc rp2 rb2 rs2 rc2 hT hT2 hkg hk gg hgs
    rintro W3 ⟨hT, rp, rb, rs, rc, rd, hxn, hk⟩
    have hBn := hBn0
    have rpc0 := rp.cell 0
    have rpc1 := rp.cell 1
    have rpc2 := rp.cell 2
    have rpc3 := rp.cell 3
    have rpc4 := rp.cell 4
    have rpf0 := rp.free 0
    have rpf1 := rp.free 1
    have rpf2 := rp.free 2
    have rpf3 := rp.free 3
    have rpf4 := rp.free 4
    have rpl := rp.lt
    simp at rpc0 rpc1 rpc2 rpc3 rpc4
    have rbc0 := rb.cell 0
    have rbc1 := rb.cell 1
    have rbc2 := rb.cell 2
    have rbc3 := rb.cell 3
    have rbc4 := rb.cell 4
    have rbf0 := rb.free 0
    have rbf1 := rb.free 1
    have rbf2 := rb.free 2
    have rbf3 := rb.free 3
    have rbf4 := rb.free 4
    have rbl := rb.lt
    simp at rbc0 rbc1 rbc2 rbc3 rbc4
    have rsc0 := rs.cell 0
    have rsc1 := rs.cell 1
    have rsc2 := rs.cell 2
    have rsc3 := rs.cell 3
    have rsc4 := rs.cell 4
    have rsc5 := rs.cell 5
    have rsf0 := rs.free 0
    have rsf1 := rs.free 1
    have rsf2 := rs.free 2
    have rsf3 := rs.free 3
    have rsf4 := rs.free 4
    have rsf5 := rs.free 5
    have rsl := rs.lt
    simp at rsc0 rsc1 rsc2 rsc3 rsc4 rsc5
    have rcc0 := rc.cell 0
    have rcc1 := rc.cell 1
    have rcc2 := rc.cell 2
    have rcc3 := rc.cell 3
    have rcc4 := rc.cell 4
    have rcf0 := rc.free 0
    have rcf1 := rc.free 1
    have rcf2 := rc.free 2
    have rcf3 := rc.free 3
    have rcf4 := rc.free 4
    have rcl := rc.lt
    simp at rcc0 rcc1 rcc2 rcc3 rcc4
    go_wp2_with (go_at_call 52; (with_reducible refine (f_try a c e d p (⟨b, needP p, s.wind, 0⟩ : Dock) nD s.act.kind s.act.n _ rd M B hT hBn hxn hp c2 hax ht).mono ?_); rw [show tryR p { (⟨b, needP p, s.wind, 0⟩ : Dock) with n := s.act.n } s.act.kind = R from HR.out]; rintro z w9 ⟨rfl, hyes, hnot, hb9⟩; have hk9 : Kept w w9 := Below.trans hk (hb9.mono hwn); have rc9 := rc.lower hb9 hcn0; have rc9c0 := rc9.cell 0; have rc9c1 := rc9.cell 1; have rc9c2 := rc9.cell 2; have rc9c3 := rc9.cell 3; have rc9c4 := rc9.cell 4; have rc9f0 := rc9.free 0; have rc9f1 := rc9.free 1; have rc9f2 := rc9.free 2; have rc9f3 := rc9.free 3; have rc9f4 := rc9.free 4; have rc9l := rc9.lt; simp at rc9c0 rc9c1 rc9c2 rc9c3 rc9c4)
    exact bodyPost_ret (v := .tuple #[.agg #[.int .u8 noBerth.ship, .int .i64 noBerth.axis, .int .i64 noBerth.held, .bool noBerth.wire, .bool noBerth.opn], .int .i64 R, .int .i64 74]) (by first | (simp [results, Tryz.results23, go_sem, noBerth, rc9c0, rc9c1, rc9c2, rc9c3, rc9c4, rc9l]; done) | (simp [results, Tryz.results23, go_sem, noBerth, rc9c0, rc9c1, rc9c2, rc9c3, rc9c4, rc9l]; rfl)) rfl ⟨rfl, by (exact kpt)⟩
theorem f_Do (a : Option Addr) (c : Nat) (e : Option Addr) (d : Nat) (p : Port) (w : World) (hx : Row Axis.cells 2 w.heap.size w a p.axes) (hc : p.axes.length ≤ c) (hM : c ≤ maxLen) (hy : Row Span.cells 2 w.heap.size w e p.pulls) (hd : p.pulls.length ≤ d) (hN : d ≤ maxLen) (h1 : p.axes.length ≤ 1000000) (h2 : p.pulls.length ≤ 1000000) (b : Berth) (hs0 : 0 ≤ b.ship) (s : Step) (hk0 : 0 ≤ s.act.kind ∧ s.act.kind ≤ 255) :
    Calls Tryz.prog 23 #[.agg #[.slice a p.axes.length c, .int .i64 p.people, .int .i64 p.most, .slice e p.pulls.length d, .int .i64 p.cross], .agg #[.int .u8 b.ship, .int .i64 b.axis, .int .i64 b.held, .bool b.wire, .bool b.opn], .agg #[.int .u8 s.act.kind, .int .i64 s.act.n, .int .i64 s.wind.xlo, .int .i64 s.wind.xhi, .int .i64 s.wind.ylo, .int .i64 s.wind.yhi]] w fun z w' => z = .returned (.tuple #[.agg #[.int .u8 (doB p b s).ship, .int .i64 (doB p b s).axis, .int .i64 (doB p b s).held, .bool (doB p b s).wire, .bool (doB p b s).opn], .int .i64 (doRule p b s), .int .i64 (doE p b s)]) ∧ Kept w w' := by
  by_cases h : doErr p b s = 0
  · exact f_Do_ok a c e d p w hx hc hM hy hd hN h1 h2 b hs0 s hk0 h
  · exact f_Do_bad a c e d p w hx hc hM hy hd hN h1 h2 b hs0 s hk0 h

end Go.Proofs.YtacbkbilbmkjnaaGreat

/-
  Acts and berths in lists.
-/
namespace Go.Proofs.YtacbkbilbmkjnaaGreat
open Go.RowKit Bal Bal.Trim Bal.Mast
set_option linter.unusedVariables false
set_option linter.unusedSimpArgs false
set_option maxHeartbeats 2000000
set_option maxRecDepth 10000

def Deed.cells (a : Deed) : List Value := [.int .u8 a.kind, .int .i64 a.n]
theorem deed_len (x : Deed) : (Deed.cells x).length = 2 := rfl
theorem berth_len (x : Berth) : (Berth.cells x).length = 5 := rfl
theorem Deed.row {B : Nat} {w : World} {a : Option Addr} {xs : List Deed} (h : Row Deed.cells 2 B w a xs) (i : Nat) (hi : i < xs.length) :
    ∃ b off, a = some ⟨b, off, none⟩ ∧ b < B ∧ w.cell? ⟨b, off + i * 2, none⟩ = some (.int .u8 xs[i].kind) ∧ w.cell? ⟨b, off + i * 2 + 1, none⟩ = some (.int .i64 xs[i].n) := by
  obtain ⟨b, off, ha, hb, hc⟩ := h i xs[i] (by simp [hi])
  exact ⟨b, off, ha, hb, hc 0 _ rfl, hc 1 _ rfl⟩
theorem Berth.row {B : Nat} {w : World} {a : Option Addr} {xs : List Berth} (h : Row Berth.cells 5 B w a xs) (i : Nat) (hi : i < xs.length) :
    ∃ b off, a = some ⟨b, off, none⟩ ∧ b < B ∧ w.cell? ⟨b, off + i * 5, none⟩ = some (.int .u8 xs[i].ship) ∧ w.cell? ⟨b, off + i * 5 + 1, none⟩ = some (.int .i64 xs[i].axis) ∧ w.cell? ⟨b, off + i * 5 + 2, none⟩ = some (.int .i64 xs[i].held) ∧ w.cell? ⟨b, off + i * 5 + 3, none⟩ = some (.bool xs[i].wire) ∧ w.cell? ⟨b, off + i * 5 + 4, none⟩ = some (.bool xs[i].opn) := by
  obtain ⟨b, off, ha, hb, hc⟩ := h i xs[i] (by simp [hi])
  exact ⟨b, off, ha, hb, hc 0 _ rfl, hc 1 _ rfl, hc 2 _ rfl, hc 3 _ rfl, hc 4 _ rfl⟩
theorem infoDeed : (Tryz.prog.info? 48).map (fun i => (i.zero, i.size, i.bytes)) = some (some (.agg #[.int .u8 0, .int .i64 0]), 2, 16) := by kernel_rfl
theorem eq_berth (x y : Berth) {z : Bool} (h : decide (x = y) = z) (w : World) : (binOp .eql 37 (.agg #[.int .u8 x.ship, .int .i64 x.axis, .int .i64 x.held, .bool x.wire, .bool x.opn]) (.agg #[.int .u8 y.ship, .int .i64 y.axis, .int .i64 y.held, .bool y.wire, .bool y.opn])).run Tryz.prog w = .ok (.bool z) w := by
  subst h
  obtain ⟨x1, x2, x3, x4, x5⟩ := x
  obtain ⟨y1, y2, y3, y4, y5⟩ := y
  simp only [Berth.mk.injEq]
  simp [go_sem]
  by_cases h1 : x1 = y1 <;> by_cases h2 : x2 = y2 <;> by_cases h3 : x3 = y3 <;> cases x4 <;> cases y4 <;> cases x5 <;> cases y5 <;> simp [h1, h2, h3]

theorem r_SameActs (a b : Option Addr) (c d : Nat) (xs : List Deed) (w : World) (hx : Row Deed.cells 2 w.heap.size w a xs) (hy : Row Deed.cells 2 w.heap.size w b xs) (hc : xs.length ≤ c) (hd : xs.length ≤ d) (hM : c ≤ maxLen) (hN : d ≤ maxLen) :
    Calls Tryz.prog 41 #[.slice a xs.length c, .slice b xs.length d] w fun e w' => e = .returned (.bool true) ∧ Kept w w' := by
  unfold maxLen at hM hN
  go_enter Tryz.func41, Tryz.ntmps41
  go_wp2
  go_loopw [5] (fun i wr => ∃ k : Nat, k ≤ xs.length ∧ i = .int .i64 k ∧ Kept w wr) (fun i _ => xs.length - (intOf i).toNat)
  case atStart => exact ⟨0, Nat.zero_le _, rfl, Below.refl _ _⟩
  case round =>
    obtain ⟨k, hk, rfl, hkk⟩ := hrel
    by_cases hlt : k < xs.length
    · obtain ⟨b1, o1, rfl, hb1, h0, h1⟩ := Deed.row (hx.later hkk (Nat.le_refl _)) k hlt
      obtain ⟨b2, o2, rfl, hb2, j0, j1⟩ := Deed.row (hy.later hkk (Nat.le_refl _)) k hlt
      have x0 := fun g : Later wr => g.some h0
      have y0 := fun g : Later wr => g.some j0
      have x1 := fun g : Later wr => g.some h1
      have y1 := fun g : Later wr => g.some j1
      go_upto_region 6 with fail
      refine Later.region (by kernel_rfl) (by kernel_rfl) ?_
      repeat (first | go_big_quiet_skip | (go_big_quiet_want; go_big_quiet_op; first | go_big_quiet_on | (apply Exists.intro; refine ⟨fun g => ?_, ?_⟩; (focus (first | fail)); go_big_quiet_on)))
      refine wpQuiet_nil ?_
      intro gg
      have hkgg := Kept.drop hkk gg.ok
      go_wp2
      go_roundw
      case rel => exact ⟨k + 1, by omega, by go_num, by (exact kpt)⟩
      case measure => simp [intOf]; omega
    · obtain rfl : k = xs.length := by omega
      go_wp2
      go_ret
      exact ⟨rfl, hkk⟩

theorem s_CloneA (a : Option Addr) (cap : Nat) (xs : List Deed) (w : World) (hx : Row Deed.cells 2 w.heap.size w a xs) (hn : xs.length ≤ 1000000) (hz : a = none → cap = 0) :
    Calls Tryz.prog 53 #[.slice a xs.length cap] w fun e w' => ∃ v, e = .returned v ∧ w'.ownsRow w.heap.size 48 2 v xs.length (xs.flatMap Deed.cells) ∧ Kept w w' := by
  cases a with
  | none =>
    have hl : xs = [] := by
      cases xs with
      | nil => rfl
      | cons y ys => obtain ⟨b, off, ha, _⟩ := hx 0 y rfl; cases ha
    subst hl
    have := hz rfl
    subst this
    have hs0 : ∀ w, (binOp .eql 40 (.slice none 0 0) (.slice none 0 0)).run Tryz.prog w = .ok (.bool true) w := fun w => Lib.run_eql_slice_nil w _ _ _ _ _ _ _ Tryz.underlying40
    go_enter Tryz.func53, Tryz.ntmps53
    go_wp2
    exact bodyPost_ret (v := .slice none 0 0) (by simp [results, Tryz.results53, go_sem]) rfl ⟨_, rfl, owns_nil (α := Deed) (enc := Deed.cells), by (exact kpt)⟩
  | some ad =>
    have HO := Lib.hid (owns_made (α := Deed) (enc := Deed.cells) (base := w.heap.size) (k := 2) (n := w.heap.size) (e := 48) (w := w) rfl (Nat.le_refl _))
    have hs0 : ∀ w, (binOp .eql 40 (.slice (some ad) xs.length cap) (.slice none 0 0)).run Tryz.prog w = .ok (.bool false) w := fun w => Lib.run_eql_slice_nil w _ _ _ _ _ _ _ Tryz.underlying40
    go_enter Tryz.func53, Tryz.ntmps53
    go_wp2_with (at_builtin; obtain ⟨i0, hi, hz0, hz1, hz2⟩ := info_parts infoDeed; refine wpList_append_list (enc := Deed.cells) rfl _ _ 40 rfl w.heap.size 48 i0 (.agg #[.int .u8 0, .int .i64 0]) 2 16 Tryz.underlying40 hi hz0 hz1 hz2 rfl (by decide) deed_len (fun x u hu => by simp [Deed.cells] at hu; rcases hu with rfl | rfl <;> rfl) _ [] rfl HO.out (some ad) cap xs rfl (by simp) (B := w.heap.size) (hx.keep (by (exact kpt)) (Nat.le_refl _)) (by simp [maxLen]; omega) (by simp; omega) (by simp) ?_; intro v' w9 hown' hgrow; clear hi hz0 hz1 hz2)
    have hk : Kept w w9 := Kept.grown (Kept.alloc (Below.refl _ _) _) HO.out (Nat.le_refl _) hgrow
    rw [List.nil_append] at hown'
    obtain ⟨ad', cp, rfl, _⟩ := owns_row (enc := Deed.cells) (k := 2) deed_len hown'
    exact bodyPost_ret (v := .slice ad' xs.length cp) (by simp [results, Tryz.results53, go_sem]) rfl ⟨_, rfl, hown', hk⟩

end Go.Proofs.YtacbkbilbmkjnaaGreat

/-
  Manned lines, in the program and in the reference.
-/
namespace Go.Proofs.YtacbkbilbmkjnaaGreat
open Go.RowKit Bal Bal.Trim Bal.Mast
set_option linter.unusedVariables false
set_option linter.unusedSimpArgs false
set_option maxHeartbeats 4000000
set_option maxRecDepth 10000

theorem fm_icell (ls : List Int) : ls.flatMap icell = ls.map fun y => Value.int .i64 y := by
  induction ls with
  | nil => rfl
  | cons y ys ih => simp [icell, List.flatMap_cons] at *; exact ih
theorem own_blk {W : World} {base n cp g : Nat} {e : TypeId} {ls : List Int} (h : W.ownsRow base e 1 (.slice (some ⟨g, 0, none⟩) n cp) ls.length (ls.flatMap icell)) : base ≤ g ∧ ∃ cur, Blk W g cur e := by
  obtain ⟨h1, ⟨hv, _⟩ | ⟨g', cap, cur, hv, hb, hh, hn, hc, hs, ht⟩⟩ := h
  · cases hv
  · cases hv
    exact ⟨hb, cur, hh⟩
theorem own_put {W : World} {base n cp g q : Nat} {e : TypeId} {ls : List Int} (h : W.ownsRow base e 1 (.slice (some ⟨g, 0, none⟩) n cp) ls.length (ls.flatMap icell)) (y : Int) :
    (W.setCell ⟨g, q, none⟩ (.int .i64 y)).ownsRow base e 1 (.slice (some ⟨g, 0, none⟩) n cp) (ls.set q y).length ((ls.set q y).flatMap icell) := by
  obtain ⟨h1, ⟨hv, _⟩ | ⟨g', cap, cur, hv, hb, hh, hn, hc, hs, ht⟩⟩ := h
  · cases hv
  · have hn2 : n = ls.length := by cases hv; rfl
    have hg : g' = g := by cases hv; rfl
    subst hg
    refine ⟨by rw [fm_icell]; simp, .inr ⟨g', cap, cur.setIfInBounds q (.int .i64 y), by rw [hv]; simp, hb, Blk.set (show Blk W g' cur e from hh) q _, by simpa using hn, hc, by simpa using hs, ?_⟩⟩
    rw [fm_icell] at ht ⊢
    simp only [Array.toList_setIfInBounds, List.length_set, List.take_set, ht, List.map_set]
theorem own_at {W : World} {base n cp : Nat} {ad : Option Addr} {e : TypeId} {ls : List Int} (h : W.ownsRow base e 1 (.slice ad n cp) ls.length (ls.flatMap icell)) : n = ls.length ∧ Row icell 1 W.heap.size W ad ls ∧ ls.length ≤ cp ∧ cp ≤ maxLen := by
  obtain ⟨a, c, hv, h1, h2, h3⟩ := owns_row (enc := icell) (k := 1) (fun _ => rfl) h
  cases hv
  exact ⟨rfl, h1, h2, h3⟩
theorem pick_succ {xs : List Span} {ls : List Int} {k : Nat} (hk : k < xs.length) (hk' : k < ls.length) :
    (xs[k].hi = 0 → pick xs ls (k + 1) = pick xs ls k) ∧ (xs[k].hi ≠ 0 → pick xs ls k < 0 → pick xs ls (k + 1) = k) ∧
    (∀ q : Nat, (hq : q < xs.length) → (hq' : q < ls.length) → pick xs ls k = q → xs[k].hi ≠ 0 → pick xs ls (k + 1) = if xs[q].hi * ls[k] < xs[k].hi * ls[q] then (k : Int) else q) := by
  have e1 : xs.getD k default = xs[k] := by simp [hk]
  have e2 : ls.getD k 0 = ls[k] := by simp [hk']
  refine ⟨fun h => ?_, fun h h' => ?_, fun q hq hq' hp h => ?_⟩
  · simp only [pick, e1, h, if_true]
  · simp only [pick, e1, h, if_false, h', true_or, if_true]
  · have e3 : xs.getD q default = xs[q] := by simp [hq]
    have e4 : ls.getD q 0 = ls[q] := by simp [hq']
    have hneg : ¬ ((q : Nat) : Int) < 0 := by omega
    simp only [pick, e1, e2, h, if_false, hp, hneg, false_or, Int.toNat_natCast, e3, e4]

theorem f_Man_bad (a : Option Addr) (cap : Nat) (xs : List Span) (p m : Int) (w : World) (hx : Row Span.cells 2 w.heap.size w a xs) (hc : xs.length ≤ cap) (hM : cap ≤ maxLen) (hn : xs.length ≤ 1000000) (h : manOk xs p m = false) :
    Calls Tryz.prog 13 #[.slice a xs.length cap, .int .i64 p, .int .i64 m] w fun e w' => e = .returned (.tuple #[.slice none 0 0, .int .i64 2]) ∧ Kept w w' := by
  unfold maxLen at hM
  unfold manOk at h
  cases hl : linesB xs
  · have HL := Lib.hid hl
    clear hl h
    go_enter Tryz.func13, Tryz.ntmps13
    go_wp2
    refine wp_scope_straight ?_
    go_wp2_with (first | (go_at_call 43; (with_reducible refine (f_lines _ _ _ _ (hx.later (by (exact kpt)) (Nat.le_refl _)) hn).mono ?_); rw [HL.out]; rintro e w1 ⟨rfl, hb1⟩) | fail)
    simp only [Exit.noGoto]
    exact bodyPost_ret (v := .tuple #[.slice none 0 0, .int .i64 2]) (by simp [results, Tryz.results13, go_sem]) rfl ⟨rfl, by (exact kpt)⟩
  · cases hp : inB p 0 200
    · have HL := Lib.hid hl
      have HP := Lib.hid (show rng [p] 0 200 = false by simpa [rng] using hp)
      clear hl h hp
      go_enter Tryz.func13, Tryz.ntmps13
      go_wp2
      refine wp_scope_straight ?_
      go_wp2_with (first | (go_at_call 43; (with_reducible refine (f_lines _ _ _ _ (hx.later (by (exact kpt)) (Nat.le_refl _)) hn).mono ?_); rw [HL.out]; rintro e w1 ⟨rfl, hb1⟩) | (go_at_call 44; (with_reducible refine (f_ranged_1 _ _ p _ _ _ (by simp)).mono ?_); rw [HP.out]; rintro e w1 ⟨rfl, hb1⟩))
      simp only [Exit.noGoto]
      exact bodyPost_ret (v := .tuple #[.slice none 0 0, .int .i64 2]) (by simp [results, Tryz.results13, go_sem]) rfl ⟨rfl, by (exact kpt)⟩
    · cases hm : inB m 1 1000000
      · have HL := Lib.hid hl
        have HP := Lib.hid (show rng [p] 0 200 = true by simpa [rng] using hp)
        have HMM := Lib.hid (show rng [m] 1 1000000 = false by simpa [rng] using hm)
        clear hl h hp hm
        go_enter Tryz.func13, Tryz.ntmps13
        go_wp2
        refine wp_scope_straight ?_
        go_wp2_with (first | (go_at_call 43; (with_reducible refine (f_lines _ _ _ _ (hx.later (by (exact kpt)) (Nat.le_refl _)) hn).mono ?_); rw [HL.out]; rintro e w1 ⟨rfl, hb1⟩) | (go_at_call 44; (with_reducible refine (f_ranged_1 _ _ p _ _ _ (by simp)).mono ?_); rw [HP.out]; rintro e w1 ⟨rfl, hb1⟩) | (go_at_call 44; (with_reducible refine (f_ranged_1 _ _ m _ _ _ (by simp)).mono ?_); rw [HMM.out]; rintro e w1 ⟨rfl, hb1⟩))
        simp only [Exit.noGoto]
        exact bodyPost_ret (v := .tuple #[.slice none 0 0, .int .i64 2]) (by simp [results, Tryz.results13, go_sem]) rfl ⟨rfl, by (exact kpt)⟩
      · rw [hl, hp, hm] at h
        cases h

end Go.Proofs.YtacbkbilbmkjnaaGreat

/-
  Manned lines: the crowd.
-/
namespace Go.Proofs.YtacbkbilbmkjnaaGreat
open Go.RowKit Bal Bal.Trim Bal.Mast
set_option linter.unusedVariables false
set_option linter.unusedSimpArgs false
set_option maxHeartbeats 4000000
set_option maxRecDepth 10000

theorem own_some {W : World} {base n cp : Nat} {ad : Option Addr} {e : TypeId} {ls : List Int} (h : W.ownsRow base e 1 (.slice ad n cp) ls.length (ls.flatMap icell)) (hl : 0 < ls.length) : ∃ g, ad = some ⟨g, 0, none⟩ := by
  obtain ⟨h1, ⟨hv, h0⟩ | ⟨g', cap, cur, hv, _⟩⟩ := h
  · omega
  · cases hv; exact ⟨g', rfl⟩
theorem man_ok {xs : List Span} {p m : Int} (h : manOk xs p m = true) : linesB xs = true ∧ inB p 0 200 = true ∧ inB m 1 1000000 = true := by
  unfold manOk at h
  simp only [Bool.and_eq_true] at h
  exact ⟨h.1.1, h.1.2, h.2⟩
theorem man_few {xs : List Span} {p m : Int} (h : manOk xs p m = true) (hs : p < total (needs m xs)) : manE xs p m = 75 ∧ manL xs p m = [] := by
  have h1 : manE xs p m = 75 := by unfold manE; rw [if_pos h, if_pos hs]
  exact ⟨h1, by unfold manL; rw [h1]; rfl⟩
theorem man_all {xs : List Span} {p m : Int} (h : manOk xs p m = true) (hs : ¬ p < total (needs m xs)) : manE xs p m = 0 ∧ manL xs p m = after xs (needs m xs) (p - total (needs m xs)).toNat := by
  have h1 : manE xs p m = 0 := by unfold manE; rw [if_pos h, if_neg hs]
  exact ⟨h1, by unfold manL; rw [h1]; rfl⟩
theorem after_stop {xs : List Span} {L0 : List Int} {j : Nat} (h : pick xs (after xs L0 j) xs.length < 0) (i : Nat) : after xs L0 j = after xs L0 i := by
  have h0 : pick xs L0 xs.length < 0 := pick_none xs.length |>.2 ((pick_none xs.length).1 h)
  rw [after_none h0, after_none h0]
theorem after_one {xs : List Span} {L0 ls : List Int} {j q : Nat} (h : ls = after xs L0 j) (hp : pick xs ls xs.length = q) (hq : q < ls.length) : after xs L0 (j + 1) = ls.set q (ls[q] + 1) := by
  rw [after, ← h]
  unfold one
  have hn : ¬ ((q : Nat) : Int) < 0 := by omega
  rw [hp, if_neg hn, Int.toNat_natCast]
  simp [hq]

theorem cell_lt {w : World} {b o : Nat} {v : Value} (h : w.cell? ⟨b, o, none⟩ = some v) : b < w.heap.size := by
  rcases Nat.lt_or_ge b w.heap.size with h' | h'
  · exact h'
  · simp [World.cell?, Array.getElem?_eq_none h'] at h

theorem f_Man_main (a : Option Addr) (cap : Nat) (xs : List Span) (p m : Int) (w : World) (hx : Row Span.cells 2 w.heap.size w a xs) (hc : xs.length ≤ cap) (hM : cap ≤ maxLen) (hn : xs.length ≤ 1000000) (h : manOk xs p m = true) :
    Calls Tryz.prog 13 #[.slice a xs.length cap, .int .i64 p, .int .i64 m] w fun e w' => ∃ v, e = .returned (.tuple #[v, .int .i64 (manE xs p m)]) ∧ w'.ownsRow w.heap.size 3 1 v (manL xs p m).length ((manL xs p m).flatMap icell) ∧ Kept w w' := by
  unfold maxLen at hM
  obtain ⟨hl, hp, hm⟩ := man_ok h
  have hl' := hl
  unfold linesB at hl'
  simp only [Bool.and_eq_true, decide_eq_true_eq, List.all_eq_true] at hl'
  obtain ⟨hn8, hv⟩ := hl'
  have hp' : 0 ≤ p ∧ p ≤ 200 := by simpa [inB] using hp
  have hm' : 1 ≤ m ∧ m ≤ 1000000 := by simpa [inB] using hm
  obtain ⟨hm1, hm2⟩ := hm'
  have hnb := needs_bd hm1 hv
  have htb := total_bd hnb
  have htm := total_mem fun x hx => (hnb x hx).1
  rw [needs_len] at htb
  have HV := Lib.hid (show ∀ s ∈ xs, lineB s = true from hv)
  have HNB := Lib.hid hnb
  obtain ⟨S, hS⟩ : ∃ S, S = total (needs m xs) := ⟨_, rfl⟩
  have hSS : 0 ≤ S ∧ S ≤ 8000000 := by omega
  have HL := Lib.hid hl
  have HP := Lib.hid (show rng [p] 0 200 = true by simpa [rng] using hp)
  have HMM := Lib.hid (show rng [m] 1 1000000 = true by simpa [rng] using hm)
  have HNE := fun (W : World) (hk : Kept w W) => f_needed a cap xs m W (hx.later hk (Nat.le_refl _)) hn8 HV.out hm1 hm2
  by_cases hlt : p < total (needs m xs)
  · obtain ⟨e1, e2⟩ := man_few h hlt
    rw [e1, e2]
    rw [← hS] at hlt HNE
    clear h hl hp hm hv hnb htb htm hS e1 e2
    have hln := needs_len m xs
    go_enter Tryz.func13, Tryz.ntmps13
    go_wp2
    refine wp_scope_straight ?_
    go_wp2_with (first | (go_at_call 43; (with_reducible refine (f_lines _ _ _ _ (hx.later (by (exact kpt)) (Nat.le_refl _)) hn).mono ?_); rw [HL.out]; rintro e w1 ⟨rfl, hb1⟩) | (go_at_call 44; (with_reducible refine (f_ranged_1 _ _ p _ _ _ (by simp)).mono ?_); rw [HP.out]; rintro e w1 ⟨rfl, hb1⟩) | (go_at_call 44; (with_reducible refine (f_ranged_1 _ _ m _ _ _ (by simp)).mono ?_); rw [HMM.out]; rintro e w1 ⟨rfl, hb1⟩) | (go_at_call 45; (with_reducible refine (HNE _ (by (exact kpt))).mono ?_); rintro e wN ⟨vN, rfl, hoN, hbN⟩; obtain ⟨ad, cp, rfl, hrN, hcN, hmN⟩ := owns_row (enc := icell) (k := 1) (fun _ => rfl) hoN; have hzN := Below.size hbN; unfold maxLen at hmN))
    simp only [Exit.noGoto]
    exact bodyPost_ret (v := .tuple #[.slice none 0 0, .int .i64 75]) (by simp [results, Tryz.results13, go_sem]) rfl ⟨_, rfl, owns_nil (α := Int) (enc := icell), by (exact kpt)⟩
  · obtain ⟨e1, e2⟩ := man_all h hlt
    rw [e1, e2]
    obtain ⟨J, hJ⟩ : ∃ J, J = (p - total (needs m xs)).toNat := ⟨_, rfl⟩
    rw [← hJ]
    have HB := Lib.hid (fun (j : Nat) (hj : j ≤ 200) (x : Int) (hx : x ∈ after xs (needs m xs) j) => show 0 ≤ x ∧ x ≤ 400 by
      have := after_bd (hs := xs) (ls := needs m xs) (fun x hx => ⟨(hnb x hx).1, by have := htm.2 x hx; omega⟩) j x hx
      omega)
    have hJS : (J : Int) = p - S := by rw [hJ, hS]; omega
    have hJ2 : J ≤ 200 := by omega
    rw [← hS] at hlt HNE
    have hln := needs_len m xs
    have HLEN := Lib.hid (fun j => (after_len xs (needs m xs) j).trans (needs_len m xs))
    obtain ⟨L0, hL0⟩ : ∃ L0, L0 = needs m xs := ⟨_, rfl⟩
    rw [← hL0] at HB HLEN hln HNE ⊢
    clear h hl hp hm hv hnb htb htm hS e1 e2 hJ hL0
    go_enter Tryz.func13, Tryz.ntmps13
    go_wp2
    refine wp_scope_straight ?_
    go_wp2_with (first | (go_at_call 43; (with_reducible refine (f_lines _ _ _ _ (hx.later (by (exact kpt)) (Nat.le_refl _)) hn).mono ?_); rw [HL.out]; rintro e w1 ⟨rfl, hb1⟩) | (go_at_call 44; (with_reducible refine (f_ranged_1 _ _ p _ _ _ (by simp)).mono ?_); rw [HP.out]; rintro e w1 ⟨rfl, hb1⟩) | (go_at_call 44; (with_reducible refine (f_ranged_1 _ _ m _ _ _ (by simp)).mono ?_); rw [HMM.out]; rintro e w1 ⟨rfl, hb1⟩) | (go_at_call 45; (with_reducible refine (HNE _ (by (exact kpt))).mono ?_); rintro e wN ⟨vN, rfl, hoN, hbN⟩; obtain ⟨ad, cp, rfl, hrN, hcN, hmN⟩ := owns_row (enc := icell) (k := 1) (fun _ => rfl) hoN; have hzN := Below.size hbN; unfold maxLen at hmN))
    refine wp_label ?_
    go_wp2
    go_loopw [40] (fun i wr => ∃ j : Nat, j ≤ J ∧ i = .int .i64 j ∧ wr.ownsRow w.heap.size 3 1 (.slice ad L0.length cp) (after xs L0 j).length ((after xs L0 j).flatMap icell) ∧ Kept w wr) (fun i _ => J - (intOf i).toNat)
    case atStart => exact ⟨0, Nat.zero_le _, rfl, owns_base hoN (Kept.size (by (exact kpt))), by (exact kpt)⟩
    case round =>
      obtain ⟨j, hj, rfl, hown, hkk⟩ := hrel
      obtain ⟨ls, hls⟩ : ∃ ls, ls = after xs L0 j := ⟨_, rfl⟩
      have hlen : ls.length = xs.length := by rw [hls]; exact HLEN.out j
      have HBL := Lib.hid (show ∀ x ∈ ls, 0 ≤ x ∧ x ≤ 400 by rw [hls]; exact HB.out j (by omega))
      rw [← hls] at hown
      by_cases hlt2 : j < J
      · have HLS := Lib.hid hls
        clear hls
        go_wp2
        go_loopw [10, 44] (fun b i wq => ∃ k : Nat, k ≤ xs.length ∧ i = .int .i64 k ∧ b = .int .i64 (pick xs ls k) ∧ wq.ownsRow w.heap.size 3 1 (.slice ad L0.length cp) ls.length (ls.flatMap icell) ∧ Kept w wq) (fun _ i _ => xs.length - (intOf i).toNat)
        case atStart => exact ⟨0, Nat.zero_le _, rfl, rfl, hown, hkk⟩
        case round =>
          clear hown hkk
          obtain ⟨k, hk, rfl, rfl, hown, hkk⟩ := hrel
          have hpb := pick_bd xs ls k
          by_cases hlt3 : k < xs.length
          · obtain ⟨hp1, hp2, hp3⟩ := pick_succ hlt3 (show k < ls.length by omega)
            obtain ⟨bb, off, rfl, hbl, h0, h1⟩ := Span.row (hx.later hkk (Nat.le_refl _)) k hlt3
            have hyb := line_bd (HV.out _ (List.getElem_mem hlt3))
            obtain ⟨g, rfl⟩ := own_some hown (by omega)
            obtain ⟨hnl, hrow, hcl, hml⟩ := own_at hown
            unfold maxLen at hml
            have hlb := HBL.out ls[k] (List.getElem_mem (by omega))
            obtain ⟨b2, o2, hb2, _, c0⟩ := int_row hrow k (by omega)
            cases hb2
            simp only [Nat.zero_add] at c0
            obtain ⟨y, hy0⟩ : ∃ y, y = xs[k] := ⟨_, rfl⟩
            obtain ⟨z, hz0⟩ : ∃ z, z = ls[k] := ⟨_, rfl⟩
            rw [← hy0] at hp1 hp2 hp3 hyb h0 h1
            rw [← hz0] at hp3 hlb c0
            clear hy0 hz0
            by_cases hyz : y.hi = 0
            · have HPK := Lib.hid (hp1 hyz)
              clear hp1 hp2 hp3
              go_wp2
              go_roundw
              case rel => exact ⟨k + 1, by omega, by go_num, by rw [HPK.out], hown.alloc _, by (exact kpt)⟩
              case measure => simp [intOf]; omega
            · have HP2 := Lib.hid (hp2 hyz)
              have HP3 := Lib.hid hp3
              clear hp1 hp2 hp3
              have HYZ := Lib.hid hyz
              have hpos : (0 : Int) < y.hi := by omega
              obtain ⟨P, hP⟩ : ∃ P, P = pick xs ls k := ⟨_, rfl⟩
              rw [← hP] at HP2 HP3 hpb ⊢
              have HPP := Lib.hid hP
              clear hP
              go_upto_region 13 with fail
              refine at_world (S := fun W5 => Blk W5 wr.heap.size #[.int .i64 y.lo, .int .i64 y.hi] 34 ∧ W5.ownsRow w.heap.size 3 1 (.slice (some ⟨g, 0, none⟩) L0.length cp) ls.length (ls.flatMap icell) ∧ Kept wr W5 ∧ Kept w W5) ⟨by (exact blkc), hown.alloc _, by (exact kpt), by (exact kpt)⟩ ?_
              clear hown hrow
              rintro W5 ⟨r0, hown, hkr, hkk⟩
              have r0c0 := fun g : Later W5 => (r0.later g).cell 0
              have r0f0 := fun g : Later W5 => (r0.later g).free 0
              have r0c1 := fun g : Later W5 => (r0.later g).cell 1
              have r0f1 := fun g : Later W5 => (r0.later g).free 1
              have r0l := fun g : Later W5 => (r0.later g).lt
              simp at r0c0 r0c1
              have c5 : W5.cell? ⟨g, k, none⟩ = some (.int .i64 z) := by rw [hkr.cell (p := ⟨g, k, none⟩) (cell_lt c0)]; exact c0
              have x1 := fun g : Later W5 => g.some c5
              have k0 : (0 : Int) ≤ (k : Int) := by omega
              have k1 : (k : Int) < (L0.length : Int) := by omega
              have k2 : (k : Int) < (xs.length : Int) := by omega
              by_cases hneg : P < 0
              · have HPK := Lib.hid (HP2.out hneg)
                refine Later.region (by kernel_rfl) (by kernel_rfl) ?_
                repeat (first | go_big_quiet_skip | (go_big_quiet_want; go_big_quiet_op; first | go_big_quiet_on | (apply Exists.intro; refine ⟨fun g => ?_, ?_⟩; (focus (first | fail)); go_big_quiet_on)))
                refine wpQuiet_nil ?_
                intro gg
                have hkg := Kept.drop hkk gg.ok
                have hog := owns_keep hown gg.ok
                go_wp2
                go_roundw
                case rel => exact ⟨k + 1, by omega, by go_num, by rw [HPK.out], hog, hkg⟩
                case measure => simp [intOf]; omega
              · obtain ⟨q, rfl⟩ : ∃ q : Nat, P = q := ⟨P.toNat, by omega⟩
                have hq : q < xs.length := by omega
                have HPK := Lib.hid (HP3.out q hq (by omega) rfl HYZ.out)
                obtain ⟨bb2, off2, hab, _, g0, g1⟩ := Span.row (hx.later hkk (Nat.le_refl _)) q hq
                simp only [Option.some.injEq, Addr.mk.injEq, and_true] at hab
                obtain ⟨rfl, rfl⟩ := hab
                obtain ⟨_, hrow5, _, _⟩ := own_at hown
                obtain ⟨b4, o4, hb4, _, d0⟩ := int_row hrow5 q (by omega)
                cases hb4
                simp only [Nat.zero_add] at d0
                have hyb2 := line_bd (HV.out _ (List.getElem_mem hq))
                have hlb2 := HBL.out ls[q] (List.getElem_mem (by omega))
                obtain ⟨y2, hy2⟩ : ∃ y, y = xs[q] := ⟨_, rfl⟩
                obtain ⟨z2, hz2⟩ : ∃ z, z = ls[q] := ⟨_, rfl⟩
                rw [← hy2] at HPK g0 g1 hyb2
                rw [← hz2] at HPK d0 hlb2
                clear hy2 hz2 hrow5
                have m1 := mul_bd (A := 1000000) (B := 400) (x := y.hi) (y := z2) (by omega) (by omega) (by omega) (by omega)
                have m2 := mul_bd (A := 1000000) (B := 400) (x := y2.hi) (y := z) (by omega) (by omega) (by omega) (by omega)
                have V1 := i64_in (n := y.hi * z2) (by omega)
                have V2 := i64_in (n := y2.hi * z) (by omega)
                have x2 := fun g : Later W5 => g.some g1
                have x3 := fun g : Later W5 => g.some d0
                have q0 : (0 : Int) ≤ (q : Int) := by omega
                have q1 : (q : Int) < (xs.length : Int) := by omega
                have q2 : (q : Int) < (L0.length : Int) := by omega
                by_cases hcmp : y2.hi * z < y.hi * z2
                · have HCM := Lib.hid hcmp
                  refine Later.region (by kernel_rfl) (by kernel_rfl) ?_
                  repeat (first | go_big_quiet_skip | (go_big_quiet_want; go_big_quiet_op; first | go_big_quiet_on | (apply Exists.intro; refine ⟨fun g => ?_, ?_⟩; (focus (first | fail)); go_big_quiet_on)))
                  refine wpQuiet_nil ?_
                  intro gg
                  have hkg := Kept.drop hkk gg.ok
                  have hog := owns_keep hown gg.ok
                  go_wp2
                  go_roundw
                  case rel => exact ⟨k + 1, by omega, by go_num, by rw [HPK.out, if_pos HCM.out], hog, hkg⟩
                  case measure => simp [intOf]; omega
                · have HCM := Lib.hid hcmp
                  refine Later.region (by kernel_rfl) (by kernel_rfl) ?_
                  repeat (first | go_big_quiet_skip | (go_big_quiet_want; go_big_quiet_op; first | go_big_quiet_on | (apply Exists.intro; refine ⟨fun g => ?_, ?_⟩; (focus (first | fail)); go_big_quiet_on)))
                  refine wpQuiet_nil ?_
                  intro gg
                  have hkg := Kept.drop hkk gg.ok
                  have hog := owns_keep hown gg.ok
                  go_wp2
                  go_roundw
                  case rel => exact ⟨k + 1, by omega, by go_num, by rw [HPK.out, if_neg HCM.out], hog, hkg⟩
                  case measure => simp [intOf]; omega
          · obtain rfl : xs.length = k := by omega
            obtain ⟨P, hP⟩ : ∃ P, P = pick xs ls xs.length := ⟨_, rfl⟩
            rw [← hP] at hpb ⊢
            by_cases hneg : P < 0
            · have HST := Lib.hid (after_stop (xs := xs) (L0 := L0) (j := j) (by rw [← HLS.out, ← hP]; exact hneg))
              clear hP
              go_wp2
              simp only [Exit.noGoto]
              exact bodyPost_ret (v := .tuple #[.slice ad xs.length cp, .int .i64 0]) (by simp [results, Tryz.results13, go_sem]) rfl ⟨_, rfl, by rw [← hln, ← HST.out J, ← HLS.out]; exact hown, by (exact kpt)⟩
            · obtain ⟨q, rfl⟩ : ∃ q : Nat, P = q := ⟨P.toNat, by omega⟩
              have hql : q < ls.length := by omega
              have HON := Lib.hid (after_one HLS.out hP.symm hql)
              clear hP
              obtain ⟨g, rfl⟩ := own_some hown (by omega)
              obtain ⟨_, hrow5, hcl5, hml5⟩ := own_at hown
              unfold maxLen at hml5
              obtain ⟨hg5, cur, hcur⟩ := own_blk hown
              obtain ⟨b4, o4, hb4, _, d0⟩ := int_row hrow5 q hql
              cases hb4
              simp only [Nat.zero_add] at d0
              have hlb2 := HBL.out ls[q] (List.getElem_mem hql)
              have hfr := hcur.free q
              have hown6 := own_put (q := q) hown (ls[q] + 1)
              rw [← HON.out] at hown6
              obtain ⟨z2, hz2⟩ : ∃ z, z = ls[q] := ⟨_, rfl⟩
              rw [← hz2] at d0 hlb2 hown6
              clear hz2 hrow5 hcur
              have q0 : (0 : Int) ≤ (q : Int) := by omega
              have q2 : (q : Int) < (L0.length : Int) := by omega
              go_wp2
              go_roundw
              case rel => exact ⟨j + 1, by omega, by go_num, hown6, Below.setCell hkk (p := ⟨g, q, none⟩) hg5 _⟩
              case measure => simp [intOf]; omega
      · obtain rfl : J = j := by omega
        go_wp2
        simp only [Exit.noGoto]
        exact bodyPost_ret (v := .tuple #[.slice ad xs.length cp, .int .i64 0]) (by simp [results, Tryz.results13, go_sem]) rfl ⟨_, rfl, by rw [← hln, ← hls]; exact hown, by (exact kpt)⟩


end Go.Proofs.YtacbkbilbmkjnaaGreat

/-
  Manned lines: the crowd of the reference.
-/
namespace Go.Proofs.YtacbkbilbmkjnaaGreat
open Go.RowKit Bal Bal.Trim Bal.Mast
set_option linter.unusedVariables false
set_option linter.unusedSimpArgs false
set_option maxHeartbeats 4000000
set_option maxRecDepth 10000

theorem f_Man (a : Option Addr) (cap : Nat) (xs : List Span) (p m : Int) (w : World) (hx : Row Span.cells 2 w.heap.size w a xs) (hc : xs.length ≤ cap) (hM : cap ≤ maxLen) (hn : xs.length ≤ 1000000) :
    Calls Tryz.prog 13 #[.slice a xs.length cap, .int .i64 p, .int .i64 m] w fun e w' => ∃ v, e = .returned (.tuple #[v, .int .i64 (manE xs p m)]) ∧ w'.ownsRow w.heap.size 3 1 v (manL xs p m).length ((manL xs p m).flatMap icell) ∧ Kept w w' := by
  cases h : manOk xs p m
  · have h1 : manE xs p m = 2 := by unfold manE; rw [h]; rfl
    have h2 : manL xs p m = [] := by unfold manL; rw [h1]; rfl
    rw [h1, h2]
    exact (f_Man_bad a cap xs p m w hx hc hM hn h).mono fun e w' q => ⟨.slice none 0 0, q.1, owns_nil (α := Int) (enc := icell), q.2⟩
  · exact f_Man_main a cap xs p m w hx hc hM hn h

end Go.Proofs.YtacbkbilbmkjnaaGreat

/-
  Turned sheds, in the program and in the reference.
-/
namespace Go.Proofs.YtacbkbilbmkjnaaGreat
open Go.RowKit Bal Bal.Trim Bal.Mast
set_option linter.unusedVariables false
set_option linter.unusedSimpArgs false
set_option maxHeartbeats 2000000
set_option maxRecDepth 10000

theorem f_Turn_bad (a : Option Addr) (cap : Nat) (xs : List Axis) (p : Int) (v : Wind) (m : Int) (w : World) (hx : Row Axis.cells 2 w.heap.size w a xs) (hc : xs.length ≤ cap) (hM : cap ≤ maxLen) (hn : xs.length ≤ 1000000) (h : turnOk xs p v m ≠ 0) :
    Calls Tryz.prog 33 #[.slice a xs.length cap, .int .i64 p, .agg #[.int .i64 v.xlo, .int .i64 v.xhi, .int .i64 v.ylo, .int .i64 v.yhi], .int .i64 m] w fun e w' => e = .returned (.tuple #[.int .i64 0, .int .i64 0, .int .i64 (turnOk xs p v m)]) ∧ Kept w w' := by
  unfold maxLen at hM
  cases ht : turnable xs
  · have hE : turnOk xs p v m = 72 := by unfold turnOk; rw [ht]; rfl
    rw [hE]
    have HT := Lib.hid ht
    clear ht hE h
    go_enter Tryz.func33, Tryz.ntmps33
    go_wp2_with (go_at_call 75; (with_reducible refine (f_turnable _ _ _ _ (hx.later (by (exact kpt)) (Nat.le_refl _)) hn).mono ?_); rw [HT.out]; rintro e w1 ⟨rfl, hb1⟩; refine Blk.thru (b := w.heap.size) (arr := ?_) (t := ?_) ?_ hb1 ?_; rotate_left 2; (focus (exact blk)); intro r0; have r0c0 := r0.cell 0; have r0f0 := r0.free 0; have r0c1 := r0.cell 1; have r0f1 := r0.free 1; have r0c2 := r0.cell 2; have r0f2 := r0.free 2; have r0c3 := r0.cell 3; have r0f3 := r0.free 3; have r0l := r0.lt; simp at r0c0 r0c1 r0c2 r0c3)
    exact bodyPost_ret (v := .tuple #[.int .i64 0, .int .i64 0, .int .i64 72]) (by simp [results, Tryz.results33, go_sem]) rfl ⟨rfl, by (exact kpt)⟩
  · cases hw : windB v
    · have hE : turnOk xs p v m = 71 := by unfold turnOk; rw [ht, hw]; rfl
      rw [hE]
      have HT := Lib.hid ht
      have HW := Lib.hid (show checkWind v = 71 by unfold checkWind; rw [hw]; rfl)
      clear ht hE h hw
      go_enter Tryz.func33, Tryz.ntmps33
      go_wp2_with (first | (go_at_call 75; (with_reducible refine (f_turnable _ _ _ _ (hx.later (by (exact kpt)) (Nat.le_refl _)) hn).mono ?_); rw [HT.out]; rintro e w1 ⟨rfl, hb1⟩; refine Blk.thru (b := w.heap.size) (arr := ?_) (t := ?_) ?_ hb1 ?_; rotate_left 2; (focus (exact blk)); intro r0; have r0c0 := r0.cell 0; have r0f0 := r0.free 0; have r0c1 := r0.cell 1; have r0f1 := r0.free 1; have r0c2 := r0.cell 2; have r0f2 := r0.free 2; have r0c3 := r0.cell 3; have r0f3 := r0.free 3; have r0l := r0.lt; simp at r0c0 r0c1 r0c2 r0c3) | (go_at_call 39; (with_reducible refine (f_CheckWind v _).mono ?_); rw [HW.out]; rintro e w1 ⟨rfl, hb1⟩; refine Blk.thru (b := w.heap.size) (arr := ?_) (t := ?_) ?_ hb1 ?_; rotate_left 2; (focus (exact blk)); intro r0; have r0c0 := r0.cell 0; have r0f0 := r0.free 0; have r0c1 := r0.cell 1; have r0f1 := r0.free 1; have r0c2 := r0.cell 2; have r0f2 := r0.free 2; have r0c3 := r0.cell 3; have r0f3 := r0.free 3; have r0l := r0.lt; simp at r0c0 r0c1 r0c2 r0c3))
      exact bodyPost_ret (v := .tuple #[.int .i64 0, .int .i64 0, .int .i64 71]) (by simp [results, Tryz.results33, go_sem]) rfl ⟨rfl, by (exact kpt)⟩
    · cases hp : inB p 0 (xs.length - 1)
      · have hE : turnOk xs p v m = 2 := by unfold turnOk; rw [ht, hw, hp]; rfl
        rw [hE]
        have HT := Lib.hid ht
        have HW := Lib.hid (show checkWind v = 0 by unfold checkWind; rw [hw]; rfl)
        have HP := Lib.hid (show rng [p] 0 (xs.length - 1) = _ from (show rng [p] 0 (xs.length - 1) = inB p 0 (xs.length - 1) by simp [rng]).trans hp)
        clear ht hE h hw hp
        go_enter Tryz.func33, Tryz.ntmps33
        go_wp2_with (first | (go_at_call 75; (with_reducible refine (f_turnable _ _ _ _ (hx.later (by (exact kpt)) (Nat.le_refl _)) hn).mono ?_); rw [HT.out]; rintro e w1 ⟨rfl, hb1⟩; refine Blk.thru (b := w.heap.size) (arr := ?_) (t := ?_) ?_ hb1 ?_; rotate_left 2; (focus (exact blk)); intro r0; have r0c0 := r0.cell 0; have r0f0 := r0.free 0; have r0c1 := r0.cell 1; have r0f1 := r0.free 1; have r0c2 := r0.cell 2; have r0f2 := r0.free 2; have r0c3 := r0.cell 3; have r0f3 := r0.free 3; have r0l := r0.lt; simp at r0c0 r0c1 r0c2 r0c3) | (go_at_call 39; (with_reducible refine (f_CheckWind v _).mono ?_); rw [HW.out]; rintro e w1 ⟨rfl, hb1⟩; refine Blk.thru (b := w.heap.size) (arr := ?_) (t := ?_) ?_ hb1 ?_; rotate_left 2; (focus (exact blk)); intro r0; have r0c0 := r0.cell 0; have r0f0 := r0.free 0; have r0c1 := r0.cell 1; have r0f1 := r0.free 1; have r0c2 := r0.cell 2; have r0f2 := r0.free 2; have r0c3 := r0.cell 3; have r0f3 := r0.free 3; have r0l := r0.lt; simp at r0c0 r0c1 r0c2 r0c3) | (go_at_call 44; (with_reducible refine (f_ranged_1 _ _ _ _ _ _ (by simp)).mono ?_); rw [HP.out]; rintro e w1 ⟨rfl, hb1⟩; refine Blk.thru (b := w.heap.size) (arr := ?_) (t := ?_) ?_ hb1 ?_; rotate_left 2; (focus (exact blk)); intro r0; have r0c0 := r0.cell 0; have r0f0 := r0.free 0; have r0c1 := r0.cell 1; have r0f1 := r0.free 1; have r0c2 := r0.cell 2; have r0f2 := r0.free 2; have r0c3 := r0.cell 3; have r0f3 := r0.free 3; have r0l := r0.lt; simp at r0c0 r0c1 r0c2 r0c3))
        exact bodyPost_ret (v := .tuple #[.int .i64 0, .int .i64 0, .int .i64 2]) (by simp [results, Tryz.results33, go_sem]) rfl ⟨rfl, by (exact kpt)⟩
      · cases hm : inB m 0 2000
        · have hE : turnOk xs p v m = 2 := by unfold turnOk; rw [ht, hw, hp, hm]; rfl
          rw [hE]
          have HT := Lib.hid ht
          have HW := Lib.hid (show checkWind v = 0 by unfold checkWind; rw [hw]; rfl)
          have HP := Lib.hid (show rng [p] 0 (xs.length - 1) = _ from (show rng [p] 0 (xs.length - 1) = inB p 0 (xs.length - 1) by simp [rng]).trans hp)
          have HMM := Lib.hid (show rng [m] 0 2000 = _ from (show rng [m] 0 2000 = inB m 0 2000 by simp [rng]).trans hm)
          clear ht hE h hw hp hm
          go_enter Tryz.func33, Tryz.ntmps33
          go_wp2_with (first | (go_at_call 75; (with_reducible refine (f_turnable _ _ _ _ (hx.later (by (exact kpt)) (Nat.le_refl _)) hn).mono ?_); rw [HT.out]; rintro e w1 ⟨rfl, hb1⟩; refine Blk.thru (b := w.heap.size) (arr := ?_) (t := ?_) ?_ hb1 ?_; rotate_left 2; (focus (exact blk)); intro r0; have r0c0 := r0.cell 0; have r0f0 := r0.free 0; have r0c1 := r0.cell 1; have r0f1 := r0.free 1; have r0c2 := r0.cell 2; have r0f2 := r0.free 2; have r0c3 := r0.cell 3; have r0f3 := r0.free 3; have r0l := r0.lt; simp at r0c0 r0c1 r0c2 r0c3) | (go_at_call 39; (with_reducible refine (f_CheckWind v _).mono ?_); rw [HW.out]; rintro e w1 ⟨rfl, hb1⟩; refine Blk.thru (b := w.heap.size) (arr := ?_) (t := ?_) ?_ hb1 ?_; rotate_left 2; (focus (exact blk)); intro r0; have r0c0 := r0.cell 0; have r0f0 := r0.free 0; have r0c1 := r0.cell 1; have r0f1 := r0.free 1; have r0c2 := r0.cell 2; have r0f2 := r0.free 2; have r0c3 := r0.cell 3; have r0f3 := r0.free 3; have r0l := r0.lt; simp at r0c0 r0c1 r0c2 r0c3) | (go_at_call 44; (with_reducible refine (f_ranged_1 _ _ _ _ _ _ (by simp)).mono ?_); rw [HP.out]; rintro e w1 ⟨rfl, hb1⟩; refine Blk.thru (b := w.heap.size) (arr := ?_) (t := ?_) ?_ hb1 ?_; rotate_left 2; (focus (exact blk)); intro r0; have r0c0 := r0.cell 0; have r0f0 := r0.free 0; have r0c1 := r0.cell 1; have r0f1 := r0.free 1; have r0c2 := r0.cell 2; have r0f2 := r0.free 2; have r0c3 := r0.cell 3; have r0f3 := r0.free 3; have r0l := r0.lt; simp at r0c0 r0c1 r0c2 r0c3) | (go_at_call 44; (with_reducible refine (f_ranged_1 _ _ _ _ _ _ (by simp)).mono ?_); rw [HMM.out]; rintro e w1 ⟨rfl, hb1⟩; refine Blk.thru (b := w.heap.size) (arr := ?_) (t := ?_) ?_ hb1 ?_; rotate_left 2; (focus (exact blk)); intro r0; have r0c0 := r0.cell 0; have r0f0 := r0.free 0; have r0c1 := r0.cell 1; have r0f1 := r0.free 1; have r0c2 := r0.cell 2; have r0f2 := r0.free 2; have r0c3 := r0.cell 3; have r0f3 := r0.free 3; have r0l := r0.lt; simp at r0c0 r0c1 r0c2 r0c3))
          exact bodyPost_ret (v := .tuple #[.int .i64 0, .int .i64 0, .int .i64 2]) (by simp [results, Tryz.results33, go_sem]) rfl ⟨rfl, by (exact kpt)⟩
        · exact absurd (by unfold turnOk; rw [ht, hw, hp, hm]; rfl) h
theorem f_turn_ok {xs : List Axis} {p : Int} {v : Wind} {m : Int} (h : turnOk xs p v m = 0) : turnable xs = true ∧ windB v = true ∧ inB p 0 (xs.length - 1) = true ∧ inB m 0 2000 = true := by
  unfold turnOk at h
  cases ht : turnable xs
  · rw [ht] at h; cases h
  · cases hw : windB v
    · rw [ht, hw] at h; cases h
    · cases hp : inB p 0 (xs.length - 1)
      · rw [ht, hw, hp] at h; cases h
      · cases hm : inB m 0 2000
        · rw [ht, hw, hp, hm] at h; cases h
        · exact ⟨rfl, rfl, rfl, rfl⟩

end Go.Proofs.YtacbkbilbmkjnaaGreat

/-
  Turned sheds: the search.
-/
namespace Go.Proofs.YtacbkbilbmkjnaaGreat
open Go.RowKit Bal Bal.Trim Bal.Mast
set_option linter.unusedVariables false
set_option linter.unusedSimpArgs false
set_option maxHeartbeats 4000000
set_option maxRecDepth 10000

theorem turn_found {xs : List Axis} {p : Nat} {v : Wind} {m : Int} (h : turnOk xs p v m = 0) {s : Nat} (hs : s < xs.length) (h1 : ∀ j, j < s → turnAt v m xs p j = false) (h2 : turnAt v m xs p s = true) :
    turnI xs p v m = turnTo v m xs p s ∧ turnN xs p v m = s ∧ turnE xs p v m = 0 := by
  have hf : turnS v m xs ((p : Nat) : Int).toNat = some s := firstOf_some hs h1 h2
  have e : ((p : Nat) : Int).toNat = p := by simp
  unfold turnI turnN turnE
  rw [if_pos h, if_pos h, if_pos h, hf, e]
  exact ⟨rfl, rfl, rfl⟩
theorem turn_lost {xs : List Axis} {p : Nat} {v : Wind} {m : Int} (h : turnOk xs p v m = 0) (hf : turnS v m xs p = none) :
    turnI xs p v m = 0 ∧ turnN xs p v m = 0 ∧ turnE xs p v m = 6 := by
  have e : ((p : Nat) : Int).toNat = p := by simp
  unfold turnI turnN turnE
  rw [if_pos h, if_pos h, if_pos h, e, hf]
  exact ⟨rfl, rfl, rfl⟩

theorem f_Turn_main (a : Option Addr) (cap : Nat) (xs : List Axis) (p : Int) (v : Wind) (m : Int) (w : World) (hx : Row Axis.cells 2 w.heap.size w a xs) (hc : xs.length ≤ cap) (hM : cap ≤ maxLen) (hn : xs.length ≤ 1000000) (h : turnOk xs p v m = 0) :
    Calls Tryz.prog 33 #[.slice a xs.length cap, .int .i64 p, .agg #[.int .i64 v.xlo, .int .i64 v.xhi, .int .i64 v.ylo, .int .i64 v.yhi], .int .i64 m] w fun e w' => e = .returned (.tuple #[.int .i64 (turnI xs p v m), .int .i64 (turnN xs p v m), .int .i64 (turnE xs p v m)]) ∧ Kept w w' := by
  unfold maxLen at hM
  obtain ⟨ht, hw, hp, hm⟩ := f_turn_ok h
  obtain ⟨I, hI⟩ : ∃ I, I = turnI xs p v m := ⟨_, rfl⟩
  obtain ⟨N, hN⟩ : ∃ N, N = turnN xs p v m := ⟨_, rfl⟩
  obtain ⟨E, hE⟩ : ∃ E, E = turnE xs p v m := ⟨_, rfl⟩
  have htb : 1 ≤ xs.length ∧ xs.length ≤ 32 ∧ ∀ x ∈ xs, axisB x = true := by
    unfold turnable at ht
    simp only [Bool.and_eq_true, decide_eq_true_eq, List.all_eq_true] at ht
    exact ⟨ht.1.1, ht.1.2, ht.2⟩
  obtain ⟨hl1, hl2, hax⟩ := htb
  obtain ⟨pn, rfl⟩ : ∃ pn : Nat, p = pn := ⟨p.toNat, by simp [inB] at hp; omega⟩
  have hpn : pn < xs.length := by simp [inB] at hp; omega
  have HSOME := Lib.hid (fun (s : Nat) (hs : s < xs.length / 2 + 1) (h1 : ∀ j, j < s → turnAt v m xs pn j = false) (h2 : turnAt v m xs pn s = true) => turn_found (xs := xs) (p := pn) (v := v) (m := m) h (by omega) h1 h2)
  have HNONE := Lib.hid (fun (h1 : ∀ j, j < xs.length / 2 + 1 → turnAt v m xs pn j = false) => turn_lost (xs := xs) (p := pn) (v := v) (m := m) h (by have := turnS_half (v := v) (m := m) (l := xs) (p := pn) (by omega); rw [this]; exact firstOf_none h1))
  rw [← hI, ← hN, ← hE] at HSOME HNONE
  rw [← hI, ← hN, ← hE]
  have HAX := Lib.hid hax
  have HT := Lib.hid ht
  have HW := Lib.hid (show checkWind v = 0 by unfold checkWind; rw [hw]; rfl)
  have HP := Lib.hid (show rng [(pn : Int)] 0 (xs.length - 1) = true by simpa [rng] using hp)
  have HMM := Lib.hid (show rng [m] 0 2000 = true by simpa [rng] using hm)
  have hw' := hw
  have hm' := hm
  clear h hI hN hE ht hp hax
  go_enter Tryz.func33, Tryz.ntmps33
  go_wp2_with (first | (go_at_call 75; (with_reducible refine (f_turnable _ _ _ _ (hx.later (by (exact kpt)) (Nat.le_refl _)) hn).mono ?_); rw [HT.out]; rintro e w1 ⟨rfl, hb1⟩; refine Blk.thru (b := w.heap.size) (arr := ?_) (t := ?_) ?_ hb1 ?_; rotate_left 2; (focus (exact blk)); intro r0; have r0c0 := r0.cell 0; have r0f0 := r0.free 0; have r0c1 := r0.cell 1; have r0f1 := r0.free 1; have r0c2 := r0.cell 2; have r0f2 := r0.free 2; have r0c3 := r0.cell 3; have r0f3 := r0.free 3; have r0l := r0.lt; simp at r0c0 r0c1 r0c2 r0c3) | (go_at_call 39; (with_reducible refine (f_CheckWind v _).mono ?_); rw [HW.out]; rintro e w1 ⟨rfl, hb1⟩; refine Blk.thru (b := w.heap.size) (arr := ?_) (t := ?_) ?_ hb1 ?_; rotate_left 2; (focus (exact blk)); intro r0; have r0c0 := r0.cell 0; have r0f0 := r0.free 0; have r0c1 := r0.cell 1; have r0f1 := r0.free 1; have r0c2 := r0.cell 2; have r0f2 := r0.free 2; have r0c3 := r0.cell 3; have r0f3 := r0.free 3; have r0l := r0.lt; simp at r0c0 r0c1 r0c2 r0c3) | (go_at_call 44; (with_reducible refine (f_ranged_1 _ _ _ _ _ _ (by simp)).mono ?_); rw [HP.out]; rintro e w1 ⟨rfl, hb1⟩; refine Blk.thru (b := w.heap.size) (arr := ?_) (t := ?_) ?_ hb1 ?_; rotate_left 2; (focus (exact blk)); intro r0; have r0c0 := r0.cell 0; have r0f0 := r0.free 0; have r0c1 := r0.cell 1; have r0f1 := r0.free 1; have r0c2 := r0.cell 2; have r0f2 := r0.free 2; have r0c3 := r0.cell 3; have r0f3 := r0.free 3; have r0l := r0.lt; simp at r0c0 r0c1 r0c2 r0c3) | (go_at_call 44; (with_reducible refine (f_ranged_1 _ _ _ _ _ _ (by simp)).mono ?_); rw [HMM.out]; rintro e w1 ⟨rfl, hb1⟩; refine Blk.thru (b := w.heap.size) (arr := ?_) (t := ?_) ?_ hb1 ?_; rotate_left 2; (focus (exact blk)); intro r0; have r0c0 := r0.cell 0; have r0f0 := r0.free 0; have r0c1 := r0.cell 1; have r0f1 := r0.free 1; have r0c2 := r0.cell 2; have r0f2 := r0.free 2; have r0c3 := r0.cell 3; have r0f3 := r0.free 3; have r0l := r0.lt; simp at r0c0 r0c1 r0c2 r0c3))
  go_loopw [41] (fun i wr => ∃ s : Nat, s ≤ xs.length / 2 + 1 ∧ i = .int .i64 s ∧ (∀ j, j < s → turnAt v m xs pn j = false) ∧ Blk wr w.heap.size #[.int .i64 v.xlo, .int .i64 v.xhi, .int .i64 v.ylo, .int .i64 v.yhi] 39 ∧ Kept w wr) (fun i _ => xs.length / 2 + 1 - (intOf i).toNat)
  case atStart => exact ⟨0, Nat.zero_le _, rfl, fun j h => absurd h (Nat.not_lt_zero _), by (exact blkc), by (exact kpt)⟩
  case round =>
    clear r0 r0c0 r0f0 r0c1 r0f1 r0c2 r0f2 r0c3 r0f3 r0l
    obtain ⟨s, hs, rfl, hno, r0, hk⟩ := hrel
    by_cases hlt : s < xs.length / 2 + 1
    · have hlt' : (s : Int) < (xs.length : Int) / 2 + 1 := by omega
      have HR1 : ((pn : Int) + (s : Int)) % (xs.length : Int) = ((onBy xs.length pn s : Nat) : Int) := by unfold onBy; simp
      have HR2 : ((pn : Int) + (xs.length : Int) - (s : Int)) % (xs.length : Int) = ((backBy xs.length pn s : Nat) : Int) := by unfold backBy; rw [show (pn : Int) + (xs.length : Int) - (s : Int) = ((pn + xs.length - s : Nat) : Int) by omega]; simp
      have HR4 : ((pn : Int) - (s : Int) + (xs.length : Int)) % (xs.length : Int) = ((backBy xs.length pn s : Nat) : Int) := by rw [← HR2]; congr 1; omega
      have HT1 : ((pn : Int) + (s : Int)).tmod (xs.length : Int) = ((onBy xs.length pn s : Nat) : Int) := by rw [Int.tmod_eq_emod_of_nonneg (by omega)]; exact HR1
      have HT2 : ((pn : Int) + (xs.length : Int) - (s : Int)).tmod (xs.length : Int) = ((backBy xs.length pn s : Nat) : Int) := by rw [Int.tmod_eq_emod_of_nonneg (by omega)]; exact HR2
      have HT4 : ((pn : Int) - (s : Int) + (xs.length : Int)).tmod (xs.length : Int) = ((backBy xs.length pn s : Nat) : Int) := by rw [Int.tmod_eq_emod_of_nonneg (by omega)]; exact HR4
      have onL0 : onBy xs.length pn s < xs.length := Nat.mod_lt _ (by omega)
      have bkL0 : backBy xs.length pn s < xs.length := Nat.mod_lt _ (by omega)
      have HAT := Lib.hid (show turnAt v m xs pn s = (calmAt v m xs (onBy xs.length pn s) || calmAt v m xs (backBy xs.length pn s)) from rfl)
      have HTO := Lib.hid (show turnTo v m xs pn s = if calmAt v m xs (onBy xs.length pn s) then onBy xs.length pn s else backBy xs.length pn s from rfl)
      obtain ⟨on, hon⟩ : ∃ on, on = onBy xs.length pn s := ⟨_, rfl⟩
      obtain ⟨bk, hbk⟩ : ∃ bk, bk = backBy xs.length pn s := ⟨_, rfl⟩
      rw [← hon] at HR1 HT1 onL0 HAT HTO
      rw [← hbk] at HR2 HR4 HT2 HT4 bkL0 HAT HTO
      clear hon hbk
      have onL := onL0
      have bkL := bkL0
      have hz0 : ¬ (xs.length : Int) = 0 := by omega
      have hz1 : ¬ xs = [] := by intro e; rw [e] at hl1; simp at hl1
      go_upto_region 12 with fail
      have W1 := i64_in (n := (pn : Int) + (s : Int)) (by omega)
      have W2 := i64_in (n := (pn : Int) + (xs.length : Int)) (by omega)
      have W3 := i64_in (n := (pn : Int) + (xs.length : Int) - (s : Int)) (by omega)
      have W5 := i64_in (n := (on : Int)) (by omega)
      have W6 := i64_in (n := (bk : Int)) (by omega)
      go_cut [56, 57, 58] (fun s6 s7 s8 wx => ∃ g, s6 = .slice (some ⟨g, 0, none⟩) 2 2 ∧ s7 = .int .i64 2 ∧ s8 = .int .i64 0 ∧ w.heap.size < g ∧ Blk wx g #[.int .i64 on, .int .i64 bk] 3 ∧ Blk wx w.heap.size #[.int .i64 v.xlo, .int .i64 v.xhi, .int .i64 v.ylo, .int .i64 v.yhi] 39 ∧ Kept w wx)
      case first =>
        go_region_held3 (fun w' => Kept wr w') (exact kpt) (fail)
        all_goals (go_wp2_with fail; go_meet)
        all_goals
          refine ⟨_, rfl, rfl, rfl, r0.lt, ?_, ?_, ?_⟩
          · first | exact Blk.drew (Blk.new' rfl) | exact Blk.new' rfl | exact Blk.drew (Blk.new' (by simp))
          · (exact blkc)
          · (exact kpt)
      case rest =>
       clear r0
       obtain ⟨g, rfl, rfl, rfl, hgw, q0, r0, hkq⟩ := hcut
       clear W1 W2 W3 W5 W6 HR1 HR2 HR4 HT1 HT2 HT4
       go_wp2
       go_loopw [58] (fun i wq => ∃ t : Nat, t ≤ 2 ∧ i = .int .i64 t ∧ (0 < t → calmAt v m xs on = false) ∧ (1 < t → calmAt v m xs bk = false) ∧ Blk wq g #[.int .i64 on, .int .i64 bk] 3 ∧ Blk wq w.heap.size #[.int .i64 v.xlo, .int .i64 v.xhi, .int .i64 v.ylo, .int .i64 v.yhi] 39 ∧ Kept w wq) (fun i _ => 2 - (intOf i).toNat)
       case atStart => exact ⟨0, by omega, rfl, fun h => by omega, fun h => by omega, q0, r0, hkq⟩
       case round =>
         clear r0 q0 hkq
         obtain ⟨t, ht, rfl, hf1, hf2, q0, r0, hkq⟩ := hrel
         have q0c0 := q0.cell 0
         have q0f0 := q0.free 0
         have q0c1 := q0.cell 1
         have q0f1 := q0.free 1
         have q0l := q0.lt
         simp at q0c0 q0c1
         have h012 : t = 0 ∨ t = 1 ∨ t = 2 := by omega
         rcases h012 with rfl | rfl | rfl
         · have hix : on < xs.length := onL
           obtain ⟨bb, off, rfl, hbl, h0, h1⟩ := Axis.row (hx.later hkq (Nat.le_refl _)) on hix
           have HCA := Lib.hid (show calmAt v m xs on = calmS v xs[on] m by unfold calmAt; rw [List.getD_eq_getElem?_getD, List.getElem?_eq_getElem hix]; rfl)
           have HCC := fun w => f_calm v xs[on] m w hw (HAX.out _ (List.getElem_mem hix)) hm
           obtain ⟨x, hx0⟩ : ∃ x, x = xs[on] := ⟨_, rfl⟩
           rw [← hx0] at HCC HCA h0 h1
           clear hx0
           obtain ⟨V, hV⟩ : ∃ V, V = calmS v x m := ⟨_, rfl⟩
           rw [← hV] at HCC HCA
           clear hV
           have x0 := fun g : Later wr => g.some h0
           have x1 := fun g : Later wr => g.some h1
           have r0c0 := fun g : Later wr => (r0.later g).cell 0
           have r0f0 := fun g : Later wr => (r0.later g).free 0
           have r0c1 := fun g : Later wr => (r0.later g).cell 1
           have r0f1 := fun g : Later wr => (r0.later g).free 1
           have r0c2 := fun g : Later wr => (r0.later g).cell 2
           have r0f2 := fun g : Later wr => (r0.later g).free 2
           have r0c3 := fun g : Later wr => (r0.later g).cell 3
           have r0f3 := fun g : Later wr => (r0.later g).free 3
           have r0l := fun g : Later wr => (r0.later g).lt
           simp at r0c0 r0c1 r0c2 r0c3
           have i0 : (0 : Int) ≤ (on : Int) := by omega
           have i1 : (on : Int) < (xs.length : Int) := by omega
           cases V with
           | true =>
             go_upto_region 15 with fail
             refine Later.region (by kernel_rfl) (by kernel_rfl) ?_
             repeat (first | go_big_quiet_skip | (go_big_quiet_want; go_big_quiet_op; first | go_big_quiet_on | (apply Exists.intro; refine ⟨fun g => ?_, ?_⟩; (focus (first | (go_at_call 57; with_reducible exact Later.call (HCC _)))); go_big_quiet_on)))
             refine wpQuiet_nil ?_
             intro g2
             have hkg := Kept.drop hkq g2.ok
             obtain ⟨e1, e2, e3⟩ := HSOME.out s (by omega) hno (by rw [HAT.out, HCA.out]; rfl)
             have e4 : turnTo v m xs pn s = on := by rw [HTO.out, HCA.out]; rfl
             go_wp2
             exact bodyPost_ret (v := .tuple #[.int .i64 on, .int .i64 s, .int .i64 0]) (by simp [results, Tryz.results33, go_sem]) rfl ⟨by first | rfl | rw [e1, e2, e3, e4], by (exact kpt)⟩
           | false =>
             go_upto_region 15 with fail
             refine Later.region (by kernel_rfl) (by kernel_rfl) ?_
             repeat (first | go_big_quiet_skip | (go_big_quiet_want; go_big_quiet_op; first | go_big_quiet_on | (apply Exists.intro; refine ⟨fun g => ?_, ?_⟩; (focus (first | (go_at_call 57; with_reducible exact Later.call (HCC _)))); go_big_quiet_on)))
             refine wpQuiet_nil ?_
             intro g2
             have hkg := Kept.drop hkq g2.ok
             go_wp2
             go_roundw
             case rel => exact ⟨1, by omega, rfl, fun _ => HCA.out, fun h => by omega, q0.later g2, r0.later g2, hkg⟩
             case measure => decide
         · have hf1 := hf1 (by omega)
           have hix : bk < xs.length := bkL
           obtain ⟨bb, off, rfl, hbl, h0, h1⟩ := Axis.row (hx.later hkq (Nat.le_refl _)) bk hix
           have HCA := Lib.hid (show calmAt v m xs bk = calmS v xs[bk] m by unfold calmAt; rw [List.getD_eq_getElem?_getD, List.getElem?_eq_getElem hix]; rfl)
           have HCC := fun w => f_calm v xs[bk] m w hw (HAX.out _ (List.getElem_mem hix)) hm
           obtain ⟨x, hx0⟩ : ∃ x, x = xs[bk] := ⟨_, rfl⟩
           rw [← hx0] at HCC HCA h0 h1
           clear hx0
           obtain ⟨V, hV⟩ : ∃ V, V = calmS v x m := ⟨_, rfl⟩
           rw [← hV] at HCC HCA
           clear hV
           have x0 := fun g : Later wr => g.some h0
           have x1 := fun g : Later wr => g.some h1
           have r0c0 := fun g : Later wr => (r0.later g).cell 0
           have r0f0 := fun g : Later wr => (r0.later g).free 0
           have r0c1 := fun g : Later wr => (r0.later g).cell 1
           have r0f1 := fun g : Later wr => (r0.later g).free 1
           have r0c2 := fun g : Later wr => (r0.later g).cell 2
           have r0f2 := fun g : Later wr => (r0.later g).free 2
           have r0c3 := fun g : Later wr => (r0.later g).cell 3
           have r0f3 := fun g : Later wr => (r0.later g).free 3
           have r0l := fun g : Later wr => (r0.later g).lt
           simp at r0c0 r0c1 r0c2 r0c3
           have i0 : (0 : Int) ≤ (bk : Int) := by omega
           have i1 : (bk : Int) < (xs.length : Int) := by omega
           cases V with
           | true =>
             go_upto_region 15 with fail
             refine Later.region (by kernel_rfl) (by kernel_rfl) ?_
             repeat (first | go_big_quiet_skip | (go_big_quiet_want; go_big_quiet_op; first | go_big_quiet_on | (apply Exists.intro; refine ⟨fun g => ?_, ?_⟩; (focus (first | (go_at_call 57; with_reducible exact Later.call (HCC _)))); go_big_quiet_on)))
             refine wpQuiet_nil ?_
             intro g2
             have hkg := Kept.drop hkq g2.ok
             obtain ⟨e1, e2, e3⟩ := HSOME.out s (by omega) hno (by rw [HAT.out, HCA.out, hf1]; rfl)
             have e4 : turnTo v m xs pn s = bk := by rw [HTO.out, hf1]; rfl
             go_wp2
             exact bodyPost_ret (v := .tuple #[.int .i64 bk, .int .i64 s, .int .i64 0]) (by simp [results, Tryz.results33, go_sem]) rfl ⟨by first | rfl | rw [e1, e2, e3, e4], by (exact kpt)⟩
           | false =>
             go_upto_region 15 with fail
             refine Later.region (by kernel_rfl) (by kernel_rfl) ?_
             repeat (first | go_big_quiet_skip | (go_big_quiet_want; go_big_quiet_op; first | go_big_quiet_on | (apply Exists.intro; refine ⟨fun g => ?_, ?_⟩; (focus (first | (go_at_call 57; with_reducible exact Later.call (HCC _)))); go_big_quiet_on)))
             refine wpQuiet_nil ?_
             intro g2
             have hkg := Kept.drop hkq g2.ok
             go_wp2
             go_roundw
             case rel => exact ⟨2, by omega, rfl, fun _ => hf1, fun _ => HCA.out, q0.later g2, r0.later g2, hkg⟩
             case measure => decide
         · have HF := Lib.hid (show turnAt v m xs pn s = false by rw [HAT.out, hf1 (by omega), hf2 (by omega)]; rfl)
           go_wp2
           go_roundw
           case rel =>
             refine ⟨s + 1, by omega, by go_num, fun j hj => ?_, r0, hkq⟩
             rcases Nat.lt_or_ge j s with h | h
             · exact hno j h
             · obtain rfl : j = s := by omega
               exact HF.out
           case measure => simp [intOf]; omega
    · obtain ⟨e1, e2, e3⟩ := HNONE.out (fun j hj => hno j (by omega))
      have hlt' : ¬ (s : Int) < (xs.length : Int) / 2 + 1 := by omega
      go_wp2
      exact bodyPost_ret (v := .tuple #[.int .i64 0, .int .i64 0, .int .i64 6]) (by simp [results, Tryz.results33, go_sem]) rfl ⟨by first | rfl | rw [e1, e2, e3], by (exact kpt)⟩

end Go.Proofs.YtacbkbilbmkjnaaGreat

/-
  Turned sheds: the search of the reference.
-/
namespace Go.Proofs.YtacbkbilbmkjnaaGreat
open Go.RowKit Bal Bal.Trim Bal.Mast
set_option linter.unusedVariables false
set_option linter.unusedSimpArgs false
set_option maxHeartbeats 4000000
set_option maxRecDepth 10000

theorem f_Turn (a : Option Addr) (cap : Nat) (xs : List Axis) (p : Int) (v : Wind) (m : Int) (w : World) (hx : Row Axis.cells 2 w.heap.size w a xs) (hc : xs.length ≤ cap) (hM : cap ≤ maxLen) (hn : xs.length ≤ 1000000) :
    Calls Tryz.prog 33 #[.slice a xs.length cap, .int .i64 p, .agg #[.int .i64 v.xlo, .int .i64 v.xhi, .int .i64 v.ylo, .int .i64 v.yhi], .int .i64 m] w fun e w' => e = .returned (.tuple #[.int .i64 (turnI xs p v m), .int .i64 (turnN xs p v m), .int .i64 (turnE xs p v m)]) ∧ Kept w w' := by
  by_cases h : turnOk xs p v m = 0
  · exact f_Turn_main a cap xs p v m w hx hc hM hn h
  · have e1 : turnI xs p v m = 0 := by unfold turnI; rw [if_neg h]
    have e2 : turnN xs p v m = 0 := by unfold turnN; rw [if_neg h]
    have e3 : turnE xs p v m = turnOk xs p v m := by unfold turnE; rw [if_neg h]
    rw [e1, e2, e3]
    exact f_Turn_bad a cap xs p v m w hx hc hM hn h
end Go.Proofs.YtacbkbilbmkjnaaGreat

/-
  MastTurns: turned sheds and manned lines are the same in the program and in the reference: for every input.
-/
namespace Go.Proofs.YtacbkbilbmkjnaaGreat
open Go.RowKit Bal Bal.Trim Bal.Mast
set_option linter.unusedVariables false
set_option linter.unusedSimpArgs false
set_option maxHeartbeats 4000000
set_option maxRecDepth 10000

theorem r_Great (a : Option Addr) (c : Nat) (xs : List Axis) (pe mo : Int) (b : Option Addr) (d : Nat) (ys : List Span) (cr : Int) (w : World) (h1 : c ≤ maxLen) (h2 : d ≤ maxLen) (h3 : xs.length ≤ c) (h4 : ys.length ≤ d) :
    Calls Tryz.prog 12 #[.agg #[.slice a xs.length c, .int .i64 pe, .int .i64 mo, .slice b ys.length d, .int .i64 cr]] w fun e w' => e = .returned (.bool (decide (40 < xs.length) || decide (20 < ys.length))) ∧ Kept w w' := by
  unfold maxLen at h1 h2
  by_cases k1 : 40 < xs.length <;> by_cases k2 : 20 < ys.length
  all_goals
    go_enter Tryz.func12, Tryz.ntmps12
    go_wp2
    all_goals (go_ret; exact ⟨ret_bool (by first | (simp [k1, k2]; done) | (simp [k1, k2]; omega)), by (exact kpt)⟩)

theorem r_SameInts (a b : Option Addr) (c d : Nat) (xs : List Int) (w : World) (hx : Row icell 1 w.heap.size w a xs) (hy : Row icell 1 w.heap.size w b xs) (hc : xs.length ≤ c) (hd : xs.length ≤ d) (hM : c ≤ maxLen) (hN : d ≤ maxLen) :
    Calls Tryz.prog 37 #[.slice a xs.length c, .slice b xs.length d] w fun e w' => e = .returned (.bool true) ∧ Kept w w' := by
  unfold maxLen at hM hN
  go_enter Tryz.func37, Tryz.ntmps37
  go_wp2
  go_loopw [5] (fun i wr => ∃ k : Nat, k ≤ xs.length ∧ i = .int .i64 k ∧ Kept w wr) (fun i _ => xs.length - (intOf i).toNat)
  case atStart => exact ⟨0, Nat.zero_le _, rfl, Below.refl _ _⟩
  case round =>
    obtain ⟨k, hk, rfl, hkk⟩ := hrel
    by_cases hlt : k < xs.length
    · obtain ⟨b1, o1, rfl, hb1, h0⟩ := int_row (hx.later hkk (Nat.le_refl _)) k hlt
      obtain ⟨b2, o2, rfl, hb2, j0⟩ := int_row (hy.later hkk (Nat.le_refl _)) k hlt
      obtain ⟨x, hx0⟩ : ∃ x, x = xs[k] := ⟨_, rfl⟩
      rw [← hx0] at h0 j0
      clear hx0
      have x0 := fun g : Later wr => g.some h0
      have x1 := fun g : Later wr => g.some j0
      go_upto_region 6 with fail
      refine Later.region (by kernel_rfl) (by kernel_rfl) ?_
      repeat (first | go_big_quiet_skip | (go_big_quiet_want; go_big_quiet_op; first | go_big_quiet_on | (apply Exists.intro; refine ⟨fun g => ?_, ?_⟩; (focus (first | fail)); go_big_quiet_on)))
      refine wpQuiet_nil ?_
      intro gg
      have hkgg := Kept.drop hkk gg.ok
      go_wp2
      go_roundw
      case rel => exact ⟨k + 1, by omega, by go_num, hkgg⟩
      case measure => simp [intOf]; omega
    · obtain rfl : k = xs.length := by omega
      go_wp2
      go_ret
      exact ⟨rfl, hkk⟩

theorem owns_none {w : World} {base k n m c : Nat} {e : TypeId} {a : Option Addr} {xs : List Value} (h : w.ownsRow base e k (.slice a n c) m xs) : a = none → c = 0 := by
  rintro rfl
  obtain ⟨_, ⟨hv, _⟩ | ⟨g, cap, cur, hv, _⟩⟩ := h
  · cases hv; rfl
  · cases hv
theorem owns_made {α : Type} {enc : α → List Value} {base k n : Nat} {e : TypeId} {w : World} (hn : n = w.heap.size) (hb : base ≤ w.heap.size) : (w.alloc (.cells #[] e)).ownsRow base e k (.slice (some ⟨n, 0, none⟩) 0 0) ([] : List α).length (([] : List α).flatMap enc) := by
  subst hn
  refine ⟨by simp, .inr ⟨w.heap.size, 0, #[], rfl, hb, Blk.new, Nat.le_refl _, by simp [maxLen], by simp, by simp⟩⟩

end Go.Proofs.YtacbkbilbmkjnaaGreat

/-
  All acts, in order; ports that are wide.
-/
namespace Go.Proofs.YtacbkbilbmkjnaaGreat
open Go.RowKit Bal Bal.Trim Bal.Mast
set_option linter.unusedVariables false
set_option linter.unusedSimpArgs false
set_option maxHeartbeats 2000000
set_option maxRecDepth 10000

def loK (p : Port) (t : Int) : Int := if t = 2 then needP p else 0
theorem upFrom_len (lo : Int) (n : Nat) : (upFrom lo n).length = n := by simp [upFrom]
theorem upFrom_succ (lo : Int) (n : Nat) : upFrom lo (n + 1) = upFrom lo n ++ [lo + (n : Int)] := by
  unfold upFrom; rw [List.range_succ, List.map_append]; rfl
def actsTo (nums : Int → List Int) (k : Nat) : List Deed := (upFrom 1 k).flatMap fun t => (nums t).map fun n => ⟨t, n⟩
theorem actsTo_succ (nums : Int → List Int) (k : Nat) : actsTo nums (k + 1) = actsTo nums k ++ (nums (1 + (k : Int))).map fun n => ⟨1 + (k : Int), n⟩ := by
  unfold actsTo; rw [upFrom_succ, List.flatMap_append, List.flatMap_singleton]
def wideB (p : Port) : Bool := (decide (40 < p.axes.length) || decide (20 < p.pulls.length)) || portB p && (decide (6 < p.axes.length) || decide (12 < p.people - needP p))
theorem r_Wide_great (a : Option Addr) (c : Nat) (e : Option Addr) (d : Nat) (p : Port) (w : World) (hx : Row Axis.cells 2 w.heap.size w a p.axes) (hc : p.axes.length ≤ c) (hM : c ≤ maxLen) (hy : Row Span.cells 2 w.heap.size w e p.pulls) (hd : p.pulls.length ≤ d) (hN : d ≤ maxLen) (hg : (decide (40 < p.axes.length) || decide (20 < p.pulls.length)) = true) :
    Calls Tryz.prog 14 #[.agg #[.slice a p.axes.length c, .int .i64 p.people, .int .i64 p.most, .slice e p.pulls.length d, .int .i64 p.cross]] w fun z w' => z = .returned (.bool true) ∧ Kept w w' := by
  have HGR := Lib.hid (fun W => (by have := r_Great a c p.axes p.people p.most e d p.pulls p.cross W hM hN hc hd; rw [hg] at this; exact this : Calls Tryz.prog 12 #[.agg #[.slice a p.axes.length c, .int .i64 p.people, .int .i64 p.most, .slice e p.pulls.length d, .int .i64 p.cross]] W fun z w' => z = .returned (.bool true) ∧ Kept W w'))
  clear hg
  go_enter Tryz.func14, Tryz.ntmps14
  go_upto_region 1 with fail
  refine at_world (S := fun V => Blk V w.heap.size #[.slice a p.axes.length c, .int .i64 p.people, .int .i64 p.most, .slice e p.pulls.length d, .int .i64 p.cross] 25 ∧ Kept w V) ⟨by (exact blk), by (exact kpt)⟩ ?_
  rintro W ⟨r0, hk⟩
  have r0c0 := fun g : Later W => (r0.later g).cell 0
  have r0f0 := fun g : Later W => (r0.later g).free 0
  have r0c1 := fun g : Later W => (r0.later g).cell 1
  have r0f1 := fun g : Later W => (r0.later g).free 1
  have r0c2 := fun g : Later W => (r0.later g).cell 2
  have r0f2 := fun g : Later W => (r0.later g).free 2
  have r0c3 := fun g : Later W => (r0.later g).cell 3
  have r0f3 := fun g : Later W => (r0.later g).free 3
  have r0c4 := fun g : Later W => (r0.later g).cell 4
  have r0f4 := fun g : Later W => (r0.later g).free 4
  have r0l := fun g : Later W => (r0.later g).lt
  simp at r0c0 r0c1 r0c2 r0c3 r0c4
  refine Later.region (by kernel_rfl) (by kernel_rfl) ?_
  repeat (first | go_big_quiet_skip | (go_big_quiet_want; go_big_quiet_op; first | go_big_quiet_on | (apply Exists.intro; refine ⟨fun g => ?_, ?_⟩; (focus (first | (go_at_call 12; with_reducible exact Later.call (HGR.out _)))); go_big_quiet_on)))
  refine wpQuiet_nil ?_
  intro gg
  have hkgg := Kept.drop hk gg.ok
  go_wp2
  go_ret
  exact ⟨ret_bool rfl, hkgg⟩
theorem r_Wide_no (a : Option Addr) (c : Nat) (e : Option Addr) (d : Nat) (p : Port) (w : World) (hx : Row Axis.cells 2 w.heap.size w a p.axes) (hc : p.axes.length ≤ c) (hM : c ≤ maxLen) (hy : Row Span.cells 2 w.heap.size w e p.pulls) (hd : p.pulls.length ≤ d) (hN : d ≤ maxLen) (hg : (decide (40 < p.axes.length) || decide (20 < p.pulls.length)) = false) (hp : portB p = false) :
    Calls Tryz.prog 14 #[.agg #[.slice a p.axes.length c, .int .i64 p.people, .int .i64 p.most, .slice e p.pulls.length d, .int .i64 p.cross]] w fun z w' => z = .returned (.bool false) ∧ Kept w w' := by
  have HGR := Lib.hid (fun W => (by have := r_Great a c p.axes p.people p.most e d p.pulls p.cross W hM hN hc hd; rw [hg] at this; exact this : Calls Tryz.prog 12 #[.agg #[.slice a p.axes.length c, .int .i64 p.people, .int .i64 p.most, .slice e p.pulls.length d, .int .i64 p.cross]] W fun z w' => z = .returned (.bool false) ∧ Kept W w'))
  have hgg : p.axes.length ≤ 40 ∧ p.pulls.length ≤ 20 := by simp at hg; omega
  have HPT := Lib.hid (fun W (hW : Kept w W) => (by have := r_Port a c e d p W (hx.later hW (Nat.le_refl _)) hc hM (hy.later hW (Nat.le_refl _)) hd hN (by omega) (by omega); rw [hp] at this; exact this : Calls Tryz.prog 46 #[.agg #[.slice a p.axes.length c, .int .i64 p.people, .int .i64 p.most, .slice e p.pulls.length d, .int .i64 p.cross]] W fun z w' => z = .returned (.bool false) ∧ Kept W w'))
  clear hg hp
  go_enter Tryz.func14, Tryz.ntmps14
  go_upto_region 1 with fail
  refine at_world (S := fun V => Blk V w.heap.size #[.slice a p.axes.length c, .int .i64 p.people, .int .i64 p.most, .slice e p.pulls.length d, .int .i64 p.cross] 25 ∧ Kept w V) ⟨by (exact blk), by (exact kpt)⟩ ?_
  rintro W ⟨r0, hk⟩
  have r0c0 := fun g : Later W => (r0.later g).cell 0
  have r0f0 := fun g : Later W => (r0.later g).free 0
  have r0c1 := fun g : Later W => (r0.later g).cell 1
  have r0f1 := fun g : Later W => (r0.later g).free 1
  have r0c2 := fun g : Later W => (r0.later g).cell 2
  have r0f2 := fun g : Later W => (r0.later g).free 2
  have r0c3 := fun g : Later W => (r0.later g).cell 3
  have r0f3 := fun g : Later W => (r0.later g).free 3
  have r0c4 := fun g : Later W => (r0.later g).cell 4
  have r0f4 := fun g : Later W => (r0.later g).free 4
  have r0l := fun g : Later W => (r0.later g).lt
  simp at r0c0 r0c1 r0c2 r0c3 r0c4
  refine Later.region (by kernel_rfl) (by kernel_rfl) ?_
  repeat (first | go_big_quiet_skip | (go_big_quiet_want; go_big_quiet_op; first | go_big_quiet_on | (apply Exists.intro; refine ⟨fun g => ?_, ?_⟩; (focus (first | (go_at_call 12; with_reducible exact Later.call (HGR.out _)) | (go_at_call 46; with_reducible exact Later.call (HPT.out _ (Kept.drop hk g.ok))))); go_big_quiet_on)))
  refine wpQuiet_nil ?_
  intro gg
  have hkgg := Kept.drop hk gg.ok
  go_wp2
  go_ret
  exact ⟨ret_bool rfl, hkgg⟩
theorem r_Wide_axes (a : Option Addr) (c : Nat) (e : Option Addr) (d : Nat) (p : Port) (w : World) (hx : Row Axis.cells 2 w.heap.size w a p.axes) (hc : p.axes.length ≤ c) (hM : c ≤ maxLen) (hy : Row Span.cells 2 w.heap.size w e p.pulls) (hd : p.pulls.length ≤ d) (hN : d ≤ maxLen) (hg : (decide (40 < p.axes.length) || decide (20 < p.pulls.length)) = false) (hp : portB p = true) (h6 : 6 < p.axes.length) :
    Calls Tryz.prog 14 #[.agg #[.slice a p.axes.length c, .int .i64 p.people, .int .i64 p.most, .slice e p.pulls.length d, .int .i64 p.cross]] w fun z w' => z = .returned (.bool true) ∧ Kept w w' := by
  have HGR := Lib.hid (fun W => (by have := r_Great a c p.axes p.people p.most e d p.pulls p.cross W hM hN hc hd; rw [hg] at this; exact this : Calls Tryz.prog 12 #[.agg #[.slice a p.axes.length c, .int .i64 p.people, .int .i64 p.most, .slice e p.pulls.length d, .int .i64 p.cross]] W fun z w' => z = .returned (.bool false) ∧ Kept W w'))
  have hgg : p.axes.length ≤ 40 ∧ p.pulls.length ≤ 20 := by simp at hg; omega
  have HPT := Lib.hid (fun W (hW : Kept w W) => (by have := r_Port a c e d p W (hx.later hW (Nat.le_refl _)) hc hM (hy.later hW (Nat.le_refl _)) hd hN (by omega) (by omega); rw [hp] at this; exact this : Calls Tryz.prog 46 #[.agg #[.slice a p.axes.length c, .int .i64 p.people, .int .i64 p.most, .slice e p.pulls.length d, .int .i64 p.cross]] W fun z w' => z = .returned (.bool true) ∧ Kept W w'))
  have l6 : (6 : Int) < (p.axes.length : Int) := by omega
  clear hg hp
  go_enter Tryz.func14, Tryz.ntmps14
  go_upto_region 1 with fail
  refine at_world (S := fun V => Blk V w.heap.size #[.slice a p.axes.length c, .int .i64 p.people, .int .i64 p.most, .slice e p.pulls.length d, .int .i64 p.cross] 25 ∧ Kept w V) ⟨by (exact blk), by (exact kpt)⟩ ?_
  rintro W ⟨r0, hk⟩
  have r0c0 := fun g : Later W => (r0.later g).cell 0
  have r0f0 := fun g : Later W => (r0.later g).free 0
  have r0c1 := fun g : Later W => (r0.later g).cell 1
  have r0f1 := fun g : Later W => (r0.later g).free 1
  have r0c2 := fun g : Later W => (r0.later g).cell 2
  have r0f2 := fun g : Later W => (r0.later g).free 2
  have r0c3 := fun g : Later W => (r0.later g).cell 3
  have r0f3 := fun g : Later W => (r0.later g).free 3
  have r0c4 := fun g : Later W => (r0.later g).cell 4
  have r0f4 := fun g : Later W => (r0.later g).free 4
  have r0l := fun g : Later W => (r0.later g).lt
  simp at r0c0 r0c1 r0c2 r0c3 r0c4
  refine Later.region (by kernel_rfl) (by kernel_rfl) ?_
  repeat (first | go_big_quiet_skip | (go_big_quiet_want; go_big_quiet_op; first | go_big_quiet_on | (apply Exists.intro; refine ⟨fun g => ?_, ?_⟩; (focus (first | (go_at_call 12; with_reducible exact Later.call (HGR.out _)) | (go_at_call 46; with_reducible exact Later.call (HPT.out _ (Kept.drop hk g.ok))))); go_big_quiet_on)))
  refine wpQuiet_nil ?_
  intro gg
  have hkgg := Kept.drop hk gg.ok
  go_wp2
  go_ret
  exact ⟨ret_bool rfl, hkgg⟩
theorem r_Wide_need (a : Option Addr) (c : Nat) (e : Option Addr) (d : Nat) (p : Port) (w : World) (hx : Row Axis.cells 2 w.heap.size w a p.axes) (hc : p.axes.length ≤ c) (hM : c ≤ maxLen) (hy : Row Span.cells 2 w.heap.size w e p.pulls) (hd : p.pulls.length ≤ d) (hN : d ≤ maxLen) (hg : (decide (40 < p.axes.length) || decide (20 < p.pulls.length)) = false) (hp : portB p = true) (h6 : ¬ 6 < p.axes.length) :
    Calls Tryz.prog 14 #[.agg #[.slice a p.axes.length c, .int .i64 p.people, .int .i64 p.most, .slice e p.pulls.length d, .int .i64 p.cross]] w fun z w' => z = .returned (.bool (decide (12 < p.people - needP p))) ∧ Kept w w' := by
  have HGR := Lib.hid (fun W => (by have := r_Great a c p.axes p.people p.most e d p.pulls p.cross W hM hN hc hd; rw [hg] at this; exact this : Calls Tryz.prog 12 #[.agg #[.slice a p.axes.length c, .int .i64 p.people, .int .i64 p.most, .slice e p.pulls.length d, .int .i64 p.cross]] W fun z w' => z = .returned (.bool false) ∧ Kept W w'))
  have hgg : p.axes.length ≤ 40 ∧ p.pulls.length ≤ 20 := by simp at hg; omega
  have HPT := Lib.hid (fun W (hW : Kept w W) => (by have := r_Port a c e d p W (hx.later hW (Nat.le_refl _)) hc hM (hy.later hW (Nat.le_refl _)) hd hN (by omega) (by omega); rw [hp] at this; exact this : Calls Tryz.prog 46 #[.agg #[.slice a p.axes.length c, .int .i64 p.people, .int .i64 p.most, .slice e p.pulls.length d, .int .i64 p.cross]] W fun z w' => z = .returned (.bool true) ∧ Kept W w'))
  have HND := Lib.hid (fun W (hW : Kept w W) => r_Need a c e d p W (hx.later hW (Nat.le_refl _)) hc hM (hy.later hW (Nat.le_refl _)) hd hN (by omega) (by omega) hp)
  have hbd := portB_bd hp
  have hnd := needP_bd hp
  have l6 : ¬ (6 : Int) < (p.axes.length : Int) := by omega
  obtain ⟨D, hD⟩ : ∃ D, D = decide (12 < p.people - needP p) := ⟨_, rfl⟩
  have HD := Lib.hid hD
  rw [← hD]
  clear hg hp hD
  go_enter Tryz.func14, Tryz.ntmps14
  go_upto_region 1 with fail
  refine at_world (S := fun V => Blk V w.heap.size #[.slice a p.axes.length c, .int .i64 p.people, .int .i64 p.most, .slice e p.pulls.length d, .int .i64 p.cross] 25 ∧ Kept w V) ⟨by (exact blk), by (exact kpt)⟩ ?_
  rintro W ⟨r0, hk⟩
  have r0c0 := fun g : Later W => (r0.later g).cell 0
  have r0f0 := fun g : Later W => (r0.later g).free 0
  have r0c1 := fun g : Later W => (r0.later g).cell 1
  have r0f1 := fun g : Later W => (r0.later g).free 1
  have r0c2 := fun g : Later W => (r0.later g).cell 2
  have r0f2 := fun g : Later W => (r0.later g).free 2
  have r0c3 := fun g : Later W => (r0.later g).cell 3
  have r0f3 := fun g : Later W => (r0.later g).free 3
  have r0c4 := fun g : Later W => (r0.later g).cell 4
  have r0f4 := fun g : Later W => (r0.later g).free 4
  have r0l := fun g : Later W => (r0.later g).lt
  simp at r0c0 r0c1 r0c2 r0c3 r0c4
  refine Later.region (by kernel_rfl) (by kernel_rfl) ?_
  repeat (first | go_big_quiet_skip | (go_big_quiet_want; go_big_quiet_op; first | go_big_quiet_on | (apply Exists.intro; refine ⟨fun g => ?_, ?_⟩; (focus (first | (go_at_call 12; with_reducible exact Later.call (HGR.out _)) | (go_at_call 46; with_reducible exact Later.call (HPT.out _ (Kept.drop hk g.ok))) | (go_at_call 47; with_reducible exact Later.call (HND.out _ (Kept.drop hk g.ok))))); go_big_quiet_on)))
  refine wpQuiet_nil ?_
  intro gg
  have hkgg := Kept.drop hk gg.ok
  go_wp2
  go_ret
  exact ⟨ret_bool (by rw [HD.out]), hkgg⟩
theorem r_Wide (a : Option Addr) (c : Nat) (e : Option Addr) (d : Nat) (p : Port) (w : World) (hx : Row Axis.cells 2 w.heap.size w a p.axes) (hc : p.axes.length ≤ c) (hM : c ≤ maxLen) (hy : Row Span.cells 2 w.heap.size w e p.pulls) (hd : p.pulls.length ≤ d) (hN : d ≤ maxLen) :
    Calls Tryz.prog 14 #[.agg #[.slice a p.axes.length c, .int .i64 p.people, .int .i64 p.most, .slice e p.pulls.length d, .int .i64 p.cross]] w fun z w' => z = .returned (.bool (wideB p)) ∧ Kept w w' := by
  unfold wideB
  cases hg : (decide (40 < p.axes.length) || decide (20 < p.pulls.length))
  · cases hp : portB p
    · exact r_Wide_no a c e d p w hx hc hM hy hd hN hg hp
    · by_cases h6 : 6 < p.axes.length
      · rw [decide_eq_true h6]; exact r_Wide_axes a c e d p w hx hc hM hy hd hN hg hp h6
      · rw [decide_eq_false h6]; exact r_Wide_need a c e d p w hx hc hM hy hd hN hg hp h6
  · exact r_Wide_great a c e d p w hx hc hM hy hd hN hg

end Go.Proofs.YtacbkbilbmkjnaaGreat

/-
  Appends as steps of a region that draws.
-/
namespace Go.Proofs.YtacbkbilbmkjnaaGreat
open Go.RowKit Bal Bal.Trim Bal.Mast
set_option linter.unusedVariables false
set_option linter.unusedSimpArgs false
set_option maxHeartbeats 2000000
set_option maxRecDepth 10000

theorem cells_blk {w : World} {m : Nat} {us : List Value} {T : TypeId} (h : Blk w m us.toArray T) : ∀ j u, us[j]? = some u → w.cell? ((⟨m, 0, none⟩ : Addr).add j) = some u := by
  intro j u hj
  rw [show (⟨m, 0, none⟩ : Addr).add j = ⟨m, j, none⟩ by simp [Addr.add]; exact fun h => h.symm, h.cell, List.getElem?_toArray]
  exact hj
/-- one more at the end of a list of the call's own -/
theorem step_push {P : Program} {ops : Array Oper} {w : World} {o : Oper} {a : Act} {K : Act → World → Prop} {Q : Exit → Act → World → Prop} {E : Prop} (hg : o.guard = none) (s x : Operand) (t : TypeId)
    (ho : o.op = .call { callee := .builtin .append, args := #[s, x], argTypes := #[t, t] })
    (base : Nat) (e : TypeId) (z : Value) (size bytes : Nat) (ht : P.underlying t = some (.slice e)) (hinfo : (P.info? e).map (fun i => (i.zero, i.size, i.bytes)) = some (some z, size, bytes))
    (hzs : z.cells.size = size) (hsz : 0 < size) (v : Value) (n : Nat) (xs : List Value) (hs : a.eval s = v) (hown : w.ownsRow base e size v n xs)
    (m : Nat) (us : List Value) (T : TypeId) (hx : a.eval x = .slice (some ⟨m, 0, none⟩) 1 1) (hl : us.length = size) (hblk : Blk w m us.toArray T) (h1 : ∀ u ∈ us, u.oneCell' = true)
    (h63 : n + 1 ≤ 1000000) (hbytes : bytes ≤ 100000) (hbase : base ≤ w.heap.size)
    (h : ∀ v' w', w'.ownsRow base e size v' (n + 1) (xs ++ us) → w.grownBy w' v.ownBlock → K (a.put o.dst v') w') :
    if Region.wanted o (yielded ops a.tmps) = true then Oper.wp P o a w K Q else E := by
  have hw : Region.wanted o (yielded ops a.tmps) = true := by simp [Region.wanted, hg]
  rw [if_pos hw]
  obtain ⟨i, hi, hz, hsize, hby⟩ := info_parts hinfo
  have hm : (n + 1) * bytes ≤ 1000000 * 100000 := Nat.mul_le_mul h63 hbytes
  exact wp_append_own (w := w) s x t ho base e i z size bytes ht hi hz hsize hby hzs hsz v n xs hs hown ⟨m, 0, none⟩ 1 1 us hx (by omega) (cells_blk hblk) h1 (by simp [maxLen]; omega) (by omega) hbase fun v' w' h2 h3 _ => h v' w' h2 h3

end Go.Proofs.YtacbkbilbmkjnaaGreat

/-
  A slice of the call's own that may begin in the midst of its block: a queue. No program in sight.
-/
namespace Bal
open Go Go.RowKit
set_option linter.unusedVariables false
/-- n elements of k cells in a block of the call's own, from some cell on -/
def Que (w : World) (base : Nat) (e : TypeId) (k : Nat) (v : Value) (n : Nat) (xs : List Value) : Prop :=
  xs.length = n * k ∧ ∃ g off cap cur, v = .slice (some ⟨g, off, none⟩) n cap ∧ base ≤ g ∧ Blk w g cur e ∧ off + cap * k ≤ cur.size ∧ n ≤ cap ∧ cap ≤ maxLen ∧ ∀ j u, xs[j]? = some u → cur[off + j]? = some u
theorem Que.form {w : World} {base k n : Nat} {e : TypeId} {v : Value} {xs : List Value} (h : Que w base e k v n xs) : ∃ g off cap, v = .slice (some ⟨g, off, none⟩) n cap ∧ base ≤ g ∧ g < w.heap.size ∧ n ≤ cap ∧ cap ≤ maxLen ∧ ∀ j u, xs[j]? = some u → w.cell? ⟨g, off + j, none⟩ = some u := by
  obtain ⟨_, g, off, cap, cur, hv, hb, hh, _, h1, h2, h3⟩ := h
  exact ⟨g, off, cap, hv, hb, hh.lt, h1, h2, fun j u hu => by rw [hh.cell]; exact h3 j u hu⟩
theorem Que.of_owns {w : World} {base k n : Nat} {e : TypeId} {v : Value} {xs : List Value} (h : w.ownsRow base e k v n xs) (hn : 0 < n) : Que w base e k v n xs := by
  obtain ⟨hl, ⟨_, h0⟩ | ⟨g, cap, cur, hv, hb, hh, h1, h2, h3, h4⟩⟩ := h
  · omega
  · refine ⟨hl, g, 0, cap, cur, hv, hb, hh, by omega, h1, h2, fun j u hu => ?_⟩
    rw [← h4, List.getElem?_take] at hu
    split at hu
    · rw [Nat.zero_add, ← hu, Array.getElem?_toList]
    · cases hu
theorem Que.keep {w w' : World} {base k n : Nat} {e : TypeId} {v : Value} {xs : List Value} (h : Que w base e k v n xs) (hk : Kept w w') : Que w' base e k v n xs := by
  obtain ⟨hl, g, off, cap, cur, hv, hb, hh, r⟩ := h
  exact ⟨hl, g, off, cap, cur, hv, hb, hh.keep hk, r⟩
theorem Que.alloc {w : World} {base k n : Nat} {e : TypeId} {v : Value} {xs : List Value} (h : Que w base e k v n xs) (o : Obj) : Que (w.alloc o) base e k v n xs := h.keep (Kept.alloc (Below.refl _ _) _)
theorem Que.base {w : World} {base base' k n : Nat} {e : TypeId} {v : Value} {xs : List Value} (h : Que w base e k v n xs) (hb : base' ≤ base) : Que w base' e k v n xs := by
  obtain ⟨hl, g, off, cap, cur, hv, hb', r⟩ := h
  exact ⟨hl, g, off, cap, cur, hv, Nat.le_trans hb hb', r⟩
/-- a store into another block -/
theorem Que.set {w : World} {b i base k n : Nat} {arr : Array Value} {t e : TypeId} {v u : Value} {xs : List Value} (h : Que w base e k v n xs) (hb : Blk w b arr t) (hne : t ≠ e) : Que (w.setCell ⟨b, i, none⟩ u) base e k v n xs := by
  obtain ⟨hl, g, off, cap, cur, hv, hg, hh, r⟩ := h
  refine ⟨hl, g, off, cap, cur, hv, hg, Blk.other hh ?_ u, r⟩
  simp only
  rintro rfl
  unfold Blk at hb hh
  rw [hb] at hh
  simp only [Option.some.injEq, Obj.cells.injEq] at hh
  exact hne hh.2.1
/-- the world below which the queue's block is not: what stands below number m, where m is at or below the queue's own -/
theorem Que.low {w w' : World} {m base k n : Nat} {e : TypeId} {v : Value} {xs : List Value} (h : Que w base e k v n xs) (hk : Below m w w') (hm : ∀ g, v.ownBlock = some g → g < m) : Que w' base e k v n xs := by
  obtain ⟨hl, g, off, cap, cur, rfl, hg, hh, r⟩ := h
  refine ⟨hl, g, off, cap, cur, rfl, hg, ?_, r⟩
  unfold Blk at *
  rw [hk.block g (hm g rfl)]
  exact hh
/-- its tail -/
theorem Que.tail {w : World} {base k n g off cap : Nat} {e : TypeId} {us xs : List Value} (h : Que w base e k (.slice (some ⟨g, off, none⟩) (n + 1) cap) (n + 1) (us ++ xs)) (hu : us.length = k) : Que w base e k (.slice (some ⟨g, off + k, none⟩) n (cap - 1)) n xs := by
  obtain ⟨hl, g', off', cap', cur, hv, hb, hh, h0, h1, h2, h3⟩ := h
  simp only [Value.slice.injEq, Option.some.injEq, Addr.mk.injEq, and_true] at hv
  obtain ⟨⟨rfl, rfl⟩, -, rfl⟩ := hv
  rw [List.length_append, hu, Nat.add_mul] at hl
  refine ⟨by omega, g, off + k, cap - 1, cur, rfl, hb, hh, ?_, by omega, by omega, fun j u hj => ?_⟩
  · obtain ⟨c, rfl⟩ : ∃ c, cap = c + 1 := ⟨cap - 1, by omega⟩
    rw [Nat.add_mul] at h0
    simp only [Nat.add_sub_cancel]
    omega
  · have := h3 (k + j) u (by rw [List.getElem?_append_right (by omega), hu, Nat.add_sub_cancel_left]; exact hj)
    rw [← Nat.add_assoc] at this
    exact this
theorem Que.tail0 {w : World} {base k n g off : Nat} {e : TypeId} {us xs : List Value} (h : Que w base e k (.slice (some ⟨g, off, none⟩) (n + 1) 1) (n + 1) (us ++ xs)) (hu : us.length = k) : Que w base e k (.slice (some ⟨g, off, none⟩) n 0) n xs := by
  obtain ⟨hl, g', off', cap', cur, hv, hb, hh, h0, h1, h2, h3⟩ := h
  simp only [Value.slice.injEq, Option.some.injEq, Addr.mk.injEq, and_true] at hv
  obtain ⟨⟨rfl, rfl⟩, -, rfl⟩ := hv
  have hn : n = 0 := by omega
  subst hn
  rw [List.length_append, hu] at hl
  have hx : xs = [] := List.eq_nil_of_length_eq_zero (by omega)
  subst hx
  exact ⟨by simp, g, off, 0, cur, rfl, hb, hh, by omega, Nat.le_refl _, by omega, fun j u hj => by simp at hj⟩
/-- blocks of another type stand when the queue grows -/
theorem Blk.grownQ {w w' : World} {b base k n : Nat} {arr : Array Value} {t e : TypeId} {v : Value} {xs : List Value} (h : Blk w b arr t) (ho : Que w base e k v n xs) (hne : t ≠ e) (hg : w.grownBy w' v.ownBlock) : Blk w' b arr t := by
  have hl := h.lt
  unfold Blk at *
  rw [hg.block b hl ?_]
  · exact h
  · intro he
    obtain ⟨_, g, off, cap, cur, rfl, _, hh, _⟩ := ho
    simp only [Value.ownBlock, Option.some.injEq] at he
    subst he
    unfold Blk at hh
    rw [h] at hh
    simp only [Option.some.injEq, Obj.cells.injEq] at hh
    exact hne hh.2.1
theorem owns_grownQ {B base k k' n n' : Nat} {w w' : World} {e e' : TypeId} {v v' : Value} {xs ys : List Value} (h : w.ownsRow B e' k' v' n' ys) (ho : Que w base e k v n xs) (hne : e' ≠ e) (hg : w.grownBy w' v.ownBlock) : w'.ownsRow B e' k' v' n' ys := by
  obtain ⟨q1, q2 | ⟨g, cap, cur, hv, hgb, hh, r⟩⟩ := h
  · exact ⟨q1, .inl q2⟩
  · exact ⟨q1, .inr ⟨g, cap, cur, hv, hgb, Blk.grownQ hh ho hne hg, r⟩⟩
theorem Kept.grownQ {w0 w w' : World} {base k n : Nat} {e : TypeId} {v : Value} {xs : List Value} (h : Kept w0 w) (ho : Que w base e k v n xs) (hb : w0.heap.size ≤ base) (hg : w.grownBy w' v.ownBlock) : Kept w0 w' := by
  refine Below.trans h ⟨hg.os, hg.tape, hg.output, hg.size, fun i hi => hg.block i (Nat.lt_of_lt_of_le hi h.size) fun he => ?_⟩
  obtain ⟨_, g, off, cap, cur, rfl, hbg, _, _⟩ := ho
  simp only [Value.ownBlock, Option.some.injEq] at he
  omega
/-- the queue stands when a list of another type grows -/
theorem Que.grown {w w' : World} {base base' k k' n n' : Nat} {e e' : TypeId} {v v' : Value} {xs ys : List Value} (h : Que w base e k v n xs) (ho : w.ownsRow base' e' k' v' n' ys) (hne : e ≠ e') (hg : w.grownBy w' v'.ownBlock) : Que w' base e k v n xs := by
  obtain ⟨hl, g, off, cap, cur, hv, hb, hh, r⟩ := h
  exact ⟨hl, g, off, cap, cur, hv, hb, Blk.grown hh ho hne hg, r⟩
/-- the queue stands when block b, which is not its own, is written -/
theorem Que.turned {w w' : World} {b base k n : Nat} {e : TypeId} {v : Value} {xs : List Value} (h : Que w base e k v n xs) (hb : ∀ arr t, ¬ Blk w b arr t) (hg : w.grownBy w' (some b)) : Que w' base e k v n xs := by
  obtain ⟨hl, g, off, cap, cur, hv, hbb, hh, r⟩ := h
  refine ⟨hl, g, off, cap, cur, hv, hbb, ?_, r⟩
  have hl := hh.lt
  have hgb : g ≠ b := fun e => hb _ _ (e ▸ hh)
  unfold Blk at *
  rw [hg.block g hl (fun he => hgb (by simpa using he))]
  exact hh
theorem owns_turned {w w' : World} {b base k n : Nat} {e : TypeId} {v : Value} {xs : List Value} (h : w.ownsRow base e k v n xs) (hb : ∀ arr t, ¬ Blk w b arr t) (hg : w.grownBy w' (some b)) : w'.ownsRow base e k v n xs := by
  obtain ⟨q1, q2 | ⟨g, cap, cur, hv, hgb, hh, r⟩⟩ := h
  · exact ⟨q1, .inl q2⟩
  · refine ⟨q1, .inr ⟨g, cap, cur, hv, hgb, ?_, r⟩⟩
    have hh' : Blk w g cur e := hh
    have hl := hh'.lt
    have hne : g ≠ b := fun e => hb _ _ (e ▸ hh')
    rw [hg.block g hl (fun he => hne (by simpa using he))]
    exact hh
/-- cells laid into a block -/
theorem Blk.setCells {b : Nat} {t : TypeId} : ∀ (vs : List Value) (o : Nat) (w : World) (arr : Array Value), Blk w b arr t → ∃ arr', Blk (w.setCells b o vs) b arr' t ∧ arr'.size = arr.size
  | [], _, w, arr, h => ⟨arr, h, rfl⟩
  | v :: r, o, w, arr, h => by
    obtain ⟨arr', h1, h2⟩ := Blk.setCells r (o + 1) _ _ (h.set o v)
    exact ⟨arr', h1, by rw [h2, Array.size_setIfInBounds]⟩
theorem World.grownBy_setCells (b : Nat) : ∀ (vs : List Value) (o : Nat) (w : World), w.grownBy (w.setCells b o vs) (some b)
  | [], _, w => ⟨rfl, rfl, rfl, Nat.le_refl _, fun _ _ _ => rfl⟩
  | v :: r, o, w => by
    obtain ⟨h1, h2, h3, h4, h5⟩ := World.grownBy_setCells b r (o + 1) (w.setCell ⟨b, o, none⟩ v)
    have hs : (w.setCell ⟨b, o, none⟩ v).heap.size = w.heap.size := by simp [World.setCell]
    refine ⟨h1, h2, h3, by rw [hs] at h4; exact h4, fun k hk hne => ?_⟩
    show ((w.setCell ⟨b, o, none⟩ v).setCells b (o + 1) r).heap[k]? = _
    rw [h5 k (by rw [hs]; exact hk) hne]
    exact Below.heap_setCell _ _ _ _ (fun he => hne (by rw [he]))
/-- one more at its end -/
theorem wpList_push_que {P : Program} (w : World) {ops : Array Oper} {rest : List Oper} {o : Oper} {a : Act} {Q : Exit → Act → World → Prop}
    (hg : o.guard = none) (s x : Operand) (t : TypeId) (hop : o.op = Op.call { callee := Callee.builtin Builtin.append, args := #[s, x], argTypes := #[t, t] })
    (e : TypeId) (z : Value) (size bytes : Nat) (h1 : P.underlying t = some (.slice e)) (hinfo : (P.info? e).map (fun i => (i.zero, i.size, i.bytes)) = some (some z, size, bytes)) (h6 : z.cells.size = size) (h7 : 0 < size)
    (base : Nat) (hbase : base ≤ w.heap.size) (v : Value) (n : Nat) (xs : List Value) (hs : a.eval s = v) (hq : Que w base e size v n xs)
    (m : Nat) (us : List Value) (T : TypeId) (hx : a.eval x = .slice (some ⟨m, 0, none⟩) 1 1) (hl : us.length = size) (hblk : Blk w m us.toArray T) (h1c : ∀ u ∈ us, u.oneCell' = true)
    (b1 : n + 1 ≤ 1000000) (b2 : bytes ≤ 100000)
    (hK : ∀ v' w', Que w' base e size v' (n + 1) (xs ++ us) → w.grownBy w' v.ownBlock → (v'.ownBlock = v.ownBlock ∨ ∃ g, v'.ownBlock = some g ∧ w.heap.size ≤ g) → wpList P ops Q rest (a.put o.dst v') w') :
    wpList P ops Q (o :: rest) a w := by
  obtain ⟨i, hi, hz, hsize, hby⟩ := info_parts hinfo
  have hm : (n + 1) * bytes ≤ 1000000 * 100000 := Nat.mul_le_mul b1 b2
  obtain ⟨hlen, g, off, cap, cur, rfl, hb, hh, c0, c1, c2, c3⟩ := hq
  have hcells : ∀ j u, us[j]? = some u → w.cell? ((⟨m, 0, none⟩ : Addr).add j) = some u := by
    intro j u hj
    rw [show (⟨m, 0, none⟩ : Addr).add j = ⟨m, j, none⟩ by simp [Addr.add]; exact fun h => h.symm, hblk.cell, List.getElem?_toArray]
    exact hj
  have hmul : (n + 1) * size = n * size + size := by rw [Nat.add_mul, Nat.one_mul]
  refine wpList_append_arg w hg s x t hop e i z size bytes h1 hi hz hsize hby h6 h7 g off n cap xs hs hlen (fun j u hu => by rw [hh.cell]; exact c3 j u hu) ⟨m, 0, none⟩ 1 1 us hx (by omega) hcells h1c ?_ (by simp [maxLen]; omega) (by omega) ?_ ?_
  · intro hr j hj
    have : (n + 1) * size ≤ cap * size := Nat.mul_le_mul_right _ hr
    refine ⟨?_, hh.free _⟩
    rw [hh.cell, Array.getElem?_eq_getElem (by omega)]
    rfl
  · intro hr
    have hcap : (n + 1) * size ≤ cap * size := Nat.mul_le_mul_right _ hr
    obtain ⟨arr', hb', hsz'⟩ := Blk.setCells us (off + n * size) w cur hh
    refine hK _ _ ⟨by rw [List.length_append, hlen, hl, hmul], g, off, cap, arr', rfl, hb, hb', by omega, hr, c2, fun j u hj => ?_⟩ (World.grownBy_setCells g us _ w) (.inl rfl)
    rw [← hb'.cell]
    by_cases hjn : j < n * size
    · rw [World.cell?_setCells_out g us _ w ⟨g, off + j, none⟩ (fun _ _ => .inl (by simp only; omega)), hh.cell]
      rw [List.getElem?_append_left (by omega)] at hj
      exact c3 j u hj
    · rw [List.getElem?_append_right (by omega)] at hj
      obtain ⟨hlt, he⟩ := List.getElem?_eq_some_iff.1 hj
      have := World.cell?_setCells_in g us (off + n * size) w (fun j hj => by rw [hh.cell, Array.getElem?_eq_getElem (by omega)]; rfl) (j - xs.length) hlt
      rw [show off + n * size + (j - xs.length) = off + j by omega] at this
      rw [this, he]
  · intro _ v' w' hown hgr
    obtain ⟨_, g', off', cap', cur', hv', hb', _⟩ := Que.of_owns hown (by omega)
    exact hK v' w' ((Que.of_owns hown (by omega)).base hbase) ⟨hgr.os, hgr.tape, hgr.output, hgr.size, fun k hk hne => hgr.block k hk (by simp)⟩ (.inr ⟨g', by rw [hv']; rfl, hb'⟩)
/-- a block that is not the one that grows -/
theorem Blk.beside {w w' : World} {b : Nat} {arr : Array Value} {t : TypeId} {row : Option Nat} (h : Blk w b arr t) (hne : row ≠ some b) (hg : w.grownBy w' row) : Blk w' b arr t := by
  have hl := h.lt
  unfold Blk at *
  rw [hg.block b hl (fun he => hne he.symm)]
  exact h
theorem Below.grown {w w' : World} {m b : Nat} (hg : w.grownBy w' (some b)) (hb : m ≤ b) (hs : m ≤ w.heap.size) : Below m w w' :=
  ⟨hg.os, hg.tape, hg.output, hg.size, fun i hi => hg.block i (Nat.lt_of_lt_of_le hi hs) (fun he => by simp at he; omega)⟩
open Go.Maps
/-- 'm[k]', as an equation -/
theorem InSet.look {P : Program} {w : World} {t k e : TypeId} {b n : Nat} {f : Lit → Bool} (h : InSet P k e w b n f) (K : Keyed P k) (ht : P.underlying t = some (.map k e)) (he : P.underlying e = some .bool) (hz : (zeroValue e).run P w = .ok (.bool false) w)
    {key : Value} {kl : Lit} (hkey : keyOf P k key = some kl) : (Instr.lookup t (.map (some b)) key false).run P w = .ok (.bool (f kl)) w := by
  obtain ⟨D, hown, hD, hf⟩ := h
  obtain ⟨v, ps, hrun, hv⟩ := hown.lookup K ht hz (plainElem_bool he false) hkey
  rw [hf kl] at hv
  have hvv : v = .bool (f kl) := by
    unfold plainElem at hv
    rw [he] at hv
    cases v <;> simp at hv
    obtain ⟨rfl, _⟩ := hv
    rfl
  rw [hrun, hvv]
/-- 'm[k] = v', as an equation -/
theorem InSet.run {P : Program} {w : World} {t k e : TypeId} {b n : Nat} {f g : Lit → Bool} (h : InSet P k e w b n f) (K : Keyed P k) (ht : P.underlying t = some (.map k e)) (he : P.underlying e = some .bool) (hn : n < maxLen)
    {key : Value} {kl : Lit} {y : Bool} (hkey : keyOf P k key = some kl) (hg1 : g kl = y) (hg2 : ∀ z, z ≠ kl → g z = f z) :
    ∃ w', (Instr.mapUpdate t (.map (some b)) key (.bool y)).run P w = .ok () w' ∧ InSet P k e w' b (n + 1) g ∧ w.grownBy w' (some b) := by
  obtain ⟨D, hown, hD, hf⟩ := h
  obtain ⟨w', hrun, r1, r2⟩ := hown.update K ht hn hkey (plainElem_bool he y)
  exact ⟨w', hrun, InSet.put hD hf (K.key hkey) hg1 hg2 r1, r2⟩
theorem InSet.none {P : Program} {k e : TypeId} {w : World} {b n : Nat} {f : Lit → Bool} (h : InSet P k e w b n f) (arr : Array Value) (t : TypeId) : ¬ Blk w b arr t := by
  obtain ⟨D, ⟨es, clock, hh, _⟩, _⟩ := h
  intro hb
  unfold Blk at hb
  rw [hh] at hb
  cases hb
theorem InSet.beside {P : Program} {k e : TypeId} {w w' : World} {b n : Nat} {f : Lit → Bool} {row : Option Nat} (h : InSet P k e w b n f) (hne : row ≠ some b) (hg : w.grownBy w' row) : InSet P k e w' b n f := by
  have hl := h.lt
  obtain ⟨D, ⟨es, clock, hh, r⟩, h2⟩ := h
  exact ⟨D, ⟨es, clock, by rw [hg.block b hl (fun he => hne he.symm)]; exact hh, r⟩, h2⟩
/-- a number that is least among those of a kind -/
theorem least_of {P : Nat → Prop} : ∀ n, P n → ∃ m, P m ∧ ∀ j, P j → m ≤ j := by
  intro n
  induction n using Nat.strongRecOn with
  | ind n ih =>
    intro hn
    by_cases h : ∃ j, j < n ∧ P j
    · obtain ⟨j, hj, hp⟩ := h
      exact ih j hj hp
    · exact ⟨n, hn, fun j hj => Nat.le_of_not_lt fun hlt => h ⟨j, hlt, hj⟩⟩
noncomputable def leastOf (P : Nat → Prop) : Nat := by classical exact if h : ∃ n, P n then Classical.choose (least_of h.choose h.choose_spec) else 0
theorem leastOf_ok {P : Nat → Prop} {n : Nat} (h : P n) : P (leastOf P) ∧ leastOf P ≤ n := by
  unfold leastOf
  rw [dif_pos ⟨n, h⟩]
  have := Classical.choose_spec (least_of (P := P) (Exists.choose ⟨n, h⟩) (Exists.choose_spec ⟨n, h⟩))
  exact ⟨this.1, this.2 n h⟩
end Bal

/-
  The acts that the program tries, in order; berths as keys.
-/
namespace Go.Proofs.YtacbkbilbmkjnaaGreat
open Go.RowKit Bal Bal.Trim Bal.Mast
set_option linter.unusedVariables false
set_option linter.unusedSimpArgs false
set_option maxHeartbeats 2000000
set_option maxRecDepth 10000

def hiP (p : Port) (t : Int) : Int := if t = 2 then min (needP p) p.people else if t = 9 then (p.axes.length : Int) - 1 else 0
theorem numsP_up (p : Port) (t : Int) : numsP p t = upFrom (loK p t) (hiP p t - loK p t + 1).toNat := by
  unfold numsP loK hiP
  by_cases h2 : t = 2
  · rw [if_pos h2, if_pos h2, if_pos h2]
  · rw [if_neg h2, if_neg h2, if_neg h2]
    by_cases h9 : t = 9
    · rw [if_pos h9, if_pos h9]; congr 1; omega
    · rw [if_neg h9, if_neg h9]; rfl
theorem hiP_bd {p : Port} (hp : portB p = true) (t : Int) : (0 ≤ loK p t ∧ loK p t ≤ 8000000) ∧ (0 ≤ hiP p t ∧ hiP p t ≤ 200) := by
  have h1 := portB_bd hp
  have h2 := needP_bd hp
  unfold loK hiP
  split
  · omega
  · split <;> omega
theorem actsTo_more (nums : Int → List Int) (k : Nat) : ∀ j : Nat, ∃ r, actsTo nums (k + j) = actsTo nums k ++ r
  | 0 => ⟨[], by simp⟩
  | j + 1 => by
    obtain ⟨r, hr⟩ := actsTo_more nums k j
    exact ⟨_, by rw [← Nat.add_assoc, actsTo_succ, hr, List.append_assoc]⟩
theorem acts_at {nums : Int → List Int} {k m : Nat} (hk : k < 13) {lo : Int} {N : Nat} (hn : nums (1 + (k : Int)) = upFrom lo N) (hm : m < N) : ∃ h : (actsTo nums k).length + m < (actsOf nums).length, (actsOf nums)[(actsTo nums k).length + m] = ⟨1 + (k : Int), lo + (m : Int)⟩ := by
  obtain ⟨r, hr⟩ := actsTo_more nums (k + 1) (12 - k)
  have h2 := actsTo_succ nums k
  rw [hn] at h2
  rw [show k + 1 + (12 - k) = 13 by omega, h2] at hr
  have hr' : actsOf nums = (actsTo nums k ++ (upFrom lo N).map fun n => (⟨1 + (k : Int), n⟩ : Deed)) ++ r := hr
  have key : (actsOf nums)[(actsTo nums k).length + m]? = some ⟨1 + (k : Int), lo + (m : Int)⟩ := by
    rw [hr', List.append_assoc, List.getElem?_append_right (by omega), Nat.add_sub_cancel_left, List.getElem?_append_left (by simp [upFrom]; omega)]
    simp [upFrom, hm]
  obtain ⟨h, e⟩ := List.getElem?_eq_some_iff.1 key
  exact ⟨h, e⟩
theorem actsTo_next {nums : Int → List Int} {k : Nat} {lo : Int} {N : Nat} (hn : nums (1 + (k : Int)) = upFrom lo N) : (actsTo nums (k + 1)).length = (actsTo nums k).length + N := by
  rw [actsTo_succ, hn, List.length_append, List.length_map, upFrom_len]
theorem step_try {p : Port} {b : Berth} {a : Deed} {w : Wind} (hp : portB p = true) (hb : berthB p b = true) (hw : windB w = true) (hk : 1 ≤ a.kind ∧ a.kind ≤ 13) :
    stepB p w b a = if tryR p (dockOf p b ⟨a, w⟩) a.kind = 0 then some (doneB (dockOf p b ⟨a, w⟩) a.kind) else none := by
  have he : doErr p b ⟨a, w⟩ = 0 := by
    unfold doErr
    have h1 : checkBerth p b = 0 := by unfold checkBerth; rw [if_pos hp, if_pos hb]
    have h3 : inB a.kind 1 13 = true := inB_iff.2 hk
    simp [h1, hw, h3]
  unfold stepB
  by_cases h : tryR p (dockOf p b ⟨a, w⟩) a.kind = 0
  · have hd : doE p b ⟨a, w⟩ = 0 := doE_zero.2 ⟨he, h⟩
    rw [if_pos hd, if_pos h, doB_done hd]
  · rw [if_neg (fun hd => h (doE_zero.1 hd).2), if_neg h]

open Go.Maps
theorem laidOutM : laidOutB Tryz.prog = true := by kernel_rfl
theorem rowB : (37 : TypeId) < Tryz.prog.types.size := of_decide_eq_true (by kernel_rfl)
theorem wideB_ : (match Tryz.prog.underlying 37 with | some (.array _ _) | some (.struct _) => true | _ => false) = true := by kernel_rfl
theorem keyedB : Keyed Tryz.prog 37 := Keyed.of_law (deep_law_laid laidOutM (m := 2) (by omega) rowB (by kernel_rfl) wideB_)
theorem zeroBool (w : World) : (zeroValue 4).run Tryz.prog w = .ok (.bool false) w := by kernel_rfl
def berthV (b : Berth) : Value := .agg #[.int .u8 b.ship, .int .i64 b.axis, .int .i64 b.held, .bool b.wire, .bool b.opn]
theorem berthV_inj {x y : Berth} (h : berthV x = berthV y) : x = y := by
  obtain ⟨x1, x2, x3, x4, x5⟩ := x
  obtain ⟨y1, y2, y3, y4, y5⟩ := y
  simp [berthV] at h
  simp [h]
def InB (b : Berth) : Prop := (0 ≤ b.ship ∧ b.ship ≤ 255) ∧ (-9223372036854775808 ≤ b.axis ∧ b.axis ≤ 9223372036854775807) ∧ (-9223372036854775808 ≤ b.held ∧ b.held ≤ 9223372036854775807)
theorem fuelM : ∃ m, Tryz.prog.types.size = m + 2 := ⟨Tryz.prog.types.size - 2, by kernel_rfl⟩
theorem keyTypeB : Tryz.prog.keyType 37 = true := by kernel_rfl
theorem cellsB : Tryz.prog.cellsOf 37 = 5 := by kernel_rfl
theorem key_berth {b : Berth} (h : InB b) : ∃ l, keyOf Tryz.prog 37 (berthV b) = some l := by
  obtain ⟨⟨a1, a2⟩, ⟨b1, b2⟩, c1, c2⟩ := h
  obtain ⟨m, hm⟩ := fuelM
  obtain ⟨s, ax, he, wi, op⟩ := b
  simp only at a1 a2 b1 b2 c1 c2
  have u1 : Tryz.prog.cellsOf 5 = 1 := by kernel_rfl
  have u2 : Tryz.prog.cellsOf 3 = 1 := by kernel_rfl
  have u3 : Tryz.prog.cellsOf 4 = 1 := by kernel_rfl
  have w1 : (Lit.int .u8 s).wf = true := WalkArith.wf_u8 ⟨a1, a2⟩
  have w2 : (Lit.int .i64 ax).wf = true := WalkArith.wf_i64 ⟨b1, b2⟩
  have w3 : (Lit.int .i64 he).wf = true := WalkArith.wf_i64 ⟨c1, c2⟩
  have hf : (berthV ⟨s, ax, he, wi, op⟩).formed Tryz.prog 37 = true := by simp [Value.formed, Tryz.underlying37, cellsB, berthV]
  have hk : ∃ ls, Tryz.prog.keyLits (Tryz.prog.types.size + 1) 37 (berthV ⟨s, ax, he, wi, op⟩).cells.toList = some ls := by
    rw [hm]
    unfold Program.keyLits
    rw [Tryz.underlying37]
    simp [berthV, Value.cells, cellsB, u1, u2, u3, Program.keyLits, Tryz.underlying5, Tryz.underlying3, Tryz.underlying4, w1, w2, w3]
  obtain ⟨ls, hls⟩ := hk
  unfold keyOf
  rw [Tryz.underlying37]
  simp only [keyTypeB, hf, hls]
  exact ⟨_, rfl⟩
noncomputable def metB (P : Prop) : Bool := @decide P (Classical.propDecidable P)
theorem metB_iff {P : Prop} : metB P = true ↔ P := by unfold metB; exact @decide_eq_true_iff P (Classical.propDecidable P)
theorem metB_congr {P Q : Prop} (h : P ↔ Q) : metB P = metB Q := by rw [propext h]
/-- the berths that were met -/
noncomputable def metF (L : List Berth) : Lit → Bool := fun l => metB (∃ b ∈ L, keyOf Tryz.prog 37 (berthV b) = some l)
theorem metF_at {L : List Berth} {b : Berth} {l : Lit} (h : keyOf Tryz.prog 37 (berthV b) = some l) : metF L l = decide (b ∈ L) := by
  unfold metF
  by_cases hb : b ∈ L
  · rw [decide_eq_true hb]; exact metB_iff.2 ⟨b, hb, h⟩
  · rw [decide_eq_false hb, ← Bool.not_eq_true, metB_iff]
    rintro ⟨c, hc, hk⟩
    refine hb ?_
    rw [← berthV_inj (keyedB.inj hk h)]; exact hc
theorem metF_nil : metF [] = fun _ => false := by funext l; unfold metF; rw [← Bool.not_eq_true, metB_iff]; rintro ⟨_, h, _⟩; cases h
theorem metF_put {L : List Berth} {b : Berth} {l : Lit} (h : keyOf Tryz.prog 37 (berthV b) = some l) : metF (L ++ [b]) l = true ∧ ∀ x, x ≠ l → metF (L ++ [b]) x = metF L x := by
  refine ⟨by rw [metF_at h]; simp, fun x hx => ?_⟩
  unfold metF
  refine metB_congr ⟨fun ⟨c, hc, hk⟩ => ?_, fun ⟨c, hc, hk⟩ => ⟨c, List.mem_append_left _ hc, hk⟩⟩
  rcases List.mem_append.1 hc with hc | hc
  · exact ⟨c, hc, hk⟩
  · obtain rfl := List.mem_singleton.1 hc
    rw [h] at hk
    exact absurd (Option.some.inj hk).symm hx

end Go.Proofs.YtacbkbilbmkjnaaGreat

/-
  What holds of the search for a plan, in the program.
-/
namespace Go.Proofs.YtacbkbilbmkjnaaGreat
open Go.RowKit Bal Bal.Trim Bal.Mast
set_option linter.unusedVariables false
set_option linter.unusedSimpArgs false
set_option maxHeartbeats 2000000
set_option maxRecDepth 10000

theorem infoRoute : (Tryz.prog.info? 108).map (fun i => (i.zero, i.size, i.bytes)) = some (some (.agg #[.int .u8 0, .int .i64 0, .int .i64 0, .bool false, .bool false, .slice none 0 0]), 6, 56) := by kernel_rfl
abbrev Rt := Berth × List Deed × Value
def routeC (t : Rt) : List Value := [.int .u8 t.1.ship, .int .i64 t.1.axis, .int .i64 t.1.held, .bool t.1.wire, .bool t.1.opn, t.2.2]
theorem routeC_len (t : Rt) : (routeC t).length = 6 := rfl
/-- the memory while the program looks for a plan: T: what is in the queue v; X: the berths that were met -/
structure PlanM (p : Port) (wd : Wind) (PC : Array Value) (w : World) (M B N : Nat) (V : World) (v : Value) (T : List Rt) (X : List Berth) : Prop where
  bn : B ≤ N
  wn : w.heap.size ≤ N
  own : ∀ t ∈ T, V.ownsRow w.heap.size 48 2 t.2.2 t.2.1.length (t.2.1.flatMap Deed.cells)
  que : Que V N 108 6 v T.length (T.flatMap routeC)
  r0 : Blk V w.heap.size PC 25
  r3 : Blk V (w.heap.size + 1 + 1) #[.int .i64 wd.xlo, .int .i64 wd.xhi, .int .i64 wd.ylo, .int .i64 wd.yhi] 39
  tab : Table V B M
  met : ∃ n, n ≤ X.length ∧ InSet Tryz.prog 37 4 V N n (metF X)
  kept : Kept w V
/-- what holds while the program looks for a plan: h berths are done, of the next one k acts -/
structure PlanI (p : Port) (b : Berth) (wd : Wind) (ship : Int) (L : List (Berth × List Deed)) (T : List Rt) (h k : Nat) : Prop where
  search : Search (stepB p wd) 4096 codeD (actsOf (numsP p)) b L h k
  no : ∀ (i : Nat) (hi : i < L.length), i < h → goalB ship L[i].1 = false
  map : T.map (fun t => (t.1, t.2.1)) = L.drop h
section
variable {p : Port} {b : Berth} {wd : Wind} {ship : Int} {PC : Array Value} {w : World} {M B N : Nat} {V V' : World} {v v' : Value} {L : List (Berth × List Deed)} {T : List Rt} {X : List Berth} {h k : Nat}
theorem PlanM.keep (I : PlanM p wd PC w M B N V v T X) (hk : Kept V V') : PlanM p wd PC w M B N V' v T X := by
  obtain ⟨n, hn, hm⟩ := I.met
  have hl := hm.lt
  have hbn := I.bn
  exact ⟨I.bn, I.wn, fun t ht => owns_keep (I.own t ht) hk, I.que.keep hk, I.r0.keep hk, I.r3.keep hk, I.tab.below (hk.mono (by omega)), ⟨n, hn, hm.keep hk⟩, Kept.drop I.kept hk⟩
theorem PlanM.size (I : PlanM p wd PC w M B N V v T X) : N < V.heap.size := by obtain ⟨_, _, hm⟩ := I.met; exact hm.lt
theorem PlanM.turned (I : PlanM p wd PC w M B N V v T X) {y : Berth} {n : Nat} (hn : n ≤ X.length) (hs : InSet Tryz.prog 37 4 V' N (n + 1) (metF (X ++ [y]))) (hg : V.grownBy V' (some N)) : PlanM p wd PC w M B N V' v T (X ++ [y]) := by
  obtain ⟨_, _, hm⟩ := I.met
  have hz := I.size
  have hbn := I.bn
  have hno := hm.none
  have hne : ∀ {m arr t}, Blk V m arr t → m ≠ N := fun hb e => hno _ _ (e ▸ hb)
  exact ⟨I.bn, I.wn, fun t ht => owns_turned (I.own t ht) hno hg, I.que.turned hno hg, I.r0.turned (hne I.r0) hg, I.r3.turned (hne I.r3) hg, I.tab.below (Below.grown hg hbn (by omega)), ⟨n + 1, by simp; exact hn, hs⟩, Kept.turned I.kept I.wn hg⟩
theorem PlanM.grow (I : PlanM p wd PC w M B N V v T X) {t : Rt} (hu : V.ownsRow w.heap.size 48 2 t.2.2 t.2.1.length (t.2.1.flatMap Deed.cells)) (hq : Que V' N 108 6 v' (T.length + 1) (T.flatMap routeC ++ routeC t)) (hg : V.grownBy V' v.ownBlock) : PlanM p wd PC w M B N V' v' (T ++ [t]) X := by
  obtain ⟨n, hn, hm⟩ := I.met
  have hq0 := I.que
  obtain ⟨_, g, off, cap, cur, hv, hNg, hgb, _⟩ := hq0
  have hgN : g ≠ N := fun e => hm.none _ _ (e ▸ hgb)
  have hvb : v.ownBlock = some g := by rw [hv]; rfl
  have hgs := hgb.lt
  have hbn := I.bn
  refine ⟨I.bn, I.wn, fun u hu' => ?_, ?_, Blk.grownQ I.r0 I.que (by decide) hg, Blk.grownQ I.r3 I.que (by decide) hg, ?_, ⟨n, hn, hm.beside (by rw [hvb]; simpa using hgN) hg⟩, Kept.grownQ I.kept I.que I.wn hg⟩
  · rcases List.mem_append.1 hu' with hu' | hu'
    · exact owns_grownQ (I.own u hu') I.que (by decide) hg
    · obtain rfl := List.mem_singleton.1 hu'
      exact owns_grownQ hu I.que (by decide) hg
  · rw [List.length_append, List.flatMap_append]
    simpa using hq
  · rw [hvb] at hg
    exact I.tab.below (Below.grown hg (by omega) (by omega))
theorem PlanI.to (I : PlanI p b wd ship L T h k) {k' : Nat} (S : Search (stepB p wd) 4096 codeD (actsOf (numsP p)) b L h k') : PlanI p b wd ship L T h k' := ⟨S, I.no, I.map⟩
theorem PlanI.len (I : PlanI p b wd ship L T h k) : T.length = L.length - h := by
  have := congrArg List.length I.map
  simpa using this
/-- the one at the queue's head -/
theorem PlanI.head (I : PlanI p b wd ship L T h k) (hh : h < L.length) : ∃ u T', T = (L[h].1, L[h].2, u) :: T' := by
  have hm := I.map
  cases T with
  | nil => have := I.len; simp at this; omega
  | cons t T' =>
    rw [List.drop_eq_getElem_cons hh, List.map_cons] at hm
    obtain ⟨h1, -⟩ := List.cons.inj hm
    obtain ⟨t1, t2, t3⟩ := t
    have e1 : t1 = L[h].1 := by rw [← h1]
    have e2 : t2 = L[h].2 := by rw [← h1]
    subst e1 e2
    exact ⟨t3, T', rfl⟩
theorem PlanI.next (I : PlanI p b wd ship L T h (actsOf (numsP p)).length) (hh : h < L.length) (hg : goalB ship L[h].1 = false) : PlanI p b wd ship L T.tail (h + 1) 0 := by
  obtain ⟨u, T', hT⟩ := I.head hh
  subst hT
  refine ⟨I.search.next, fun i hi hih => ?_, ?_⟩
  · rcases Nat.lt_or_ge i h with h1 | h1
    · exact I.no i hi h1
    · obtain rfl : i = h := by omega
      exact hg
  · have := I.map
    rw [List.drop_eq_getElem_cons hh, List.map_cons] at this
    exact (List.cons.inj this).2
theorem PlanM.next (I : PlanM p wd PC w M B N V v T X) {g off cap n : Nat} (hv : v = .slice (some ⟨g, off, none⟩) n cap) (hn : 0 < T.length) : PlanM p wd PC w M B N V (.slice (if cap = 1 then some ⟨g, off, none⟩ else some ⟨g, off + 6, none⟩) (n - 1) (cap - 1)) T.tail X := by
  subst hv
  have hq := I.que
  have hn' : n = T.length := by
    obtain ⟨_, _, _, _, _, e, _⟩ := hq
    simp at e; exact e.2.1
  subst hn'
  cases T with
  | nil => simp at hn
  | cons t T' =>
    refine ⟨I.bn, I.wn, fun t ht => I.own t (List.mem_cons_of_mem _ ht), ?_, I.r0, I.r3, I.tab, I.met, I.kept⟩
    rw [List.flatMap_cons] at hq
    by_cases hc : cap = 1
    · subst hc
      rw [if_pos rfl]
      exact hq.tail0 (routeC_len _)
    · rw [if_neg hc]
      exact hq.tail (routeC_len _)
/-- a berth more at the queue's end -/
theorem PlanI.push (I : PlanI p b wd ship L T h k) (hh : h < L.length) {y : Berth} {l : List Deed} (u : Value) {k' : Nat} (S : Search (stepB p wd) 4096 codeD (actsOf (numsP p)) b (L ++ [(y, l)]) h k') : PlanI p b wd ship (L ++ [(y, l)]) (T ++ [(y, l, u)]) h k' := by
  refine ⟨S, fun i hi hih => ?_, ?_⟩
  · rw [List.getElem_append_left (by omega)]
    exact I.no i (by omega) hih
  · rw [List.map_append, List.drop_append_of_le_length (by omega), I.map]; rfl
/-- rounds that are left -/
def PlanH (p : Port) (b : Berth) (wd : Wind) (ship : Int) (PC : Array Value) (w : World) (M B N : Nat) (V : World) (v : Value) (m : Nat) : Prop :=
  ∃ L T h, h ≤ L.length ∧ 154369 - h = m ∧ PlanI p b wd ship L T h 0 ∧ PlanM p wd PC w M B N V v T (L.map fun q => q.1)
theorem valid_in {p : Port} (hp : portB p = true) {x : Berth} (h0 : 0 ≤ x.ship) (hx : berthB p x = true) : InB x := by
  have h1 := portB_bd hp
  have h2 := needP_bd hp
  obtain ⟨h3, h4, h5, _⟩ := berth_parts hx
  unfold InB
  omega
end

end Go.Proofs.YtacbkbilbmkjnaaGreat

/-
  Ways that a search has found.
-/
namespace Go.Proofs.YtacbkbilbmkjnaaGreat
open Go.RowKit Bal Bal.Trim Bal.Mast
set_option linter.unusedVariables false
set_option linter.unusedSimpArgs false
set_option maxHeartbeats 4000000
set_option maxRecDepth 10000

def outE (r : Option (List Deed)) : Int := match r with | some _ => 0 | none => 6
def outL (r : Option (List Deed)) : List Deed := r.getD []
/-- the ways that were found, each a list of the call's own -/
structure Paths (B : Nat) (w : World) (L : List (Berth × List Deed)) (Ps : List Value) : Prop where
  len : Ps.length = L.length
  at_ : ∀ (i : Nat) (hi : i < L.length) (hp : i < Ps.length), w.ownsRow B 48 2 Ps[i] L[i].2.length (L[i].2.flatMap Deed.cells)
theorem Paths.keep {B : Nat} {w w' : World} {L : List (Berth × List Deed)} {Ps : List Value} (h : Paths B w L Ps) (hk : Below w.heap.size w w') : Paths B w' L Ps := ⟨h.len, fun i hi hp => owns_keep (h.at_ i hi hp) hk⟩
theorem Paths.grown {B base k n : Nat} {w w' : World} {L : List (Berth × List Deed)} {Ps : List Value} {e : TypeId} {v : Value} {xs : List Value} (h : Paths B w L Ps) (ho : w.ownsRow base e k v n xs) (hne : 48 ≠ e) (hg : w.grownBy w' v.ownBlock) : Paths B w' L Ps :=
  ⟨h.len, fun i hi hp => by
    obtain ⟨q1, q2 | ⟨g, cap, cur, hv, hgb, hh, r⟩⟩ := h.at_ i hi hp
    · exact ⟨q1, .inl q2⟩
    · exact ⟨q1, .inr ⟨g, cap, cur, hv, hgb, Blk.grown hh ho hne hg, r⟩⟩⟩
theorem Paths.push {B : Nat} {w : World} {L : List (Berth × List Deed)} {Ps : List Value} (h : Paths B w L Ps) {x : Berth} {l : List Deed} {v : Value} (hv : w.ownsRow B 48 2 v l.length (l.flatMap Deed.cells)) : Paths B w (L ++ [(x, l)]) (Ps ++ [v]) :=
  ⟨by simp [h.len], fun i hi hp => by
    by_cases hl : i < L.length
    · have hl' : i < Ps.length := by rw [h.len]; exact hl
      rw [List.getElem_append_left hl', List.getElem_append_left hl]
      exact h.at_ i hl hl'
    · have he : i = L.length := by simp at hi; omega
      subst he
      have hq := h.len
      simp only [List.getElem_append_right (Nat.le_refl L.length), List.getElem_append_right (Nat.le_of_eq hq), hq, Nat.sub_self, List.getElem_cons_zero]
      exact hv⟩
/-- a slice literal of one element, as a list of the call's own -/
theorem owns_one {base k n : Nat} {e : TypeId} {w : World} {us : List Value} (hn : n = w.heap.size) (hb : base ≤ w.heap.size) (hu : us.length = k) : (w.alloc (.cells us.toArray e)).ownsRow base e k (.slice (some ⟨n, 0, none⟩) 1 1) 1 us := by
  subst hn hu
  refine ⟨by simp, .inr ⟨w.heap.size, 1, us.toArray, rfl, hb, Blk.new, Nat.le_refl _, by simp [maxLen], by simp, by simp⟩⟩
end Go.Proofs.YtacbkbilbmkjnaaGreat
