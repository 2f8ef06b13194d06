/-
  MastDecides, the statement: for every input the call returns true and leaves the input alone.
-/
import Derived.Laws.EntriesVeiled
import Derived.RangeFuncNested
import Derived.RangeFuncBound
import Derived.RangeFuncCalls
import Derived.RangeFuncLeaves
import Derived.Shelf.Abstract
import Derived.Shelf.RegionOpen
import Derived.WalkKit
import Derived.OwnWalkIn
import Derived.TacticsInMore
import Derived.LoopNIn
import Derived.LoopIn
import Derived.Scope
import Derived.Deep.RegionHeld3
import Derived.RangeFuncBox
import Derived.Deep.RegionLaw
import Derived.Laws.AppendOwnNone
import Derived.Test.YtacbkbilbmkjnaaProg
import Derived.JoinedOf
import Derived.Test.YtacbkbilbmkjnaaRows
import Derived.WalkSpells
import Derived.WalkLawsBesides
import Derived.Lib.Hide
import Derived.ProofKit
import Derived.OpenShut
import Derived.ChangeOld
import Derived.Below
import Derived.Deep.Slices
import Derived.Deep.Fields
import Derived.Deep.Quiet
import Derived.Laws.AppendOwn
import Derived.StillTail
import Derived.Deep.QuietTactic
import Derived.BigQuiet
import Derived.Lib.SlicesCompact
import Derived.WalkSmall
import Derived.OwnWalk
import Derived.OrdersHeld
import Derived.Deep.CutBlock
import Derived.Laws.MakeOwn
import Derived.Deep.DeepCutAuto
import Derived.OrdersIn
import Derived.Ground.NamesProg
import Derived.Ground.Names2Prog
import Derived.Shelf.Sort.Plain
import Derived.Shelf.Slices.CompactI
import Derived.Lib.OwnBridge
import Derived.Sort.OwnSortedInts
import Derived.Maps.OwnSet
import Derived.WideShapes
import Derived.Test.YtacbkbilbmkjnaaMastDecidesMA
import Derived.Test.YtacbkbilbmkjnaaMastDecidesMB
set_option linter.unusedVariables false
set_option linter.unusedSimpArgs false
/-
  Decision tables, checked, in the program.
-/
namespace Go.Proofs.Ytacbkbilbmkjnaa
open Go.RowKit Bal Bal.Trim Bal.Mast
set_option linter.unusedVariables false
set_option linter.unusedSimpArgs false
set_option maxHeartbeats 2000000
set_option maxRecDepth 20000

theorem f_rows11 (a : Span) (w : World) :
    Calls Try.prog 90 #[.agg #[.int .i64 a.lo, .int .i64 a.hi]] w fun e w' => e = .returned (.bool (!spanOk a)) ∧ Kept w w' := by
  have HC := fun w => f_span a.lo a.hi (-1000) 1000 w
  have he : spanOk a = spanIn a.lo a.hi (-1000) 1000 := rfl
  rw [← he] at HC
  clear he
  go_enter Try.func90, Try.ntmps90
  go_wp2_with (go_at_call 55; (with_reducible refine (HC _).mono ?_); rintro e w1 ⟨rfl, hb1⟩; obtain ⟨hc1, hf1, hl1⟩ := bcell3 hb1)
  go_ret
  exact ⟨ret_bool (by first | rfl | simp), by (exact kpt)⟩

theorem s_IndexRows (a : Option Addr) (cap : Nat) (xs : List Span) (w : World) (hx : Row Span.cells 2 w.heap.size w a xs) (h1 : xs.length ≤ 1000000) :
    Calls Try.prog 124 #[.slice a xs.length cap, .func (.func 90) #[] #[]] w fun e w' => (∃ r : Int, e = .returned (.int .i64 r) ∧ decide (r < 0) = xs.all spanOk ∧ -1 ≤ r) ∧ Kept w w' := by
  obtain ⟨R, hR⟩ : ∃ R, R = xs.all spanOk := ⟨_, rfl⟩
  have HR := Lib.hid hR
  rw [← hR]
  clear hR
  go_enter Try.func124, Try.ntmps124
  go_wp2
  go_loopw [8] (fun i wr => Upto spanOk xs w i wr) (fun i _ => xs.length - (intOf i).toNat)
  case atStart => exact ⟨0, Nat.zero_le _, rfl, by simp, Below.refl _ _⟩
  case round =>
    obtain ⟨k, hk, rfl, ha', hb'⟩ := hrel
    have ha := Lib.hid ha'
    have hb := Lib.hid hb'
    clear ha'
    by_cases hlt : k < xs.length
    · obtain ⟨b, off, rfl, hbl, h0, h1⟩ := Span.row (hx.later hb' (Nat.le_refl _)) k hlt
      have hbad : spanOk xs[k] = false → R = false := fun hv => by
        rw [HR.out, Bool.eq_false_iff]
        intro h
        rw [List.all_eq_true.1 h _ (List.getElem_mem hlt)] at hv
        cases hv
      have HB := Lib.hid hbad
      clear hbad hb'
      have HT := Lib.hid (fun h => take_all (valid := spanOk) hlt ha.out h)
      have hcall := fun w => f_rows11 xs[k] w
      obtain ⟨x, hx0⟩ : ∃ x, x = xs[k] := ⟨_, rfl⟩
      rw [← hx0] at HB HT h0 h1 hcall
      clear hx0
      obtain ⟨V, hV⟩ : ∃ V, V = spanOk x := ⟨_, rfl⟩
      rw [← hV] at hcall HB HT
      clear hV
      cases V with
      | false =>
        have HF := Lib.hid (HB.out rfl)
        clear HB
        go_wp2_with (go_at_call 90; refine (hcall _).mono ?_; rintro e w1 ⟨rfl, hb1⟩)
        go_ret
        refine ⟨⟨k, rfl, ?_, by omega⟩, Kept.drop hb.out (by (exact kpt))⟩
        rw [HF.out, decide_eq_false_iff_not]; omega
      | true =>
        have HF := Lib.hid (HT.out rfl)
        clear HT
        go_wp2_with (go_at_call 90; refine (hcall _).mono ?_; rintro e w1 ⟨rfl, hb1⟩)
        go_roundw
        case rel => exact ⟨k + 1, by omega, by go_num, HF.out, Kept.drop hb.out (by (exact kpt))⟩
        case measure => simp [intOf]; omega
    · obtain rfl : k = xs.length := by omega
      have HF := Lib.hid (show R = true by rw [HR.out, ← ha.out, List.take_length])
      clear hb'
      go_wp2
      go_ret
      refine ⟨⟨-1, rfl, ?_, by omega⟩, hb.out⟩
      rw [HF.out]; rfl

theorem s_ContainsRows (a : Option Addr) (cap : Nat) (xs : List Span) (w : World) (hx : Row Span.cells 2 w.heap.size w a xs) (h1 : xs.length ≤ 1000000) :
    Calls Try.prog 89 #[.slice a xs.length cap, .func (.func 90) #[] #[]] w fun e w' => e = .returned (.bool (!xs.all spanOk)) ∧ Kept w w' := by
  obtain ⟨R, hR⟩ : ∃ R, R = xs.all spanOk := ⟨_, rfl⟩
  have hcall := s_IndexRows a cap xs w hx h1
  rw [← hR] at hcall ⊢
  clear hR
  go_enter Try.func89, Try.ntmps89
  go_wp2_with (go_at_call 124; refine hcall.mono ?_; rintro e w1 ⟨⟨r, rfl, hr1, hr2⟩, hb1⟩)
  go_ret
  refine ⟨ret_bool ?_, hb1⟩
  rw [← hr1, ← decide_not]
  exact decide_eq_decide.2 (by omega)

theorem f_rows1 (vs : List Span) (va : Option Addr) (vc : Nat) (rs : List RowM) (ra : Option Addr) (rc : Nat) (w : World) (bx : Nat) (hB : Blk w bx #[.slice va vs.length vc, .slice ra rs.length rc] 88) (a : Option Addr) (cap : Nat) (xs : List Span) (hx : Row Span.cells 2 w.heap.size w a xs) (hn : xs.length ≤ 1000000) (hvl : vs.length ≤ 1000000) :
    Calls Try.prog 88 #[.slice a xs.length cap, .pointer (some ⟨bx, 0, none⟩)] w fun z w' => z = .returned (.bool (decide (xs.length = vs.length) && xs.all spanOk)) ∧ Kept w w' := by
  have hl := hB.lt
  have hBc0 := hB.cell 0
  have hBf0 := hB.free 0
  have hBc1 := hB.cell 1
  have hBf1 := hB.free 1
  have hBl := hB.lt
  simp at hBc0 hBc1
  by_cases h : xs.length = vs.length
  · have e1 : ((xs.length : Int) == (vs.length : Int)) = true := by simp [h]
    obtain ⟨R, hR⟩ : ∃ R, R = xs.all spanOk := ⟨_, rfl⟩
    have HA := Lib.hid hR.symm
    have HD := Lib.hid (show (decide (xs.length = vs.length) && xs.all spanOk) = R by rw [decide_eq_true h, ← hR]; rfl)
    clear hR h
    go_enter Try.func88, Try.ntmps88
    go_wp2_with (go_at_call 89; (with_reducible refine (s_ContainsRows _ _ xs _ (hx.later (by (exact kpt)) (Nat.le_refl _)) hn).mono ?_); rw [HA.out]; rintro z w1 ⟨rfl, hb1⟩)
    exact bodyPost_ret (v := .bool R) (by simp [results, Try.results88, go_sem]) rfl ⟨by rw [HD.out], by (exact kpt)⟩
  · have e1 : ((xs.length : Int) == (vs.length : Int)) = false := by simp; omega
    have HD := Lib.hid (show (decide (xs.length = vs.length) && xs.all spanOk) = false by rw [decide_eq_false h]; rfl)
    clear h
    go_enter Try.func88, Try.ntmps88
    go_wp2
    exact bodyPost_ret (v := .bool false) (by simp [results, Try.results88, go_sem]) rfl ⟨by rw [HD.out], by (exact kpt)⟩

theorem f_CheckRows (vs : List Span) (va : Option Addr) (vc : Nat) (rs : List RowM) (ra : Option Addr) (rc : Nat) (w : World) (ht : TabAt ⟨vs, va, vc, rs, ra, rc⟩ w) (hvl5 : vs.length ≤ 1000000) (hrl5 : rs.length ≤ 1000000) (hcl5 : ∀ x ∈ rs, x.r.conds.length ≤ 1000000) :
    Calls Try.prog 42 #[.agg #[.slice va vs.length vc, .slice ra rs.length rc]] w fun z w' => z = .returned (.int .i64 (checkRows (tbOf vs rs))) ∧ Kept w w' := by
  have htr : Row RowM.cells 2 w.heap.size w ra rs := ht.rows
  have htv : Row Span.cells 2 w.heap.size w va vs := ht.vars
  have hvm : vc ≤ maxLen := ht.vm
  have hrm : rc ≤ maxLen := ht.rm
  have hvl : vs.length ≤ vc := ht.vl
  have hrl : rs.length ≤ rc := ht.rl
  unfold maxLen at hvm hrm
  cases h1 : inB (vs.length : Int) 1 3
  · have H1 := Lib.hid h1
    have HB := Lib.hid (not_valid (d := tbOf vs rs) fun h => by have := (valid_parts.1 h).1; rw [show (tbOf vs rs).vars = vs from rfl, h1] at this; cases this)
    clear h1
    go_enter Try.func42, Try.ntmps42
    go_wp2_with (first | (go_at_call 51; (with_reducible refine (f_rangedB 1 3 (vs.length : Int) _ 3 _ ?_).mono ?_); (focus (exact blk)); rw [H1.out]; rintro z w3 ⟨rfl, hb3⟩; refine Blk.thru (b := w.heap.size) (arr := ?_) (t := ?_) ?_ hb3 ?_; rotate_left 2; (focus (exact blk)); intro r0; have r0c0 := r0.cell 0; have r0f0 := r0.free 0; have r0c1 := r0.cell 1; have r0f1 := r0.free 1; have r0l := r0.lt; simp at r0c0 r0c1) | (go_at_call 88; (with_reducible refine (HSV.out _ (by (exact blk)) (by (exact kpt))).mono ?_); rintro z w4 ⟨rfl, hb4⟩; refine Blk.thru (b := w.heap.size) (arr := ?_) (t := ?_) ?_ hb4 ?_; rotate_left 2; (focus (exact blk)); intro r0; have r0c0 := r0.cell 0; have r0f0 := r0.free 0; have r0c1 := r0.cell 1; have r0f1 := r0.free 1; have r0l := r0.lt; simp at r0c0 r0c1))
    exact bodyPost_ret (v := .int .i64 76) (by simp [results, Try.results42, go_sem]) rfl ⟨by rw [HB.out], by (exact kpt)⟩
  · have H1 := Lib.hid h1
    have h1b := inB_iff.1 h1
    by_cases h2 : rs.length ≤ 30
    · have l2 : ¬ (30 : Int) < (rs.length : Int) := by omega
      cases h3 : vs.all spanOk
      · have HSV := Lib.hid (fun (W : World) (hB : Blk W w.heap.size #[.slice va vs.length vc, .slice ra rs.length rc] 88) (hW : Kept w W) => (by have := f_rows1 vs va vc rs ra rc W w.heap.size hB va vc vs (htv.later hW (Nat.le_refl _)) hvl5 hvl5; rw [h3, Bool.and_false] at this; exact this : Calls Try.prog 88 #[.slice va vs.length vc, .pointer (some ⟨w.heap.size, 0, none⟩)] W fun z w2 => z = .returned (.bool false) ∧ Kept W w2))
        have HB := Lib.hid (not_valid (d := tbOf vs rs) fun h => by have := (valid_parts.1 h).2.2.1; rw [← List.all_eq_true, show (tbOf vs rs).vars = vs from rfl, h3] at this; cases this)
        clear h1 h3
        go_enter Try.func42, Try.ntmps42
        go_wp2_with (first | (go_at_call 51; (with_reducible refine (f_rangedB 1 3 (vs.length : Int) _ 3 _ ?_).mono ?_); (focus (exact blk)); rw [H1.out]; rintro z w3 ⟨rfl, hb3⟩; refine Blk.thru (b := w.heap.size) (arr := ?_) (t := ?_) ?_ hb3 ?_; rotate_left 2; (focus (exact blk)); intro r0; have r0c0 := r0.cell 0; have r0f0 := r0.free 0; have r0c1 := r0.cell 1; have r0f1 := r0.free 1; have r0l := r0.lt; simp at r0c0 r0c1) | (go_at_call 88; (with_reducible refine (HSV.out _ (by (exact blk)) (by (exact kpt))).mono ?_); rintro z w4 ⟨rfl, hb4⟩; refine Blk.thru (b := w.heap.size) (arr := ?_) (t := ?_) ?_ hb4 ?_; rotate_left 2; (focus (exact blk)); intro r0; have r0c0 := r0.cell 0; have r0f0 := r0.free 0; have r0c1 := r0.cell 1; have r0f1 := r0.free 1; have r0l := r0.lt; simp at r0c0 r0c1))
        exact bodyPost_ret (v := .int .i64 76) (by simp [results, Try.results42, go_sem]) rfl ⟨by rw [HB.out], by (exact kpt)⟩
      · have HSV := Lib.hid (fun (W : World) (hB : Blk W w.heap.size #[.slice va vs.length vc, .slice ra rs.length rc] 88) (hW : Kept w W) => (by have := f_rows1 vs va vc rs ra rc W w.heap.size hB va vc vs (htv.later hW (Nat.le_refl _)) hvl5 hvl5; rw [h3, decide_eq_true rfl, Bool.and_true] at this; exact this : Calls Try.prog 88 #[.slice va vs.length vc, .pointer (some ⟨w.heap.size, 0, none⟩)] W fun z w2 => z = .returned (.bool true) ∧ Kept W w2))
        have HV := Lib.hid (fun (h4 : ∀ x ∈ rs, x.r.conds.length = vs.length ∧ inB x.r.action 0 99 = true ∧ ∀ c ∈ x.r.conds, spanOk c = true) => good_check (d := tbOf vs rs) (valid_parts.2 ⟨h1, by rw [rows_len]; exact h2, List.all_eq_true.1 h3, fun r hr => by obtain ⟨x, hx, rfl⟩ := List.mem_map.1 hr; exact h4 x hx⟩))
        have HNR := Lib.hid (fun (x : RowM) (hx : x ∈ rs) (hb : ¬ (x.r.conds.length = vs.length ∧ inB x.r.action 0 99 = true ∧ ∀ c ∈ x.r.conds, spanOk c = true)) => not_valid (d := tbOf vs rs) fun h => hb ((valid_parts.1 h).2.2.2 x.r (mem_rowsT hx)))
        clear h1 h3
        go_enter Try.func42, Try.ntmps42
        go_wp2_with (first | (go_at_call 51; (with_reducible refine (f_rangedB 1 3 (vs.length : Int) _ 3 _ ?_).mono ?_); (focus (exact blk)); rw [H1.out]; rintro z w3 ⟨rfl, hb3⟩; refine Blk.thru (b := w.heap.size) (arr := ?_) (t := ?_) ?_ hb3 ?_; rotate_left 2; (focus (exact blk)); intro r0; have r0c0 := r0.cell 0; have r0f0 := r0.free 0; have r0c1 := r0.cell 1; have r0f1 := r0.free 1; have r0l := r0.lt; simp at r0c0 r0c1) | (go_at_call 88; (with_reducible refine (HSV.out _ (by (exact blk)) (by (exact kpt))).mono ?_); rintro z w4 ⟨rfl, hb4⟩; refine Blk.thru (b := w.heap.size) (arr := ?_) (t := ?_) ?_ hb4 ?_; rotate_left 2; (focus (exact blk)); intro r0; have r0c0 := r0.cell 0; have r0f0 := r0.free 0; have r0c1 := r0.cell 1; have r0f1 := r0.free 1; have r0l := r0.lt; simp at r0c0 r0c1))
        go_loopw [29] (fun s wq => ∃ i : Nat, i ≤ rs.length ∧ s = .int .i64 (i : Int) ∧ (∀ j (hj : j < rs.length), j < i → rs[j].r.conds.length = vs.length ∧ inB rs[j].r.action 0 99 = true ∧ ∀ c ∈ rs[j].r.conds, spanOk c = true) ∧ Blk wq w.heap.size #[.slice va vs.length vc, .slice ra rs.length rc] 88 ∧ Kept w wq) (fun s _ => rs.length - (intOf s).toNat)
        case atStart => exact ⟨0, Nat.zero_le _, rfl, fun j hj h => absurd h (Nat.not_lt_zero _), by (exact blk), by (exact kpt)⟩
        case round =>
          clear r0 r0c0 r0f0 r0c1 r0f1 r0l
          obtain ⟨i, hi, rfl, hok, r0, hkk⟩ := hrel
          have hsz := hkk.size
          have r0c0 := r0.cell 0
          have r0f0 := r0.free 0
          have r0c1 := r0.cell 1
          have r0f1 := r0.free 1
          have r0l := r0.lt
          simp at r0c0 r0c1
          by_cases hlt : i < rs.length
          · obtain ⟨rb, ro, rfl, hrb, g0, g1⟩ := RowM.row (htr.later hkk (Nat.le_refl _)) i hlt
            have hcnd : Row Span.cells 2 w.heap.size w rs[i].ad rs[i].r.conds := ht.conds _ (List.getElem_mem hlt)
            have hcl3 := hcl5 _ (List.getElem_mem hlt)
            have HI := Lib.hid hok
            have HBD := Lib.hid (HNR.out _ (List.getElem_mem hlt))
            have HNX := Lib.hid (fun (h : rs[i].r.conds.length = vs.length ∧ inB rs[i].r.action 0 99 = true ∧ ∀ c ∈ rs[i].r.conds, spanOk c = true) => (fun j hj hj2 => by
              rcases Nat.lt_or_ge j i with h3 | h3
              · exact HI.out j hj h3
              · obtain rfl : j = i := by omega
                exact h : ∀ j (hj : j < rs.length), j < i + 1 → rs[j].r.conds.length = vs.length ∧ inB rs[j].r.action 0 99 = true ∧ ∀ c ∈ rs[j].r.conds, spanOk c = true))
            obtain ⟨X, hX⟩ : ∃ X, X = rs[i] := ⟨_, rfl⟩
            rw [← hX] at g0 g1 hcnd hcl3 HBD HNX
            clear hX hok
            obtain ⟨⟨cs, ac⟩, ca, cc⟩ := X
            simp only at g0 g1 hcnd hcl3 HBD HNX
            have i0 : (0 : Int) ≤ (i : Int) := by omega
            have i1 : (i : Int) < (rs.length : Int) := by omega
            cases hs : (decide (cs.length = vs.length) && cs.all spanOk)
            · have HSC := Lib.hid (fun (W : World) (hB : Blk W w.heap.size #[.slice va vs.length vc, .slice (some ⟨rb, ro, none⟩) rs.length rc] 88) (hW : Kept w W) => (by have := f_rows1 vs va vc rs (some ⟨rb, ro, none⟩) rc W w.heap.size hB ca cc cs (hcnd.later hW (Nat.le_refl _)) hcl3 hvl5; rw [hs] at this; exact this : Calls Try.prog 88 #[.slice ca cs.length cc, .pointer (some ⟨w.heap.size, 0, none⟩)] W fun z w2 => z = .returned (.bool false) ∧ Kept W w2))
              have HB := Lib.hid (HBD.out (fun h => by rw [decide_eq_true h.1, List.all_eq_true.2 h.2.2] at hs; cases hs))
              clear HBD HNX hs
              go_wp2_with (first | (go_at_call 88; (with_reducible refine (HSC.out _ (by (exact blk)) (by (exact kpt))).mono ?_); rintro z w4 ⟨rfl, hb4⟩; refine Blk.thru (b := w.heap.size) (arr := ?_) (t := ?_) ?_ hb4 ?_; rotate_left 2; (focus (exact blk)); intro r0; have r0c0 := r0.cell 0; have r0f0 := r0.free 0; have r0c1 := r0.cell 1; have r0f1 := r0.free 1; have r0l := r0.lt; simp at r0c0 r0c1; refine Blk.thru (b := wr.heap.size) (arr := ?_) (t := ?_) ?_ hb4 ?_; rotate_left 2; (focus (exact blk)); intro rn; have rnc0 := rn.cell 0; have rnf0 := rn.free 0; have rnc1 := rn.cell 1; have rnf1 := rn.free 1; have rnl := rn.lt; simp at rnc0 rnc1) | (go_at_call 51; (with_reducible refine (f_rangedB 0 99 ac _ 3 _ ?_).mono ?_); (focus (exact blk)); rw [HA.out]; rintro z w3 ⟨rfl, hb3⟩; refine Blk.thru (b := w.heap.size) (arr := ?_) (t := ?_) ?_ hb3 ?_; rotate_left 2; (focus (exact blk)); intro r0; have r0c0 := r0.cell 0; have r0f0 := r0.free 0; have r0c1 := r0.cell 1; have r0f1 := r0.free 1; have r0l := r0.lt; simp at r0c0 r0c1; refine Blk.thru (b := wr.heap.size) (arr := ?_) (t := ?_) ?_ hb3 ?_; rotate_left 2; (focus (exact blk)); intro rn; have rnc0 := rn.cell 0; have rnf0 := rn.free 0; have rnc1 := rn.cell 1; have rnf1 := rn.free 1; have rnl := rn.lt; simp at rnc0 rnc1))
              exact bodyPost_ret (v := .int .i64 76) (by simp [results, Try.results42, go_sem]) rfl ⟨by rw [HB.out], by (exact kpt)⟩
            · have HSC := Lib.hid (fun (W : World) (hB : Blk W w.heap.size #[.slice va vs.length vc, .slice (some ⟨rb, ro, none⟩) rs.length rc] 88) (hW : Kept w W) => (by have := f_rows1 vs va vc rs (some ⟨rb, ro, none⟩) rc W w.heap.size hB ca cc cs (hcnd.later hW (Nat.le_refl _)) hcl3 hvl5; rw [hs] at this; exact this : Calls Try.prog 88 #[.slice ca cs.length cc, .pointer (some ⟨w.heap.size, 0, none⟩)] W fun z w2 => z = .returned (.bool true) ∧ Kept W w2))
              simp only [Bool.and_eq_true, decide_eq_true_eq, List.all_eq_true] at hs
              cases ha : inB ac 0 99
              · have HA := Lib.hid ha
                have HB := Lib.hid (HBD.out (fun h => by rw [ha] at h; cases h.2.1))
                clear HBD HNX hs ha
                go_wp2_with (first | (go_at_call 88; (with_reducible refine (HSC.out _ (by (exact blk)) (by (exact kpt))).mono ?_); rintro z w4 ⟨rfl, hb4⟩; refine Blk.thru (b := w.heap.size) (arr := ?_) (t := ?_) ?_ hb4 ?_; rotate_left 2; (focus (exact blk)); intro r0; have r0c0 := r0.cell 0; have r0f0 := r0.free 0; have r0c1 := r0.cell 1; have r0f1 := r0.free 1; have r0l := r0.lt; simp at r0c0 r0c1; refine Blk.thru (b := wr.heap.size) (arr := ?_) (t := ?_) ?_ hb4 ?_; rotate_left 2; (focus (exact blk)); intro rn; have rnc0 := rn.cell 0; have rnf0 := rn.free 0; have rnc1 := rn.cell 1; have rnf1 := rn.free 1; have rnl := rn.lt; simp at rnc0 rnc1) | (go_at_call 51; (with_reducible refine (f_rangedB 0 99 ac _ 3 _ ?_).mono ?_); (focus (exact blk)); rw [HA.out]; rintro z w3 ⟨rfl, hb3⟩; refine Blk.thru (b := w.heap.size) (arr := ?_) (t := ?_) ?_ hb3 ?_; rotate_left 2; (focus (exact blk)); intro r0; have r0c0 := r0.cell 0; have r0f0 := r0.free 0; have r0c1 := r0.cell 1; have r0f1 := r0.free 1; have r0l := r0.lt; simp at r0c0 r0c1; refine Blk.thru (b := wr.heap.size) (arr := ?_) (t := ?_) ?_ hb3 ?_; rotate_left 2; (focus (exact blk)); intro rn; have rnc0 := rn.cell 0; have rnf0 := rn.free 0; have rnc1 := rn.cell 1; have rnf1 := rn.free 1; have rnl := rn.lt; simp at rnc0 rnc1))
                exact bodyPost_ret (v := .int .i64 76) (by simp [results, Try.results42, go_sem]) rfl ⟨by rw [HB.out], by (exact kpt)⟩
              · have HA := Lib.hid ha
                have HB := Lib.hid (HNX.out ⟨hs.1, ha, hs.2⟩)
                clear HBD HNX hs ha
                go_wp2_with (first | (go_at_call 88; (with_reducible refine (HSC.out _ (by (exact blk)) (by (exact kpt))).mono ?_); rintro z w4 ⟨rfl, hb4⟩; refine Blk.thru (b := w.heap.size) (arr := ?_) (t := ?_) ?_ hb4 ?_; rotate_left 2; (focus (exact blk)); intro r0; have r0c0 := r0.cell 0; have r0f0 := r0.free 0; have r0c1 := r0.cell 1; have r0f1 := r0.free 1; have r0l := r0.lt; simp at r0c0 r0c1; refine Blk.thru (b := wr.heap.size) (arr := ?_) (t := ?_) ?_ hb4 ?_; rotate_left 2; (focus (exact blk)); intro rn; have rnc0 := rn.cell 0; have rnf0 := rn.free 0; have rnc1 := rn.cell 1; have rnf1 := rn.free 1; have rnl := rn.lt; simp at rnc0 rnc1) | (go_at_call 51; (with_reducible refine (f_rangedB 0 99 ac _ 3 _ ?_).mono ?_); (focus (exact blk)); rw [HA.out]; rintro z w3 ⟨rfl, hb3⟩; refine Blk.thru (b := w.heap.size) (arr := ?_) (t := ?_) ?_ hb3 ?_; rotate_left 2; (focus (exact blk)); intro r0; have r0c0 := r0.cell 0; have r0f0 := r0.free 0; have r0c1 := r0.cell 1; have r0f1 := r0.free 1; have r0l := r0.lt; simp at r0c0 r0c1; refine Blk.thru (b := wr.heap.size) (arr := ?_) (t := ?_) ?_ hb3 ?_; rotate_left 2; (focus (exact blk)); intro rn; have rnc0 := rn.cell 0; have rnf0 := rn.free 0; have rnc1 := rn.cell 1; have rnf1 := rn.free 1; have rnl := rn.lt; simp at rnc0 rnc1))
                go_roundw
                case rel => exact ⟨i + 1, by omega, by go_num, HB.out, by (exact blk), by (exact kpt)⟩
                case measure => simp [intOf]; omega
          · obtain rfl : rs.length = i := by omega
            have HB := Lib.hid (HV.out (fun x hx => by obtain ⟨j, hj, rfl⟩ := List.mem_iff_getElem.1 hx; exact hok j hj hj))
            clear hok
            go_wp2
            exact bodyPost_ret (v := .int .i64 0) (by simp [results, Try.results42, go_sem]) rfl ⟨by rw [HB.out], by (exact kpt)⟩
    · have l2 : (30 : Int) < (rs.length : Int) := by omega
      have HB := Lib.hid (not_valid (d := tbOf vs rs) fun h => by have := (valid_parts.1 h).2.1; rw [rows_len] at this; omega)
      clear h1
      go_enter Try.func42, Try.ntmps42
      go_wp2_with (first | (go_at_call 51; (with_reducible refine (f_rangedB 1 3 (vs.length : Int) _ 3 _ ?_).mono ?_); (focus (exact blk)); rw [H1.out]; rintro z w3 ⟨rfl, hb3⟩; refine Blk.thru (b := w.heap.size) (arr := ?_) (t := ?_) ?_ hb3 ?_; rotate_left 2; (focus (exact blk)); intro r0; have r0c0 := r0.cell 0; have r0f0 := r0.free 0; have r0c1 := r0.cell 1; have r0f1 := r0.free 1; have r0l := r0.lt; simp at r0c0 r0c1) | fail)
      exact bodyPost_ret (v := .int .i64 76) (by simp [results, Try.results42, go_sem]) rfl ⟨by rw [HB.out], by (exact kpt)⟩

end Go.Proofs.Ytacbkbilbmkjnaa

/-
  Decide and Gap in the program.
-/
namespace Go.Proofs.Ytacbkbilbmkjnaa
open Go.RowKit Bal Bal.Trim Bal.Mast
set_option linter.unusedVariables false
set_option linter.unusedSimpArgs false
set_option maxHeartbeats 4000000
set_option maxRecDepth 100000

theorem f_firstZ (vs : List Span) (va : Option Addr) (vc : Nat) (rs : List RowM) (ra : Option Addr) (rc : Nat) (hv : validB (tbOf vs rs) = true) (W : List Nat → Bool) (F : FuncId) (hF : Asks W F) (w : World) (ht : TabAt ⟨vs, va, vc, rs, ra, rc⟩ w) :
    Calls Try.prog 84 #[.agg #[.slice va vs.length vc, .slice ra rs.length rc], .slice none 0 0, .func (.func F) #[] #[]] w fun z w' => ∃ (r : Option (List Int)) (a : Option Addr) (c : Nat), FirstExt (tbOf vs rs) W [] r ∧ z = .returned (.slice a (outS r).length c) ∧ Row icell 1 w'.heap.size w' a (outS r) ∧ (outS r).length ≤ c ∧ c ≤ maxLen ∧ ((r = none ∧ a = none ∧ c = 0) ∨ (r.isSome = true ∧ a.isNone = false)) ∧ Kept w w' := by
  refine Calls.mono (f_first vs va vc rs ra rc hv W F hF vs.length w ht none 0 [] Row.nil (Nat.le_refl _) (Nat.zero_le _) (fun _ => rfl) (by simp)) ?_
  rintro z w' ⟨⟨a, c, rfl, h1, h2, h3, h4⟩, hb⟩
  exact ⟨_, a, c, firstP_ext (valid_even hv) (valid_le hv) W vs.length [] (by show 0 + vs.length = vs.length; omega) (by show hits vs [] = true; cases vs <;> rfl), rfl, h1, h2, h3, h4, hb⟩

theorem f_Gap (vs : List Span) (va : Option Addr) (vc : Nat) (rs : List RowM) (ra : Option Addr) (rc : Nat) (w : World) (ht : TabAt ⟨vs, va, vc, rs, ra, rc⟩ w) (hvl5 : vs.length ≤ 1000000) (hrl5 : rs.length ≤ 1000000) (hcl5 : ∀ x ∈ rs, x.r.conds.length ≤ 1000000) :
    Calls Try.prog 38 #[.agg #[.slice va vs.length vc, .slice ra rs.length rc]] w fun z w' => ∃ (a : Option Addr) (c : Nat) (s : List Int) (E : Int), GapRes (tbOf vs rs) E s ∧ z = .returned (.tuple #[.slice a s.length c, .int .i64 E]) ∧ Row icell 1 w'.heap.size w' a s ∧ s.length ≤ c ∧ c ≤ maxLen ∧ Kept w w' := by
  have htv : Row Span.cells 2 w.heap.size w va vs := ht.vars
  have hvm : vc ≤ maxLen := ht.vm
  have hrm : rc ≤ maxLen := ht.rm
  have hvl : vs.length ≤ vc := ht.vl
  have hrl : rs.length ≤ rc := ht.rl
  unfold maxLen at hvm hrm
  cases hv : validB (tbOf vs rs)
  · have HCK := Lib.hid (bad_check hv)
    have HV := Lib.hid hv
    clear hv
    go_enter Try.func38, Try.ntmps38
    go_wp2_with (go_at_call 42; (with_reducible refine (f_CheckRows vs va vc rs ra rc _ (ht.later (by (exact kpt))) hvl5 hrl5 hcl5).mono ?_); rw [HCK.out]; rintro z w1 ⟨rfl, hb1⟩; refine Blk.thru (b := w.heap.size) (arr := ?_) (t := ?_) ?_ hb1 ?_; rotate_left 2; (focus (exact blk)); intro r0; have r0c0 := r0.cell 0; have r0f0 := r0.free 0; have r0c1 := r0.cell 1; have r0f1 := r0.free 1; have r0l := r0.lt; simp at r0c0 r0c1)
    exact bodyPost_ret (v := .tuple #[.slice none 0 0, .int .i64 76]) (by simp [results, Try.results38, go_sem]) rfl ⟨none, 0, [], 76, .inl ⟨HV.out, rfl, rfl⟩, rfl, Row.nil, Nat.le_refl _, Nat.zero_le _, by (exact kpt)⟩
  · have HCK := Lib.hid (good_check hv)
    obtain ⟨q1, q2, q3, q4⟩ := valid_parts.1 hv
    have hn := inB_iff.1 q1
    rw [show (tbOf vs rs).vars = vs from rfl] at hn
    rw [rows_len] at q2
    have hr : rs.length ≤ 1000 := by omega
    have hn3 : 1 ≤ vs.length ∧ vs.length ≤ 3 := by omega
    have hce : ∀ x ∈ rs, x.r.conds.length = vs.length := fun x hx => (q4 x.r (mem_rowsT hx)).1
    have HV := Lib.hid hv
    clear q1 q2 q3 q4 hn hv hce
    go_enter Try.func38, Try.ntmps38
    go_upto_region 5 with (first | (go_at_call 42; (with_reducible refine (f_CheckRows vs va vc rs ra rc _ (ht.later (by (exact kpt))) hvl5 hrl5 hcl5).mono ?_); rw [HCK.out]; rintro z w1 ⟨rfl, hb1⟩; refine Blk.thru (b := w.heap.size) (arr := ?_) (t := ?_) ?_ hb1 ?_; rotate_left 2; (focus (exact blk)); intro r0; have r0c0 := r0.cell 0; have r0f0 := r0.free 0; have r0c1 := r0.cell 1; have r0f1 := r0.free 1; have r0l := r0.lt; simp at r0c0 r0c1) | (go_at_call 84; (with_reducible refine (f_firstZ vs va vc rs ra rc HV.out W0 _ asks0 _ (ht.later (by (exact kpt)))).mono ?_); rintro z w2 ⟨r, a2, c2, hfr, rfl, hr2, hc2, hm2, hcase, hb2⟩; refine Blk.thru (b := w.heap.size) (arr := ?_) (t := ?_) ?_ hb2 ?_; rotate_left 2; (focus (exact blk)); intro r0; have r0c0 := r0.cell 0; have r0f0 := r0.free 0; have r0c1 := r0.cell 1; have r0f1 := r0.free 1; have r0l := r0.lt; simp at r0c0 r0c1))
    cases r with
    | none =>
      have HF := Lib.hid hfr
      obtain ⟨-, rfl, rfl⟩ : (none : Option (List Int)) = none ∧ a2 = none ∧ c2 = 0 := by
        rcases hcase with h | ⟨h, _⟩
        · exact h
        · cases h
      have hs0 : ∀ w, (binOp .eql 51 (.slice none 0 0) (.slice none 0 0)).run Try.prog w = .ok (.bool true) w := fun w => Lib.run_eql_slice_nil w _ _ _ _ _ _ _ Try.underlying51
      simp only [outS, Option.getD_none, List.length_nil]
      clear hfr hcase
      go_wp2
      exact bodyPost_ret (v := .tuple #[.slice none 0 0, .int .i64 6]) (by simp [results, Try.results38, go_sem]) rfl ⟨none, 0, [], 6, .inr ⟨HV.out, none, HF.out, rfl, rfl⟩, rfl, Row.nil, Nat.le_refl _, Nat.zero_le _, by (exact kpt)⟩
    | some s =>
      have HF := Lib.hid hfr
      obtain ⟨-, h7⟩ : (some s).isSome = true ∧ a2.isNone = false := by
        rcases hcase with ⟨h, _⟩ | h
        · cases h
        · exact h
      simp only [outS, Option.getD_some] at hr2 hc2 ⊢
      have hs0 : ∀ w, (binOp .eql 51 (.slice a2 s.length c2) (.slice none 0 0)).run Try.prog w = .ok (.bool false) w := fun w => by rw [Lib.run_eql_slice_nil w _ _ _ _ _ _ _ Try.underlying51, h7]
      clear hfr hcase
      go_wp2
      exact bodyPost_ret (v := .tuple #[.slice a2 s.length c2, .int .i64 0]) (by simp [results, Try.results38, go_sem]) rfl ⟨a2, c2, s, 0, .inr ⟨HV.out, some s, HF.out, rfl, rfl⟩, rfl, hr2, hc2, hm2, by (exact kpt)⟩

theorem f_Decide (vs : List Span) (va : Option Addr) (vc : Nat) (rs : List RowM) (ra : Option Addr) (rc : Nat) (w : World) (ht : TabAt ⟨vs, va, vc, rs, ra, rc⟩ w) (sa : Option Addr) (sc : Nat) (st : List Int) (hs : Row icell 1 w.heap.size w sa st) (hsl : st.length ≤ sc) (hsm : sc ≤ maxLen) (hvl5 : vs.length ≤ 1000000) (hrl5 : rs.length ≤ 1000000) (hcl5 : ∀ x ∈ rs, x.r.conds.length ≤ 1000000) (hst5 : st.length ≤ 1000) :
    Calls Try.prog 36 #[.agg #[.slice va vs.length vc, .slice ra rs.length rc], .slice sa st.length sc] w fun z w' => z = .returned (.tuple #[.int .i64 (decR (tbOf vs rs) st).1, .int .i64 (decR (tbOf vs rs) st).2]) ∧ Kept w w' := by
  have htv : Row Span.cells 2 w.heap.size w va vs := ht.vars
  have hvm : vc ≤ maxLen := ht.vm
  have hrm : rc ≤ maxLen := ht.rm
  have hvl : vs.length ≤ vc := ht.vl
  have hrl : rs.length ≤ rc := ht.rl
  unfold maxLen at hvm hrm
  have hsm' := hsm
  unfold maxLen at hsm'
  cases hv : validB (tbOf vs rs)
  · have HCK := Lib.hid (bad_check hv)
    have HD := Lib.hid (show decR (tbOf vs rs) st = (0, 76) by unfold decR; rw [hv]; rfl)
    clear hv
    go_enter Try.func36, Try.ntmps36
    go_wp2_with (go_at_call 42; (with_reducible refine (f_CheckRows vs va vc rs ra rc _ (ht.later (by (exact kpt))) hvl5 hrl5 hcl5).mono ?_); rw [HCK.out]; rintro z w1 ⟨rfl, hb1⟩; refine Blk.thru (b := w.heap.size) (arr := ?_) (t := ?_) ?_ hb1 ?_; rotate_left 2; (focus (exact blk)); intro r0; have r0c0 := r0.cell 0; have r0f0 := r0.free 0; have r0c1 := r0.cell 1; have r0f1 := r0.free 1; have r0l := r0.lt; simp at r0c0 r0c1)
    exact bodyPost_ret (v := .tuple #[.int .i64 0, .int .i64 76]) (by simp [results, Try.results36, go_sem]) rfl ⟨by rw [HD.out], by (exact kpt)⟩
  · have HCK := Lib.hid (good_check hv)
    obtain ⟨q1, q2, q3, q4⟩ := valid_parts.1 hv
    have hn := inB_iff.1 q1
    rw [show (tbOf vs rs).vars = vs from rfl] at hn
    rw [rows_len] at q2
    have hr : rs.length ≤ 1000 := by omega
    have hn3 : 1 ≤ vs.length ∧ vs.length ≤ 3 := by omega
    have hce : ∀ x ∈ rs, x.r.conds.length = vs.length := fun x hx => (q4 x.r (mem_rowsT hx)).1
    have HV := Lib.hid hv
    by_cases hl : st.length = vs.length
    · have e1 : ((st.length : Int) != (vs.length : Int)) = false := by simp [hl]
      have hST : st.length ≤ vs.length := by omega
      have HCS := Lib.hid (fun x hx => by rw [hce x hx]; exact hST : ∀ x ∈ rs, st.length ≤ x.r.conds.length)
      have HD2 := Lib.hid (fun (h : hits vs st = false) => (show decR (tbOf vs rs) st = (0, 2) by unfold decR; rw [hv, show (tbOf vs rs).vars = vs from rfl, if_pos rfl, if_pos hl, h]; rfl))
      have HD3 := Lib.hid (fun (h : hits vs st = true) => (show decR (tbOf vs rs) st = (match matchL (tbOf vs rs) st with | [] => (0, 6) | [i] => ((i : Int), 0) | _ => (0, 77)) by unfold decR; rw [hv, show (tbOf vs rs).vars = vs from rfl, if_pos rfl, if_pos hl, if_pos h]; rfl))
      have HL := Lib.hid hl
      clear q1 q2 q3 q4 hn hv hce hl
      go_enter Try.func36, Try.ntmps36
      go_wp2_with (go_at_call 42; (with_reducible refine (f_CheckRows vs va vc rs ra rc _ (ht.later (by (exact kpt))) hvl5 hrl5 hcl5).mono ?_); rw [HCK.out]; rintro z w1 ⟨rfl, hb1⟩; refine Blk.thru (b := w.heap.size) (arr := ?_) (t := ?_) ?_ hb1 ?_; rotate_left 2; (focus (exact blk)); intro r0; have r0c0 := r0.cell 0; have r0f0 := r0.free 0; have r0c1 := r0.cell 1; have r0f1 := r0.free 1; have r0l := r0.lt; simp at r0c0 r0c1)
      go_loopw [23] (fun s7 wr => ∃ k : Nat, k ≤ st.length ∧ s7 = .int .i64 (k : Int) ∧ hits vs (st.take k) = true ∧ Blk wr w.heap.size #[.slice va vs.length vc, .slice ra rs.length rc] 88 ∧ Kept w wr) (fun s7 _ => st.length - (intOf s7).toNat)
      case atStart => exact ⟨0, Nat.zero_le _, rfl, by cases vs <;> rfl, by (exact blk), by (exact kpt)⟩
      case round =>
        clear r0 r0c0 r0f0 r0c1 r0f1 r0l
        obtain ⟨k, hk, rfl, hh, r0, hkk⟩ := hrel
        by_cases hkt : k < st.length
        · have hkv : k < vs.length := by omega
          obtain ⟨sb, so, rfl, hsb, x0⟩ := int_row (hs.later hkk (Nat.le_refl _)) k hkt
          obtain ⟨vb, vo, rfl, hvb, c0, c1⟩ := Span.row (htv.later hkk (Nat.le_refl _)) k hkv
          have HTK := Lib.hid (show hits vs (st.take (k + 1)) = inB st[k] vs[k].lo vs[k].hi by
            rw [List.take_succ_eq_append_getElem hkt, hits_snoc (by rw [List.length_take]; omega), hh]
            simp only [List.length_take, Nat.min_eq_left (Nat.le_of_lt hkt), Bool.true_and])
          obtain ⟨y, hy⟩ : ∃ x, x = st[k] := ⟨_, rfl⟩
          obtain ⟨c, hc⟩ : ∃ x, x = vs[k] := ⟨_, rfl⟩
          rw [← hy, ← hc] at HTK
          rw [← hy] at x0
          rw [← hc] at c0 c1
          clear hy hc hh
          have i0 : (0 : Int) ≤ (k : Int) := by omega
          have i1 : (k : Int) < (st.length : Int) := by omega
          have i2 : (k : Int) < (vs.length : Int) := by omega
          have k0 : ∀ w2, Kept wr w2 → w2.cell? ⟨w.heap.size, 0, none⟩ = some (.slice (some ⟨vb, vo, none⟩) vs.length vc) := fun w2 h => by simpa using (r0.keep h).cell 0
          have k2 : ∀ w2, Kept wr w2 → w2.cell? ⟨vb, vo + k * 2, none⟩ = some (.int .i64 c.lo) := fun w2 h => by rw [h.cell (p := ⟨vb, vo + k * 2, none⟩) hvb]; exact c0
          have k3 : ∀ w2, Kept wr w2 → w2.cell? ⟨vb, vo + k * 2 + 1, none⟩ = some (.int .i64 c.hi) := fun w2 h => by rw [h.cell (p := ⟨vb, vo + k * 2 + 1, none⟩) hvb]; exact c1
          have lw := r0.lt
          cases hb : inB y c.lo c.hi
          · have HB := Lib.hid (show inB y c.lo c.hi = false from hb)
            have HDD := Lib.hid (HD2.out (hits_fail (k := k + 1) (by rw [HTK.out]; exact hb)))
            clear hb HTK
            go_upto_region 9 with fail
            go_region_held3 (fun w2 => Kept wr w2) (exact kpt) (first | (go_at_call 51; (with_reducible refine (f_rangedB c.lo c.hi y _ 3 _ ?_).mono ?_); (focus (first | (with_reducible refine Blk.drew (Blk.new' ?_); (first | rfl | (simp; done))) | (with_reducible refine Blk.new' ?_; (first | rfl | (simp; done))) | (exact blk))); rw [HB.out]; rintro z w2 ⟨rfl, hb2⟩) | fail)
            all_goals
              go_wp2
              exact bodyPost_ret (v := .tuple #[.int .i64 0, .int .i64 2]) (by simp [results, Try.results36, go_sem]) rfl ⟨by rw [HDD.out], by (exact kpt)⟩
          · have HB := Lib.hid (show inB y c.lo c.hi = true from hb)
            have HN := Lib.hid (show hits vs (st.take (k + 1)) = true by rw [HTK.out]; exact hb)
            clear hb HTK
            go_upto_region 9 with fail
            go_region_held3 (fun w2 => Kept wr w2) (exact kpt) (first | (go_at_call 51; (with_reducible refine (f_rangedB c.lo c.hi y _ 3 _ ?_).mono ?_); (focus (first | (with_reducible refine Blk.drew (Blk.new' ?_); (first | rfl | (simp; done))) | (with_reducible refine Blk.new' ?_; (first | rfl | (simp; done))) | (exact blk))); rw [HB.out]; rintro z w2 ⟨rfl, hb2⟩) | fail)
            all_goals
              go_wp2
              go_roundw
              case rel =>
                have hkf : Kept wr w2 := by (exact kpt)
                exact ⟨k + 1, by omega, by go_num, HN.out, r0.keep hkf, Kept.drop hkk hkf⟩
              case measure => simp [intOf]; omega
        · obtain rfl : st.length = k := by omega
          rw [List.take_length] at hh
          have HDD := Lib.hid (HD3.out hh)
          have hmf := match_few (d := tbOf vs rs) st
          rw [rows_len] at hmf
          clear HD2 HD3 hh
          have r0c0 := r0.cell 0
          have r0f0 := r0.free 0
          have r0c1 := r0.cell 1
          have r0f1 := r0.free 1
          have r0l := r0.lt
          simp at r0c0 r0c1
          go_upto_region 13 with (first | (go_at_call 82; (with_reducible refine (f_matching vs va vc rs ra rc _ (ht.later (by (exact kpt))) sa sc st).mono ?_); rintro z w4 ⟨rfl, rfl⟩) | (go_at_call 81; (with_reducible refine (f_Collect vs va vc rs ra rc w ht sa sc st hs hsl hsm hr HCS.out _ ?_ _ _ ?_ ?_).mono ?_); (focus (exact kpt)); (focus (first | (with_reducible refine Blk.drew (Blk.new' ?_); (first | rfl | (simp; done))) | (with_reducible refine Blk.new' ?_; (first | rfl | (simp; done))) | (exact blk))); (focus (first | (with_reducible refine Blk.drew (Blk.new' ?_); (first | rfl | (simp; done))) | (with_reducible refine Blk.new' ?_; (first | rfl | (simp; done))) | (exact blk))); rintro z w5 ⟨v5, rfl, ho5, hb5⟩; obtain ⟨ad5, cp5, rfl, hrw5, hcp5, hcm5⟩ := owns_row (enc := icell) (k := 1) (xs := natsI (matchL (tbOf vs rs) st)) (fun _ => rfl) (by rw [natsI_len]; exact ho5); simp only [natsI_len] at hcp5 ⊢))
          clear r0 r0c0 r0f0 r0c1 r0f1 r0l
          match hM : matchL (tbOf vs rs) st with
          | [] =>
            have HD4 := Lib.hid (show decR (tbOf vs rs) st = (0, 6) by rw [HDD.out, hM])
            clear hM
            go_wp2
            exact bodyPost_ret (v := .tuple #[.int .i64 0, .int .i64 6]) (by simp [results, Try.results36, go_sem]) rfl ⟨by rw [HD4.out], by (exact kpt)⟩
          | [i] =>
            have HD4 := Lib.hid (show decR (tbOf vs rs) st = ((i : Int), 0) by rw [HDD.out, hM])
            have hlen1 : (matchL (tbOf vs rs) st).length = 1 := by rw [hM]; rfl
            obtain ⟨b5, o5, rfl, hbl5, x5⟩ := int_row hrw5 0 (by rw [natsI_len, hlen1]; omega)
            simp only [hM, natsI, List.map_cons, List.map_nil, List.getElem_cons_zero, Nat.add_zero] at x5
            clear hM hlen1
            go_wp2
            exact bodyPost_ret (v := .tuple #[.int .i64 i, .int .i64 0]) (by simp [results, Try.results36, go_sem]) rfl ⟨by rw [HD4.out], by (exact kpt)⟩
          | i :: j :: l =>
            have HD4 := Lib.hid (show decR (tbOf vs rs) st = (0, 77) by rw [HDD.out, hM])
            clear hM
            go_wp2
            exact bodyPost_ret (v := .tuple #[.int .i64 0, .int .i64 77]) (by simp [results, Try.results36, go_sem]) rfl ⟨by rw [HD4.out], by (exact kpt)⟩
    · have e1 : ((st.length : Int) != (vs.length : Int)) = true := by simp; omega
      have HD := Lib.hid (show decR (tbOf vs rs) st = (0, 2) by unfold decR; rw [hv, show (tbOf vs rs).vars = vs from rfl, if_pos rfl, if_neg hl])
      clear q1 q2 q3 q4 hn hv hce hl
      go_enter Try.func36, Try.ntmps36
      go_wp2_with (go_at_call 42; (with_reducible refine (f_CheckRows vs va vc rs ra rc _ (ht.later (by (exact kpt))) hvl5 hrl5 hcl5).mono ?_); rw [HCK.out]; rintro z w1 ⟨rfl, hb1⟩; refine Blk.thru (b := w.heap.size) (arr := ?_) (t := ?_) ?_ hb1 ?_; rotate_left 2; (focus (exact blk)); intro r0; have r0c0 := r0.cell 0; have r0f0 := r0.free 0; have r0c1 := r0.cell 1; have r0f1 := r0.free 1; have r0l := r0.lt; simp at r0c0 r0c1)
      exact bodyPost_ret (v := .tuple #[.int .i64 0, .int .i64 2]) (by simp [results, Try.results36, go_sem]) rfl ⟨by rw [HD.out], by (exact kpt)⟩

end Go.Proofs.Ytacbkbilbmkjnaa

/-
  Twice in the program.
-/
namespace Go.Proofs.Ytacbkbilbmkjnaa
open Go.RowKit Go.Shelf Bal Bal.Trim Bal.Mast
set_option linter.unusedVariables false
set_option linter.unusedSimpArgs false
set_option maxHeartbeats 4000000
set_option maxRecDepth 100000
attribute [local go_sem] Oper.semAt_some

/-- what a round must leave to the iterator: what lies below B, and its two boxes -/
structure KeptB (B b0 b1 : Nat) (W W' : World) : Prop where
  below : Below B W W'
  k0 : W'.heap[b0]? = W.heap[b0]?
  k1 : W'.heap[b1]? = W.heap[b1]?
theorem KeptB.trans {B b0 b1 : Nat} {X Y Z : World} (h : KeptB B b0 b1 X Y) (k : KeptB B b0 b1 Y Z) : KeptB B b0 b1 X Z := ⟨h.below.trans k.below, k.k0.trans h.k0, k.k1.trans h.k1⟩
theorem KeptB.put {B b0 b1 : Nat} {w : World} (hB : B ≤ w.heap.size) (h0 : b0 < w.heap.size) (h1 : b1 < w.heap.size) (W : World) (l : Nat) (o o' : Obj) (hl : w.heap.size ≤ l) (h : W.heap[l]? = some o) (hc : o.isCells = false) (hw : o.isWalk = false) : KeptB B b0 b1 W (W.putObj l o') :=
  ⟨belowK_b hB W l o o' hl h hc hw, World.putObj_heap_other (by omega), World.putObj_heap_other (by omega)⟩
theorem KeptB.of_kept {B b0 b1 : Nat} {W W' : World} (h : Kept W W') (hB : B ≤ W.heap.size) (h0 : b0 < W.heap.size) (h1 : b1 < W.heap.size) : KeptB B b0 b1 W W' := ⟨h.mono hB, h.block _ h0, h.block _ h1⟩
theorem KeptB.set {B b0 b1 : Nat} {W W' : World} (h : KeptB B b0 b1 W W') {a : Addr} (hB : B ≤ a.block) (h0 : a.block ≠ b0) (h1 : a.block ≠ b1) (v : Value) : KeptB B b0 b1 W (W'.setCell a v) :=
  ⟨h.below.setCell hB v, (Below.heap_setCell _ _ _ _ (Ne.symm h0)).trans h.k0, (Below.heap_setCell _ _ _ _ (Ne.symm h1)).trans h.k1⟩

theorem f_match1K (vs : List Span) (va : Option Addr) (vc : Nat) (rs : List RowM) (ra : Option Addr) (rc : Nat) (w : World) (ht : TabAt ⟨vs, va, vc, rs, ra, rc⟩ w) (sa : Option Addr) (sc : Nat) (st : List Int) (hs : Row icell 1 w.heap.size w sa st) (hsl : st.length ≤ sc) (hsm : sc ≤ maxLen) (hr : rs.length ≤ 1000) (hE : ∀ x ∈ rs, st.length ≤ x.r.conds.length) (w' : World) (hk0 : Kept w w') (b0 b1 : Nat) (hq0 : Blk w' b0 #[.slice va vs.length vc, .slice ra rs.length rc] 88) (hq1 : Blk w' b1 #[.slice sa st.length sc] 51) (n0 : Nat) (hnw : w.heap.size ≤ n0) (m : Nat) (hm : 2 ≤ m) :
    SeqStopsK Fence.wide m Try.prog 119 #[.pointer (some ⟨b0, 0, none⟩), .pointer (some ⟨b1, 0, none⟩)] (fun x : Nat => #[.int .i64 (x : Int)]) (KeptB n0 b0 b1) (fun xs => xs = matchL (tbOf vs rs) st) (fun _ => True) (matchL (tbOf vs rs) st).length w' := by
  intro l J Jx W hWW hJ hJx hY h0
  have hl0 := hq0.lt
  have hl1 := hq1.lt
  have htr : Row RowM.cells 2 w.heap.size w ra rs := ht.rows
  have htv : Row Span.cells 2 w.heap.size w va vs := ht.vars
  have hvm : vc ≤ maxLen := ht.vm
  have hrm : rc ≤ maxLen := ht.rm
  have hvl : vs.length ≤ vc := ht.vl
  have hrl : rs.length ≤ rc := ht.rl
  unfold maxLen at hvm hrm
  unfold maxLen at hsm
  have hA0 := hq0.belowR hWW hl0
  have hA1 := hq1.belowR hWW hl1
  have hW : Kept w W := hk0.trans (hWW.mono hk0.size)
  have hWs := hWW.size
  have hws := hk0.size
  clear hWW hk0 hq0 hq1
  refine callsIn_of_wp Try.func119 rfl trivial ?_ rfl
  simp only [Try.ntmps119, List.size_toArray, List.length_cons, List.length_nil, Nat.reduceAdd, Nat.reduceSub, Array.replicate_succ, Array.replicate_zero, List.push_toArray, List.append_toArray, List.nil_append, List.cons_append]
  refine wpIn_scopeM ?_
  have hA0c0 := hA0.cell 0
  have hA0f0 := hA0.free 0
  have hA0c1 := hA0.cell 1
  have hA0f1 := hA0.free 1
  have hA0l := hA0.lt
  simp at hA0c0 hA0c1
  have hA1c0 := hA1.cell 0
  have hA1f0 := hA1.free 0
  have hA1l := hA1.lt
  simp at hA1c0
  gi_wp2
  refine wpIn_wide.2 (wp_label ?_)
  gi_wp2
  gi_loopw [11] (fun i wr => ∃ k : Nat, k ≤ rs.length ∧ i = .int .i64 k ∧ J (matchTo (tbOf vs rs) st k) wr ∧ Blk wr b0 #[.slice va vs.length vc, .slice ra rs.length rc] 88 ∧ Blk wr b1 #[.slice sa st.length sc] 51 ∧ Kept w wr ∧ W.heap.size ≤ wr.heap.size) (fun i _ => rs.length - (intOf i).toNat)
  case atStart => exact ⟨0, Nat.zero_le _, rfl, h0, hA0, hA1, hW, Nat.le_refl _⟩
  case round =>
    clear hA0 hA1 h0 hW hA0c0 hA0f0 hA0c1 hA0f1 hA0l hA1c0 hA1f0 hA1l
    obtain ⟨k, hk, rfl, hJ0, q0, q1, hkr, hzr⟩ := hrel
    have HJ0 := Lib.hid hJ0
    clear hJ0
    have q0c0 := q0.cell 0
    have q0f0 := q0.free 0
    have q0c1 := q0.cell 1
    have q0f1 := q0.free 1
    have q0l := q0.lt
    simp at q0c0 q0c1
    have q1c0 := q1.cell 0
    have q1f0 := q1.free 0
    have q1l := q1.lt
    simp at q1c0
    by_cases hlt : k < rs.length
    · obtain ⟨rb, ro, rfl, hrb, g0, g1⟩ := RowM.row (htr.later hkr (Nat.le_refl _)) k hlt
      have hcnd : Row Span.cells 2 w.heap.size w rs[k].ad rs[k].r.conds := ht.conds _ (List.getElem_mem hlt)
      have hce : st.length ≤ rs[k].r.conds.length := hE _ (List.getElem_mem hlt)
      have hc3 : rs[k].r.conds.length ≤ rs[k].cap := (ht.cl _ (List.getElem_mem hlt)).1
      have hc4 : rs[k].cap ≤ maxLen := (ht.cl _ (List.getElem_mem hlt)).2
      have HMS := Lib.hid (show matchTo (tbOf vs rs) st (k + 1) = matchTo (tbOf vs rs) st k ++ if hits rs[k].r.conds st then [k] else [] by rw [matchTo_succ, show matchP (tbOf vs rs) st k = hits rs[k].r.conds st by unfold matchP; simp [tbOf, hlt]])
      have HMT := Lib.hid (fun (h : hits rs[k].r.conds st = true) => matchTo_lt (d := tbOf vs rs) (st := st) (k := k) (by rw [rows_len]; exact hlt) (by rw [show matchP (tbOf vs rs) st k = hits rs[k].r.conds st by unfold matchP; simp [tbOf, hlt]]; exact h))
      obtain ⟨X, hX⟩ : ∃ X, X = rs[k] := ⟨_, rfl⟩
      rw [← hX] at g0 g1 hcnd hce hc3 hc4 HMS HMT
      clear hX
      obtain ⟨⟨cs, ac⟩, ca, cc⟩ := X
      simp only at g0 g1 hcnd hce hc3 hc4 HMS HMT
      unfold maxLen at hc4
      obtain ⟨Z, rfl⟩ : ∃ Z : World, Z = wr := ⟨_, rfl⟩
      have hb0 := q0.lt
      have hb1 := q1.lt
      gi_wp2
      gi_loopw [18] (fun s wq => ∃ j : Nat, j ≤ st.length ∧ s = .int .i64 j ∧ hits cs (st.take j) = true ∧ Blk wq Z.heap.size #[.slice ca cs.length cc, .int .i64 ac] 143 ∧ Kept Z wq) (fun s _ => st.length - (intOf s).toNat)
      case atStart => exact ⟨0, Nat.zero_le _, rfl, by cases cs <;> rfl, by (exact blk), by (exact kpt)⟩
      case round =>
        obtain ⟨j, hj, rfl, hh, rx, hkz⟩ := hrel
        have hkw := Kept.drop hkr hkz
        have rxc0 := rx.cell 0
        have rxf0 := rx.free 0
        have rxc1 := rx.cell 1
        have rxf1 := rx.free 1
        have rxl := rx.lt
        simp at rxc0 rxc1
        by_cases hjt : j < st.length
        · obtain ⟨sb, so, rfl, hsb, x0⟩ := int_row (hs.later hkw (Nat.le_refl _)) j hjt
          obtain ⟨cb, co, rfl, hcb, c0, c1⟩ := Span.row (hcnd.later hkw (Nat.le_refl _)) j (by omega)
          have HTK := Lib.hid (show hits cs (st.take (j + 1)) = inB st[j] (cs[j]'(by omega)).lo (cs[j]'(by omega)).hi by
            rw [List.take_succ_eq_append_getElem hjt, hits_snoc (by rw [List.length_take]; omega), hh]
            simp only [List.length_take, Nat.min_eq_left (Nat.le_of_lt hjt), Bool.true_and])
          obtain ⟨y, hy⟩ : ∃ x, x = st[j] := ⟨_, rfl⟩
          obtain ⟨c, hc⟩ : ∃ x, x = cs[j]'(by omega) := ⟨_, rfl⟩
          rw [← hy, ← hc] at HTK
          rw [← hy] at x0
          rw [← hc] at c0 c1
          clear hy hc hh
          have i0 : (0 : Int) ≤ (j : Int) := by omega
          have i1 : (j : Int) < (st.length : Int) := by omega
          have i2 : (j : Int) < (cs.length : Int) := by omega
          have k0 : ∀ w2, Kept wr w2 → w2.cell? ⟨Z.heap.size, 0, none⟩ = some (.slice (some ⟨cb, co, none⟩) cs.length cc) := fun w2 h => by simpa using (rx.keep h).cell 0
          have k1 : ∀ w2, Kept wr w2 → w2.cell? ⟨Z.heap.size, 1, none⟩ = some (.int .i64 ac) := fun w2 h => by simpa using (rx.keep h).cell 1
          have k2 : ∀ w2, Kept wr w2 → w2.cell? ⟨cb, co + j * 2, none⟩ = some (.int .i64 c.lo) := fun w2 h => by rw [h.cell (p := ⟨cb, co + j * 2, none⟩) hcb]; exact c0
          have k3 : ∀ w2, Kept wr w2 → w2.cell? ⟨cb, co + j * 2 + 1, none⟩ = some (.int .i64 c.hi) := fun w2 h => by rw [h.cell (p := ⟨cb, co + j * 2 + 1, none⟩) hcb]; exact c1
          have lx := rx.lt
          have hzw := hkz.size
          gi_wp2
          clear x0 c0 c1 rxc0 rxf0 rxc1 rxf1 rxl
          refine wpIn_wide.2 ?_
          cases hb : inB y c.lo c.hi
          · have HB := Lib.hid (show inB y c.lo c.hi = false from hb)
            have HF := Lib.hid (hits_fail (k := j + 1) (by rw [HTK.out]; exact hb))
            clear hb HTK
            go_region_held3 (fun w2 => Kept wr w2) (exact kpt) (first | (go_at_call 51; (with_reducible refine (f_rangedB c.lo c.hi y _ 3 _ ?_).mono ?_); (focus (first | (with_reducible refine Blk.drew (Blk.new' ?_); (first | rfl | (simp; done))) | (with_reducible refine Blk.new' ?_; (first | rfl | (simp; done))) | (exact blk))); rw [HB.out]; rintro z w2 ⟨rfl, hb2⟩) | fail)
            all_goals
              gi_wp2
              go_roundw
              case rel =>
                have hkf : Kept wr w2 := by (exact kpt)
                have hkZ : Kept Z w2 := Kept.drop hkz hkf
                exact ⟨k + 1, by omega, by go_num, by rw [HMS.out, HF.out]; simpa using abides_kept hJ HJ0.out hkZ, q0.keep hkZ, q1.keep hkZ, Kept.drop hkr hkZ, Nat.le_trans hzr hkZ.size⟩
              case measure => simp [intOf]; omega
          · have HB := Lib.hid (show inB y c.lo c.hi = true from hb)
            have HT := Lib.hid (show hits cs (st.take (j + 1)) = true by rw [HTK.out]; exact hb)
            clear hb HTK
            go_region_held3 (fun w2 => Kept wr w2) (exact kpt) (first | (go_at_call 51; (with_reducible refine (f_rangedB c.lo c.hi y _ 3 _ ?_).mono ?_); (focus (first | (with_reducible refine Blk.drew (Blk.new' ?_); (first | rfl | (simp; done))) | (with_reducible refine Blk.new' ?_; (first | rfl | (simp; done))) | (exact blk))); rw [HB.out]; rintro z w2 ⟨rfl, hb2⟩) | fail)
            all_goals
              gi_wp2
              go_roundw
              case rel =>
                have hkf : Kept wr w2 := by (exact kpt)
                exact ⟨j + 1, by omega, by go_num, HT.out, rx.keep hkf, Kept.drop hkz hkf⟩
              case measure => simp [intOf]; omega
        · obtain rfl : st.length = j := by omega
          rw [List.take_length] at hh
          obtain ⟨fn, tmps, assign, body, hy, hR⟩ := hY (matchTo (tbOf vs rs) st k) k wr (abides_kept hJ HJ0.out hkz) (HMT.out hh)
          have HR := Lib.hid hR
          have HH := Lib.hid hh
          have q0z := q0.keep hkz
          have q1z := q1.keep hkz
          clear hR hh
          gi_wp2
          first | refine HR.out.mono ?_ | refine ⟨fun _ => by omega, HR.out.mono ?_⟩
          clear hy
          rintro e W3 (⟨rfl, hJ3, hk3⟩ | ⟨rfl, hJx3⟩)
          · gi_wp2
            go_roundw
            case rel => exact ⟨k + 1, by omega, by go_num, by rw [HMS.out, HH.out]; exact hJ3, hk3.k0.trans q0z, hk3.k1.trans q1z, hkw.trans (hk3.below.mono hnw), Nat.le_trans hzr (Nat.le_trans hkz.size hk3.below.size)⟩
            case measure => simp [intOf]; omega
          · gi_wp2
            simp only [Exit.noGoto]
            refine bodyPost_ret (results_none rfl _ _ _) rfl ⟨⟨_, rfl⟩, .inr ⟨_, trivial, hJx3⟩⟩
    · obtain rfl : rs.length = k := by omega
      gi_wp2
      simp only [Exit.noGoto]
      go_end0
      exact ⟨⟨_, rfl⟩, .inl ⟨_, rfl, by have := HJ0.out; unfold matchL; rw [rows_len]; exact this⟩⟩


theorem f_firstE (vs : List Span) (va : Option Addr) (vc : Nat) (rs : List RowM) (ra : Option Addr) (rc : Nat) (hv : validB (tbOf vs rs) = true) (W : List Nat → Bool) (F : FuncId) (hF : Asks W F) (r : Option (List Int)) (hr : firstP (tbOf vs rs) W vs.length [] = r) (w : World) (ht : TabAt ⟨vs, va, vc, rs, ra, rc⟩ w) :
    Calls Try.prog 84 #[.agg #[.slice va vs.length vc, .slice ra rs.length rc], .slice none 0 0, .func (.func F) #[] #[]] w fun z w' => ∃ (a : Option Addr) (c : Nat), z = .returned (.slice a (outS r).length c) ∧ Row icell 1 w'.heap.size w' a (outS r) ∧ (outS r).length ≤ c ∧ c ≤ maxLen ∧ ((r = none ∧ a = none ∧ c = 0) ∨ (r.isSome = true ∧ a.isNone = false)) ∧ Kept w w' := by
  subst hr
  refine Calls.mono (f_first vs va vc rs ra rc hv W F hF vs.length w ht none 0 [] Row.nil (Nat.le_refl _) (Nat.zero_le _) (fun _ => rfl) (by simp)) ?_
  rintro z w' ⟨⟨a, c, rfl, h1, h2, h3, h4⟩, hb⟩
  exact ⟨a, c, rfl, h1, h2, h3, h4, hb⟩

theorem f_Twice (vs : List Span) (va : Option Addr) (vc : Nat) (rs : List RowM) (ra : Option Addr) (rc : Nat) (w : World) (ht : TabAt ⟨vs, va, vc, rs, ra, rc⟩ w) (hvl5 : vs.length ≤ 1000000) (hrl5 : rs.length ≤ 1000000) (hcl5 : ∀ x ∈ rs, x.r.conds.length ≤ 1000000) :
    Calls Try.prog 40 #[.agg #[.slice va vs.length vc, .slice ra rs.length rc]] w fun z w' => ∃ (a : Option Addr) (c : Nat) (s : List Int) (E i k : Int), TwRes (tbOf vs rs) E s i k ∧ z = .returned (.tuple #[.slice a s.length c, .int .i64 i, .int .i64 k, .int .i64 E]) ∧ Row icell 1 w'.heap.size w' a s ∧ s.length ≤ c ∧ c ≤ maxLen ∧ Kept w w' := by
  have htv : Row Span.cells 2 w.heap.size w va vs := ht.vars
  have hvm : vc ≤ maxLen := ht.vm
  have hrm : rc ≤ maxLen := ht.rm
  have hvl : vs.length ≤ vc := ht.vl
  have hrl : rs.length ≤ rc := ht.rl
  unfold maxLen at hvm hrm
  cases hv : validB (tbOf vs rs)
  · have HCK := Lib.hid (bad_check hv)
    have HV := Lib.hid hv
    clear hv
    go_enter Try.func40, Try.ntmps40
    go_wp2_with (go_at_call 42; (with_reducible refine (f_CheckRows vs va vc rs ra rc _ (ht.later (by (exact kpt))) hvl5 hrl5 hcl5).mono ?_); rw [HCK.out]; rintro z w1 ⟨rfl, hb1⟩; refine Blk.thru (b := w.heap.size) (arr := ?_) (t := ?_) ?_ hb1 ?_; rotate_left 2; (focus (exact blk)); intro r0; have r0c0 := r0.cell 0; have r0f0 := r0.free 0; have r0c1 := r0.cell 1; have r0f1 := r0.free 1; have r0l := r0.lt; simp at r0c0 r0c1)
    exact bodyPost_ret (v := .tuple #[.slice none 0 0, .int .i64 0, .int .i64 0, .int .i64 76]) (by simp [results, Try.results40, go_sem]) rfl ⟨none, 0, [], 76, 0, 0, .inl ⟨HV.out, rfl, rfl, rfl, rfl⟩, rfl, Row.nil, Nat.le_refl _, Nat.zero_le _, by (exact kpt)⟩
  · have HCK := Lib.hid (good_check hv)
    have hext := firstP_ext (valid_even hv) (valid_le hv) W2 vs.length [] (by show 0 + vs.length = vs.length; omega) (by show hits vs [] = true; cases vs <;> rfl)
    obtain ⟨q1, q2, q3, q4⟩ := valid_parts.1 hv
    have hn := inB_iff.1 q1
    rw [show (tbOf vs rs).vars = vs from rfl] at hn
    rw [rows_len] at q2
    have hr : rs.length ≤ 1000 := by omega
    have hn3 : 1 ≤ vs.length ∧ vs.length ≤ 3 := by omega
    have hce : ∀ x ∈ rs, x.r.conds.length = vs.length := fun x hx => (q4 x.r (mem_rowsT hx)).1
    have HV := Lib.hid hv
    obtain ⟨R, hR⟩ : ∃ R, R = firstP (tbOf vs rs) W2 vs.length [] := ⟨_, rfl⟩
    rw [← hR] at hext
    have HRR := Lib.hid hR.symm
    clear hR
    cases R with
    | none =>
      have HF := Lib.hid hext
      clear q1 q2 q3 q4 hn hv hce hext
      go_enter Try.func40, Try.ntmps40
      go_upto_region 5 with (first | (go_at_call 42; (with_reducible refine (f_CheckRows vs va vc rs ra rc _ (ht.later (by (exact kpt))) hvl5 hrl5 hcl5).mono ?_); rw [HCK.out]; rintro z w1 ⟨rfl, hb1⟩; refine Blk.thru (b := w.heap.size) (arr := ?_) (t := ?_) ?_ hb1 ?_; rotate_left 2; (focus (exact blk)); intro r0; have r0c0 := r0.cell 0; have r0f0 := r0.free 0; have r0c1 := r0.cell 1; have r0f1 := r0.free 1; have r0l := r0.lt; simp at r0c0 r0c1) | (go_at_call 84; (with_reducible refine (f_firstE vs va vc rs ra rc HV.out W2 _ asks2 none HRR.out _ (ht.later (by (exact kpt)))).mono ?_); rintro z w2 ⟨a2, c2, rfl, hr2, hc2, hm2, hcase, hb2⟩; refine Blk.thru (b := w.heap.size) (arr := ?_) (t := ?_) ?_ hb2 ?_; rotate_left 2; (focus (exact blk)); intro r0; have r0c0 := r0.cell 0; have r0f0 := r0.free 0; have r0c1 := r0.cell 1; have r0f1 := r0.free 1; have r0l := r0.lt; simp at r0c0 r0c1))
      obtain ⟨rfl, rfl⟩ : a2 = none ∧ c2 = 0 := by
        rcases hcase with h | ⟨h, _⟩
        · exact h.2
        · cases h
      have hs0 : ∀ w, (binOp .eql 51 (.slice none 0 0) (.slice none 0 0)).run Try.prog w = .ok (.bool true) w := fun w => Lib.run_eql_slice_nil w _ _ _ _ _ _ _ Try.underlying51
      simp only [outS, Option.getD_none, List.length_nil]
      clear hcase
      go_wp2
      exact bodyPost_ret (v := .tuple #[.slice none 0 0, .int .i64 0, .int .i64 0, .int .i64 6]) (by simp [results, Try.results40, go_sem]) rfl ⟨none, 0, [], 6, 0, 0, .inr ⟨HV.out, none, HF.out, rfl, rfl, rfl, rfl⟩, rfl, Row.nil, Nat.le_refl _, Nat.zero_le _, by (exact kpt)⟩
    | some s =>
      have hsl : s.length = vs.length := hext.1.1
      have hw2 : 1 < (matchL (tbOf vs rs) s).length := of_decide_eq_true hext.2.2.1
      have hmf := match_few (d := tbOf vs rs) s
      rw [rows_len] at hmf
      have HCS := Lib.hid (fun x hx => by rw [hce x hx]; omega : ∀ x ∈ rs, s.length ≤ x.r.conds.length)
      obtain ⟨i, hi⟩ : ∃ z, z = (natsI (matchL (tbOf vs rs) s))[0]'(by rw [natsI_len]; omega) := ⟨_, rfl⟩
      obtain ⟨k, hk⟩ : ∃ z, z = (natsI (matchL (tbOf vs rs) s))[1]'(by rw [natsI_len]; omega) := ⟨_, rfl⟩
      have HTW := Lib.hid (show TwRes (tbOf vs rs) 0 s i k from .inr ⟨HV.out, some s, hext, rfl, rfl, by rw [hi]; simp [natsI_len, show 0 < (matchL (tbOf vs rs) s).length by omega], by rw [hk]; simp [natsI_len, hw2]⟩)
      have HI := Lib.hid hi
      have HK1 := Lib.hid hk
      clear hext hi hk hsl hce q1 q2 q3 q4 hn hv
      refine (callsIn_wide (n := 6)).1 ?_
      refine callsIn_of_wp_marks Try.func40 rfl trivial ?_ rfl
      simp only [Try.ntmps40, List.size_toArray, List.length_cons, List.length_nil, Nat.reduceAdd, Nat.reduceSub, Array.replicate_succ, Array.replicate_zero, List.push_toArray, List.append_toArray, List.nil_append, List.cons_append]
      gi_wp2_with (first | (refine ⟨trivial, ?_⟩; gi_at_call 42; (refine (callsIn_wide.2 (f_CheckRows vs va vc rs ra rc _ (ht.later (by (exact kpt))) hvl5 hrl5 hcl5)).mono ?_); rw [HCK.out]; rintro z w1 ⟨rfl, hb1⟩; refine Blk.thru (b := w.heap.size) (arr := ?_) (t := ?_) ?_ hb1 ?_; rotate_left 2; (focus (exact blk)); intro r0; have r0c0 := r0.cell 0; have r0f0 := r0.free 0; have r0c1 := r0.cell 1; have r0f1 := r0.free 1; have r0l := r0.lt; simp at r0c0 r0c1) | (refine ⟨trivial, ?_⟩; gi_at_call 84; (refine (callsIn_wide.2 (f_firstE vs va vc rs ra rc HV.out W2 _ asks2 (some s) HRR.out _ (ht.later (by (exact kpt))))).mono ?_); rintro z w2 ⟨a2, c2, rfl, hr2, hc2, hm2, hcase, hb2⟩; refine Blk.thru (b := w.heap.size) (arr := ?_) (t := ?_) ?_ hb2 ?_; rotate_left 2; (focus (exact blk)); intro r0; have r0c0 := r0.cell 0; have r0f0 := r0.free 0; have r0c1 := r0.cell 1; have r0f1 := r0.free 1; have r0l := r0.lt; simp at r0c0 r0c1; simp only [outS, Option.getD_some] at hr2 hc2 ⊢; have h7 : a2.isNone = false := (by rcases hcase with h | h; exact absurd h.1 (by simp); exact h.2); have hs0 : ∀ w, (binOp .eql 51 (.slice a2 s.length c2) (.slice none 0 0)).run Try.prog w = .ok (.bool false) w := (fun w => by rw [Lib.run_eql_slice_nil w _ _ _ _ _ _ _ Try.underlying51, h7])) | (refine ⟨trivial, ?_⟩; gi_at_call 82; (refine (callsIn_wide.2 (f_matching vs va vc rs ra rc _ (ht.later (by (exact kpt))) a2 c2 s)).mono ?_); rintro z w4 ⟨rfl, rfl⟩))
      refine at_worldR (S := fun V => Boxed V w2.heap.size 51 (.slice none 0 0) ∧ Blk V (w2.heap.size + 1) #[.slice va vs.length vc, .slice ra rs.length rc] 88 ∧ Blk V (w2.heap.size + 1 + 1) #[.slice a2 s.length c2] 51 ∧ Kept w2 V) ⟨((Boxed.new _ _ _).alloc _).alloc _, by (exact blk), by (exact blk), by (exact kpt)⟩ ?_
      rintro V ⟨hbV, q0V, q1V, hkV⟩
      have hVs := hkV.size
      have h0l := q0V.lt
      have h1l := q1V.lt
      have hrr := hr
      have hk2 : Kept w w2 := by (exact kpt)
      clear r0 r0c0 r0f0 r0c1 r0f1 r0l hb1 hb2
      refine wpIn_rangeFunc_ownH (gf := 119) (lb := #[.pointer (some ⟨w2.heap.size + 1, 0, none⟩), .pointer (some ⟨w2.heap.size + 1 + 1, 0, none⟩)]) rfl (by omega) rfl trivial (enters_of Try.func119 (by kernel_rfl) rfl)
        (f_match1K vs va vc rs ra rc w2 (ht.later hk2) a2 c2 s hr2 hc2 hm2 hr HCS.out V hkV (w2.heap.size + 1) (w2.heap.size + 1 + 1) q0V q1V w2.heap.size (Nat.le_refl _) 5 (by omega)) KeptB.trans (KeptB.put hVs h0l h1l) (Below.refl _ _) (fun _ => rfl)
        (fun pre W => (∃ v, Boxed W w2.heap.size 51 v ∧ W.ownsRow w2.heap.size 3 1 v (pre).length ((natsI (pre)).flatMap icell) ∧ True) ∧ (Blk W (w2.heap.size + 1) #[.slice va vs.length vc, .slice ra rs.length rc] 88 ∧ Blk W (w2.heap.size + 1 + 1) #[.slice a2 s.length c2] 51) ∧ Kept w2 W ∧ V.heap.size ≤ W.heap.size)
        (fun _ _ _ => False)
        (OwnFrom.and ((holdsRow_own _ _ _ _ _ _ _ _).from _) (OwnFrom.and (OwnFrom.and (blk_from _ _ _ _) (blk_from _ _ _ _)) (OwnFrom.and (ownFrom_below (Nat.le_refl _) hkV.size) (fun _ _ _ _ hs hg _ => Nat.le_trans hs hg.size))))
        (fun _ _ _ _ _ hs _ _ => hs)
        ⟨⟨_, hbV, owns_nil (α := Int) (enc := icell), trivial⟩, ⟨q0V, q1V⟩, hkV, Nat.le_refl _⟩
        (fun x a' W => a' = { tmps := #[.agg #[.slice va vs.length vc, .slice ra rs.length rc], .pointer (some ⟨w.heap.size, 0, none⟩), .slice none 0 0, .int .i64 0, .int .i64 0, .int .i64 0, .int .i64 0, .slice a2 s.length c2, .pointer (some ⟨w2.heap.size, 0, none⟩), .int .i64 (x : Int), .agg #[.slice va vs.length vc, .slice ra rs.length rc], .int .i64 0, .int .i64 0, .bool false, undef, .agg #[.slice va vs.length vc, .slice ra rs.length rc], .slice a2 s.length c2, .slice a2 s.length c2, .bool false, .agg #[.slice va vs.length vc, .slice ra rs.length rc], .slice a2 s.length c2, .func (.func 119) #[] #[.pointer (some ⟨w2.heap.size + 1, 0, none⟩), .pointer (some ⟨w2.heap.size + 1 + 1, 0, none⟩)], .int .i64 (x : Int), undef, undef, undef, undef, undef, undef, undef, undef, undef, undef, undef], defers := [] })
        (fun x a' _ X Y row hs hg hr => hs)
        ?assign ?body ?done ?stop
      case assign =>
        rintro l pre x W K ⟨hL, hbb, hkw, hsz⟩ hK
        gi_wp2
        exact hK _ _ (keepsFrom_kept (Below.refl _ _) _) (KeptB.of_kept (Below.refl _ _) (by omega) (by omega) (by omega)) ⟨hL, hbb, hkw, hsz⟩ rfl
      case body =>
        rintro l pre x a' W hl _ ⟨⟨v, hbx, hown, -⟩, ⟨q0, q1⟩, hkw, hsz⟩ rfl hlen
        have hsW := hkw.size
        have hpl : pre.length ≤ 1000 := by omega
        have x0 := hbx.cell
        have x1 := hbx.frozen
        have x2 := hbx.lt
        have hown : W.ownsRow w2.heap.size 3 1 v pre.length ((natsI pre).flatMap icell) := hown
        gi_wp2_with (gi_at_builtin; obtain ⟨i0, hi, hz0, hz1, hz2⟩ := info_parts infoIntM; refine wpListIn_append_own _ rfl _ _ 51 rfl (w2.heap.size) 3 i0 (.int .i64 0) 1 8 Try.underlying51 hi hz0 hz1 hz2 rfl (by decide) _ _ _ rfl (hown.alloc _) ⟨_, 0, none⟩ 1 1 [.int .i64 (x : Int)] rfl rfl (cell_one_at (by simp) _ _) (fun x hx => by simp at hx; subst hx; rfl) (by unfold maxLen; omega) (by omega) (by simp only [World.size_alloc]; omega) ?_; intro v9 w9 hown9 hgrow9 hnil9; clear hi hz0 hz1 hz2; obtain ⟨g9, c9, rfl⟩ := ownsRow_succ hown9; obtain ⟨B1, B2, B3, B4, B5⟩ := Boxed.appended (n₀ := w2.heap.size) hbx (by decide) hown hsW (Nat.le_refl _) hown9 hgrow9; have z0 := Blk.other ((q0.alloc _).grown (hown.alloc _) (by decide) hgrow9) (a := ⟨w2.heap.size, 0, none⟩) (by first | (simp; done) | (simp; omega)) (.slice (some ⟨g9, 0, none⟩) (pre.length + 1) c9); have z1 := Blk.other ((q1.alloc _).grown (hown.alloc _) (by decide) hgrow9) (a := ⟨w2.heap.size, 0, none⟩) (by first | (simp; done) | (simp; omega)) (.slice (some ⟨g9, 0, none⟩) (pre.length + 1) c9); have y0 := B1.cell; have y1 := B1.frozen; have y2 := B1.lt)
        refine ⟨B4.from _, ⟨B5, z0.trans q0.symm, z1.trans q1.symm⟩, ⟨_, B2, ?_, trivial⟩, ⟨z0, z1⟩, hkw.trans B5, ?_⟩
        · rw [natsI_snoc, List.flatMap_append, List.length_append]; exact B3
        · have h9 := hgrow9.size
          simp only [World.size_alloc] at h9
          have e9 : ∀ (a : Addr) (u : Value), (w9.setCell a u).heap.size = w9.heap.size := fun a u => by simp [World.setCell]
          rw [e9]
          omega
      case done =>
        rintro Dd ys X hD rfl ⟨⟨v, hbx, hown, -⟩, ⟨q0, q1⟩, hkw, hsz⟩ hK
        obtain ⟨ad5, cp5, rfl, hrw5, hcp5, hcm5⟩ := owns_row (enc := icell) (k := 1) (xs := natsI (matchL (tbOf vs rs) s)) (fun _ => rfl) (by rw [natsI_len]; exact hown)
        have x0 := hbx.cell
        have x1 := hbx.frozen
        have x2 := hbx.lt
        obtain ⟨b5, o5, rfl, hbl5, c0⟩ := int_row hrw5 0 (by rw [natsI_len]; omega)
        obtain ⟨b6, o6, e6, hbl6, c1⟩ := int_row hrw5 1 (by rw [natsI_len]; omega)
        simp only [Option.some.injEq, Addr.mk.injEq, and_true] at e6
        obtain ⟨rfl, rfl⟩ := e6
        rw [← HI.out] at c0
        rw [← HK1.out] at c1
        simp only [natsI_len] at x0
        simp only [Nat.add_zero] at c0
        have l1 : (0 : Int) < ((matchL (tbOf vs rs) s).length : Int) := by omega
        have l2 : (1 : Int) < ((matchL (tbOf vs rs) s).length : Int) := by omega
        have HK := Lib.hid hK
        clear hK hrw5 hown
        gi_wp2
        refine wpIn_wide.2 ?_
        go_region
        all_goals
          gi_wp2
          refine leaves_marks (B := w2.heap.size) (fun W => Kept w2 W) (ownFrom_below (β := Unit) (Nat.le_refl _) (Nat.le_refl _)) ?_ [Dd] _ ⟨by simp, fun E hE => ?_⟩ (by (exact kpt))
          · intro W5 hk5
            exact ⟨_, by simp [results, Try.results40, go_sem], a2, c2, s, 0, i, k, HTW.out, rfl, hr2.later hk5 (Nat.le_refl _), hc2, hm2, Kept.drop hk2 hk5⟩
          · obtain rfl : E = Dd := by simpa using hE
            exact ⟨by omega, HK.out⟩
      case stop =>
        rintro D c pre W _ _ h _
        exact h.elim

end Go.Proofs.Ytacbkbilbmkjnaa

/-
  MastTurns: turned sheds and manned lines are the same in the program and in the reference: for every input.
-/
namespace Go.Proofs.Ytacbkbilbmkjnaa
open Go.RowKit Bal Bal.Trim Bal.Mast
set_option linter.unusedVariables false
set_option linter.unusedSimpArgs false
set_option maxHeartbeats 4000000
set_option maxRecDepth 10000

theorem r_SameInts (a b : Option Addr) (c d : Nat) (xs : List Int) (w : World) (hx : Row icell 1 w.heap.size w a xs) (hy : Row icell 1 w.heap.size w b xs) (hc : xs.length ≤ c) (hd : xs.length ≤ d) (hM : c ≤ maxLen) (hN : d ≤ maxLen) :
    Calls Try.prog 22 #[.slice a xs.length c, .slice b xs.length d] w fun e w' => e = .returned (.bool true) ∧ Kept w w' := by
  unfold maxLen at hM hN
  go_enter Try.func22, Try.ntmps22
  go_wp2
  go_loopw [5] (fun i wr => ∃ k : Nat, k ≤ xs.length ∧ i = .int .i64 k ∧ Kept w wr) (fun i _ => xs.length - (intOf i).toNat)
  case atStart => exact ⟨0, Nat.zero_le _, rfl, Below.refl _ _⟩
  case round =>
    obtain ⟨k, hk, rfl, hkk⟩ := hrel
    by_cases hlt : k < xs.length
    · obtain ⟨b1, o1, rfl, hb1, h0⟩ := int_row (hx.later hkk (Nat.le_refl _)) k hlt
      obtain ⟨b2, o2, rfl, hb2, j0⟩ := int_row (hy.later hkk (Nat.le_refl _)) k hlt
      obtain ⟨x, hx0⟩ : ∃ x, x = xs[k] := ⟨_, rfl⟩
      rw [← hx0] at h0 j0
      clear hx0
      have x0 := fun g : Later wr => g.some h0
      have x1 := fun g : Later wr => g.some j0
      go_upto_region 6 with fail
      refine Later.region (by kernel_rfl) (by kernel_rfl) ?_
      repeat (first | go_big_quiet_skip | (go_big_quiet_want; go_big_quiet_op; first | go_big_quiet_on | (apply Exists.intro; refine ⟨fun g => ?_, ?_⟩; (focus (first | fail)); go_big_quiet_on)))
      refine wpQuiet_nil ?_
      intro gg
      have hkgg := Kept.drop hkk gg.ok
      go_wp2
      go_roundw
      case rel => exact ⟨k + 1, by omega, by go_num, hkgg⟩
      case measure => simp [intOf]; omega
    · obtain rfl : k = xs.length := by omega
      go_wp2
      go_ret
      exact ⟨rfl, hkk⟩

theorem owns_made {α : Type} {enc : α → List Value} {base k n : Nat} {e : TypeId} {w : World} (hn : n = w.heap.size) (hb : base ≤ w.heap.size) : (w.alloc (.cells #[] e)).ownsRow base e k (.slice (some ⟨n, 0, none⟩) 0 0) ([] : List α).length (([] : List α).flatMap enc) := by
  subst hn
  refine ⟨by simp, .inr ⟨w.heap.size, 0, #[], rfl, hb, Blk.new, Nat.le_refl _, by simp [maxLen], by simp, by simp⟩⟩

end Go.Proofs.Ytacbkbilbmkjnaa

/-
  MastDecides: the law, walked.
-/
namespace Go.Proofs.Ytacbkbilbmkjnaa
open Go.RowKit Bal Bal.Trim Bal.Mast
set_option linter.unusedVariables false
set_option linter.unusedSimpArgs false
set_option maxHeartbeats 4000000
set_option maxRecDepth 20000

theorem law_MastDecides (vs : List Span) (va : Option Addr) (vc : Nat) (rs : List RowM) (ra : Option Addr) (rc : Nat) (w : World) (ht : TabAt ⟨vs, va, vc, rs, ra, rc⟩ w) (sa : Option Addr) (sc : Nat) (st : List Int) (hs : Row icell 1 w.heap.size w sa st) (hsl : st.length ≤ sc) (hsm : sc ≤ maxLen) :
    Calls Try.prog 8 #[.agg #[.slice va vs.length vc, .slice ra rs.length rc], .slice sa st.length sc] w fun z w' => z = .returned (.bool true) ∧ Kept w w' := by
  cases hg : greatR (tbOf vs rs)
  · have HG := Lib.hid hg
    have hgr := hg
    unfold greatR at hgr
    simp only [Bool.or_eq_false_iff, Bool.and_eq_false_iff, decide_eq_false_iff_not, List.any_eq_false, decide_eq_true_eq] at hgr
    rw [rows_len, show (tbOf vs rs).vars = vs from rfl] at hgr
    have hvl5 : vs.length ≤ 1000000 := by omega
    have hrl5 : rs.length ≤ 1000000 := by omega
    have hcl5 : ∀ x ∈ rs, x.r.conds.length ≤ 1000000 := fun x hx => by have := hgr.2.1 x.r (mem_rowsT hx); omega
    clear hgr hg
    by_cases h20 : 20 < st.length
    · go_enter Try.func8, Try.ntmps8
      go_wp2_with (go_at_call 35; (with_reducible refine (r_GreatRows vs va vc rs ra rc _ (ht.later (by (exact kpt)))).mono ?_); rw [HG.out]; rintro z w1 ⟨rfl, hb1⟩; refine Blk.thru (b := w.heap.size) (arr := ?_) (t := ?_) ?_ hb1 ?_; rotate_left 2; (focus (exact blk)); intro r0; have r0c0 := r0.cell 0; have r0f0 := r0.free 0; have r0c1 := r0.cell 1; have r0f1 := r0.free 1; have r0l := r0.lt; simp at r0c0 r0c1)
      exact bodyPost_ret (v := .bool true) (by simp [results, Try.results8, go_sem]) rfl ⟨rfl, by (exact kpt)⟩
    · have hst5 : st.length ≤ 1000 := by omega
      obtain ⟨D1, hD1⟩ : ∃ x, (decR (tbOf vs rs) st).1 = x := ⟨_, rfl⟩
      obtain ⟨D2, hD2⟩ : ∃ x, (decR (tbOf vs rs) st).2 = x := ⟨_, rfl⟩
      have HD1 := Lib.hid hD1
      have HD2 := Lib.hid hD2
      clear hD1 hD2
      go_enter Try.func8, Try.ntmps8
      go_upto_region 9 with (first | (go_at_call 35; (with_reducible refine (r_GreatRows vs va vc rs ra rc _ (ht.later (by (exact kpt)))).mono ?_); rw [HG.out]; rintro z w1 ⟨rfl, hb1⟩; refine Blk.thru (b := w.heap.size) (arr := ?_) (t := ?_) ?_ hb1 ?_; rotate_left 2; (focus (exact blk)); intro r0; have r0c0 := r0.cell 0; have r0f0 := r0.free 0; have r0c1 := r0.cell 1; have r0f1 := r0.free 1; have r0l := r0.lt; simp at r0c0 r0c1) | (go_at_call 36; (with_reducible refine (f_Decide vs va vc rs ra rc _ (ht.later (by (exact kpt))) sa sc st (hs.later (by (exact kpt)) (Nat.le_refl _)) hsl hsm hvl5 hrl5 hcl5 hst5).mono ?_); rw [HD1.out, HD2.out]; rintro z w2 ⟨rfl, hb2⟩; refine Blk.thru (b := w.heap.size) (arr := ?_) (t := ?_) ?_ hb2 ?_; rotate_left 2; (focus (exact blk)); intro r0; have r0c0 := r0.cell 0; have r0f0 := r0.free 0; have r0c1 := r0.cell 1; have r0f1 := r0.free 1; have r0l := r0.lt; simp at r0c0 r0c1) | (go_at_call 37; (with_reducible refine (r_Decide vs va vc rs ra rc _ (ht.later (by (exact kpt))) sa sc st (hs.later (by (exact kpt)) (Nat.le_refl _)) hsl hsm hvl5 hrl5 hcl5 hst5).mono ?_); rw [HD1.out, HD2.out]; rintro z w3 ⟨rfl, hb3⟩; refine Blk.thru (b := w.heap.size) (arr := ?_) (t := ?_) ?_ hb3 ?_; rotate_left 2; (focus (exact blk)); intro r0; have r0c0 := r0.cell 0; have r0f0 := r0.free 0; have r0c1 := r0.cell 1; have r0f1 := r0.free 1; have r0l := r0.lt; simp at r0c0 r0c1) | (go_at_call 38; (with_reducible refine (f_Gap vs va vc rs ra rc _ (ht.later (by (exact kpt))) hvl5 hrl5 hcl5).mono ?_); rintro z w4 ⟨ag, cg, sg, eg, hG, rfl, hrg, hcg, hmg, hb4⟩; refine Blk.thru (b := w.heap.size) (arr := ?_) (t := ?_) ?_ hb4 ?_; rotate_left 2; (focus (exact blk)); intro r0; have r0c0 := r0.cell 0; have r0f0 := r0.free 0; have r0c1 := r0.cell 1; have r0f1 := r0.free 1; have r0l := r0.lt; simp at r0c0 r0c1) | (go_at_call 39; (with_reducible refine (r_Gap vs va vc rs ra rc _ (ht.later (by (exact kpt))) hvl5 hrl5 hcl5).mono ?_); rintro z w5 ⟨vh, sh, eh, hH, rfl, hoh, hb5⟩; obtain ⟨rfl, rfl⟩ := gap_one hG hH; obtain ⟨ah, ch, rfl, hrh, hch, hmh⟩ := owns_row (enc := icell) (k := 1) (fun _ => rfl) hoh; refine Blk.thru (b := w.heap.size) (arr := ?_) (t := ?_) ?_ hb5 ?_; rotate_left 2; (focus (exact blk)); intro r0; have r0c0 := r0.cell 0; have r0f0 := r0.free 0; have r0c1 := r0.cell 1; have r0f1 := r0.free 1; have r0l := r0.lt; simp at r0c0 r0c1) | (go_at_call 40; (with_reducible refine (f_Twice vs va vc rs ra rc _ (ht.later (by (exact kpt))) hvl5 hrl5 hcl5).mono ?_); rintro z w6 ⟨at_, ct, s6, e6, i6, k6, hT, rfl, hrt, hct, hmt, hb6⟩; refine Blk.thru (b := w.heap.size) (arr := ?_) (t := ?_) ?_ hb6 ?_; rotate_left 2; (focus (exact blk)); intro r0; have r0c0 := r0.cell 0; have r0f0 := r0.free 0; have r0c1 := r0.cell 1; have r0f1 := r0.free 1; have r0l := r0.lt; simp at r0c0 r0c1) | (go_at_call 41; (with_reducible refine (r_Twice vs va vc rs ra rc _ (ht.later (by (exact kpt))) hvl5 hrl5 hcl5).mono ?_); rintro z w7 ⟨vu, su, eu, iu, ku, hU, rfl, hou, hb7⟩; obtain ⟨rfl, rfl, rfl, rfl⟩ := tw_one hT hU; obtain ⟨au, cu, rfl, hru, hcu, hmu⟩ := owns_row (enc := icell) (k := 1) (fun _ => rfl) hou; refine Blk.thru (b := w.heap.size) (arr := ?_) (t := ?_) ?_ hb7 ?_; rotate_left 2; (focus (exact blk)); intro r0; have r0c0 := r0.cell 0; have r0f0 := r0.free 0; have r0c1 := r0.cell 1; have r0f1 := r0.free 1; have r0l := r0.lt; simp at r0c0 r0c1))
      refine at_world (S := fun W => Blk W w.heap.size #[.slice va vs.length vc, .slice ra rs.length rc] 88 ∧ (Row icell 1 W.heap.size W ag sg ∧ Row icell 1 W.heap.size W ah sg ∧ Row icell 1 W.heap.size W at_ s6 ∧ Row icell 1 W.heap.size W au s6) ∧ Kept w W) ⟨r0, ⟨hrg.later (by (exact kpt)) (Nat.le_refl _), hrh.later (by (exact kpt)) (Nat.le_refl _), hrt.later (by (exact kpt)) (Nat.le_refl _), hru.later (by (exact kpt)) (Nat.le_refl _)⟩, by (exact kpt)⟩ ?_
      clear r0 r0c0 r0c1 r0f0 r0f1 r0l
      rintro W ⟨r0, ⟨z1, z2, z3, z4⟩, hk⟩
      have r0c0 := fun g : Later W => (r0.later g).cell 0
      have r0f0 := fun g : Later W => (r0.later g).free 0
      have r0c1 := fun g : Later W => (r0.later g).cell 1
      have r0f1 := fun g : Later W => (r0.later g).free 1
      have r0l := fun g : Later W => (r0.later g).lt
      simp at r0c0 r0c1
      have HCf := Lib.hid (fun (V : World) (hV : Kept W V) => f_CheckRows vs va vc rs ra rc V (ht.later (Kept.drop hk hV)) hvl5 hrl5 hcl5)
      have HCr := Lib.hid (fun (V : World) (hV : Kept W V) => r_CheckRows vs va vc rs ra rc V (ht.later (Kept.drop hk hV)) hvl5 hrl5 hcl5)
      have HS1 := Lib.hid (fun (V : World) (hV : Kept W V) => r_SameInts ag ah cg ch sg V (z1.later hV (Nat.le_refl _)) (z2.later hV (Nat.le_refl _)) hcg hch hmg hmh)
      have HS2 := Lib.hid (fun (V : World) (hV : Kept W V) => r_SameInts at_ au ct cu s6 V (z3.later hV (Nat.le_refl _)) (z4.later hV (Nat.le_refl _)) hct hcu hmt hmu)
      refine Later.region (by kernel_rfl) (by kernel_rfl) ?_
      repeat (first | go_big_quiet_skip | (go_big_quiet_want; go_big_quiet_op; first | go_big_quiet_on | (apply Exists.intro; refine ⟨fun g_ => ?_, ?_⟩; (focus (first | (go_at_call 42; with_reducible exact Later.call (HCf.out _ g_.ok)) | (go_at_call 43; with_reducible exact Later.call (HCr.out _ g_.ok)) | (go_at_call 22; with_reducible exact Later.call (HS1.out _ g_.ok)) | (go_at_call 22; with_reducible exact Later.call (HS2.out _ g_.ok)))); go_big_quiet_on)))
      refine wpQuiet_nil ?_
      intro gg
      have hkg := Kept.drop hk gg.ok
      go_wp2
      go_ret
      exact ⟨rfl, by (exact kpt)⟩
  · have HG := Lib.hid hg
    clear hg
    go_enter Try.func8, Try.ntmps8
    go_wp2_with (go_at_call 35; (with_reducible refine (r_GreatRows vs va vc rs ra rc _ (ht.later (by (exact kpt)))).mono ?_); rw [HG.out]; rintro z w1 ⟨rfl, hb1⟩; refine Blk.thru (b := w.heap.size) (arr := ?_) (t := ?_) ?_ hb1 ?_; rotate_left 2; (focus (exact blk)); intro r0; have r0c0 := r0.cell 0; have r0f0 := r0.free 0; have r0c1 := r0.cell 1; have r0f1 := r0.free 1; have r0l := r0.lt; simp at r0c0 r0c1)
    exact bodyPost_ret (v := .bool true) (by simp [results, Try.results8, go_sem]) rfl ⟨rfl, by (exact kpt)⟩

end Go.Proofs.Ytacbkbilbmkjnaa

/-
  Decision tables that came in, opened.
-/
namespace Go.Proofs.Ytacbkbilbmkjnaa
open Go.RowKit Go.ChangeShapes Go.WideShapes Go.ChangeAt Bal Bal.Trim Bal.Mast
set_option linter.unusedVariables false
set_option maxRecDepth 100000

theorem trod_fieldH {H : Type} {enc : TypeId × Value → H} {P : Program} {w : World} {base fuel : Nat} {spare : Nat → Bool} {held : Bool} {fs : Array Field} {cs : List Value} {xs : List (DataW H × List MemPlace)} (hxl : xs.length = fs.size)
    (hg : ∀ (i : Nat) (f : Field), fs[i]? = some f → DataW.trod enc P w base spare held fuel f.type ((cs.drop f.offset).take (P.cellsOf f.type)) = xs[i]?) (i : Nat) (f : Field) (hi : fs[i]? = some f) :
    ∃ x, DataW.trod enc P w base spare held fuel f.type ((cs.drop f.offset).take (P.cellsOf f.type)) = some x := by
  have hlt : i < fs.size := (Array.getElem?_eq_some_iff.1 hi).1
  refine ⟨xs[i]'(by omega), ?_⟩
  rw [hg i f hi]
  exact List.getElem?_eq_getElem (by omega)
/-- a slice whose elements are known by what their reading shows -/
theorem open_rows {H : Type} {enc : TypeId × Value → H} {P : Program} {w : World} {base fuel : Nat} {spare : Nat → Bool} {held : Bool} {t e : TypeId} {cs : List Value} {x : DataW H × List MemPlace} {ok : List Value → Prop} {k : Nat}
    (hok : ∀ q cs x, DataW.trod enc P w base spare held q e cs = some x → ok cs) (hlen : ∀ cs, ok cs → cs.length = k) (ht : P.underlying t = some (.slice e)) (hk : P.cellsOf e = k) (hne : 0 < k)
    (h : DataW.trod enc P w base spare held fuel t cs = some x) :
    ∃ (a : Option Addr) (cap : Nat) (xs : List (List Value)), cs = [.slice a xs.length cap] ∧ xs.length ≤ cap ∧ cap ≤ maxLen ∧ Row id k w.heap.size w a xs ∧ (∀ x ∈ xs, ok x) ∧ (a = none → cap = 0) := by
  rcases Go.Deep.open_slice ht h with ⟨rfl, _⟩ | ⟨a, len, cap, m, q, D, Pl, rfl, hb, hl, hm, hmm, _, hi⟩
  · exact ⟨none, 0, [], rfl, by simp, by simp [maxLen], Row.nil, by simp, fun _ => rfl⟩
  · have hlm : len ≤ m := by subst hmm; split <;> omega
    obtain ⟨f, hf⟩ := Go.Deep.choose_lt (n := len) (p := fun i cs' => w.cells? base (a.add (i * P.cellsOf e)) (P.cellsOf e) = some cs' ∧ DataW.trod enc P w base spare held q e cs' = some (D i, Pl i)) (fun i hil => hi i (by omega))
    have hfl : ∀ i, i < len → (f i).length = k := fun i hil => hlen _ (hok _ _ _ (hf i hil).2)
    refine ⟨some a, cap, (List.range len).map f, by simp, by simpa using hl, hm, ?_, ?_, by simp⟩
    · intro i y hy
      have hil : i < len := by
        have := (List.getElem?_eq_some_iff.1 hy).1
        simpa using this
      simp [hil] at hy
      subst hy
      have hsp : a.spot = none := by
        obtain ⟨hc, ht'⟩ := hf 0 (by omega)
        have hl0 := hfl 0 (by omega)
        obtain ⟨_, hcl, hat⟩ := World.cells?_some hc
        have h1 := hat 0 (by omega)
        have hv : (f 0)[0]? = some ((f 0)[0]'(by omega)) := List.getElem?_eq_getElem (by omega)
        rw [hv] at h1
        have := World.cell?_spot h1
        simpa [Addr.add] using this
      obtain ⟨ab, ao, asp⟩ := a
      simp at hsp
      subst hsp
      obtain ⟨hc, ht'⟩ := hf i hil
      have hli := hfl i hil
      obtain ⟨_, hcl, hat⟩ := World.cells?_some hc
      have hat' : ∀ j, j < k → w.cell? ⟨ab, ao + i * k + j, none⟩ = (f i)[j]? := by
        intro j hj
        have h1 := hat j (by omega)
        rw [Go.Deep.add_add, hk] at h1
        rw [← h1]
        congr 1
        unfold Addr.add
        split
        · rename_i h0
          have h3 : ao + i * k + j = ao := by omega
          rw [h3]
        · simp [Nat.add_assoc]
      refine ⟨ab, ao, rfl, ?_, fun j v hj => ?_⟩
      · have h0 := hat' 0 hne
        have hv : (f i)[0]? = some ((f i)[0]'(by omega)) := List.getElem?_eq_getElem (by omega)
        rw [hv] at h0
        rcases Nat.lt_or_ge ab w.heap.size with h' | h'
        · exact h'
        · simp [World.cell?, Array.getElem?_eq_none h'] at h0
      · have hjl : j < (f i).length := (List.getElem?_eq_some_iff.1 hj).1
        rw [hat' j (by omega)]
        exact hj
    · intro y hy
      simp at hy
      obtain ⟨i, hil, rfl⟩ := hy
      exact hok _ _ _ (hf i hil).2
theorem decodeH {α : Type} {enc : α → List Value} {ok : List Value → Prop} {wf : α → Prop} (hdec : ∀ cs, ok cs → ∃ x : α, cs = enc x ∧ wf x) : ∀ (xs : List (List Value)), (∀ x ∈ xs, ok x) → ∃ ys : List α, xs = ys.map enc ∧ ∀ y ∈ ys, wf y
  | [], _ => ⟨[], rfl, by simp⟩
  | c :: cs, h => by
    obtain ⟨y, rfl, hy⟩ := hdec c (h c (by simp))
    obtain ⟨ys, rfl, hys⟩ := decodeH hdec cs (fun x hx => h x (by simp [hx]))
    exact ⟨y :: ys, rfl, by simpa using ⟨hy, hys⟩⟩

theorem Row.of_mapM {α : Type} {enc : α → List Value} {k B : Nat} {w : World} {a : Option Addr} {xs : List α} (h : Row id k B w a (xs.map enc)) : Row enc k B w a xs := by
  intro i x hx
  obtain ⟨b, off, h1, h2, h3⟩ := h i (enc x) (by simp [hx])
  exact ⟨b, off, h1, h2, h3⟩
def RowOk (w : World) (x : RowM) : Prop := Row Span.cells 2 w.heap.size w x.ad x.r.conds ∧ x.r.conds.length ≤ x.cap ∧ x.cap ≤ maxLen
theorem open_rowM {H : Type} {enc : TypeId × Value → H} {w : World} {base fuel : Nat} {spare : Nat → Bool} {held : Bool} {cs : List Value} {x : DataW H × List MemPlace} (h : DataW.trod enc Try.prog w base spare held fuel 143 cs = some x) :
    ∃ g : RowM, cs = g.cells ∧ RowOk w g := by
  obtain ⟨zs, n, _, _, hcl, hxl, hg⟩ := DataW.trod_struct Try.underlying143 h
  have k1 : Try.prog.cellsOf 3 = 1 := by kernel_rfl
  have k2 : Try.prog.cellsOf 43 = 1 := by kernel_rfl
  have k6 : Try.prog.cellsOf 143 = 2 := by kernel_rfl
  obtain ⟨x0, h0⟩ := trod_fieldH hxl hg 0 _ rfl
  obtain ⟨x1, h1⟩ := trod_fieldH hxl hg 1 _ rfl
  have g0 : DataW.trod enc Try.prog w base spare held n 43 ((cs.drop 0).take (Try.prog.cellsOf 43)) = some x0 := h0
  have g1 : DataW.trod enc Try.prog w base spare held n 3 ((cs.drop 1).take (Try.prog.cellsOf 3)) = some x1 := h1
  rw [k2] at g0
  rw [k1] at g1
  obtain ⟨a, c, xs, e0, hl2, hm2, row2, _, _⟩ := open_typed (n := 4) (fun _ h => Span.of_leaves h) Try.underlying43 (by kernel_rfl) (by kernel_rfl) (by decide) g0
  obtain ⟨q1, e1, _, _⟩ := DataW.trod_int Try.underlying3 g1
  refine ⟨⟨⟨xs, q1⟩, a, c⟩, ?_, row2, hl2, hm2⟩
  rw [k6] at hcl
  match cs, hcl with
  | [c0, c1], _ =>
    simp at e0 e1
    simp [RowM.cells, e0, e1]
theorem open_decisions {H : Type} {enc : TypeId × Value → H} {w : World} {base : Nat} {spare : Nat → Bool} {held : Bool} {v : Value} {d : DataW H} {ps : List MemPlace} {r : Reach} {b0 : Nat}
    (hval : Value.okWide Try.prog w r b0 88 v) (hd : DataW.Trod enc Try.prog w base spare held 88 v d ps) :
    ∃ (vs : List Span) (va : Option Addr) (vc : Nat) (rs : List RowM) (ra : Option Addr) (rc : Nat), v = .agg #[.slice va vs.length vc, .slice ra rs.length rc] ∧ TabAt ⟨vs, va, vc, rs, ra, rc⟩ w := by
  obtain ⟨cs, rfl, hsz⟩ := okWide_struct Try.underlying88 hval
  obtain ⟨fuel, hf⟩ := hd
  obtain ⟨zs, n, _, _, hcl, hxl, hg⟩ := DataW.trod_struct Try.underlying88 hf
  have hc3 : Try.prog.cellsOf 88 = 2 := by kernel_rfl
  have k1 : Try.prog.cellsOf 43 = 1 := by kernel_rfl
  have k2 : Try.prog.cellsOf 86 = 1 := by kernel_rfl
  obtain ⟨x0, h0⟩ := trod_fieldH hxl hg 0 _ rfl
  obtain ⟨x1, h1⟩ := trod_fieldH hxl hg 1 _ rfl
  have g0 : DataW.trod enc Try.prog w base spare held n 43 (((Value.agg cs).cells.toList.drop 0).take (Try.prog.cellsOf 43)) = some x0 := h0
  have g1 : DataW.trod enc Try.prog w base spare held n 86 (((Value.agg cs).cells.toList.drop 1).take (Try.prog.cellsOf 86)) = some x1 := h1
  clear h0 h1
  rw [k1] at g0
  rw [k2] at g1
  obtain ⟨aw, cw, ws, e0, wl, wm, wrow, _, _⟩ := open_typed (n := 4) (fun _ h => Span.of_leaves h) Try.underlying43 (by kernel_rfl) (by kernel_rfl) (by decide) g0
  obtain ⟨ag, cg, gs0, e1, gl, gm, grow, gok, _⟩ := open_rows (ok := fun cs => ∃ g : RowM, cs = g.cells ∧ RowOk w g) (k := 2) (fun q cs x h => open_rowM h) (fun cs ⟨g, hg, _⟩ => by rw [hg]; rfl) Try.underlying86 (by kernel_rfl) (by decide) g1
  obtain ⟨gs, rfl, gw⟩ := decodeH (wf := RowOk w) (fun cs h => h) gs0 gok
  rw [List.length_map] at e1 gl
  refine ⟨ws, aw, cw, gs, ag, cg, ?_, ⟨wrow, Row.of_mapM grow, fun g hg => (gw g hg).1, wl, wm, gl, gm, fun g hg => (gw g hg).2⟩⟩
  obtain ⟨l⟩ := cs
  rw [hc3] at hsz
  match l, hsz with
  | [c0, c1], _ =>
    simp [Value.cells] at e0 e1
    simp [e0, e1]
end Go.Proofs.Ytacbkbilbmkjnaa

/-
  Slices of numbers that come in. No program in sight.
-/
namespace Bal.Trim
open Go Go.RowKit Go.ChangeShapes Go.WideShapes
set_option linter.unusedVariables false
theorem int_of_leaves {cs : List Value} (h : LeavesOk [.int .i64] cs) : ∃ x : Int, cs = icell x ∧ (Lit.int .i64 x).wf = true := by
  obtain ⟨hl, h⟩ := h
  match cs, hl with
  | [v0], _ =>
    obtain ⟨_, e0, n0, rfl, w0⟩ := h 0 (.int .i64) rfl; simp at e0; subst e0
    exact ⟨n0, rfl, w0⟩
end Bal.Trim

/-
  The words of a string that is known sign by sign: for the facts on how a program was made. No program in sight.
-/
namespace Bal
open Go
theorem words_cons : ∀ (w r : List Char), w.all (fun c => c != Char.ofNat 32) = true → wordsSigns (w ++ Char.ofNat 32 :: r) = w :: wordsSigns r
  | [], r, _ => by simp [wordsSigns]
  | c :: w, r, h => by
    simp only [List.all_cons, Bool.and_eq_true, bne_iff_ne, ne_eq] at h
    obtain ⟨h1, h2⟩ := h
    have ih := words_cons w r h2
    rw [List.cons_append]
    simp [wordsSigns, ih]
theorem words_last : ∀ (w : List Char), w.all (fun c => c != Char.ofNat 32) = true → wordsSigns w = [w]
  | [], _ => by simp [wordsSigns]
  | c :: w, h => by
    simp only [List.all_cons, Bool.and_eq_true, bne_iff_ne, ne_eq] at h
    obtain ⟨h1, h2⟩ := h
    simp [wordsSigns, words_last w h2]
/-! A program that was cut, behind a harness. (With the program a variable the kernel never unfolds it.) -/
section
variable {P : Program} {w0 w1 : List Char} {r : List (List Char)}
theorem behind_cut (h : wordsSigns P.initOrder.toList = w0 :: w1 :: [Char.ofNat 99, Char.ofNat 117, Char.ofNat 116] :: r) (h0 : w0 = "harness".toList) (h1 : isSumSigns w1 = true) : behindMainWord (wordsSigns P.initOrder.toList) = [Char.ofNat 99, Char.ofNat 117, Char.ofNat 116] :: r := by
  rw [h]
  have e : (w0 == "harness".toList) = true := by rw [h0]; simp
  simp only [behindMainWord, e, h1, Bool.true_or, Bool.and_self, if_true]
theorem make_cut (h : wordsSigns P.initOrder.toList = w0 :: w1 :: [Char.ofNat 99, Char.ofNat 117, Char.ofNat 116] :: r) (h0 : w0 = "harness".toList) (h1 : isSumSigns w1 = true) : P.make = some .cut := by
  unfold Program.make
  rw [behind_cut h h0 h1]
  rfl
theorem lifts_cut (h : wordsSigns P.initOrder.toList = w0 :: w1 :: [Char.ofNat 99, Char.ofNat 117, Char.ofNat 116] :: r) (h0 : w0 = "harness".toList) (h1 : isSumSigns w1 = true) : P.liftsFinal = false := by
  unfold Program.liftsFinal Program.headLifts
  rw [behind_cut h h0 h1]
  rfl
theorem enter_cut (h : wordsSigns P.initOrder.toList = w0 :: w1 :: [Char.ofNat 99, Char.ofNat 117, Char.ofNat 116] :: r) (h0 : w0 = "harness".toList) (h1 : isSumSigns w1 = true) (l : P.laysLater = false) (b : P.bearsReflect = false) (d : P.doorFits [] = true) : P.mayEnter = true := by
  unfold Program.mayEnter
  rw [behind_cut h h0 h1]
  have e : stripLifts liftWords ([Char.ofNat 99, Char.ofNat 117, Char.ofNat 116] :: r) = ([], [Char.ofNat 99, Char.ofNat 117, Char.ofNat 116] :: r) := rfl
  simp only [e, l, b, d]
  rfl
end
end Bal

/-
  How the program was made: its words, and what follows for every row of the seat.
-/
namespace Go.Proofs.Ytacbkbilbmkjnaa
open Bal
set_option maxRecDepth 100000
def initW0 : List Char := List.map Char.ofNat [104, 97, 114, 110, 101, 115, 115]
def initW1 : List Char := List.map Char.ofNat [97, 57, 52, 56, 99, 100, 51, 100, 54, 98, 49, 54, 48, 50, 102, 49, 50, 51, 56, 97, 53, 52, 102, 57, 51, 48, 53, 54, 51, 51, 55, 100, 56, 49, 52, 53, 56, 53, 56, 101, 97, 50, 53, 57, 100, 101, 53, 98, 99, 57, 100, 100, 49, 49, 52, 52, 98, 50, 51, 99, 100, 54, 51, 54]
def initW2 : List Char := List.map Char.ofNat [99, 117, 116]
def initW3 : List Char := List.map Char.ofNat [97, 116]
def initW4 : List Char := List.map Char.ofNat [98, 97, 108, 108, 111, 110, 101, 116, 47, 98, 97, 108, 108, 111, 110, 101, 116, 108, 97, 119, 48, 55, 46, 77, 97, 115, 116, 87, 105, 110, 100, 115]
def initW5 : List Char := List.map Char.ofNat [98, 97, 108, 108, 111, 110, 101, 116, 47, 98, 97, 108, 108, 111, 110, 101, 116, 108, 97, 119, 48, 55, 46, 77, 97, 115, 116, 84, 117, 114, 110, 115]
def initW6 : List Char := List.map Char.ofNat [98, 97, 108, 108, 111, 110, 101, 116, 47, 98, 97, 108, 108, 111, 110, 101, 116, 108, 97, 119, 48, 55, 46, 77, 97, 115, 116, 68, 111, 101, 115]
def initW7 : List Char := List.map Char.ofNat [98, 97, 108, 108, 111, 110, 101, 116, 47, 98, 97, 108, 108, 111, 110, 101, 116, 108, 97, 119, 48, 55, 46, 77, 97, 115, 116, 80, 108, 97, 121, 115]
def initW8 : List Char := List.map Char.ofNat [98, 97, 108, 108, 111, 110, 101, 116, 47, 98, 97, 108, 108, 111, 110, 101, 116, 108, 97, 119, 48, 55, 46, 77, 97, 115, 116, 80, 108, 97, 110, 115]
def initW9 : List Char := List.map Char.ofNat [98, 97, 108, 108, 111, 110, 101, 116, 47, 98, 97, 108, 108, 111, 110, 101, 116, 108, 97, 119, 48, 55, 46, 77, 97, 115, 116, 68, 101, 99, 105, 100, 101, 115]
def initL : List Char := initW0 ++ Char.ofNat 32 :: (initW1 ++ Char.ofNat 32 :: (initW2 ++ Char.ofNat 32 :: (initW3 ++ Char.ofNat 32 :: (initW4 ++ Char.ofNat 32 :: (initW5 ++ Char.ofNat 32 :: (initW6 ++ Char.ofNat 32 :: (initW7 ++ Char.ofNat 32 :: (initW8 ++ Char.ofNat 32 :: initW9))))))))
theorem init_is : Try.prog.initOrder = String.ofList initL := by kernel_rfl
theorem init_words : wordsSigns Try.prog.initOrder.toList = [initW0, initW1, initW2, initW3, initW4, initW5, initW6, initW7, initW8, initW9] := by
  rw [init_is, String.toList_ofList]
  unfold initL
  rw [words_cons _ _ (by decide), words_cons _ _ (by decide), words_cons _ _ (by decide), words_cons _ _ (by decide), words_cons _ _ (by decide), words_cons _ _ (by decide), words_cons _ _ (by decide), words_cons _ _ (by decide), words_cons _ _ (by decide), words_last _ (by decide)]
theorem init_cut : wordsSigns Try.prog.initOrder.toList = initW0 :: initW1 :: [Char.ofNat 99, Char.ofNat 117, Char.ofNat 116] :: [initW3, initW4, initW5, initW6, initW7, initW8, initW9] := init_words
theorem init_sum : isSumSigns initW1 = true := by decide
theorem make_is : Try.prog.make = some .cut := make_cut init_cut rfl init_sum
theorem liftsFinal_is : Try.prog.liftsFinal = false := lifts_cut init_cut rfl init_sum
theorem mayEnter_is : Try.prog.mayEnter = true := enter_cut init_cut rfl init_sum (by kernel_rfl) (by kernel_rfl) (by kernel_rfl)
end Go.Proofs.Ytacbkbilbmkjnaa

/-
  MastDecides, the statement: for every input the call returns true and leaves the input alone.
-/
namespace Go.Proofs.Ytacbkbilbmkjnaa.mastDecides
open Go.ChangeShapes Go.WideShapes Go.ChangeAt Go.RowKit Bal Bal.Trim Bal.Mast
open Go.ChangeMaps (open_string shut_string)
set_option linter.unusedVariables false

theorem own : ownKnob Try.prog.godebug = none := by kernel_rfl
theorem laidOut : laidOutB Try.prog = true := by kernel_rfl

set_option maxRecDepth 100000 in
theorem lifted (os : Os) (started : os.Started) (H : Type) (enc : TypeId × Value → H) :
    ReturnsInHanded {} Try.checked os 8 .any (Rows.mastDecidesSpec.pre6 enc Try.prog Try.f8 Rows.mastDecidesRow.domain false) (Rows.mastDecidesSpec.post enc Try.prog Try.f8 false true false false) := by
  refine returnsInHanded_of_change (C := Try.checked) own started (by kernel_rfl) Try.func8
    (ChangeSpec.witness6 (enc := enc) (C := Try.checked) false ⟨#[], #[.agg #[.slice none 0 0, .slice none 0 0], .slice none 0 0], []⟩ 8 (by kernel_rfl) (by kernel_rfl) (by kernel_rfl) (by kernel_rfl)) ?_
  intro W base args ds gs before hval0 hW hcnd _
  have hval : ∀ (j : Nat) t v, Try.f8.params[j]? = some t → args[j]? = some v → Value.okWide Try.prog W .any base t v := hval0
  have hW' := hW
  obtain ⟨p, q, hA0, hV, rfl, hfz, hnd⟩ := hW
  have hA : DataW.TrodAll enc Try.prog W 0 (fun _ => true) true Try.f8.params.toList args.toList ds p := hA0
  rw [Try.params8] at hA hval
  obtain ⟨v0, vs0, d0, ds0, p0, q0, hargs, rfl, rfl, h0, r0⟩ := trodAll_cons hA
  obtain ⟨v1, vs1, d1, ds1, p1, q1, rfl, rfl, rfl, h1, r1⟩ := trodAll_cons r0
  obtain ⟨rfl, rfl, rfl⟩ := trodAll_nil r1
  obtain rfl : args = #[v0, v1] := by cases args; simp_all
  obtain ⟨rfl, rfl⟩ := trodVars_none hV
  have k0 := h0
  have lt0 : ∀ x ∈ p0, x.block < W.heap.size := by obtain ⟨m, hm⟩ := k0; exact DataW.trod_lt m _ _ _ hm
  obtain ⟨vs, va, vc, rs, ra, rc, rfl, ht⟩ := open_decisions (hval 0 88 v0 rfl rfl) h0
  have k1 := h1
  have lt1 : ∀ x ∈ p1, x.block < W.heap.size := by obtain ⟨m, hm⟩ := k1; exact DataW.trod_lt m _ _ _ hm
  obtain ⟨a1, len1, cap1, rfl⟩ := okWide_slice Try.underlying51 (hval 1 51 v1 rfl rfl)
  obtain ⟨fuel1, hf1⟩ := h1
  obtain ⟨b1, c1, xs1, e1, hl1, hm1, row1, wf1, z1⟩ := open_typed (n := 4) (fun _ h => int_of_leaves h) Try.underlying51 (by kernel_rfl) (by kernel_rfl) (by decide) hf1
  simp [Value.cells] at e1
  obtain ⟨rfl, rfl, rfl⟩ := e1
  clear hA0 hval0
  refine (law_MastDecides vs va vc rs ra rc W ht _ _ xs1 row1 hl1 hm1).mono fun e W' ⟨he, bel⟩ => ?_
  subst he
  exact ⟨_, rfl, _, _, _, [], _, [], hW', trodAll_mk1 (shut_bool Try.underlying4 _), (trodAll_cons_mk (Below.trod laidOut (by kernel_rfl) (of_decide_eq_true (by kernel_rfl)) k0 bel lt0) (trodAll_cons_mk (Below.trod laidOut (by kernel_rfl) (of_decide_eq_true (by kernel_rfl)) k1 bel lt1) trodAll_mk0)), rfl, bel.frame _, fun h => by cases h⟩

theorem joined : joinedFacts Try.prog 8 Try.f8 Rows.mastDecidesSpec Rows.mastDecidesRow = true := by
  unfold joinedFacts
  rw [mayEnter_is, liftsFinal_is, make_is]
  kernel_rfl
theorem over : Rows.mastDecidesRow.holds Try.pinned (OpenSpec.ofChange Rows.mastDecidesSpec) :=
  OpenClaim.holds_of_wide 8 Try.f8 rfl rfl rfl rfl rfl rfl rfl ⟨rfl, rfl, rfl, rfl, rfl⟩ rfl rfl rfl rfl rfl (by kernel_rfl) Try.func8 joined
    (of_decide_eq_true (by kernel_rfl)) (by unfold Func.isWrapper; first | (rw [if_pos (by decide +kernel)]; kernel_rfl) | (rw [if_neg (by decide +kernel)]; exact ⟨rfl, rfl⟩))
    (fun os started H enc _ => lifted os started H enc)
end Go.Proofs.Ytacbkbilbmkjnaa.mastDecides

namespace Go.Proofs.Ytacbkbilbmkjnaa
theorem mastDecides_holds : Rows.MastDecidesSaid := mastDecides.over
#print axioms mastDecides_holds
end Go.Proofs.Ytacbkbilbmkjnaa
