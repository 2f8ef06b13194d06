/-
  The first clash: the program.
-/
import Derived.RangeFuncNested
import Derived.RangeFuncBound
import Derived.RangeFuncCalls
import Derived.RangeFuncLeaves
import Derived.Shelf.Abstract
import Derived.Shelf.RegionOpen
import Derived.WalkKit
import Derived.OwnWalkIn
import Derived.TacticsInMore
import Derived.LoopNIn
import Derived.LoopIn
import Derived.Laws.AppendOwn
import Derived.WalkSmall
import Derived.OwnWalk
import Derived.Deep.RegionHeld3
import Derived.Deep.DeepCutAuto
import Derived.Deep.RegionWith
import Derived.Deep.DrawnRows
import Derived.OrdersHeld
import Derived.WalkSpells
import Derived.WalkLawsBesides
import Derived.Lib.Hide
import Derived.ProofKit
import Derived.OpenShut
import Derived.ChangeOld
import Derived.Below
import Derived.Deep.Slices
import Derived.Deep.Fields
import Derived.Deep.Quiet
import Derived.Laws.AppendOwnNone
import Derived.StillTail
import Derived.Test.YtemafanncejeiaaProg
import Derived.Deep.QuietTactic
import Derived.BigQuiet
import Derived.OrdersIn
import Derived.Test.YtemafanncejeiaaGasBaseMA
import Derived.Test.YtemafanncejeiaaGasBaseMB
set_option linter.unusedVariables false
set_option linter.unusedSimpArgs false
/-
  The first clash: the program.
-/
namespace Go.Proofs.Ytemafanncejeiaa
open Go.RowKit Go.Shelf Bal Bal.Trim Bal.Gas
set_option linter.unusedVariables false
set_option linter.unusedSimpArgs false
set_option maxHeartbeats 4000000
set_option maxRecDepth 100000
attribute [local go_sem] Oper.semAt_some toldV

theorem list73 (f : Nat → Value) : ((List.range 73).map f).toArray = #[f 0, f 1, f 2, f 3, f 4, f 5, f 6, f 7, f 8, f 9, f 10, f 11, f 12, f 13, f 14, f 15, f 16, f 17, f 18, f 19, f 20, f 21, f 22, f 23, f 24, f 25, f 26, f 27, f 28, f 29, f 30, f 31, f 32, f 33, f 34, f 35, f 36, f 37, f 38, f 39, f 40, f 41, f 42, f 43, f 44, f 45, f 46, f 47, f 48, f 49, f 50, f 51, f 52, f 53, f 54, f 55, f 56, f 57, f 58, f 59, f 60, f 61, f 62, f 63, f 64, f 65, f 66, f 67, f 68, f 69, f 70, f 71, f 72] := by rfl
theorem conf_act (A : Array Value) {v0 v1 v2 v3 v19 v20 : Value} (hs : A.size = 73) (h0 : A[0]? = some v0) (h1 : A[1]? = some v1) (h2 : A[2]? = some v2) (h3 : A[3]? = some v3) (h19 : A[19]? = some v19) (h20 : A[20]? = some v20) :
    ∃ u : Nat → Value, A = #[v0, v1, v2, v3, u 4, u 5, u 6, u 7, u 8, u 9, u 10, u 11, u 12, u 13, u 14, u 15, u 16, u 17, u 18, v19, v20, u 21, u 22, u 23, u 24, u 25, u 26, u 27, u 28, u 29, u 30, u 31, u 32, u 33, u 34, u 35, u 36, u 37, u 38, u 39, u 40, u 41, u 42, u 43, u 44, u 45, u 46, u 47, u 48, u 49, u 50, u 51, u 52, u 53, u 54, u 55, u 56, u 57, u 58, u 59, u 60, u 61, u 62, u 63, u 64, u 65, u 66, u 67, u 68, u 69, u 70, u 71, u 72] := by
  obtain ⟨f, hf⟩ : ∃ f : Nat → Value, f = fun i => A.getD i undef := ⟨_, rfl⟩
  have key : A = ((List.range 73).map f).toArray := by
    apply Array.ext
    · simp [hs]
    · intro i h1 h2
      simp [hf, Array.getD, h1]
  have g : ∀ (i : Nat) (v : Value), A[i]? = some v → f i = v := by
    intro i v h
    rw [hf]
    simp [Array.getD_eq_getD_getElem?, h]
  refine ⟨f, ?_⟩
  rw [list73] at key
  rw [key, g 0 _ h0, g 1 _ h1, g 2 _ h2, g 3 _ h3, g 19 _ h19, g 20 _ h20]

theorem mark_from {β : Type} {B C : Nat} {Ds : List Nat} {W1 : World} (hM : Marked C Ds W1) (hB : W1.heap.size ≤ B) : OwnFrom B (fun (_ : β) W => Marked C Ds W) := by
  intro _ X Y row hb hg hr
  refine ⟨hb.1, fun D hD => ⟨(hb.2 D hD).1, ?_⟩⟩
  refine (hg.block D (Array.getElem?_eq_some_iff.1 (hb.2 D hD).2).1 (fun e => ?_)).trans (hb.2 D hD).2
  have h1 := (hr D e.symm).1
  have h2 := (Array.getElem?_eq_some_iff.1 (hM.2 D hD).2).1
  omega
def ConfI (h : Hist) (s : Spot) (w : World) (k cb : Nat) (Ds : List Nat) (pre : List (Fin h.gauges.length)) (X : World) : Prop :=
  Blk X w.heap.size #[.slice s.aw h.warm.length s.cw, .slice s.ag h.gauges.length s.cg, .slice s.af h.flows.length s.cf] 85 ∧ Blk X (w.heap.size + 1) #[.int .i64 0, .int .i64 0, .int .i64 0] 99 ∧ Blk X (w.heap.size + 1 + 1) #[.int .i64 0] 28 ∧ Kept w X ∧ Blk X cb #[.int .i64 k] 3 ∧ Marked w.heap.size Ds X ∧ ∀ t ∈ pre, ∀ f : Nat, f ≤ t.val → clashB h k f t.val = false
theorem confI_from {h : Hist} {s : Spot} {w V : World} {k cb B : Nat} {Ds : List Nat} (hM : Marked w.heap.size Ds V) (hB : V.heap.size ≤ B) (hw : w.heap.size ≤ V.heap.size) : OwnFrom B (ConfI h s w k cb Ds) := by
  rintro pre X Y row ⟨e0, e1, e2, e3, e4, e5, e6⟩ hg hr
  exact ⟨blk_from (β := Unit) B _ _ _ () X Y row e0 hg hr, blk_from (β := Unit) B _ _ _ () X Y row e1 hg hr, blk_from (β := Unit) B _ _ _ () X Y row e2 hg hr, ownFrom_below (β := Unit) (Nat.le_refl _) (by omega) () X Y row e3 hg hr, blk_from (β := Unit) B _ _ _ () X Y row e4 hg hr, mark_from (β := Unit) hM hB () X Y row e5 hg hr, e6⟩
theorem ConfI.keep {h : Hist} {s : Spot} {w : World} {k cb : Nat} {Ds : List Nat} {pre : List (Fin h.gauges.length)} {X Y : World} (hI : ConfI h s w k cb Ds pre X) (hk : Kept X Y) : ConfI h s w k cb Ds pre Y :=
  ⟨Blk.keep hI.1 hk, Blk.keep hI.2.1 hk, Blk.keep hI.2.2.1 hk, Kept.drop hI.2.2.2.1 hk, Blk.keep hI.2.2.2.2.1 hk, hI.2.2.2.2.2.1.keep hk (Nat.le_refl _), hI.2.2.2.2.2.2⟩
def ConfI2 (h : Hist) (s : Spot) (w : World) (k cb B6 B7 x : Nat) (LX HX : Int) (Ds : List Nat) (pre : List (Fin h.gauges.length)) (X : World) : Prop :=
  Blk X w.heap.size #[.slice s.aw h.warm.length s.cw, .slice s.ag h.gauges.length s.cg, .slice s.af h.flows.length s.cf] 85 ∧ Blk X (w.heap.size + 1) #[.int .i64 0, .int .i64 0, .int .i64 0] 99 ∧ Blk X (w.heap.size + 1 + 1) #[.int .i64 0] 28 ∧ Kept w X ∧ Blk X cb #[.int .i64 k] 3 ∧ Marked w.heap.size Ds X ∧ Blk X B6 #[.int .i64 x] 3 ∧ Blk X B7 #[.int .i64 LX, .int .i64 HX] 23 ∧ ∀ f ∈ pre, f.val ≤ x → clashB h k f.val x = false
theorem confI2_from {h : Hist} {s : Spot} {w V : World} {k cb B6 B7 x B : Nat} {LX HX : Int} {Ds : List Nat} (hM : Marked w.heap.size Ds V) (hB : V.heap.size ≤ B) (hw : w.heap.size ≤ V.heap.size) : OwnFrom B (ConfI2 h s w k cb B6 B7 x LX HX Ds) := by
  rintro pre X Y row ⟨e0, e1, e2, e3, e4, e5, e6, e7, e8⟩ hg hr
  exact ⟨blk_from (β := Unit) B _ _ _ () X Y row e0 hg hr, blk_from (β := Unit) B _ _ _ () X Y row e1 hg hr, blk_from (β := Unit) B _ _ _ () X Y row e2 hg hr, ownFrom_below (β := Unit) (Nat.le_refl _) (by omega) () X Y row e3 hg hr, blk_from (β := Unit) B _ _ _ () X Y row e4 hg hr, mark_from (β := Unit) hM hB () X Y row e5 hg hr, blk_from (β := Unit) B _ _ _ () X Y row e6 hg hr, blk_from (β := Unit) B _ _ _ () X Y row e7 hg hr, e8⟩
theorem ConfI2.keep {h : Hist} {s : Spot} {w : World} {k cb B6 B7 x : Nat} {LX HX : Int} {Ds : List Nat} {pre : List (Fin h.gauges.length)} {X Y : World} (hI : ConfI2 h s w k cb B6 B7 x LX HX Ds pre X) (hk : Kept X Y) : ConfI2 h s w k cb B6 B7 x LX HX Ds pre Y := by
  obtain ⟨e0, e1, e2, e3, e4, e5, e6, e7, e8⟩ := hI
  exact ⟨Blk.keep e0 hk, Blk.keep e1 hk, Blk.keep e2 hk, Kept.drop e3 hk, Blk.keep e4 hk, e5.keep hk (Nat.le_refl _), Blk.keep e6 hk, Blk.keep e7 hk, e8⟩
/-- the clash is found: its cells -/
def ConfR (w : World) (k f x : Nat) (Ds : List Nat) (X : World) : Prop := Blk X (w.heap.size + 1) #[.int .i64 k, .int .i64 f, .int .i64 x] 99 ∧ Blk X (w.heap.size + 1 + 1) #[.int .i64 0] 28 ∧ Kept w X ∧ Marked w.heap.size Ds X
theorem confR_from {β : Type} {w V : World} {k f x B : Nat} {Ds : List Nat} (hM : Marked w.heap.size Ds V) (hB : V.heap.size ≤ B) (hw : w.heap.size ≤ V.heap.size) : OwnFrom B (fun (_ : β) X => ConfR w k f x Ds X) := by
  rintro _ X Y row ⟨e1, e2, e3, e5⟩ hg hr
  exact ⟨blk_from (β := Unit) B _ _ _ () X Y row e1 hg hr, blk_from (β := Unit) B _ _ _ () X Y row e2 hg hr, ownFrom_below (β := Unit) (Nat.le_refl _) (by omega) () X Y row e3 hg hr, mark_from (β := Unit) hM hB () X Y row e5 hg hr⟩
def ConfE (h : Hist) (w : World) (k : Nat) (Ds : List Nat) (pre : List (Fin h.gauges.length)) (X : World) : Prop :=
  ∃ pre0 x f, pre = pre0 ++ [x] ∧ (∀ t ∈ pre0, ∀ f : Nat, f ≤ t.val → clashB h k f t.val = false) ∧ f ≤ x.val ∧ (∀ g, g < f → clashB h k g x.val = false) ∧ clashB h k f x.val = true ∧ ConfR w k f x.val Ds X
theorem confE_from {h : Hist} {w V : World} {k B : Nat} {Ds : List Nat} (hM : Marked w.heap.size Ds V) (hB : V.heap.size ≤ B) (hw : w.heap.size ≤ V.heap.size) : OwnFrom B (ConfE h w k Ds) := by
  rintro pre X Y row ⟨pre0, x, f, e1, e2, e3, e4, e5, e6⟩ hg hr
  exact ⟨pre0, x, f, e1, e2, e3, e4, e5, confR_from (β := Unit) hM hB hw () X Y row e6 hg hr⟩
def ConfE2 (h : Hist) (w : World) (k x : Nat) (Ds : List Nat) (pre : List (Fin h.gauges.length)) (X : World) : Prop :=
  ∃ pre1 f, pre = pre1 ++ [f] ∧ (∀ g ∈ pre1, g.val ≤ x → clashB h k g.val x = false) ∧ f.val ≤ x ∧ clashB h k f.val x = true ∧ ConfR w k f.val x Ds X
theorem confE2_from {h : Hist} {w V : World} {k x B : Nat} {Ds : List Nat} (hM : Marked w.heap.size Ds V) (hB : V.heap.size ≤ B) (hw : w.heap.size ≤ V.heap.size) : OwnFrom B (ConfE2 h w k x Ds) := by
  rintro pre X Y row ⟨pre1, f, e1, e2, e3, e4, e6⟩ hg hr
  exact ⟨pre1, f, e1, e2, e3, e4, confR_from (β := Unit) hM hB hw () X Y row e6 hg hr⟩

theorem f_Conflict_bad (h : Hist) (s : Spot) (w : World) (hh : HistAt h s w) (hb : histB h = false) :
    Calls Try.prog 62 #[.agg #[.slice s.aw h.warm.length s.cw, .slice s.ag h.gauges.length s.cg, .slice s.af h.flows.length s.cf]] w fun e w' => e = .returned (.tuple #[.agg #[.int .i64 (cfC h), .int .i64 (cfF h), .int .i64 (cfT h)], .int .i64 (confE h)]) ∧ Kept w w' := by
  have HE := Lib.hid (show histE h = 34 by unfold histE; rw [hb]; rfl)
  have HC := Lib.hid (cf_bad hb)
  clear hb
  go_enter Try.func62, Try.ntmps62
  go_wp2_with (go_at_call 64; (with_reducible refine (f_CheckHistory h s _ (hh.later (by (exact kpt)))).mono ?_); rw [HE.out]; rintro e w1 ⟨rfl, hb1⟩; refine Blk.thru (b := w.heap.size) (arr := ?_) (t := ?_) ?_ hb1 ?_; rotate_left 2; (focus (exact blk)); intro ra; have rac0 := ra.cell 0; have raf0 := ra.free 0; have rac1 := ra.cell 1; have raf1 := ra.free 1; have rac2 := ra.cell 2; have raf2 := ra.free 2; have ral := ra.lt; simp at rac0 rac1 rac2; refine Blk.thru (b := w.heap.size + 1) (arr := ?_) (t := ?_) ?_ hb1 ?_; rotate_left 2; (focus (exact blk)); intro rb; have rbc0 := rb.cell 0; have rbf0 := rb.free 0; have rbc1 := rb.cell 1; have rbf1 := rb.free 1; have rbc2 := rb.cell 2; have rbf2 := rb.free 2; have rbl := rb.lt; simp at rbc0 rbc1 rbc2; refine Blk.thru (b := w.heap.size + 1 + 1) (arr := ?_) (t := ?_) ?_ hb1 ?_; rotate_left 2; (focus (exact blk)); intro rc; have rcc0 := rc.cell 0; have rcf0 := rc.free 0; have rcl := rc.lt; simp at rcc0)
  exact bodyPost_ret (v := .tuple #[.agg #[.int .i64 0, .int .i64 0, .int .i64 0], .int .i64 34]) (by simp [results, Try.results62, go_sem, rbc0, rbf0, rbc1, rbf1, rbc2, rbf2, rbl, rcc0, rcf0, rcl]) rfl ⟨by rw [HC.out.1, HC.out.2.1, HC.out.2.2.1, HC.out.2.2.2], by (exact kpt)⟩
theorem f_Conflict_ok (h : Hist) (s : Spot) (w : World) (hh : HistAt h s w) (hb : histB h = true) :
    Calls Try.prog 62 #[.agg #[.slice s.aw h.warm.length s.cw, .slice s.ag h.gauges.length s.cg, .slice s.af h.flows.length s.cf]] w fun e w' => e = .returned (.tuple #[.agg #[.int .i64 (cfC h), .int .i64 (cfF h), .int .i64 (cfT h)], .int .i64 (confE h)]) ∧ Kept w w' := by
  have HE := Lib.hid (show histE h = 0 by unfold histE; rw [hb]; rfl)
  have ho := histB_ok hb
  have hw2 := ho.w2
  have hg2 := ho.g2
  have HB := Lib.hid hb
  clear hb
  refine (callsIn_wide (n := 6)).1 ?_
  refine callsIn_of_wp_marks Try.func62 rfl trivial ?_ rfl
  simp only [Try.ntmps62, List.size_toArray, List.length_cons, List.length_nil, Nat.reduceAdd, Nat.reduceSub, Array.replicate_succ, Array.replicate_zero, List.push_toArray, List.append_toArray, List.nil_append, List.cons_append]
  gi_wp2_with (refine ⟨trivial, ?_⟩; gi_at_call 64; (refine (callsIn_wide.2 (f_CheckHistory h s _ (hh.later (by (exact kpt))))).mono ?_); rw [HE.out]; rintro e w1 ⟨rfl, hb1⟩; refine Blk.thru (b := w.heap.size) (arr := ?_) (t := ?_) ?_ hb1 ?_; rotate_left 2; (focus (exact blk)); intro ra; have rac0 := ra.cell 0; have raf0 := ra.free 0; have rac1 := ra.cell 1; have raf1 := ra.free 1; have rac2 := ra.cell 2; have raf2 := ra.free 2; have ral := ra.lt; simp at rac0 rac1 rac2)
  refine at_worldR (S := fun V => Blk V w.heap.size #[.slice s.aw h.warm.length s.cw, .slice s.ag h.gauges.length s.cg, .slice s.af h.flows.length s.cf] 85 ∧ Blk V (w.heap.size + 1) #[.int .i64 0, .int .i64 0, .int .i64 0] 99 ∧ Blk V (w.heap.size + 1 + 1) #[.int .i64 0] 28 ∧ Kept w V) ⟨by (exact blkc), by (exact blkc), by (exact blkc), by (exact kpt)⟩ ?_
  rintro V ⟨k0, k1, k2, hkV⟩
  refine wpIn_loop (fun a' W => ∃ (k : Nat) (Ds : List Nat), (∃ u : Nat → Value, a' = { tmps := #[.agg #[.slice s.aw h.warm.length s.cw, .slice s.ag h.gauges.length s.cg, .slice s.af h.flows.length s.cf], .pointer (some ⟨w.heap.size, 0, none⟩), .pointer (some ⟨w.heap.size + 1, 0, none⟩), .pointer (some ⟨w.heap.size + 1 + 1, 0, none⟩), u 4, u 5, u 6, u 7, u 8, u 9, u 10, u 11, u 12, u 13, u 14, u 15, u 16, u 17, u 18, .int .i64 h.warm.length, .int .i64 k, u 21, u 22, u 23, u 24, u 25, u 26, u 27, u 28, u 29, u 30, u 31, u 32, u 33, u 34, u 35, u 36, u 37, u 38, u 39, u 40, u 41, u 42, u 43, u 44, u 45, u 46, u 47, u 48, u 49, u 50, u 51, u 52, u 53, u 54, u 55, u 56, u 57, u 58, u 59, u 60, u 61, u 62, u 63, u 64, u 65, u 66, u 67, u 68, u 69, u 70, u 71, u 72], defers := marks Ds }) ∧ k ≤ h.warm.length ∧ Marked w.heap.size Ds W ∧ (Blk W w.heap.size #[.slice s.aw h.warm.length s.cw, .slice s.ag h.gauges.length s.cg, .slice s.af h.flows.length s.cf] 85 ∧ Blk W (w.heap.size + 1) #[.int .i64 0, .int .i64 0, .int .i64 0] 99 ∧ Blk W (w.heap.size + 1 + 1) #[.int .i64 0] 28 ∧ Kept w W) ∧ Clear h k 0 0)
    (fun a' _ => h.warm.length - (intOf ((a'.tmps[20]?).getD undef)).toNat) ?_ ?_
  · refine ⟨0, [], ?_, by omega, ⟨by simp, by simp⟩, ⟨k0, k1, k2, hkV⟩, Clear.zero h⟩
    exact (conf_act _ rfl rfl rfl rfl rfl rfl rfl).imp fun u hu => congrArg (fun A => Act.mk A []) hu
  clear k0 k1 k2 hkV V
  rintro a' W ⟨k, Ds, ⟨u, rfl⟩, hk, hM, ⟨k0, k1, k2, hkW⟩, hclr⟩
  have HCLR := Lib.hid hclr
  clear hclr
  have k0c0 := k0.cell 0
  have k0f0 := k0.free 0
  have k0c1 := k0.cell 1
  have k0f1 := k0.free 1
  have k0c2 := k0.cell 2
  have k0f2 := k0.free 2
  have k0l := k0.lt
  simp at k0c0 k0c1 k0c2
  by_cases hc : k < h.warm.length
  · have hc' : (k : Int) < (h.warm.length : Int) := by omega
    gi_wp2_with (refine ⟨trivial, ?_⟩; gi_at_call 131; (refine (callsIn_wide.2 (f_told h s _ _)).mono ?_); rintro e w1 ⟨rfl, rfl⟩)
    refine at_worldR (S := fun V => Blk V w.heap.size #[.slice s.aw h.warm.length s.cw, .slice s.ag h.gauges.length s.cg, .slice s.af h.flows.length s.cf] 85 ∧ Blk V (w.heap.size + 1) #[.int .i64 0, .int .i64 0, .int .i64 0] 99 ∧ Blk V (w.heap.size + 1 + 1) #[.int .i64 0] 28 ∧ Kept w V ∧ Blk V W.heap.size #[.int .i64 k] 3 ∧ Blk V (W.heap.size + 1) #[.slice s.aw h.warm.length s.cw, .slice s.ag h.gauges.length s.cg, .slice s.af h.flows.length s.cf] 85 ∧ Blk V (W.heap.size + 1 + 1) #[.int .i64 k] 3 ∧ Marked w.heap.size Ds V) ⟨by (exact blkc), by (exact blkc), by (exact blkc), by (exact kpt), by (exact blkc), by (exact blkc), by (exact blkc), hM.keep (by (exact kpt) : Kept W _) (Nat.le_refl _)⟩ ?_
    clear k0 k1 k2 k0c0 k0f0 k0c1 k0f1 k0c2 k0f2 k0l
    rintro V ⟨k0, k1, k2, hkV, j4, j5, j6, hM1⟩
    have hWs := hkW.size
    have hVW : W.heap.size + 1 + 1 < V.heap.size := Blk.lt j6
    have hMV := hM1
    have hc2 := hkV.size
    refine wpIn_rangeFunc_ownH (gf := 141) (lb := #[.pointer (some ⟨W.heap.size + 1, 0, none⟩), .pointer (some ⟨W.heap.size + 1 + 1, 0, none⟩)]) rfl (by omega) rfl trivial (enters_of Try.func141 (by kernel_rfl) rfl)
      (f_told1 h s w V hh hkV ho k hc (W.heap.size + 1) (W.heap.size + 1 + 1) j5 j6 5 (by omega)) KeptB.trans (KeptB.put hkV.size j5.lt j6.lt) (Below.refl _ _) (fun _ => rfl)
      (fun pre X => ConfI h s w k W.heap.size Ds pre X ∧ V.heap.size ≤ X.heap.size)
      (fun c pre X => c = .ret ∧ ConfE h w k Ds pre X)
      (OwnFrom.and (confI_from hMV (Nat.le_refl _) hc2) (fun _ _ _ _ hs hg _ => Nat.le_trans hs hg.size))
      (fun c pre X Y row hs hg hr => ⟨hs.1, confE_from hMV (Nat.le_refl _) hc2 pre X Y row hs.2 hg hr⟩)
      ⟨⟨k0, k1, k2, hkV, j4, hM1, fun t ht => by cases ht⟩, Nat.le_refl _⟩
      (fun x a' X => ∃ B6 B7, V.heap.size ≤ B6 ∧ V.heap.size ≤ B7 ∧ Blk X B6 #[.int .i64 x.val] 3 ∧ Blk X B7 #[.int .i64 (toldLo h k x.val), .int .i64 (toldHi h k x.val)] 23 ∧ a' = { tmps := #[.agg #[.slice s.aw h.warm.length s.cw, .slice s.ag h.gauges.length s.cg, .slice s.af h.flows.length s.cf], .pointer (some ⟨w.heap.size, 0, none⟩), .pointer (some ⟨w.heap.size + 1, 0, none⟩), .pointer (some ⟨w.heap.size + 1 + 1, 0, none⟩), u 4, .pointer (some ⟨W.heap.size, 0, none⟩), .pointer (some ⟨B6, 0, none⟩), .pointer (some ⟨B7, 0, none⟩), u 8, u 9, u 10, u 11, u 12, u 13, u 14, u 15, u 16, u 17, u 18, .int .i64 h.warm.length, .int .i64 k, .bool true, .int .i64 k, .agg #[.slice s.aw h.warm.length s.cw, .slice s.ag h.gauges.length s.cg, .slice s.af h.flows.length s.cf], .int .i64 k, .func (.func 141) #[] #[.pointer (some ⟨W.heap.size + 1, 0, none⟩), .pointer (some ⟨W.heap.size + 1 + 1, 0, none⟩)], .int .i64 x.val, .agg #[.int .i64 (toldLo h k x.val), .int .i64 (toldHi h k x.val)], u 28, u 29, u 30, u 31, u 32, u 33, u 34, u 35, u 36, u 37, u 38, u 39, u 40, u 41, u 42, u 43, u 44, u 45, u 46, u 47, u 48, u 49, u 50, u 51, u 52, u 53, u 54, u 55, u 56, u 57, u 58, u 59, u 60, u 61, u 62, u 63, u 64, u 65, u 66, u 67, u 68, u 69, u 70, u 71, u 72], defers := [] })
      (fun x a' _ X Y row hs hg hr => by obtain ⟨B6, B7, e1, e2, e3, e4, e5⟩ := hs; exact ⟨B6, B7, e1, e2, blk_from (β := Unit) V.heap.size _ _ _ () X Y row e3 hg hr, blk_from (β := Unit) V.heap.size _ _ _ () X Y row e4 hg hr, e5⟩)
      ?assign ?body ?done ?stop
    case assign =>
      rintro l pre x X K ⟨hI, hsz⟩ hK
      gi_wp2
      have hka : Kept X ((X.alloc (.cells #[.int .i64 x.val] 3)).alloc (.cells #[.int .i64 (toldLo h k x.val), .int .i64 (toldHi h k x.val)] 23)) := by exact kpt
      exact hK _ _ (keepsFrom_kept hka _) (KeptB.of_kept hka (Nat.le_trans hc2 hsz) (by omega) (by omega)) ⟨hI.keep hka, by have := hka.size; omega⟩ ⟨X.heap.size, X.heap.size + 1, hsz, by omega, Blk.alloc Blk.new _, by simpa using Blk.new (w := X.alloc (.cells #[.int .i64 x.val] 3)), rfl⟩
    case body =>
      rintro l pre x a' X hl ⟨r, hr⟩ ⟨⟨q0, q1, q2, hkX, q4, hMX, hno⟩, hsz⟩ ⟨B6, B7, hB6, hB7, p6, p7, rfl⟩ hlen
      have HNO := Lib.hid hno
      clear hno k0 k1 k2 j4 j5 j6 hM1
      obtain ⟨x, hxl⟩ := x
      dsimp only at p6 p7 ⊢
      have bdx := told_bd ho hxl hc
      obtain ⟨LX, hLX⟩ : ∃ n, n = toldLo h k x := ⟨_, rfl⟩
      obtain ⟨HX, hHX⟩ : ∃ n, n = toldHi h k x := ⟨_, rfl⟩
      rw [← hLX, ← hHX] at p7 bdx ⊢
      have HLX := Lib.hid hLX
      have HHX := Lib.hid hHX
      clear hLX hHX
      have q0c0 := q0.cell 0
      have q0f0 := q0.free 0
      have q0c1 := q0.cell 1
      have q0f1 := q0.free 1
      have q0c2 := q0.cell 2
      have q0f2 := q0.free 2
      have q0l := q0.lt
      simp at q0c0 q0c1 q0c2
      have q4c0 := q4.cell 0
      have q4f0 := q4.free 0
      have q4l := q4.lt
      simp at q4c0
      gi_wp2_with (refine ⟨trivial, ?_⟩; gi_at_call 131; refine (CallsIn.inRound l (callsIn_wide.2 (f_told h s _ _))).mono ?_; rintro e w1 ⟨rfl, rfl⟩)
      have hkY0 : Kept X ((X.alloc (.cells #[.slice s.aw h.warm.length s.cw, .slice s.ag h.gauges.length s.cg, .slice s.af h.flows.length s.cf] 85)).alloc (.cells #[.int .i64 k] 3)) := by exact kpt
      have hr0 : ((X.alloc (.cells #[.slice s.aw h.warm.length s.cw, .slice s.ag h.gauges.length s.cg, .slice s.af h.flows.length s.cf] 85)).alloc (.cells #[.int .i64 k] 3)).heap[l]? = some (.loop r) := (hkY0.block l (Array.getElem?_eq_some_iff.1 hr).1).trans hr
      refine at_worldR (S := fun Y => Blk Y w.heap.size #[.slice s.aw h.warm.length s.cw, .slice s.ag h.gauges.length s.cg, .slice s.af h.flows.length s.cf] 85 ∧ Blk Y (w.heap.size + 1) #[.int .i64 0, .int .i64 0, .int .i64 0] 99 ∧ Blk Y (w.heap.size + 1 + 1) #[.int .i64 0] 28 ∧ Kept w Y ∧ Blk Y W.heap.size #[.int .i64 k] 3 ∧ Marked w.heap.size Ds Y ∧ Blk Y B6 #[.int .i64 x] 3 ∧ Blk Y B7 #[.int .i64 LX, .int .i64 HX] 23 ∧ Blk Y X.heap.size #[.slice s.aw h.warm.length s.cw, .slice s.ag h.gauges.length s.cg, .slice s.af h.flows.length s.cf] 85 ∧ Blk Y (X.heap.size + 1) #[.int .i64 k] 3 ∧ Kept X Y ∧ Y.heap[l]? = some (.loop r)) ⟨by (exact blkc), by (exact blkc), by (exact blkc), by (exact kpt), by (exact blkc), hMX.keep hkY0 (Nat.le_refl _), by (exact blkc), by (exact blkc), by (exact blkc), by (exact blkc), hkY0, hr0⟩ ?_
      clear q0 q1 q2 q4 p6 p7 hkY0 hr0 q0c0 q0f0 q0c1 q0f1 q0c2 q0f2 q0l q4c0 q4f0 q4l
      rintro Y ⟨q0, q1, q2, hkwY, q4, hMY, p6, p7, p5, p8, hkY, hrY⟩
      have hlY := (Array.getElem?_eq_some_iff.1 hrY).1
      have hXY := hkY.size
      refine wpIn_rangeFunc_ownN (l₀ := l) (r₀ := r) rfl hrY (by omega) (gf := 141) (lb := #[.pointer (some ⟨X.heap.size, 0, none⟩), .pointer (some ⟨X.heap.size + 1, 0, none⟩)]) rfl trivial (enters_of Try.func141 (by kernel_rfl) rfl)
        ((f_told1 h s w Y hh hkwY ho k hc X.heap.size (X.heap.size + 1) p5 p8 3 (by omega)).inRound l) KeptB.trans (KeptB.put hkwY.size p5.lt p8.lt) (Below.refl _ _) (fun _ => rfl)
        (fun pre' Z => ConfI2 h s w k W.heap.size B6 B7 x LX HX Ds pre' Z ∧ KeptB w.heap.size (W.heap.size + 1) (W.heap.size + 1 + 1) X Z ∧ KeepsFrom V.heap.size X Z ∧ Y.heap.size ≤ Z.heap.size)
        (fun c pre' Z => c = .ret ∧ ConfE2 h w k x Ds pre' Z ∧ KeepsFrom V.heap.size X Z)
        (OwnFrom.and (confI2_from hMY (Nat.le_refl _) hkwY.size) (OwnFrom.and (keptB_from (Nat.le_trans hc2 hsz) hkwY.size (by omega) (by omega) (by omega) (by omega)) (OwnFrom.and (ownFrom_keepsFrom hXY) (fun _ _ _ _ hs hg _ => Nat.le_trans hs hg.size))))
        (fun c pre' A B row hs hg hr => ⟨hs.1, confE2_from hMY (Nat.le_refl _) hkwY.size pre' A B row hs.2.1 hg hr, ownFrom_keepsFrom (β := Unit) hXY () A B row hs.2.2 hg hr⟩)
        ⟨⟨q0, q1, q2, hkwY, q4, hMY, p6, p7, fun t ht => by cases ht⟩, KeptB.of_kept hkY (Nat.le_trans hc2 hsz) (by omega) (by omega), keepsFrom_kept hkY _, Nat.le_refl _⟩
        (fun f a'' Z => ∃ B9, Y.heap.size ≤ B9 ∧ Blk Z B9 #[.int .i64 (toldLo h k f.val), .int .i64 (toldHi h k f.val)] 23 ∧ a'' = { tmps := #[.agg #[.slice s.aw h.warm.length s.cw, .slice s.ag h.gauges.length s.cg, .slice s.af h.flows.length s.cf], .pointer (some ⟨w.heap.size, 0, none⟩), .pointer (some ⟨w.heap.size + 1, 0, none⟩), .pointer (some ⟨w.heap.size + 1 + 1, 0, none⟩), u 4, .pointer (some ⟨W.heap.size, 0, none⟩), .pointer (some ⟨B6, 0, none⟩), .pointer (some ⟨B7, 0, none⟩), .int .i64 f.val, .pointer (some ⟨B9, 0, none⟩), u 10, u 11, u 12, u 13, u 14, u 15, u 16, u 17, u 18, .int .i64 h.warm.length, .int .i64 k, .bool true, .int .i64 k, .agg #[.slice s.aw h.warm.length s.cw, .slice s.ag h.gauges.length s.cg, .slice s.af h.flows.length s.cf], .int .i64 k, .func (.func 141) #[] #[.pointer (some ⟨W.heap.size + 1, 0, none⟩), .pointer (some ⟨W.heap.size + 1 + 1, 0, none⟩)], .int .i64 x, .agg #[.int .i64 LX, .int .i64 HX], .agg #[.slice s.aw h.warm.length s.cw, .slice s.ag h.gauges.length s.cg, .slice s.af h.flows.length s.cf], .int .i64 k, .func (.func 141) #[] #[.pointer (some ⟨X.heap.size, 0, none⟩), .pointer (some ⟨X.heap.size + 1, 0, none⟩)], .int .i64 f.val, .agg #[.int .i64 (toldLo h k f.val), .int .i64 (toldHi h k f.val)], u 33, u 34, u 35, u 36, u 37, u 38, u 39, u 40, u 41, u 42, u 43, u 44, u 45, u 46, u 47, u 48, u 49, u 50, u 51, u 52, u 53, u 54, u 55, u 56, u 57, u 58, u 59, u 60, u 61, u 62, u 63, u 64, u 65, u 66, u 67, u 68, u 69, u 70, u 71, u 72], defers := [] })
        (fun f a'' _ A B row hs hg hr => by obtain ⟨B9, e1, e2, e3⟩ := hs; exact ⟨B9, e1, blk_from (β := Unit) Y.heap.size _ _ _ () A B row e2 hg hr, e3⟩)
        ?assign2 ?body2 ?done2 ?stop2
      case assign2 =>
        rintro l2 pre' f Z K ⟨hI, hkb, hkf, hsz2⟩ hK
        gi_wp2
        have hka : Kept Z (Z.alloc (.cells #[.int .i64 (toldLo h k f.val), .int .i64 (toldHi h k f.val)] 23)) := Kept.alloc (Below.refl _ _) _
        have z5 := Blk.lt p5
        have z8 := Blk.lt p8
        have hzX := hkb.below.size
        exact hK _ _ (keepsFrom_kept hka _) (KeptB.of_kept hka (by have := hkwY.size; omega) (by omega) (by omega)) ⟨hI.keep hka, hkb.trans (KeptB.of_kept hka (by have := hkwY.size; omega) (by omega) (by omega)), hkf.trans (keepsFrom_kept hka _), by have := hka.size; omega⟩ ⟨Z.heap.size, hsz2, Blk.new, rfl⟩
      case body2 =>
        rintro l2 pre' f a'' Z hl2 _ ⟨⟨q0, q1, q2, hkZ, q4, hMZ, p6, p7, hno2⟩, hkb, hkf, hsz2⟩ ⟨B9, hB9, p9, rfl⟩ hlen2
        have HNO2 := Lib.hid hno2
        have HKB := Lib.hid hkb
        have HKF := Lib.hid hkf
        clear hno2 hkb hkf
        obtain ⟨f, hfl⟩ := f
        dsimp only at p9 ⊢
        have bdf := told_bd ho hfl hc
        have HCT0 : f ≤ x → clashB h k f x = ((decide (f = x) && decide (toldHi h k f < toldLo h k f)) || (decide (f < x) && !decide (toldHi h k f < toldLo h k f) && decide (LX ≤ HX) && decide (toldHi h k f < LX))) := fun hfx => by rw [clash_told ho hfx hxl, HLX.out, HHX.out]
        obtain ⟨LF, hLF⟩ : ∃ n, n = toldLo h k f := ⟨_, rfl⟩
        obtain ⟨HF, hHF⟩ : ∃ n, n = toldHi h k f := ⟨_, rfl⟩
        rw [← hLF, ← hHF] at p9 bdf HCT0 ⊢
        have HCT := Lib.hid HCT0
        clear HCT0 hLF hHF bdx bdf
        have q1c0 := q1.cell 0
        have q1f0 := q1.free 0
        have q1c1 := q1.cell 1
        have q1f1 := q1.free 1
        have q1c2 := q1.cell 2
        have q1f2 := q1.free 2
        have q1l := q1.lt
        simp at q1c0 q1c1 q1c2
        have q2c0 := q2.cell 0
        have q2f0 := q2.free 0
        have q2l := q2.lt
        simp at q2c0
        have q4c0 := q4.cell 0
        have q4f0 := q4.free 0
        have q4l := q4.lt
        simp at q4c0
        have p6c0 := p6.cell 0
        have p6f0 := p6.free 0
        have p6l := p6.lt
        simp at p6c0
        have p7c0 := p7.cell 0
        have p7f0 := p7.free 0
        have p7c1 := p7.cell 1
        have p7f1 := p7.free 1
        have p7l := p7.lt
        simp at p7c0 p7c1
        have p9c0 := p9.cell 0
        have p9f0 := p9.free 0
        have p9c1 := p9.cell 1
        have p9f1 := p9.free 1
        have p9l := p9.lt
        simp at p9c0 p9c1
        by_cases k1 : f ≤ x
        · by_cases k2 : f = x
          · have d1 : ((f : Int) == (x : Int)) = true := by simp; omega
            have d2 : (f == x) = true := by simp; omega
            have d3 : decide (f = x) = true := by simp; omega
            by_cases k3 : HF < LF
            · have d4 : decide (HF < LF) = true := by simp; omega
              have hfx : f ≤ x := by omega
              have HT := Lib.hid (show clashB h k f x = true by rw [HCT.out hfx]; simp; omega)
              clear k1 k2 k3
              gi_wp2
              have hko : KeepsOthers Z ((((Z.setCell ⟨w.heap.size + 1, 0, none⟩ (.int .i64 k)).setCell ⟨w.heap.size + 1, 1, none⟩ (.int .i64 f)).setCell ⟨w.heap.size + 1, 2, none⟩ (.int .i64 x)).setCell ⟨w.heap.size + 1 + 1, 0, none⟩ (.int .i64 0)) := (((KeepsOthers.setCell _ _ _).trans (KeepsOthers.setCell _ _ _)).trans (KeepsOthers.setCell _ _ _)).trans (KeepsOthers.setCell _ _ _)
              exact ⟨hko.from _, rfl, ⟨pre', ⟨f, hfl⟩, rfl, HNO2.out, hfx, HT.out, Blk.other (Blk.cast (((q1.set 0 _).set 1 _).set 2 _) (by simp)) (by simp) _, Blk.cast ((Blk.other (Blk.other (Blk.other q2 (by simp) _) (by simp) _) (by simp) _).set 0 _) (by simp), by exact kpt, hMZ.from (hko.from w.heap.size) (Nat.le_refl _)⟩, HKF.out.trans (hko.from _)⟩
            · have d4 : decide (HF < LF) = false := by simp; omega
              have d5 : decide ((f : Int) < (x : Int)) = false := by simp; omega
              have d6 : decide (f < x) = false := by simp; omega
              have HN := Lib.hid (show f ≤ x → clashB h k f x = false from fun hfx => by rw [HCT.out hfx]; simp; omega)
              clear k1 k2 k3
              gi_wp2
              refine ⟨KeepsFrom.refl _ _, KeptB.of_kept (Below.refl _ _) (by have := hkwY.size; omega) (by have := Blk.lt p5; omega) (by have := Blk.lt p8; omega), ⟨q0, q1, q2, hkZ, q4, hMZ, p6, p7, fun g hg hgx => ?_⟩, HKB.out, HKF.out, hsz2⟩
              rcases List.mem_append.1 hg with hg | hg
              · exact HNO2.out g hg hgx
              · obtain rfl : g = ⟨f, hfl⟩ := by simpa using hg
                exact HN.out hgx
          · have d1 : ((f : Int) == (x : Int)) = false := by simp; omega
            have d2 : (f == x) = false := by simp; omega
            have d3 : decide (f = x) = false := by simp; omega
            have d5 : decide ((f : Int) < (x : Int)) = true := by simp; omega
            have d6 : decide (f < x) = true := by simp; omega
            by_cases k3 : HF < LF
            · have d4 : decide (HF < LF) = true := by simp; omega
              have HN := Lib.hid (show f ≤ x → clashB h k f x = false from fun hfx => by rw [HCT.out hfx]; simp; omega)
              clear k1 k2 k3
              gi_wp2
              refine ⟨KeepsFrom.refl _ _, KeptB.of_kept (Below.refl _ _) (by have := hkwY.size; omega) (by have := Blk.lt p5; omega) (by have := Blk.lt p8; omega), ⟨q0, q1, q2, hkZ, q4, hMZ, p6, p7, fun g hg hgx => ?_⟩, HKB.out, HKF.out, hsz2⟩
              rcases List.mem_append.1 hg with hg | hg
              · exact HNO2.out g hg hgx
              · obtain rfl : g = ⟨f, hfl⟩ := by simpa using hg
                exact HN.out hgx
            · have d4 : decide (HF < LF) = false := by simp; omega
              by_cases k4 : LX ≤ HX
              · have d7 : decide (LX ≤ HX) = true := by simp; omega
                by_cases k5 : HF < LX
                · have d8 : decide (HF < LX) = true := by simp; omega
                  have hfx : f ≤ x := by omega
                  have HT := Lib.hid (show clashB h k f x = true by rw [HCT.out hfx]; simp; omega)
                  clear k1 k2 k3 k4 k5
                  gi_wp2
                  have hko : KeepsOthers Z ((((Z.setCell ⟨w.heap.size + 1, 0, none⟩ (.int .i64 k)).setCell ⟨w.heap.size + 1, 1, none⟩ (.int .i64 f)).setCell ⟨w.heap.size + 1, 2, none⟩ (.int .i64 x)).setCell ⟨w.heap.size + 1 + 1, 0, none⟩ (.int .i64 0)) := (((KeepsOthers.setCell _ _ _).trans (KeepsOthers.setCell _ _ _)).trans (KeepsOthers.setCell _ _ _)).trans (KeepsOthers.setCell _ _ _)
                  exact ⟨hko.from _, rfl, ⟨pre', ⟨f, hfl⟩, rfl, HNO2.out, hfx, HT.out, Blk.other (Blk.cast (((q1.set 0 _).set 1 _).set 2 _) (by simp)) (by simp) _, Blk.cast ((Blk.other (Blk.other (Blk.other q2 (by simp) _) (by simp) _) (by simp) _).set 0 _) (by simp), by exact kpt, hMZ.from (hko.from w.heap.size) (Nat.le_refl _)⟩, HKF.out.trans (hko.from _)⟩
                · have d8 : decide (HF < LX) = false := by simp; omega
                  have HN := Lib.hid (show f ≤ x → clashB h k f x = false from fun hfx => by rw [HCT.out hfx]; simp; omega)
                  clear k1 k2 k3 k4 k5
                  gi_wp2
                  refine ⟨KeepsFrom.refl _ _, KeptB.of_kept (Below.refl _ _) (by have := hkwY.size; omega) (by have := Blk.lt p5; omega) (by have := Blk.lt p8; omega), ⟨q0, q1, q2, hkZ, q4, hMZ, p6, p7, fun g hg hgx => ?_⟩, HKB.out, HKF.out, hsz2⟩
                  rcases List.mem_append.1 hg with hg | hg
                  · exact HNO2.out g hg hgx
                  · obtain rfl : g = ⟨f, hfl⟩ := by simpa using hg
                    exact HN.out hgx
              · have d7 : decide (LX ≤ HX) = false := by simp; omega
                have HN := Lib.hid (show f ≤ x → clashB h k f x = false from fun hfx => by rw [HCT.out hfx]; simp; omega)
                clear k1 k2 k3 k4
                gi_wp2
                refine ⟨KeepsFrom.refl _ _, KeptB.of_kept (Below.refl _ _) (by have := hkwY.size; omega) (by have := Blk.lt p5; omega) (by have := Blk.lt p8; omega), ⟨q0, q1, q2, hkZ, q4, hMZ, p6, p7, fun g hg hgx => ?_⟩, HKB.out, HKF.out, hsz2⟩
                rcases List.mem_append.1 hg with hg | hg
                · exact HNO2.out g hg hgx
                · obtain rfl : g = ⟨f, hfl⟩ := by simpa using hg
                  exact HN.out hgx
        · have d1 : ((f : Int) == (x : Int)) = false := by simp; omega
          have d2 : (f == x) = false := by simp; omega
          have d3 : decide (f = x) = false := by simp; omega
          have d5 : decide ((f : Int) < (x : Int)) = false := by simp; omega
          have d6 : decide (f < x) = false := by simp; omega
          have HN := Lib.hid (show f ≤ x → clashB h k f x = false from fun hfx => by exact absurd hfx k1)
          clear d3
          gi_wp2
          refine ⟨KeepsFrom.refl _ _, KeptB.of_kept (Below.refl _ _) (by have := hkwY.size; omega) (by have := Blk.lt p5; omega) (by have := Blk.lt p8; omega), ⟨q0, q1, q2, hkZ, q4, hMZ, p6, p7, fun g hg hgx => ?_⟩, HKB.out, HKF.out, hsz2⟩
          rcases List.mem_append.1 hg with hg | hg
          · exact HNO2.out g hg hgx
          · obtain rfl : g = ⟨f, hfl⟩ := by simpa using hg
            exact HN.out hgx
      case done2 =>
        rintro ys Z ⟨hup, hlen2⟩ ⟨⟨q0, q1, q2, hkZ, q4, hMZ, p6, p7, hno2⟩, hkb, hkf, hsz2⟩
        gi_wp2
        refine ⟨hkf, hkb, ⟨q0, q1, q2, hkZ, q4, hMZ, fun t ht f hft => ?_⟩, by have := hkf.size; omega⟩
        rcases List.mem_append.1 ht with ht | ht
        · exact HNO.out t ht f hft
        · obtain rfl : t = ⟨x, hxl⟩ := by simpa using ht
          exact hno2 ⟨f, by simp at hft; omega⟩ (hup.mem.2 (by simp at hft; rw [hlen2]; simp; omega)) hft
      case stop2 =>
        rintro c pre' Z hup ⟨rfl, ⟨pre1, f, rfl, hno2, hfx, hcl, hR⟩, hkf⟩
        obtain ⟨hup1, hfv⟩ := hup.init
        have hfl := f.isLt
        gi_wp2
        exact ⟨hkf, rfl, pre, ⟨x, hxl⟩, f.val, rfl, HNO.out, hfx, fun g hg => hno2 ⟨g, by omega⟩ (hup1.mem.2 (by simp; omega)) (by simp; omega), hcl, hR⟩
    case done =>
      rintro D ys X hD ⟨hup, hlen⟩ ⟨⟨q0, q1, q2, hkX, q4, hMX, hno⟩, hsz⟩ hK
      have hlM : ∀ E ∈ Ds, E < V.heap.size := fun E hE => (Array.getElem?_eq_some_iff.1 (hMV.2 E hE).2).1
      have hM3 : Marked w.heap.size (D :: Ds) X := by
        refine ⟨List.nodup_cons.2 ⟨fun h => by have := hlM D h; omega, hMX.1⟩, fun E hE => ?_⟩
        rcases List.mem_cons.1 hE with rfl | hE
        · exact ⟨by omega, hK⟩
        · exact hMX.2 E hE
      have hcl3 : Clear h (k + 1) 0 0 := fun c' t' f' h1 h2 h3 hx => by
        by_cases hck : c' < k
        · exact HCLR.out c' t' f' h1 h2 h3 (.inl hck)
        · obtain rfl : c' = k := by omega
          exact hno ⟨t', h2⟩ (hup.mem.2 (by rw [hlen]; exact h2)) f' h3
      have HM3 := Lib.hid hM3
      have HCL3 := Lib.hid hcl3
      clear hM3 hcl3 hno hMX k0 k1 k2 j4 j5 j6 hM1
      gi_wp2
      refine ⟨⟨k + 1, D :: Ds, ?_, by omega, HM3.out, ⟨q0, q1, q2, hkX⟩, HCL3.out⟩, ?_⟩
      · exact (conf_act _ rfl rfl rfl rfl rfl rfl rfl).imp fun u hu => congrArg (fun A => Act.mk A (marks (D :: Ds))) hu
      · simp [intOf]; omega
    case stop =>
      rintro D c pre X hD hup ⟨rfl, pre0, x, f, rfl, hno, hfx, hlt, hcl, hR⟩ hK
      obtain ⟨hup0, hxv⟩ := hup.init
      have hxl := x.isLt
      have hlM : ∀ E ∈ Ds, E < V.heap.size := fun E hE => (Array.getElem?_eq_some_iff.1 (hMV.2 E hE).2).1
      have HC := Lib.hid (cf_some HB.out (Clear.found (c := k) (t := x.val) (f := f) (fun c' t' f' h1 h2 h3 hx => by
        by_cases hck : c' < k
        · exact HCLR.out c' t' f' h1 h2 h3 (.inl hck)
        · by_cases htx : t' < x.val
          · obtain rfl : c' = k := by omega
            exact hno ⟨t', h2⟩ (hup0.mem.2 (by simp; omega)) f' h3
          · obtain ⟨rfl, rfl⟩ : c' = k ∧ t' = x.val := by omega
            exact hlt f' (by omega)) hc hxl hfx hcl))
      gi_wp2
      refine leaves_marks (B := w.heap.size) (fun W => ConfR w k f x.val [] W) (confR_from (V := w) ⟨by simp, by simp⟩ (Nat.le_refl _) (Nat.le_refl _)) ?_ (D :: Ds) X ⟨List.nodup_cons.2 ⟨fun h => by have := hlM D h; omega, hR.2.2.2.1⟩, fun E hE => ?_⟩ ⟨hR.1, hR.2.1, hR.2.2.1, ⟨by simp, by simp⟩⟩
      · rintro W5 ⟨e1, e2, hkp, _⟩
        have e1c0 := e1.cell 0
        have e1f0 := e1.free 0
        have e1c1 := e1.cell 1
        have e1f1 := e1.free 1
        have e1c2 := e1.cell 2
        have e1f2 := e1.free 2
        have e1l := e1.lt
        simp at e1c0 e1c1 e1c2
        have e2c0 := e2.cell 0
        have e2f0 := e2.free 0
        have e2l := e2.lt
        simp at e2c0
        exact ⟨.tuple #[.agg #[.int .i64 k, .int .i64 f, .int .i64 x.val], .int .i64 0], by simp [results, Try.results62, go_sem, e1c0, e1c1, e1c2, e2c0], by rw [HC.out.1, HC.out.2.1, HC.out.2.2.1, HC.out.2.2.2], hkp⟩
      · rcases List.mem_cons.1 hE with rfl | hE
        · exact ⟨by omega, hK⟩
        · exact hR.2.2.2.2 E hE
  · obtain rfl : k = h.warm.length := by omega
    have HC := Lib.hid (cf_none HB.out HCLR.out.none)
    have k1c0 := k1.cell 0
    have k1f0 := k1.free 0
    have k1c1 := k1.cell 1
    have k1f1 := k1.free 1
    have k1c2 := k1.cell 2
    have k1f2 := k1.free 2
    have k1l := k1.lt
    simp at k1c0 k1c1 k1c2
    have k2c0 := k2.cell 0
    have k2f0 := k2.free 0
    have k2l := k2.lt
    simp at k2c0
    gi_wp2
    refine leaves_marks (B := w.heap.size) (fun W => Blk W (w.heap.size + 1) #[.int .i64 0, .int .i64 0, .int .i64 0] 99 ∧ Blk W (w.heap.size + 1 + 1) #[.int .i64 6] 28 ∧ Kept w W) (OwnFrom.and (blk_from _ _ _ _) (OwnFrom.and (blk_from _ _ _ _) (ownFrom_below (Nat.le_refl _) (Nat.le_refl _)))) ?_ Ds _ (hM.from (((((KeepsOthers.setCell _ _ _).trans (KeepsOthers.setCell _ _ _)).trans (KeepsOthers.setCell _ _ _)).trans (KeepsOthers.setCell _ _ _)).from w.heap.size) (Nat.le_refl _)) ⟨Blk.other (Blk.cast (((k1.set 0 _).set 1 _).set 2 _) (by simp)) (by simp) _, Blk.cast ((Blk.other (Blk.other (Blk.other k2 (by simp) _) (by simp) _) (by simp) _).set 0 _) (by simp), by exact kpt⟩
    rintro W5 ⟨e1, e2, hkp⟩
    have e1c0 := e1.cell 0
    have e1f0 := e1.free 0
    have e1c1 := e1.cell 1
    have e1f1 := e1.free 1
    have e1c2 := e1.cell 2
    have e1f2 := e1.free 2
    have e1l := e1.lt
    simp at e1c0 e1c1 e1c2
    have e2c0 := e2.cell 0
    have e2f0 := e2.free 0
    have e2l := e2.lt
    simp at e2c0
    exact ⟨.tuple #[.agg #[.int .i64 0, .int .i64 0, .int .i64 0], .int .i64 6], by simp [results, Try.results62, go_sem, e1c0, e1c1, e1c2, e2c0], by rw [HC.out.1, HC.out.2.1, HC.out.2.2.1, HC.out.2.2.2], hkp⟩
theorem f_Conflict (h : Hist) (s : Spot) (w : World) (hh : HistAt h s w) :
    Calls Try.prog 62 #[.agg #[.slice s.aw h.warm.length s.cw, .slice s.ag h.gauges.length s.cg, .slice s.af h.flows.length s.cf]] w fun e w' => e = .returned (.tuple #[.agg #[.int .i64 (cfC h), .int .i64 (cfF h), .int .i64 (cfT h)], .int .i64 (confE h)]) ∧ Kept w w' := by
  cases hb : histB h
  · exact f_Conflict_bad h s w hh hb
  · exact f_Conflict_ok h s w hh hb

end Go.Proofs.Ytemafanncejeiaa

/-
  A slice that the call owns, beside blocks of another type. No program in sight.
-/
namespace Bal
open Go Go.RowKit
theorem Blk.grown {w w' : World} {b base k n : Nat} {arr : Array Value} {t e : TypeId} {v : Value} {xs : List Value} (h : Blk w b arr t) (ho : w.ownsRow base e k v n xs) (hne : t ≠ e) (hg : w.grownBy w' v.ownBlock) : Blk w' b arr t := by
  have hl := h.lt
  unfold Blk at *
  rw [hg.block b hl ?_]
  · exact h
  · intro he
    obtain ⟨_, ⟨rfl, _⟩ | ⟨g, cap, cur, rfl, _, hh, _⟩⟩ := ho
    · cases he
    · simp only [Value.ownBlock, Option.some.injEq] at he
      subst he
      rw [h] at hh
      simp only [Option.some.injEq, Obj.cells.injEq] at hh
      exact hne hh.2.1
theorem Kept.grown {w0 w w' : World} {base k n : Nat} {e : TypeId} {v : Value} {xs : List Value} (h : Kept w0 w) (ho : w.ownsRow base e k v n xs) (hb : w0.heap.size ≤ base) (hg : w.grownBy w' v.ownBlock) : Kept w0 w' := by
  refine Below.trans h ⟨hg.os, hg.tape, hg.output, hg.size, fun i hi => hg.block i (Nat.lt_of_lt_of_le hi h.size) fun he => ?_⟩
  obtain ⟨_, ⟨rfl, _⟩ | ⟨g, cap, cur, rfl, hbg, _, _⟩⟩ := ho
  · cases he
  · simp only [Value.ownBlock, Option.some.injEq] at he
    omega
end Bal

/-
  A slice that the call owns: stores into its elements; blocks beside it, of whatever type. No program in sight.
-/
namespace Bal
open Go Go.RowKit
theorem flatMap_setP {α : Type} {enc : α → List Value} {k : Nat} (he : ∀ x, (enc x).length = k) : ∀ (xs : List α) (i : Nat) (c c' : α) (j : Nat) (u : Value), xs[i]? = some c → j < k → enc c' = (enc c).set j u →
    (xs.set i c').flatMap enc = (xs.flatMap enc).set (i * k + j) u
  | [], i, c, c', j, u, h, _, _ => by simp at h
  | y :: ys, 0, c, c', j, u, h, hj, hc => by
    simp at h
    subst h
    rw [List.set_cons_zero, List.flatMap_cons, List.flatMap_cons, hc, Nat.zero_mul, Nat.zero_add, List.set_append_left _ _ (by rw [he]; exact hj)]
  | y :: ys, i + 1, c, c', j, u, h, hj, hc => by
    have ih := flatMap_setP he ys i c c' j u (by simpa using h) hj hc
    rw [List.set_cons_succ, List.flatMap_cons, List.flatMap_cons, ih, List.set_append_right _ _ (by rw [he, Nat.succ_mul]; omega), he]
    congr 2
    rw [Nat.succ_mul]; omega
theorem owns_ge {w : World} {base k n b : Nat} {e : TypeId} {v : Value} {xs : List Value} (ho : w.ownsRow base e k v n xs) (h : b < base) : v.ownBlock ≠ some b := by
  obtain ⟨_, ⟨rfl, _⟩ | ⟨g, cap, cur, rfl, hg, _⟩⟩ := ho
  · simp [Value.ownBlock]
  · simp only [Value.ownBlock, ne_eq, Option.some.injEq]; omega
theorem owns_newer {w : World} {base k n b : Nat} {e : TypeId} {v : Value} {xs : List Value} (ho : w.ownsRow base e k v n xs) (h : w.heap.size ≤ b) : v.ownBlock ≠ some b := by
  obtain ⟨_, ⟨rfl, _⟩ | ⟨g, cap, cur, rfl, hg, hh, _⟩⟩ := ho
  · simp [Value.ownBlock]
  · simp only [Value.ownBlock, ne_eq, Option.some.injEq]
    have : g < w.heap.size := Blk.lt (show Blk w g cur e from hh)
    omega
theorem Blk.grownN {w w' : World} {b : Nat} {arr : Array Value} {t : TypeId} {v : Value} (h : Blk w b arr t) (hne : v.ownBlock ≠ some b) (hg : w.grownBy w' v.ownBlock) : Blk w' b arr t :=
  (hg.block b h.lt (fun e => hne e.symm)).trans h
theorem Kept.grownB {w0 w w' : World} {base k n : Nat} {e : TypeId} {v : Value} {xs : List Value} (h : Kept w0 w) (ho : w.ownsRow base e k v n xs) (hb : w0.heap.size ≤ base) (hg : w.grownBy w' v.ownBlock) : Kept w0 w' := Kept.grown h ho hb hg
/-- the block of a row that is not nil -/
theorem owns_block {w : World} {base k n : Nat} {e : TypeId} {v : Value} {xs : List Value} (ho : w.ownsRow base e k v n xs) (hn : 0 < n) : ∃ g cap cur, v = .slice (some ⟨g, 0, none⟩) n cap ∧ base ≤ g ∧ Blk w g cur e ∧ n ≤ cap ∧ cap ≤ maxLen := by
  obtain ⟨_, ⟨_, h⟩ | ⟨g, cap, cur, hv, hg, hh, h1, h2, _⟩⟩ := ho
  · omega
  · exact ⟨g, cap, cur, hv, hg, hh, h1, h2⟩
theorem owns_cur {w : World} {base k n g m cap : Nat} {e : TypeId} {xs : List Value} (ho : w.ownsRow base e k (.slice (some ⟨g, 0, none⟩) m cap) n xs) : base ≤ g ∧ Blk w g (((w.heap[g]?).bind fun o => match o with | .cells c _ _ => some c | _ => none).getD #[]) e := by
  obtain ⟨_, ⟨h, _⟩ | ⟨g', cap', cur, hv, hg, hh, _⟩⟩ := ho
  · cases h
  · simp only [Value.slice.injEq, Option.some.injEq, Addr.mk.injEq, and_true] at hv
    obtain ⟨rfl, _, _⟩ := hv
    refine ⟨hg, ?_⟩
    rw [hh]
    exact hh
/-- a store into one element's field -/
theorem owns_put {α : Type} {enc : α → List Value} {k : Nat} (he : ∀ x, (enc x).length = k) {w : World} {base g n cap : Nat} {e : TypeId} {xs : List α} {i j : Nat} {c : α} {u : Value} (c' : α)
    (ho : w.ownsRow base e k (.slice (some ⟨g, 0, none⟩) n cap) xs.length (xs.flatMap enc)) (hx : xs[i]? = some c) (hj : j < k) (hc : enc c' = (enc c).set j u) :
    (w.setCell ⟨g, i * k + j, none⟩ u).ownsRow base e k (.slice (some ⟨g, 0, none⟩) n cap) (xs.set i c').length ((xs.set i c').flatMap enc) := by
  obtain ⟨h1, ⟨h2, _⟩ | ⟨g', cap', cur, hv, hg, hh, h3, h4, h5, h6⟩⟩ := ho
  · cases h2
  · simp only [Value.slice.injEq, Option.some.injEq, Addr.mk.injEq, and_true, true_and] at hv
    obtain ⟨rfl, rfl, rfl⟩ := hv
    have hi : i < xs.length := (List.getElem?_eq_some_iff.1 hx).1
    refine ⟨by rw [List.length_set, flatMap_len he, List.length_set], .inr ⟨g, cap, cur.setIfInBounds (i * k + j) u, by simp, hg, Blk.set (show Blk w g cur e from hh) _ _, by simpa using h3, h4, by simpa using h5, ?_⟩⟩
    rw [Array.toList_setIfInBounds, List.length_set, List.take_set, h6, flatMap_setP he xs i c c' j u hx hj hc]
end Bal

/-
  Rows of elements: parts of them, equal lists, what a call owns. No program in sight.
-/
namespace Bal
open Go Go.RowKit
/-- the first elements of a row -/
theorem Row.take {α : Type} {enc : α → List Value} {k B : Nat} {w : World} {a : Option Addr} {xs : List α} (h : Row enc k B w a xs) (n : Nat) : Row enc k B w a (xs.take n) := by
  intro i x hx
  rw [List.getElem?_take] at hx
  split at hx
  · exact h i x hx
  · cases hx
theorem Row.one {α : Type} {enc : α → List Value} {k : Nat} {w : World} {b : Nat} {arr : Array Value} {t : TypeId} {x : α} (h : Blk w b arr t) (he : arr.toList = enc x) : Row enc k w.heap.size w (some ⟨b, 0, none⟩) [x] := by
  intro j y hy
  have hj : j = 0 := by
    have := (List.getElem?_eq_some_iff.1 hy).1
    simp at this; omega
  subst hj
  simp at hy
  subst hy
  exact ⟨b, 0, rfl, h.lt, fun j v hv => by simp only [Nat.zero_mul, Nat.zero_add]; rw [h.cell, ← Array.getElem?_toList, he]; exact hv⟩
/-- a block of several elements as a row -/
theorem Row.block {α : Type} {enc : α → List Value} {k : Nat} {w : World} {b : Nat} {arr : Array Value} {t : TypeId} {xs : List α} (he : ∀ x, (enc x).length = k) (h : Blk w b arr t) (ha : arr.toList = xs.flatMap enc) : Row enc k w.heap.size w (some ⟨b, 0, none⟩) xs := by
  intro i x hx
  refine ⟨b, 0, rfl, h.lt, fun j v hj => ?_⟩
  have hjk : j < k := by rw [← he x]; exact (List.getElem?_eq_some_iff.1 hj).1
  rw [h.cell, Nat.zero_add, ← Array.getElem?_toList, ha, flatMap_get he xs i x hx j hjk]
  exact hj
theorem cell_two_at {w : World} {n : Nat} (h : n = w.heap.size) (a b : Value) (t : TypeId) : ∀ j u, [a, b][j]? = some u → (w.alloc (.cells #[a, b] t)).cell? ((⟨n, 0, none⟩ : Addr).add j) = some u := h ▸ cell_two_new w a b t
theorem cell_one_at {w : World} {n : Nat} (h : n = w.heap.size) (a : Value) (t : TypeId) : ∀ j u, [a][j]? = some u → (w.alloc (.cells #[a] t)).cell? ((⟨n, 0, none⟩ : Addr).add j) = some u := by
  subst h
  intro j u hj
  have hj0 : j = 0 := by
    have := (List.getElem?_eq_some_iff.1 hj).1
    simp at this; omega
  subst hj0
  simp at hj
  subst hj
  simp [Addr.add]
theorem owns_setB {w : World} {base k n b i : Nat} {e : TypeId} {v u : Value} {xs : List Value} (ho : w.ownsRow base e k v n xs) (hne : v.ownBlock ≠ some b) : (w.setCell ⟨b, i, none⟩ u).ownsRow base e k v n xs := by
  obtain ⟨h1, h2 | ⟨g, cap, cur, hv, hg, hh, r⟩⟩ := ho
  · exact ⟨h1, .inl h2⟩
  · refine ⟨h1, .inr ⟨g, cap, cur, hv, hg, ?_, r⟩⟩
    have hgb : b ≠ g := by
      rintro rfl
      exact hne (by rw [hv]; rfl)
    exact Blk.other (w := w) (b := g) (arr := cur) (t := e) (a := ⟨b, i, none⟩) hh (by simpa using hgb) u
/-- a slice that a call owns, as a row at an address; nil if it is empty and unmade -/
theorem owns_row {α : Type} {enc : α → List Value} {k base : Nat} {e : TypeId} {w : World} {v : Value} {xs : List α} (he : ∀ x, (enc x).length = k) (h : w.ownsRow base e k v xs.length (xs.flatMap enc)) :
    ∃ a cap, v = .slice a xs.length cap ∧ Row enc k w.heap.size w a xs ∧ xs.length ≤ cap ∧ cap ≤ maxLen := Row.of_owns he h
end Bal

/-
  What has leaked: the program.
-/
namespace Go.Proofs.Ytemafanncejeiaa
open Go.RowKit Bal Bal.Trim Bal.Gas
set_option linter.unusedVariables false
set_option linter.unusedSimpArgs false
set_option maxHeartbeats 4000000
set_option maxRecDepth 100000
attribute [local go_sem] ite_max ite_min

theorem infoSp : (Try.prog.info? 23).map (fun i => (i.zero, i.size, i.bytes)) = some (some (.agg #[.int .i64 0, .int .i64 0]), 2, 16) := by kernel_rfl

theorem f_Leaks_bad (h : Hist) (s : Spot) (x y : Int) (w : World) (hh : HistAt h s w) (hb : histB h = false) :
    Calls Try.prog 58 #[.agg #[.slice s.aw h.warm.length s.cw, .slice s.ag h.gauges.length s.cg, .slice s.af h.flows.length s.cf], .agg #[.int .i64 x, .int .i64 y]] w fun e w' => ∃ v, e = .returned (.tuple #[v, .int .i64 (34)]) ∧ w'.ownsRow w.heap.size 23 2 (v) (([] : List Sp)).length ((([] : List Sp)).flatMap Sp.cells) ∧ Kept w w' := by
  have HE := Lib.hid (show histE h = 34 by unfold histE; rw [hb]; rfl)
  clear hb
  go_enter Try.func58, Try.ntmps58
  go_wp2_with (go_at_call 64; (with_reducible refine (f_CheckHistory h s _ (hh.later (by (exact kpt)))).mono ?_); rw [HE.out]; rintro e w1 ⟨rfl, hb1⟩; refine Blk.thru (b := w.heap.size) (arr := ?_) (t := ?_) ?_ hb1 ?_; rotate_left 2; (focus (exact blk)); intro ra; have rac0 := ra.cell 0; have raf0 := ra.free 0; have rac1 := ra.cell 1; have raf1 := ra.free 1; have rac2 := ra.cell 2; have raf2 := ra.free 2; have ral := ra.lt; simp at rac0 rac1 rac2; refine Blk.thru (b := w.heap.size + 1) (arr := ?_) (t := ?_) ?_ hb1 ?_; rotate_left 2; (focus (exact blk)); intro rc; have rcc0 := rc.cell 0; have rcf0 := rc.free 0; have rcc1 := rc.cell 1; have rcf1 := rc.free 1; have rcl := rc.lt; simp at rcc0 rcc1)
  exact bodyPost_ret (v := .tuple #[.slice none 0 0, .int .i64 34]) (by simp [results, Try.results58, go_sem]) rfl ⟨.slice none 0 0, rfl, owns_nil (α := Sp) (enc := Sp.cells), by (exact kpt)⟩

theorem f_Leaks_arg (h : Hist) (s : Spot) (x y : Int) (w : World) (hh : HistAt h s w) (hb : histB h = true) (hs : spanIn x y 0 1000000000000 = false) :
    Calls Try.prog 58 #[.agg #[.slice s.aw h.warm.length s.cw, .slice s.ag h.gauges.length s.cg, .slice s.af h.flows.length s.cf], .agg #[.int .i64 x, .int .i64 y]] w fun e w' => ∃ v, e = .returned (.tuple #[v, .int .i64 (2)]) ∧ w'.ownsRow w.heap.size 23 2 (v) (([] : List Sp)).length ((([] : List Sp)).flatMap Sp.cells) ∧ Kept w w' := by
  have HE := Lib.hid (show histE h = 0 by unfold histE; rw [hb]; rfl)
  have HS := Lib.hid hs
  clear hb hs
  go_enter Try.func58, Try.ntmps58
  go_wp2_with (first | (go_at_call 64; (with_reducible refine (f_CheckHistory h s _ (hh.later (by (exact kpt)))).mono ?_); rw [HE.out]; rintro e w1 ⟨rfl, hb1⟩; refine Blk.thru (b := w.heap.size) (arr := ?_) (t := ?_) ?_ hb1 ?_; rotate_left 2; (focus (exact blk)); intro ra; have rac0 := ra.cell 0; have raf0 := ra.free 0; have rac1 := ra.cell 1; have raf1 := ra.free 1; have rac2 := ra.cell 2; have raf2 := ra.free 2; have ral := ra.lt; simp at rac0 rac1 rac2; refine Blk.thru (b := w.heap.size + 1) (arr := ?_) (t := ?_) ?_ hb1 ?_; rotate_left 2; (focus (exact blk)); intro rc; have rcc0 := rc.cell 0; have rcf0 := rc.free 0; have rcc1 := rc.cell 1; have rcf1 := rc.free 1; have rcl := rc.lt; simp at rcc0 rcc1) | (go_at_call 88; (with_reducible refine (f_span x y _ _ _).mono ?_); rw [HS.out]; rintro e w2 ⟨rfl, hb2⟩; refine Blk.thru (b := w.heap.size) (arr := ?_) (t := ?_) ?_ hb2 ?_; rotate_left 2; (focus (exact blk)); intro rb; have rbc0 := rb.cell 0; have rbf0 := rb.free 0; have rbc1 := rb.cell 1; have rbf1 := rb.free 1; have rbc2 := rb.cell 2; have rbf2 := rb.free 2; have rbl := rb.lt; simp at rbc0 rbc1 rbc2; refine Blk.thru (b := w.heap.size + 1) (arr := ?_) (t := ?_) ?_ hb2 ?_; rotate_left 2; (focus (exact blk)); intro rd; have rdc0 := rd.cell 0; have rdf0 := rd.free 0; have rdc1 := rd.cell 1; have rdf1 := rd.free 1; have rdl := rd.lt; simp at rdc0 rdc1))
  exact bodyPost_ret (v := .tuple #[.slice none 0 0, .int .i64 2]) (by simp [results, Try.results58, go_sem]) rfl ⟨.slice none 0 0, rfl, owns_nil (α := Sp) (enc := Sp.cells), by (exact kpt)⟩

theorem f_Leaks_conf (h : Hist) (s : Spot) (x y : Int) (w : World) (hh : HistAt h s w) (hb : histB h = true) (hs : spanIn x y 0 1000000000000 = true) (hc : confE h = 0) :
    Calls Try.prog 58 #[.agg #[.slice s.aw h.warm.length s.cw, .slice s.ag h.gauges.length s.cg, .slice s.af h.flows.length s.cf], .agg #[.int .i64 x, .int .i64 y]] w fun e w' => ∃ v, e = .returned (.tuple #[v, .int .i64 (6)]) ∧ w'.ownsRow w.heap.size 23 2 (v) (([] : List Sp)).length ((([] : List Sp)).flatMap Sp.cells) ∧ Kept w w' := by
  have HE := Lib.hid (show histE h = 0 by unfold histE; rw [hb]; rfl)
  have HS := Lib.hid hs
  have HC := Lib.hid hc
  clear hb hs hc
  go_enter Try.func58, Try.ntmps58
  go_wp2_with (first | (go_at_call 64; (with_reducible refine (f_CheckHistory h s _ (hh.later (by (exact kpt)))).mono ?_); rw [HE.out]; rintro e w1 ⟨rfl, hb1⟩; refine Blk.thru (b := w.heap.size) (arr := ?_) (t := ?_) ?_ hb1 ?_; rotate_left 2; (focus (exact blk)); intro ra; have rac0 := ra.cell 0; have raf0 := ra.free 0; have rac1 := ra.cell 1; have raf1 := ra.free 1; have rac2 := ra.cell 2; have raf2 := ra.free 2; have ral := ra.lt; simp at rac0 rac1 rac2; refine Blk.thru (b := w.heap.size + 1) (arr := ?_) (t := ?_) ?_ hb1 ?_; rotate_left 2; (focus (exact blk)); intro rc; have rcc0 := rc.cell 0; have rcf0 := rc.free 0; have rcc1 := rc.cell 1; have rcf1 := rc.free 1; have rcl := rc.lt; simp at rcc0 rcc1) | (go_at_call 88; (with_reducible refine (f_span x y _ _ _).mono ?_); rw [HS.out]; rintro e w2 ⟨rfl, hb2⟩; refine Blk.thru (b := w.heap.size) (arr := ?_) (t := ?_) ?_ hb2 ?_; rotate_left 2; (focus (exact blk)); intro rb; have rbc0 := rb.cell 0; have rbf0 := rb.free 0; have rbc1 := rb.cell 1; have rbf1 := rb.free 1; have rbc2 := rb.cell 2; have rbf2 := rb.free 2; have rbl := rb.lt; simp at rbc0 rbc1 rbc2; refine Blk.thru (b := w.heap.size + 1) (arr := ?_) (t := ?_) ?_ hb2 ?_; rotate_left 2; (focus (exact blk)); intro rd; have rdc0 := rd.cell 0; have rdf0 := rd.free 0; have rdc1 := rd.cell 1; have rdf1 := rd.free 1; have rdl := rd.lt; simp at rdc0 rdc1) | (go_at_call 62; (with_reducible refine (f_Conflict h s _ (hh.later (by (exact kpt)))).mono ?_); rw [HC.out]; rintro e w3 ⟨rfl, hb3⟩; refine Blk.thru (b := w.heap.size) (arr := ?_) (t := ?_) ?_ hb3 ?_; rotate_left 2; (focus (exact blk)); intro re; have rec0 := re.cell 0; have ref0 := re.free 0; have rec1 := re.cell 1; have ref1 := re.free 1; have rec2 := re.cell 2; have ref2 := re.free 2; have rel := re.lt; simp at rec0 rec1 rec2; refine Blk.thru (b := w.heap.size + 1) (arr := ?_) (t := ?_) ?_ hb3 ?_; rotate_left 2; (focus (exact blk)); intro rg; have rgc0 := rg.cell 0; have rgf0 := rg.free 0; have rgc1 := rg.cell 1; have rgf1 := rg.free 1; have rgl := rg.lt; simp at rgc0 rgc1))
  exact bodyPost_ret (v := .tuple #[.slice none 0 0, .int .i64 6]) (by simp [results, Try.results58, go_sem]) rfl ⟨.slice none 0 0, rfl, owns_nil (α := Sp) (enc := Sp.cells), by (exact kpt)⟩

theorem f_Leaks_main (h : Hist) (s : Spot) (x y : Int) (w : World) (hh : HistAt h s w) (hb : histB h = true) (hs : spanIn x y 0 1000000000000 = true) (hc : confE h ≠ 0) :
    Calls Try.prog 58 #[.agg #[.slice s.aw h.warm.length s.cw, .slice s.ag h.gauges.length s.cg, .slice s.af h.flows.length s.cf], .agg #[.int .i64 x, .int .i64 y]] w fun e w' => ∃ v, e = .returned (.tuple #[v, .int .i64 (leaksE h x y)]) ∧ w'.ownsRow w.heap.size 23 2 (v) (leaksL h x y).length ((leaksL h x y).flatMap Sp.cells) ∧ Kept w w' := by
  have HE := Lib.hid (show histE h = 0 by unfold histE; rw [hb]; rfl)
  have ho := histB_ok hb
  have HLE := Lib.hid (leaks_free hb hs hc)
  have xy := span3 hs
  have hw1 := ho.w1
  have hw2 := ho.w2
  have hcw := hh.wc
  have hcm := hh.wm
  unfold maxLen at hcm
  have HO := Lib.hid ho
  have HS := Lib.hid hs
  have hcn : (confE h == 0) = false := by simp [hc]
  have HC := Lib.hid (Eq.refl (confE h))
  have HAB := Lib.hid (fun k hk => all_bd ho k hk)
  have HLB := Lib.hid (fun (c : Nat) (hc : c < h.warm.length) => lost_bd ho hc)
  clear hb hs hc ho
  go_enter Try.func58, Try.ntmps58
  go_wp2_with (first | (go_at_call 64; (with_reducible refine (f_CheckHistory h s _ (hh.later (by (exact kpt)))).mono ?_); rw [HE.out]; rintro e w1 ⟨rfl, hb1⟩; refine Blk.thru (b := w.heap.size) (arr := ?_) (t := ?_) ?_ hb1 ?_; rotate_left 2; (focus (exact blk)); intro ra; have rac0 := ra.cell 0; have raf0 := ra.free 0; have rac1 := ra.cell 1; have raf1 := ra.free 1; have rac2 := ra.cell 2; have raf2 := ra.free 2; have ral := ra.lt; simp at rac0 rac1 rac2; refine Blk.thru (b := w.heap.size + 1) (arr := ?_) (t := ?_) ?_ hb1 ?_; rotate_left 2; (focus (exact blk)); intro rc; have rcc0 := rc.cell 0; have rcf0 := rc.free 0; have rcc1 := rc.cell 1; have rcf1 := rc.free 1; have rcl := rc.lt; simp at rcc0 rcc1) | (go_at_call 88; (with_reducible refine (f_span x y _ _ _).mono ?_); rw [HS.out]; rintro e w2 ⟨rfl, hb2⟩; refine Blk.thru (b := w.heap.size) (arr := ?_) (t := ?_) ?_ hb2 ?_; rotate_left 2; (focus (exact blk)); intro rb; have rbc0 := rb.cell 0; have rbf0 := rb.free 0; have rbc1 := rb.cell 1; have rbf1 := rb.free 1; have rbc2 := rb.cell 2; have rbf2 := rb.free 2; have rbl := rb.lt; simp at rbc0 rbc1 rbc2; refine Blk.thru (b := w.heap.size + 1) (arr := ?_) (t := ?_) ?_ hb2 ?_; rotate_left 2; (focus (exact blk)); intro rd; have rdc0 := rd.cell 0; have rdf0 := rd.free 0; have rdc1 := rd.cell 1; have rdf1 := rd.free 1; have rdl := rd.lt; simp at rdc0 rdc1) | (go_at_call 62; (with_reducible refine (f_Conflict h s _ (hh.later (by (exact kpt)))).mono ?_); rintro e w3 ⟨rfl, hb3⟩; refine Blk.thru (b := w.heap.size) (arr := ?_) (t := ?_) ?_ hb3 ?_; rotate_left 2; (focus (exact blk)); intro re; have rec0 := re.cell 0; have ref0 := re.free 0; have rec1 := re.cell 1; have ref1 := re.free 1; have rec2 := re.cell 2; have ref2 := re.free 2; have rel := re.lt; simp at rec0 rec1 rec2; refine Blk.thru (b := w.heap.size + 1) (arr := ?_) (t := ?_) ?_ hb3 ?_; rotate_left 2; (focus (exact blk)); intro rg; have rgc0 := rg.cell 0; have rgf0 := rg.free 0; have rgc1 := rg.cell 1; have rgf1 := rg.free 1; have rgl := rg.lt; simp at rgc0 rgc1))
  refine at_world (S := fun V => Blk V w.heap.size #[.slice s.aw h.warm.length s.cw, .slice s.ag h.gauges.length s.cg, .slice s.af h.flows.length s.cf] 85 ∧ Blk V (w.heap.size + 1) #[.int .i64 x, .int .i64 y] 23 ∧ Blk V (w3.heap.size + 1) #[.int .i64 0, .int .i64 0] 23 ∧ Kept w V ∧ w3.heap.size + 1 + 1 ≤ V.heap.size) ⟨by (exact blkc), by (exact blkc), by (exact blkc), by (exact kpt), by simp⟩ ?_
  clear re rg rec0 ref0 rec1 ref1 rec2 ref2 rel rgc0 rgf0 rgc1 rgf1 rgl
  rintro V ⟨q0, q1, qt, hkV, hVs⟩
  go_loopw [9, 33] (fun l i wr => ∃ k : Nat, k ≤ h.warm.length ∧ i = .int .i64 k ∧ wr.ownsRow (w3.heap.size + 1 + 1) 23 2 l (partL h k).length ((partL h k).flatMap Sp.cells) ∧ Blk wr w.heap.size #[.slice s.aw h.warm.length s.cw, .slice s.ag h.gauges.length s.cg, .slice s.af h.flows.length s.cf] 85 ∧ Blk wr (w.heap.size + 1) #[.int .i64 x, .int .i64 y] 23 ∧ Blk wr (w3.heap.size + 1) #[.int .i64 (allLo h k), .int .i64 (allHi h k)] 23 ∧ Kept w wr ∧ w3.heap.size + 1 + 1 ≤ wr.heap.size) (fun _ i _ => h.warm.length - (intOf i).toNat)
  case atStart => exact ⟨0, Nat.zero_le _, rfl, owns_nil (α := Sp) (enc := Sp.cells), q0, q1, qt, hkV, hVs⟩
  case round =>
    clear q0 q1 qt hkV hVs
    obtain ⟨k, hk, rfl, hown, q0, q1, qt, hkr, hrs⟩ := hrel
    have hw3 := hb3.size
    by_cases hlt : k < h.warm.length
    · obtain ⟨AL, hAL⟩ : ∃ n, n = allLo h k := ⟨_, rfl⟩
      obtain ⟨AH, hAH⟩ : ∃ n, n = allHi h k := ⟨_, rfl⟩
      obtain ⟨LL, hLL⟩ : ∃ n, n = lostLo h k := ⟨_, rfl⟩
      obtain ⟨LH, hLH⟩ : ∃ n, n = lostHi h k := ⟨_, rfl⟩
      have ab := HAB.out k hk
      have lb := HLB.out k hlt
      rw [← hAL, ← hAH] at ab qt
      rw [← hLL, ← hLH] at lb
      have EL := Lib.hid hLL.symm
      have EH := Lib.hid hLH.symm
      have EAL := Lib.hid (show allLo h (k + 1) = AL + LL by rw [allLo_succ, hAL, hLL])
      have EAH := Lib.hid (show allHi h (k + 1) = AH + LH by rw [allHi_succ, hAH, hLH])
      clear hAL hAH hLL hLH
      have w1_ := i64_inH (n := AL + LL) (by omega)
      have w2_ := i64_inH (n := AH + LH) (by omega)
      have q0c0 := q0.cell 0
      have q0f0 := q0.free 0
      have q0c1 := q0.cell 1
      have q0f1 := q0.free 1
      have q0c2 := q0.cell 2
      have q0f2 := q0.free 2
      have q0l := q0.lt
      simp at q0c0 q0c1 q0c2
      have q1c0 := q1.cell 0
      have q1f0 := q1.free 0
      have q1c1 := q1.cell 1
      have q1f1 := q1.free 1
      have q1l := q1.lt
      simp at q1c0 q1c1
      have qtc0 := qt.cell 0
      have qtf0 := qt.free 0
      have qtc1 := qt.cell 1
      have qtf1 := qt.free 1
      have qtl := qt.lt
      simp at qtc0 qtc1
      have hzs : w3.heap.size + 1 < wr.heap.size := by omega
      have hpl := Lib.hid (partL_len h k)
      go_wp2_with (first | (go_at_call 128; (with_reducible refine (f_lost h s _ (hh.later (by (exact kpt))) HO.out k hlt).mono ?_); rw [EL.out, EH.out]; rintro e w4 ⟨rfl, hb4⟩; have hown4 := owns_keep hown (by with_reducible assumption); refine Blk.thru (b := w.heap.size) (arr := ?_) (t := ?_) ?_ hb4 ?_; rotate_left 2; (focus (exact blk)); intro ra; have rac0 := ra.cell 0; have raf0 := ra.free 0; have rac1 := ra.cell 1; have raf1 := ra.free 1; have rac2 := ra.cell 2; have raf2 := ra.free 2; have ral := ra.lt; simp at rac0 rac1 rac2; refine Blk.thru (b := w.heap.size + 1) (arr := ?_) (t := ?_) ?_ hb4 ?_; rotate_left 2; (focus (exact blk)); intro rb; have rbc0 := rb.cell 0; have rbf0 := rb.free 0; have rbc1 := rb.cell 1; have rbf1 := rb.free 1; have rbl := rb.lt; simp at rbc0 rbc1; refine Blk.thru (b := w3.heap.size + 1) (arr := ?_) (t := ?_) ?_ hb4 ?_; rotate_left 2; (focus (exact blk)); intro rt; have rtc0 := rt.cell 0; have rtf0 := rt.free 0; have rtc1 := rt.cell 1; have rtf1 := rt.free 1; have rtl := rt.lt; simp at rtc0 rtc1) | (at_builtin; obtain ⟨i0, hi, hz0, hz1, hz2⟩ := info_parts infoSp; refine wpList_append_own _ rfl _ _ 81 rfl (w3.heap.size + 1 + 1) 23 i0 (.agg #[.int .i64 0, .int .i64 0]) 2 16 Try.underlying81 hi hz0 hz1 hz2 rfl (by decide) _ _ _ rfl ((hown4.alloc _).alloc _) ⟨_, 0, none⟩ 1 1 [.int .i64 LL, .int .i64 LH] rfl rfl (cell_two_at (by simp) _ _ _) (fun x hx => by simp at hx; rcases hx with rfl | rfl <;> rfl) (by unfold maxLen; rw [partL_len]; omega) (by rw [partL_len]; omega) (by have := hb4.size; simp; omega) ?_; intro v9 w9 hown9 hgrow9 hnil9; clear hi hz0 hz1 hz2; have n0 := Blk.grownN (b := w.heap.size) (arr := #[.slice s.aw h.warm.length s.cw, .slice s.ag h.gauges.length s.cg, .slice s.af h.flows.length s.cf]) (t := 85) (by exact blkc) (owns_ge hown4 (by omega)) hgrow9; have n0c0 := n0.cell 0; have n0f0 := n0.free 0; have n0c1 := n0.cell 1; have n0f1 := n0.free 1; have n0c2 := n0.cell 2; have n0f2 := n0.free 2; have n0l := Blk.lt n0; simp at n0c0 n0c1 n0c2; have n1 := Blk.grownN (b := w.heap.size + 1) (arr := #[.int .i64 x, .int .i64 y]) (t := 23) (by exact blkc) (owns_ge hown4 (by omega)) hgrow9; have n1c0 := n1.cell 0; have n1f0 := n1.free 0; have n1c1 := n1.cell 1; have n1f1 := n1.free 1; have n1l := Blk.lt n1; simp at n1c0 n1c1; have nt := Blk.grownN (b := w3.heap.size + 1) (arr := #[.int .i64 AL, .int .i64 AH]) (t := 23) (by exact blkc) (owns_ge hown4 (by omega)) hgrow9; have ntc0 := nt.cell 0; have ntf0 := nt.free 0; have ntc1 := nt.cell 1; have ntf1 := nt.free 1; have ntl := Blk.lt nt; simp at ntc0 ntc1; have nx := Blk.grownN (b := w4.heap.size) (arr := #[.int .i64 LL, .int .i64 LH]) (t := 23) (by exact blkc) (owns_newer hown4 (Nat.le_refl _)) hgrow9; have nxc0 := nx.cell 0; have nxf0 := nx.free 0; have nxc1 := nx.cell 1; have nxf1 := nx.free 1; have nxl := Blk.lt nx; simp at nxc0 nxc1))
      have hown10 : w9.ownsRow (w3.heap.size + 1 + 1) 23 2 v9 (partL h (k + 1)).length ((partL h (k + 1)).flatMap Sp.cells) := by
        rw [partL_succ, List.length_append, List.flatMap_append, EL.out, EH.out]; exact hown9
      have hk9 : Kept w w9 := Kept.grownB (by exact kpt) (owns_keep hown4 (by exact kpt)) (by omega) hgrow9
      go_roundw
      case rel => exact ⟨k + 1, by omega, by go_num, owns_setB (owns_setB hown10 (owns_ge hown10 (by omega))) (owns_ge hown10 (by omega)), Blk.other (Blk.other n0 (by simp; omega) _) (by simp; omega) _, Blk.other (Blk.other n1 (by simp; omega) _) (by simp; omega) _, by rw [EAL.out, EAH.out]; exact Blk.cast ((nt.set 0 _).set 1 _) (by simp), by exact kpt, by have := hgrow9.size; have := hb4.size; simp at *; omega⟩
      case measure => simp [intOf]; omega
    · obtain rfl : k = h.warm.length := by omega
      have hown1 := hown
      rw [← mixL_zero h x y, mixL_len] at hown1
      obtain ⟨g, cap, cur, rfl, hgb, hcur, hgc, hgm⟩ := owns_block hown1 (by omega)
      have hown2 : wr.ownsRow (w3.heap.size + 1 + 1) 23 2 (.slice (some ⟨g, 0, none⟩) h.warm.length cap) (mixL h x y 0).length ((mixL h x y 0).flatMap Sp.cells) := by rw [mixL_len]; exact hown1
      clear hown hown1 hcur
      unfold maxLen at hgm
      have ab := HAB.out _ hk
      have HOB := Lib.hid (show outB h x y = (decide (y < allLo h h.warm.length) || decide (allHi h h.warm.length < x)) from rfl)
      have HLKL := Lib.hid (fun c => show leakLo h x c = max (lostLo h c) (x - allHi h h.warm.length + lostHi h c) from rfl)
      have HLKH := Lib.hid (fun c => show leakHi h y c = min (lostHi h c) (y - allLo h h.warm.length + lostLo h c) from rfl)
      obtain ⟨AL, hAL⟩ : ∃ n, n = allLo h h.warm.length := ⟨_, rfl⟩
      obtain ⟨AH, hAH⟩ : ∃ n, n = allHi h h.warm.length := ⟨_, rfl⟩
      rw [← hAL, ← hAH] at ab qt HOB
      rw [← hAH] at HLKL
      rw [← hAL] at HLKH
      clear hAL hAH
      have q0c0 := q0.cell 0
      have q0f0 := q0.free 0
      have q0c1 := q0.cell 1
      have q0f1 := q0.free 1
      have q0c2 := q0.cell 2
      have q0f2 := q0.free 2
      have q0l := q0.lt
      simp at q0c0 q0c1 q0c2
      have q1c0 := q1.cell 0
      have q1f0 := q1.free 0
      have q1c1 := q1.cell 1
      have q1f1 := q1.free 1
      have q1l := q1.lt
      simp at q1c0 q1c1
      have qtc0 := qt.cell 0
      have qtf0 := qt.free 0
      have qtc1 := qt.cell 1
      have qtf1 := qt.free 1
      have qtl := qt.lt
      simp at qtc0 qtc1
      have out : ∀ (b1 b2 : Bool), decide (y < AL) = b1 → decide (AH < x) = b2 → leaksE h x y = if b1 || b2 then 6 else 0 := fun b1 b2 e1 e2 => by rw [HLE.out, HOB.out, e1, e2]
      have HOUT := Lib.hid out
      clear out
      cases d1 : decide (y < AL)
      · cases d2 : decide (AH < x)
        · have HE0 := Lib.hid (show leaksE h x y = 0 from HOUT.out _ _ d1 d2)
          have HIN := Lib.hid (show leaksL h x y = mixL h x y h.warm.length from leaks_in HE0.out)
          go_wp2
          clear q0c0 q0f0 q0c1 q0f1 q0c2 q0f2 q0l q1c0 q1f0 q1c1 q1f1 q1l qtc0 qtf0 qtc1 qtf1 qtl d1 d2
          go_loopw [70] (fun i wq => ∃ k : Nat, k ≤ h.warm.length ∧ i = .int .i64 k ∧ wq.ownsRow (w3.heap.size + 1 + 1) 23 2 (.slice (some ⟨g, 0, none⟩) h.warm.length cap) (mixL h x y k).length ((mixL h x y k).flatMap Sp.cells) ∧ Blk wq w.heap.size #[.slice s.aw h.warm.length s.cw, .slice s.ag h.gauges.length s.cg, .slice s.af h.flows.length s.cf] 85 ∧ Blk wq (w.heap.size + 1) #[.int .i64 x, .int .i64 y] 23 ∧ Blk wq (w3.heap.size + 1) #[.int .i64 AL, .int .i64 AH] 23 ∧ Kept w wq) (fun i _ => h.warm.length - (intOf i).toNat)
          case atStart => exact ⟨0, Nat.zero_le _, rfl, hown2, q0, q1, qt, hkr⟩
          case round =>
            clear hown2 q0 q1 qt hkr
            obtain ⟨k, hk, rfl, hown, q0, q1, qt, hkr⟩ := hrel
            by_cases hlt : k < h.warm.length
            · obtain ⟨ad, cp, hve, hrow, _, _⟩ := owns_row (enc := Sp.cells) (k := 2) (fun _ => rfl) hown
              simp only [Value.slice.injEq] at hve
              obtain ⟨rfl, _, rfl⟩ := hve
              obtain ⟨bg, og, hbo, hbl, c0, c1⟩ := Sp.row hrow k (by rw [mixL_len]; exact hlt)
              simp only [Option.some.injEq, Addr.mk.injEq, and_true] at hbo
              obtain ⟨rfl, rfl⟩ := hbo
              have hml := mixL_at h x y hlt
              rw [show (mixL h x y k)[k]'(by rw [mixL_len]; exact hlt) = ⟨lostLo h k, lostHi h k⟩ from by rw [List.getElem?_eq_getElem (by rw [mixL_len]; exact hlt)] at hml; exact Option.some.inj hml] at c0 c1
              obtain ⟨LL, hLL⟩ : ∃ n, n = lostLo h k := ⟨_, rfl⟩
              obtain ⟨LH, hLH⟩ : ∃ n, n = lostHi h k := ⟨_, rfl⟩
              have lb := HLB.out k hlt
              have K1 := HLKL.out k
              have K2 := HLKH.out k
              rw [← hLL, ← hLH] at lb c0 c1 hml K1 K2
              have HK1 := Lib.hid K1
              have HK2 := Lib.hid K2
              have HML := Lib.hid hml
              have HROW := Lib.hid hown
              clear hLL hLH K1 K2 hml hrow hown
              have w1_ := i64_inH (n := x - AH) (by omega)
              have w2_ := i64_inH (n := x - AH + LH) (by omega)
              have w3_ := i64_inH (n := y - AL) (by omega)
              have w4_ := i64_inH (n := y - AL + LL) (by omega)
              simp only [Nat.zero_add] at c0 c1
              have fg0 := Blk.free (owns_cur HROW.out).2 (k * 2)
              have fg1 := Blk.free (owns_cur HROW.out).2 (k * 2 + 1)
              have q0c0 := q0.cell 0
              have q0f0 := q0.free 0
              have q0c1 := q0.cell 1
              have q0f1 := q0.free 1
              have q0c2 := q0.cell 2
              have q0f2 := q0.free 2
              have q0l := q0.lt
              simp at q0c0 q0c1 q0c2
              have q1c0 := q1.cell 0
              have q1f0 := q1.free 0
              have q1c1 := q1.cell 1
              have q1f1 := q1.free 1
              have q1l := q1.lt
              simp at q1c0 q1c1
              have qtc0 := qt.cell 0
              have qtf0 := qt.free 0
              have qtc1 := qt.cell 1
              have qtf1 := qt.free 1
              have qtl := qt.lt
              simp at qtc0 qtc1
              have ng0 : g ≠ w.heap.size + 1 := by omega
              have ng1 : w.heap.size + 1 ≠ g := by omega
              have ng2 : g ≠ w3.heap.size + 1 := by omega
              have ng3 : w3.heap.size + 1 ≠ g := by omega
              have ng4 : g ≠ wr.heap.size := by omega
              have ng5 : wr.heap.size ≠ g := by omega
              go_wp2
              have hown6 := owns_put (enc := Sp.cells) (fun _ => rfl) (i := k) (j := 0) (u := .int .i64 (max LL (x - AH + LH))) ⟨max LL (x - AH + LH), LH⟩ HROW.out HML.out (by omega) rfl
              have hown7 := owns_put (enc := Sp.cells) (fun _ => rfl) (i := k) (j := 1) (c := ⟨max LL (x - AH + LH), LH⟩) (u := .int .i64 (min LH (y - AL + LL))) ⟨max LL (x - AH + LH), min LH (y - AL + LL)⟩ hown6 (by rw [List.getElem?_set_self (by rw [mixL_len]; exact hlt)]) (by omega) rfl
              rw [List.set_set, ← HK1.out, ← HK2.out, ← mixL_succ h x y hlt] at hown7
              rw [HK1.out, HK2.out] at hown7
              go_roundw
              case rel => exact ⟨k + 1, by omega, by go_num, owns_keep (by simpa using hown7) (by exact kpt), (Blk.other (Blk.other q0 (by simp; omega) _) (by simp; omega) _).alloc _, (Blk.other (Blk.other q1 (by simp; omega) _) (by simp; omega) _).alloc _, (Blk.other (Blk.other qt (by simp; omega) _) (by simp; omega) _).alloc _, by exact kpt⟩
              case measure => simp [intOf]; omega
            · obtain rfl : k = h.warm.length := by omega
              go_wp2
              exact bodyPost_ret (v := .tuple #[.slice (some ⟨g, 0, none⟩) h.warm.length cap, .int .i64 0]) (by simp [results, Try.results58, go_sem]) rfl ⟨.slice (some ⟨g, 0, none⟩) h.warm.length cap, by rw [HE0.out], by rw [HIN.out]; exact owns_base hown (by omega), by (exact kpt)⟩
        · have HE6 := Lib.hid (show leaksE h x y = 6 from HOUT.out _ _ d1 d2)
          go_wp2
          exact bodyPost_ret (v := .tuple #[.slice none 0 0, .int .i64 6]) (by simp [results, Try.results58, go_sem]) rfl ⟨.slice none 0 0, by rw [HE6.out], by rw [leaks_out (by rw [HE6.out]; decide)]; exact owns_nil (α := Sp) (enc := Sp.cells), by (exact kpt)⟩
      · have HE6 := Lib.hid (show leaksE h x y = 6 by rw [HLE.out, HOB.out, d1]; rfl)
        go_wp2
        exact bodyPost_ret (v := .tuple #[.slice none 0 0, .int .i64 6]) (by simp [results, Try.results58, go_sem]) rfl ⟨.slice none 0 0, by rw [HE6.out], by rw [leaks_out (by rw [HE6.out]; decide)]; exact owns_nil (α := Sp) (enc := Sp.cells), by (exact kpt)⟩
theorem f_Leaks (h : Hist) (s : Spot) (x y : Int) (w : World) (hh : HistAt h s w) :
    Calls Try.prog 58 #[.agg #[.slice s.aw h.warm.length s.cw, .slice s.ag h.gauges.length s.cg, .slice s.af h.flows.length s.cf], .agg #[.int .i64 x, .int .i64 y]] w fun e w' => ∃ v, e = .returned (.tuple #[v, .int .i64 (leaksE h x y)]) ∧ w'.ownsRow w.heap.size 23 2 (v) (leaksL h x y).length ((leaksL h x y).flatMap Sp.cells) ∧ Kept w w' := by
  cases hb : histB h
  · obtain ⟨h1, h2⟩ := leaks_bad (x := x) (y := y) hb
    rw [h1, h2]
    exact f_Leaks_bad h s x y w hh hb
  · cases hs : spanIn x y 0 1000000000000
    · obtain ⟨h1, h2⟩ := leaks_arg hb hs
      rw [h1, h2]
      exact f_Leaks_arg h s x y w hh hb hs
    · by_cases hc : confE h = 0
      · obtain ⟨h1, h2⟩ := leaks_conf hb hs hc
        rw [h1, h2]
        exact f_Leaks_conf h s x y w hh hb hs hc
      · exact f_Leaks_main h s x y w hh hb hs hc

end Go.Proofs.Ytemafanncejeiaa

/-
  Hulls, in the program.
-/
namespace Go.Proofs.Ytemafanncejeiaa
open Go.RowKit Bal Bal.Trim Bal.Gas
set_option linter.unusedVariables false
set_option linter.unusedSimpArgs false
set_option maxHeartbeats 800000

set_option maxRecDepth 10000

theorem f_CheckHull (h : Hl) (w : World) :
    Calls Try.prog 44 #[.agg #[.int .i64 h.room, .int .i64 h.gas, .int .i64 h.wlo, .int .i64 h.whi, .int .i64 h.ballonet, .int .i64 h.bag, .int .i64 h.least, .int .i64 h.most]] w fun e w' => e = .returned (.int .i64 (checkHull h)) ∧ Kept w w' := by
  go_enter Try.func44, Try.ntmps44
  go_wp2_with (first | (go_at_call 91; (with_reducible refine (f_ranged1 _ _ _  _ _ _ (by simp)).mono ?_); rintro e w1 ⟨rfl, rfl⟩) | (go_at_call 91; (with_reducible refine (f_ranged2 _ _ _ _  _ _ _ (by simp)).mono ?_); rintro e w1 ⟨rfl, rfl⟩) | (go_at_call 88; (with_reducible refine (f_span _ _ _ _ _).mono ?_); rintro e w1 ⟨rfl, hb1⟩; obtain ⟨hc1, hf1, hl1⟩ := bcell3 hb1))
  all_goals (go_ret; refine ⟨ret_int ?_, by (exact kpt)⟩; first | (simp_all [checkHull, hullB]; done) | (simp_all [checkHull, hullB]; omega) | (simp_all [checkHull, hullB]; rcases ‹_ ∨ _› with h1 | h1; (exfalso; omega); exact h1))

theorem f_hung (h : Hl) (a : Air) (w : World) :
    Calls Try.prog 96 #[.agg #[.int .i64 h.room, .int .i64 h.gas, .int .i64 h.wlo, .int .i64 h.whi, .int .i64 h.ballonet, .int .i64 h.bag, .int .i64 h.least, .int .i64 h.most], .agg #[.int .i64 a.plo, .int .i64 a.phi, .int .i64 a.tlo, .int .i64 a.thi]] w fun e w' => e = .returned (.int .i64 (hung h a)) ∧ Kept w w' := by
  cases hv : hullB h
  all_goals
    go_enter Try.func96, Try.ntmps96
    go_wp2_with (first | (go_at_call 44; (with_reducible refine (f_CheckHull h _).mono ?_); unfold checkHull; rw [hv]; rintro e w1 ⟨rfl, hb1⟩; obtain ⟨hc1, hf1, hl1⟩ := bcell3 hb1) | (go_at_call 26; (with_reducible refine (f_CheckAir a _).mono ?_); rintro e w1 ⟨rfl, hb1⟩; obtain ⟨hc1, hf1, hl1⟩ := bcell3 hb1))
    all_goals (go_ret; refine ⟨ret_int ?_, by (exact kpt)⟩; simp_all [hung])

theorem f_inner (h : Hl) (x y : Int) (w : World) (hv : hullB h = true) (hs : 1500 ≤ x ∧ x ≤ y ∧ y ≤ 3500) :
    Calls Try.prog 97 #[.agg #[.int .i64 h.room, .int .i64 h.gas, .int .i64 h.wlo, .int .i64 h.whi, .int .i64 h.ballonet, .int .i64 h.bag, .int .i64 h.least, .int .i64 h.most], .agg #[.int .i64 (x), .int .i64 (y)]] w fun e w' => e = .returned (.agg #[.int .i64 (pressLo h x), .int .i64 (pressHi h y)]) ∧ Kept w w' := by
  obtain ⟨⟨m1, m2⟩, ⟨g1, g2⟩, ⟨n1, n2, n3⟩, _⟩ := hullB_iff.1 hv
  obtain ⟨⟨p1, p2⟩, ⟨p3, p4, p5⟩, p6, p7, p8⟩ := press_bd hv hs
  clear hv
  go_enter Try.func97, Try.ntmps97
  go_wp2
  exact bodyPost_ret (v := .agg #[.int .i64 ((h.gas + h.ballonet) * x + h.gas * h.wlo), .int .i64 ((h.gas + h.ballonet) * y + h.gas * h.whi)]) (by simp [results, Try.results97, go_sem]) rfl ⟨rfl, by (exact kpt)⟩

theorem f_inner0 (h : Hl) (x y : Int) (w : World) (hv : hullB h = true) (hs : 1500 ≤ x ∧ x ≤ y ∧ y ≤ 3500) :
    Calls Try.prog 97 #[.agg #[.int .i64 h.room, .int .i64 h.gas, .int .i64 h.wlo, .int .i64 h.whi, .int .i64 0, .int .i64 h.bag, .int .i64 h.least, .int .i64 h.most], .agg #[.int .i64 (x), .int .i64 (y)]] w fun e w' => e = .returned (.agg #[.int .i64 (pressLo (bare h) x), .int .i64 (pressHi (bare h) y)]) ∧ Kept w w' :=
  f_inner (bare h) x y w (bare_B hv) hs

theorem f_Over_bad (h : Hl) (a : Air) (w : World) (hv : hullB h = false) :
    Calls Try.prog 36 #[.agg #[.int .i64 h.room, .int .i64 h.gas, .int .i64 h.wlo, .int .i64 h.whi, .int .i64 h.ballonet, .int .i64 h.bag, .int .i64 h.least, .int .i64 h.most], .agg #[.int .i64 a.plo, .int .i64 a.phi, .int .i64 a.tlo, .int .i64 a.thi]] w fun e w' => e = .returned (.tuple #[.agg #[.int .i64 0, .int .i64 0], .int .i64 (33)]) ∧ Kept w w' := by
  go_enter Try.func36, Try.ntmps36
  go_wp2_with (go_at_call 96; (with_reducible refine (f_hung h a _).mono ?_); rw [hung_hull hv]; rintro e w1 ⟨rfl, hb1⟩; obtain ⟨hc1, hf1, hl1⟩ := bcell3 hb1)
  exact bodyPost_ret (v := .tuple #[.agg #[.int .i64 0, .int .i64 0], .int .i64 (33)]) (by simp [results, Try.results36, go_sem, hc1, hf1, hl1]) rfl ⟨rfl, by (exact kpt)⟩

theorem f_Over_air (h : Hl) (a : Air) (w : World) (hv : hullB h = true) (ha : airB a = false) :
    Calls Try.prog 36 #[.agg #[.int .i64 h.room, .int .i64 h.gas, .int .i64 h.wlo, .int .i64 h.whi, .int .i64 h.ballonet, .int .i64 h.bag, .int .i64 h.least, .int .i64 h.most], .agg #[.int .i64 a.plo, .int .i64 a.phi, .int .i64 a.tlo, .int .i64 a.thi]] w fun e w' => e = .returned (.tuple #[.agg #[.int .i64 0, .int .i64 0], .int .i64 (30)]) ∧ Kept w w' := by
  go_enter Try.func36, Try.ntmps36
  go_wp2_with (go_at_call 96; (with_reducible refine (f_hung h a _).mono ?_); rw [hung_air hv ha]; rintro e w1 ⟨rfl, hb1⟩; obtain ⟨hc1, hf1, hl1⟩ := bcell3 hb1)
  exact bodyPost_ret (v := .tuple #[.agg #[.int .i64 0, .int .i64 0], .int .i64 (30)]) (by simp [results, Try.results36, go_sem, hc1, hf1, hl1]) rfl ⟨rfl, by (exact kpt)⟩

theorem f_Over_ok (h : Hl) (a : Air) (w : World) (hv : hullB h = true) (ha : airB a = true) :
    Calls Try.prog 36 #[.agg #[.int .i64 h.room, .int .i64 h.gas, .int .i64 h.wlo, .int .i64 h.whi, .int .i64 h.ballonet, .int .i64 h.bag, .int .i64 h.least, .int .i64 h.most], .agg #[.int .i64 a.plo, .int .i64 a.phi, .int .i64 a.tlo, .int .i64 a.thi]] w fun e w' => e = .returned (.tuple #[.agg #[.int .i64 (overLo h a), .int .i64 (overHi h a)], .int .i64 (0)]) ∧ Kept w w' := by
  obtain ⟨⟨m1, m2⟩, ⟨g1, g2⟩, ⟨n1, n2, n3⟩, ⟨l1, l2, l3⟩, s1, s2, s3⟩ := hullB_iff.1 hv
  obtain ⟨⟨a1, a2, a3⟩, a4, a5, a6⟩ := airB_iff.1 ha
  obtain ⟨⟨p1, p2⟩, ⟨p3, p4, p5⟩, p6, p7, p8⟩ := press_bd hv ⟨a4, a5, a6⟩
  have e1 : pressLo h a.tlo = (h.gas + h.ballonet) * a.tlo + h.gas * h.wlo := rfl
  have e2 : pressHi h a.thi = (h.gas + h.ballonet) * a.thi + h.gas * h.whi := rfl
  have y1 : -3000000000 ≤ pressLo h a.tlo ∧ pressLo h a.tlo ≤ 73000000000 := by omega
  have y2 : -3000000000 ≤ pressHi h a.thi ∧ pressHi h a.thi ≤ 73000000000 := by omega
  obtain ⟨z1, z2⟩ := room_bd (p := a.phi) hv (by omega)
  obtain ⟨z3, z4⟩ := room_bd (p := a.plo) hv (by omega)
  clear e1 e2 p3 p4 p5 p6 p7 p8
  have E1 := Lib.hid (over_lo hv ha)
  have E2 := Lib.hid (over_hi hv ha)
  have K1 := Lib.hid (show ratioOk ⟨pressLo h a.tlo - a.phi * h.room, h.room⟩ from ⟨by simp; omega, by simp; omega, by simp; omega, by simp; omega⟩)
  have K2 := Lib.hid (show ratioOk ⟨pressHi h a.thi - a.plo * h.room, h.room⟩ from ⟨by simp; omega, by simp; omega, by simp; omega, by simp; omega⟩)
  have HV := Lib.hid hv
  have HS := Lib.hid (show 1500 ≤ a.tlo ∧ a.tlo ≤ a.thi ∧ a.thi ≤ 3500 from ⟨a4, a5, a6⟩)
  have HA := Lib.hid (hung_ok hv ha)
  clear hv ha
  go_enter Try.func36, Try.ntmps36
  go_wp2_with (first | (go_at_call 96; (with_reducible refine (f_hung h a _).mono ?_); rw [HA.out]; rintro e w1 ⟨rfl, hb1⟩; obtain ⟨hc1, hf1, hl1⟩ := bcell3 hb1; refine Blk.thru (b := w.heap.size) (arr := ?_) (t := ?_) ?_ hb1 ?_; rotate_left 2; (focus (exact blk)); intro qa; have qac0 := qa.cell 0; have qaf0 := qa.free 0; have qac1 := qa.cell 1; have qaf1 := qa.free 1; have qac2 := qa.cell 2; have qaf2 := qa.free 2; have qac3 := qa.cell 3; have qaf3 := qa.free 3; have qac4 := qa.cell 4; have qaf4 := qa.free 4; have qac5 := qa.cell 5; have qaf5 := qa.free 5; have qac6 := qa.cell 6; have qaf6 := qa.free 6; have qac7 := qa.cell 7; have qaf7 := qa.free 7; have qal := qa.lt; simp at qac0 qac1 qac2 qac3 qac4 qac5 qac6 qac7; refine Blk.thru (b := w.heap.size + 1) (arr := ?_) (t := ?_) ?_ hb1 ?_; rotate_left 2; (focus (exact blk)); intro qb; have qbc0 := qb.cell 0; have qbf0 := qb.free 0; have qbc1 := qb.cell 1; have qbf1 := qb.free 1; have qbc2 := qb.cell 2; have qbf2 := qb.free 2; have qbc3 := qb.cell 3; have qbf3 := qb.free 3; have qbl := qb.lt; simp at qbc0 qbc1 qbc2 qbc3; refine Blk.thru (b := w.heap.size + 1 + 1) (arr := ?_) (t := ?_) ?_ hb1 ?_; rotate_left 2; (focus (exact blk)); intro qq; have qqc0 := qq.cell 0; have qqf0 := qq.free 0; have qqc1 := qq.cell 1; have qqf1 := qq.free 1; have qql := qq.lt; simp at qqc0 qqc1) | (go_at_call 97; (with_reducible refine (f_inner h a.tlo a.thi _ HV.out HS.out).mono ?_); rintro e w1 ⟨rfl, hb1⟩; obtain ⟨hc1, hf1, hl1⟩ := bcell3 hb1; refine Blk.thru (b := w.heap.size) (arr := ?_) (t := ?_) ?_ hb1 ?_; rotate_left 2; (focus (exact blk)); intro qa; have qac0 := qa.cell 0; have qaf0 := qa.free 0; have qac1 := qa.cell 1; have qaf1 := qa.free 1; have qac2 := qa.cell 2; have qaf2 := qa.free 2; have qac3 := qa.cell 3; have qaf3 := qa.free 3; have qac4 := qa.cell 4; have qaf4 := qa.free 4; have qac5 := qa.cell 5; have qaf5 := qa.free 5; have qac6 := qa.cell 6; have qaf6 := qa.free 6; have qac7 := qa.cell 7; have qaf7 := qa.free 7; have qal := qa.lt; simp at qac0 qac1 qac2 qac3 qac4 qac5 qac6 qac7; refine Blk.thru (b := w.heap.size + 1) (arr := ?_) (t := ?_) ?_ hb1 ?_; rotate_left 2; (focus (exact blk)); intro qb; have qbc0 := qb.cell 0; have qbf0 := qb.free 0; have qbc1 := qb.cell 1; have qbf1 := qb.free 1; have qbc2 := qb.cell 2; have qbf2 := qb.free 2; have qbc3 := qb.cell 3; have qbf3 := qb.free 3; have qbl := qb.lt; simp at qbc0 qbc1 qbc2 qbc3; refine Blk.thru (b := w.heap.size + 1 + 1) (arr := ?_) (t := ?_) ?_ hb1 ?_; rotate_left 2; (focus (exact blk)); intro qq; have qqc0 := qq.cell 0; have qqf0 := qq.free 0; have qqc1 := qq.cell 1; have qqf1 := qq.free 1; have qql := qq.lt; simp at qqc0 qqc1) | (go_at_call 81; (with_reducible refine (f_least2 ⟨pressLo h a.tlo - a.phi * h.room, h.room⟩ ⟨pressHi h a.thi - a.plo * h.room, h.room⟩ _ _ _ (by simp) K1.out K2.out).mono ?_); rintro e w1 ⟨rfl, hb1⟩; obtain ⟨hc1, hf1, hl1⟩ := bcell3 hb1; refine Blk.thru (b := w.heap.size + 1 + 1) (arr := ?_) (t := ?_) ?_ hb1 ?_; rotate_left 2; (focus (exact blk)); intro qq; have qqc0 := qq.cell 0; have qqf0 := qq.free 0; have qqc1 := qq.cell 1; have qqf1 := qq.free 1; have qql := qq.lt; simp at qqc0 qqc1))
  exact bodyPost_ret (v := .tuple #[.agg #[.int .i64 (leastLo [⟨pressLo h a.tlo - a.phi * h.room, h.room⟩, ⟨pressHi h a.thi - a.plo * h.room, h.room⟩]), .int .i64 (leastHi [⟨pressLo h a.tlo - a.phi * h.room, h.room⟩, ⟨pressHi h a.thi - a.plo * h.room, h.room⟩])], .int .i64 (0)]) (by simp [results, Try.results36, go_sem, qqc0, qqc1, qqf0, qqf1]) rfl ⟨by rw [E1.out, E2.out], by (exact kpt)⟩

theorem f_Holds_bad (h : Hl) (a : Air) (w : World) (hv : hullB h = false) :
    Calls Try.prog 38 #[.agg #[.int .i64 h.room, .int .i64 h.gas, .int .i64 h.wlo, .int .i64 h.whi, .int .i64 h.ballonet, .int .i64 h.bag, .int .i64 h.least, .int .i64 h.most], .agg #[.int .i64 a.plo, .int .i64 a.phi, .int .i64 a.tlo, .int .i64 a.thi]] w fun e w' => e = .returned (.tuple #[.bool false, .int .i64 (33)]) ∧ Kept w w' := by
  go_enter Try.func38, Try.ntmps38
  go_wp2_with (go_at_call 96; (with_reducible refine (f_hung h a _).mono ?_); rw [hung_hull hv]; rintro e w1 ⟨rfl, hb1⟩; obtain ⟨hc1, hf1, hl1⟩ := bcell3 hb1)
  (first | (go_ret; exact ⟨rfl, by (exact kpt)⟩) | (exact bodyPost_ret (by simp [results, Try.results38, go_sem]) rfl ⟨rfl, by (exact kpt)⟩))

theorem f_Holds_air (h : Hl) (a : Air) (w : World) (hv : hullB h = true) (ha : airB a = false) :
    Calls Try.prog 38 #[.agg #[.int .i64 h.room, .int .i64 h.gas, .int .i64 h.wlo, .int .i64 h.whi, .int .i64 h.ballonet, .int .i64 h.bag, .int .i64 h.least, .int .i64 h.most], .agg #[.int .i64 a.plo, .int .i64 a.phi, .int .i64 a.tlo, .int .i64 a.thi]] w fun e w' => e = .returned (.tuple #[.bool false, .int .i64 (30)]) ∧ Kept w w' := by
  go_enter Try.func38, Try.ntmps38
  go_wp2_with (go_at_call 96; (with_reducible refine (f_hung h a _).mono ?_); rw [hung_air hv ha]; rintro e w1 ⟨rfl, hb1⟩; obtain ⟨hc1, hf1, hl1⟩ := bcell3 hb1)
  (first | (go_ret; exact ⟨rfl, by (exact kpt)⟩) | (exact bodyPost_ret (by simp [results, Try.results38, go_sem]) rfl ⟨rfl, by (exact kpt)⟩))

theorem f_Holds_ok (h : Hl) (a : Air) (w : World) (hv : hullB h = true) (ha : airB a = true) :
    Calls Try.prog 38 #[.agg #[.int .i64 h.room, .int .i64 h.gas, .int .i64 h.wlo, .int .i64 h.whi, .int .i64 h.ballonet, .int .i64 h.bag, .int .i64 h.least, .int .i64 h.most], .agg #[.int .i64 a.plo, .int .i64 a.phi, .int .i64 a.tlo, .int .i64 a.thi]] w fun e w' => e = .returned (.tuple #[.bool (holdsB h a), .int .i64 (0)]) ∧ Kept w w' := by
  obtain ⟨⟨m1, m2⟩, ⟨g1, g2⟩, ⟨n1, n2, n3⟩, ⟨l1, l2, l3⟩, s1, s2, s3⟩ := hullB_iff.1 hv
  obtain ⟨⟨a1, a2, a3⟩, a4, a5, a6⟩ := airB_iff.1 ha
  obtain ⟨⟨p1, p2⟩, ⟨p3, p4, p5⟩, p6, p7, p8⟩ := press_bd hv ⟨a4, a5, a6⟩
  obtain ⟨z1, z2⟩ := room_bd (p := a.phi + h.least) hv (by omega)
  obtain ⟨z3, z4⟩ := room_bd (p := a.plo + h.most) hv (by omega)
  clear p3 p4 p5 p6 p7 p8
  have HV := Lib.hid hv
  have HS := Lib.hid (show 1500 ≤ a.tlo ∧ a.tlo ≤ a.thi ∧ a.thi ≤ 3500 from ⟨a4, a5, a6⟩)
  have HA := Lib.hid (hung_ok hv ha)
  clear hv ha
  unfold holdsB
  by_cases c1 : (a.phi + h.least) * h.room ≤ pressLo h a.tlo <;> by_cases c2 : pressHi h a.thi ≤ (a.plo + h.most) * h.room
  all_goals
    simp only [c1, c2, decide_true, decide_false, Bool.and_true, Bool.and_false]
    go_enter Try.func38, Try.ntmps38
    go_wp2_with (first | (go_at_call 96; (with_reducible refine (f_hung h a _).mono ?_); rw [HA.out]; rintro e w1 ⟨rfl, hb1⟩; obtain ⟨hc1, hf1, hl1⟩ := bcell3 hb1; refine Blk.thru (b := w.heap.size) (arr := ?_) (t := ?_) ?_ hb1 ?_; rotate_left 2; (focus (exact blk)); intro qa; have qac0 := qa.cell 0; have qaf0 := qa.free 0; have qac1 := qa.cell 1; have qaf1 := qa.free 1; have qac2 := qa.cell 2; have qaf2 := qa.free 2; have qac3 := qa.cell 3; have qaf3 := qa.free 3; have qac4 := qa.cell 4; have qaf4 := qa.free 4; have qac5 := qa.cell 5; have qaf5 := qa.free 5; have qac6 := qa.cell 6; have qaf6 := qa.free 6; have qac7 := qa.cell 7; have qaf7 := qa.free 7; have qal := qa.lt; simp at qac0 qac1 qac2 qac3 qac4 qac5 qac6 qac7; refine Blk.thru (b := w.heap.size + 1) (arr := ?_) (t := ?_) ?_ hb1 ?_; rotate_left 2; (focus (exact blk)); intro qb; have qbc0 := qb.cell 0; have qbf0 := qb.free 0; have qbc1 := qb.cell 1; have qbf1 := qb.free 1; have qbc2 := qb.cell 2; have qbf2 := qb.free 2; have qbc3 := qb.cell 3; have qbf3 := qb.free 3; have qbl := qb.lt; simp at qbc0 qbc1 qbc2 qbc3) | (go_at_call 97; (with_reducible refine (f_inner h a.tlo a.thi _ HV.out HS.out).mono ?_); rintro e w1 ⟨rfl, hb1⟩; obtain ⟨hc1, hf1, hl1⟩ := bcell3 hb1; refine Blk.thru (b := w.heap.size) (arr := ?_) (t := ?_) ?_ hb1 ?_; rotate_left 2; (focus (exact blk)); intro qa; have qac0 := qa.cell 0; have qaf0 := qa.free 0; have qac1 := qa.cell 1; have qaf1 := qa.free 1; have qac2 := qa.cell 2; have qaf2 := qa.free 2; have qac3 := qa.cell 3; have qaf3 := qa.free 3; have qac4 := qa.cell 4; have qaf4 := qa.free 4; have qac5 := qa.cell 5; have qaf5 := qa.free 5; have qac6 := qa.cell 6; have qaf6 := qa.free 6; have qac7 := qa.cell 7; have qaf7 := qa.free 7; have qal := qa.lt; simp at qac0 qac1 qac2 qac3 qac4 qac5 qac6 qac7; refine Blk.thru (b := w.heap.size + 1) (arr := ?_) (t := ?_) ?_ hb1 ?_; rotate_left 2; (focus (exact blk)); intro qb; have qbc0 := qb.cell 0; have qbf0 := qb.free 0; have qbc1 := qb.cell 1; have qbf1 := qb.free 1; have qbc2 := qb.cell 2; have qbf2 := qb.free 2; have qbc3 := qb.cell 3; have qbf3 := qb.free 3; have qbl := qb.lt; simp at qbc0 qbc1 qbc2 qbc3))
    exact bodyPost_ret (by first | (simp [results, Try.results38, go_sem, c1, c2]; done) | (simp [results, Try.results38, go_sem, c1, c2]; omega)) rfl ⟨rfl, by (exact kpt)⟩

theorem f_blown (h : Hl) (a : Air) (w : World) (hv : hullB h = true) (ha : airB a = true) :
    Calls Try.prog 101 #[.agg #[.int .i64 h.room, .int .i64 h.gas, .int .i64 h.wlo, .int .i64 h.whi, .int .i64 h.ballonet, .int .i64 h.bag, .int .i64 h.least, .int .i64 h.most], .agg #[.int .i64 a.plo, .int .i64 a.phi, .int .i64 a.tlo, .int .i64 a.thi]] w fun e w' => e = .returned (.agg #[.int .i64 (blowLo h a), .int .i64 (blowHi h a)]) ∧ Kept w w' := by
  have hv' := bare_B hv
  obtain ⟨⟨m1, m2⟩, ⟨g1, g2⟩, ⟨n1, n2, n3⟩, ⟨l1, l2, l3⟩, s1, s2, s3⟩ := hullB_iff.1 hv
  obtain ⟨⟨a1, a2, a3⟩, a4, a5, a6⟩ := airB_iff.1 ha
  obtain ⟨⟨p1, p2⟩, ⟨p3, p4, p5⟩, p6, p7, p8⟩ := press_bd hv' ⟨a4, a5, a6⟩
  have e1 : pressLo (bare h) a.tlo = ((bare h).gas + (bare h).ballonet) * a.tlo + (bare h).gas * (bare h).wlo := rfl
  have e2 : pressHi (bare h) a.thi = ((bare h).gas + (bare h).ballonet) * a.thi + (bare h).gas * (bare h).whi := rfl
  have y1 : -3000000000 ≤ pressLo (bare h) a.tlo ∧ pressLo (bare h) a.tlo ≤ 73000000000 := by omega
  have y2 : -3000000000 ≤ pressHi (bare h) a.thi ∧ pressHi (bare h) a.thi ≤ 73000000000 := by omega
  clear e1 e2 p1 p2 p3 p4 p5 p6 p7 p8 hv'
  obtain ⟨z1, z2⟩ := room_bd (p := a.phi + h.least) hv (by omega)
  obtain ⟨z3, z4⟩ := room_bd (p := a.plo + h.most) hv (by omega)
  have d1 : -1000000000000 ≤ up ⟨((a.phi + h.least) * h.room - pressLo (bare h) a.tlo), a.tlo⟩ ∧ up ⟨((a.phi + h.least) * h.room - pressLo (bare h) a.tlo), a.tlo⟩ ≤ 1000000000000 := by
    have := div_bd (N := 1000000000000) (a := -((a.phi + h.least) * h.room - pressLo (bare h) a.tlo)) (b := a.tlo) (by omega) (by omega) (by omega) (by omega)
    simp only [up]; omega
  have d2 : -1000000000000 ≤ down ⟨((a.plo + h.most) * h.room - pressHi (bare h) a.thi), a.thi⟩ ∧ down ⟨((a.plo + h.most) * h.room - pressHi (bare h) a.thi), a.thi⟩ ≤ 1000000000000 := div_bd (N := 1000000000000) (a := ((a.plo + h.most) * h.room - pressHi (bare h) a.thi)) (b := a.thi) (by omega) (by omega) (by omega) (by omega)
  have K1 := Lib.hid (show 0 < a.tlo ∧ a.tlo ≤ 1000000000000000 ∧ -1000000000000000 ≤ ((a.phi + h.least) * h.room - pressLo (bare h) a.tlo) ∧ ((a.phi + h.least) * h.room - pressLo (bare h) a.tlo) ≤ 1000000000000000 by omega)
  have K2 := Lib.hid (show 0 < a.thi ∧ a.thi ≤ 1000000000000000 ∧ -1000000000000000 ≤ ((a.plo + h.most) * h.room - pressHi (bare h) a.thi) ∧ ((a.plo + h.most) * h.room - pressHi (bare h) a.thi) ≤ 1000000000000000 by omega)
  obtain ⟨D1, hD1⟩ : ∃ D, D = up ⟨((a.phi + h.least) * h.room - pressLo (bare h) a.tlo), a.tlo⟩ := ⟨_, rfl⟩
  obtain ⟨D2, hD2⟩ : ∃ D, D = down ⟨((a.plo + h.most) * h.room - pressHi (bare h) a.thi), a.thi⟩ := ⟨_, rfl⟩
  have F1 := Lib.hid (fun w => f_up ⟨((a.phi + h.least) * h.room - pressLo (bare h) a.tlo), a.tlo⟩ w K1.out.1 K1.out.2.1 K1.out.2.2.1 K1.out.2.2.2)
  have F2 := Lib.hid (fun w => f_down ⟨((a.plo + h.most) * h.room - pressHi (bare h) a.thi), a.thi⟩ w K2.out.1 K2.out.2.1 K2.out.2.2.1 K2.out.2.2.2)
  rw [← hD1] at d1 F1
  rw [← hD2] at d2 F2
  have e1 : blowLo h a = max D1 0 := by rw [hD1]; rfl
  have e2 : blowHi h a = min D2 h.bag := by rw [hD2]; rfl
  rw [e1, e2]
  clear e1 e2 hD1 hD2 K1 K2
  have HV := Lib.hid hv
  have HS := Lib.hid (show 1500 ≤ a.tlo ∧ a.tlo ≤ a.thi ∧ a.thi ≤ 3500 from ⟨a4, a5, a6⟩)
  clear hv ha
  go_enter Try.func101, Try.ntmps101
  go_upto_region 5 with (go_at_call 97; (with_reducible refine (f_inner0 h a.tlo a.thi _ HV.out HS.out).mono ?_); rintro e w1 ⟨rfl, hb1⟩; obtain ⟨hc1, hf1, hl1⟩ := bcell3 hb1; refine Blk.thru (b := w.heap.size) (arr := ?_) (t := ?_) ?_ hb1 ?_; rotate_left 2; (focus (exact blk)); intro qa; have qac0 := qa.cell 0; have qaf0 := qa.free 0; have qac1 := qa.cell 1; have qaf1 := qa.free 1; have qac2 := qa.cell 2; have qaf2 := qa.free 2; have qac3 := qa.cell 3; have qaf3 := qa.free 3; have qac4 := qa.cell 4; have qaf4 := qa.free 4; have qac5 := qa.cell 5; have qaf5 := qa.free 5; have qac6 := qa.cell 6; have qaf6 := qa.free 6; have qac7 := qa.cell 7; have qaf7 := qa.free 7; have qal := qa.lt; simp at qac0 qac1 qac2 qac3 qac4 qac5 qac6 qac7; refine Blk.thru (b := w.heap.size + 1) (arr := ?_) (t := ?_) ?_ hb1 ?_; rotate_left 2; (focus (exact blk)); intro qb; have qbc0 := qb.cell 0; have qbf0 := qb.free 0; have qbc1 := qb.cell 1; have qbf1 := qb.free 1; have qbc2 := qb.cell 2; have qbf2 := qb.free 2; have qbc3 := qb.cell 3; have qbf3 := qb.free 3; have qbl := qb.lt; simp at qbc0 qbc1 qbc2 qbc3; refine Blk.thru (b := w.heap.size + 1 + 1) (arr := ?_) (t := ?_) ?_ hb1 ?_; rotate_left 2; (focus (exact blk)); intro qq; have qqc0 := qq.cell 0; have qqf0 := qq.free 0; have qqc1 := qq.cell 1; have qqf1 := qq.free 1; have qql := qq.lt; simp at qqc0 qqc1)
  refine at_world (S := fun W => Blk W w.heap.size #[.int .i64 h.room, .int .i64 h.gas, .int .i64 h.wlo, .int .i64 h.whi, .int .i64 0, .int .i64 h.bag, .int .i64 h.least, .int .i64 h.most] 45 ∧ Blk W (w.heap.size + 1 + 1) #[.int .i64 0, .int .i64 0] 23 ∧ Blk W (w1.heap.size + 1) #[.int .i64 ((a.phi + h.least) * h.room - pressLo (bare h) a.tlo), .int .i64 a.tlo] 149 ∧ Blk W (w1.heap.size + 1 + 1) #[.int .i64 ((a.plo + h.most) * h.room - pressHi (bare h) a.thi), .int .i64 a.thi] 149 ∧ Kept w W) ⟨by (exact blkc), by (exact blkc), by (exact blkc), by (exact blkc), by (exact kpt)⟩ ?_
  rintro W ⟨r0, r2, r3, r4, hk⟩
  have r0c0 := fun g : Later W => (r0.later g).cell 0
  have r0f0 := fun g : Later W => (r0.later g).free 0
  have r0c1 := fun g : Later W => (r0.later g).cell 1
  have r0f1 := fun g : Later W => (r0.later g).free 1
  have r0c2 := fun g : Later W => (r0.later g).cell 2
  have r0f2 := fun g : Later W => (r0.later g).free 2
  have r0c3 := fun g : Later W => (r0.later g).cell 3
  have r0f3 := fun g : Later W => (r0.later g).free 3
  have r0c4 := fun g : Later W => (r0.later g).cell 4
  have r0f4 := fun g : Later W => (r0.later g).free 4
  have r0c5 := fun g : Later W => (r0.later g).cell 5
  have r0f5 := fun g : Later W => (r0.later g).free 5
  have r0c6 := fun g : Later W => (r0.later g).cell 6
  have r0f6 := fun g : Later W => (r0.later g).free 6
  have r0c7 := fun g : Later W => (r0.later g).cell 7
  have r0f7 := fun g : Later W => (r0.later g).free 7
  have r0l := fun g : Later W => (r0.later g).lt
  simp at r0c0 r0c1 r0c2 r0c3 r0c4 r0c5 r0c6 r0c7
  have r2c0 := fun g : Later W => (r2.later g).cell 0
  have r2f0 := fun g : Later W => (r2.later g).free 0
  have r2c1 := fun g : Later W => (r2.later g).cell 1
  have r2f1 := fun g : Later W => (r2.later g).free 1
  have r2l := fun g : Later W => (r2.later g).lt
  simp at r2c0 r2c1
  have r3c0 := fun g : Later W => (r3.later g).cell 0
  have r3f0 := fun g : Later W => (r3.later g).free 0
  have r3c1 := fun g : Later W => (r3.later g).cell 1
  have r3f1 := fun g : Later W => (r3.later g).free 1
  have r3l := fun g : Later W => (r3.later g).lt
  simp at r3c0 r3c1
  have r4c0 := fun g : Later W => (r4.later g).cell 0
  have r4f0 := fun g : Later W => (r4.later g).free 0
  have r4c1 := fun g : Later W => (r4.later g).cell 1
  have r4f1 := fun g : Later W => (r4.later g).free 1
  have r4l := fun g : Later W => (r4.later g).lt
  simp at r4c0 r4c1
  refine later_mix [(false, 0), (false, 1), (true, 2), (false, 3), (false, 4), (false, 5), (false, 6), (true, 7), (false, 8)] 9 [] (by kernel_rfl) (by kernel_rfl) ?_
  simp only [List.filterMap_cons, List.filterMap_nil, List.getElem?_cons_zero, List.getElem?_cons_succ, Option.map_some]
  repeat (refine wpSteps_quiet ?_; (first | go_big_quiet_skip | (go_big_quiet_want; go_big_quiet_op; first | go_big_quiet_on | (apply Exists.intro; refine ⟨fun g => ?_, ?_⟩; (focus (first | (go_at_call 133; with_reducible exact Later.call (F1.out _)) | (go_at_call 95; with_reducible exact Later.call (F2.out _)))); go_big_quiet_on))); refine wpQuiet_nil ?_)
  refine wpSteps_any (.int .i64 (max D1 0)) rfl (fun w => ?_) ?_
  · first | (go_simp; done) | (go_simp; simp [ite_max]; done) | (go_simp; split <;> omega) | (go_simp; simp; split <;> omega) | trace_state
  simp only [Act.put, List.setIfInBounds_toArray, List.set_cons_zero, List.set_cons_succ]
  repeat (refine wpSteps_quiet ?_; (first | go_big_quiet_skip | (go_big_quiet_want; go_big_quiet_op; first | go_big_quiet_on | (apply Exists.intro; refine ⟨fun g => ?_, ?_⟩; (focus (first | (go_at_call 133; with_reducible exact Later.call (F1.out _)) | (go_at_call 95; with_reducible exact Later.call (F2.out _)))); go_big_quiet_on))); refine wpQuiet_nil ?_)
  refine wpSteps_any (.int .i64 (min D2 h.bag)) rfl (fun w => ?_) ?_
  · first | (go_simp; done) | (go_simp; simp [ite_min]; done) | (go_simp; split <;> omega) | (go_simp; simp; split <;> omega) | trace_state
  simp only [Act.put, List.setIfInBounds_toArray, List.set_cons_zero, List.set_cons_succ]
  repeat (refine wpSteps_quiet ?_; (first | go_big_quiet_skip | (go_big_quiet_want; go_big_quiet_op; first | go_big_quiet_on | (apply Exists.intro; refine ⟨fun g => ?_, ?_⟩; (focus (first | (go_at_call 133; with_reducible exact Later.call (F1.out _)) | (go_at_call 95; with_reducible exact Later.call (F2.out _)))); go_big_quiet_on))); refine wpQuiet_nil ?_)
  refine wpSteps_nil ?_
  intro gg
  have hkgg := Kept.drop hk gg.ok
  try simp only [ite_min, ite_max]
  go_wp2
  refine NoPanic.normal ?_
  go_wp2
  have y0 := r2.later gg
  have y0c0 := y0.cell 0
  have y0f0 := y0.free 0
  have y0c1 := y0.cell 1
  have y0f1 := y0.free 1
  have y0l := y0.lt
  simp at y0c0 y0c1
  exact bodyPost_ret (v := .agg #[.int .i64 (max D1 0), .int .i64 (min D2 h.bag)]) (by simp [results, Try.results101, go_sem, y0c0, y0c1, y0f0, y0f1]) rfl ⟨rfl, by (exact kpt)⟩

theorem f_Blow_bad (h : Hl) (a : Air) (w : World) (hv : hullB h = false) :
    Calls Try.prog 40 #[.agg #[.int .i64 h.room, .int .i64 h.gas, .int .i64 h.wlo, .int .i64 h.whi, .int .i64 h.ballonet, .int .i64 h.bag, .int .i64 h.least, .int .i64 h.most], .agg #[.int .i64 a.plo, .int .i64 a.phi, .int .i64 a.tlo, .int .i64 a.thi]] w fun e w' => e = .returned (.tuple #[.agg #[.int .i64 0, .int .i64 0], .int .i64 (33)]) ∧ Kept w w' := by
  go_enter Try.func40, Try.ntmps40
  go_wp2_with (go_at_call 96; (with_reducible refine (f_hung h a _).mono ?_); rw [hung_hull hv]; rintro e w1 ⟨rfl, hb1⟩; obtain ⟨hc1, hf1, hl1⟩ := bcell3 hb1)
  exact bodyPost_ret (v := .tuple #[.agg #[.int .i64 0, .int .i64 0], .int .i64 (33)]) (by simp [results, Try.results40, go_sem, hc1, hf1, hl1]) rfl ⟨rfl, by (exact kpt)⟩

theorem f_Blow_air (h : Hl) (a : Air) (w : World) (hv : hullB h = true) (ha : airB a = false) :
    Calls Try.prog 40 #[.agg #[.int .i64 h.room, .int .i64 h.gas, .int .i64 h.wlo, .int .i64 h.whi, .int .i64 h.ballonet, .int .i64 h.bag, .int .i64 h.least, .int .i64 h.most], .agg #[.int .i64 a.plo, .int .i64 a.phi, .int .i64 a.tlo, .int .i64 a.thi]] w fun e w' => e = .returned (.tuple #[.agg #[.int .i64 0, .int .i64 0], .int .i64 (30)]) ∧ Kept w w' := by
  go_enter Try.func40, Try.ntmps40
  go_wp2_with (go_at_call 96; (with_reducible refine (f_hung h a _).mono ?_); rw [hung_air hv ha]; rintro e w1 ⟨rfl, hb1⟩; obtain ⟨hc1, hf1, hl1⟩ := bcell3 hb1)
  exact bodyPost_ret (v := .tuple #[.agg #[.int .i64 0, .int .i64 0], .int .i64 (30)]) (by simp [results, Try.results40, go_sem, hc1, hf1, hl1]) rfl ⟨rfl, by (exact kpt)⟩

theorem f_Blow_none (h : Hl) (a : Air) (w : World) (hv : hullB h = true) (ha : airB a = true) (hc : blowHi h a < blowLo h a) :
    Calls Try.prog 40 #[.agg #[.int .i64 h.room, .int .i64 h.gas, .int .i64 h.wlo, .int .i64 h.whi, .int .i64 h.ballonet, .int .i64 h.bag, .int .i64 h.least, .int .i64 h.most], .agg #[.int .i64 a.plo, .int .i64 a.phi, .int .i64 a.tlo, .int .i64 a.thi]] w fun e w' => e = .returned (.tuple #[.agg #[.int .i64 0, .int .i64 0], .int .i64 (6)]) ∧ Kept w w' := by
  have HV := Lib.hid hv
  have HB := Lib.hid ha
  have HA := Lib.hid (hung_ok hv ha)
  clear hv ha
  go_enter Try.func40, Try.ntmps40
  go_wp2_with (first | (go_at_call 96; (with_reducible refine (f_hung h a _).mono ?_); rw [HA.out]; rintro e w1 ⟨rfl, hb1⟩; obtain ⟨hc1, hf1, hl1⟩ := bcell3 hb1; refine Blk.thru (b := w.heap.size) (arr := ?_) (t := ?_) ?_ hb1 ?_; rotate_left 2; (focus (exact blk)); intro qa; have qac0 := qa.cell 0; have qaf0 := qa.free 0; have qac1 := qa.cell 1; have qaf1 := qa.free 1; have qac2 := qa.cell 2; have qaf2 := qa.free 2; have qac3 := qa.cell 3; have qaf3 := qa.free 3; have qac4 := qa.cell 4; have qaf4 := qa.free 4; have qac5 := qa.cell 5; have qaf5 := qa.free 5; have qac6 := qa.cell 6; have qaf6 := qa.free 6; have qac7 := qa.cell 7; have qaf7 := qa.free 7; have qal := qa.lt; simp at qac0 qac1 qac2 qac3 qac4 qac5 qac6 qac7; refine Blk.thru (b := w.heap.size + 1) (arr := ?_) (t := ?_) ?_ hb1 ?_; rotate_left 2; (focus (exact blk)); intro qb; have qbc0 := qb.cell 0; have qbf0 := qb.free 0; have qbc1 := qb.cell 1; have qbf1 := qb.free 1; have qbc2 := qb.cell 2; have qbf2 := qb.free 2; have qbc3 := qb.cell 3; have qbf3 := qb.free 3; have qbl := qb.lt; simp at qbc0 qbc1 qbc2 qbc3; refine Blk.thru (b := w.heap.size + 1 + 1) (arr := ?_) (t := ?_) ?_ hb1 ?_; rotate_left 2; (focus (exact blk)); intro qq; have qqc0 := qq.cell 0; have qqf0 := qq.free 0; have qqc1 := qq.cell 1; have qqf1 := qq.free 1; have qql := qq.lt; simp at qqc0 qqc1) | (go_at_call 101; (with_reducible refine (f_blown h a _ HV.out HB.out).mono ?_); rintro e w1 ⟨rfl, hb1⟩; obtain ⟨hc1, hf1, hl1⟩ := bcell3 hb1; refine Blk.thru (b := w.heap.size + 1 + 1) (arr := ?_) (t := ?_) ?_ hb1 ?_; rotate_left 2; (focus (exact blk)); intro qq; have qqc0 := qq.cell 0; have qqf0 := qq.free 0; have qqc1 := qq.cell 1; have qqf1 := qq.free 1; have qql := qq.lt; simp at qqc0 qqc1))
  exact bodyPost_ret (v := .tuple #[.agg #[.int .i64 0, .int .i64 0], .int .i64 (6)]) (by simp [results, Try.results40, go_sem, qqc0, qqc1, qqf0, qqf1, qql]) rfl ⟨rfl, by (exact kpt)⟩

theorem f_Blow_ok (h : Hl) (a : Air) (w : World) (hv : hullB h = true) (ha : airB a = true) (hc : ¬ blowHi h a < blowLo h a) :
    Calls Try.prog 40 #[.agg #[.int .i64 h.room, .int .i64 h.gas, .int .i64 h.wlo, .int .i64 h.whi, .int .i64 h.ballonet, .int .i64 h.bag, .int .i64 h.least, .int .i64 h.most], .agg #[.int .i64 a.plo, .int .i64 a.phi, .int .i64 a.tlo, .int .i64 a.thi]] w fun e w' => e = .returned (.tuple #[.agg #[.int .i64 (blowLo h a), .int .i64 (blowHi h a)], .int .i64 (0)]) ∧ Kept w w' := by
  have HV := Lib.hid hv
  have HB := Lib.hid ha
  have HA := Lib.hid (hung_ok hv ha)
  clear hv ha
  go_enter Try.func40, Try.ntmps40
  go_wp2_with (first | (go_at_call 96; (with_reducible refine (f_hung h a _).mono ?_); rw [HA.out]; rintro e w1 ⟨rfl, hb1⟩; obtain ⟨hc1, hf1, hl1⟩ := bcell3 hb1; refine Blk.thru (b := w.heap.size) (arr := ?_) (t := ?_) ?_ hb1 ?_; rotate_left 2; (focus (exact blk)); intro qa; have qac0 := qa.cell 0; have qaf0 := qa.free 0; have qac1 := qa.cell 1; have qaf1 := qa.free 1; have qac2 := qa.cell 2; have qaf2 := qa.free 2; have qac3 := qa.cell 3; have qaf3 := qa.free 3; have qac4 := qa.cell 4; have qaf4 := qa.free 4; have qac5 := qa.cell 5; have qaf5 := qa.free 5; have qac6 := qa.cell 6; have qaf6 := qa.free 6; have qac7 := qa.cell 7; have qaf7 := qa.free 7; have qal := qa.lt; simp at qac0 qac1 qac2 qac3 qac4 qac5 qac6 qac7; refine Blk.thru (b := w.heap.size + 1) (arr := ?_) (t := ?_) ?_ hb1 ?_; rotate_left 2; (focus (exact blk)); intro qb; have qbc0 := qb.cell 0; have qbf0 := qb.free 0; have qbc1 := qb.cell 1; have qbf1 := qb.free 1; have qbc2 := qb.cell 2; have qbf2 := qb.free 2; have qbc3 := qb.cell 3; have qbf3 := qb.free 3; have qbl := qb.lt; simp at qbc0 qbc1 qbc2 qbc3; refine Blk.thru (b := w.heap.size + 1 + 1) (arr := ?_) (t := ?_) ?_ hb1 ?_; rotate_left 2; (focus (exact blk)); intro qq; have qqc0 := qq.cell 0; have qqf0 := qq.free 0; have qqc1 := qq.cell 1; have qqf1 := qq.free 1; have qql := qq.lt; simp at qqc0 qqc1) | (go_at_call 101; (with_reducible refine (f_blown h a _ HV.out HB.out).mono ?_); rintro e w1 ⟨rfl, hb1⟩; obtain ⟨hc1, hf1, hl1⟩ := bcell3 hb1; refine Blk.thru (b := w.heap.size + 1 + 1) (arr := ?_) (t := ?_) ?_ hb1 ?_; rotate_left 2; (focus (exact blk)); intro qq; have qqc0 := qq.cell 0; have qqf0 := qq.free 0; have qqc1 := qq.cell 1; have qqf1 := qq.free 1; have qql := qq.lt; simp at qqc0 qqc1))
  exact bodyPost_ret (v := .tuple #[.agg #[.int .i64 (blowLo h a), .int .i64 (blowHi h a)], .int .i64 (0)]) (by simp [results, Try.results40, go_sem, qqc0, qqc1, qqf0, qqf1, qql]) rfl ⟨rfl, by (exact kpt)⟩

theorem f_Roof_bad (h : Hl) (x y : Int) (w : World) (hv : hullB h = false) :
    Calls Try.prog 42 #[.agg #[.int .i64 h.room, .int .i64 h.gas, .int .i64 h.wlo, .int .i64 h.whi, .int .i64 h.ballonet, .int .i64 h.bag, .int .i64 h.least, .int .i64 h.most], .agg #[.int .i64 (x), .int .i64 (y)]] w fun e w' => e = .returned (.tuple #[.int .i64 (0), .int .i64 (33)]) ∧ Kept w w' := by
  have HC := Lib.hid (show checkHull h = 33 by unfold checkHull; rw [hv]; rfl)
  skip
  clear hv
  go_enter Try.func42, Try.ntmps42
  go_wp2_with (first | (go_at_call 44; (with_reducible refine (f_CheckHull h _).mono ?_); rw [HC.out]; rintro e w1 ⟨rfl, hb1⟩; obtain ⟨hc1, hf1, hl1⟩ := bcell3 hb1; refine Blk.thru (b := w.heap.size) (arr := ?_) (t := ?_) ?_ hb1 ?_; rotate_left 2; (focus (exact blk)); intro qa; have qac0 := qa.cell 0; have qaf0 := qa.free 0; have qac1 := qa.cell 1; have qaf1 := qa.free 1; have qac2 := qa.cell 2; have qaf2 := qa.free 2; have qac3 := qa.cell 3; have qaf3 := qa.free 3; have qac4 := qa.cell 4; have qaf4 := qa.free 4; have qac5 := qa.cell 5; have qaf5 := qa.free 5; have qac6 := qa.cell 6; have qaf6 := qa.free 6; have qac7 := qa.cell 7; have qaf7 := qa.free 7; have qal := qa.lt; simp at qac0 qac1 qac2 qac3 qac4 qac5 qac6 qac7; refine Blk.thru (b := w.heap.size + 1) (arr := ?_) (t := ?_) ?_ hb1 ?_; rotate_left 2; (focus (exact blk)); intro qb; have qbc0 := qb.cell 0; have qbf0 := qb.free 0; have qbc1 := qb.cell 1; have qbf1 := qb.free 1; have qbl := qb.lt; simp at qbc0 qbc1) | fail)
  first | (go_ret; exact ⟨rfl, by (exact kpt)⟩) | (exact bodyPost_ret (by simp [results, Try.results42, go_sem]) rfl ⟨rfl, by (exact kpt)⟩)

theorem f_Roof_arg (h : Hl) (x y : Int) (w : World) (hv : hullB h = true) (hs : spanIn x y 1500 3500 = false) :
    Calls Try.prog 42 #[.agg #[.int .i64 h.room, .int .i64 h.gas, .int .i64 h.wlo, .int .i64 h.whi, .int .i64 h.ballonet, .int .i64 h.bag, .int .i64 h.least, .int .i64 h.most], .agg #[.int .i64 (x), .int .i64 (y)]] w fun e w' => e = .returned (.tuple #[.int .i64 (0), .int .i64 (2)]) ∧ Kept w w' := by
  have HC := Lib.hid (show checkHull h = 0 by unfold checkHull; rw [hv]; rfl)
  have HT := Lib.hid hs
  clear hv hs
  go_enter Try.func42, Try.ntmps42
  go_wp2_with (first | (go_at_call 44; (with_reducible refine (f_CheckHull h _).mono ?_); rw [HC.out]; rintro e w1 ⟨rfl, hb1⟩; obtain ⟨hc1, hf1, hl1⟩ := bcell3 hb1; refine Blk.thru (b := w.heap.size) (arr := ?_) (t := ?_) ?_ hb1 ?_; rotate_left 2; (focus (exact blk)); intro qa; have qac0 := qa.cell 0; have qaf0 := qa.free 0; have qac1 := qa.cell 1; have qaf1 := qa.free 1; have qac2 := qa.cell 2; have qaf2 := qa.free 2; have qac3 := qa.cell 3; have qaf3 := qa.free 3; have qac4 := qa.cell 4; have qaf4 := qa.free 4; have qac5 := qa.cell 5; have qaf5 := qa.free 5; have qac6 := qa.cell 6; have qaf6 := qa.free 6; have qac7 := qa.cell 7; have qaf7 := qa.free 7; have qal := qa.lt; simp at qac0 qac1 qac2 qac3 qac4 qac5 qac6 qac7; refine Blk.thru (b := w.heap.size + 1) (arr := ?_) (t := ?_) ?_ hb1 ?_; rotate_left 2; (focus (exact blk)); intro qb; have qbc0 := qb.cell 0; have qbf0 := qb.free 0; have qbc1 := qb.cell 1; have qbf1 := qb.free 1; have qbl := qb.lt; simp at qbc0 qbc1) | (go_at_call 89; (with_reducible refine (f_temps x y _).mono ?_); rw [HT.out]; rintro e w1 ⟨rfl, hb1⟩; obtain ⟨hc1, hf1, hl1⟩ := bcell3 hb1; refine Blk.thru (b := w.heap.size) (arr := ?_) (t := ?_) ?_ hb1 ?_; rotate_left 2; (focus (exact blk)); intro qa; have qac0 := qa.cell 0; have qaf0 := qa.free 0; have qac1 := qa.cell 1; have qaf1 := qa.free 1; have qac2 := qa.cell 2; have qaf2 := qa.free 2; have qac3 := qa.cell 3; have qaf3 := qa.free 3; have qac4 := qa.cell 4; have qaf4 := qa.free 4; have qac5 := qa.cell 5; have qaf5 := qa.free 5; have qac6 := qa.cell 6; have qaf6 := qa.free 6; have qac7 := qa.cell 7; have qaf7 := qa.free 7; have qal := qa.lt; simp at qac0 qac1 qac2 qac3 qac4 qac5 qac6 qac7; refine Blk.thru (b := w.heap.size + 1) (arr := ?_) (t := ?_) ?_ hb1 ?_; rotate_left 2; (focus (exact blk)); intro qb; have qbc0 := qb.cell 0; have qbf0 := qb.free 0; have qbc1 := qb.cell 1; have qbf1 := qb.free 1; have qbl := qb.lt; simp at qbc0 qbc1))
  first | (go_ret; exact ⟨rfl, by (exact kpt)⟩) | (exact bodyPost_ret (by simp [results, Try.results42, go_sem]) rfl ⟨rfl, by (exact kpt)⟩)

/-- the search of the roof has passed k pressures -/
def RoofRel (w : World) (h : Hl) (x y : Int) (i : Value) (wr : World) : Prop :=
  ∃ k : Nat, k ≤ 11001 ∧ i = .int .i64 (1000 + k) ∧ (∀ j, j < k → roofs h x y j = false) ∧ Blk wr w.heap.size #[.int .i64 h.room, .int .i64 h.gas, .int .i64 h.wlo, .int .i64 h.whi, .int .i64 h.ballonet, .int .i64 h.bag, .int .i64 h.least, .int .i64 h.most] 45 ∧ Blk wr (w.heap.size + 1) #[.int .i64 x, .int .i64 y] 23 ∧ Kept w wr
theorem f_Roof_ok (h : Hl) (x y : Int) (w : World) (hv : hullB h = true) (hs : spanIn x y 1500 3500 = true) :
    Calls Try.prog 42 #[.agg #[.int .i64 h.room, .int .i64 h.gas, .int .i64 h.wlo, .int .i64 h.whi, .int .i64 h.ballonet, .int .i64 h.bag, .int .i64 h.least, .int .i64 h.most], .agg #[.int .i64 (x), .int .i64 (y)]] w fun e w' => e = .returned (.tuple #[.int .i64 (roofN (roof h x y)), .int .i64 (roofE (roof h x y))]) ∧ Kept w w' := by
  obtain ⟨RN, hRN⟩ : ∃ R, R = roofN (roof h x y) := ⟨_, rfl⟩
  obtain ⟨RE, hRE⟩ : ∃ R, R = roofE (roof h x y) := ⟨_, rfl⟩
  have HSOME := Lib.hid (fun (k : Nat) (hk : k < 11001) hb hh => @roofs_some h x y k hk hb hh)
  have HNONE := Lib.hid (fun hb => @roofs_none h x y hb)
  rw [← hRN, ← hRE] at *
  clear hRN hRE
  have HC := Lib.hid (show checkHull h = 0 by unfold checkHull; rw [hv]; rfl)
  have HP := Lib.hid (fun (k : Nat) (hk : k < 11001) => calm_B (p := 1000 + k) hs (by omega))
  have HT := Lib.hid hs
  have HV := Lib.hid hv
  clear hv hs
  go_enter Try.func42, Try.ntmps42
  go_wp2_with (first | (go_at_call 44; (with_reducible refine (f_CheckHull h _).mono ?_); rw [HC.out]; rintro e w1 ⟨rfl, hb1⟩; obtain ⟨hc1, hf1, hl1⟩ := bcell3 hb1; refine Blk.thru (b := w.heap.size) (arr := ?_) (t := ?_) ?_ hb1 ?_; rotate_left 2; (focus (exact blk)); intro qa; have qac0 := qa.cell 0; have qaf0 := qa.free 0; have qac1 := qa.cell 1; have qaf1 := qa.free 1; have qac2 := qa.cell 2; have qaf2 := qa.free 2; have qac3 := qa.cell 3; have qaf3 := qa.free 3; have qac4 := qa.cell 4; have qaf4 := qa.free 4; have qac5 := qa.cell 5; have qaf5 := qa.free 5; have qac6 := qa.cell 6; have qaf6 := qa.free 6; have qac7 := qa.cell 7; have qaf7 := qa.free 7; have qal := qa.lt; simp at qac0 qac1 qac2 qac3 qac4 qac5 qac6 qac7; refine Blk.thru (b := w.heap.size + 1) (arr := ?_) (t := ?_) ?_ hb1 ?_; rotate_left 2; (focus (exact blk)); intro qb; have qbc0 := qb.cell 0; have qbf0 := qb.free 0; have qbc1 := qb.cell 1; have qbf1 := qb.free 1; have qbl := qb.lt; simp at qbc0 qbc1) | (go_at_call 89; (with_reducible refine (f_temps x y _).mono ?_); rw [HT.out]; rintro e w1 ⟨rfl, hb1⟩; obtain ⟨hc1, hf1, hl1⟩ := bcell3 hb1; refine Blk.thru (b := w.heap.size) (arr := ?_) (t := ?_) ?_ hb1 ?_; rotate_left 2; (focus (exact blk)); intro qa; have qac0 := qa.cell 0; have qaf0 := qa.free 0; have qac1 := qa.cell 1; have qaf1 := qa.free 1; have qac2 := qa.cell 2; have qaf2 := qa.free 2; have qac3 := qa.cell 3; have qaf3 := qa.free 3; have qac4 := qa.cell 4; have qaf4 := qa.free 4; have qac5 := qa.cell 5; have qaf5 := qa.free 5; have qac6 := qa.cell 6; have qaf6 := qa.free 6; have qac7 := qa.cell 7; have qaf7 := qa.free 7; have qal := qa.lt; simp at qac0 qac1 qac2 qac3 qac4 qac5 qac6 qac7; refine Blk.thru (b := w.heap.size + 1) (arr := ?_) (t := ?_) ?_ hb1 ?_; rotate_left 2; (focus (exact blk)); intro qb; have qbc0 := qb.cell 0; have qbf0 := qb.free 0; have qbc1 := qb.cell 1; have qbf1 := qb.free 1; have qbl := qb.lt; simp at qbc0 qbc1))
  go_loopw [7] (fun i wr => RoofRel w h x y i wr) (fun i _ => 13000 - (intOf i).toNat)
  case atStart => exact ⟨0, by omega, rfl, fun j hj => by omega, by (exact blk), by (exact blk), by (exact kpt)⟩
  case round =>
    obtain ⟨k, hk, rfl, hno, q0, q1, hkk⟩ := hrel
    have HN := Lib.hid hno
    clear hno
    have q0c0 := q0.cell 0
    have q0f0 := q0.free 0
    have q0c1 := q0.cell 1
    have q0f1 := q0.free 1
    have q0c2 := q0.cell 2
    have q0f2 := q0.free 2
    have q0c3 := q0.cell 3
    have q0f3 := q0.free 3
    have q0c4 := q0.cell 4
    have q0f4 := q0.free 4
    have q0c5 := q0.cell 5
    have q0f5 := q0.free 5
    have q0c6 := q0.cell 6
    have q0f6 := q0.free 6
    have q0c7 := q0.cell 7
    have q0f7 := q0.free 7
    have q0l := q0.lt
    simp at q0c0 q0c1 q0c2 q0c3 q0c4 q0c5 q0c6 q0c7
    have q1c0 := q1.cell 0
    have q1f0 := q1.free 0
    have q1c1 := q1.cell 1
    have q1f1 := q1.free 1
    have q1l := q1.lt
    simp at q1c0 q1c1
    by_cases hlt : k < 11001
    · by_cases hc : blowLo h ⟨1000 + k, 1000 + k, x, y⟩ ≤ blowHi h ⟨1000 + k, 1000 + k, x, y⟩
      · have HC2 := Lib.hid (HSOME.out k hlt HN.out (show roofs h x y k = true from decide_eq_true hc))
        go_wp2_with (go_at_call 101; (with_reducible refine (f_blown h ⟨1000 + k, 1000 + k, x, y⟩ _ HV.out (HP.out k hlt)).mono ?_); rintro e w1 ⟨rfl, hb1⟩; obtain ⟨hc1, hf1, hl1⟩ := bcell3 hb1)
        obtain ⟨rfl, rfl⟩ := HC2.out
        exact bodyPost_ret (v := .tuple #[.int .i64 (1000 + (k : Int)), .int .i64 (0)]) (by simp [results, Try.results42, go_sem]) rfl ⟨rfl, by (exact kpt)⟩
      · have HC2 := Lib.hid (show roofs h x y k = false from decide_eq_false hc)
        go_wp2_with (go_at_call 101; (with_reducible refine (f_blown h ⟨1000 + k, 1000 + k, x, y⟩ _ HV.out (HP.out k hlt)).mono ?_); rintro e w1 ⟨rfl, hb1⟩; obtain ⟨hc1, hf1, hl1⟩ := bcell3 hb1)
        go_round
        case rel =>
          refine ⟨k + 1, by omega, by go_num, ?_, by (exact blk), by (exact blk), by (exact kpt)⟩
          intro j hj
          by_cases hjk : j < k
          · exact HN.out j hjk
          · obtain rfl : j = k := by omega
            exact HC2.out
        case measure => simp [intOf]; omega
    · obtain rfl : k = 11001 := by omega
      have HC2 := Lib.hid (HNONE.out HN.out)
      go_wp2
      obtain ⟨rfl, rfl⟩ := HC2.out
      exact bodyPost_ret (v := .tuple #[.int .i64 (0), .int .i64 (6)]) (by simp [results, Try.results42, go_sem]) rfl ⟨rfl, by (exact kpt)⟩

end Go.Proofs.Ytemafanncejeiaa

/-
  Hulls: what the functions answer, errors and all.
-/
namespace Go.Proofs.Ytemafanncejeiaa
open Go.RowKit Bal Bal.Trim Bal.Gas
set_option linter.unusedVariables false
set_option linter.unusedSimpArgs false
set_option maxHeartbeats 800000

theorem f_OverC (h : Hl) (a : Air) (w : World) :
    Calls Try.prog 36 #[.agg #[.int .i64 h.room, .int .i64 h.gas, .int .i64 h.wlo, .int .i64 h.whi, .int .i64 h.ballonet, .int .i64 h.bag, .int .i64 h.least, .int .i64 h.most], .agg #[.int .i64 a.plo, .int .i64 a.phi, .int .i64 a.tlo, .int .i64 a.thi]] w fun e w' => e = .returned (.tuple #[.agg #[.int .i64 (Bal.Gas.ifOk (hung h a) (overLo h a)), .int .i64 (Bal.Gas.ifOk (hung h a) (overHi h a))], .int .i64 (hung h a)]) ∧ Kept w w' := by
  cases hv : hullB h
  · rw [hung_hull hv]; exact f_Over_bad h a w hv
  · cases ha : airB a
    · rw [hung_air hv ha]; exact f_Over_air h a w hv ha
    · rw [hung_ok hv ha]; exact f_Over_ok h a w hv ha

theorem f_HoldsC (h : Hl) (a : Air) (w : World) :
    Calls Try.prog 38 #[.agg #[.int .i64 h.room, .int .i64 h.gas, .int .i64 h.wlo, .int .i64 h.whi, .int .i64 h.ballonet, .int .i64 h.bag, .int .i64 h.least, .int .i64 h.most], .agg #[.int .i64 a.plo, .int .i64 a.phi, .int .i64 a.tlo, .int .i64 a.thi]] w fun e w' => e = .returned (.tuple #[.bool (decide (hung h a = 0) && holdsB h a), .int .i64 (hung h a)]) ∧ Kept w w' := by
  cases hv : hullB h
  · rw [hung_hull hv]; exact f_Holds_bad h a w hv
  · cases ha : airB a
    · rw [hung_air hv ha]; exact f_Holds_air h a w hv ha
    · rw [hung_ok hv ha]; exact f_Holds_ok h a w hv ha

theorem f_BlowC (h : Hl) (a : Air) (w : World) :
    Calls Try.prog 40 #[.agg #[.int .i64 h.room, .int .i64 h.gas, .int .i64 h.wlo, .int .i64 h.whi, .int .i64 h.ballonet, .int .i64 h.bag, .int .i64 h.least, .int .i64 h.most], .agg #[.int .i64 a.plo, .int .i64 a.phi, .int .i64 a.tlo, .int .i64 a.thi]] w fun e w' => e = .returned (.tuple #[.agg #[.int .i64 (Bal.Gas.ifOk (blowE h a) (blowLo h a)), .int .i64 (Bal.Gas.ifOk (blowE h a) (blowHi h a))], .int .i64 (blowE h a)]) ∧ Kept w w' := by
  unfold blowE
  cases hv : hullB h
  · rw [hung_hull hv]; exact f_Blow_bad h a w hv
  · cases ha : airB a
    · rw [hung_air hv ha]; exact f_Blow_air h a w hv ha
    · rw [hung_ok hv ha]
      by_cases hc : blowHi h a < blowLo h a
      · simp only [hc, if_true]; exact f_Blow_none h a w hv ha hc
      · simp only [hc, if_true, if_false]; exact f_Blow_ok h a w hv ha hc

theorem f_RoofC (h : Hl) (x y : Int) (w : World) :
    Calls Try.prog 42 #[.agg #[.int .i64 h.room, .int .i64 h.gas, .int .i64 h.wlo, .int .i64 h.whi, .int .i64 h.ballonet, .int .i64 h.bag, .int .i64 h.least, .int .i64 h.most], .agg #[.int .i64 (x), .int .i64 (y)]] w fun e w' => e = .returned (.tuple #[.int .i64 (roofCN h x y), .int .i64 (roofCE h x y)]) ∧ Kept w w' := by
  unfold roofCN roofCE
  cases hv : hullB h
  · exact f_Roof_bad h x y w hv
  · cases hs : spanIn x y 1500 3500
    · exact f_Roof_arg h x y w hv hs
    · simp only [if_true]; exact f_Roof_ok h x y w hv hs

end Go.Proofs.Ytemafanncejeiaa

/-
  The lifts of a cell.
-/
namespace Go.Proofs.Ytemafanncejeiaa
open Go.RowKit Bal Bal.Trim Bal.Gas
set_option linter.unusedVariables false
set_option linter.unusedSimpArgs false
set_option maxHeartbeats 800000

theorem f_Lift_bad (c : Cell) (a : Air) (w : World) (hv : cellB c = false) :
    Calls Try.prog 30 #[.agg #[.int .i64 c.room, .int .i64 c.helium, .int .i64 c.air, .int .i64 c.wlo, .int .i64 c.whi, .int .i64 c.leak, .int .i64 c.owed], .agg #[.int .i64 a.plo, .int .i64 a.phi, .int .i64 a.tlo, .int .i64 a.thi]] w fun e w' => e = .returned (.tuple #[.agg #[.int .i64 0, .int .i64 0], .int .i64 31]) ∧ Kept w w' := by
  go_enter Try.func30, Try.ntmps30
  go_wp2_with (go_at_call 80; (with_reducible refine (f_put_bad c a _ hv).mono ?_); rintro e w1 ⟨rfl, hb1⟩; obtain ⟨hc1, hf1, hl1⟩ := bcell3 hb1)
  exact bodyPost_ret (v := .tuple #[.agg #[.int .i64 0, .int .i64 0], .int .i64 31]) (by simp [results, Try.results30, go_sem, hc1, hf1, hl1]) rfl ⟨rfl, by (exact kpt)⟩

theorem f_Lift_air (c : Cell) (a : Air) (w : World) (hv : cellB c = true) (ha : airB a = false) :
    Calls Try.prog 30 #[.agg #[.int .i64 c.room, .int .i64 c.helium, .int .i64 c.air, .int .i64 c.wlo, .int .i64 c.whi, .int .i64 c.leak, .int .i64 c.owed], .agg #[.int .i64 a.plo, .int .i64 a.phi, .int .i64 a.tlo, .int .i64 a.thi]] w fun e w' => e = .returned (.tuple #[.agg #[.int .i64 0, .int .i64 0], .int .i64 30]) ∧ Kept w w' := by
  go_enter Try.func30, Try.ntmps30
  go_wp2_with (go_at_call 80; (with_reducible refine (f_put_air c a _ hv ha).mono ?_); rintro e w1 ⟨rfl, hb1⟩; obtain ⟨hc1, hf1, hl1⟩ := bcell3 hb1)
  exact bodyPost_ret (v := .tuple #[.agg #[.int .i64 0, .int .i64 0], .int .i64 30]) (by simp [results, Try.results30, go_sem, hc1, hf1, hl1]) rfl ⟨rfl, by (exact kpt)⟩

set_option maxRecDepth 10000
theorem i64_inA {n : Int} (h : -9223372036854775808 ≤ n ∧ n ≤ 9223372036854775807) : IntKind.i64.wrap n = n := by rw [IntKind.wrap_i64]; have := w64_in n h; unfold wrap64 at this; omega
theorem infoR : (Try.prog.info? 149).map (fun i => (i.zero, i.size, i.bytes)) = some (some (.agg #[.int .i64 0, .int .i64 0]), 2, 16) := by kernel_rfl
/-- what stands around the lift's loops: the arguments' boxes, the result, the cell in air, the two superheats -/
def LiftB (w w1 W : World) (c : Cell) (a : Air) : Prop :=
  Blk W w.heap.size #[.int .i64 c.room, .int .i64 c.helium, .int .i64 c.air, .int .i64 c.wlo, .int .i64 c.whi, .int .i64 c.leak, .int .i64 c.owed] 25 ∧ Blk W (w.heap.size + 1) #[.int .i64 a.plo, .int .i64 a.phi, .int .i64 a.tlo, .int .i64 a.thi] 27 ∧ Blk W (w.heap.size + 1 + 1) #[.int .i64 0, .int .i64 0] 23 ∧ Blk W w1.heap.size #[.int .i64 c.room, .int .i64 c.helium, .int .i64 c.air, .int .i64 c.wlo, .int .i64 c.whi, .int .i64 c.leak, .int .i64 c.owed, .int .i64 a.plo, .int .i64 a.phi, .int .i64 a.tlo, .int .i64 a.thi, .int .i64 (amount c), .int .i64 (heatLo c a), .int .i64 (heatHi c a)] 144 ∧ Kept w W
theorem LiftB.keep {w w1 W W' : World} {c : Cell} {a : Air} (h : LiftB w w1 W c a) (k : Kept W W') : LiftB w w1 W' c a :=
  ⟨h.1.keep k, h.2.1.keep k, h.2.2.1.keep k, h.2.2.2.1.keep k, Kept.drop h.2.2.2.2 k⟩
theorem LiftB.grown {w w1 W W' : World} {c : Cell} {a : Air} {k n : Nat} {v : Value} {xs : List Value} (h : LiftB w w1 W c a) (ho : W.ownsRow w.heap.size 149 k v n xs) (hg : W.grownBy W' v.ownBlock) : LiftB w w1 W' c a :=
  ⟨h.1.grown ho (by decide) hg, h.2.1.grown ho (by decide) hg, h.2.2.1.grown ho (by decide) hg, h.2.2.2.1.grown ho (by decide) hg, h.2.2.2.2.grown ho (Nat.le_refl _) hg⟩
def LiftOut (w w1 : World) (c : Cell) (a : Air) (s i : Value) (W : World) : Prop :=
  ∃ k : Nat, k ≤ 2 ∧ i = .int .i64 k ∧ W.ownsRow w.heap.size 149 2 s (2 * k) (((liftR c a).take (2 * k)).flatMap Ratio.cells) ∧ LiftB w w1 W c a ∧ Blk W (w1.heap.size + 1) #[.int .i64 c.wlo, .int .i64 c.whi] 3
def LiftIn (w w1 wr : World) (c : Cell) (a : Air) (k : Nat) (s j : Value) (W : World) : Prop :=
  ∃ m : Nat, m ≤ 2 ∧ j = .int .i64 m ∧ W.ownsRow w.heap.size 149 2 s (2 * k + m) (((liftR c a).take (2 * k + m)).flatMap Ratio.cells) ∧ LiftB w w1 W c a ∧ Blk W (w1.heap.size + 1) #[.int .i64 c.wlo, .int .i64 c.whi] 3 ∧ Blk W wr.heap.size #[.int .i64 a.tlo, .int .i64 a.thi] 3

theorem f_Lift_ok (c : Cell) (a : Air) (w : World) (hv : cellB c = true) (ha : airB a = true) :
    Calls Try.prog 30 #[.agg #[.int .i64 c.room, .int .i64 c.helium, .int .i64 c.air, .int .i64 c.wlo, .int .i64 c.whi, .int .i64 c.leak, .int .i64 c.owed], .agg #[.int .i64 a.plo, .int .i64 a.phi, .int .i64 a.tlo, .int .i64 a.thi]] w fun e w' => e = .returned (.tuple #[.agg #[.int .i64 (liftLo c a), .int .i64 (liftHi c a)], .int .i64 0]) ∧ Kept w w' := by
  obtain ⟨n0, n1, _⟩ := prod_bd hv ha
  obtain ⟨⟨h7, h8, h9⟩, h10, h11, h12⟩ := airB_iff.1 ha
  obtain ⟨_, ⟨u1, u2⟩, _, _, _, u3, u4, u5⟩ := cellB_iff.1 hv
  have b1 := pull_bd (x := c.wlo) hv (by omega)
  have b2 := pull_bd (x := c.whi) hv (by omega)
  have E1 := Lib.hid (lift_lo hv ha)
  have E2 := Lib.hid (lift_hi hv ha)
  have HR := Lib.hid (show ∀ x ∈ liftR c a, ratioOk x by intro x hx; simp only [liftR, List.mem_cons, List.not_mem_nil, or_false] at hx; rcases hx with rfl | rfl | rfl | rfl <;> refine ⟨?_, ?_, ?_, ?_⟩ <;> simp only <;> omega)
  have l1 : -1000000000000 ≤ liftLo c a ∧ liftLo c a ≤ 1000000000000 := by
    have d1 := div_bd (N := 174000000000) b1.1 b1.2 (show 0 < a.tlo by omega) (by omega)
    have d2 := div_bd (N := 174000000000) b1.1 b1.2 (show 0 < a.thi by omega) (by omega)
    unfold liftLo; omega
  have l2 : -1000000000000 ≤ liftHi c a ∧ liftHi c a ≤ 1000000000000 := by
    have d1 := div_bd (N := 174000000000) (a := -pull c c.whi) (by omega) (by omega) (show 0 < a.tlo by omega) (by omega)
    have d2 := div_bd (N := 174000000000) (a := -pull c c.whi) (by omega) (by omega) (show 0 < a.thi by omega) (by omega)
    unfold liftHi; omega
  have HV := Lib.hid hv
  have HA := Lib.hid ha
  clear hv ha
  unfold pull at b1 b2
  go_enter Try.func30, Try.ntmps30
  go_wp2_with (go_at_call 80; (with_reducible refine (f_put_good c a _ HV.out HA.out).mono ?_); rintro e w1 ⟨rfl, hb1⟩; obtain ⟨hc1, hf1, hl1⟩ := bcell3 hb1; refine Blk.thru (b := w.heap.size) (arr := ?_) (t := ?_) ?_ hb1 ?_; rotate_left 2; (focus (exact blk)); intro qa; have qac0 := qa.cell 0; have qaf0 := qa.free 0; have qac1 := qa.cell 1; have qaf1 := qa.free 1; have qac2 := qa.cell 2; have qaf2 := qa.free 2; have qac3 := qa.cell 3; have qaf3 := qa.free 3; have qac4 := qa.cell 4; have qaf4 := qa.free 4; have qac5 := qa.cell 5; have qaf5 := qa.free 5; have qac6 := qa.cell 6; have qaf6 := qa.free 6; have qal := qa.lt; simp at qac0 qac1 qac2 qac3 qac4 qac5 qac6; refine Blk.thru (b := w.heap.size + 1) (arr := ?_) (t := ?_) ?_ hb1 ?_; rotate_left 2; (focus (exact blk)); intro qb; have qbc0 := qb.cell 0; have qbf0 := qb.free 0; have qbc1 := qb.cell 1; have qbf1 := qb.free 1; have qbc2 := qb.cell 2; have qbf2 := qb.free 2; have qbc3 := qb.cell 3; have qbf3 := qb.free 3; have qbl := qb.lt; simp at qbc0 qbc1 qbc2 qbc3)
  refine at_world (S := fun W => LiftB w w1 W c a ∧ Blk W (w1.heap.size + 1) #[.int .i64 c.wlo, .int .i64 c.whi] 3) ⟨⟨by (exact blk), by (exact blk), by (exact blk), by (exact blkc), by (exact kpt)⟩, by (exact blkc)⟩ ?_
  clear hc1 hf1 hl1 qac0 qaf0 qac1 qaf1 qac2 qaf2 qac3 qaf3 qac4 qaf4 qac5 qaf5 qac6 qaf6 qbc0 qbf0 qbc1 qbf1 qbc2 qbf2 qbc3 qbf3 qal qbl qa qb
  rintro W ⟨hb, q1⟩
  go_loopw [8, 33] (fun s i wr => LiftOut w w1 c a s i wr) (fun _ i _ => 2 - (intOf i).toNat)
  case atStart => exact ⟨0, by omega, rfl, owns_nil (α := Ratio) (enc := Ratio.cells), hb, q1⟩
  case round =>
    clear hb q1
    obtain ⟨k, hk2, rfl, hown, hb, q1⟩ := hrel
    rcases (show k = 0 ∨ k = 1 ∨ k = 2 by omega) with rfl | rfl | rfl
    · skip
      obtain ⟨r0, r1, r2, r3, hk⟩ := hb
      have r1c0 := r1.cell 0
      have r1f0 := r1.free 0
      have r1c1 := r1.cell 1
      have r1f1 := r1.free 1
      have r1c2 := r1.cell 2
      have r1f2 := r1.free 2
      have r1c3 := r1.cell 3
      have r1f3 := r1.free 3
      have r1l := r1.lt
      simp at r1c0 r1c1 r1c2 r1c3
      have q1c0 := q1.cell 0
      have q1f0 := q1.free 0
      have q1c1 := q1.cell 1
      have q1f1 := q1.free 1
      have q1l := q1.lt
      simp at q1c0 q1c1
      have sz := hk.size
      go_wp2
      have hown2 := hown.alloc (.cells #[.int .i64 a.tlo, .int .i64 a.thi] 3)
      go_loopw [8, 45] (fun s j wq => LiftIn w w1 wr c a 0 s j wq) (fun _ j _ => 2 - (intOf j).toNat)
      case atStart => exact ⟨0, by omega, rfl, hown2, LiftB.keep ⟨r0, r1, r2, r3, hk⟩ (Kept.alloc (Below.refl _ _) _), Blk.alloc q1 _, Blk.new⟩
      case round =>
        clear r0 r1 r2 r3 hk q1 hown hown2 r1c0 r1f0 r1c1 r1f1 r1c2 r1f2 r1c3 r1f3 q1c0 q1c1 q1f0 q1f1 r1l q1l
        obtain ⟨m, hm, rfl, hown, hb, q1, q2⟩ := hrel
        rcases (show m = 0 ∨ m = 1 ∨ m = 2 by omega) with rfl | rfl | rfl
        · skip
          obtain ⟨r0, r1, r2, r3, hk⟩ := hb
          have r3c0 := r3.cell 0
          have r3f0 := r3.free 0
          have r3c1 := r3.cell 1
          have r3f1 := r3.free 1
          have r3c2 := r3.cell 2
          have r3f2 := r3.free 2
          have r3c3 := r3.cell 3
          have r3f3 := r3.free 3
          have r3c4 := r3.cell 4
          have r3f4 := r3.free 4
          have r3c5 := r3.cell 5
          have r3f5 := r3.free 5
          have r3c6 := r3.cell 6
          have r3f6 := r3.free 6
          have r3c7 := r3.cell 7
          have r3f7 := r3.free 7
          have r3c8 := r3.cell 8
          have r3f8 := r3.free 8
          have r3c9 := r3.cell 9
          have r3f9 := r3.free 9
          have r3c10 := r3.cell 10
          have r3f10 := r3.free 10
          have r3c11 := r3.cell 11
          have r3f11 := r3.free 11
          have r3l := r3.lt
          simp at r3c0 r3c1 r3c2 r3c3 r3c4 r3c5 r3c6 r3c7 r3c8 r3c9 r3c10 r3c11
          have q1c0 := q1.cell 0
          have q1f0 := q1.free 0
          have q1c1 := q1.cell 1
          have q1f1 := q1.free 1
          have q1l := q1.lt
          simp at q1c0 q1c1
          have q2c0 := q2.cell 0
          have q2f0 := q2.free 0
          have q2c1 := q2.cell 1
          have q2f1 := q2.free 1
          have q2l := q2.lt
          simp at q2c0 q2c1
          have sz := hk.size
          go_wp2_with (at_builtin; obtain ⟨i0, hi, hz0, hz1, hz2⟩ := info_parts infoR; refine wpList_append_own _ rfl _ _ 158 rfl w.heap.size 149 i0 (.agg #[.int .i64 0, .int .i64 0]) 2 16 Try.underlying158 hi hz0 hz1 hz2 rfl (by decide) _ _ _ rfl (hown.alloc _) ⟨wr.heap.size, 0, none⟩ 1 1 [.int .i64 (pull c c.wlo), .int .i64 a.tlo] rfl rfl (cell_two_new _ _ _ _) (fun x hx => by simp at hx; rcases hx with rfl | rfl <;> rfl) (by unfold maxLen; omega) (by omega) (by simp; omega) ?_; intro v' w3 hown' hgrow hnil; clear hi hz0 hz1 hz2)
          go_roundw
          case rel =>
            have hb2 : LiftB w w1 w3 c a := LiftB.grown (LiftB.keep ⟨r0, r1, r2, r3, hk⟩ (Kept.alloc (Below.refl _ _) _)) (hown.alloc _) hgrow
            repeat (apply Exists.intro)
            refine ⟨?_, rfl⟩
            refine ⟨0 + 1, by omega, by go_num, ?_, hb2, (Blk.alloc q1 _).grown (hown.alloc _) (by decide) hgrow, (Blk.alloc q2 _).grown (hown.alloc _) (by decide) hgrow⟩
            simpa [liftR, Ratio.cells] using hown'
          case measure => simp [intOf]
        · skip
          obtain ⟨r0, r1, r2, r3, hk⟩ := hb
          have r3c0 := r3.cell 0
          have r3f0 := r3.free 0
          have r3c1 := r3.cell 1
          have r3f1 := r3.free 1
          have r3c2 := r3.cell 2
          have r3f2 := r3.free 2
          have r3c3 := r3.cell 3
          have r3f3 := r3.free 3
          have r3c4 := r3.cell 4
          have r3f4 := r3.free 4
          have r3c5 := r3.cell 5
          have r3f5 := r3.free 5
          have r3c6 := r3.cell 6
          have r3f6 := r3.free 6
          have r3c7 := r3.cell 7
          have r3f7 := r3.free 7
          have r3c8 := r3.cell 8
          have r3f8 := r3.free 8
          have r3c9 := r3.cell 9
          have r3f9 := r3.free 9
          have r3c10 := r3.cell 10
          have r3f10 := r3.free 10
          have r3c11 := r3.cell 11
          have r3f11 := r3.free 11
          have r3l := r3.lt
          simp at r3c0 r3c1 r3c2 r3c3 r3c4 r3c5 r3c6 r3c7 r3c8 r3c9 r3c10 r3c11
          have q1c0 := q1.cell 0
          have q1f0 := q1.free 0
          have q1c1 := q1.cell 1
          have q1f1 := q1.free 1
          have q1l := q1.lt
          simp at q1c0 q1c1
          have q2c0 := q2.cell 0
          have q2f0 := q2.free 0
          have q2c1 := q2.cell 1
          have q2f1 := q2.free 1
          have q2l := q2.lt
          simp at q2c0 q2c1
          have sz := hk.size
          go_wp2_with (at_builtin; obtain ⟨i0, hi, hz0, hz1, hz2⟩ := info_parts infoR; refine wpList_append_own _ rfl _ _ 158 rfl w.heap.size 149 i0 (.agg #[.int .i64 0, .int .i64 0]) 2 16 Try.underlying158 hi hz0 hz1 hz2 rfl (by decide) _ _ _ rfl (hown.alloc _) ⟨wr.heap.size, 0, none⟩ 1 1 [.int .i64 (pull c c.wlo), .int .i64 a.thi] rfl rfl (cell_two_new _ _ _ _) (fun x hx => by simp at hx; rcases hx with rfl | rfl <;> rfl) (by unfold maxLen; omega) (by omega) (by simp; omega) ?_; intro v' w3 hown' hgrow hnil; clear hi hz0 hz1 hz2)
          go_roundw
          case rel =>
            have hb2 : LiftB w w1 w3 c a := LiftB.grown (LiftB.keep ⟨r0, r1, r2, r3, hk⟩ (Kept.alloc (Below.refl _ _) _)) (hown.alloc _) hgrow
            repeat (apply Exists.intro)
            refine ⟨?_, rfl⟩
            refine ⟨1 + 1, by omega, by go_num, ?_, hb2, (Blk.alloc q1 _).grown (hown.alloc _) (by decide) hgrow, (Blk.alloc q2 _).grown (hown.alloc _) (by decide) hgrow⟩
            simpa [liftR, Ratio.cells] using hown'
          case measure => simp [intOf]
        · go_wp2
          go_roundw
          case rel =>
            first
            | exact ⟨0 + 1, by omega, by go_num, hown, hb, q1⟩
            | (apply Exists.intro; repeat (apply Exists.intro); refine ⟨?_, rfl⟩; exact ⟨0 + 1, by omega, by go_num, hown, hb, q1⟩)
          case measure => simp [intOf]
    · skip
      obtain ⟨r0, r1, r2, r3, hk⟩ := hb
      have r1c0 := r1.cell 0
      have r1f0 := r1.free 0
      have r1c1 := r1.cell 1
      have r1f1 := r1.free 1
      have r1c2 := r1.cell 2
      have r1f2 := r1.free 2
      have r1c3 := r1.cell 3
      have r1f3 := r1.free 3
      have r1l := r1.lt
      simp at r1c0 r1c1 r1c2 r1c3
      have q1c0 := q1.cell 0
      have q1f0 := q1.free 0
      have q1c1 := q1.cell 1
      have q1f1 := q1.free 1
      have q1l := q1.lt
      simp at q1c0 q1c1
      have sz := hk.size
      go_wp2
      have hown2 := hown.alloc (.cells #[.int .i64 a.tlo, .int .i64 a.thi] 3)
      go_loopw [8, 45] (fun s j wq => LiftIn w w1 wr c a 1 s j wq) (fun _ j _ => 2 - (intOf j).toNat)
      case atStart => exact ⟨0, by omega, rfl, hown2, LiftB.keep ⟨r0, r1, r2, r3, hk⟩ (Kept.alloc (Below.refl _ _) _), Blk.alloc q1 _, Blk.new⟩
      case round =>
        clear r0 r1 r2 r3 hk q1 hown hown2 r1c0 r1f0 r1c1 r1f1 r1c2 r1f2 r1c3 r1f3 q1c0 q1c1 q1f0 q1f1 r1l q1l
        obtain ⟨m, hm, rfl, hown, hb, q1, q2⟩ := hrel
        rcases (show m = 0 ∨ m = 1 ∨ m = 2 by omega) with rfl | rfl | rfl
        · skip
          obtain ⟨r0, r1, r2, r3, hk⟩ := hb
          have r3c0 := r3.cell 0
          have r3f0 := r3.free 0
          have r3c1 := r3.cell 1
          have r3f1 := r3.free 1
          have r3c2 := r3.cell 2
          have r3f2 := r3.free 2
          have r3c3 := r3.cell 3
          have r3f3 := r3.free 3
          have r3c4 := r3.cell 4
          have r3f4 := r3.free 4
          have r3c5 := r3.cell 5
          have r3f5 := r3.free 5
          have r3c6 := r3.cell 6
          have r3f6 := r3.free 6
          have r3c7 := r3.cell 7
          have r3f7 := r3.free 7
          have r3c8 := r3.cell 8
          have r3f8 := r3.free 8
          have r3c9 := r3.cell 9
          have r3f9 := r3.free 9
          have r3c10 := r3.cell 10
          have r3f10 := r3.free 10
          have r3c11 := r3.cell 11
          have r3f11 := r3.free 11
          have r3l := r3.lt
          simp at r3c0 r3c1 r3c2 r3c3 r3c4 r3c5 r3c6 r3c7 r3c8 r3c9 r3c10 r3c11
          have q1c0 := q1.cell 0
          have q1f0 := q1.free 0
          have q1c1 := q1.cell 1
          have q1f1 := q1.free 1
          have q1l := q1.lt
          simp at q1c0 q1c1
          have q2c0 := q2.cell 0
          have q2f0 := q2.free 0
          have q2c1 := q2.cell 1
          have q2f1 := q2.free 1
          have q2l := q2.lt
          simp at q2c0 q2c1
          have sz := hk.size
          go_wp2_with (at_builtin; obtain ⟨i0, hi, hz0, hz1, hz2⟩ := info_parts infoR; refine wpList_append_own _ rfl _ _ 158 rfl w.heap.size 149 i0 (.agg #[.int .i64 0, .int .i64 0]) 2 16 Try.underlying158 hi hz0 hz1 hz2 rfl (by decide) _ _ _ rfl (hown.alloc _) ⟨wr.heap.size, 0, none⟩ 1 1 [.int .i64 (pull c c.whi), .int .i64 a.tlo] rfl rfl (cell_two_new _ _ _ _) (fun x hx => by simp at hx; rcases hx with rfl | rfl <;> rfl) (by unfold maxLen; omega) (by omega) (by simp; omega) ?_; intro v' w3 hown' hgrow hnil; clear hi hz0 hz1 hz2)
          go_roundw
          case rel =>
            have hb2 : LiftB w w1 w3 c a := LiftB.grown (LiftB.keep ⟨r0, r1, r2, r3, hk⟩ (Kept.alloc (Below.refl _ _) _)) (hown.alloc _) hgrow
            repeat (apply Exists.intro)
            refine ⟨?_, rfl⟩
            refine ⟨0 + 1, by omega, by go_num, ?_, hb2, (Blk.alloc q1 _).grown (hown.alloc _) (by decide) hgrow, (Blk.alloc q2 _).grown (hown.alloc _) (by decide) hgrow⟩
            simpa [liftR, Ratio.cells] using hown'
          case measure => simp [intOf]
        · skip
          obtain ⟨r0, r1, r2, r3, hk⟩ := hb
          have r3c0 := r3.cell 0
          have r3f0 := r3.free 0
          have r3c1 := r3.cell 1
          have r3f1 := r3.free 1
          have r3c2 := r3.cell 2
          have r3f2 := r3.free 2
          have r3c3 := r3.cell 3
          have r3f3 := r3.free 3
          have r3c4 := r3.cell 4
          have r3f4 := r3.free 4
          have r3c5 := r3.cell 5
          have r3f5 := r3.free 5
          have r3c6 := r3.cell 6
          have r3f6 := r3.free 6
          have r3c7 := r3.cell 7
          have r3f7 := r3.free 7
          have r3c8 := r3.cell 8
          have r3f8 := r3.free 8
          have r3c9 := r3.cell 9
          have r3f9 := r3.free 9
          have r3c10 := r3.cell 10
          have r3f10 := r3.free 10
          have r3c11 := r3.cell 11
          have r3f11 := r3.free 11
          have r3l := r3.lt
          simp at r3c0 r3c1 r3c2 r3c3 r3c4 r3c5 r3c6 r3c7 r3c8 r3c9 r3c10 r3c11
          have q1c0 := q1.cell 0
          have q1f0 := q1.free 0
          have q1c1 := q1.cell 1
          have q1f1 := q1.free 1
          have q1l := q1.lt
          simp at q1c0 q1c1
          have q2c0 := q2.cell 0
          have q2f0 := q2.free 0
          have q2c1 := q2.cell 1
          have q2f1 := q2.free 1
          have q2l := q2.lt
          simp at q2c0 q2c1
          have sz := hk.size
          go_wp2_with (at_builtin; obtain ⟨i0, hi, hz0, hz1, hz2⟩ := info_parts infoR; refine wpList_append_own _ rfl _ _ 158 rfl w.heap.size 149 i0 (.agg #[.int .i64 0, .int .i64 0]) 2 16 Try.underlying158 hi hz0 hz1 hz2 rfl (by decide) _ _ _ rfl (hown.alloc _) ⟨wr.heap.size, 0, none⟩ 1 1 [.int .i64 (pull c c.whi), .int .i64 a.thi] rfl rfl (cell_two_new _ _ _ _) (fun x hx => by simp at hx; rcases hx with rfl | rfl <;> rfl) (by unfold maxLen; omega) (by omega) (by simp; omega) ?_; intro v' w3 hown' hgrow hnil; clear hi hz0 hz1 hz2)
          go_roundw
          case rel =>
            have hb2 : LiftB w w1 w3 c a := LiftB.grown (LiftB.keep ⟨r0, r1, r2, r3, hk⟩ (Kept.alloc (Below.refl _ _) _)) (hown.alloc _) hgrow
            repeat (apply Exists.intro)
            refine ⟨?_, rfl⟩
            refine ⟨1 + 1, by omega, by go_num, ?_, hb2, (Blk.alloc q1 _).grown (hown.alloc _) (by decide) hgrow, (Blk.alloc q2 _).grown (hown.alloc _) (by decide) hgrow⟩
            simpa [liftR, Ratio.cells] using hown'
          case measure => simp [intOf]
        · go_wp2
          go_roundw
          case rel =>
            first
            | exact ⟨1 + 1, by omega, by go_num, hown, hb, q1⟩
            | (apply Exists.intro; repeat (apply Exists.intro); refine ⟨?_, rfl⟩; exact ⟨1 + 1, by omega, by go_num, hown, hb, q1⟩)
          case measure => simp [intOf]
    · obtain ⟨r0, r1, r2, r3, hk⟩ := hb
      have hown' : wr.ownsRow w.heap.size 149 2 _ (liftR c a).length ((liftR c a).flatMap Ratio.cells) := hown
      obtain ⟨ad, cap, rfl, hrow, hc4, hcm⟩ := Row.of_owns (enc := Ratio.cells) (k := 2) (fun _ => rfl) hown'
      have HW := i64_inA (n := 25 * c.helium) (by omega)
      have hc2 : 2 ≤ (liftR c a).length := by simp [liftR]
      have hcm2 : cap ≤ 9223372036854775807 := by unfold maxLen at hcm; omega
      have k0 : ∀ w', Kept wr w' → w'.cell? ⟨w.heap.size, 1, none⟩ = some (.int .i64 c.helium) := fun w' h => by rw [(r0.keep h).cell 1]; rfl
      go_wp2
      go_upto_region 14 with fail
      go_cut [13, 14] (fun s13 s14 wx => ∃ g, s13 = .pointer (some ⟨g, 0, none⟩) ∧ s14 = .int .i64 (25 * c.helium) ∧ Blk wx g #[.int .i64 (leastLo (liftR c a)), .int .i64 (leastHi (liftR c a))] 23 ∧ Blk wx (w.heap.size + 1 + 1) #[.int .i64 0, .int .i64 0] 23 ∧ Kept w wx)
      case first =>
        go_region_held3 (fun w' => Kept wr w') (exact kpt) (first | (go_at_call 81; (with_reducible refine (f_least _ _ _ (liftR c a) _ rfl (B := 0) (hrow.later (by (exact kpt)) (Nat.le_refl _)) hc2 hc4 hcm2 HR.out).mono ?_); rintro e w1 ⟨rfl, hb1⟩; obtain ⟨hc1, hf1, hl1⟩ := bcell3 hb1))
        all_goals (go_wp2_with fail; go_meet)
        all_goals
          refine ⟨_, rfl, rfl, ?_, ?_, ?_⟩
          · (exact blkc)
          · (exact blkc)
          · (exact kpt)
      case rest =>
        obtain ⟨g, rfl, rfl, p1, p0, hkx⟩ := hcut
        have p1c0 := p1.cell 0
        have p1f0 := p1.free 0
        have p1c1 := p1.cell 1
        have p1f1 := p1.free 1
        have p1l := p1.lt
        simp at p1c0 p1c1
        have p0c0 := p0.cell 0
        have p0f0 := p0.free 0
        have p0c1 := p0.cell 1
        have p0f1 := p0.free 1
        have p0l := p0.lt
        simp at p0c0 p0c1
        have e1 := E1.out
        have e2 := E2.out
        go_wp2
        exact bodyPost_ret (v := .tuple #[.agg #[.int .i64 (liftLo c a), .int .i64 (liftHi c a)], .int .i64 0]) (by simp [results, Try.results30, go_sem, p0c0, p0c1, p0f0, p0f1]) rfl ⟨rfl, by (exact kpt)⟩

end Go.Proofs.Ytemafanncejeiaa

/-
  The cells of a plant at work: a row of seven-cell structs in a block of the call's own, beside the plant's own block. No program in sight.
-/
namespace Bal.Gas
open Go Go.RowKit Bal Bal.Trim

theorem cells_len (c : Cell) : c.cells.length = 7 := rfl
theorem flatMap_set {α : Type} {enc : α → List Value} {k : Nat} (he : ∀ x, (enc x).length = k) : ∀ (xs : List α) (i : Nat) (c c' : α) (j : Nat) (u : Value), xs[i]? = some c → j < k → enc c' = (enc c).set j u →
    (xs.set i c').flatMap enc = (xs.flatMap enc).set (i * k + j) u
  | [], i, c, c', j, u, h, _, _ => by simp at h
  | y :: ys, 0, c, c', j, u, h, hj, hc => by
    simp at h
    subst h
    rw [List.set_cons_zero, List.flatMap_cons, List.flatMap_cons, hc, Nat.zero_mul, Nat.zero_add, List.set_append_left _ _ (by rw [he]; exact hj)]
  | y :: ys, i + 1, c, c', j, u, h, hj, hc => by
    have ih := flatMap_set he ys i c c' j u (by simpa using h) hj hc
    rw [List.set_cons_succ, List.flatMap_cons, List.flatMap_cons, ih, List.set_append_right _ _ (by rw [he, Nat.succ_mul]; omega), he]
    congr 2
    rw [Nat.succ_mul]; omega

/-- a slice of cells that may be written: nil or empty, or at the head of a block from B on -/
def Mine (T : TypeId) (B : Nat) (w : World) (v : Value) (xs : List Cell) : Prop :=
  ∃ ad cp, v = .slice ad xs.length cp ∧ xs.length ≤ cp ∧ cp ≤ maxLen ∧ (ad = none → cp = 0) ∧ (xs = [] ∨ ∃ g cur, ad = some ⟨g, 0, none⟩ ∧ B ≤ g ∧ Blk w g cur T ∧ cur.toList.take (xs.length * 7) = xs.flatMap Cell.cells)
theorem Mine.zero {T : TypeId} {B : Nat} {w : World} : Mine T B w (.slice none 0 0) [] := ⟨none, 0, rfl, Nat.le_refl _, by simp [maxLen], fun _ => rfl, .inl rfl⟩
theorem Mine.of_owns {T : TypeId} {B : Nat} {w : World} {v : Value} {xs : List Cell} (h : w.ownsRow B T 7 v xs.length (xs.flatMap Cell.cells)) : Mine T B w v xs := by
  obtain ⟨_, ⟨rfl, hn⟩ | ⟨g, cap, cur, rfl, hb, hh, hnc, hcm, hsz, ht⟩⟩ := h
  · have : xs = [] := List.length_eq_zero_iff.1 hn
    subst this
    exact Mine.zero
  · exact ⟨_, cap, rfl, hnc, hcm, fun h => by simp at h, .inr ⟨g, cur, rfl, hb, hh, ht⟩⟩
theorem Mine.slice {T : TypeId} {B : Nat} {w : World} {v : Value} {xs : List Cell} (h : Mine T B w v xs) : ∃ ad cp, v = .slice ad xs.length cp ∧ xs.length ≤ cp ∧ cp ≤ maxLen ∧ (ad = none → cp = 0) := by
  obtain ⟨ad, cp, h1, h2, h3, h4, _⟩ := h
  exact ⟨ad, cp, h1, h2, h3, h4⟩
theorem Mine.keep {T : TypeId} {B : Nat} {w w' : World} {v : Value} {xs : List Cell} (h : Mine T B w v xs) (hb : Kept w w') : Mine T B w' v xs := by
  obtain ⟨ad, cp, h1, h2, h3, h4, h5⟩ := h
  refine ⟨ad, cp, h1, h2, h3, h4, ?_⟩
  rcases h5 with h5 | ⟨g, cur, ha, hg, hk, ht⟩
  · exact .inl h5
  · exact .inr ⟨g, cur, ha, hg, hk.keep hb, ht⟩
theorem Mine.alloc {T : TypeId} {B : Nat} {w : World} {v : Value} {xs : List Cell} (h : Mine T B w v xs) (o : Obj) : Mine T B (w.alloc o) v xs := h.keep ((Below.refl _ _).alloc (Nat.le_refl _) o)
theorem Mine.drew {T : TypeId} {B : Nat} {w : World} {v : Value} {xs : List Cell} (h : Mine T B w v xs) : Mine T B w.drew v xs := h.keep (Below.refl _ _).drew
theorem Mine.base {T : TypeId} {B C : Nat} {w : World} {v : Value} {xs : List Cell} (h : Mine T B w v xs) (hb : C ≤ B) : Mine T C w v xs := by
  obtain ⟨ad, cp, h1, h2, h3, h4, h5⟩ := h
  refine ⟨ad, cp, h1, h2, h3, h4, ?_⟩
  rcases h5 with h5 | ⟨g, cur, ha, hg, hk, ht⟩
  · exact .inl h5
  · exact .inr ⟨g, cur, ha, Nat.le_trans hb hg, hk, ht⟩
theorem Mine.row {T : TypeId} {B : Nat} {w : World} {ad : Option Addr} {n cp : Nat} {xs : List Cell} (h : Mine T B w (.slice ad n cp) xs) : n = xs.length ∧ Row Cell.cells 7 w.heap.size w ad xs ∧ xs.length ≤ cp ∧ cp ≤ maxLen ∧ (ad = none → cp = 0) := by
  obtain ⟨ad', cp', h1, h2, h3, h4, h5⟩ := h
  cases h1
  refine ⟨rfl, ?_, h2, h3, h4⟩
  rcases h5 with rfl | ⟨g, cur, rfl, hg, hk, ht⟩
  · exact Row.nil
  · intro i x hx
    refine ⟨g, 0, rfl, hk.lt, fun j v hj => ?_⟩
    have hjk : j < 7 := by have := (List.getElem?_eq_some_iff.1 hj).1; simpa [cells_len] using this
    have h1 := flatMap_get cells_len xs i x hx j hjk
    rw [← ht, List.getElem?_take] at h1
    rw [hk.cell, Nat.zero_add, ← Array.getElem?_toList]
    split at h1
    · rw [h1]; exact hj
    · rw [hj] at h1; cases h1
/-- the i-th cell of a slice that may be written: its block, its numbers -/
theorem Mine.at {T : TypeId} {B : Nat} {w : World} {ad : Option Addr} {n cp : Nat} {xs : List Cell} (h : Mine T B w (.slice ad n cp) xs) {i : Nat} (hi : i < xs.length) :
    ∃ g cur, ad = some ⟨g, 0, none⟩ ∧ B ≤ g ∧ Blk w g cur T ∧ w.cell? ⟨g, i * 7, none⟩ = some (.int .i64 xs[i].room) ∧ w.cell? ⟨g, i * 7 + 1, none⟩ = some (.int .i64 xs[i].helium) ∧ w.cell? ⟨g, i * 7 + 2, none⟩ = some (.int .i64 xs[i].air) ∧
      w.cell? ⟨g, i * 7 + 3, none⟩ = some (.int .i64 xs[i].wlo) ∧ w.cell? ⟨g, i * 7 + 4, none⟩ = some (.int .i64 xs[i].whi) ∧ w.cell? ⟨g, i * 7 + 5, none⟩ = some (.int .i64 xs[i].leak) ∧ w.cell? ⟨g, i * 7 + 6, none⟩ = some (.int .i64 xs[i].owed) := by
  have hr := h.row
  obtain ⟨ad', cp', h1, h2, h3, h4, h5⟩ := h
  cases h1
  rcases h5 with rfl | ⟨g, cur, rfl, hg, hk, ht⟩
  · simp at hi
  · obtain ⟨b, off, ha, _, hc⟩ := Cell.row hr.2.1 i hi
    cases ha
    simp only [Nat.zero_add] at hc
    exact ⟨g, cur, rfl, hg, hk, hc⟩
theorem Mine.put {T : TypeId} {B : Nat} {w : World} {g n cp : Nat} {xs : List Cell} (h : Mine T B w (.slice (some ⟨g, 0, none⟩) n cp) xs) {i j : Nat} {c : Cell} {u : Value} (c' : Cell) (hx : xs[i]? = some c) (hj : j < 7) (hc : c'.cells = c.cells.set j u) :
    Mine T B (w.setCell ⟨g, i * 7 + j, none⟩ u) (.slice (some ⟨g, 0, none⟩) n cp) (xs.set i c') := by
  obtain ⟨ad, cp', h1, h2, h3, h4, h5⟩ := h
  cases h1
  refine ⟨_, cp, by simp, by simpa using h2, h3, h4, ?_⟩
  rcases h5 with rfl | ⟨g', cur, ha, hg, hk, ht⟩
  · simp at hx
  · cases ha
    refine .inr ⟨g, cur.setIfInBounds (i * 7 + j) u, rfl, hg, hk.set _ _, ?_⟩
    rw [flatMap_set cells_len xs i c c' j u hx hj hc, ← ht, List.length_set, Array.toList_setIfInBounds, List.take_set]
theorem Mine.other {T t : TypeId} {B : Nat} {w : World} {v : Value} {xs : List Cell} (h : Mine T B w v xs) {b o : Nat} {arr : Array Value} (hb : Blk w b arr t) (hne : t ≠ T) (u : Value) : Mine T B (w.setCell ⟨b, o, none⟩ u) v xs := by
  obtain ⟨ad, cp, h1, h2, h3, h4, h5⟩ := h
  refine ⟨ad, cp, h1, h2, h3, h4, ?_⟩
  rcases h5 with h5 | ⟨g, cur, ha, hg, hk, ht⟩
  · exact .inl h5
  · refine .inr ⟨g, cur, ha, hg, hk.other ?_ u, ht⟩
    intro he
    simp only at he
    subst he
    unfold Blk at hb hk
    rw [hb] at hk
    simp only [Option.some.injEq, Obj.cells.injEq] at hk
    exact hne hk.2.1
/-- .. beside a block that is not the row's own, told once for all worlds -/
theorem Mine.ne {T t : TypeId} {B : Nat} {w : World} {ad : Option Addr} {n cp : Nat} {xs : List Cell} (h : Mine T B w (.slice ad n cp) xs) {b : Nat} {arr : Array Value} (hb : Blk w b arr t) (hne : t ≠ T) : xs = [] ∨ ∀ g, ad = some ⟨g, 0, none⟩ → g ≠ b := by
  obtain ⟨ad', cp', h1, h2, h3, h4, h5⟩ := h
  cases h1
  rcases h5 with h5 | ⟨g, cur, ha, hg, hk, ht⟩
  · exact .inl h5
  · refine .inr fun g' hg' he => ?_
    rw [ha] at hg'
    simp only [Option.some.injEq, Addr.mk.injEq, and_true] at hg'
    subst hg' he
    unfold Blk at hb hk
    rw [hb] at hk
    simp only [Option.some.injEq, Obj.cells.injEq] at hk
    exact hne hk.2.1
theorem Mine.off {T : TypeId} {B : Nat} {w : World} {ad : Option Addr} {n cp : Nat} {xs : List Cell} (h : Mine T B w (.slice ad n cp) xs) {b o : Nat} (hne : xs = [] ∨ ∀ g, ad = some ⟨g, 0, none⟩ → g ≠ b) (u : Value) : Mine T B (w.setCell ⟨b, o, none⟩ u) (.slice ad n cp) xs := by
  obtain ⟨ad', cp', h1, h2, h3, h4, h5⟩ := h
  cases h1
  refine ⟨ad, cp, rfl, h2, h3, h4, ?_⟩
  rcases h5 with h5 | ⟨g, cur, ha, hg, hk, ht⟩
  · exact .inl h5
  · rcases hne with hne | hne
    · exact .inl hne
    · exact .inr ⟨g, cur, ha, hg, hk.other (by simpa using Ne.symm (hne g ha)) u, ht⟩
/-- blocks of another type than T are as they were -/
def Besides (T : TypeId) (w w' : World) : Prop := ∀ b arr t, t ≠ T → Blk w b arr t → Blk w' b arr t
theorem Besides.refl (T : TypeId) (w : World) : Besides T w w := fun _ _ _ _ h => h
theorem Besides.trans {T : TypeId} {a b c : World} (h : Besides T a b) (k : Besides T b c) : Besides T a c := fun x arr t ht hx => k x arr t ht (h x arr t ht hx)
theorem Besides.keep {T : TypeId} {w w' : World} (h : Kept w w') : Besides T w w' := fun _ _ _ _ hb => hb.keep h
theorem Besides.put {T : TypeId} {w : World} {g o : Nat} {cur : Array Value} (hg : Blk w g cur T) (u : Value) : Besides T w (w.setCell ⟨g, o, none⟩ u) := fun b arr t ht hb => by
  refine hb.other ?_ u
  intro he
  simp only at he
  subst he
  unfold Blk at hb hg
  rw [hb] at hg
  simp only [Option.some.injEq, Obj.cells.injEq] at hg
  exact ht hg.2.1
theorem Besides.past {T : TypeId} {w w' : World} (h : Besides T w w') {b o : Nat} (hb : w.heap.size ≤ b) (u : Value) : Besides T w (w'.setCell ⟨b, o, none⟩ u) := fun x arr t ht hx => by
  refine (h x arr t ht hx).other ?_ u
  have := hx.lt
  simp only
  omega
def plantCells (v : Value) (p : Plant) : Array Value := #[v, .int .i64 p.bottles, .int .i64 p.inH, .int .i64 p.inA, .int .i64 p.vH, .int .i64 p.vA, .int .i64 p.lH, .int .i64 p.lA, .int .i64 p.pH, .int .i64 p.pA]
theorem Besides.blk {T : TypeId} {w w' : World} (h : Besides T w w') {b : Nat} {arr : Array Value} {t : TypeId} (hne : t ≠ T) (hb : Blk w b arr t) : Blk w' b arr t := h b arr t hne hb
/-- a plant at work: its own block, and its cells -/
def Shop (Tc Ts : TypeId) (B : Nat) (w : World) (s : Nat) (ad : Option Addr) (cp : Nat) (p : Plant) : Prop :=
  B ≤ s ∧ Blk w s (plantCells (.slice ad p.cells.length cp) p) Ts ∧ Mine Tc B w (.slice ad p.cells.length cp) p.cells
theorem Shop.keep {Tc Ts : TypeId} {B : Nat} {w w' : World} {s : Nat} {ad : Option Addr} {cp : Nat} {p : Plant} (h : Shop Tc Ts B w s ad cp p) (hk : Kept w w') : Shop Tc Ts B w' s ad cp p := ⟨h.1, h.2.1.keep hk, h.2.2.keep hk⟩
end Bal.Gas

/-
  Structs as cells of memory. No program in sight.
-/
namespace Bal.Gas
open Go Go.RowKit Bal

def Par.cells (x : Par) : List Value := [.int .i64 x.h, .int .i64 x.a]
theorem Par.row {B : Nat} {w : World} {a : Option Addr} {xs : List Par} (h : Row Par.cells 2 B w a xs) (i : Nat) (hi : i < xs.length) :
    ∃ b off, a = some ⟨b, off, none⟩ ∧ b < B ∧ w.cell? ⟨b, off + i * 2, none⟩ = some (.int .i64 xs[i].h) ∧ w.cell? ⟨b, off + i * 2 + 1, none⟩ = some (.int .i64 xs[i].a) := by
  obtain ⟨b, off, ha, hb, hc⟩ := h i xs[i] (by simp [hi])
  exact ⟨b, off, ha, hb, hc 0 _ rfl, hc 1 _ rfl⟩
theorem Par.of_leaves {cs : List Value} (h : LeavesOk [.int .i64, .int .i64] cs) : ∃ x : Par, cs = x.cells ∧ (Lit.int .i64 x.h).wf = true ∧ (Lit.int .i64 x.a).wf = true := by
  obtain ⟨hl, h⟩ := h
  match cs, hl with
  | [v0, v1], _ =>
    obtain ⟨_, e0, n0, rfl, w0⟩ := h 0 (.int .i64) rfl; simp at e0; subst e0
    obtain ⟨_, e1, n1, rfl, w1⟩ := h 1 (.int .i64) rfl; simp at e1; subst e1
    exact ⟨⟨n0, n1⟩, rfl, w0, w1⟩

end Bal.Gas

/-
  An empty slice that a call has made, and lists appended to it. No program in sight.
-/
namespace Bal
open Go Go.RowKit
set_option linter.unusedVariables false
theorem owns_made {α : Type} {enc : α → List Value} {base k n : Nat} {e : TypeId} {w : World} (hn : n = w.heap.size) (hb : base ≤ w.heap.size) : (w.alloc (.cells #[] e)).ownsRow base e k (.slice (some ⟨n, 0, none⟩) 0 0) ([] : List α).length (([] : List α).flatMap enc) := by
  subst hn
  refine ⟨by simp, .inr ⟨w.heap.size, 0, #[], rfl, hb, Blk.new, Nat.le_refl _, by simp [maxLen], by simp, by simp⟩⟩
/-- THE COPY OF A LIST: append to an empty slice of the call's own -/
theorem wpList_copy {α : Type} {enc : α → List Value} {P : Program} {w0 w : World} {ops : Array Oper} {rest : List Oper} {o : Oper} {a : Act} {Q : Exit → Act → World → Prop} (hgd : o.guard = none) (s x : Operand) (t : TypeId)
    (ho : o.op = .call { callee := .builtin .append, args := #[s, x], argTypes := #[t, t] })
    (base : Nat) (e : TypeId) (z : Value) (size bytes : Nat) (ht : P.underlying t = some (.slice e)) (hinfo : (P.info? e).map (fun i => (i.zero, i.size, i.bytes)) = some (some z, size, bytes))
    (hzs : z.cells.size = size) (hsz : 0 < size) (he : ∀ x : α, (enc x).length = size) (h1 : ∀ (x : α), ∀ u ∈ enc x, u.oneCell' = true)
    (n : Nat) (hn : n = w.heap.size) (hs : a.eval s = .slice (some ⟨n, 0, none⟩) 0 0)
    (ad : Option Addr) (c : Nat) (ys : List α) (hx : a.eval x = .slice ad ys.length c) (hc : ad = none → c = 0) (hrow : Row enc size w0.heap.size w0 ad ys) (hk : Kept w0 w) (hbase : base = w0.heap.size)
    (h63 : ys.length ≤ 1000000) (hbytes : bytes ≤ 100000)
    (h : ∀ ad' cp w', Row enc size w'.heap.size w' ad' ys → ys.length ≤ cp → cp ≤ maxLen → Kept w0 w' → Kept w w' → wpList P ops Q rest (a.put o.dst (.slice ad' ys.length cp)) w') :
    wpList P ops Q (o :: rest) a (w.alloc (.cells #[] e)) := by
  subst hbase
  obtain ⟨i, hi, hz, hsize, hby⟩ := info_parts hinfo
  have hsz0 := hk.size
  have hown0 : (w.alloc (.cells #[] e)).ownsRow w0.heap.size e size (.slice (some ⟨n, 0, none⟩) 0 0) ([] : List α).length (([] : List α).flatMap enc) := owns_made hn hsz0
  have hm : ys.length * bytes ≤ 1000000 * 100000 := Nat.mul_le_mul h63 hbytes
  refine wpList_append_list hgd s x t ho w0.heap.size e i z size bytes ht hi hz hsize hby hzs hsz he h1 _ [] hs hown0 ad c ys hx hc (hrow.keep (Kept.alloc hk _) (Nat.le_refl _)) (by simp [maxLen]; omega) (by simp; omega) (by show w0.heap.size ≤ (w.heap.push _).size; simp; omega) ?_
  intro v' w' hown hgrow
  have hk' : Kept w0 w' := Kept.grown (Kept.alloc hk _) hown0 (Nat.le_refl _) hgrow
  have hk2 : Kept w w' := by
    have hown1 : (w.alloc (.cells #[] e)).ownsRow w.heap.size e size (.slice (some ⟨n, 0, none⟩) 0 0) ([] : List α).length (([] : List α).flatMap enc) := owns_made hn (Nat.le_refl _)
    exact Kept.grown (Kept.alloc (Below.refl _ _) _) hown1 (Nat.le_refl _) hgrow
  rw [List.nil_append] at hown
  obtain ⟨ad', cp', rfl, hrow', h5, h6⟩ := Row.of_owns he hown
  exact h ad' cp' w' hrow' h5 h6 hk' hk2
end Bal

/-
  Plants: need, plus, shares, the accounts.
-/
namespace Go.Proofs.Ytemafanncejeiaa
open Go.RowKit Bal Bal.Trim Bal.Gas
set_option linter.unusedVariables false
set_option linter.unusedSimpArgs false
set_option maxHeartbeats 1600000
set_option maxRecDepth 10000

/-- what need panics with -/
def refusal (e : Int) : Value := .iface 167 (.agg #[.int .i64 e])
theorem f_need_ok (e : Int) (w : World) : Calls Try.prog 113 #[.bool true, .int .i64 e] w fun x w' => x = .returned (.tuple #[]) ∧ w = w' := by
  go_enter Try.func113, Try.ntmps113
  go_wp2
  go_end0
  exact ⟨rfl, rfl⟩
theorem f_need_no (e : Int) (w : World) : Calls Try.prog 113 #[.bool false, .int .i64 e] w fun x w' => x = .panicked [{ v := refusal e, recovered := false }] ∧ w = w' := by
  go_enter Try.func113, Try.ntmps113
  go_wp2
  exact ⟨rfl, rfl, rfl⟩

theorem f_plus (a b c d : Int) (w : World) (ha : 0 ≤ a ∧ a ≤ 100000000000000) (hb : 0 ≤ b ∧ b ≤ 100000000000000) (hc : 0 ≤ c ∧ c ≤ 100000000000000) (hd : 0 ≤ d ∧ d ≤ 100000000000000) :
    Calls Try.prog 123 #[.agg #[.int .i64 a, .int .i64 b], .agg #[.int .i64 c, .int .i64 d]] w fun e w' => e = .returned (.agg #[.int .i64 (a + c), .int .i64 (b + d)]) ∧ Kept w w' := by
  obtain ⟨a0, a1⟩ := ha
  obtain ⟨b0, b1⟩ := hb
  obtain ⟨c0, c1⟩ := hc
  obtain ⟨d0, d1⟩ := hd
  go_enter Try.func123, Try.ntmps123
  go_wp2
  exact bodyPost_ret (v := .agg #[.int .i64 (a + c), .int .i64 (b + d)]) (by simp [results, Try.results123, go_sem]) rfl ⟨rfl, by (exact kpt)⟩

theorem infoCell : (Try.prog.info? 25).map (fun i => (i.zero, i.size, i.bytes)) = some (some (.agg #[.int .i64 0, .int .i64 0, .int .i64 0, .int .i64 0, .int .i64 0, .int .i64 0, .int .i64 0]), 7, 56) := by kernel_rfl
theorem s_CloneC (a : Option Addr) (cap : Nat) (xs : List Cell) (w : World) (hx : Row Cell.cells 7 w.heap.size w a xs) (hn : xs.length ≤ 1000) (hz : a = none → cap = 0) :
    Calls Try.prog 114 #[.slice a xs.length cap] w fun e w' => ∃ v, e = .returned v ∧ w'.ownsRow w.heap.size 25 7 v xs.length (xs.flatMap Cell.cells) ∧ Kept w w' := by
  cases a with
  | none =>
    have hl : xs = [] := by
      cases xs with
      | nil => rfl
      | cons y ys => obtain ⟨b, off, ha, _⟩ := hx 0 y rfl; cases ha
    subst hl
    have := hz rfl
    subst this
    have hs0 : ∀ w, (binOp .eql 59 (.slice none 0 0) (.slice none 0 0)).run Try.prog w = .ok (.bool true) w := fun w => Lib.run_eql_slice_nil w _ _ _ _ _ _ _ Try.underlying59
    go_enter Try.func114, Try.ntmps114
    go_wp2
    exact bodyPost_ret (v := .slice none 0 0) (by simp [results, Try.results114, go_sem]) rfl ⟨_, rfl, owns_nil (α := Cell) (enc := Cell.cells), by (exact kpt)⟩
  | some ad =>
    have HO := Lib.hid (owns_made (α := Cell) (enc := Cell.cells) (base := w.heap.size) (k := 7) (n := w.heap.size) (e := 25) (w := w) rfl (Nat.le_refl _))
    have hs0 : ∀ w, (binOp .eql 59 (.slice (some ad) xs.length cap) (.slice none 0 0)).run Try.prog w = .ok (.bool false) w := fun w => Lib.run_eql_slice_nil w _ _ _ _ _ _ _ Try.underlying59
    go_enter Try.func114, Try.ntmps114
    go_wp2_with (at_builtin; obtain ⟨i0, hi, hz0, hz1, hz2⟩ := info_parts infoCell; refine wpList_append_list (enc := Cell.cells) rfl _ _ 59 rfl w.heap.size 25 i0 (.agg #[.int .i64 0, .int .i64 0, .int .i64 0, .int .i64 0, .int .i64 0, .int .i64 0, .int .i64 0]) 7 56 Try.underlying59 hi hz0 hz1 hz2 rfl (by decide) cells_len (fun x u hu => by simp [Cell.cells] at hu; rcases hu with rfl | rfl | rfl | rfl | rfl | rfl | rfl <;> rfl) _ [] rfl HO.out (some ad) cap xs rfl (by simp) (B := w.heap.size) (hx.keep (by (exact kpt)) (Nat.le_refl _)) (by simp [maxLen]; omega) (by simp; omega) (by simp) ?_; intro v' w9 hown' hgrow; clear hi hz0 hz1 hz2)
    have hk : Kept w w9 := Kept.grown (Kept.alloc (Below.refl _ _) _) HO.out (Nat.le_refl _) hgrow
    rw [List.nil_append] at hown'
    obtain ⟨ad', cp, rfl, _⟩ := owns_row (enc := Cell.cells) (k := 7) cells_len hown'
    exact bodyPost_ret (v := .slice ad' xs.length cp) (by simp [results, Try.results114, go_sem]) rfl ⟨_, rfl, hown', hk⟩

theorem f_Check1 (x : Par) (w : World) : Calls Try.prog 122 #[.agg #[.int .i64 x.h, .int .i64 x.a]] w fun e w' => e = .returned (.bool (!parB x)) ∧ Kept w w' := by
  go_enter Try.func122, Try.ntmps122
  go_wp2_with (go_at_call 91; (with_reducible refine (f_ranged2 _ _ _ _ _ _ _ (by simp)).mono ?_); rintro e w1 ⟨rfl, rfl⟩)
  go_ret
  exact ⟨rfl, by (exact kpt)⟩

def IdxPost (xs : List Par) (w : World) (e : Ending) (w' : World) : Prop := ∃ r : Int, e = .returned (.int .i64 r) ∧ (0 ≤ r ↔ xs.all parB = false) ∧ Kept w w'
theorem s_IndexFunc (a : Option Addr) (cap : Nat) (xs : List Par) (w : World) (hx : Row Par.cells 2 w.heap.size w a xs) (hn : xs.length ≤ 100) :
    Calls Try.prog 139 #[.slice a xs.length cap, .func (.func 122) #[] #[]] w (IdxPost xs w) := by
  go_enter Try.func139, Try.ntmps139
  go_wp2
  go_loopw [8] (fun i wr => ∃ k : Nat, k ≤ xs.length ∧ i = .int .i64 k ∧ (xs.take k).all parB = true ∧ Kept w wr) (fun i _ => xs.length - (intOf i).toNat)
  case atStart => exact ⟨0, Nat.zero_le _, rfl, by simp, Below.refl _ _⟩
  case round =>
    obtain ⟨k, hk, rfl, ha', hkk⟩ := hrel
    have ha := Lib.hid ha'
    clear ha'
    by_cases hlt : k < xs.length
    · obtain ⟨b, off, rfl, hbl, h0, h1⟩ := Par.row (hx.later hkk (Nat.le_refl _)) k hlt
      have hbad : parB xs[k] = false → xs.all parB = false := fun hv => by
        rw [Bool.eq_false_iff]
        intro h
        rw [List.all_eq_true.1 h _ (List.getElem_mem hlt)] at hv
        cases hv
      have HB := Lib.hid hbad
      have HT := Lib.hid (fun hv : parB xs[k] = true => take_all hlt ha.out hv)
      clear hbad
      obtain ⟨x, hx0⟩ : ∃ x, x = xs[k] := ⟨_, rfl⟩
      rw [← hx0] at h0 h1 HB HT
      clear hx0
      have k0 : (0 : Int) ≤ (k : Int) := by omega
      have k1 : (k : Int) < (xs.length : Int) := by omega
      cases hv : parB x
      · have HV := Lib.hid hv
        clear hv
        go_wp2_with ((go_at_call 122; (with_reducible refine (f_Check1 x _).mono ?_); rintro e w1 ⟨rfl, hb1⟩; obtain ⟨hc1, hf1, hl1⟩ := bcell3 hb1); rw [HV.out]; simp only [Bool.not_false, Bool.not_true])
        go_ret
        exact ⟨k, rfl, ⟨fun _ => HB.out HV.out, fun _ => by omega⟩, by (exact kpt)⟩
      · have HV := Lib.hid hv
        clear hv
        go_wp2_with ((go_at_call 122; (with_reducible refine (f_Check1 x _).mono ?_); rintro e w1 ⟨rfl, hb1⟩; obtain ⟨hc1, hf1, hl1⟩ := bcell3 hb1); rw [HV.out]; simp only [Bool.not_false, Bool.not_true])
        go_roundw
        case rel => exact ⟨k + 1, by omega, by go_num, HT.out HV.out, by (exact kpt)⟩
        case measure => simp [intOf]; omega
    · obtain rfl : k = xs.length := by omega
      go_wp2
      go_ret
      refine ⟨-1, rfl, ⟨fun h => by omega, fun h => ?_⟩, hkk⟩
      have := ha.out
      rw [List.take_length, h] at this
      cases this

theorem s_ContainsFunc (a : Option Addr) (cap : Nat) (xs : List Par) (w : World) (hx : Row Par.cells 2 w.heap.size w a xs) (hn : xs.length ≤ 100) :
    Calls Try.prog 121 #[.slice a xs.length cap, .func (.func 122) #[] #[]] w fun e w' => e = .returned (.bool (!xs.all parB)) ∧ Kept w w' := by
  obtain ⟨b, hb⟩ : ∃ b, b = xs.all parB := ⟨_, rfl⟩
  have HB := Lib.hid hb
  rw [← hb]
  clear hb
  go_enter Try.func121, Try.ntmps121
  go_wp2_with ((go_at_call 139; (with_reducible refine (s_IndexFunc a cap xs _ hx hn).mono ?_); rintro e w1 ⟨r, rfl, hr, hb1⟩); have HR := Lib.hid hr; clear hr)
  all_goals
    go_ret
    refine ⟨ret_bool ?_, by (exact kpt)⟩
    have := HR.out
    rw [← HB.out] at this
    cases b <;> simp at this ⊢ <;> omega

end Go.Proofs.Ytemafanncejeiaa

/-
  Plants: a share taken out of a cell.
-/
namespace Go.Proofs.Ytemafanncejeiaa
open Go.RowKit Bal Bal.Trim Bal.Gas
set_option linter.unusedVariables false
set_option linter.unusedSimpArgs false
set_option maxHeartbeats 4000000
set_option maxRecDepth 10000

theorem i64_inx {n : Int} (h : -9223372036854775808 ≤ n ∧ n ≤ 9223372036854775807) : IntKind.i64.wrap n = n := by rw [IntKind.wrap_i64]; have := w64_in n h; unfold wrap64 at this; omega
theorem f_out_none {B cp g : Nat} {xs : List Cell} {w : World} (h : Mine 25 B w (.slice (some ⟨g, 0, none⟩) xs.length cp) xs) {i : Nat} (hi : i < xs.length) (hc : okC xs[i]) (n : Int) (h1 : xs[i].helium + xs[i].air < n) :
    Calls Try.prog 136 #[.pointer (some ⟨g, i * 7, none⟩), .int .i64 n] w fun e w' => e = .panicked [{ v := refusal 6, recovered := false }] ∧ Kept w w' := by
  obtain ⟨u1, u2⟩ := hc
  obtain ⟨x, hx⟩ : ∃ x, x = xs[i] := ⟨_, rfl⟩
  rw [← hx] at h1 u1 u2
  have hlt : decide (n ≤ x.helium + x.air) = false := by simp; omega
  have hw := i64_inx (n := x.helium + x.air) (by omega)
  go_enter Try.func136, Try.ntmps136
  go_upto_region 1 with fail
  refine at_world (S := fun W => Kept w W) (by (exact kpt)) ?_
  rintro W hk
  obtain ⟨g', cur, he, hB, hb, c0, c1, c2, c3, c4, c5, c6⟩ := (h.keep hk).at hi
  cases he
  rw [← hx] at c0 c1 c2 c3 c4 c5 c6
  clear hx
  have x1 := fun q : Later W => q.some c1
  have x2 := fun q : Later W => q.some c2
  clear c0 c1 c2 c3 c4 c5 c6
  refine Later.tail 11 (by kernel_rfl) (by kernel_rfl) ?_
  simp only [List.take_succ_cons, List.take_zero, List.drop_succ_cons, List.drop_zero]
  repeat (first | go_big_quiet_skip | (go_big_quiet_want; go_big_quiet_op; first | go_big_quiet_on | (apply Exists.intro; refine ⟨fun g => ?_, ?_⟩; (focus (first | fail)); go_big_quiet_on)))
  refine wpQuiet_nil ?_
  intro gg
  refine wpList_plain rfl fun K1 hK1 => ?_
  have hkg := Kept.drop hk gg.ok
  go_wp2_with (go_at_call 113; (with_reducible refine (f_need_no _ _).mono ?_); rintro e w1 ⟨rfl, rfl⟩)
  exact ⟨rfl, rfl, hkg⟩
theorem f_out_ok {B cp g : Nat} {xs : List Cell} {w : World} (h : Mine 25 B w (.slice (some ⟨g, 0, none⟩) xs.length cp) xs) {i : Nat} (hi : i < xs.length) (hc : okC xs[i]) (n : Int) (h0 : 1 ≤ n) (h1 : n ≤ xs[i].helium + xs[i].air) :
    Calls Try.prog 136 #[.pointer (some ⟨g, i * 7, none⟩), .int .i64 n] w fun e w' => e = .returned (.agg #[.int .i64 (shareH xs[i] n), .int .i64 (n - shareH xs[i] n)]) ∧
      Mine 25 B w' (.slice (some ⟨g, 0, none⟩) xs.length cp) (xs.set i (less xs[i] n)) ∧ Below B w w' ∧ Besides 25 w w' := by
  obtain ⟨s0, s1, s2, s3⟩ := share_bd hc (show 0 ≤ n by omega) h1
  obtain ⟨u1, u2⟩ := hc
  have HX := Lib.hid (show xs[i]? = some xs[i] by simp [hi])
  obtain ⟨x, hx⟩ : ∃ x, x = xs[i] := ⟨_, rfl⟩
  rw [← hx] at h1 u1 u2 s0 s1 s2 s3 HX ⊢
  have hlt : decide (n ≤ x.helium + x.air) = true := by simp; omega
  have hw := i64_inx (n := x.helium + x.air) (by omega)
  have m1 : 0 ≤ n * x.helium := Int.mul_nonneg (by omega) u1.1
  have m2 := (mul_bd (A := 20000000) (B := 10000000) (x := n) (y := x.helium) (by omega) (by omega) (by omega) (by omega)).2
  have hw2 := i64_inx (n := n * x.helium) (by omega)
  have hd : 0 < x.helium + x.air := by omega
  obtain ⟨S, hS⟩ : ∃ S, S = shareH x n := ⟨_, rfl⟩
  have HS := Lib.hid (show n * x.helium / (x.helium + x.air) = S by rw [hS]; rfl)
  have HL : Hid (less x n = { x with helium := x.helium - S, air := x.air - (n - S) }) := by rw [hS]; exact rfl
  rw [← hS] at s0 s1 s2 s3 ⊢
  clear hS
  go_enter Try.func136, Try.ntmps136
  go_upto_region 1 with fail
  refine at_world (S := fun W => Blk W w.heap.size #[.int .i64 0, .int .i64 0] 61 ∧ Kept w W) ⟨by (exact blkc), by (exact kpt)⟩ ?_
  rintro W ⟨r0, hk⟩
  obtain ⟨g', cur, he, hB, hb, c0, c1, c2, c3, c4, c5, c6⟩ := (h.keep hk).at hi
  cases he
  rw [← hx] at c0 c1 c2 c3 c4 c5 c6
  clear hx
  have x1 := fun q : Later W => q.some c1
  have x2 := fun q : Later W => q.some c2
  clear c0 c1 c2 c3 c4 c5 c6
  refine Later.tail 11 (by kernel_rfl) (by kernel_rfl) ?_
  simp only [List.take_succ_cons, List.take_zero, List.drop_succ_cons, List.drop_zero]
  repeat (first | go_big_quiet_skip | (go_big_quiet_want; go_big_quiet_op; first | go_big_quiet_on | (apply Exists.intro; refine ⟨fun g => ?_, ?_⟩; (focus (first | fail)); go_big_quiet_on)))
  refine wpQuiet_nil ?_
  intro gg
  refine wpList_plain rfl fun K1 hK1 => ?_
  have hkg := Kept.drop hk gg.ok
  have x3 := x1 gg
  have x4 := x2 gg
  go_wp2_with (go_at_call 113; (with_reducible refine (f_need_ok _ _).mono ?_); rintro e w1 ⟨rfl, rfl⟩)
  have y1 := fun q : Later gg.val => q.some x3
  have y2 := fun q : Later gg.val => q.some x4
  have hnz : ((x.helium + x.air) == 0) = false := by simp; omega
  have hnz2 : ¬ (x.helium + x.air) = 0 := by omega
  refine Later.region (by kernel_rfl) (by kernel_rfl) ?_
  repeat (first | go_big_quiet_skip | (go_big_quiet_want; go_big_quiet_op; first | go_big_quiet_on | (apply Exists.intro; refine ⟨fun g => ?_, ?_⟩; (focus (first | fail)); go_big_quiet_on)))
  refine wpQuiet_nil ?_
  intro gh
  rw [HS.out]
  have z1 := y1 gh
  have z2 := y2 gh
  obtain ⟨g0, cur0, he0, hB0, hb0, _⟩ := h.at hi
  cases he0
  have hgl := hb0.lt
  have hne : ¬ g = w.heap.size := by omega
  have hne' : ¬ w.heap.size = g := by omega
  have hbh : Blk gh.val g cur 25 := (hb.later gg).later gh
  have hf1 := hbh.free (i * 7 + 1)
  have hf2 := hbh.free (i * 7 + 2)
  have r1 : Blk gh.val w.heap.size #[.int .i64 0, .int .i64 0] 61 := (r0.later gg).later gh
  have r1c0 := r1.cell 0
  have r1f0 := r1.free 0
  have r1c1 := r1.cell 1
  have r1f1 := r1.free 1
  have r1l := r1.lt
  simp at r1c0 r1c1
  have hkh : Kept w gh.val := Kept.drop (Kept.drop hk gg.ok) gh.ok
  clear x1 x2 x3 x4 y1 y2 hw hw2 hlt hnz hnz2 m1 m2 hd
  go_wp2
  refine bodyPost_ret (v := .agg #[.int .i64 S, .int .i64 (n - S)]) (by simp [results, Try.results136, go_sem, r1c0, r1c1, r1f0, r1f1, hne, hne']) rfl ⟨rfl, ?_, ?_, ?_⟩
  · have q1 := (h.keep hkh).put (j := 1) { x with helium := x.helium - S } HX.out (by decide) (u := .int .i64 (x.helium - S)) rfl
    have q2 := q1.put (i := i) (j := 2) (c := { x with helium := x.helium - S }) { x with helium := x.helium - S, air := x.air - (n - S) } (by simp [hi]) (by decide) (u := .int .i64 (x.air - (n - S))) rfl
    rw [List.set_set] at q2
    rw [HL.out]
    have b1 := (r1.other (a := ⟨g, i * 7 + 1, none⟩) hne (.int .i64 (x.helium - S))).other (a := ⟨g, i * 7 + 2, none⟩) hne (.int .i64 (x.air - (n - S)))
    have b2 := b1.set 0 (.int .i64 S)
    exact (q2.other b1 (by decide) _).other b2 (by decide) _
  · exact ((((hkh.mono (by omega)).setCell (show B ≤ g from hB) _).setCell (show B ≤ g from hB) _).setCell (show B ≤ w.heap.size by omega) _).setCell (show B ≤ w.heap.size by omega) _
  · have q1 := (Besides.keep (T := 25) hkh).trans (Besides.put hbh (o := i * 7 + 1) (.int .i64 (x.helium - S)))
    have q2 := q1.trans (Besides.put (hbh.set (i * 7 + 1) (.int .i64 (x.helium - S))) (o := i * 7 + 2) (.int .i64 (x.air - (n - S))))
    exact (q2.past (Nat.le_refl _) _).past (Nat.le_refl _) _

end Go.Proofs.Ytemafanncejeiaa

/-
  Plants: whether one is valid, in the program.
-/
namespace Go.Proofs.Ytemafanncejeiaa
open Go.RowKit Bal Bal.Trim Bal.Gas
set_option linter.unusedVariables false
set_option linter.unusedSimpArgs false
set_option maxHeartbeats 4000000
set_option maxRecDepth 10000

theorem Row.drop {α : Type} {enc : α → List Value} {k B : Nat} {w : World} {b off : Nat} {xs : List α} (h : Row enc k B w (some ⟨b, off, none⟩) xs) (j : Nat) {o : Nat} (ho : o = off + j * k) : Row enc k B w (some ⟨b, o, none⟩) (xs.drop j) := by
  subst ho
  intro i x hx
  rw [List.getElem?_drop] at hx
  obtain ⟨b', off', ha, hb, hc⟩ := h _ x hx
  simp only [Option.some.injEq, Addr.mk.injEq, and_true] at ha
  obtain ⟨rfl, rfl⟩ := ha
  refine ⟨b, off + j * k, rfl, hb, fun q v hq => ?_⟩
  have := hc q v hq
  rw [Nat.add_mul] at this
  rw [show off + j * k + i * k + q = off + (j * k + i * k) + q by omega]
  exact this
theorem sum_take {xs : List Cell} (h : (xs.all cellB) = true) (hn : xs.length ≤ 12) (k : Nat) : (0 ≤ sumH (xs.take k) ∧ sumH (xs.take k) ≤ 120000000) ∧ 0 ≤ sumA (xs.take k) ∧ sumA (xs.take k) ≤ 120000000 := by
  have hv : ∀ c ∈ xs.take k, cellB c = true := fun c hc => List.all_eq_true.1 h c (List.mem_of_mem_take hc)
  have hl : (xs.take k).length ≤ 12 := by rw [List.length_take]; omega
  have h1 := sumBy_bd Cell.helium 10000000 (xs.take k) fun c hc => by have := (cellB_iff.1 (hv c hc)).2.1; omega
  have h2 := sumBy_bd Cell.air 10000000 (xs.take k) fun c hc => by have := (cellB_iff.1 (hv c hc)).2.2.1; omega
  have h3 := sumBy_nonneg Cell.helium (xs.take k) fun c hc => (cellB_iff.1 (hv c hc)).2.1.1
  have h4 := sumBy_nonneg Cell.air (xs.take k) fun c hc => (cellB_iff.1 (hv c hc)).2.2.1.1
  unfold sumH sumA
  omega
theorem sum_some {xs : List Cell} {k : Nat} (h : (xs.take k).all cellB = true) (hn : xs.length ≤ 12) : (0 ≤ sumH (xs.take k) ∧ sumH (xs.take k) ≤ 120000000) ∧ 0 ≤ sumA (xs.take k) ∧ sumA (xs.take k) ≤ 120000000 := by
  have := sum_take h (by rw [List.length_take]; omega) k
  simpa [List.take_take] using this
theorem plantE_bad {p : Plant} (h : plantB p = false) : plantE p = 32 := by unfold plantE; rw [h]; rfl
theorem plantE_ok {p : Plant} (h : plantB p = true) : plantE p = 0 := by unfold plantE; rw [h]; rfl
theorem books_all (p : Plant) : (books p).all parB = (booksB p.inH p.inA && booksB p.vH p.vA && booksB p.lH p.lA && booksB p.pH p.pA) := by
  simp [books, parB, Bool.and_assoc]

theorem s_Contains4 (p : Plant) (m : Nat) (W : World) (h : Blk W m #[.int .i64 p.inH, .int .i64 p.inA, .int .i64 p.vH, .int .i64 p.vA, .int .i64 p.lH, .int .i64 p.lA, .int .i64 p.pH, .int .i64 p.pA] 61) :
    Calls Try.prog 121 #[.slice (some ⟨m, 0, none⟩) 4 4, .func (.func 122) #[] #[]] W fun e w' => e = .returned (.bool (!(books p).all parB)) ∧ Kept W w' :=
  s_ContainsFunc (some ⟨m, 0, none⟩) 4 (books p) W (Row.block (fun _ => rfl) h rfl) (by show 4 ≤ 100; decide)

theorem f_Check_early (p : Plant) (a : Option Addr) (cap : Nat) (w : World) (hx : Row Cell.cells 7 w.heap.size w a p.cells) (hc : p.cells.length ≤ cap) (hM : cap ≤ maxLen) (h : ¬ (p.cells.length ≤ 12 ∧ inB p.bottles 0 10000000 = true ∧ (books p).all parB = true)) :
    Calls Try.prog 50 #[.agg #[.slice a p.cells.length cap, .int .i64 p.bottles, .int .i64 p.inH, .int .i64 p.inA, .int .i64 p.vH, .int .i64 p.vA, .int .i64 p.lH, .int .i64 p.lA, .int .i64 p.pH, .int .i64 p.pA]] w fun e w' => e = .returned (.int .i64 32) ∧ Kept w w' := by
  unfold maxLen at hM
  by_cases h1 : 12 < p.cells.length
  · clear h
    go_enter Try.func50, Try.ntmps50
    go_wp2
    go_ret
    exact ⟨rfl, by (exact kpt)⟩
  · have h1' : p.cells.length ≤ 12 := by omega
    cases h2 : inB p.bottles 0 10000000
    · have H2 := Lib.hid (show rng [p.bottles] 0 10000000 = false by simpa [rng] using h2)
      clear h h2
      go_enter Try.func50, Try.ntmps50
      go_wp2_with (first | (go_at_call 91; (with_reducible refine (f_ranged1 _ _ p.bottles _ _ _ (by simp)).mono ?_); rw [H2.out]; rintro e w1 ⟨rfl, rfl⟩) | fail)
      go_ret
      exact ⟨rfl, by (exact kpt)⟩
    · cases h3 : (books p).all parB
      · have H2 := Lib.hid (show rng [p.bottles] 0 10000000 = true by simpa [rng] using h2)
        have H3 := Lib.hid h3
        clear h h2 h3
        go_enter Try.func50, Try.ntmps50
        go_wp2_with (first | (go_at_call 91; (with_reducible refine (f_ranged1 _ _ p.bottles _ _ _ (by simp)).mono ?_); rw [H2.out]; rintro e w1 ⟨rfl, rfl⟩) | (go_at_call 121; (with_reducible refine (s_Contains4 p _ _ ?_).mono ?_); (focus (exact blkc)); rw [H3.out]; rintro e w1 ⟨rfl, hb1⟩; obtain ⟨hc1, hf1, hl1⟩ := bcell3 hb1))
        go_ret
        exact ⟨rfl, by (exact kpt)⟩
      · exact absurd ⟨h1', h2, h3⟩ h

theorem books3_bd {p : Plant} (h : (books p).all parB = true) (k : Nat) : (0 ≤ sumBy Par.h ((books3 p).take k) ∧ sumBy Par.h ((books3 p).take k) ≤ 3000000000000) ∧ 0 ≤ sumBy Par.a ((books3 p).take k) ∧ sumBy Par.a ((books3 p).take k) ≤ 3000000000000 := by
  have hv : ∀ c ∈ (books3 p).take k, parB c = true := fun c hc => List.all_eq_true.1 h c (List.mem_cons_of_mem _ (List.mem_of_mem_take hc))
  have hl : ((books3 p).take k).length ≤ 3 := by rw [List.length_take]; show min k 3 ≤ 3; omega
  have h1 := sumBy_bd Par.h 1000000000000 ((books3 p).take k) fun c hc => by have := booksB_iff.1 (hv c hc); omega
  have h2 := sumBy_bd Par.a 1000000000000 ((books3 p).take k) fun c hc => by have := booksB_iff.1 (hv c hc); omega
  have h3 := sumBy_nonneg Par.h ((books3 p).take k) fun c hc => (booksB_iff.1 (hv c hc)).1.1
  have h4 := sumBy_nonneg Par.a ((books3 p).take k) fun c hc => (booksB_iff.1 (hv c hc)).2.1
  omega
set_option maxHeartbeats 8000000 in
theorem f_Check_late (p : Plant) (a : Option Addr) (cap : Nat) (w : World) (hx : Row Cell.cells 7 w.heap.size w a p.cells) (hc : p.cells.length ≤ cap) (hM : cap ≤ maxLen) (h1 : p.cells.length ≤ 12) (h2 : inB p.bottles 0 10000000 = true) (h3 : (books p).all parB = true) :
    Calls Try.prog 50 #[.agg #[.slice a p.cells.length cap, .int .i64 p.bottles, .int .i64 p.inH, .int .i64 p.inA, .int .i64 p.vH, .int .i64 p.vA, .int .i64 p.lH, .int .i64 p.lA, .int .i64 p.pH, .int .i64 p.pA]] w fun e w' => e = .returned (.int .i64 (plantE p)) ∧ Kept w w' := by
  unfold maxLen at hM
  have hbd := Lib.hid (fun k => books3_bd h3 k)
  have hbt := inB_iff.1 h2
  have H2 := Lib.hid (show rng [p.bottles] 0 10000000 = true by simpa [rng] using h2)
  have H3 := Lib.hid h3
  clear h2 h3
  go_enter Try.func50, Try.ntmps50
  go_upto_region 5 with (first | (go_at_call 91; (with_reducible refine (f_ranged1 _ _ p.bottles _ _ _ (by simp)).mono ?_); rw [H2.out]; rintro e w1 ⟨rfl, rfl⟩) | (go_at_call 121; (with_reducible refine (s_Contains4 p _ _ ?_).mono ?_); (focus (exact blkc)); rw [H3.out]; rintro e w1 ⟨rfl, hb1⟩; obtain ⟨hc1, hf1, hl1⟩ := bcell3 hb1))
  refine at_world (S := fun W => Blk W w.heap.size #[.slice a p.cells.length cap, .int .i64 p.bottles, .int .i64 p.inH, .int .i64 p.inA, .int .i64 p.vH, .int .i64 p.vA, .int .i64 p.lH, .int .i64 p.lA, .int .i64 p.pH, .int .i64 p.pA] 63 ∧ Blk W (w.heap.size + 1) #[.int .i64 p.inH, .int .i64 p.inA, .int .i64 p.vH, .int .i64 p.vA, .int .i64 p.lH, .int .i64 p.lA, .int .i64 p.pH, .int .i64 p.pA] 61 ∧ Blk W w1.heap.size #[.int .i64 p.bottles, .int .i64 0] 61 ∧ Kept w W) ⟨by (exact blkc), by (exact blkc), by (exact blkc), by (exact kpt)⟩ ?_
  have hz : w.heap.size + 1 < w1.heap.size := by have := Below.size hb1; simp at this; omega
  clear hc1 hf1 hl1 hb1
  rintro W ⟨r0, r1, r2, hk⟩
  obtain ⟨m, hm⟩ : ∃ m, m = w1.heap.size := ⟨_, rfl⟩
  rw [← hm] at r2 hz ⊢
  clear hm
  have r0c0 := r0.cell 0
  have r0f0 := r0.free 0
  have r0c1 := r0.cell 1
  have r0f1 := r0.free 1
  have r0c2 := r0.cell 2
  have r0f2 := r0.free 2
  have r0c3 := r0.cell 3
  have r0f3 := r0.free 3
  have r0c4 := r0.cell 4
  have r0f4 := r0.free 4
  have r0c5 := r0.cell 5
  have r0f5 := r0.free 5
  have r0c6 := r0.cell 6
  have r0f6 := r0.free 6
  have r0c7 := r0.cell 7
  have r0f7 := r0.free 7
  have r0c8 := r0.cell 8
  have r0f8 := r0.free 8
  have r0c9 := r0.cell 9
  have r0f9 := r0.free 9
  have r0l := r0.lt
  simp at r0c0 r0c1 r0c2 r0c3 r0c4 r0c5 r0c6 r0c7 r0c8 r0c9
  have r1c0 := r1.cell 0
  have r1f0 := r1.free 0
  have r1c1 := r1.cell 1
  have r1f1 := r1.free 1
  have r1c2 := r1.cell 2
  have r1f2 := r1.free 2
  have r1c3 := r1.cell 3
  have r1f3 := r1.free 3
  have r1c4 := r1.cell 4
  have r1f4 := r1.free 4
  have r1c5 := r1.cell 5
  have r1f5 := r1.free 5
  have r1c6 := r1.cell 6
  have r1f6 := r1.free 6
  have r1c7 := r1.cell 7
  have r1f7 := r1.free 7
  have r1l := r1.lt
  simp at r1c0 r1c1 r1c2 r1c3 r1c4 r1c5 r1c6 r1c7
  have r2c0 := r2.cell 0
  have r2f0 := r2.free 0
  have r2c1 := r2.cell 1
  have r2f1 := r2.free 1
  have r2l := r2.lt
  simp at r2c0 r2c1
  go_wp2
  go_loopw [39] (fun i wr => ∃ k : Nat, k ≤ 3 ∧ i = .int .i64 k ∧ Blk wr w.heap.size #[.slice a p.cells.length cap, .int .i64 p.bottles, .int .i64 p.inH, .int .i64 p.inA, .int .i64 p.vH, .int .i64 p.vA, .int .i64 p.lH, .int .i64 p.lA, .int .i64 p.pH, .int .i64 p.pA] 63 ∧ Blk wr (w.heap.size + 1) #[.int .i64 p.inH, .int .i64 p.inA, .int .i64 p.vH, .int .i64 p.vA, .int .i64 p.lH, .int .i64 p.lA, .int .i64 p.pH, .int .i64 p.pA] 61 ∧ Blk wr m #[.int .i64 (p.bottles + sumBy Par.h ((books3 p).take k)), .int .i64 (sumBy Par.a ((books3 p).take k))] 61 ∧ Kept w wr) (fun i _ => 3 - (intOf i).toNat)
  case atStart => exact ⟨0, by omega, rfl, r0, r1, by simpa using r2, hk⟩
  case round =>
    clear r0c0 r0f0 r0c1 r0f1 r0c2 r0f2 r0c3 r0f3 r0c4 r0f4 r0c5 r0f5 r0c6 r0f6 r0c7 r0f7 r0c8 r0f8 r0c9 r0f9 r1c0 r1f0 r1c1 r1f1 r1c2 r1f2 r1c3 r1f3 r1c4 r1f4 r1c5 r1f5 r1c6 r1f6 r1c7 r1f7 r2c0 r2f0 r2c1 r2f1 r0l r1l r2l r0 r1 r2 hk
    obtain ⟨k, hk3, rfl, r0, r1, r2, hk⟩ := hrel
    by_cases hlt : k < 3
    · have hr3 : Row Par.cells 2 wr.heap.size wr (some ⟨w.heap.size + 1, 2, none⟩) (books3 p) := Row.drop (Row.block (enc := Par.cells) (k := 2) (xs := books p) (fun _ => rfl) r1 rfl) 1 rfl
      obtain ⟨b, off, he, _, h0, h1⟩ := Par.row hr3 k hlt
      cases he
      have hs1 := sumBy_take Par.h (books3 p) k hlt
      have hs2 := sumBy_take Par.a (books3 p) k hlt
      have q1 := hbd.out k
      obtain ⟨x, hx0⟩ : ∃ x, x = (books3 p)[k] := ⟨_, rfl⟩
      have q2 := hbd.out (k + 1)
      rw [hs1, hs2] at q2
      rw [← hx0] at h0 h1 hs1 hs2 q2
      obtain ⟨sh, hsh⟩ : ∃ y, y = sumBy Par.h ((books3 p).take k) := ⟨_, rfl⟩
      obtain ⟨sa, hsa⟩ : ∃ y, y = sumBy Par.a ((books3 p).take k) := ⟨_, rfl⟩
      rw [← hsh] at hs1 q1 q2 r2
      rw [← hsa] at hs2 q1 q2 r2
      have HS1 := Lib.hid hs1
      have HS2 := Lib.hid hs2
      have hxb := booksB_iff.1 (List.all_eq_true.1 H3.out x (by rw [hx0]; exact List.mem_cons_of_mem _ (List.getElem_mem hlt)))
      clear hs1 hs2 hx0 hsh hsa hr3
      have k0 : (0 : Int) ≤ (k : Int) := by omega
      have k1 : (k : Int) < 3 := by omega
      have r2c0 := r2.cell 0
      have r2f0 := r2.free 0
      have r2c1 := r2.cell 1
      have r2f1 := r2.free 1
      have r2l := r2.lt
      simp at r2c0 r2c1
      go_wp2_with (first | (go_at_call 123; (with_reducible refine (f_plus _ _ _ _ _ (by omega) (by omega) (by omega) (by omega)).mono ?_); rintro e w2 ⟨rfl, hb2⟩; obtain ⟨hc2, hf2, hl2⟩ := bcell3 hb2))
      go_roundw
      case rel => exact ⟨k + 1, by omega, by go_num, by (exact blkc), by (exact blkc), by rw [HS1.out, HS2.out]; (refine Blk.cast (arr := ?_) ?_ ?_; rotate_left 1; (focus (exact blk)); (first | rfl | (simp; done) | (simp; omega))), by (exact kpt)⟩
      case measure => simp [intOf]; omega
    · have hke : k = 3 := by omega
      rw [hke] at r2
      have hki : (k : Int) = 3 := by omega
      rw [hki]
      clear hki hke hlt hk3
      have q := hbd.out 3
      have e1 : p.bottles + sumBy Par.h ((books3 p).take 3) = p.bottles + (p.vH + p.lH + p.pH) := by simp [books3, sumBy]; omega
      have e2 : sumBy Par.a ((books3 p).take 3) = p.vA + p.lA + p.pA := by simp [books3, sumBy]; omega
      have hv := List.all_eq_true.1 H3.out
      have hi := booksB_iff.1 (hv ⟨p.inH, p.inA⟩ (by simp [books]))
      simp only at hi
      have qh : 0 ≤ p.bottles + (p.vH + p.lH + p.pH) ∧ p.bottles + (p.vH + p.lH + p.pH) ≤ 4000000000000 := by rw [← e1]; omega
      have qa : 0 ≤ p.vA + p.lA + p.pA ∧ p.vA + p.lA + p.pA ≤ 4000000000000 := by rw [← e2]; omega
      rw [e1, e2] at r2
      clear e1 e2 q hv
      obtain ⟨SH, hSH⟩ : ∃ y, y = p.bottles + (p.vH + p.lH + p.pH) := ⟨_, rfl⟩
      obtain ⟨SA, hSA⟩ : ∃ y, y = p.vA + p.lA + p.pA := ⟨_, rfl⟩
      rw [← hSH] at r2 qh
      rw [← hSA] at r2 qa
      have HSH := Lib.hid hSH
      have HSA := Lib.hid hSA
      clear hSH hSA
      have r0c0 := r0.cell 0
      have r0f0 := r0.free 0
      have r0c1 := r0.cell 1
      have r0f1 := r0.free 1
      have r0c2 := r0.cell 2
      have r0f2 := r0.free 2
      have r0c3 := r0.cell 3
      have r0f3 := r0.free 3
      have r0c4 := r0.cell 4
      have r0f4 := r0.free 4
      have r0c5 := r0.cell 5
      have r0f5 := r0.free 5
      have r0c6 := r0.cell 6
      have r0f6 := r0.free 6
      have r0c7 := r0.cell 7
      have r0f7 := r0.free 7
      have r0c8 := r0.cell 8
      have r0f8 := r0.free 8
      have r0c9 := r0.cell 9
      have r0f9 := r0.free 9
      have r0l := r0.lt
      simp at r0c0 r0c1 r0c2 r0c3 r0c4 r0c5 r0c6 r0c7 r0c8 r0c9
      have r2c0 := r2.cell 0
      have r2f0 := r2.free 0
      have r2c1 := r2.cell 1
      have r2f1 := r2.free 1
      have r2l := r2.lt
      simp at r2c0 r2c1
      go_wp2
      go_loopw [50] (fun i wq => ∃ k : Nat, k ≤ p.cells.length ∧ i = .int .i64 k ∧ (p.cells.take k).all cellB = true ∧ Blk wq w.heap.size #[.slice a p.cells.length cap, .int .i64 p.bottles, .int .i64 p.inH, .int .i64 p.inA, .int .i64 p.vH, .int .i64 p.vA, .int .i64 p.lH, .int .i64 p.lA, .int .i64 p.pH, .int .i64 p.pA] 63 ∧ Blk wq m #[.int .i64 (SH + sumH (p.cells.take k)), .int .i64 (SA + sumA (p.cells.take k))] 61 ∧ Kept w wq) (fun i _ => p.cells.length - (intOf i).toNat)
      case atStart => exact ⟨0, by omega, rfl, by simp, r0, by simpa [sumH, sumA] using r2, hk⟩
      case round =>
        clear r0c0 r0f0 r0c1 r0f1 r0c2 r0f2 r0c3 r0f3 r0c4 r0f4 r0c5 r0f5 r0c6 r0f6 r0c7 r0f7 r0c8 r0f8 r0c9 r0f9 r2c0 r2f0 r2c1 r2f1 r0l r2l r0 r2 hk
        obtain ⟨k, hkn, rfl, hal, r0, r2, hk⟩ := hrel
        have hsb := sum_some hal h1
        have HAL := Lib.hid hal
        clear hal
        by_cases hlt : k < p.cells.length
        · obtain ⟨b, off, rfl, _, c0, c1, c2, c3, c4, c5, c6⟩ := Cell.row (hx.later hk (Nat.le_refl _)) k hlt
          have hs1 := sumBy_take Cell.helium p.cells k hlt
          have hs2 := sumBy_take Cell.air p.cells k hlt
          have HT := Lib.hid (fun hv : cellB p.cells[k] = true => take_all hlt HAL.out hv)
          have HBAD := Lib.hid (fun hv : cellB p.cells[k] = false => show plantB p = false by
            rw [Bool.eq_false_iff]
            intro hp
            rw [(plantB_iff.1 hp).2.2.2.2.2.2.1 _ (List.getElem_mem hlt)] at hv
            cases hv)
          obtain ⟨x, hx0⟩ : ∃ x, x = p.cells[k] := ⟨_, rfl⟩
          rw [← hx0] at c0 c1 c2 c3 c4 c5 c6 hs1 hs2 HT HBAD
          clear hx0
          obtain ⟨sh, hsh⟩ : ∃ y, y = sumH (p.cells.take k) := ⟨_, rfl⟩
          obtain ⟨sa, hsa⟩ : ∃ y, y = sumA (p.cells.take k) := ⟨_, rfl⟩
          rw [← hsh, ← hsa] at hsb r2
          have HS1 := Lib.hid (show sumH (p.cells.take (k + 1)) = sh + x.helium by rw [hsh]; exact hs1)
          have HS2 := Lib.hid (show sumA (p.cells.take (k + 1)) = sa + x.air by rw [hsa]; exact hs2)
          clear hs1 hs2 hsh hsa
          have k0 : (0 : Int) ≤ (k : Int) := by omega
          have k1 : (k : Int) < (p.cells.length : Int) := by omega
          have r2c0 := r2.cell 0
          have r2f0 := r2.free 0
          have r2c1 := r2.cell 1
          have r2f1 := r2.free 1
          have r2l := r2.lt
          simp at r2c0 r2c1
          cases hv : cellB x
          · have HC := Lib.hid (show checkCell x = 31 by unfold checkCell; rw [hv]; rfl)
            have HE := Lib.hid (plantE_bad (HBAD.out hv))
            clear hv
            go_wp2_with (first | (go_at_call 28; (with_reducible refine (f_CheckCell x _).mono ?_); rw [HC.out]; rintro e w3 ⟨rfl, hb3⟩; refine Blk.thru (b := w.heap.size) (arr := ?_) (t := ?_) ?_ hb3 ?_; rotate_left 2; (focus (exact blk)); intro p0; have p0c0 := p0.cell 0; have p0f0 := p0.free 0; have p0c1 := p0.cell 1; have p0f1 := p0.free 1; have p0c2 := p0.cell 2; have p0f2 := p0.free 2; have p0c3 := p0.cell 3; have p0f3 := p0.free 3; have p0c4 := p0.cell 4; have p0f4 := p0.free 4; have p0c5 := p0.cell 5; have p0f5 := p0.free 5; have p0c6 := p0.cell 6; have p0f6 := p0.free 6; have p0c7 := p0.cell 7; have p0f7 := p0.free 7; have p0c8 := p0.cell 8; have p0f8 := p0.free 8; have p0c9 := p0.cell 9; have p0f9 := p0.free 9; have p0l := p0.lt; simp at p0c0 p0c1 p0c2 p0c3 p0c4 p0c5 p0c6 p0c7 p0c8 p0c9; refine Blk.thru (b := m) (arr := ?_) (t := ?_) ?_ hb3 ?_; rotate_left 2; (focus (exact blk)); intro p2; have p2c0 := p2.cell 0; have p2f0 := p2.free 0; have p2c1 := p2.cell 1; have p2f1 := p2.free 1; have p2l := p2.lt; simp at p2c0 p2c1; obtain ⟨hc3, hf3, hl3⟩ := bcell3 hb3))
            go_ret
            exact ⟨ret_int HE.out.symm, by (exact kpt)⟩
          · have HC := Lib.hid (show checkCell x = 0 by unfold checkCell; rw [hv]; rfl)
            have hxb := cellB_iff.1 hv
            have HT2 := Lib.hid (HT.out hv)
            clear hv
            go_wp2_with (first | (go_at_call 28; (with_reducible refine (f_CheckCell x _).mono ?_); rw [HC.out]; rintro e w3 ⟨rfl, hb3⟩; refine Blk.thru (b := w.heap.size) (arr := ?_) (t := ?_) ?_ hb3 ?_; rotate_left 2; (focus (exact blk)); intro p0; have p0c0 := p0.cell 0; have p0f0 := p0.free 0; have p0c1 := p0.cell 1; have p0f1 := p0.free 1; have p0c2 := p0.cell 2; have p0f2 := p0.free 2; have p0c3 := p0.cell 3; have p0f3 := p0.free 3; have p0c4 := p0.cell 4; have p0f4 := p0.free 4; have p0c5 := p0.cell 5; have p0f5 := p0.free 5; have p0c6 := p0.cell 6; have p0f6 := p0.free 6; have p0c7 := p0.cell 7; have p0f7 := p0.free 7; have p0c8 := p0.cell 8; have p0f8 := p0.free 8; have p0c9 := p0.cell 9; have p0f9 := p0.free 9; have p0l := p0.lt; simp at p0c0 p0c1 p0c2 p0c3 p0c4 p0c5 p0c6 p0c7 p0c8 p0c9; refine Blk.thru (b := m) (arr := ?_) (t := ?_) ?_ hb3 ?_; rotate_left 2; (focus (exact blk)); intro p2; have p2c0 := p2.cell 0; have p2f0 := p2.free 0; have p2c1 := p2.cell 1; have p2f1 := p2.free 1; have p2l := p2.lt; simp at p2c0 p2c1; obtain ⟨hc3, hf3, hl3⟩ := bcell3 hb3) | (go_at_call 123; (with_reducible refine (f_plus _ _ x.helium x.air _ (by omega) (by omega) (by omega) (by omega)).mono ?_); rintro e w2 ⟨rfl, hb2⟩; obtain ⟨hc2, hf2, hl2⟩ := bcell3 hb2))
            go_roundw
            case rel => exact ⟨k + 1, by omega, by go_num, HT2.out, by (exact blkc), by rw [HS1.out, HS2.out]; (refine Blk.cast (arr := ?_) ?_ ?_; rotate_left 1; (focus (exact blk)); (first | rfl | (simp; done) | (simp; omega))), by (exact kpt)⟩
            case measure => simp [intOf]; omega
        · obtain rfl : k = p.cells.length := by omega
          rw [List.take_length] at hsb r2 HAL
          obtain ⟨sh, hsh⟩ : ∃ y, y = sumH p.cells := ⟨_, rfl⟩
          obtain ⟨sa, hsa⟩ : ∃ y, y = sumA p.cells := ⟨_, rfl⟩
          rw [← hsh, ← hsa] at hsb r2
          have HPB := Lib.hid (show plantB p = (decide (SH + sh = p.inH) && decide (SA + sa = p.inA)) by
            have hb := H3.out
            rw [books_all] at hb
            simp only [Bool.and_eq_true] at hb
            have ht : inB p.bottles 0 10000000 = true := inB_iff.2 hbt
            have e1 : allH p = SH + sh := by rw [HSH.out, hsh]; unfold allH; omega
            have e2 : allA p = SA + sa := by rw [HSA.out, hsa]; unfold allA; rfl
            unfold plantB
            rw [e1, e2, hb.1.1.1, hb.1.1.2, hb.1.2, hb.2, ht, HAL.out]
            simp [h1])
          clear hsh hsa
          have r0c0 := r0.cell 0
          have r0f0 := r0.free 0
          have r0c1 := r0.cell 1
          have r0f1 := r0.free 1
          have r0c2 := r0.cell 2
          have r0f2 := r0.free 2
          have r0c3 := r0.cell 3
          have r0f3 := r0.free 3
          have r0c4 := r0.cell 4
          have r0f4 := r0.free 4
          have r0c5 := r0.cell 5
          have r0f5 := r0.free 5
          have r0c6 := r0.cell 6
          have r0f6 := r0.free 6
          have r0c7 := r0.cell 7
          have r0f7 := r0.free 7
          have r0c8 := r0.cell 8
          have r0f8 := r0.free 8
          have r0c9 := r0.cell 9
          have r0f9 := r0.free 9
          have r0l := r0.lt
          simp at r0c0 r0c1 r0c2 r0c3 r0c4 r0c5 r0c6 r0c7 r0c8 r0c9
          have r2c0 := r2.cell 0
          have r2f0 := r2.free 0
          have r2c1 := r2.cell 1
          have r2f1 := r2.free 1
          have r2l := r2.lt
          simp at r2c0 r2c1
          by_cases d1 : SH + sh = p.inH
          · by_cases d2 : SA + sa = p.inA
            · have HE := Lib.hid (plantE_ok (HPB.out.trans (by simp [d1, d2])))
              go_wp2
              go_ret
              exact ⟨ret_int HE.out.symm, by (exact kpt)⟩
            · have HE := Lib.hid (plantE_bad (HPB.out.trans (by simp [d2])))
              go_wp2
              go_ret
              exact ⟨ret_int HE.out.symm, by (exact kpt)⟩
          · have HE := Lib.hid (plantE_bad (HPB.out.trans (by simp [d1])))
            go_wp2
            go_ret
            exact ⟨ret_int HE.out.symm, by (exact kpt)⟩

theorem f_Check (p : Plant) (a : Option Addr) (cap : Nat) (w : World) (hx : Row Cell.cells 7 w.heap.size w a p.cells) (hc : p.cells.length ≤ cap) (hM : cap ≤ maxLen) :
    Calls Try.prog 50 #[.agg #[.slice a p.cells.length cap, .int .i64 p.bottles, .int .i64 p.inH, .int .i64 p.inA, .int .i64 p.vH, .int .i64 p.vA, .int .i64 p.lH, .int .i64 p.lA, .int .i64 p.pH, .int .i64 p.pA]] w fun e w' => e = .returned (.int .i64 (plantE p)) ∧ Kept w w' := by
  by_cases h : p.cells.length ≤ 12 ∧ inB p.bottles 0 10000000 = true ∧ (books p).all parB = true
  · exact f_Check_late p a cap w hx hc hM h.1 h.2.1 h.2.2
  · have he : plantE p = 32 := plantE_bad (by
      rw [Bool.eq_false_iff]
      intro hp
      refine h ?_
      rw [books_all]
      simp only [plantB, Bool.and_eq_true, decide_eq_true_eq] at hp
      obtain ⟨⟨⟨⟨⟨⟨⟨⟨a, b⟩, c⟩, d⟩, e⟩, f⟩, g⟩, _⟩, _⟩ := hp
      exact ⟨a, b, by rw [c, d, e, f]; rfl⟩)
    rw [he]
    exact f_Check_early p a cap w hx hc hM h

end Go.Proofs.Ytemafanncejeiaa

/-
  A region that draws its order in which a call panics: whatever order is picked, the operations that come up ahead of it only read or call (or make a block), and then it panics. No program in sight.
-/
namespace Bal
open Go Go.RowKit

section
variable {P : Program} {ops : Array Oper} {md : Region.Mode} {C : World → Prop} {Q : Exit → Act → World → Prop}

def QF : Exit → Act → World → Prop := fun _ _ _ => False

theorem wpOp_QF {i : Nat} {a : Act} {w : World} {K : Act → World → Prop} (h : wpOp P ops QF i K a w) : wpOp P ops Q i K a w := by
  unfold wpOp at *
  split
  · simpa [*] using h
  · rename_i o ho
    simp only [ho] at h
    split
    · rename_i hw
      simp only [hw, if_true] at h
      rcases h with h | ⟨_, _, _, h⟩
      · refine .inl ?_
        unfold Oper.wp at *
        generalize (execOp a.eval o).run P w = r at *
        cases r with
        | ok n w' =>
          cases n <;> simp only [Oper.upon] at h ⊢
          case enter f args =>
            refine Calls.mono h fun e w'' he => ?_
            cases e with
            | returned u => exact he
            | panicked c => exact he.elim
            | outgrown => obtain ⟨_, _, he⟩ := he; exact he.elim
          all_goals exact h
        | halt x w' =>
          cases x <;> simp only [Oper.upon] at h ⊢
          case panic u => exact h.elim
      · exact h.elim
    · rename_i hw
      simp only [hw] at h
      exact h

theorem wpOp_putIn {j : Nat} {oi oj : Oper} {v : Value} (hj : ops[j]? = some oj) (hap : oi.apart ops oj = true)
    (hsi : ∀ cs b, oi.op ≠ .select cs b) (hsj : ∀ cs b, oj.op ≠ .select cs b)
    (hQ : ∀ c a w, Q (.panic c) (a.put oi.dst v) w → Q (.panic c) a w) {K : Act → World → Prop} {a : Act} {w : World}
    (hy : YieldsIn P ops C oi v a) (h : wpOp P ops Q j K (a.put oi.dst v) w) :
    wpOp P ops Q j (fun a' w' => YieldsIn P ops C oi v a' ∧ K (a'.put oi.dst v) w') a w := by
  obtain ⟨h1, h2, h3⟩ := Oper.apart_spec hap
  have keep : ∀ (a : Act), YieldsIn P ops C oi v a → ∀ u, YieldsIn P ops C oi v (a.put oj.dst u) := fun a hy u =>
    hy.of_same (execOp_put oi hsi a oj.dst u h3) (wanted_put oi a oj.dst u h3)
  have keepD : ∀ d, YieldsIn P ops C oi v { a with defers := d :: a.defers } := fun d => hy.of_same rfl rfl
  unfold wpOp at *
  simp only [hj] at *
  rw [wanted_put oj a oi.dst v h1] at h
  split
  · rename_i hw
    simp only [hw, if_true] at h
    rcases h with h | ⟨hasks, hlets⟩
    case inr => exact .inr ⟨by unfold Oper.asks at *; rw [execOp_put oj hsj a oi.dst v h1] at hasks; exact hasks, hlets⟩
    refine .inl ?_
    unfold Oper.wp at *
    rw [execOp_put oj hsj a oi.dst v h1] at h
    generalize (execOp a.eval oj).run P w = r at *
    cases r with
    | ok n w' =>
      cases n <;> simp only [Oper.upon] at h ⊢
      case value u => exact ⟨keep a hy u, by rw [← Act.put_comm a v u h2]; exact h⟩
      case skip => exact ⟨keep a hy _, by rw [← Act.put_comm a v undef h2]; exact h⟩
      case defer d =>
        refine ⟨keep _ (keepD d) _, ?_⟩
        rw [← Act.put_comm _ v undef h2, ← Act.put_defers]
        exact h
      case enter f args =>
        refine Calls.mono h fun e w'' he => ?_
        cases e with
        | returned u => exact ⟨keep a hy u, by rw [← Act.put_comm a v u h2]; exact he⟩
        | panicked c => exact hQ _ _ _ he
        | outgrown => exact he
      case row row args => exact Rows.mono h fun u w'' he => ⟨keep a hy u, by rw [← Act.put_comm a v u h2]; exact he⟩
    | halt x w' =>
      cases x <;> simp only [Oper.upon] at h ⊢
      case panic u => exact hQ _ _ _ h
  · rename_i hw
    simp only [hw] at h
    exact ⟨keep a hy _, by rw [← Act.put_comm a v undef h2]; exact h⟩

/-- operation p panics in state a, in every world of the class -/
def DiesAt (P : Program) (ops : Array Oper) (C : World → Prop) (Q : Exit → Act → World → Prop) (p : Nat) (a : Act) : Prop := ∀ w, C w → wpOp P ops Q p (fun _ _ => False) a w
/-- whatever order is picked, operation p comes up, and panics -/
def wpDie (P : Program) (md : Region.Mode) (ops : Array Oper) (C : World → Prop) (Q : Exit → Act → World → Prop) (p : Nat) : Nat → Array Bool → Act → Prop
  | 0, _, _ => False
  | f + 1, listed, a => Region.ready md ops listed ≠ [] ∧ ∀ i ∈ Region.ready md ops listed, (i = p ∧ DiesAt P ops C Q p a) ∨
      (i ≠ p ∧ ∀ w, C w → wpOp P ops QF i (fun a' w' => C w' ∧ wpDie P md ops C Q p f (listed.setIfInBounds i true) a') a w)

theorem wpAny_of_die {p : Nat} : ∀ (f : Nat) (listed : Array Bool) (a : Act) (w : World), C w → wpDie P md ops C Q p f listed a → wpAny P md ops Q f listed a w
  | 0, _, _, _, _, h => h.elim
  | f + 1, listed, a, w, hw, h => ⟨fun h0 => absurd h0 h.1, fun i hi => by
      rcases h.2 i hi with ⟨rfl, hd⟩ | ⟨_, h'⟩
      · exact wpOp_mono (fun _ _ h => h.elim) (hd w hw)
      · exact wpOp_QF (wpOp_mono (fun a' w' hh => wpAny_of_die f _ a' w' hh.1 hh.2) (h' w hw))⟩

theorem wpDie_first {p i : Nat} {oi : Oper} {v : Value} (hi : ops[i]? = some oi) (hip : i ≠ p) (hsel : ∀ (j : Nat) (o : Oper) cs b, ops[j]? = some o → o.op ≠ .select cs b)
    (hQ : ∀ c a w, Q (.panic c) (a.put oi.dst v) w → Q (.panic c) a w) :
    ∀ (f : Nat) (listed : Array Bool) (a : Act),
      (∀ j oj, ops[j]? = some oj → j ≠ i → listed.getD j true = false → (∀ e ∈ oj.after, Region.binds md e = true → e.on ≠ i) → oi.apart ops oj = true) →
      i ∈ Region.ready md ops listed → YieldsIn P ops C oi v a →
      wpDie P md ops C Q p f (listed.setIfInBounds i true) (a.put oi.dst v) → wpDie P md ops C Q p (f + 1) listed a := by
  intro f
  induction f with
  | zero => intro listed a _ _ _ H; exact H.elim
  | succ f ih =>
    intro listed a hfree hr hy H
    have hun := (mem_ready.1 hr).1
    refine ⟨fun h => (by rw [h] at hr; cases hr), fun j hj => ?_⟩
    by_cases hji : j = i
    · subst hji
      exact .inr ⟨hip, fun w hw => wpOp_of_qOp hw (fun a' w' hw' h => ⟨hw', h⟩) (hy.qOp hi H)⟩
    · obtain ⟨hjun, oj, hoj, hall⟩ := mem_ready.1 hj
      have hnot : ∀ e ∈ oj.after, Region.binds md e = true → e.on ≠ i := fun e he hb heq => by
        have h1 := hall e he hb
        rw [heq, getD_both hun] at h1
        cases h1
      have hap := hfree j oj hoj hji hjun hnot
      rcases H.2 j (ready_mono hj hji) with ⟨rfl, hd⟩ | ⟨hjp, h'⟩
      · exact .inl ⟨rfl, fun w hw => wpOp_mono (fun _ _ h => h.2) (wpOp_putIn hoj hap (fun cs b => hsel i oi cs b hi) (fun cs b => hsel _ oj cs b hoj) hQ hy (hd w hw))⟩
      · refine .inr ⟨hjp, fun w hw => ?_⟩
        have h2 := wpOp_putIn hoj hap (fun cs b => hsel i oi cs b hi) (fun cs b => hsel j oj cs b hoj) (fun _ _ _ h => h) hy (h' w hw)
        have hfree' : ∀ k ok, ops[k]? = some ok → k ≠ i → (listed.setIfInBounds j true).getD k true = false →
            (∀ e ∈ ok.after, Region.binds md e = true → e.on ≠ i) → oi.apart ops ok = true := fun k ok hk hki hun hno => by
          refine hfree k ok hk hki ?_ hno
          by_cases hjk : j = k
          · subst hjk; exact hjun
          · rw [getD_set_ne true hjk] at hun; exact hun
        refine wpOp_mono (fun a' w' h3 => ⟨h3.2.1, ih (listed.setIfInBounds j true) a' hfree' (ready_mono hr (Ne.symm hji)) h3.1 ?_⟩) h2
        rw [Array.setIfInBounds_comm _ _ hji]
        exact h3.2.2

/-- what stands at the end: p alone may come up, or p and q, q making a block -/
def endB (md : Region.Mode) (ops : Array Oper) (p : Nat) : Option Nat → Array Bool → Bool
  | none, listed => decide (Region.ready md ops listed = [p])
  | some q, listed => (decide (Region.ready md ops listed = [p, q]) || decide (Region.ready md ops listed = [q, p])) && decide (q ≠ p) && decide (Region.ready md ops (listed.setIfInBounds q true) = [p])
def dieB (md : Region.Mode) (ops : Array Oper) (p : Nat) (q : Option Nat) : List Nat → Array Bool → Bool
  | [], listed => endB md ops p q listed
  | i :: r, listed => (Region.ready md ops listed).contains i && Region.free md ops listed i && decide (i ≠ p) && dieB md ops p q r (listed.setIfInBounds i true)
/-- operation q makes a block, whatever the state -/
def makesB (P : Program) (ops : Array Oper) (C : World → Prop) : Option Nat → Prop
  | none => True
  | some q => ∃ oq, ops[q]? = some oq ∧ oq.guard = none ∧ ∀ (a : Act) w, C w → ∃ v w', C w' ∧ (execOp a.eval oq).run P w = .ok (.value v) w'
def DiesBoth (P : Program) (ops : Array Oper) (C : World → Prop) (Q : Exit → Act → World → Prop) (p : Nat) (q : Option Nat) (a : Act) : Prop :=
  DiesAt P ops C Q p a ∧ ∀ i oq, q = some i → ops[i]? = some oq → ∀ v, DiesAt P ops C Q p (a.put oq.dst v)

theorem wpDie_end {p : Nat} {q : Option Nat} {n : Nat} {listed : Array Bool} {a : Act} (hB : endB md ops p q listed = true) (hm : makesB P ops C q) (hn : 2 ≤ n ∨ (q = none ∧ 1 ≤ n)) (h : DiesBoth P ops C Q p q a) : wpDie P md ops C Q p n listed a := by
  cases q with
  | none =>
    simp only [endB, decide_eq_true_eq] at hB
    obtain ⟨f, rfl⟩ : ∃ f, n = f + 1 := ⟨n - 1, by omega⟩
    refine ⟨by rw [hB]; simp, fun i hi => ?_⟩
    rw [hB] at hi
    exact .inl ⟨by simpa using hi, h.1⟩
  | some q =>
    simp only [endB, Bool.and_eq_true, Bool.or_eq_true, decide_eq_true_eq] at hB
    obtain ⟨⟨hr, hqp⟩, hr2⟩ := hB
    obtain ⟨f, rfl⟩ : ∃ f, n = f + 1 + 1 := ⟨n - 2, by simp at hn; omega⟩
    obtain ⟨oq, hoq, hg, hmk⟩ := hm
    have hmem : ∀ i ∈ Region.ready md ops listed, i = p ∨ i = q := fun i hi => by
      rcases hr with hr | hr <;> (rw [hr] at hi; simp at hi; omega)
    refine ⟨by rcases hr with hr | hr <;> (rw [hr]; simp), fun i hi => ?_⟩
    rcases hmem i hi with rfl | rfl
    · exact .inl ⟨rfl, h.1⟩
    · refine .inr ⟨hqp, fun w hw => ?_⟩
      obtain ⟨v, w', hw', hv⟩ := hmk a w hw
      unfold wpOp
      simp only [hoq]
      have hwt : Region.wanted oq (yielded ops a.tmps) = true := by simp [Region.wanted, hg]
      simp only [hwt, if_true]
      refine .inl ?_
      unfold Oper.wp
      rw [hv]
      refine ⟨hw', by rw [hr2]; simp, fun j hj => ?_⟩
      rw [hr2] at hj
      exact .inl ⟨by simpa using hj, h.2 _ oq rfl hoq v⟩

theorem wpDie_lex {p : Nat} {q : Option Nat} {n : Nat} (hsel : Region.noSelect ops = true) (hQ : ∀ c a d v w, Q (.panic c) (Act.put a d v) w → Q (.panic c) a w) (hm : makesB P ops C q) (hn : 2 ≤ n ∨ (q = none ∧ 1 ≤ n)) :
    ∀ (is : List Nat) (l : List Oper) (listed : Array Bool) (a : Act), is.map (ops[·]?) = l.map some → dieB md ops p q is listed = true →
    wpQuiet P ops C (DiesBoth P ops C Q p q) l a → wpDie P md ops C Q p (l.length + n) listed a
  | [], [], listed, a, _, hB, h => by
    simp only [List.length_nil, Nat.zero_add]
    exact wpDie_end (by simpa [dieB] using hB) hm hn h
  | [], _ :: _, _, _, hm', _, _ => by simp at hm'
  | _ :: _, [], _, _, hm', _, _ => by simp at hm'
  | i :: is, o :: l, listed, a, hm', hB, h => by
    simp only [List.map_cons, List.cons.injEq] at hm'
    obtain ⟨h0, hm''⟩ := hm'
    simp only [dieB, Bool.and_eq_true, decide_eq_true_eq] at hB
    obtain ⟨⟨⟨hr, hf⟩, hip⟩, hB'⟩ := hB
    have hst : qOp P ops C i (wpQuiet P ops C (DiesBoth P ops C Q p q) l) a := by unfold qOp; simp only [h0]; exact h
    obtain ⟨v, hy, hK⟩ := yieldsIn_of_qOp h0 hst
    rw [show (o :: l).length + n = (l.length + n) + 1 by simp only [List.length_cons]; omega]
    exact wpDie_first h0 hip (Region.noSelect_spec hsel) (fun c a w => hQ c a _ _ w) _ listed a (Region.free_spec h0 hf) (by simpa using hr) hy (wpDie_lex hsel hQ hm hn is l _ _ hm'' hB' hK)

theorem wpQuiet_of_steps {K : Act → Prop} : ∀ (l : List Oper) (a : Act), wpSteps P ops C K (l.map fun o => (false, o)) a → wpQuiet P ops C K l a
  | [], _, h => h
  | o :: l, a, h => by
    have h' : wpQuiet P ops C (fun a' => wpSteps P ops C K (l.map fun o => (false, o)) a') [o] a := h
    unfold wpQuiet at h' ⊢
    split
    · rename_i hw
      simp only [hw, if_true] at h'
      exact Oper.quiet_mono (fun a' h'' => wpQuiet_of_steps l a' h'') h'
    · rename_i hw
      simp only [hw] at h'
      exact wpQuiet_of_steps l _ h'
/-- THE THEOREM: is: the quiet operations in the order in which they are walked; p: the one that panics; q: one that makes a block and may come up before or behind. -/
theorem later_dies {P : Program} {id : Nat} {Q : Exit → Act → World → Prop} {a : Act} {w : World} {l : List Oper} (is : List Nat) (p : Nat) (q : Option Nat) (hm : P.follows .mixedOrders = true)
    (hB : (Region.noSelect l.toArray && dieB .any l.toArray p q is (Array.replicate l.toArray.size false) && is.all (fun i => decide (i < l.length)) && decide (is.length + (if q.isSome then 2 else 1) ≤ l.length)) = true)
    (hQ : ∀ c a d v w, Q (.panic c) (Act.put a d v) w → Q (.panic c) a w) (hq : makesB P l.toArray (fun w' => ∃ g : Later w, w' = g.val) q)
    (h : wpSteps P l.toArray (fun w' => ∃ g : Later w, w' = g.val) (DiesBoth P l.toArray (fun w' => ∃ g : Later w, w' = g.val) Q p q) ((is.filterMap (l[·]?)).map fun o => (false, o)) a) :
    (Code.region id l.toArray true).wp P Q a w := by
  simp only [Bool.and_eq_true, decide_eq_true_eq, List.all_eq_true] at hB
  obtain ⟨⟨⟨hsel, hdie⟩, hlt⟩, hlen⟩ := hB
  obtain ⟨q1, q2⟩ := filterMap_ok is hlt
  refine wp_region_any hm (wpAny_of_die (C := fun w' => ∃ g : Later w, w' = g.val) (p := p) _ _ _ _ ⟨⟨w.drew, (Below.refl _ _).drew⟩, rfl⟩ ?_)
  have key := wpDie_lex (P := P) (md := .any) (Q := Q) (C := fun w' => ∃ g : Later w, w' = g.val) (p := p) (q := q) (n := l.length - is.length) hsel hQ hq (by cases q <;> simp at hlen ⊢ <;> omega) is _ _ a q1 hdie (wpQuiet_of_steps _ _ h)
  rw [q2, show is.length + (l.length - is.length) = l.length by omega] at key
  simpa using key
/-- one operation that panics, out of its run -/
theorem DiesAt.of {p : Nat} {o : Oper} {a : Act} (ho : ops[p]? = some o) (hg : o.guard = none) (h : ∀ w, C w → Oper.wp P o a w (fun _ _ => False) Q) : DiesAt P ops C Q p a := fun w hw => by
  unfold wpOp
  simp only [ho]
  have hwt : Region.wanted o (yielded ops a.tmps) = true := by simp [Region.wanted, hg]
  simp only [hwt, if_true]
  exact .inl (h w hw)
end
/-- a goal that is done, where a tactic wants one more -/
theorem done_any {P : Program} {a : Act} {w : World} {G : Prop} (h : G) (_ : wpAny P .any #[] (fun _ _ _ => True) 0 #[] a w) : G := h
end Bal

/-
  Plants: the cell of an act.
-/
namespace Go.Proofs.Ytemafanncejeiaa
open Go.RowKit Bal Bal.Trim Bal.Gas
set_option linter.unusedVariables false
set_option linter.unusedSimpArgs false
set_option maxHeartbeats 4000000
set_option maxRecDepth 10000

theorem f_ranged1B (lo hi x : Int) (m : Nat) (W : World) (h : Blk W m #[.int .i64 x] 3) :
    Calls Try.prog 91 #[.int .i64 lo, .int .i64 hi, .slice (some ⟨m, 0, none⟩) 1 1] W fun e w' => e = .returned (.bool (rng [x] lo hi)) ∧ W = w' :=
  f_ranged lo hi _ 1 1 [x] W rfl (Row.one (enc := icell) h rfl) (by decide)

attribute [local go_sem ↓] Go.wp_at_zero Go.wp_at_succ
theorem f_cell_no1 (s : Nat) (ad : Option Addr) (cp : Nat) (p : Plant) (d : Deed) (w : World) (hs : Blk w s #[.slice ad p.cells.length cp, .int .i64 p.bottles, .int .i64 p.inH, .int .i64 p.inA, .int .i64 p.vH, .int .i64 p.vA, .int .i64 p.lH, .int .i64 p.lA, .int .i64 p.pH, .int .i64 p.pA] 174) (hn : p.cells.length ≤ 12) (h : rng [d.cell] 0 (p.cells.length - 1) = false) :
    Calls Try.prog 135 #[.pointer (some ⟨s, 0, none⟩), .agg #[.int .u8 d.kind, .int .i64 d.cell, .int .i64 d.to, .int .i64 d.n]] w fun e w' => e = .panicked [{ v := refusal 2, recovered := false }] ∧ Kept w w' := by
  have H1 := Lib.hid h
  clear h
  have hwl := i64_inx (n := (p.cells.length : Int) - 1) (by omega)
  go_enter Try.func135, Try.ntmps135
  go_upto_region 1 with fail
  refine at_world (S := fun W => Blk W w.heap.size #[.int .u8 d.kind, .int .i64 d.cell, .int .i64 d.to, .int .i64 d.n] 65 ∧ Kept w W) ⟨by (exact blkc), by (exact kpt)⟩ ?_
  rintro W ⟨r0, hk⟩
  have hsW := hs.keep hk
  have r0c0 := r0.cell 0
  have r0f0 := r0.free 0
  have r0c1 := r0.cell 1
  have r0f1 := r0.free 1
  have r0c2 := r0.cell 2
  have r0f2 := r0.free 2
  have r0c3 := r0.cell 3
  have r0f3 := r0.free 3
  have r0l := r0.lt
  simp at r0c0 r0c1 r0c2 r0c3
  have hsWc0 := hsW.cell 0
  have hsWf0 := hsW.free 0
  have hsWc1 := hsW.cell 1
  have hsWf1 := hsW.free 1
  have hsWc2 := hsW.cell 2
  have hsWf2 := hsW.free 2
  have hsWc3 := hsW.cell 3
  have hsWf3 := hsW.free 3
  have hsWc4 := hsW.cell 4
  have hsWf4 := hsW.free 4
  have hsWc5 := hsW.cell 5
  have hsWf5 := hsW.free 5
  have hsWc6 := hsW.cell 6
  have hsWf6 := hsW.free 6
  have hsWc7 := hsW.cell 7
  have hsWf7 := hsW.free 7
  have hsWc8 := hsW.cell 8
  have hsWf8 := hsW.free 8
  have hsWc9 := hsW.cell 9
  have hsWf9 := hsW.free 9
  have hsWl := hsW.lt
  simp at hsWc0 hsWc1 hsWc2 hsWc3 hsWc4 hsWc5 hsWc6 hsWc7 hsWc8 hsWc9

  first | go_region_with (first | (go_at_call 91; (with_reducible refine (f_ranged1B _ _ d.cell _ _ ?_).mono ?_); (focus ((repeat with_reducible refine Blk.drew ?_); exact Blk.new' (by first | rfl | (simp; done)))); rw [H1.out]; rintro e w1 ⟨rfl, rfl⟩) | (go_at_call 113; (with_reducible refine (f_need_no _ _).mono ?_); rintro e w1 ⟨rfl, rfl⟩; refine done_any (P := Try.prog) (a := ⟨#[], []⟩) (w := w) ⟨rfl, rfl, by (exact kpt)⟩ ?_)) | fail
  all_goals trivial
theorem f_cell_no2 (s : Nat) (ad : Option Addr) (cp : Nat) (p : Plant) (d : Deed) (w : World) (hs : Blk w s #[.slice ad p.cells.length cp, .int .i64 p.bottles, .int .i64 p.inH, .int .i64 p.inA, .int .i64 p.vH, .int .i64 p.vA, .int .i64 p.lH, .int .i64 p.lA, .int .i64 p.pH, .int .i64 p.pA] 174) (hn : p.cells.length ≤ 12) (h : rng [d.cell] 0 (p.cells.length - 1) = true) (h' : rng [d.n] 1 10000000 = false) :
    Calls Try.prog 135 #[.pointer (some ⟨s, 0, none⟩), .agg #[.int .u8 d.kind, .int .i64 d.cell, .int .i64 d.to, .int .i64 d.n]] w fun e w' => e = .panicked [{ v := refusal 2, recovered := false }] ∧ Kept w w' := by
  have H1 := Lib.hid h
  have H2 := Lib.hid h'
  clear h h'
  have hwl := i64_inx (n := (p.cells.length : Int) - 1) (by omega)
  go_enter Try.func135, Try.ntmps135
  go_upto_region 1 with fail
  refine at_world (S := fun W => Blk W w.heap.size #[.int .u8 d.kind, .int .i64 d.cell, .int .i64 d.to, .int .i64 d.n] 65 ∧ Kept w W) ⟨by (exact blkc), by (exact kpt)⟩ ?_
  rintro W ⟨r0, hk⟩
  have hsW := hs.keep hk
  have r0c0 := r0.cell 0
  have r0f0 := r0.free 0
  have r0c1 := r0.cell 1
  have r0f1 := r0.free 1
  have r0c2 := r0.cell 2
  have r0f2 := r0.free 2
  have r0c3 := r0.cell 3
  have r0f3 := r0.free 3
  have r0l := r0.lt
  simp at r0c0 r0c1 r0c2 r0c3
  have hsWc0 := hsW.cell 0
  have hsWf0 := hsW.free 0
  have hsWc1 := hsW.cell 1
  have hsWf1 := hsW.free 1
  have hsWc2 := hsW.cell 2
  have hsWf2 := hsW.free 2
  have hsWc3 := hsW.cell 3
  have hsWf3 := hsW.free 3
  have hsWc4 := hsW.cell 4
  have hsWf4 := hsW.free 4
  have hsWc5 := hsW.cell 5
  have hsWf5 := hsW.free 5
  have hsWc6 := hsW.cell 6
  have hsWf6 := hsW.free 6
  have hsWc7 := hsW.cell 7
  have hsWf7 := hsW.free 7
  have hsWc8 := hsW.cell 8
  have hsWf8 := hsW.free 8
  have hsWc9 := hsW.cell 9
  have hsWf9 := hsW.free 9
  have hsWl := hsW.lt
  simp at hsWc0 hsWc1 hsWc2 hsWc3 hsWc4 hsWc5 hsWc6 hsWc7 hsWc8 hsWc9

  first | go_region_with (first | (go_at_call 91; (with_reducible refine (f_ranged1B _ _ d.cell _ _ ?_).mono ?_); (focus ((repeat with_reducible refine Blk.drew ?_); exact Blk.new' (by first | rfl | (simp; done)))); rw [H1.out]; rintro e w1 ⟨rfl, rfl⟩) | (go_at_call 91; (with_reducible refine (f_ranged1B _ _ d.n _ _ ?_).mono ?_); (focus ((repeat with_reducible refine Blk.drew ?_); exact Blk.new' (by first | rfl | (simp; done)))); rw [H2.out]; rintro e w1 ⟨rfl, rfl⟩) | (go_at_call 113; (with_reducible refine (f_need_no _ _).mono ?_); rintro e w1 ⟨rfl, rfl⟩; refine done_any (P := Try.prog) (a := ⟨#[], []⟩) (w := w) ⟨rfl, rfl, by (exact kpt)⟩ ?_)) | fail
  all_goals trivial
theorem f_cell_no (s : Nat) (ad : Option Addr) (cp : Nat) (p : Plant) (d : Deed) (w : World) (hs : Blk w s #[.slice ad p.cells.length cp, .int .i64 p.bottles, .int .i64 p.inH, .int .i64 p.inA, .int .i64 p.vH, .int .i64 p.vA, .int .i64 p.lH, .int .i64 p.lA, .int .i64 p.pH, .int .i64 p.pA] 174) (hn : p.cells.length ≤ 12) (h : argB p d = false) :
    Calls Try.prog 135 #[.pointer (some ⟨s, 0, none⟩), .agg #[.int .u8 d.kind, .int .i64 d.cell, .int .i64 d.to, .int .i64 d.n]] w fun e w' => e = .panicked [{ v := refusal 2, recovered := false }] ∧ Kept w w' := by
  cases h1 : rng [d.cell] 0 (p.cells.length - 1)
  · exact f_cell_no1 s ad cp p d w hs hn h1
  · exact f_cell_no2 s ad cp p d w hs hn h1 (by simpa [argB, h1] using h)
theorem f_cell_ok (s g cp : Nat) (p : Plant) (d : Deed) (w : World) (hs : Blk w s #[.slice (some ⟨g, 0, none⟩) p.cells.length cp, .int .i64 p.bottles, .int .i64 p.inH, .int .i64 p.inA, .int .i64 p.vH, .int .i64 p.vA, .int .i64 p.lH, .int .i64 p.lA, .int .i64 p.pH, .int .i64 p.pA] 174) (hn : p.cells.length ≤ 12) (h : argB p d = true) :
    Calls Try.prog 135 #[.pointer (some ⟨s, 0, none⟩), .agg #[.int .u8 d.kind, .int .i64 d.cell, .int .i64 d.to, .int .i64 d.n]] w fun e w' => e = .returned (.pointer (some ⟨g, d.cell.toNat * 7, none⟩)) ∧ Kept w w' := by
  have h1 : rng [d.cell] 0 (p.cells.length - 1) = true := by unfold argB at h; simp only [Bool.and_eq_true] at h; exact h.1
  have h2 : rng [d.n] 1 10000000 = true := by unfold argB at h; simp only [Bool.and_eq_true] at h; exact h.2
  have hb : 0 ≤ d.cell ∧ d.cell ≤ p.cells.length - 1 := by simpa [rng, inB] using h1
  obtain ⟨hb0, hb1⟩ := hb
  have hb2 : d.cell < p.cells.length := by omega
  have H1 := Lib.hid h1
  have H2 := Lib.hid h2
  clear h h1 h2
  have hwl := i64_inx (n := (p.cells.length : Int) - 1) (by omega)
  go_enter Try.func135, Try.ntmps135
  go_upto_region 1 with fail
  refine at_world (S := fun W => Blk W w.heap.size #[.int .u8 d.kind, .int .i64 d.cell, .int .i64 d.to, .int .i64 d.n] 65 ∧ Kept w W) ⟨by (exact blkc), by (exact kpt)⟩ ?_
  rintro W ⟨r0, hk⟩
  have hsW := hs.keep hk
  have r0c0 := r0.cell 0
  have r0f0 := r0.free 0
  have r0c1 := r0.cell 1
  have r0f1 := r0.free 1
  have r0c2 := r0.cell 2
  have r0f2 := r0.free 2
  have r0c3 := r0.cell 3
  have r0f3 := r0.free 3
  have r0l := r0.lt
  simp at r0c0 r0c1 r0c2 r0c3
  have hsWc0 := hsW.cell 0
  have hsWf0 := hsW.free 0
  have hsWc1 := hsW.cell 1
  have hsWf1 := hsW.free 1
  have hsWc2 := hsW.cell 2
  have hsWf2 := hsW.free 2
  have hsWc3 := hsW.cell 3
  have hsWf3 := hsW.free 3
  have hsWc4 := hsW.cell 4
  have hsWf4 := hsW.free 4
  have hsWc5 := hsW.cell 5
  have hsWf5 := hsW.free 5
  have hsWc6 := hsW.cell 6
  have hsWf6 := hsW.free 6
  have hsWc7 := hsW.cell 7
  have hsWf7 := hsW.free 7
  have hsWc8 := hsW.cell 8
  have hsWf8 := hsW.free 8
  have hsWc9 := hsW.cell 9
  have hsWf9 := hsW.free 9
  have hsWl := hsW.lt
  simp at hsWc0 hsWc1 hsWc2 hsWc3 hsWc4 hsWc5 hsWc6 hsWc7 hsWc8 hsWc9

  go_cut [] (fun wx => Blk wx w.heap.size #[.int .u8 d.kind, .int .i64 d.cell, .int .i64 d.to, .int .i64 d.n] 65 ∧ Blk wx s #[.slice (some ⟨g, 0, none⟩) p.cells.length cp, .int .i64 p.bottles, .int .i64 p.inH, .int .i64 p.inA, .int .i64 p.vH, .int .i64 p.vA, .int .i64 p.lH, .int .i64 p.lA, .int .i64 p.pH, .int .i64 p.pA] 174 ∧ Kept w wx)
  case first =>
    first | go_region_with (first | (go_at_call 91; (with_reducible refine (f_ranged1B _ _ d.cell _ _ ?_).mono ?_); (focus ((repeat with_reducible refine Blk.drew ?_); exact Blk.new' (by first | rfl | (simp; done)))); rw [H1.out]; rintro e w1 ⟨rfl, rfl⟩) | (go_at_call 91; (with_reducible refine (f_ranged1B _ _ d.n _ _ ?_).mono ?_); (focus ((repeat with_reducible refine Blk.drew ?_); exact Blk.new' (by first | rfl | (simp; done)))); rw [H2.out]; rintro e w1 ⟨rfl, rfl⟩) | (go_at_call 113; (with_reducible refine (f_need_ok _ _).mono ?_); rintro e w1 ⟨rfl, rfl⟩)) | fail
    all_goals (go_wp2_with fail; go_meet)
    all_goals (first | exact ⟨(((r0.alloc _).alloc _).drew), (((hsW.alloc _).alloc _).drew), by (exact kpt)⟩ | exact ⟨(((r0.drew.alloc _).alloc _)), (((hsW.drew.alloc _).alloc _)), by (exact kpt)⟩ | trace_state)
  case rest =>
    clear hk r0 hsW r0c0 r0f0 r0c1 r0f1 r0c2 r0f2 r0c3 r0f3 hsWc0 hsWf0 hsWc1 hsWf1 hsWc2 hsWf2 hsWc3 hsWf3 hsWc4 hsWf4 hsWc5 hsWf5 hsWc6 hsWf6 hsWc7 hsWf7 hsWc8 hsWf8 hsWc9 hsWf9 r0l hsWl
    go_upto_region 2 with fail
    refine at_world (S := fun W2 => Blk W2 w.heap.size #[.int .u8 d.kind, .int .i64 d.cell, .int .i64 d.to, .int .i64 d.n] 65 ∧ Blk W2 s #[.slice (some ⟨g, 0, none⟩) p.cells.length cp, .int .i64 p.bottles, .int .i64 p.inH, .int .i64 p.inA, .int .i64 p.vH, .int .i64 p.vA, .int .i64 p.lH, .int .i64 p.lA, .int .i64 p.pH, .int .i64 p.pA] 174 ∧ Kept w W2) hcut ?_
    clear hcut
    rintro W2 ⟨r0, hsW, hk⟩
    have r0c0 := fun g : Later W2 => (r0.later g).cell 0
    have r0f0 := fun g : Later W2 => (r0.later g).free 0
    have r0c1 := fun g : Later W2 => (r0.later g).cell 1
    have r0f1 := fun g : Later W2 => (r0.later g).free 1
    have r0c2 := fun g : Later W2 => (r0.later g).cell 2
    have r0f2 := fun g : Later W2 => (r0.later g).free 2
    have r0c3 := fun g : Later W2 => (r0.later g).cell 3
    have r0f3 := fun g : Later W2 => (r0.later g).free 3
    have r0l := fun g : Later W2 => (r0.later g).lt
    simp at r0c0 r0c1 r0c2 r0c3
    have hsWc0 := fun g : Later W2 => (hsW.later g).cell 0
    have hsWf0 := fun g : Later W2 => (hsW.later g).free 0
    have hsWc1 := fun g : Later W2 => (hsW.later g).cell 1
    have hsWf1 := fun g : Later W2 => (hsW.later g).free 1
    have hsWc2 := fun g : Later W2 => (hsW.later g).cell 2
    have hsWf2 := fun g : Later W2 => (hsW.later g).free 2
    have hsWc3 := fun g : Later W2 => (hsW.later g).cell 3
    have hsWf3 := fun g : Later W2 => (hsW.later g).free 3
    have hsWc4 := fun g : Later W2 => (hsW.later g).cell 4
    have hsWf4 := fun g : Later W2 => (hsW.later g).free 4
    have hsWc5 := fun g : Later W2 => (hsW.later g).cell 5
    have hsWf5 := fun g : Later W2 => (hsW.later g).free 5
    have hsWc6 := fun g : Later W2 => (hsW.later g).cell 6
    have hsWf6 := fun g : Later W2 => (hsW.later g).free 6
    have hsWc7 := fun g : Later W2 => (hsW.later g).cell 7
    have hsWf7 := fun g : Later W2 => (hsW.later g).free 7
    have hsWc8 := fun g : Later W2 => (hsW.later g).cell 8
    have hsWf8 := fun g : Later W2 => (hsW.later g).free 8
    have hsWc9 := fun g : Later W2 => (hsW.later g).cell 9
    have hsWf9 := fun g : Later W2 => (hsW.later g).free 9
    have hsWl := fun g : Later W2 => (hsW.later g).lt
    simp at hsWc0 hsWc1 hsWc2 hsWc3 hsWc4 hsWc5 hsWc6 hsWc7 hsWc8 hsWc9
    refine Later.region (by kernel_rfl) (by kernel_rfl) ?_
    repeat (first | go_big_quiet_skip | (go_big_quiet_want; go_big_quiet_op; first | go_big_quiet_on | (apply Exists.intro; refine ⟨fun g => ?_, ?_⟩; (focus (first | fail)); go_big_quiet_on)))
    refine wpQuiet_nil ?_
    intro gh
    have hkh := Kept.drop hk gh.ok
    go_wp2
    go_ret
    exact ⟨rfl, hkh⟩

end Go.Proofs.Ytemafanncejeiaa

/-
  Acts on a plant at work: buy, fill, breathe.
-/
namespace Go.Proofs.Ytemafanncejeiaa
open Go.RowKit Bal Bal.Trim Bal.Gas
set_option linter.unusedVariables false
set_option linter.unusedSimpArgs false
set_option maxHeartbeats 4000000
set_option maxRecDepth 10000

theorem f_buy_no {B s cp : Nat} {ad : Option Addr} {p : Plant} {w : World} (d : Deed) (h : Shop 25 174 B w s ad cp p) (hp : plantB p = true) (he : rng [d.n] 1 10000000 = false) : Calls Try.prog 106 #[.pointer (some ⟨s, 0, none⟩), .agg #[.int .u8 d.kind, .int .i64 d.cell, .int .i64 d.to, .int .i64 d.n]] w fun e w' => e = .panicked [{ v := refusal 2, recovered := false }] ∧ Kept w w' := by
  have H1 := Lib.hid he
  clear he
  go_enter Try.func106, Try.ntmps106
  go_wp2_with (first | (go_at_call 91; (with_reducible refine (f_ranged1 _ _ d.n _ _ _ (by simp)).mono ?_); rw [H1.out]; rintro e w1 ⟨rfl, rfl⟩) | (go_at_call 113; (with_reducible refine (f_need_no _ _).mono ?_); rintro e w1 ⟨rfl, rfl⟩))
  exact ⟨rfl, rfl, by (exact kpt)⟩
theorem f_buy_ok {B s cp : Nat} {ad : Option Addr} {p : Plant} {w : World} (d : Deed) (h : Shop 25 174 B w s ad cp p) (hp : plantB p = true) (he : rng [d.n] 1 10000000 = true) : Calls Try.prog 106 #[.pointer (some ⟨s, 0, none⟩), .agg #[.int .u8 d.kind, .int .i64 d.cell, .int .i64 d.to, .int .i64 d.n]] w fun e w' => e = .returned (.tuple #[]) ∧ Shop 25 174 B w' s ad cp (buyP p d) ∧ Below B w w' := by
  have hn : 1 ≤ d.n ∧ d.n ≤ 10000000 := by simpa [rng, inB] using he
  obtain ⟨_, hb1, hb2, _⟩ := plantB_iff.1 hp
  have H1 := Lib.hid he
  clear he hp
  obtain ⟨hB, hs, hm⟩ := h
  have hBw : B ≤ w.heap.size := by have := hs.lt; omega
  go_enter Try.func106, Try.ntmps106
  go_upto_region 2 with (first | (go_at_call 91; (with_reducible refine (f_ranged1 _ _ d.n _ _ _ (by simp)).mono ?_); rw [H1.out]; rintro e w1 ⟨rfl, rfl⟩) | (go_at_call 113; (with_reducible refine (f_need_ok _ _).mono ?_); rintro e w1 ⟨rfl, rfl⟩))
  refine at_world (S := fun W => Blk W w.heap.size #[.int .u8 d.kind, .int .i64 d.cell, .int .i64 d.to, .int .i64 d.n] 65 ∧ Blk W s #[.slice ad p.cells.length cp, .int .i64 (p.bottles), .int .i64 (p.inH), .int .i64 (p.inA), .int .i64 (p.vH), .int .i64 (p.vA), .int .i64 (p.lH), .int .i64 (p.lA), .int .i64 (p.pH), .int .i64 (p.pA)] 174 ∧ Mine 25 B W (.slice ad p.cells.length cp) p.cells ∧ Kept w W) ⟨by (exact blkc), hs.keep (by (exact kpt)), hm.keep (by (exact kpt)), by (exact kpt)⟩ ?_
  rintro W ⟨r0, hsW, hmW, hk⟩
  have r0c0 := fun g : Later W => (r0.later g).cell 0
  have r0f0 := fun g : Later W => (r0.later g).free 0
  have r0c1 := fun g : Later W => (r0.later g).cell 1
  have r0f1 := fun g : Later W => (r0.later g).free 1
  have r0c2 := fun g : Later W => (r0.later g).cell 2
  have r0f2 := fun g : Later W => (r0.later g).free 2
  have r0c3 := fun g : Later W => (r0.later g).cell 3
  have r0f3 := fun g : Later W => (r0.later g).free 3
  have r0l := fun g : Later W => (r0.later g).lt
  simp at r0c0 r0c1 r0c2 r0c3
  have hsWc0 := fun g : Later W => (hsW.later g).cell 0
  have hsWf0 := fun g : Later W => (hsW.later g).free 0
  have hsWc1 := fun g : Later W => (hsW.later g).cell 1
  have hsWf1 := fun g : Later W => (hsW.later g).free 1
  have hsWc2 := fun g : Later W => (hsW.later g).cell 2
  have hsWf2 := fun g : Later W => (hsW.later g).free 2
  have hsWc3 := fun g : Later W => (hsW.later g).cell 3
  have hsWf3 := fun g : Later W => (hsW.later g).free 3
  have hsWc4 := fun g : Later W => (hsW.later g).cell 4
  have hsWf4 := fun g : Later W => (hsW.later g).free 4
  have hsWc5 := fun g : Later W => (hsW.later g).cell 5
  have hsWf5 := fun g : Later W => (hsW.later g).free 5
  have hsWc6 := fun g : Later W => (hsW.later g).cell 6
  have hsWf6 := fun g : Later W => (hsW.later g).free 6
  have hsWc7 := fun g : Later W => (hsW.later g).cell 7
  have hsWf7 := fun g : Later W => (hsW.later g).free 7
  have hsWc8 := fun g : Later W => (hsW.later g).cell 8
  have hsWf8 := fun g : Later W => (hsW.later g).free 8
  have hsWc9 := fun g : Later W => (hsW.later g).cell 9
  have hsWf9 := fun g : Later W => (hsW.later g).free 9
  have hsWl := fun g : Later W => (hsW.later g).lt
  simp at hsWc0 hsWc1 hsWc2 hsWc3 hsWc4 hsWc5 hsWc6 hsWc7 hsWc8 hsWc9
  refine Later.tail 11 (by kernel_rfl) (by kernel_rfl) ?_
  simp only [List.take_succ_cons, List.take_zero, List.drop_succ_cons, List.drop_zero]
  repeat (first | go_big_quiet_skip | (go_big_quiet_want; go_big_quiet_op; first | go_big_quiet_on | (apply Exists.intro; refine ⟨fun g_ => ?_, ?_⟩; (focus (first | fail)); go_big_quiet_on)))
  refine wpQuiet_nil ?_
  intro gg
  refine wpList_plain rfl fun K1 hK1 => ?_
  have q0 := r0.later gg
  have q1 := hsW.later gg
  clear r0c0 r0f0 r0c1 r0f1 r0c2 r0f2 r0c3 r0f3 r0l hsWc0 hsWf0 hsWc1 hsWf1 hsWc2 hsWf2 hsWc3 hsWf3 hsWc4 hsWf4 hsWc5 hsWf5 hsWc6 hsWf6 hsWc7 hsWf7 hsWc8 hsWf8 hsWc9 hsWf9 hsWl
  have q0c0 := q0.cell 0
  have q0f0 := q0.free 0
  have q0c1 := q0.cell 1
  have q0f1 := q0.free 1
  have q0c2 := q0.cell 2
  have q0f2 := q0.free 2
  have q0c3 := q0.cell 3
  have q0f3 := q0.free 3
  have q0l := q0.lt
  simp at q0c0 q0c1 q0c2 q0c3
  have q1c0 := q1.cell 0
  have q1f0 := q1.free 0
  have q1c1 := q1.cell 1
  have q1f1 := q1.free 1
  have q1c2 := q1.cell 2
  have q1f2 := q1.free 2
  have q1c3 := q1.cell 3
  have q1f3 := q1.free 3
  have q1c4 := q1.cell 4
  have q1f4 := q1.free 4
  have q1c5 := q1.cell 5
  have q1f5 := q1.free 5
  have q1c6 := q1.cell 6
  have q1f6 := q1.free 6
  have q1c7 := q1.cell 7
  have q1f7 := q1.free 7
  have q1c8 := q1.cell 8
  have q1f8 := q1.free 8
  have q1c9 := q1.cell 9
  have q1f9 := q1.free 9
  have q1l := q1.lt
  simp at q1c0 q1c1 q1c2 q1c3 q1c4 q1c5 q1c6 q1c7 q1c8 q1c9
  go_wp2
  refine at_world (S := fun X => Blk X w.heap.size #[.int .u8 d.kind, .int .i64 d.cell, .int .i64 d.to, .int .i64 d.n] 65 ∧ Blk X s #[.slice ad p.cells.length cp, .int .i64 (p.bottles + d.n), .int .i64 (p.inH), .int .i64 (p.inA), .int .i64 (p.vH), .int .i64 (p.vA), .int .i64 (p.lH), .int .i64 (p.lA), .int .i64 (p.pH), .int .i64 (p.pA)] 174 ∧ Mine 25 B X (.slice ad p.cells.length cp) p.cells ∧ Below B w X ∧ w.heap.size ≤ X.heap.size) ⟨by (exact blkc), q1.set 1 _, (hmW.keep gg.ok).other q1 (by decide) _, ((hk.mono (by have := hs.lt; omega)).trans (gg.ok.mono (by have := hsW.lt; omega))).setCell hB _, Nat.le_trans hk.size (Nat.le_trans gg.ok.size (by simp))⟩ ?_
  rintro X ⟨r0, hsX, hmX, hbX, hzX⟩
  clear q0c0 q0f0 q0c1 q0f1 q0c2 q0f2 q0c3 q0f3 q0l q1c0 q1f0 q1c1 q1f1 q1c2 q1f2 q1c3 q1f3 q1c4 q1f4 q1c5 q1f5 q1c6 q1f6 q1c7 q1f7 q1c8 q1f8 q1c9 q1f9 q1l q0 q1
  have r0c0 := fun g : Later X => (r0.later g).cell 0
  have r0f0 := fun g : Later X => (r0.later g).free 0
  have r0c1 := fun g : Later X => (r0.later g).cell 1
  have r0f1 := fun g : Later X => (r0.later g).free 1
  have r0c2 := fun g : Later X => (r0.later g).cell 2
  have r0f2 := fun g : Later X => (r0.later g).free 2
  have r0c3 := fun g : Later X => (r0.later g).cell 3
  have r0f3 := fun g : Later X => (r0.later g).free 3
  have r0l := fun g : Later X => (r0.later g).lt
  simp at r0c0 r0c1 r0c2 r0c3
  have hsXc0 := fun g : Later X => (hsX.later g).cell 0
  have hsXf0 := fun g : Later X => (hsX.later g).free 0
  have hsXc1 := fun g : Later X => (hsX.later g).cell 1
  have hsXf1 := fun g : Later X => (hsX.later g).free 1
  have hsXc2 := fun g : Later X => (hsX.later g).cell 2
  have hsXf2 := fun g : Later X => (hsX.later g).free 2
  have hsXc3 := fun g : Later X => (hsX.later g).cell 3
  have hsXf3 := fun g : Later X => (hsX.later g).free 3
  have hsXc4 := fun g : Later X => (hsX.later g).cell 4
  have hsXf4 := fun g : Later X => (hsX.later g).free 4
  have hsXc5 := fun g : Later X => (hsX.later g).cell 5
  have hsXf5 := fun g : Later X => (hsX.later g).free 5
  have hsXc6 := fun g : Later X => (hsX.later g).cell 6
  have hsXf6 := fun g : Later X => (hsX.later g).free 6
  have hsXc7 := fun g : Later X => (hsX.later g).cell 7
  have hsXf7 := fun g : Later X => (hsX.later g).free 7
  have hsXc8 := fun g : Later X => (hsX.later g).cell 8
  have hsXf8 := fun g : Later X => (hsX.later g).free 8
  have hsXc9 := fun g : Later X => (hsX.later g).cell 9
  have hsXf9 := fun g : Later X => (hsX.later g).free 9
  have hsXl := fun g : Later X => (hsX.later g).lt
  simp at hsXc0 hsXc1 hsXc2 hsXc3 hsXc4 hsXc5 hsXc6 hsXc7 hsXc8 hsXc9
  refine Later.tail 13 (by kernel_rfl) (by kernel_rfl) ?_
  simp only [List.take_succ_cons, List.take_zero, List.drop_succ_cons, List.drop_zero]
  repeat (first | go_big_quiet_skip | (go_big_quiet_want; go_big_quiet_op; first | go_big_quiet_on | (apply Exists.intro; refine ⟨fun g_ => ?_, ?_⟩; (focus (first | fail)); go_big_quiet_on)))
  refine wpQuiet_nil ?_
  intro gh
  refine wpList_plain rfl fun K1 hK1 => ?_
  have z1 := hsX.later gh
  have z1c0 := z1.cell 0
  have z1f0 := z1.free 0
  have z1c1 := z1.cell 1
  have z1f1 := z1.free 1
  have z1c2 := z1.cell 2
  have z1f2 := z1.free 2
  have z1c3 := z1.cell 3
  have z1f3 := z1.free 3
  have z1c4 := z1.cell 4
  have z1f4 := z1.free 4
  have z1c5 := z1.cell 5
  have z1f5 := z1.free 5
  have z1c6 := z1.cell 6
  have z1f6 := z1.free 6
  have z1c7 := z1.cell 7
  have z1f7 := z1.free 7
  have z1c8 := z1.cell 8
  have z1f8 := z1.free 8
  have z1c9 := z1.cell 9
  have z1f9 := z1.free 9
  have z1l := z1.lt
  simp at z1c0 z1c1 z1c2 z1c3 z1c4 z1c5 z1c6 z1c7 z1c8 z1c9
  clear r0c0 r0f0 r0c1 r0f1 r0c2 r0f2 r0c3 r0f3 r0l hsXc0 hsXf0 hsXc1 hsXf1 hsXc2 hsXf2 hsXc3 hsXf3 hsXc4 hsXf4 hsXc5 hsXf5 hsXc6 hsXf6 hsXc7 hsXf7 hsXc8 hsXf8 hsXc9 hsXf9 hsXl
  go_wp2
  go_end0
  refine ⟨rfl, ⟨hB, ?_, ?_⟩, ?_⟩
  · exact z1.set 2 _
  · exact (hmX.keep gh.ok).other z1 (by decide) _
  · exact (hbX.trans (gh.ok.mono (by omega))).setCell hB _

theorem f_fill_no1 {B s cp : Nat} {ad : Option Addr} {p : Plant} {w : World} (d : Deed) (h : Shop 25 174 B w s ad cp p) (hp : plantB p = true) (ha : argB p d = false) : Calls Try.prog 107 #[.pointer (some ⟨s, 0, none⟩), .agg #[.int .u8 d.kind, .int .i64 d.cell, .int .i64 d.to, .int .i64 d.n]] w fun e w' => e = .panicked [{ v := refusal 2, recovered := false }] ∧ Kept w w' := by
  have hn12 : p.cells.length ≤ 12 := (plantB_iff.1 hp).1
  have HA := Lib.hid ha
  obtain ⟨hB, hs, hm⟩ := h
  clear ha hp
  go_enter Try.func107, Try.ntmps107
  go_wp2_with (first | (go_at_call 135; (with_reducible refine (f_cell_no s ad cp p d _ (hs.keep (by (exact kpt))) hn12 HA.out).mono ?_); rintro e w1 ⟨rfl, hb1⟩))
  exact ⟨rfl, rfl, by (exact kpt)⟩
theorem f_fill_no2 {B s cp : Nat} {ad : Option Addr} {p : Plant} {w : World} (d : Deed) (h : Shop 25 174 B w s ad cp p) (hp : plantB p = true) (ha : argB p d = true) (ht : p.bottles < d.n) : Calls Try.prog 107 #[.pointer (some ⟨s, 0, none⟩), .agg #[.int .u8 d.kind, .int .i64 d.cell, .int .i64 d.to, .int .i64 d.n]] w fun e w' => e = .panicked [{ v := refusal 6, recovered := false }] ∧ Kept w w' := by
  have hn12 : p.cells.length ≤ 12 := (plantB_iff.1 hp).1
  have hb := plantB_iff.1 hp
  have hi : d.cell.toNat < p.cells.length := by
    have h1 : rng [d.cell] 0 (p.cells.length - 1) = true := by unfold argB at ha; simp only [Bool.and_eq_true] at ha; exact ha.1
    have : 0 ≤ d.cell ∧ d.cell ≤ p.cells.length - 1 := by simpa [rng, inB] using h1
    omega
  have hn : 1 ≤ d.n ∧ d.n ≤ 10000000 := by
    have h1 : rng [d.n] 1 10000000 = true := by unfold argB at ha; simp only [Bool.and_eq_true] at ha; exact ha.2
    simpa [rng, inB] using h1
  have hcv : cellB p.cells[d.cell.toNat] = true := hb.2.2.2.2.2.2.1 _ (List.getElem_mem hi)
  have hat : at_ p d = p.cells[d.cell.toNat] := cellAt_get hi
  have HA := Lib.hid ha
  obtain ⟨hB, hs, hm⟩ := h
  have hBw : B ≤ w.heap.size := by have := hs.lt; omega
  obtain ⟨g, _, rfl, hBg, hbg, _⟩ := hm.at hi
  have hgl := hbg.lt
  clear hbg
  obtain ⟨x, hx⟩ : ∃ x, x = p.cells[d.cell.toNat] := ⟨_, rfl⟩
  have HX := Lib.hid (show p.cells[d.cell.toNat]? = some x by rw [hx]; simp [hi])
  rw [← hx] at hcv hat
  have hxb := cellB_iff.1 hcv
  have HAT := Lib.hid hat
  have HXX := Lib.hid hx
  clear ha hat hx
  have hlt : decide (d.n ≤ p.bottles) = false := by simp; omega
  clear hp hb
  go_enter Try.func107, Try.ntmps107
  go_upto_region 2 with (first | (go_at_call 135; (with_reducible refine (f_cell_ok s g cp p d _ (hs.keep (by (exact kpt))) hn12 HA.out).mono ?_); rintro e w1 ⟨rfl, hb1⟩; refine Blk.thru (b := w.heap.size) (arr := ?_) (t := ?_) ?_ hb1 ?_; rotate_left 2; (focus (exact blk)); intro rr; have rrc0 := rr.cell 0; have rrf0 := rr.free 0; have rrc1 := rr.cell 1; have rrf1 := rr.free 1; have rrc2 := rr.cell 2; have rrf2 := rr.free 2; have rrc3 := rr.cell 3; have rrf3 := rr.free 3; have rrl := rr.lt; simp at rrc0 rrc1 rrc2 rrc3; obtain ⟨hc1, hf1, hl1⟩ := bcell3 hb1))
  refine at_world (S := fun W => Blk W w.heap.size #[.int .u8 d.kind, .int .i64 d.cell, .int .i64 d.to, .int .i64 d.n] 65 ∧ Blk W s #[.slice (some ⟨g, 0, none⟩) p.cells.length cp, .int .i64 (p.bottles), .int .i64 (p.inH), .int .i64 (p.inA), .int .i64 (p.vH), .int .i64 (p.vA), .int .i64 (p.lH), .int .i64 (p.lA), .int .i64 (p.pH), .int .i64 (p.pA)] 174 ∧ Mine 25 B W (.slice (some ⟨g, 0, none⟩) p.cells.length cp) p.cells ∧ Kept w W) ⟨by (exact blkc), hs.keep (by (exact kpt)), hm.keep (by (exact kpt)), by (exact kpt)⟩ ?_
  rintro W ⟨r0, hsW, hmW, hk⟩
  have r0c0 := fun g : Later W => (r0.later g).cell 0
  have r0f0 := fun g : Later W => (r0.later g).free 0
  have r0c1 := fun g : Later W => (r0.later g).cell 1
  have r0f1 := fun g : Later W => (r0.later g).free 1
  have r0c2 := fun g : Later W => (r0.later g).cell 2
  have r0f2 := fun g : Later W => (r0.later g).free 2
  have r0c3 := fun g : Later W => (r0.later g).cell 3
  have r0f3 := fun g : Later W => (r0.later g).free 3
  have r0l := fun g : Later W => (r0.later g).lt
  simp at r0c0 r0c1 r0c2 r0c3
  have hsWc0 := fun g : Later W => (hsW.later g).cell 0
  have hsWf0 := fun g : Later W => (hsW.later g).free 0
  have hsWc1 := fun g : Later W => (hsW.later g).cell 1
  have hsWf1 := fun g : Later W => (hsW.later g).free 1
  have hsWc2 := fun g : Later W => (hsW.later g).cell 2
  have hsWf2 := fun g : Later W => (hsW.later g).free 2
  have hsWc3 := fun g : Later W => (hsW.later g).cell 3
  have hsWf3 := fun g : Later W => (hsW.later g).free 3
  have hsWc4 := fun g : Later W => (hsW.later g).cell 4
  have hsWf4 := fun g : Later W => (hsW.later g).free 4
  have hsWc5 := fun g : Later W => (hsW.later g).cell 5
  have hsWf5 := fun g : Later W => (hsW.later g).free 5
  have hsWc6 := fun g : Later W => (hsW.later g).cell 6
  have hsWf6 := fun g : Later W => (hsW.later g).free 6
  have hsWc7 := fun g : Later W => (hsW.later g).cell 7
  have hsWf7 := fun g : Later W => (hsW.later g).free 7
  have hsWc8 := fun g : Later W => (hsW.later g).cell 8
  have hsWf8 := fun g : Later W => (hsW.later g).free 8
  have hsWc9 := fun g : Later W => (hsW.later g).cell 9
  have hsWf9 := fun g : Later W => (hsW.later g).free 9
  have hsWl := fun g : Later W => (hsW.later g).lt
  simp at hsWc0 hsWc1 hsWc2 hsWc3 hsWc4 hsWc5 hsWc6 hsWc7 hsWc8 hsWc9
  refine Later.tail 8 (by kernel_rfl) (by kernel_rfl) ?_
  simp only [List.take_succ_cons, List.take_zero, List.drop_succ_cons, List.drop_zero]
  repeat (first | go_big_quiet_skip | (go_big_quiet_want; go_big_quiet_op; first | go_big_quiet_on | (apply Exists.intro; refine ⟨fun g_ => ?_, ?_⟩; (focus (first | fail)); go_big_quiet_on)))
  refine wpQuiet_nil ?_
  intro gg
  refine wpList_plain rfl fun K1 hK1 => ?_
  have hkg := Kept.drop hk gg.ok
  go_wp2_with (first | (go_at_call 113; (with_reducible refine (f_need_no _ _).mono ?_); rintro e w1 ⟨rfl, rfl⟩))
  exact ⟨rfl, rfl, hkg⟩
theorem f_fill_ok {B s cp : Nat} {ad : Option Addr} {p : Plant} {w : World} (d : Deed) (h : Shop 25 174 B w s ad cp p) (hp : plantB p = true) (ha : argB p d = true) (ht : d.n ≤ p.bottles) : Calls Try.prog 107 #[.pointer (some ⟨s, 0, none⟩), .agg #[.int .u8 d.kind, .int .i64 d.cell, .int .i64 d.to, .int .i64 d.n]] w fun e w' => e = .returned (.tuple #[]) ∧ Shop 25 174 B w' s ad cp (fillP p d) ∧ Below B w w' := by
  have hn12 : p.cells.length ≤ 12 := (plantB_iff.1 hp).1
  have hb := plantB_iff.1 hp
  have hi : d.cell.toNat < p.cells.length := by
    have h1 : rng [d.cell] 0 (p.cells.length - 1) = true := by unfold argB at ha; simp only [Bool.and_eq_true] at ha; exact ha.1
    have : 0 ≤ d.cell ∧ d.cell ≤ p.cells.length - 1 := by simpa [rng, inB] using h1
    omega
  have hn : 1 ≤ d.n ∧ d.n ≤ 10000000 := by
    have h1 : rng [d.n] 1 10000000 = true := by unfold argB at ha; simp only [Bool.and_eq_true] at ha; exact ha.2
    simpa [rng, inB] using h1
  have hcv : cellB p.cells[d.cell.toNat] = true := hb.2.2.2.2.2.2.1 _ (List.getElem_mem hi)
  have hat : at_ p d = p.cells[d.cell.toNat] := cellAt_get hi
  have HA := Lib.hid ha
  obtain ⟨hB, hs, hm⟩ := h
  have hBw : B ≤ w.heap.size := by have := hs.lt; omega
  obtain ⟨g, _, rfl, hBg, hbg, _⟩ := hm.at hi
  have hgl := hbg.lt
  clear hbg
  obtain ⟨x, hx⟩ : ∃ x, x = p.cells[d.cell.toNat] := ⟨_, rfl⟩
  have HX := Lib.hid (show p.cells[d.cell.toNat]? = some x by rw [hx]; simp [hi])
  rw [← hx] at hcv hat
  have hxb := cellB_iff.1 hcv
  have HAT := Lib.hid hat
  have HXX := Lib.hid hx
  clear ha hat hx
  have hlt : decide (d.n ≤ p.bottles) = true := by simp; omega
  obtain ⟨_, hb1, hb2, _⟩ := hb
  clear hp
  go_enter Try.func107, Try.ntmps107
  go_upto_region 2 with (first | (go_at_call 135; (with_reducible refine (f_cell_ok s g cp p d _ (hs.keep (by (exact kpt))) hn12 HA.out).mono ?_); rintro e w1 ⟨rfl, hb1⟩; refine Blk.thru (b := w.heap.size) (arr := ?_) (t := ?_) ?_ hb1 ?_; rotate_left 2; (focus (exact blk)); intro rr; have rrc0 := rr.cell 0; have rrf0 := rr.free 0; have rrc1 := rr.cell 1; have rrf1 := rr.free 1; have rrc2 := rr.cell 2; have rrf2 := rr.free 2; have rrc3 := rr.cell 3; have rrf3 := rr.free 3; have rrl := rr.lt; simp at rrc0 rrc1 rrc2 rrc3; obtain ⟨hc1, hf1, hl1⟩ := bcell3 hb1))
  refine at_world (S := fun W => Blk W w.heap.size #[.int .u8 d.kind, .int .i64 d.cell, .int .i64 d.to, .int .i64 d.n] 65 ∧ Blk W s #[.slice (some ⟨g, 0, none⟩) p.cells.length cp, .int .i64 (p.bottles), .int .i64 (p.inH), .int .i64 (p.inA), .int .i64 (p.vH), .int .i64 (p.vA), .int .i64 (p.lH), .int .i64 (p.lA), .int .i64 (p.pH), .int .i64 (p.pA)] 174 ∧ Mine 25 B W (.slice (some ⟨g, 0, none⟩) p.cells.length cp) p.cells ∧ Kept w W) ⟨by (exact blkc), hs.keep (by (exact kpt)), hm.keep (by (exact kpt)), by (exact kpt)⟩ ?_
  rintro W ⟨r0, hsW, hmW, hk⟩
  have r0c0 := fun g : Later W => (r0.later g).cell 0
  have r0f0 := fun g : Later W => (r0.later g).free 0
  have r0c1 := fun g : Later W => (r0.later g).cell 1
  have r0f1 := fun g : Later W => (r0.later g).free 1
  have r0c2 := fun g : Later W => (r0.later g).cell 2
  have r0f2 := fun g : Later W => (r0.later g).free 2
  have r0c3 := fun g : Later W => (r0.later g).cell 3
  have r0f3 := fun g : Later W => (r0.later g).free 3
  have r0l := fun g : Later W => (r0.later g).lt
  simp at r0c0 r0c1 r0c2 r0c3
  have hsWc0 := fun g : Later W => (hsW.later g).cell 0
  have hsWf0 := fun g : Later W => (hsW.later g).free 0
  have hsWc1 := fun g : Later W => (hsW.later g).cell 1
  have hsWf1 := fun g : Later W => (hsW.later g).free 1
  have hsWc2 := fun g : Later W => (hsW.later g).cell 2
  have hsWf2 := fun g : Later W => (hsW.later g).free 2
  have hsWc3 := fun g : Later W => (hsW.later g).cell 3
  have hsWf3 := fun g : Later W => (hsW.later g).free 3
  have hsWc4 := fun g : Later W => (hsW.later g).cell 4
  have hsWf4 := fun g : Later W => (hsW.later g).free 4
  have hsWc5 := fun g : Later W => (hsW.later g).cell 5
  have hsWf5 := fun g : Later W => (hsW.later g).free 5
  have hsWc6 := fun g : Later W => (hsW.later g).cell 6
  have hsWf6 := fun g : Later W => (hsW.later g).free 6
  have hsWc7 := fun g : Later W => (hsW.later g).cell 7
  have hsWf7 := fun g : Later W => (hsW.later g).free 7
  have hsWc8 := fun g : Later W => (hsW.later g).cell 8
  have hsWf8 := fun g : Later W => (hsW.later g).free 8
  have hsWc9 := fun g : Later W => (hsW.later g).cell 9
  have hsWf9 := fun g : Later W => (hsW.later g).free 9
  have hsWl := fun g : Later W => (hsW.later g).lt
  simp at hsWc0 hsWc1 hsWc2 hsWc3 hsWc4 hsWc5 hsWc6 hsWc7 hsWc8 hsWc9
  refine Later.tail 8 (by kernel_rfl) (by kernel_rfl) ?_
  simp only [List.take_succ_cons, List.take_zero, List.drop_succ_cons, List.drop_zero]
  repeat (first | go_big_quiet_skip | (go_big_quiet_want; go_big_quiet_op; first | go_big_quiet_on | (apply Exists.intro; refine ⟨fun g_ => ?_, ?_⟩; (focus (first | fail)); go_big_quiet_on)))
  refine wpQuiet_nil ?_
  intro gg
  refine wpList_plain rfl fun K1 hK1 => ?_
  clear r0c0 r0f0 r0c1 r0f1 r0c2 r0f2 r0c3 r0f3 r0l hsWc0 hsWf0 hsWc1 hsWf1 hsWc2 hsWf2 hsWc3 hsWf3 hsWc4 hsWf4 hsWc5 hsWf5 hsWc6 hsWf6 hsWc7 hsWf7 hsWc8 hsWf8 hsWc9 hsWf9 hsWl
  go_wp2_with (first | (go_at_call 113; (with_reducible refine (f_need_ok _ _).mono ?_); rintro e w1 ⟨rfl, rfl⟩))
  refine at_world (S := fun X => Blk X w.heap.size #[.int .u8 d.kind, .int .i64 d.cell, .int .i64 d.to, .int .i64 d.n] 65 ∧ Blk X s #[.slice (some ⟨g, 0, none⟩) p.cells.length cp, .int .i64 (p.bottles), .int .i64 (p.inH), .int .i64 (p.inA), .int .i64 (p.vH), .int .i64 (p.vA), .int .i64 (p.lH), .int .i64 (p.lA), .int .i64 (p.pH), .int .i64 (p.pA)] 174 ∧ Mine 25 B X (.slice (some ⟨g, 0, none⟩) p.cells.length cp) p.cells ∧ Kept w X) ⟨r0.later gg, hsW.later gg, hmW.keep gg.ok, Kept.drop hk gg.ok⟩ ?_
  rintro X ⟨r0, hsX, hmX, hkX⟩
  have r0c0 := fun g : Later X => (r0.later g).cell 0
  have r0f0 := fun g : Later X => (r0.later g).free 0
  have r0c1 := fun g : Later X => (r0.later g).cell 1
  have r0f1 := fun g : Later X => (r0.later g).free 1
  have r0c2 := fun g : Later X => (r0.later g).cell 2
  have r0f2 := fun g : Later X => (r0.later g).free 2
  have r0c3 := fun g : Later X => (r0.later g).cell 3
  have r0f3 := fun g : Later X => (r0.later g).free 3
  have r0l := fun g : Later X => (r0.later g).lt
  simp at r0c0 r0c1 r0c2 r0c3
  have hsXc0 := fun g : Later X => (hsX.later g).cell 0
  have hsXf0 := fun g : Later X => (hsX.later g).free 0
  have hsXc1 := fun g : Later X => (hsX.later g).cell 1
  have hsXf1 := fun g : Later X => (hsX.later g).free 1
  have hsXc2 := fun g : Later X => (hsX.later g).cell 2
  have hsXf2 := fun g : Later X => (hsX.later g).free 2
  have hsXc3 := fun g : Later X => (hsX.later g).cell 3
  have hsXf3 := fun g : Later X => (hsX.later g).free 3
  have hsXc4 := fun g : Later X => (hsX.later g).cell 4
  have hsXf4 := fun g : Later X => (hsX.later g).free 4
  have hsXc5 := fun g : Later X => (hsX.later g).cell 5
  have hsXf5 := fun g : Later X => (hsX.later g).free 5
  have hsXc6 := fun g : Later X => (hsX.later g).cell 6
  have hsXf6 := fun g : Later X => (hsX.later g).free 6
  have hsXc7 := fun g : Later X => (hsX.later g).cell 7
  have hsXf7 := fun g : Later X => (hsX.later g).free 7
  have hsXc8 := fun g : Later X => (hsX.later g).cell 8
  have hsXf8 := fun g : Later X => (hsX.later g).free 8
  have hsXc9 := fun g : Later X => (hsX.later g).cell 9
  have hsXf9 := fun g : Later X => (hsX.later g).free 9
  have hsXl := fun g : Later X => (hsX.later g).lt
  simp at hsXc0 hsXc1 hsXc2 hsXc3 hsXc4 hsXc5 hsXc6 hsXc7 hsXc8 hsXc9
  refine Later.tail 11 (by kernel_rfl) (by kernel_rfl) ?_
  simp only [List.take_succ_cons, List.take_zero, List.drop_succ_cons, List.drop_zero]
  repeat (first | go_big_quiet_skip | (go_big_quiet_want; go_big_quiet_op; first | go_big_quiet_on | (apply Exists.intro; refine ⟨fun g_ => ?_, ?_⟩; (focus (first | fail)); go_big_quiet_on)))
  refine wpQuiet_nil ?_
  intro gh
  refine wpList_plain rfl fun K1 hK1 => ?_
  have q0 := r0.later gh
  have q1 := hsX.later gh
  clear r0c0 r0f0 r0c1 r0f1 r0c2 r0f2 r0c3 r0f3 r0l hsXc0 hsXf0 hsXc1 hsXf1 hsXc2 hsXf2 hsXc3 hsXf3 hsXc4 hsXf4 hsXc5 hsXf5 hsXc6 hsXf6 hsXc7 hsXf7 hsXc8 hsXf8 hsXc9 hsXf9 hsXl
  have q0c0 := q0.cell 0
  have q0f0 := q0.free 0
  have q0c1 := q0.cell 1
  have q0f1 := q0.free 1
  have q0c2 := q0.cell 2
  have q0f2 := q0.free 2
  have q0c3 := q0.cell 3
  have q0f3 := q0.free 3
  have q0l := q0.lt
  simp at q0c0 q0c1 q0c2 q0c3
  have q1c0 := q1.cell 0
  have q1f0 := q1.free 0
  have q1c1 := q1.cell 1
  have q1f1 := q1.free 1
  have q1c2 := q1.cell 2
  have q1f2 := q1.free 2
  have q1c3 := q1.cell 3
  have q1f3 := q1.free 3
  have q1c4 := q1.cell 4
  have q1f4 := q1.free 4
  have q1c5 := q1.cell 5
  have q1f5 := q1.free 5
  have q1c6 := q1.cell 6
  have q1f6 := q1.free 6
  have q1c7 := q1.cell 7
  have q1f7 := q1.free 7
  have q1c8 := q1.cell 8
  have q1f8 := q1.free 8
  have q1c9 := q1.cell 9
  have q1f9 := q1.free 9
  have q1l := q1.lt
  simp at q1c0 q1c1 q1c2 q1c3 q1c4 q1c5 q1c6 q1c7 q1c8 q1c9
  go_wp2
  refine at_world (S := fun Y => Blk Y w.heap.size #[.int .u8 d.kind, .int .i64 d.cell, .int .i64 d.to, .int .i64 d.n] 65 ∧ Blk Y s #[.slice (some ⟨g, 0, none⟩) p.cells.length cp, .int .i64 (p.bottles - d.n), .int .i64 (p.inH), .int .i64 (p.inA), .int .i64 (p.vH), .int .i64 (p.vA), .int .i64 (p.lH), .int .i64 (p.lA), .int .i64 (p.pH), .int .i64 (p.pA)] 174 ∧ Mine 25 B Y (.slice (some ⟨g, 0, none⟩) p.cells.length cp) p.cells ∧ Below B w Y ∧ w.heap.size ≤ Y.heap.size) ⟨by (exact blkc), q1.set 1 _, (hmX.keep gh.ok).other q1 (by decide) _, ((hkX.mono hBw).trans (gh.ok.mono (by have := hkX.size; omega))).setCell hB _, Nat.le_trans hkX.size (Nat.le_trans gh.ok.size (by simp))⟩ ?_
  rintro Y ⟨r0, hsY, hmY, hbY, hzY⟩
  clear q0c0 q0f0 q0c1 q0f1 q0c2 q0f2 q0c3 q0f3 q0l q1c0 q1f0 q1c1 q1f1 q1c2 q1f2 q1c3 q1f3 q1c4 q1f4 q1c5 q1f5 q1c6 q1f6 q1c7 q1f7 q1c8 q1f8 q1c9 q1f9 q1l q0 q1
  obtain ⟨_, cur, hge, _, hcur, c0, c1, c2, c3, c4, c5, c6⟩ := hmY.at hi
  cases hge
  rw [← HXX.out] at c0 c1 c2 c3 c4 c5 c6
  have r0c0 := fun g : Later Y => (r0.later g).cell 0
  have r0f0 := fun g : Later Y => (r0.later g).free 0
  have r0c1 := fun g : Later Y => (r0.later g).cell 1
  have r0f1 := fun g : Later Y => (r0.later g).free 1
  have r0c2 := fun g : Later Y => (r0.later g).cell 2
  have r0f2 := fun g : Later Y => (r0.later g).free 2
  have r0c3 := fun g : Later Y => (r0.later g).cell 3
  have r0f3 := fun g : Later Y => (r0.later g).free 3
  have r0l := fun g : Later Y => (r0.later g).lt
  simp at r0c0 r0c1 r0c2 r0c3
  have y1 := fun q : Later Y => q.some c1
  clear c0 c2 c3 c4 c5 c6
  refine Later.tail 9 (by kernel_rfl) (by kernel_rfl) ?_
  simp only [List.take_succ_cons, List.take_zero, List.drop_succ_cons, List.drop_zero]
  repeat (first | go_big_quiet_skip | (go_big_quiet_want; go_big_quiet_op; first | go_big_quiet_on | (apply Exists.intro; refine ⟨fun g_ => ?_, ?_⟩; (focus (first | fail)); go_big_quiet_on)))
  refine wpQuiet_nil ?_
  intro gi
  refine wpList_plain rfl fun K1 hK1 => ?_
  have z1 := y1 gi
  have hcg := hcur.later gi
  have zf := hcg.free (d.cell.toNat * 7 + 1)
  clear r0c0 r0f0 r0c1 r0f1 r0c2 r0f2 r0c3 r0f3 r0l
  go_wp2
  go_end0
  refine ⟨rfl, ⟨hB, ?_, ?_⟩, ?_⟩
  · have z2 := (hsY.later gi).other (a := ⟨g, d.cell.toNat * 7 + 1, none⟩) (fun he => by
      simp only at he; subst he; have := (hsY.later gi).symm.trans hcg; simp at this) (.int .i64 (x.helium + d.n))
    exact z2.cast (by simp [plantCells, fillP])
  · have := (hmY.keep gi.ok).put (i := d.cell.toNat) (j := 1) (c := x) (u := .int .i64 (x.helium + d.n)) { x with helium := x.helium + d.n } HX.out (by decide) rfl
    simpa [fillP, HAT.out] using this
  · exact (hbY.trans (gi.ok.mono (by omega))).setCell hBg _

theorem f_breathe_no {B s cp : Nat} {ad : Option Addr} {p : Plant} {w : World} (d : Deed) (h : Shop 25 174 B w s ad cp p) (hp : plantB p = true) (ha : argB p d = false) : Calls Try.prog 111 #[.pointer (some ⟨s, 0, none⟩), .agg #[.int .u8 d.kind, .int .i64 d.cell, .int .i64 d.to, .int .i64 d.n]] w fun e w' => e = .panicked [{ v := refusal 2, recovered := false }] ∧ Kept w w' := by
  have hn12 : p.cells.length ≤ 12 := (plantB_iff.1 hp).1
  have HA := Lib.hid ha
  obtain ⟨hB, hs, hm⟩ := h
  clear ha hp
  go_enter Try.func111, Try.ntmps111
  go_upto_region 1 with fail
  refine at_world (S := fun W => Blk W w.heap.size #[.int .u8 d.kind, .int .i64 d.cell, .int .i64 d.to, .int .i64 d.n] 65 ∧ Blk W s #[.slice ad p.cells.length cp, .int .i64 (p.bottles), .int .i64 (p.inH), .int .i64 (p.inA), .int .i64 (p.vH), .int .i64 (p.vA), .int .i64 (p.lH), .int .i64 (p.lA), .int .i64 (p.pH), .int .i64 (p.pA)] 174 ∧ Kept w W) ⟨by (exact blkc), hs.keep (by (exact kpt)), by (exact kpt)⟩ ?_
  rintro W ⟨r0, hsW, hk⟩
  have r0c0 := fun g : Later W => (r0.later g).cell 0
  have r0f0 := fun g : Later W => (r0.later g).free 0
  have r0c1 := fun g : Later W => (r0.later g).cell 1
  have r0f1 := fun g : Later W => (r0.later g).free 1
  have r0c2 := fun g : Later W => (r0.later g).cell 2
  have r0f2 := fun g : Later W => (r0.later g).free 2
  have r0c3 := fun g : Later W => (r0.later g).cell 3
  have r0f3 := fun g : Later W => (r0.later g).free 3
  have r0l := fun g : Later W => (r0.later g).lt
  simp at r0c0 r0c1 r0c2 r0c3
  have hsWc0 := fun g : Later W => (hsW.later g).cell 0
  have hsWf0 := fun g : Later W => (hsW.later g).free 0
  have hsWc1 := fun g : Later W => (hsW.later g).cell 1
  have hsWf1 := fun g : Later W => (hsW.later g).free 1
  have hsWc2 := fun g : Later W => (hsW.later g).cell 2
  have hsWf2 := fun g : Later W => (hsW.later g).free 2
  have hsWc3 := fun g : Later W => (hsW.later g).cell 3
  have hsWf3 := fun g : Later W => (hsW.later g).free 3
  have hsWc4 := fun g : Later W => (hsW.later g).cell 4
  have hsWf4 := fun g : Later W => (hsW.later g).free 4
  have hsWc5 := fun g : Later W => (hsW.later g).cell 5
  have hsWf5 := fun g : Later W => (hsW.later g).free 5
  have hsWc6 := fun g : Later W => (hsW.later g).cell 6
  have hsWf6 := fun g : Later W => (hsW.later g).free 6
  have hsWc7 := fun g : Later W => (hsW.later g).cell 7
  have hsWf7 := fun g : Later W => (hsW.later g).free 7
  have hsWc8 := fun g : Later W => (hsW.later g).cell 8
  have hsWf8 := fun g : Later W => (hsW.later g).free 8
  have hsWc9 := fun g : Later W => (hsW.later g).cell 9
  have hsWf9 := fun g : Later W => (hsW.later g).free 9
  have hsWl := fun g : Later W => (hsW.later g).lt
  simp at hsWc0 hsWc1 hsWc2 hsWc3 hsWc4 hsWc5 hsWc6 hsWc7 hsWc8 hsWc9
  refine later_dies [0, 1, 6, 7] 2 none (by kernel_rfl) (by kernel_rfl) (fun c a d v w h => by cases d <;> exact h) trivial ?_
  simp only [List.filterMap_cons, List.filterMap_nil, List.getElem?_cons_zero, List.getElem?_cons_succ, List.map_cons, List.map_nil]
  repeat (refine wpSteps_quiet ?_; (first | go_big_quiet_skip | (go_big_quiet_want; go_big_quiet_op; first | go_big_quiet_on | (apply Exists.intro; refine ⟨fun g => ?_, ?_⟩; (focus (first | fail)); go_big_quiet_on))); refine wpQuiet_nil ?_)
  refine wpSteps_nil ?_
  refine ⟨DiesAt.of rfl rfl (fun w' hw' => ?_), fun _ _ h => by cases h⟩
  obtain ⟨gg, rfl⟩ := hw'
  simp only [Go.wp_at_succ, Go.wp_at_zero]
  go_simp
  (with_reducible refine (f_cell_no s ad cp p d _ (hsW.later gg) hn12 HA.out).mono ?_)
  rintro e w1 ⟨rfl, hb1⟩
  have hkg := Kept.drop hk gg.ok
  exact ⟨rfl, rfl, by (exact kpt)⟩
theorem f_breathe_ok {B s cp : Nat} {ad : Option Addr} {p : Plant} {w : World} (d : Deed) (h : Shop 25 174 B w s ad cp p) (hp : plantB p = true) (ha : argB p d = true) : Calls Try.prog 111 #[.pointer (some ⟨s, 0, none⟩), .agg #[.int .u8 d.kind, .int .i64 d.cell, .int .i64 d.to, .int .i64 d.n]] w fun e w' => e = .returned (.tuple #[]) ∧ Shop 25 174 B w' s ad cp (breatheP p d) ∧ Below B w w' := by
  have hn12 : p.cells.length ≤ 12 := (plantB_iff.1 hp).1
  have hb := plantB_iff.1 hp
  have hi : d.cell.toNat < p.cells.length := by
    have h1 : rng [d.cell] 0 (p.cells.length - 1) = true := by unfold argB at ha; simp only [Bool.and_eq_true] at ha; exact ha.1
    have : 0 ≤ d.cell ∧ d.cell ≤ p.cells.length - 1 := by simpa [rng, inB] using h1
    omega
  have hn : 1 ≤ d.n ∧ d.n ≤ 10000000 := by
    have h1 : rng [d.n] 1 10000000 = true := by unfold argB at ha; simp only [Bool.and_eq_true] at ha; exact ha.2
    simpa [rng, inB] using h1
  have hcv : cellB p.cells[d.cell.toNat] = true := hb.2.2.2.2.2.2.1 _ (List.getElem_mem hi)
  have hat : at_ p d = p.cells[d.cell.toNat] := cellAt_get hi
  have HA := Lib.hid ha
  obtain ⟨hB, hs, hm⟩ := h
  have hBw : B ≤ w.heap.size := by have := hs.lt; omega
  obtain ⟨g, _, rfl, hBg, hbg, _⟩ := hm.at hi
  have hgl := hbg.lt
  clear hbg
  obtain ⟨x, hx⟩ : ∃ x, x = p.cells[d.cell.toNat] := ⟨_, rfl⟩
  have HX := Lib.hid (show p.cells[d.cell.toNat]? = some x by rw [hx]; simp [hi])
  rw [← hx] at hcv hat
  have hxb := cellB_iff.1 hcv
  have HAT := Lib.hid hat
  have HXX := Lib.hid hx
  clear ha hat hx
  obtain ⟨_, _, ⟨_, hb1, hb2⟩, _⟩ := hb
  clear hp
  go_enter Try.func111, Try.ntmps111
  go_upto_region 1 with fail
  refine at_world (S := fun W => Blk W w.heap.size #[.int .u8 d.kind, .int .i64 d.cell, .int .i64 d.to, .int .i64 d.n] 65 ∧ Blk W s #[.slice (some ⟨g, 0, none⟩) p.cells.length cp, .int .i64 (p.bottles), .int .i64 (p.inH), .int .i64 (p.inA), .int .i64 (p.vH), .int .i64 (p.vA), .int .i64 (p.lH), .int .i64 (p.lA), .int .i64 (p.pH), .int .i64 (p.pA)] 174 ∧ Mine 25 B W (.slice (some ⟨g, 0, none⟩) p.cells.length cp) p.cells ∧ Kept w W) ⟨by (exact blkc), hs.keep (by (exact kpt)), hm.keep (by (exact kpt)), by (exact kpt)⟩ ?_
  rintro W ⟨r0, hsW, hmW, hk⟩
  have r0c0 := fun g : Later W => (r0.later g).cell 0
  have r0f0 := fun g : Later W => (r0.later g).free 0
  have r0c1 := fun g : Later W => (r0.later g).cell 1
  have r0f1 := fun g : Later W => (r0.later g).free 1
  have r0c2 := fun g : Later W => (r0.later g).cell 2
  have r0f2 := fun g : Later W => (r0.later g).free 2
  have r0c3 := fun g : Later W => (r0.later g).cell 3
  have r0f3 := fun g : Later W => (r0.later g).free 3
  have r0l := fun g : Later W => (r0.later g).lt
  simp at r0c0 r0c1 r0c2 r0c3
  have hsWc0 := fun g : Later W => (hsW.later g).cell 0
  have hsWf0 := fun g : Later W => (hsW.later g).free 0
  have hsWc1 := fun g : Later W => (hsW.later g).cell 1
  have hsWf1 := fun g : Later W => (hsW.later g).free 1
  have hsWc2 := fun g : Later W => (hsW.later g).cell 2
  have hsWf2 := fun g : Later W => (hsW.later g).free 2
  have hsWc3 := fun g : Later W => (hsW.later g).cell 3
  have hsWf3 := fun g : Later W => (hsW.later g).free 3
  have hsWc4 := fun g : Later W => (hsW.later g).cell 4
  have hsWf4 := fun g : Later W => (hsW.later g).free 4
  have hsWc5 := fun g : Later W => (hsW.later g).cell 5
  have hsWf5 := fun g : Later W => (hsW.later g).free 5
  have hsWc6 := fun g : Later W => (hsW.later g).cell 6
  have hsWf6 := fun g : Later W => (hsW.later g).free 6
  have hsWc7 := fun g : Later W => (hsW.later g).cell 7
  have hsWf7 := fun g : Later W => (hsW.later g).free 7
  have hsWc8 := fun g : Later W => (hsW.later g).cell 8
  have hsWf8 := fun g : Later W => (hsW.later g).free 8
  have hsWc9 := fun g : Later W => (hsW.later g).cell 9
  have hsWf9 := fun g : Later W => (hsW.later g).free 9
  have hsWl := fun g : Later W => (hsW.later g).lt
  simp at hsWc0 hsWc1 hsWc2 hsWc3 hsWc4 hsWc5 hsWc6 hsWc7 hsWc8 hsWc9
  obtain ⟨_, cur, hge, _, hcur, c0, c1, c2, c3, c4, c5, c6⟩ := hmW.at hi
  cases hge
  rw [← HXX.out] at c0 c1 c2 c3 c4 c5 c6
  have y1 := fun q : Later W => q.some c2
  clear c0 c1 c3 c4 c5 c6
  refine Later.tail 11 (by kernel_rfl) (by kernel_rfl) ?_
  simp only [List.take_succ_cons, List.take_zero, List.drop_succ_cons, List.drop_zero]
  repeat (first | go_big_quiet_skip | (go_big_quiet_want; go_big_quiet_op; first | go_big_quiet_on | (apply Exists.intro; refine ⟨fun g_ => ?_, ?_⟩; (focus (first | (go_at_call 135; exact Later.call (f_cell_ok s g cp p d _ (hsW.later g_) hn12 HA.out)))); go_big_quiet_on)))
  refine wpQuiet_nil ?_
  intro gg
  refine wpList_plain rfl fun K1 hK1 => ?_
  have z1 := y1 gg
  have hcg := hcur.later gg
  have zf := hcg.free (d.cell.toNat * 7 + 2)
  clear r0c0 r0f0 r0c1 r0f1 r0c2 r0f2 r0c3 r0f3 r0l hsWc0 hsWf0 hsWc1 hsWf1 hsWc2 hsWf2 hsWc3 hsWf3 hsWc4 hsWf4 hsWc5 hsWf5 hsWc6 hsWf6 hsWc7 hsWf7 hsWc8 hsWf8 hsWc9 hsWf9 hsWl
  go_wp2
  refine at_world (S := fun X => Blk X w.heap.size #[.int .u8 d.kind, .int .i64 d.cell, .int .i64 d.to, .int .i64 d.n] 65 ∧ Blk X s #[.slice (some ⟨g, 0, none⟩) p.cells.length cp, .int .i64 (p.bottles), .int .i64 (p.inH), .int .i64 (p.inA), .int .i64 (p.vH), .int .i64 (p.vA), .int .i64 (p.lH), .int .i64 (p.lA), .int .i64 (p.pH), .int .i64 (p.pA)] 174 ∧ Mine 25 B X (.slice (some ⟨g, 0, none⟩) p.cells.length cp) (p.cells.set d.cell.toNat { x with air := x.air + d.n }) ∧ Below B w X ∧ w.heap.size ≤ X.heap.size) ⟨(r0.later gg).other (a := ⟨g, d.cell.toNat * 7 + 2, none⟩) (by simp; omega) _, (hsW.later gg).other (a := ⟨g, d.cell.toNat * 7 + 2, none⟩) (fun he => by simp only at he; subst he; have := (hsW.later gg).symm.trans hcg; simp at this) _, (hmW.keep gg.ok).put (i := d.cell.toNat) (j := 2) (c := x) (u := .int .i64 (x.air + d.n)) { x with air := x.air + d.n } HX.out (by decide) rfl, ((hk.mono hBw).trans (gg.ok.mono (by have := hk.size; omega))).setCell hBg _, Nat.le_trans hk.size (Nat.le_trans gg.ok.size (by simp))⟩ ?_
  rintro X ⟨r0, hsX, hmX, hbX, hzX⟩
  have r0c0 := fun g : Later X => (r0.later g).cell 0
  have r0f0 := fun g : Later X => (r0.later g).free 0
  have r0c1 := fun g : Later X => (r0.later g).cell 1
  have r0f1 := fun g : Later X => (r0.later g).free 1
  have r0c2 := fun g : Later X => (r0.later g).cell 2
  have r0f2 := fun g : Later X => (r0.later g).free 2
  have r0c3 := fun g : Later X => (r0.later g).cell 3
  have r0f3 := fun g : Later X => (r0.later g).free 3
  have r0l := fun g : Later X => (r0.later g).lt
  simp at r0c0 r0c1 r0c2 r0c3
  have hsXc0 := fun g : Later X => (hsX.later g).cell 0
  have hsXf0 := fun g : Later X => (hsX.later g).free 0
  have hsXc1 := fun g : Later X => (hsX.later g).cell 1
  have hsXf1 := fun g : Later X => (hsX.later g).free 1
  have hsXc2 := fun g : Later X => (hsX.later g).cell 2
  have hsXf2 := fun g : Later X => (hsX.later g).free 2
  have hsXc3 := fun g : Later X => (hsX.later g).cell 3
  have hsXf3 := fun g : Later X => (hsX.later g).free 3
  have hsXc4 := fun g : Later X => (hsX.later g).cell 4
  have hsXf4 := fun g : Later X => (hsX.later g).free 4
  have hsXc5 := fun g : Later X => (hsX.later g).cell 5
  have hsXf5 := fun g : Later X => (hsX.later g).free 5
  have hsXc6 := fun g : Later X => (hsX.later g).cell 6
  have hsXf6 := fun g : Later X => (hsX.later g).free 6
  have hsXc7 := fun g : Later X => (hsX.later g).cell 7
  have hsXf7 := fun g : Later X => (hsX.later g).free 7
  have hsXc8 := fun g : Later X => (hsX.later g).cell 8
  have hsXf8 := fun g : Later X => (hsX.later g).free 8
  have hsXc9 := fun g : Later X => (hsX.later g).cell 9
  have hsXf9 := fun g : Later X => (hsX.later g).free 9
  have hsXl := fun g : Later X => (hsX.later g).lt
  simp at hsXc0 hsXc1 hsXc2 hsXc3 hsXc4 hsXc5 hsXc6 hsXc7 hsXc8 hsXc9
  refine Later.tail 13 (by kernel_rfl) (by kernel_rfl) ?_
  simp only [List.take_succ_cons, List.take_zero, List.drop_succ_cons, List.drop_zero]
  repeat (first | go_big_quiet_skip | (go_big_quiet_want; go_big_quiet_op; first | go_big_quiet_on | (apply Exists.intro; refine ⟨fun g_ => ?_, ?_⟩; (focus (first | fail)); go_big_quiet_on)))
  refine wpQuiet_nil ?_
  intro gh
  refine wpList_plain rfl fun K1 hK1 => ?_
  have q1 := hsX.later gh
  clear r0c0 r0f0 r0c1 r0f1 r0c2 r0f2 r0c3 r0f3 r0l hsXc0 hsXf0 hsXc1 hsXf1 hsXc2 hsXf2 hsXc3 hsXf3 hsXc4 hsXf4 hsXc5 hsXf5 hsXc6 hsXf6 hsXc7 hsXf7 hsXc8 hsXf8 hsXc9 hsXf9 hsXl
  have q1c0 := q1.cell 0
  have q1f0 := q1.free 0
  have q1c1 := q1.cell 1
  have q1f1 := q1.free 1
  have q1c2 := q1.cell 2
  have q1f2 := q1.free 2
  have q1c3 := q1.cell 3
  have q1f3 := q1.free 3
  have q1c4 := q1.cell 4
  have q1f4 := q1.free 4
  have q1c5 := q1.cell 5
  have q1f5 := q1.free 5
  have q1c6 := q1.cell 6
  have q1f6 := q1.free 6
  have q1c7 := q1.cell 7
  have q1f7 := q1.free 7
  have q1c8 := q1.cell 8
  have q1f8 := q1.free 8
  have q1c9 := q1.cell 9
  have q1f9 := q1.free 9
  have q1l := q1.lt
  simp at q1c0 q1c1 q1c2 q1c3 q1c4 q1c5 q1c6 q1c7 q1c8 q1c9
  go_wp2
  go_end0
  refine ⟨rfl, ⟨hB, ?_, ?_⟩, ?_⟩
  · exact (q1.set 3 (.int .i64 (p.inA + d.n))).cast (by simp [plantCells, breatheP])
  · have := (hmX.keep gh.ok).other q1 (by decide) (o := 3) (.int .i64 (p.inA + d.n))
    simpa [breatheP, HAT.out] using this
  · exact (hbX.trans (gh.ok.mono (by omega))).setCell hB _

end Go.Proofs.Ytemafanncejeiaa

/-
  A region that draws its order, walked once: loads (of cells that the region leaves alone till they are read) and operations that need no world are taken first; what is then left comes up one at a time: a call, a block that is made, a store; it may panic. No program in sight.
-/
namespace Bal
open Go Go.RowKit

section
variable {P : Program} {ops : Array Oper} {md : Region.Mode} {S : World → Prop} {Q : Exit → Act → World → Prop}

/-- what a walk goes on with behind one operation -/
def onward (K : Act → World → Prop) (Q : Exit → Act → World → Prop) : Exit → Act → World → Prop
  | .normal, a, w => K a w
  | .exit i, a, w => Q (.exit i) a w
  | .goto l, a, w => Q (.goto l) a w
  | .ret, a, w => Q .ret a w
  | .panic c, a, w => Q (.panic c) a w
  | .outgrown, a, w => Q .outgrown a w
theorem onward_on {K : Act → World → Prop} {a : Act} {w : World} (h : K a w) : onward K Q .normal a w := h
theorem onward_panic {K : Act → World → Prop} {c : List PanicEntry} {a : Act} {w : World} (h : Q (.panic c) a w) : onward K Q (.panic c) a w := h

theorem wpOp_onward {i : Nat} {a : Act} {w : World} {K : Act → World → Prop} (h : wpOp P ops (onward K Q) i K a w) : wpOp P ops Q i K a w := by
  unfold wpOp at *
  split
  · simpa [*] using h
  · rename_i o ho
    simp only [ho] at h
    split
    · rename_i hw
      simp only [hw, if_true] at h
      rcases h with h | ⟨h1, h2⟩
      · refine .inl ?_
        unfold Oper.wp at *
        generalize (execOp a.eval o).run P w = r at *
        cases r with
        | ok n w' =>
          cases n <;> simp only [Oper.upon] at h ⊢
          case enter f args =>
            refine Calls.mono h fun e w'' he => ?_
            cases e with
            | returned u => exact he
            | panicked c => exact he
            | outgrown => exact he
          all_goals exact h
        | halt x w' =>
          cases x <;> simp only [Oper.upon] at h ⊢
          case panic u => exact h
      · exact .inr ⟨h1, h2⟩
    · rename_i hw
      simp only [hw] at h
      exact h

/-- whatever order is picked from here on, and S holds behind every operation but number n -/
def wpAnyE (P : Program) (md : Region.Mode) (ops : Array Oper) (Q : Exit → Act → World → Prop) (S : World → Prop) (n : Nat) : Nat → Array Bool → Act → World → Prop
  | 0, listed, a, w => Region.ready md ops listed = [] ∧ Q .normal a w
  | f + 1, listed, a, w =>
    (Region.ready md ops listed = [] → Q .normal a w) ∧
    ∀ i ∈ Region.ready md ops listed, wpOp P ops Q i (fun a' w' => (i = n ∨ S w') ∧ wpAnyE P md ops Q S n f (listed.setIfInBounds i true) a' w') a w

theorem wpAny_of_E {n : Nat} : ∀ (f : Nat) (listed : Array Bool) (a : Act) (w : World), wpAnyE P md ops Q S n f listed a w → wpAny P md ops Q f listed a w
  | 0, _, _, _, h => h
  | f + 1, _, _, _, h => ⟨h.1, fun i hi => wpOp_mono (fun a' w' h' => wpAny_of_E f _ a' w' h'.2) (h.2 i hi)⟩

/-- number n, if there is one, waits for all others -/
structure LastOk (md : Region.Mode) (ops : Array Oper) (n : Nat) : Prop where
  sink : n < ops.size → Region.sinkB md ops n = true
  chain : n < ops.size → Region.chainB md ops n = true
  last : n < ops.size → n + 1 = ops.size
def LastInv (md : Region.Mode) (ops : Array Oper) (n : Nat) (listed : Array Bool) : Prop := n < ops.size → HeadInv md ops n listed

theorem LastInv.set {n i : Nat} {listed : Array Bool} (hl : LastOk md ops n) (inv : LastInv md ops n listed) (hi : i ∈ Region.ready md ops listed) (hin : i ≠ n) : LastInv md ops n (listed.setIfInBounds i true) := fun hn =>
  (inv hn).set hi (by
    obtain ⟨_, o, ho, _⟩ := mem_ready.1 hi
    have := (Array.getElem?_eq_some_iff.1 ho).1
    have := hl.last hn
    omega)
/-- beside another one that may come up, n may not -/
theorem LastInv.other {n i j : Nat} {listed : Array Bool} (hl : LastOk md ops n) (inv : LastInv md ops n listed) (hi : i ∈ Region.ready md ops listed) (hin : i ≠ n) (hj : j ∈ Region.ready md ops listed) : j ≠ n := by
  rintro rfl
  obtain ⟨_, o, ho, _⟩ := mem_ready.1 hj
  have hn := (Array.getElem?_eq_some_iff.1 ho).1
  obtain ⟨hun, oi, hoi, _⟩ := mem_ready.1 hi
  have h1 := (Array.getElem?_eq_some_iff.1 hoi).1
  have h2 := hl.last hn
  exact tail_waits (hl.sink hn) (hl.chain hn) hn (inv hn) _ i rfl (by omega) hun j (Nat.le_refl _) hj

theorem wpAnyE_first {n i : Nat} {oi : Oper} {v : Value} (hl : LastOk md ops n) (hin : i ≠ n) (hi : ops[i]? = some oi) (hsel : ∀ (j : Nat) (o : Oper) cs b, ops[j]? = some o → o.op ≠ .select cs b)
    (hQ : ∀ c a w, Q (.panic c) (a.put oi.dst v) w → Q (.panic c) a w) :
    ∀ (f : Nat) (listed : Array Bool) (a : Act) (w : World), LastInv md ops n listed →
      (∀ j oj, ops[j]? = some oj → j ≠ i → listed.getD j true = false → (∀ e ∈ oj.after, Region.binds md e = true → e.on ≠ i) → oi.apart ops oj = true) →
      i ∈ Region.ready md ops listed → YieldsIf P ops S oi v a → S w →
      wpAnyE P md ops Q S n f (listed.setIfInBounds i true) (a.put oi.dst v) w → wpAnyE P md ops Q S n (f + 1) listed a w := by
  intro f
  induction f with
  | zero =>
    intro listed a w inv _ hr hy hS H
    refine ⟨fun h => (by rw [h] at hr; cases hr), fun j hj => ?_⟩
    by_cases hji : j = i
    · subst hji; exact hy.wpOp hi hS ⟨.inr hS, H⟩
    · have := ready_mono hj hji
      rw [H.1] at this
      cases this
  | succ f ih =>
    intro listed a w inv hfree hr hy hS H
    refine ⟨fun h => (by rw [h] at hr; cases hr), fun j hj => ?_⟩
    by_cases hji : j = i
    · subst hji; exact hy.wpOp hi hS ⟨.inr hS, H⟩
    · have hjn := inv.other hl hr hin hj
      have h1 := H.2 j (ready_mono hj hji)
      obtain ⟨hjun, oj, hoj, hall⟩ := mem_ready.1 hj
      have hnot : ∀ e ∈ oj.after, Region.binds md e = true → e.on ≠ i := fun e he hb heq => by
        have h1 := hall e he hb
        rw [heq, getD_both (mem_ready.1 hr).1] at h1
        cases h1
      have h2 := wpOp_putIf hoj (hfree j oj hoj hji hjun hnot) (fun cs b => hsel i oi cs b hi) (fun cs b => hsel j oj cs b hoj) hQ hy h1
      have hfree' : ∀ k ok, ops[k]? = some ok → k ≠ i → (listed.setIfInBounds j true).getD k true = false →
          (∀ e ∈ ok.after, Region.binds md e = true → e.on ≠ i) → oi.apart ops ok = true := fun k ok hk hki hun hno => by
        refine hfree k ok hk hki ?_ hno
        by_cases hjk : j = k
        · subst hjk; exact hjun
        · rw [getD_set_ne true hjk] at hun; exact hun
      refine wpOp_mono (fun a' w' h3 => ?_) h2
      have hS' : S w' := h3.2.1.resolve_left hjn
      refine ⟨.inr hS', ih (listed.setIfInBounds j true) a' w' (inv.set hl hj hjn) hfree' (ready_mono hr (Ne.symm hji)) h3.1 hS' ?_⟩
      rw [Array.setIfInBounds_comm _ _ hji]
      exact h3.2.2

/-- THE WALK: 'true' at an operation that yields in every world that meets S; the others come up one at a time -/
def Held (P : Program) (ops : Array Oper) (Q : Exit → Act → World → Prop) (S : World → Prop) : List (Bool × Oper) → Act → World → Prop
  | [], a, w => Q .normal a w
  | (true, o) :: r, a, w => ∃ v, YieldsIf P ops S o v a ∧ Held P ops Q S r (a.put o.dst v) w
  | (false, o) :: r, a, w => wpList P ops (onward (fun a' w' => (r = [] ∨ S w') ∧ Held P ops Q S r a' w') Q) [o] a w
def heldB (md : Region.Mode) (ops : Array Oper) (n : Nat) : List (Bool × Nat) → Array Bool → Bool
  | [], listed => (Region.ready md ops listed).isEmpty
  | (true, i) :: r, listed => (Region.ready md ops listed).contains i && Region.free md ops listed i && decide (i ≠ n) && heldB md ops n r (listed.setIfInBounds i true)
  | (false, i) :: r, listed => decide (Region.ready md ops listed = [i]) && (decide (i = n) == r.isEmpty) && heldB md ops n r (listed.setIfInBounds i true)

theorem wpAnyE_of_held {n : Nat} (hl : LastOk md ops n) (hsel : Region.noSelect ops = true) (hQ : ∀ c a d v w, Q (.panic c) (Act.put a d v) w → Q (.panic c) a w) :
    ∀ (is : List (Bool × Nat)) (l : List (Bool × Oper)) (listed : Array Bool) (a : Act) (w : World), is.map (fun x => (x.1, ops[x.2]?)) = l.map (fun x => (x.1, some x.2)) → LastInv md ops n listed ∨ is = [] → heldB md ops n is listed = true →
    (is = [] ∨ S w) → Held P ops Q S l a w → wpAnyE P md ops Q S n l.length listed a w
  | [], [], listed, a, w, _, _, hB, _, h => ⟨by simpa [heldB] using hB, h⟩
  | [], _ :: _, _, _, _, hm, _, _, _, _ => by simp at hm
  | _ :: _, [], _, _, _, hm, _, _, _, _ => by simp at hm
  | (true, i) :: is, (b, o) :: l, listed, a, w, hm, inv, hB, hS, h => by
    simp only [List.map_cons, List.cons.injEq, Prod.mk.injEq] at hm
    obtain ⟨⟨rfl, h0⟩, hm'⟩ := hm
    simp only [heldB, Bool.and_eq_true, decide_eq_true_eq] at hB
    obtain ⟨⟨⟨hr, hf⟩, hin⟩, hB'⟩ := hB
    obtain ⟨v, hy, hK⟩ := h
    have hr' : i ∈ Region.ready md ops listed := by simpa using hr
    have hS' : S w := hS.resolve_left (by simp)
    have inv' := inv.resolve_right (by simp)
    exact wpAnyE_first hl hin h0 (Region.noSelect_spec hsel) (fun c a w => hQ c a _ _ w) _ listed a w inv' (Region.free_spec h0 hf) hr' hy hS'
      (wpAnyE_of_held hl hsel hQ is l _ _ _ hm' (.inl (inv'.set hl hr' hin)) hB' (.inr hS') hK)
  | (false, i) :: is, (b, o) :: l, listed, a, w, hm, inv, hB, hS, h => by
    simp only [List.map_cons, List.cons.injEq, Prod.mk.injEq] at hm
    obtain ⟨⟨rfl, h0⟩, hm'⟩ := hm
    simp only [heldB, Bool.and_eq_true, decide_eq_true_eq, beq_iff_eq] at hB
    obtain ⟨⟨hr, hlast⟩, hB'⟩ := hB
    have inv' := inv.resolve_right (by simp)
    have hr' : i ∈ Region.ready md ops listed := by rw [hr]; simp
    have hnil : l = [] ↔ is = [] := by
      have := congrArg List.length hm'
      simp only [List.length_map] at this
      rw [← List.length_eq_zero_iff, ← List.length_eq_zero_iff, this]
    refine ⟨fun h1 => (by rw [hr] at h1; cases h1), fun j hj => ?_⟩
    rw [hr] at hj
    have hji : j = i := by simpa using hj
    subst hji
    have hin : j = n ↔ is = [] := by rw [← List.isEmpty_iff, ← hlast]; simp
    refine wpOp_mono (fun a' w' hh => ?_) (wpOp_onward (K := fun a' w' => (l = [] ∨ S w') ∧ Held P ops Q S l a' w') (by
      unfold wpOp
      simp only [h0]
      exact h))
    refine ⟨?_, wpAnyE_of_held hl hsel hQ is l _ _ _ hm' ?_ hB' ?_ hh.2⟩
    · rcases hh.1 with h1 | h1
      · exact .inl (hin.2 (hnil.1 h1))
      · exact .inr h1
    · by_cases hn : j = n
      · exact .inr (hin.1 hn)
      · exact .inl (inv'.set hl hr' hn)
    · rcases hh.1 with h1 | h1
      · exact .inl (hnil.1 h1)
      · exact .inr h1

/-- THE THEOREM: is: the operations as they are walked, 'true' at those that yield under S; n: the one behind which S need not hold, for it waits for all others (or any number beyond the region's). -/
theorem held_walk {P : Program} {id : Nat} {Q : Exit → Act → World → Prop} {a : Act} {w : World} {l : List Oper} (S : World → Prop) (is : List (Bool × Nat)) (n : Nat) (hm : P.follows .mixedOrders = true)
    (hB : (Region.noSelect l.toArray && heldB .any l.toArray n is (Array.replicate l.toArray.size false) && is.all (fun i => decide (i.2 < l.length)) && decide (is.length = l.length) &&
      (decide (l.toArray.size ≤ n) || (Region.sinkB .any l.toArray n && Region.chainB .any l.toArray n && decide (n + 1 = l.toArray.size)))) = true)
    (hQ : ∀ c a d v w, Q (.panic c) (Act.put a d v) w → Q (.panic c) a w) (hS : S w.drew)
    (h : Held P l.toArray Q S (is.filterMap fun x => (l[x.2]?).map fun o => (x.1, o)) a w.drew) : (Code.region id l.toArray true).wp P Q a w := by
  simp only [Bool.and_eq_true, decide_eq_true_eq, List.all_eq_true, Bool.or_eq_true] at hB
  obtain ⟨⟨⟨⟨hsel, hheld⟩, hlt⟩, hlen⟩, hlast⟩ := hB
  obtain ⟨q1, q2⟩ := filterMap_ok2 is hlt
  have hl : LastOk .any l.toArray n := by
    rcases hlast with h1 | ⟨⟨h1, h2⟩, h3⟩
    · exact ⟨fun h => by omega, fun h => by omega, fun h => by omega⟩
    · exact ⟨fun _ => h1, fun _ => h2, fun _ => h3⟩
  have inv0 : LastInv .any l.toArray n (Array.replicate l.toArray.size false) := fun _ =>
    ⟨by simp, fun j oj _ hl => (by rw [getD_replicate_false] at hl; cases hl), fun t _ ht => getD_in (by simpa using ht) (getD_replicate_false _ _)⟩
  refine wp_region_any hm (wpAny_of_E (S := S) (n := n) _ _ _ _ ?_)
  have key := wpAnyE_of_held (P := P) (S := S) (md := .any) (Q := Q) hl hsel hQ is _ _ a w.drew q1 (.inl inv0) hheld (.inr hS) h
  rw [q2, hlen] at key
  simpa using key

/-! ### The moves of a walk -/
theorem held_take {o : Oper} {r : List (Bool × Oper)} {a : Act} {w : World} (v : Value) (hw : Region.wanted o (yielded ops a.tmps) = true) (hy : ∀ w', S w' → (execOp a.eval o).run P w' = .ok (.value v) w') (h : Held P ops Q S r (a.put o.dst v) w) :
    Held P ops Q S ((true, o) :: r) a w := ⟨v, .inl ⟨hw, hy⟩, h⟩
theorem held_pass {o : Oper} {r : List (Bool × Oper)} {a : Act} {w : World} (hw : Region.wanted o (yielded ops a.tmps) = false) (h : Held P ops Q S r (a.put o.dst undef) w) :
    Held P ops Q S ((true, o) :: r) a w := ⟨undef, .inr ⟨hw, rfl⟩, h⟩
theorem held_one {o : Oper} {r : List (Bool × Oper)} {a : Act} {w : World} (h : wpList P ops (onward (fun a' w' => (r = [] ∨ S w') ∧ Held P ops Q S r a' w') Q) [o] a w) : Held P ops Q S ((false, o) :: r) a w := h
theorem held_on {r : List (Bool × Oper)} {a : Act} {w : World} (hS : S w) (h : Held P ops Q S r a w) : onward (fun a' w' => (r = [] ∨ S w') ∧ Held P ops Q S r a' w') Q .normal a w := ⟨.inr hS, h⟩
theorem held_end {a : Act} {w : World} (h : Q .normal a w) : onward (fun a' w' => (([] : List (Bool × Oper)) = [] ∨ S w') ∧ Held P ops Q S [] a' w') Q .normal a w := ⟨.inl rfl, h⟩
theorem held_nil {a : Act} {w : World} (h : Q .normal a w) : Held P ops Q S [] a w := h
end
end Bal
