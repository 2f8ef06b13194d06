/-
  The contracts of chapter 7 that its outright statements lean on:
  o_alive o_inside o_wind o_port o_table o_plan a_cross a_man a_plan a_do a_gap a_dec a_ints1 a_ints3 a_acts exTab exTab_is exTab_ok exGap exPort exWind exPlan exRows fieldP
  f_Do f_CheckBerth f_CheckPort f_need f_CheckWind f_CheckAxis f_CheckRows f_Cross f_Calm f_Turn f_Man f_Play f_Plan f_Decide f_Gap f_Twice r_CheckBerth r_CheckWind r_CheckAxis r_Great r_Wide r_GreatRows r_SameInts r_SameActs r_within r_withinK
  open_port open_agg open_decisions of_leaves Wind Axis Span Berth Step Deed u8_bd mayEnter_is liftsFinal_is make_is own row Row owns_row owns_nil owns_keep infoI cell_one info_parts later_mix held_walk tail region at_world blk blkc kpt thru later sub take block one eq_berth deed_len berth_len
  berth_parts ship_parts portB_bd portB_parts needP_bd turnable_parts linesB_parts inB_iff doErr_parts firstNot_zero kept_valid doB_ship plan_same coded nums_ok PlanRes planErr check_parts plan_ok TabAt RowM validB valid_parts valid_even valid_le decR GapRes TwRes outS natsI FirstExt rows_len mem_rowsT tbOf greatR wideB wide_len play playE play_go play_no play_end
  manE manL turnE turnN turnI crossE crossLo crossHi calmE calmB calmS near_far far_sq near_sq long_pos i64_in mul_bd corner_bd far_bd line_bd need_bd needs_take needs_len needs_bd total_bd total_snoc after_bd after_len pick_bd pick_none total_mem
-/
import Derived.Lib.Hide
import Derived.Deep.CutBlock
import Derived.Laws.MakeOwn
import Derived.RangeFuncNested
import Derived.RangeFuncCalls
import Derived.OrdersIn
import Derived.RangeFuncLeaves
import Derived.RangeFuncBound
import Derived.Shelf.Abstract
import Derived.Shelf.RegionOpen
import Derived.WalkKit
import Derived.OwnWalkIn
import Derived.TacticsInMore
import Derived.LoopNIn
import Derived.LoopIn
import Derived.Scope
import Derived.Deep.RegionHeld3
import Derived.RangeFuncBox
import Derived.Test.YtacbkbilbmkjnaaGreatProg
import Derived.Ground.NamesProg
import Derived.Ground.Names2Prog
import Derived.Shelf.Sort.Plain
import Derived.Shelf.Slices.CompactI
import Derived.Lib.OwnBridge
import Derived.Sort.OwnSortedInts
import Derived.Laws.EntriesVeiled
import Derived.Deep.DeepCutAuto
import Derived.WideShapes
import Derived.JoinedOf
import Derived.WalkSpells
import Derived.WalkLawsBesides
import Derived.ProofKit
import Derived.OpenShut
import Derived.ChangeOld
import Derived.Below
import Derived.Deep.Slices
import Derived.Deep.Fields
import Derived.Deep.Quiet
import Derived.Laws.AppendOwn
import Derived.Laws.AppendOwnNone
import Derived.StillTail
import Derived.Deep.QuietTactic
import Derived.BigQuiet
import Derived.Lib.SlicesCompact
import Derived.WalkSmall
import Derived.OwnWalk
import Derived.OrdersHeld
import Derived.Maps.OwnSet
import Derived.Deep.RegionLaw
import Derived.ArgAppend
import Derived.DeepKeys4
import Derived.Test.YtacbkbilbmkjnaaGreatMastBaseZMA
import Derived.Test.YtacbkbilbmkjnaaGreatMastBaseZMB
import Derived.Test.YtacbkbilbmkjnaaGreatMastBaseZMC
set_option linter.unusedVariables false
set_option linter.unusedSimpArgs false
/-
  A region that draws its order: some operations are taken first, two may then come up in either order, the rest is walked as in XHeld. No program in sight.
-/
namespace Bal
open Go Go.RowKit

section
variable {P : Program} {ops : Array Oper} {md : Region.Mode} {S : World → Prop} {Q : Exit → Act → World → Prop}

/-- operations that are taken first: all yield under S -/
def TakenAll (P : Program) (ops : Array Oper) (S : World → Prop) (K : Act → World → Prop) : List Oper → Act → World → Prop
  | [], a, w => K a w
  | o :: r, a, w => ∃ v, YieldsIf P ops S o v a ∧ TakenAll P ops S K r (a.put o.dst v) w
def marked : List Nat → Array Bool → Array Bool
  | [], listed => listed
  | i :: is, listed => marked is (listed.setIfInBounds i true)
def takenB (md : Region.Mode) (ops : Array Oper) : List Nat → Array Bool → Bool
  | [], _ => true
  | i :: is, listed => (Region.ready md ops listed).contains i && Region.free md ops listed i && decide (i < ops.size) && takenB md ops is (listed.setIfInBounds i true)

theorem lastOk_size : LastOk md ops ops.size := ⟨fun h => absurd h (Nat.lt_irrefl _), fun h => absurd h (Nat.lt_irrefl _), fun h => absurd h (Nat.lt_irrefl _)⟩
theorem lastInv_size (listed : Array Bool) : LastInv md ops ops.size listed := fun h => absurd h (Nat.lt_irrefl _)

theorem wpAnyE_of_taken (hsel : Region.noSelect ops = true) (hQ : ∀ c a d v w, Q (.panic c) (Act.put a d v) w → Q (.panic c) a w) {K : Act → World → Prop} {g : Nat} :
    ∀ (is : List Nat) (l : List Oper) (listed : Array Bool) (a : Act) (w : World), is.map (fun i => ops[i]?) = l.map some → takenB md ops is listed = true → S w →
      (∀ a, K a w → wpAnyE P md ops Q S ops.size g (marked is listed) a w) → TakenAll P ops S K l a w → wpAnyE P md ops Q S ops.size (l.length + g) listed a w
  | [], [], listed, a, w, _, _, _, hK, h => by rw [List.length_nil, Nat.zero_add]; exact hK a h
  | [], _ :: _, _, _, _, hm, _, _, _, _ => by simp at hm
  | _ :: _, [], _, _, _, hm, _, _, _, _ => by simp at hm
  | i :: is, o :: l, listed, a, w, hm, hB, hS, hK, h => by
    simp only [List.map_cons, List.cons.injEq] at hm
    obtain ⟨h0, hm'⟩ := hm
    simp only [takenB, Bool.and_eq_true, decide_eq_true_eq] at hB
    obtain ⟨⟨⟨hr, hf⟩, hlt⟩, hB'⟩ := hB
    obtain ⟨v, hy, hT⟩ := h
    have hr' : i ∈ Region.ready md ops listed := by simpa using hr
    rw [show (o :: l).length + g = (l.length + g) + 1 by simp only [List.length_cons]; omega]
    exact wpAnyE_first lastOk_size (by omega) h0 (Region.noSelect_spec hsel) (fun c a w => hQ c a _ _ w) _ listed a w (lastInv_size _) (Region.free_spec h0 hf) hr' hy hS
      (wpAnyE_of_taken hsel hQ is l _ _ _ hm' hB' hS hK hT)

/-- two operations, each ahead of the other, and what is then known of what they yielded -/
def Fork (P : Program) (ops : Array Oper) (Q : Exit → Act → World → Prop) (S : World → Prop) (R : Value → Value → World → Prop) (oi oj : Oper) (K : Act → World → Prop) (a : Act) (w : World) : Prop :=
  wpList P ops (onward (fun a1 w1 => S w1 ∧ wpList P ops (onward (fun a2 w2 => S w2 ∧ ∃ u v, a2 = (a.put oi.dst u).put oj.dst v ∧ R u v w2) Q) [oj] a1 w1) Q) [oi] a w ∧
  wpList P ops (onward (fun a1 w1 => S w1 ∧ wpList P ops (onward (fun a2 w2 => S w2 ∧ ∃ u v, a2 = (a.put oj.dst v).put oi.dst u ∧ R u v w2) Q) [oi] a1 w1) Q) [oj] a w ∧
  ∀ u v w2, S w2 → R u v w2 → K ((a.put oi.dst u).put oj.dst v) w2

theorem wpAnyE_fork {i j n g : Nat} {oi oj : Oper} {R : Value → Value → World → Prop} {K : Act → World → Prop} {listed : Array Bool} {a : Act} {w : World} (h0 : ops[i]? = some oi) (h0' : ops[j]? = some oj)
    (hd : ∀ d, oi.dst = some d → oj.dst ≠ some d) (hr : Region.ready md ops listed = [i, j]) (hri : Region.ready md ops (listed.setIfInBounds i true) = [j]) (hrj : Region.ready md ops (listed.setIfInBounds j true) = [i])
    (hij : i ≠ j) (h : Fork P ops Q S R oi oj K a w) (hK : ∀ a w, S w → K a w → wpAnyE P md ops Q S n g ((listed.setIfInBounds i true).setIfInBounds j true) a w) : wpAnyE P md ops Q S n (g + 2) listed a w := by
  obtain ⟨h1, h2, h3⟩ := h
  have one : ∀ {k : Nat} {o : Oper} {K : Act → World → Prop} {a : Act} {w : World}, ops[k]? = some o → wpList P ops (onward K Q) [o] a w → wpOp P ops Q k K a w := by
    intro k o K a w hk h
    refine wpOp_onward ?_
    unfold wpOp
    simp only [hk]
    exact h
  refine ⟨fun h => (by rw [hr] at h; cases h), fun k hk => ?_⟩
  rw [hr] at hk
  rcases List.mem_cons.1 hk with rfl | hk
  · refine wpOp_mono (fun a1 w1 hh => ⟨.inr hh.1, fun h => (by rw [hri] at h; cases h), fun k2 hk2 => ?_⟩) (one h0 h1)
    rw [hri] at hk2
    obtain rfl : k2 = j := by simpa using hk2
    refine wpOp_mono (fun a2 w2 hh2 => ⟨.inr hh2.1, ?_⟩) (one h0' hh.2)
    obtain ⟨hS2, u, v, rfl, hR⟩ := hh2
    exact hK _ _ hS2 (h3 u v w2 hS2 hR)
  · obtain rfl : k = j := by simpa using hk
    refine wpOp_mono (fun a1 w1 hh => ⟨.inr hh.1, fun h => (by rw [hrj] at h; cases h), fun k2 hk2 => ?_⟩) (one h0' h2)
    rw [hrj] at hk2
    obtain rfl : k2 = i := by simpa using hk2
    refine wpOp_mono (fun a2 w2 hh2 => ⟨.inr hh2.1, ?_⟩) (one h0 hh.2)
    obtain ⟨hS2, u, v, rfl, hR⟩ := hh2
    rw [← Act.put_comm a u v (fun d hd' => hd d hd'), Array.setIfInBounds_comm _ _ (Ne.symm hij)]
    exact hK _ _ hS2 (h3 u v w2 hS2 hR)

/-- THE THEOREM -/
theorem fork_walk {P : Program} {id : Nat} {Q : Exit → Act → World → Prop} {a : Act} {w : World} {l : List Oper} (S : World → Prop) (R : Value → Value → World → Prop) (is1 : List Nat) (i j : Nat) (is2 : List (Bool × Nat)) (hm : P.follows .mixedOrders = true)
    (hB : (Region.noSelect l.toArray && takenB .any l.toArray is1 (Array.replicate l.toArray.size false) && is1.all (fun i => decide (i < l.length)) && decide (i < l.length) && decide (j < l.length) && decide (i ≠ j) &&
      decide (Region.ready .any l.toArray (marked is1 (Array.replicate l.toArray.size false)) = [i, j]) && decide (Region.ready .any l.toArray ((marked is1 (Array.replicate l.toArray.size false)).setIfInBounds i true) = [j]) &&
      decide (Region.ready .any l.toArray ((marked is1 (Array.replicate l.toArray.size false)).setIfInBounds j true) = [i]) &&
      heldB .any l.toArray l.toArray.size is2 (((marked is1 (Array.replicate l.toArray.size false)).setIfInBounds i true).setIfInBounds j true) && is2.all (fun i => decide (i.2 < l.length)) &&
      decide (is1.length + (is2.length + 2) = l.length) && decide ((l[i]?).map (·.dst) ≠ (l[j]?).map (·.dst))) = true)
    (hQ : ∀ c a d v w, Q (.panic c) (Act.put a d v) w → Q (.panic c) a w) (hS : S w.drew)
    (h : TakenAll P l.toArray S (fun a w => ∀ oi oj, l[i]? = some oi → l[j]? = some oj → Fork P l.toArray Q S R oi oj (fun a w => Held P l.toArray Q S (is2.filterMap fun x => (l[x.2]?).map fun o => (x.1, o)) a w) a w) (is1.filterMap fun i => l[i]?) a w.drew) : (Code.region id l.toArray true).wp P Q a w := by
  simp only [Bool.and_eq_true, decide_eq_true_eq, List.all_eq_true] at hB
  obtain ⟨⟨⟨⟨⟨⟨⟨⟨⟨⟨⟨⟨hsel, htk⟩, hlt1⟩, hi⟩, hj⟩, hij⟩, hr⟩, hri⟩, hrj⟩, hheld⟩, hlt2⟩, hlen⟩, hdst⟩ := hB
  obtain ⟨q1, q2⟩ := filterMap_ok2 is2 hlt2
  have p : ∀ is : List Nat, (∀ x ∈ is, x < l.length) → is.map (fun i => l.toArray[i]?) = (is.filterMap fun i => l[i]?).map some ∧ (is.filterMap fun i => l[i]?).length = is.length := by
    intro is
    induction is with
    | nil => simp
    | cons x is ih =>
      intro hx
      have hx0 := hx x (by simp)
      obtain ⟨e1, e2⟩ := ih fun y hy => hx y (by simp [hy])
      have e0 : l[x]? = some l[x] := List.getElem?_eq_getElem hx0
      rw [List.filterMap_cons, e0]
      simp only [List.map_cons, List.length_cons, e1, e2]
      exact ⟨by simp [hx0], trivial⟩
  obtain ⟨p1, p2⟩ := p is1 hlt1
  have ei : l[i]? = some l[i] := List.getElem?_eq_getElem hi
  have ej : l[j]? = some l[j] := List.getElem?_eq_getElem hj
  refine wp_region_any hm (wpAny_of_E (S := S) (n := l.toArray.size) _ _ _ _ ?_)
  have key := wpAnyE_of_taken (P := P) (S := S) (md := .any) (Q := Q) (g := is2.length + 2) hsel hQ is1 _ _ a w.drew p1 htk hS (fun a' hK => by
    have := wpAnyE_fork (P := P) (md := .any) (n := l.toArray.size) (g := is2.length) (i := i) (j := j) (by simp) (by simp) (by
      intro d hd he
      rw [ei, ej] at hdst
      simp only [Option.map_some, ne_eq, Option.some.injEq] at hdst
      exact hdst (by rw [hd, he])) hr hri hrj hij (hK _ _ ei ej) (fun a2 w2 hS2 hH => by
        have := wpAnyE_of_held (P := P) (S := S) (md := .any) (Q := Q) lastOk_size hsel hQ is2 _ _ a2 w2 q1 (.inl (lastInv_size _)) hheld (.inr hS2) hH
        rwa [q2] at this)
    exact this) h
  rw [p2, hlen] at key
  simpa using key
/-! ### The moves of a walk -/
theorem taken_take {K : Act → World → Prop} {o : Oper} {r : List Oper} {a : Act} {w : World} (v : Value) (hw : Region.wanted o (yielded ops a.tmps) = true) (hy : ∀ w', S w' → (execOp a.eval o).run P w' = .ok (.value v) w') (h : TakenAll P ops S K r (a.put o.dst v) w) :
    TakenAll P ops S K (o :: r) a w := ⟨v, .inl ⟨hw, hy⟩, h⟩
theorem taken_nil {K : Act → World → Prop} {a : Act} {w : World} (h : K a w) : TakenAll P ops S K [] a w := h
theorem fork_first {S : World → Prop} {K : Act → World → Prop} {a : Act} {w : World} (hS : S w) (h : K a w) : onward (fun a w => S w ∧ K a w) Q .normal a w := ⟨hS, h⟩
end
end Bal

/-
  A region that draws its order: some operations are taken first, then three are left of which two come up one behind the other and the third anywhere among them; the rest is walked as in XHeld. No program in sight.
-/
namespace Bal
open Go Go.RowKit

section
variable {P : Program} {ops : Array Oper} {md : Region.Mode} {S : World → Prop} {Q : Exit → Act → World → Prop}

/-- one operation is taken, S holds behind it, and on it goes -/
def Next (P : Program) (ops : Array Oper) (Q : Exit → Act → World → Prop) (S : World → Prop) (o : Oper) (K : Act → World → Prop) (a : Act) (w : World) : Prop :=
  wpList P ops (onward (fun a w => S w ∧ K a w) Q) [o] a w
theorem wpList_step1 {o : Oper} {rest : List Oper} {a : Act} {w : World} (hg : o.guard = none) (h : if Region.wanted o (yielded ops a.tmps) = true then Oper.wp P o a w (wpList P ops Q rest) Q else False) : wpList P ops Q (o :: rest) a w := by
  have hw : Region.wanted o (yielded ops a.tmps) = true := by simp [Region.wanted, hg]
  rw [if_pos hw] at h
  unfold wpList
  rw [if_pos hw]
  exact .inl h

/-- the rest out of sight -/
theorem next_plain {o : Oper} {K : Act → World → Prop} {a : Act} {w : World} (hg : o.guard = none) (h : ∀ (K1 : Act → World → Prop) (Q1 : Exit → Act → World → Prop), Hid (∀ a w, S w → K a w → K1 a w) → Oper.wp P o a w K1 Q1) : Next P ops Q S o K a w := by
  refine wpList_step1 hg ?_
  have hw : Region.wanted o (yielded ops a.tmps) = true := by simp [Region.wanted, hg]
  rw [if_pos hw]
  exact h _ _ (Lib.hid fun a w hS hK => ⟨hS, hK⟩)
end
end Bal

/-
  Plans, in the program.
-/
namespace Go.Proofs.YtacbkbilbmkjnaaGreat
open Go.RowKit Bal Bal.Trim Bal.Mast
set_option linter.unusedVariables false
set_option linter.unusedSimpArgs false
set_option maxHeartbeats 4000000
set_option maxRecDepth 20000
attribute [local go_sem] ite_max ite_min

theorem f_Plan_main (a : Option Addr) (c : Nat) (e : Option Addr) (d : Nat) (p : Port) (w : World) (hx : Row Axis.cells 2 w.heap.size w a p.axes) (hc : p.axes.length ≤ c) (hM : c ≤ maxLen) (hy : Row Span.cells 2 w.heap.size w e p.pulls) (hd : p.pulls.length ≤ d) (hN : d ≤ maxLen) (h1 : p.axes.length ≤ 1000000) (h2 : p.pulls.length ≤ 1000000) (hp : portB p = true) (b : Berth) (hs0 : 0 ≤ b.ship) (hb : berthB p b = true) (wd : Wind) (hw : windB wd = true) (ship : Int) (hsh : 0 ≤ ship ∧ ship ≤ 5) :
    Calls Tryz.prog 17 #[.agg #[.slice a p.axes.length c, .int .i64 p.people, .int .i64 p.most, .slice e p.pulls.length d, .int .i64 p.cross], .agg #[.int .u8 b.ship, .int .i64 b.axis, .int .i64 b.held, .bool b.wire, .bool b.opn], .agg #[.int .i64 wd.xlo, .int .i64 wd.xhi, .int .i64 wd.ylo, .int .i64 wd.yhi], .int .u8 ship] w fun z w' => ∃ r v, Least (stepB p wd) 4096 codeD (actsOf (numsP p)) b (goalB ship) r ∧ z = .returned (.tuple #[v, .int .i64 (outE r)]) ∧ w'.ownsRow w.heap.size 48 2 v (outL r).length ((outL r).flatMap Deed.cells) ∧ Kept w w' := by
  have hM' := hM
  have hN' := hN
  unfold maxLen at hM' hN'
  have HCB := Lib.hid (show checkBerth p b = 0 by unfold checkBerth; rw [if_pos hp, if_pos hb])
  have HWD := Lib.hid (show checkWind wd = 0 by simp [checkWind, hw])
  have HC := Lib.hid (coded (nums_ok hp).1)
  have HVB := Lib.hid hb
  have HP := Lib.hid hp
  have HW := Lib.hid hw
  have hnd := needP_bd hp
  have hpb := portB_bd hp
  have HS0 := Lib.hid (Search.start (st := stepB p wd) HC.out (b0 := b))
  clear hb hw hp
  go_enter Tryz.func17, Tryz.ntmps17
  go_upto_region 9 with (first | (go_at_call 24; (with_reducible refine (f_CheckBerth a c e d p _ (hx.later (by (exact kpt)) (Nat.le_refl _)) hc hM (hy.later (by (exact kpt)) (Nat.le_refl _)) hd hN h1 h2 b hs0).mono ?_); rw [HCB.out]; rintro z w1 ⟨rfl, hb1⟩; refine Blk.thru (b := w.heap.size) (arr := ?_) (t := ?_) ?_ hb1 ?_; rotate_left 2; (focus (exact blk)); intro r0; have r0c0 := r0.cell 0; have r0f0 := r0.free 0; have r0c1 := r0.cell 1; have r0f1 := r0.free 1; have r0c2 := r0.cell 2; have r0f2 := r0.free 2; have r0c3 := r0.cell 3; have r0f3 := r0.free 3; have r0c4 := r0.cell 4; have r0f4 := r0.free 4; have r0l := r0.lt; simp at r0c0 r0c1 r0c2 r0c3 r0c4; refine Blk.thru (b := (w.heap.size + 1)) (arr := ?_) (t := ?_) ?_ hb1 ?_; rotate_left 2; (focus (exact blk)); intro r1; have r1c0 := r1.cell 0; have r1f0 := r1.free 0; have r1c1 := r1.cell 1; have r1f1 := r1.free 1; have r1c2 := r1.cell 2; have r1f2 := r1.free 2; have r1c3 := r1.cell 3; have r1f3 := r1.free 3; have r1c4 := r1.cell 4; have r1f4 := r1.free 4; have r1l := r1.lt; simp at r1c0 r1c1 r1c2 r1c3 r1c4; refine Blk.thru (b := (w.heap.size + 1 + 1)) (arr := ?_) (t := ?_) ?_ hb1 ?_; rotate_left 2; (focus (exact blk)); intro r3; have r3c0 := r3.cell 0; have r3f0 := r3.free 0; have r3c1 := r3.cell 1; have r3f1 := r3.free 1; have r3c2 := r3.cell 2; have r3f2 := r3.free 2; have r3c3 := r3.cell 3; have r3f3 := r3.free 3; have r3l := r3.lt; simp at r3c0 r3c1 r3c2 r3c3) | (go_at_call 39; (with_reducible refine (f_CheckWind wd _).mono ?_); rw [HWD.out]; rintro z w2 ⟨rfl, hb2⟩; refine Blk.thru (b := w.heap.size) (arr := ?_) (t := ?_) ?_ hb2 ?_; rotate_left 2; (focus (exact blk)); intro r0; have r0c0 := r0.cell 0; have r0f0 := r0.free 0; have r0c1 := r0.cell 1; have r0f1 := r0.free 1; have r0c2 := r0.cell 2; have r0f2 := r0.free 2; have r0c3 := r0.cell 3; have r0f3 := r0.free 3; have r0c4 := r0.cell 4; have r0f4 := r0.free 4; have r0l := r0.lt; simp at r0c0 r0c1 r0c2 r0c3 r0c4; refine Blk.thru (b := (w.heap.size + 1)) (arr := ?_) (t := ?_) ?_ hb2 ?_; rotate_left 2; (focus (exact blk)); intro r1; have r1c0 := r1.cell 0; have r1f0 := r1.free 0; have r1c1 := r1.cell 1; have r1f1 := r1.free 1; have r1c2 := r1.cell 2; have r1f2 := r1.free 2; have r1c3 := r1.cell 3; have r1f3 := r1.free 3; have r1c4 := r1.cell 4; have r1f4 := r1.free 4; have r1l := r1.lt; simp at r1c0 r1c1 r1c2 r1c3 r1c4; refine Blk.thru (b := (w.heap.size + 1 + 1)) (arr := ?_) (t := ?_) ?_ hb2 ?_; rotate_left 2; (focus (exact blk)); intro r3; have r3c0 := r3.cell 0; have r3f0 := r3.free 0; have r3c1 := r3.cell 1; have r3f1 := r3.free 1; have r3c2 := r3.cell 2; have r3f2 := r3.free 2; have r3c3 := r3.cell 3; have r3f3 := r3.free 3; have r3l := r3.lt; simp at r3c0 r3c1 r3c2 r3c3))
  refine at_world (S := fun V => Blk V w.heap.size #[.slice a p.axes.length c, .int .i64 p.people, .int .i64 p.most, .slice e p.pulls.length d, .int .i64 p.cross] 25 ∧ Blk V (w.heap.size + 1) #[.int .u8 b.ship, .int .i64 b.axis, .int .i64 b.held, .bool b.wire, .bool b.opn] 37 ∧ Blk V (w.heap.size + 1 + 1) #[.int .i64 wd.xlo, .int .i64 wd.xhi, .int .i64 wd.ylo, .int .i64 wd.yhi] 39 ∧ Kept w V) ⟨by (exact blk), by (exact blk), by (exact blk), by (exact kpt)⟩ ?_
  clear r0 r1 r3 r0c0 r0f0 r0c1 r0f1 r0c2 r0f2 r0c3 r0f3 r0c4 r0f4 r1c0 r1f0 r1c1 r1f1 r1c2 r1f2 r1c3 r1f3 r1c4 r1f4 r3c0 r3f0 r3c1 r3f1 r3c2 r3f2 r3c3 r3f3 r0l r1l r3l
  rintro W ⟨r0, r1, r3, hk⟩
  have hl3 := r3.lt
  go_cut [12, 13] (fun s12 s13 wx => ∃ M B, s12 = .map (some M) ∧ s13 = .int .i64 (needP p) ∧ Table wx B M ∧ B ≤ wx.heap.size ∧ Kept W wx)
  case first =>
    have r0k0 : ∀ w', Kept W w' → w'.cell? ⟨w.heap.size, 0, none⟩ = some (.slice a p.axes.length c) := fun w' hkw => by simpa using (r0.keep hkw).cell 0
    have r0k1 : ∀ w', Kept W w' → w'.cell? ⟨w.heap.size, 1, none⟩ = some (.int .i64 p.people) := fun w' hkw => by simpa using (r0.keep hkw).cell 1
    have r0k2 : ∀ w', Kept W w' → w'.cell? ⟨w.heap.size, 2, none⟩ = some (.int .i64 p.most) := fun w' hkw => by simpa using (r0.keep hkw).cell 2
    have r0k3 : ∀ w', Kept W w' → w'.cell? ⟨w.heap.size, 3, none⟩ = some (.slice e p.pulls.length d) := fun w' hkw => by simpa using (r0.keep hkw).cell 3
    have r0k4 : ∀ w', Kept W w' → w'.cell? ⟨w.heap.size, 4, none⟩ = some (.int .i64 p.cross) := fun w' hkw => by simpa using (r0.keep hkw).cell 4
    have l0 := r0.lt
    go_region_held3 (fun w' => Kept W w') (exact kpt) (first | (go_at_call 50; (with_reducible refine (f_deeds _).mono ?_); rintro z w3 ⟨rfl, hT, hb3⟩) | (go_at_call 51; (with_reducible refine (f_need a c e d p _ (hx.later (Kept.drop hk (by (exact kpt))) (Nat.le_refl _)) hc hM (hy.later (Kept.drop hk (by (exact kpt))) (Nat.le_refl _)) hd hN h1 h2 HP.out).mono ?_); rintro z w4 ⟨rfl, hb4⟩) | fail)
    all_goals (go_wp2_with fail; go_meet)
    all_goals
      refine ⟨_, w3.heap.size, rfl, rfl, ?_, ?_, ?_⟩
      · first | exact hT | exact hT.below hb4
      · first | exact Nat.le_refl _ | exact hb4.size
      · (exact kpt)
  case rest =>
  obtain ⟨M, B, rfl, rfl, hT, hBs, hkW⟩ := hcut
  have hk2 := Kept.drop hk hkW
  have b0 := r0.keep hkW
  have b1 := r1.keep hkW
  have b3 := r3.keep hkW
  clear r0 r1 r3 hk hkW
  obtain ⟨kb, hkb⟩ := key_berth (valid_in HP.out hs0 HVB.out)
  obtain ⟨w10, hr10, hs10, hg10⟩ := (InSet.made (P := Tryz.prog) (k := 37) (e := 4) (w := wc) (b := wc.heap.size) rfl).run (g := metF [b]) keyedB Tryz.underlying106 Tryz.underlying4 (by simp [maxLen]) hkb (metF_put (L := []) hkb).1 (fun z hz => by rw [show metF [b] z = _ from (metF_put (L := []) hkb).2 z hz, metF_nil])
  unfold berthV at hr10
  have hno := (InSet.made (P := Tryz.prog) (k := 37) (e := 4) (w := wc) (b := wc.heap.size) rfl).none
  have HB0 := Lib.hid ((b0.alloc (.map #[] 0)).turned (Nat.ne_of_lt b0.lt) hg10)
  have HB1 := Lib.hid ((b1.alloc (.map #[] 0)).turned (Nat.ne_of_lt b1.lt) hg10)
  have HB3 := Lib.hid ((b3.alloc (.map #[] 0)).turned (Nat.ne_of_lt b3.lt) hg10)
  have HT := Lib.hid ((hT.below (Below.alloc (Below.refl _ _) hBs (.map #[] 0))).below (Below.grown hg10 hBs (by simp; omega)))
  have hwN : w.heap.size ≤ wc.heap.size := hk2.size
  have HK := Lib.hid (Kept.turned (Kept.alloc hk2 (.map #[] 0)) hwN hg10)
  have HS10 := Lib.hid hs10
  clear hs10 hg10 hno hT hkb
  have b1c0 := b1.cell 0
  have b1f0 := b1.free 0
  have b1c1 := b1.cell 1
  have b1f1 := b1.free 1
  have b1c2 := b1.cell 2
  have b1f2 := b1.free 2
  have b1c3 := b1.cell 3
  have b1f3 := b1.free 3
  have b1c4 := b1.cell 4
  have b1f4 := b1.free 4
  have b1l := b1.lt
  simp at b1c0 b1c1 b1c2 b1c3 b1c4
  have hmm := @run_makeMap Tryz.prog
  go_upto_region 11 with fail
  clear hmm
  refine at_world (S := fun V => Blk V w.heap.size #[.slice a p.axes.length c, .int .i64 p.people, .int .i64 p.most, .slice e p.pulls.length d, .int .i64 p.cross] 25 ∧ Blk V (w.heap.size + 1) #[.int .u8 b.ship, .int .i64 b.axis, .int .i64 b.held, .bool b.wire, .bool b.opn] 37 ∧ Blk V (w.heap.size + 1 + 1) #[.int .i64 wd.xlo, .int .i64 wd.xhi, .int .i64 wd.ylo, .int .i64 wd.yhi] 39 ∧ Table V B M ∧ InSet Tryz.prog 37 4 V wc.heap.size 1 (metF [b]) ∧ Kept w V) ⟨HB0.out, HB1.out, HB3.out, HT.out, HS10.out, HK.out⟩ ?_
  clear HB0 HB1 HB3 HT HS10 HK hr10 b0 b1 b3 hk2 b1c0 b1f0 b1c1 b1f1 b1c2 b1f2 b1c3 b1f3 b1c4 b1f4 b1l
  obtain ⟨N, hNN⟩ : ∃ N, N = wc.heap.size := ⟨_, rfl⟩
  rw [← hNN] at hBs hwN ⊢
  clear hNN
  rintro V ⟨r0, r1, r3, hT, hs, hk⟩
  have hNV := hs.lt
  have r1c0 := r1.cell 0
  have r1f0 := r1.free 0
  have r1c1 := r1.cell 1
  have r1f1 := r1.free 1
  have r1c2 := r1.cell 2
  have r1f2 := r1.free 2
  have r1c3 := r1.cell 3
  have r1f3 := r1.free 3
  have r1c4 := r1.cell 4
  have r1f4 := r1.free 4
  have r1l := r1.lt
  simp at r1c0 r1c1 r1c2 r1c3 r1c4
  go_wp2
  go_loopw [15] (fun s15 wr => ∃ m, PlanH p b wd ship #[.slice a p.axes.length c, .int .i64 p.people, .int .i64 p.most, .slice e p.pulls.length d, .int .i64 p.cross] w M B N wr s15 m) (fun s15 wr => leastOf fun m => PlanH p b wd ship #[.slice a p.axes.length c, .int .i64 p.people, .int .i64 p.most, .slice e p.pulls.length d, .int .i64 p.cross] w M B N wr s15 m)
  case atStart =>
    refine ⟨_, [(b, [])], [(b, [], .slice none 0 0)], 0, Nat.zero_le _, rfl, ⟨HS0.out, fun i hi h0 => absurd h0 (Nat.not_lt_zero _), rfl⟩, hBs, hwN, ?_, ?_, ?_, ?_, ?_, ⟨1, by simp, hs.keep (Kept.alloc (Below.refl _ _) _)⟩, ?_⟩
    · intro t ht
      obtain rfl := List.mem_singleton.1 ht
      exact owns_nil (α := Deed) (enc := Deed.cells)
    · exact Que.of_owns (owns_one (us := routeC (b, [], .slice none 0 0)) rfl (Nat.le_of_lt hNV) rfl) (by simp)
    · (exact blk)
    · (exact blk)
    · exact hT.below (Below.alloc (Below.refl _ _) (by omega) _)
    · (exact kpt)
  case round =>
    clear r0 r1 r3 hT hs hk hNV r1c0 r1f0 r1c1 r1f1 r1c2 r1f2 r1c3 r1f3 r1c4 r1f4 r1l
    obtain ⟨mq, hmq⟩ := hrel
    obtain ⟨⟨L, T, h, hh, hmm, HI, HM⟩, -⟩ := leastOf_ok hmq
    clear hmq
    have hfew := HI.search.few HP.out hs0 HVB.out
    obtain ⟨g, off, cap, hsv, hNg, hgl, hcl, hcM, hcell⟩ := HM.que.form
    subst hsv
    have HMM := Lib.hid hmm
    clear hmm
    by_cases hlt : h < L.length
    · obtain ⟨u, T', hTe⟩ := HI.head hlt
      have HOWN := Lib.hid (HM.own (L[h].1, L[h].2, u) (by rw [hTe]; exact List.mem_cons_self))
      obtain ⟨ad, cp, hue, hrowq, hcp, hcm⟩ := owns_row (enc := Deed.cells) (k := 2) deed_len HOWN.out
      simp only at hue
      subst hue
      have hzq := owns_none HOWN.out
      have HLH := Lib.hid (List.getElem?_eq_getElem hlt)
      have hlenq := HI.search.lens HC.out h hlt
      obtain ⟨hqs, hqv⟩ := HI.search.valid hs0 HVB.out _ (List.getElem_mem hlt)
      have HGO := Lib.hid (fun hg => HI.search.at_head HC.out hlt (goal := goalB ship) hg HI.no)
      obtain ⟨pq, hpq⟩ : ∃ y, y = L[h].2 := ⟨_, rfl⟩
      obtain ⟨bq, hbq⟩ : ∃ y, y = L[h].1 := ⟨_, rfl⟩
      rw [show L[h] = (bq, pq) by rw [hbq, hpq]] at HLH
      simp only [← hbq, ← hpq] at HGO HOWN hlenq hqs hqv hrowq hcp hzq hTe
      clear hbq hpq
      have c0 := hcell 0 (.int .u8 bq.ship) (by rw [hTe]; rfl)
      have c1 := hcell 1 (.int .i64 bq.axis) (by rw [hTe]; rfl)
      have c2 := hcell 2 (.int .i64 bq.held) (by rw [hTe]; rfl)
      have c3 := hcell 3 (.bool bq.wire) (by rw [hTe]; rfl)
      have c4 := hcell 4 (.bool bq.opn) (by rw [hTe]; rfl)
      have c5 := hcell 5 (.slice ad pq.length cp) (by rw [hTe]; rfl)
      have t0 : (0 : Int) < (T.length : Int) := by rw [HI.len]; omega
      clear hcell
      simp at c0
      by_cases hsp : bq.ship = ship
      · have e1 : (bq.ship == ship) = true := by simp [hsp]
        have HL := Lib.hid (HGO.out (by unfold goalB; exact decide_eq_true hsp))
        have HKW := Lib.hid HM.kept
        clear HGO hsp HI HM hTe
        go_wp2
        exact bodyPost_ret (v := .tuple #[.slice ad pq.length cp, .int .i64 0]) (by simp [results, Tryz.results17, go_sem]) rfl ⟨some pq, _, HL.out, rfl, owns_keep HOWN.out (by (exact kpt)), Kept.drop HKW.out (by (exact kpt))⟩
      · have e1 : (bq.ship == ship) = false := beq_eq_false_iff_ne.2 hsp
        have HGF := Lib.hid (show goalB ship bq = false by unfold goalB; exact decide_eq_false hsp)
        clear HGO hsp HOWN
        have HIh := Lib.hid HI
        have HMh := Lib.hid HM
        clear HI HM
        go_upto_region 17 with fail
        refine at_world (S := fun V => PlanM p wd #[.slice a p.axes.length c, .int .i64 p.people, .int .i64 p.most, .slice e p.pulls.length d, .int .i64 p.cross] w M B N V (.slice (some ⟨g, off, none⟩) T.length cap) T (L.map fun q => q.1) ∧ Blk V wr.heap.size #[.int .u8 bq.ship, .int .i64 bq.axis, .int .i64 bq.held, .bool bq.wire, .bool bq.opn, .slice ad pq.length cp] 108 ∧ Kept wr V) ⟨(HMh.out).keep (by (exact kpt)), by (refine Blk.cast (arr := ?_) ?_ ?_; rotate_left 1; (focus (exact blk)); (first | with_reducible rfl | (simp; done) | rfl)), by (exact kpt)⟩ ?_
        have HI := HIh.out
        have HTH := Lib.hid (show T.head? = some (bq, pq, (.slice ad pq.length cp : Value)) by rw [hTe]; rfl)
        clear HIh HMh c0 c1 c2 c3 c4 c5 hcl hcM t0 hTe hrowq hcp hcm hzq
        obtain ⟨nA, hnA⟩ : ∃ n, n = wr.heap.size := ⟨_, rfl⟩
        rw [← hnA] at hgl ⊢
        clear hnA
        rintro W2 ⟨HM, rat, hkr⟩
        go_wp2
        go_loopw [15, 17] (fun s15 s17 wk => ∃ L2 T2, ∃ k : Nat, k ≤ 13 ∧ s17 = .int .u8 (1 + (k : Int)) ∧ PlanI p b wd ship L2 T2 h (actsTo (numsP p) k).length ∧ PlanM p wd #[.slice a p.axes.length c, .int .i64 p.people, .int .i64 p.most, .slice e p.pulls.length d, .int .i64 p.cross] w M B N wk s15 T2 (L2.map fun q => q.1) ∧ L2[h]? = some (bq, pq) ∧ T2.head? = some (bq, pq, (.slice ad pq.length cp : Value)) ∧ Blk wk nA #[.int .u8 bq.ship, .int .i64 bq.axis, .int .i64 bq.held, .bool bq.wire, .bool bq.opn, .slice ad pq.length cp] 108 ∧ s15.ownBlock ≠ some nA) (fun _ s17 _ => 14 - (intOf s17).toNat)
        case atStart => exact ⟨L, T, 0, by omega, rfl, HI, HM, HLH.out, HTH.out, rat, by simp [Value.ownBlock]; omega⟩
        case round =>
          clear HI HM rat HLH HTH hkr hgl
          obtain ⟨L2, T2, k, hk13, rfl, HI2, HM2, HLH2, HTH2, rat2, hne2⟩ := hrel
          by_cases hlk : k < 13
          · have hpd := hiP_bd HP.out (1 + (k : Int))
            have hnm := numsP_up p (1 + (k : Int))
            have hlo : loK p (1 + (k : Int)) = if 1 + (k : Int) = 2 then needP p else 0 := rfl
            have hhi : hiP p (1 + (k : Int)) = if 1 + (k : Int) = 2 then min (needP p) p.people else if 1 + (k : Int) = 9 then (p.axes.length : Int) - 1 else 0 := rfl
            obtain ⟨LO, hLO⟩ : ∃ x, x = loK p (1 + (k : Int)) := ⟨_, rfl⟩
            obtain ⟨HH, hHH⟩ : ∃ x, x = hiP p (1 + (k : Int)) := ⟨_, rfl⟩
            rw [← hLO] at hpd hlo hnm
            rw [← hHH] at hpd hhi hnm
            obtain ⟨NN, hNN⟩ : ∃ N, N = (HH - LO + 1).toNat := ⟨_, rfl⟩
            rw [← hNN] at hnm
            obtain ⟨K0, hK0⟩ : ∃ x, x = (actsTo (numsP p) k).length := ⟨_, rfl⟩
            obtain ⟨t, ht⟩ : ∃ t : Int, t = 1 + (k : Int) := ⟨_, rfl⟩
            have HAT := Lib.hid (fun (m : Nat) (hm : m < NN) => (by subst hK0 ht; exact acts_at hlk hnm hm : ∃ hh : K0 + m < (actsOf (numsP p)).length, (actsOf (numsP p))[K0 + m] = ⟨t, LO + (m : Int)⟩))
            have HNX := Lib.hid (show (actsTo (numsP p) (k + 1)).length = K0 + NN by rw [hK0]; exact actsTo_next hnm)
            rw [← hK0] at HI2
            simp only [← ht] at hlo hhi ⊢
            have HT := Lib.hid ht
            have ht13 : 1 ≤ t ∧ t ≤ 13 := by omega
            have ht0 : 0 ≤ t ∧ t ≤ 255 := by omega
            have hu8 : IntKind.u8.wrap t = t := by rw [IntKind.wrap_u8]; omega
            have HN2 := Lib.hid (fun m : Nat => (show m < NN ↔ LO + (m : Int) ≤ HH by omega))
            have HNB : NN ≤ 201 := by omega
            have hk14 : k + 1 ≤ 13 := by omega
            clear hnm hLO hHH hNN ht hlk hK0
            go_upto_block 4 with fail
            go_cut [18, 19] (fun s18 s19 wx => s18 = .int .i64 LO ∧ s19 = .int .i64 HH ∧ Kept wr wx)
            case first =>
              have r0 := HM2.r0
              clear HM2 rat2
              by_cases h2 : t = 2
              · have hL : LO = needP p := by rw [hlo, if_pos h2]
                have hH : HH = min (needP p) p.people := by rw [hhi, if_pos h2]
                have e2 : (t == 2) = true := by simp [h2]
                have HLL := Lib.hid hL
                have HHH := Lib.hid hH
                clear hlo hhi h2 hL hH HN2
                have r0c0 := fun g : Later wr => (r0.later g).cell 0
                have r0f0 := fun g : Later wr => (r0.later g).free 0
                have r0c1 := fun g : Later wr => (r0.later g).cell 1
                have r0f1 := fun g : Later wr => (r0.later g).free 1
                have r0c2 := fun g : Later wr => (r0.later g).cell 2
                have r0f2 := fun g : Later wr => (r0.later g).free 2
                have r0c3 := fun g : Later wr => (r0.later g).cell 3
                have r0f3 := fun g : Later wr => (r0.later g).free 3
                have r0c4 := fun g : Later wr => (r0.later g).cell 4
                have r0f4 := fun g : Later wr => (r0.later g).free 4
                have r0l := fun g : Later wr => (r0.later g).lt
                simp at r0c0 r0c1 r0c2 r0c3 r0c4
                go_upto_region 23 with fail
                refine Later.region (by kernel_rfl) (by kernel_rfl) ?_
                repeat (first | go_big_quiet_skip | (go_big_quiet_want; go_big_quiet_op; first | go_big_quiet_on | (apply Exists.intro; refine ⟨fun g => ?_, ?_⟩; (focus (first | fail)); go_big_quiet_on)))
                refine wpQuiet_nil ?_
                intro gg
                go_wp2
                go_meet
                exact ⟨by rw [HLL.out], by rw [HHH.out], gg.ok⟩
              · have hL : LO = 0 := by rw [hlo, if_neg h2]
                have e2 : (t == 2) = false := by simp [h2]
                by_cases h9 : t = 9
                · have hH : HH = (p.axes.length : Int) - 1 := by rw [hhi, if_neg h2, if_pos h9]
                  have e9 : (t == 9) = true := by simp [h9]
                  clear hlo hhi h2 h9 HN2
                  subst hL hH
                  have r0c0 := r0.cell 0
                  have r0f0 := r0.free 0
                  have r0c1 := r0.cell 1
                  have r0f1 := r0.free 1
                  have r0c2 := r0.cell 2
                  have r0f2 := r0.free 2
                  have r0c3 := r0.cell 3
                  have r0f3 := r0.free 3
                  have r0c4 := r0.cell 4
                  have r0f4 := r0.free 4
                  have r0l := r0.lt
                  simp at r0c0 r0c1 r0c2 r0c3 r0c4
                  go_wp2
                  go_meet
                  exact ⟨rfl, rfl, by (exact kpt)⟩
                · have hH : HH = 0 := by rw [hhi, if_neg h2, if_neg h9]
                  have e9 : (t == 9) = false := by simp [h9]
                  clear hlo hhi h2 h9 HN2
                  subst hL hH
                  go_wp2
                  go_meet
                  exact ⟨rfl, rfl, by (exact kpt)⟩
            case rest =>
            obtain ⟨rfl, rfl, hkx⟩ := hcut
            have HM := HM2.keep hkx
            have rat := rat2.keep hkx
            clear HM2 rat2 hkx hlo hhi
            go_wp2
            go_loopw [15, 20] (fun s15 s20 wn => ∃ L2 T2, ∃ m : Nat, m ≤ NN ∧ s20 = .int .i64 (LO + (m : Int)) ∧ PlanI p b wd ship L2 T2 h (K0 + m) ∧ PlanM p wd #[.slice a p.axes.length c, .int .i64 p.people, .int .i64 p.most, .slice e p.pulls.length d, .int .i64 p.cross] w M B N wn s15 T2 (L2.map fun q => q.1) ∧ L2[h]? = some (bq, pq) ∧ T2.head? = some (bq, pq, (.slice ad pq.length cp : Value)) ∧ Blk wn nA #[.int .u8 bq.ship, .int .i64 bq.axis, .int .i64 bq.held, .bool bq.wire, .bool bq.opn, .slice ad pq.length cp] 108 ∧ s15.ownBlock ≠ some nA) (fun _ s20 _ => (HH + 1 - intOf s20).toNat)
            case atStart => exact ⟨L2, T2, 0, Nat.zero_le _, by simp, HI2, HM, HLH2, HTH2, rat, hne2⟩
            case round =>
              clear HI2 HM HLH2 HTH2 rat hne2
              obtain ⟨L3, T3, m, hm, rfl, HI3, HM3, HLH3, HTH3, rat3, hne3⟩ := hrel
              obtain ⟨g3, off3, cap3, rfl, -⟩ := HM3.que.form
              by_cases hmt : m < NN
              · have u1 : LO + (m : Int) ≤ HH := (HN2.out m).1 hmt
                obtain ⟨hidx, hact⟩ := HAT.out m hmt
                obtain ⟨hlt3, hLe⟩ := List.getElem?_eq_some_iff.1 HLH3
                have hfew3 := HI3.search.few HP.out hs0 HVB.out
                have hTl3 : T3.length ≤ 154368 := by rw [HI3.len]; omega
                have hst := step_try (a := ⟨t, LO + (m : Int)⟩) HP.out hqv HW.out ht13
                obtain ⟨x, hx0⟩ : ∃ x : Int, x = LO + (m : Int) := ⟨_, rfl⟩
                rw [← hx0] at hst hact
                have HX := Lib.hid hx0
                obtain ⟨R, hR0⟩ : ∃ R, tryR p (dockOf p bq ⟨⟨t, x⟩, wd⟩) t = R := ⟨_, rfl⟩
                obtain ⟨DB, hDB0⟩ : ∃ D, doneB (dockOf p bq ⟨⟨t, x⟩, wd⟩) t = D := ⟨_, rfl⟩
                simp only [hR0, hDB0] at hst
                have hRp : 0 ≤ R := by rw [← hR0]; exact firstNot_pos
                have HR := Lib.hid (show tryR p { (⟨bq, needP p, wd, 0⟩ : Dock) with n := x } t = R from hR0)
                have HDB := Lib.hid (show doneB { (⟨bq, needP p, wd, 0⟩ : Dock) with n := x } t = DB from hDB0)
                have HSK := Lib.hid (fun (hs : ∀ y, stepB p wd bq ⟨t, x⟩ = some y → ∃ q ∈ L3, q.1 = y) => (HI3.to (HI3.search.skip HC.out hlt3 hidx (by rw [hLe, hact]; exact hs))))
                have HPU := Lib.hid (fun (h0 : stepB p wd bq ⟨t, x⟩ = some DB) (hn : ∀ q ∈ L3, q.1 ≠ DB) (u : Value) => (HI3.push hlt3 (y := DB) (l := pq ++ [⟨t, x⟩]) u (by
                  have := HI3.search.push HC.out hlt3 hidx (y := DB) (by rw [hLe, hact]; exact h0) hn
                  rw [hLe, hact] at this
                  exact this)))
                have hax := (berth_parts hqv).2.1
                have hax : 0 ≤ bq.axis ∧ bq.axis < p.axes.length := by omega
                obtain ⟨T4, HT4⟩ : ∃ T4, T3 = (bq, pq, (.slice ad pq.length cp : Value)) :: T4 := by
                  cases T3 with
                  | nil => cases HTH3
                  | cons t T => exact ⟨T, by cases HTH3; rfl⟩
                have HTM := Lib.hid (show (bq, pq, (.slice ad pq.length cp : Value)) ∈ T3 by rw [HT4]; exact List.mem_cons_self)
                have HLX := Lib.hid (show (⟨bq, pq⟩ : Berth × List Deed) ∈ L3 by rw [← hLe]; exact List.getElem_mem hlt3)
                have hlenp : pq.length ≤ h := hlenq
                have hh3 : h ≤ 154368 := by omega
                have hm1 : m + 1 ≤ NN := by omega
                clear hact hLe hx0 hR0 hDB0 HI3 HT4 hmt
                have hkw3 := HM3.kept
                have rat3c0 := rat3.cell 0
                have rat3c1 := rat3.cell 1
                have rat3c2 := rat3.cell 2
                have rat3c3 := rat3.cell 3
                have rat3c4 := rat3.cell 4
                have rat3c5 := rat3.cell 5
                have rat3f0 := rat3.free 0
                have rat3f1 := rat3.free 1
                have rat3f2 := rat3.free 2
                have rat3f3 := rat3.free 3
                have rat3f4 := rat3.free 4
                have rat3f5 := rat3.free 5
                have rat3l := rat3.lt
                simp at rat3c0 rat3c1 rat3c2 rat3c3 rat3c4 rat3c5
                have r0 := HM3.r0
                have r3 := HM3.r3
                go_upto_region 30 with fail
                refine at_world (S := fun V => PlanM p wd #[.slice a p.axes.length c, .int .i64 p.people, .int .i64 p.most, .slice e p.pulls.length d, .int .i64 p.cross] w M B N V (.slice (some ⟨g3, off3, none⟩) T3.length cap3) T3 (L3.map fun q => q.1) ∧ Blk V nA #[.int .u8 bq.ship, .int .i64 bq.axis, .int .i64 bq.held, .bool bq.wire, .bool bq.opn, .slice ad pq.length cp] 108 ∧ Blk V wr.heap.size #[.int .u8 t, .int .i64 x] 48) ⟨HM3.keep (by (exact kpt)), by (exact blk), by rw [HX.out]; (refine Blk.cast (arr := ?_) ?_ ?_; rotate_left 1; (focus (exact blk)); (first | with_reducible rfl | (simp; done) | rfl))⟩ ?_
                obtain ⟨nC, hnC⟩ : ∃ n, n = wr.heap.size := ⟨_, rfl⟩
                rw [← hnC]
                clear hnC HM3 rat3 hkw3 r0 r3 rat3c0 rat3f0 rat3c1 rat3f1 rat3c2 rat3f2 rat3c3 rat3f3 rat3c4 rat3f4 rat3c5 rat3f5 rat3l
                rintro V0 ⟨m0, rat, ra⟩
                have hkw0 := m0.kept
                have hBN := m0.bn
                have hN0 := m0.size
                have r0 := m0.r0
                have r3 := m0.r3
                have ratc0 := rat.cell 0
                have ratc1 := rat.cell 1
                have ratc2 := rat.cell 2
                have ratc3 := rat.cell 3
                have ratc4 := rat.cell 4
                have ratf0 := rat.free 0
                have ratf1 := rat.free 1
                have ratf2 := rat.free 2
                have ratf3 := rat.free 3
                have ratf4 := rat.free 4
                have ratl := rat.lt
                simp at ratc0 ratc1 ratc2 ratc3 ratc4
                have rac0 := ra.cell 0
                have rac1 := ra.cell 1
                have raf0 := ra.free 0
                have raf1 := ra.free 1
                have ral := ra.lt
                simp at rac0 rac1
                have r0c0 := r0.cell 0
                have r0c1 := r0.cell 1
                have r0c2 := r0.cell 2
                have r0c3 := r0.cell 3
                have r0c4 := r0.cell 4
                have r0f0 := r0.free 0
                have r0f1 := r0.free 1
                have r0f2 := r0.free 2
                have r0f3 := r0.free 3
                have r0f4 := r0.free 4
                have r0l := r0.lt
                simp at r0c0 r0c1 r0c2 r0c3 r0c4
                have r3c0 := r3.cell 0
                have r3c1 := r3.cell 1
                have r3c2 := r3.cell 2
                have r3c3 := r3.cell 3
                have r3f0 := r3.free 0
                have r3f1 := r3.free 1
                have r3f2 := r3.free 2
                have r3f3 := r3.free 3
                have r3l := r3.lt
                simp at r3c0 r3c1 r3c2 r3c3
                go_upto_region 31 with fail
                have rd : Blk (V0.alloc (.cells #[.int .u8 bq.ship, .int .i64 bq.axis, .int .i64 bq.held, .bool bq.wire, .bool bq.opn, .slice a p.axes.length c, .int .i64 p.people, .int .i64 p.most, .slice e p.pulls.length d, .int .i64 p.cross, .int .i64 (needP p), .int .i64 wd.xlo, .int .i64 wd.xhi, .int .i64 wd.ylo, .int .i64 wd.yhi, .int .i64 0] 112)) V0.heap.size (dockCells a c e d p ⟨bq, needP p, wd, 0⟩) 112 := Blk.new
                have hxn : Row Axis.cells 2 V0.heap.size (V0.alloc (.cells #[.int .u8 bq.ship, .int .i64 bq.axis, .int .i64 bq.held, .bool bq.wire, .bool bq.opn, .slice a p.axes.length c, .int .i64 p.people, .int .i64 p.most, .slice e p.pulls.length d, .int .i64 p.cross, .int .i64 (needP p), .int .i64 wd.xlo, .int .i64 wd.xhi, .int .i64 wd.ylo, .int .i64 wd.yhi, .int .i64 0] 112)) a p.axes := (hx.later hkw0 (Nat.le_refl _)).keep (Below.alloc (Below.refl _ _) (Nat.le_refl _) _) (Nat.le_refl _)
                clear r0 r3 ratc0 ratf0 ratc1 ratf1 ratc2 ratf2 ratc3 ratf3 ratc4 ratf4 r0c0 r0f0 r0c1 r0f1 r0c2 r0f2 r0c3 r0f3 r0c4 r0f4 r3c0 r3f0 r3c1 r3f1 r3c2 r3f2 r3c3 r3f3 ratl r0l r3l
                by_cases hz : R = 0
                · subst hz
                  rw [if_pos rfl] at hst
                  have hvd : 0 ≤ DB.ship ∧ berthB p DB = true := run_valid (p := p) (w := wd) (x := bq) (y := DB) (r := [⟨t, x⟩]) hqs hqv (by simp [run, hst])
                  obtain ⟨kl, hkl⟩ := key_berth (valid_in HP.out hvd.1 hvd.2)
                  have HKB := Lib.hid hkl
                  clear hkl
                  by_cases hin : DB ∈ L3.map fun q => q.1
                  · have HI4 := HSK.out (fun y hy => by rw [hst] at hy; obtain rfl := Option.some.inj hy; obtain ⟨q, hq, e⟩ := List.mem_map.1 hin; exact ⟨q, hq, e⟩)
                    clear HSK HPU hst
                    go_wp2_with (go_at_call 52; (with_reducible refine (f_try a c e d p ⟨bq, needP p, wd, 0⟩ V0.heap.size t x _ rd M B ((m0.tab).below (Below.alloc (Below.refl _ _) (by omega) _)) (by omega) hxn HP.out HW.out hax ht13).mono ?_); rw [show tryR p { (⟨bq, needP p, wd, 0⟩ : Dock) with n := x } t = 0 from HR.out]; rintro z w9 ⟨rfl, hyes, hnot, hb9⟩; have hk9 : Kept V0 w9 := Below.trans (Below.alloc (Below.refl _ _) (Nat.le_refl _) _) hb9; have rd9 := hyes rfl; have rd9 := (Blk.cast rd9 (show dockCells a c e d p { (⟨bq, needP p, wd, 0⟩ : Dock) with b := doneB { (⟨bq, needP p, wd, 0⟩ : Dock) with n := x } t, n := x } = (dockCells a c e d p ⟨DB, needP p, wd, x⟩) from by rw [HDB.out])); unfold dockCells at rd9; have rd9c0 := rd9.cell 0; have rd9c1 := rd9.cell 1; have rd9c2 := rd9.cell 2; have rd9c3 := rd9.cell 3; have rd9c4 := rd9.cell 4; have rd9f0 := rd9.free 0; have rd9f1 := rd9.free 1; have rd9f2 := rd9.free 2; have rd9f3 := rd9.free 3; have rd9f4 := rd9.free 4; have rd9l := rd9.lt; simp at rd9c0 rd9c1 rd9c2 rd9c3 rd9c4; obtain ⟨nM, hnM, hset⟩ := m0.met; have hlk := (hset.keep hk9).look keyedB Tryz.underlying106 Tryz.underlying4 (zeroBool _) HKB.out; rw [metF_at HKB.out, decide_eq_true hin] at hlk; unfold berthV at hlk)
                    go_roundw
                    case rel => exact ⟨L3, T3, m + 1, hm1, by go_num, HI4, m0.keep hk9, HLH3, HTH3, rat.keep hk9, hne3⟩
                    case measure => simp [intOf]; omega
                  · have HNI := Lib.hid (fun (q : Berth × List Deed) (hq : q ∈ L3) => fun (e : q.1 = DB) => hin (List.mem_map.2 ⟨q, hq, e⟩))
                    have HPV := Lib.hid (fun u : Value => HPU.out hst HNI.out u)
                    clear HSK HPU hst
                    go_upto_region 32 with (go_at_call 52; (with_reducible refine (f_try a c e d p ⟨bq, needP p, wd, 0⟩ V0.heap.size t x _ rd M B ((m0.tab).below (Below.alloc (Below.refl _ _) (by omega) _)) (by omega) hxn HP.out HW.out hax ht13).mono ?_); rw [show tryR p { (⟨bq, needP p, wd, 0⟩ : Dock) with n := x } t = 0 from HR.out]; rintro z w9 ⟨rfl, hyes, hnot, hb9⟩; have hk9 : Kept V0 w9 := Below.trans (Below.alloc (Below.refl _ _) (Nat.le_refl _) _) hb9; have rd9 := hyes rfl; have rd9 := (Blk.cast rd9 (show dockCells a c e d p { (⟨bq, needP p, wd, 0⟩ : Dock) with b := doneB { (⟨bq, needP p, wd, 0⟩ : Dock) with n := x } t, n := x } = (dockCells a c e d p ⟨DB, needP p, wd, x⟩) from by rw [HDB.out])); unfold dockCells at rd9; have rd9c0 := rd9.cell 0; have rd9c1 := rd9.cell 1; have rd9c2 := rd9.cell 2; have rd9c3 := rd9.cell 3; have rd9c4 := rd9.cell 4; have rd9f0 := rd9.free 0; have rd9f1 := rd9.free 1; have rd9f2 := rd9.free 2; have rd9f3 := rd9.free 3; have rd9f4 := rd9.free 4; have rd9l := rd9.lt; simp at rd9c0 rd9c1 rd9c2 rd9c3 rd9c4; obtain ⟨nM, hnM, hset⟩ := m0.met; have hlk := (hset.keep hk9).look keyedB Tryz.underlying106 Tryz.underlying4 (zeroBool _) HKB.out; rw [metF_at HKB.out, decide_eq_false hin] at hlk; unfold berthV at hlk)
                    refine at_world (S := fun V => PlanM p wd #[.slice a p.axes.length c, .int .i64 p.people, .int .i64 p.most, .slice e p.pulls.length d, .int .i64 p.cross] w M B N V (.slice (some ⟨g3, off3, none⟩) T3.length cap3) T3 (L3.map fun q => q.1) ∧ Blk V nA #[.int .u8 bq.ship, .int .i64 bq.axis, .int .i64 bq.held, .bool bq.wire, .bool bq.opn, .slice ad pq.length cp] 108 ∧ Blk V nC #[.int .u8 t, .int .i64 x] 48 ∧ Blk V V0.heap.size (dockCells a c e d p ⟨DB, needP p, wd, x⟩) 112) ⟨m0.keep hk9, rat.keep hk9, ra.keep hk9, rd9⟩ ?_
                    obtain ⟨nD, hnD⟩ : ∃ n, n = V0.heap.size := ⟨_, rfl⟩
                    rw [← hnD]
                    clear hnD rd9 rd9c0 rd9c1 rd9c2 rd9c3 rd9c4 rd9f0 rd9f1 rd9f2 rd9f3 rd9f4 rd9l hlk hset hnM hyes hnot hb9 hk9 rd hxn m0 rat ra hkw0 hN0 HR HDB
                    rintro V1 ⟨m1, rat, ra, rd⟩
                    obtain ⟨nM, hnM, hset⟩ := m1.met
                    have hnM2 : nM ≤ 154368 := by rw [List.length_map] at hnM; omega
                    obtain ⟨w10, hr10, hs10, hg10⟩ := hset.run (g := metF ((L3.map fun q => q.1) ++ [DB])) keyedB Tryz.underlying106 Tryz.underlying4 (by unfold maxLen; omega) HKB.out (metF_put HKB.out).1 (metF_put HKB.out).2
                    unfold berthV at hr10
                    have hno := hset.none
                    have HM10 := Lib.hid (m1.turned hnM hs10 hg10)
                    have HA10 := Lib.hid (rat.turned (fun e => hno _ _ (e ▸ rat)) hg10)
                    have HC10 := Lib.hid (ra.turned (fun e => hno _ _ (e ▸ ra)) hg10)
                    have HD10 := Lib.hid (rd.turned (fun e => hno _ _ (e ▸ rd)) hg10)
                    clear hs10 hg10 hno hset hnM hnM2
                    unfold dockCells at rd
                    have rdc0 := rd.cell 0
                    have rdc1 := rd.cell 1
                    have rdc2 := rd.cell 2
                    have rdc3 := rd.cell 3
                    have rdc4 := rd.cell 4
                    have rdf0 := rd.free 0
                    have rdf1 := rd.free 1
                    have rdf2 := rd.free 2
                    have rdf3 := rd.free 3
                    have rdf4 := rd.free 4
                    have rdl := rd.lt
                    simp at rdc0 rdc1 rdc2 rdc3 rdc4
                    go_upto_region 33 with fail
                    refine at_world (S := fun V => PlanM p wd #[.slice a p.axes.length c, .int .i64 p.people, .int .i64 p.most, .slice e p.pulls.length d, .int .i64 p.cross] w M B N V (.slice (some ⟨g3, off3, none⟩) T3.length cap3) T3 ((L3.map fun q => q.1) ++ [DB]) ∧ Blk V nA #[.int .u8 bq.ship, .int .i64 bq.axis, .int .i64 bq.held, .bool bq.wire, .bool bq.opn, .slice ad pq.length cp] 108 ∧ Blk V nC #[.int .u8 t, .int .i64 x] 48 ∧ Blk V nD (dockCells a c e d p ⟨DB, needP p, wd, x⟩) 112) ⟨HM10.out, HA10.out, HC10.out, HD10.out⟩ ?_
                    clear HM10 HA10 HC10 HD10 hr10 m1 rat ra rd rdc0 rdf0 rdc1 rdf1 rdc2 rdf2 rdc3 rdf3 rdc4 rdf4 rdl
                    rintro V2 ⟨m2, rat, ra, rd⟩
                    have HOA := m2.own _ HTM.out
                    have hzA := owns_none HOA
                    have hrowA : Row Deed.cells 2 V2.heap.size V2 ad pq := by obtain ⟨q1, q2, e, r, _⟩ := owns_row (enc := Deed.cells) (k := 2) deed_len HOA; cases e; exact r
                    have HW2 := Lib.hid m2.kept.size
                    have lA := rat.lt
                    clear HOA
                    refine fork_walk (fun V => Blk V nA #[.int .u8 bq.ship, .int .i64 bq.axis, .int .i64 bq.held, .bool bq.wire, .bool bq.opn, .slice ad pq.length cp] 108 ∧ Blk V nC #[.int .u8 t, .int .i64 x] 48 ∧ Blk V nD (dockCells a c e d p ⟨DB, needP p, wd, x⟩) 112) (fun u v V => ∃ ad5 cp5 g, u = .slice ad5 pq.length cp5 ∧ v = .slice (some ⟨g, 0, none⟩) 1 1 ∧ V.ownsRow V2.heap.size 48 2 u pq.length (pq.flatMap Deed.cells) ∧ Blk V g #[.int .u8 t, .int .i64 x] 48 ∧ Kept V2 V) [0, 1, 2, 3, 4, 5, 6, 8] 7 9 [(false, 10), (true, 11), (false, 12), (false, 13), (true, 14)] (by kernel_rfl) (by kernel_rfl) (fun c a d v w h => by cases d <;> exact h) ⟨rat, ra, rd⟩ ?_
                    simp only [List.filterMap_cons, List.filterMap_nil, List.getElem?_cons_zero, List.getElem?_cons_succ, Option.map_some]
                    refine taken_take ?_ ?_ (fun w' hS => ?_) ?_; rotate_left 1; (focus rfl); (focus (have y0 := hS.1.cell 0; have y1 := hS.1.cell 1; have y2 := hS.1.cell 2; have y3 := hS.1.cell 3; have y4 := hS.1.cell 4; have y5 := hS.1.cell 5; have z0 := hS.2.1.cell 0; have z1 := hS.2.1.cell 1; have hS3 := hS.2.2; unfold dockCells at hS3; have x0 := hS3.cell 0; have x1 := hS3.cell 1; have x2 := hS3.cell 2; have x3 := hS3.cell 3; have x4 := hS3.cell 4; have l1 := hS.1.lt; have l2 := hS.2.1.lt; have l3 := hS3.lt; simp at y0 y1 y2 y3 y4 y5 z0 z1 x0 x1 x2 x3 x4; first | (go_simp; done) | (go_simp; with_reducible rfl))); simp only [Act.put, List.setIfInBounds_toArray, List.set_cons_zero, List.set_cons_succ]
                    refine taken_take ?_ ?_ (fun w' hS => ?_) ?_; rotate_left 1; (focus rfl); (focus (have y0 := hS.1.cell 0; have y1 := hS.1.cell 1; have y2 := hS.1.cell 2; have y3 := hS.1.cell 3; have y4 := hS.1.cell 4; have y5 := hS.1.cell 5; have z0 := hS.2.1.cell 0; have z1 := hS.2.1.cell 1; have hS3 := hS.2.2; unfold dockCells at hS3; have x0 := hS3.cell 0; have x1 := hS3.cell 1; have x2 := hS3.cell 2; have x3 := hS3.cell 3; have x4 := hS3.cell 4; have l1 := hS.1.lt; have l2 := hS.2.1.lt; have l3 := hS3.lt; simp at y0 y1 y2 y3 y4 y5 z0 z1 x0 x1 x2 x3 x4; first | (go_simp; done) | (go_simp; with_reducible rfl))); simp only [Act.put, List.setIfInBounds_toArray, List.set_cons_zero, List.set_cons_succ]
                    refine taken_take ?_ ?_ (fun w' hS => ?_) ?_; rotate_left 1; (focus rfl); (focus (have y0 := hS.1.cell 0; have y1 := hS.1.cell 1; have y2 := hS.1.cell 2; have y3 := hS.1.cell 3; have y4 := hS.1.cell 4; have y5 := hS.1.cell 5; have z0 := hS.2.1.cell 0; have z1 := hS.2.1.cell 1; have hS3 := hS.2.2; unfold dockCells at hS3; have x0 := hS3.cell 0; have x1 := hS3.cell 1; have x2 := hS3.cell 2; have x3 := hS3.cell 3; have x4 := hS3.cell 4; have l1 := hS.1.lt; have l2 := hS.2.1.lt; have l3 := hS3.lt; simp at y0 y1 y2 y3 y4 y5 z0 z1 x0 x1 x2 x3 x4; first | (go_simp; done) | (go_simp; with_reducible rfl))); simp only [Act.put, List.setIfInBounds_toArray, List.set_cons_zero, List.set_cons_succ]
                    refine taken_take ?_ ?_ (fun w' hS => ?_) ?_; rotate_left 1; (focus rfl); (focus (have y0 := hS.1.cell 0; have y1 := hS.1.cell 1; have y2 := hS.1.cell 2; have y3 := hS.1.cell 3; have y4 := hS.1.cell 4; have y5 := hS.1.cell 5; have z0 := hS.2.1.cell 0; have z1 := hS.2.1.cell 1; have hS3 := hS.2.2; unfold dockCells at hS3; have x0 := hS3.cell 0; have x1 := hS3.cell 1; have x2 := hS3.cell 2; have x3 := hS3.cell 3; have x4 := hS3.cell 4; have l1 := hS.1.lt; have l2 := hS.2.1.lt; have l3 := hS3.lt; simp at y0 y1 y2 y3 y4 y5 z0 z1 x0 x1 x2 x3 x4; first | (go_simp; done) | (go_simp; with_reducible rfl))); simp only [Act.put, List.setIfInBounds_toArray, List.set_cons_zero, List.set_cons_succ]
                    refine taken_take ?_ ?_ (fun w' hS => ?_) ?_; rotate_left 1; (focus rfl); (focus (have y0 := hS.1.cell 0; have y1 := hS.1.cell 1; have y2 := hS.1.cell 2; have y3 := hS.1.cell 3; have y4 := hS.1.cell 4; have y5 := hS.1.cell 5; have z0 := hS.2.1.cell 0; have z1 := hS.2.1.cell 1; have hS3 := hS.2.2; unfold dockCells at hS3; have x0 := hS3.cell 0; have x1 := hS3.cell 1; have x2 := hS3.cell 2; have x3 := hS3.cell 3; have x4 := hS3.cell 4; have l1 := hS.1.lt; have l2 := hS.2.1.lt; have l3 := hS3.lt; simp at y0 y1 y2 y3 y4 y5 z0 z1 x0 x1 x2 x3 x4; first | (go_simp; done) | (go_simp; with_reducible rfl))); simp only [Act.put, List.setIfInBounds_toArray, List.set_cons_zero, List.set_cons_succ]
                    refine taken_take ?_ ?_ (fun w' hS => ?_) ?_; rotate_left 1; (focus rfl); (focus (have y0 := hS.1.cell 0; have y1 := hS.1.cell 1; have y2 := hS.1.cell 2; have y3 := hS.1.cell 3; have y4 := hS.1.cell 4; have y5 := hS.1.cell 5; have z0 := hS.2.1.cell 0; have z1 := hS.2.1.cell 1; have hS3 := hS.2.2; unfold dockCells at hS3; have x0 := hS3.cell 0; have x1 := hS3.cell 1; have x2 := hS3.cell 2; have x3 := hS3.cell 3; have x4 := hS3.cell 4; have l1 := hS.1.lt; have l2 := hS.2.1.lt; have l3 := hS3.lt; simp at y0 y1 y2 y3 y4 y5 z0 z1 x0 x1 x2 x3 x4; first | (go_simp; done) | (go_simp; with_reducible rfl))); simp only [Act.put, List.setIfInBounds_toArray, List.set_cons_zero, List.set_cons_succ]
                    refine taken_take ?_ ?_ (fun w' hS => ?_) ?_; rotate_left 1; (focus rfl); (focus (have y0 := hS.1.cell 0; have y1 := hS.1.cell 1; have y2 := hS.1.cell 2; have y3 := hS.1.cell 3; have y4 := hS.1.cell 4; have y5 := hS.1.cell 5; have z0 := hS.2.1.cell 0; have z1 := hS.2.1.cell 1; have hS3 := hS.2.2; unfold dockCells at hS3; have x0 := hS3.cell 0; have x1 := hS3.cell 1; have x2 := hS3.cell 2; have x3 := hS3.cell 3; have x4 := hS3.cell 4; have l1 := hS.1.lt; have l2 := hS.2.1.lt; have l3 := hS3.lt; simp at y0 y1 y2 y3 y4 y5 z0 z1 x0 x1 x2 x3 x4; first | (go_simp; done) | (go_simp; with_reducible rfl))); simp only [Act.put, List.setIfInBounds_toArray, List.set_cons_zero, List.set_cons_succ]
                    refine taken_take ?_ ?_ (fun w' hS => ?_) ?_; rotate_left 1; (focus rfl); (focus (have y0 := hS.1.cell 0; have y1 := hS.1.cell 1; have y2 := hS.1.cell 2; have y3 := hS.1.cell 3; have y4 := hS.1.cell 4; have y5 := hS.1.cell 5; have z0 := hS.2.1.cell 0; have z1 := hS.2.1.cell 1; have hS3 := hS.2.2; unfold dockCells at hS3; have x0 := hS3.cell 0; have x1 := hS3.cell 1; have x2 := hS3.cell 2; have x3 := hS3.cell 3; have x4 := hS3.cell 4; have l1 := hS.1.lt; have l2 := hS.2.1.lt; have l3 := hS3.lt; simp at y0 y1 y2 y3 y4 y5 z0 z1 x0 x1 x2 x3 x4; first | (go_simp; done) | (go_simp; with_reducible rfl))); simp only [Act.put, List.setIfInBounds_toArray, List.set_cons_zero, List.set_cons_succ]
                    refine taken_nil ?_
                    intro oi oj hoi hoj
                    simp only [Option.some.injEq] at hoi hoj
                    subst hoi hoj
                    refine ⟨?_, ?_, ?_⟩
                    · refine next_plain rfl fun K1 Q1 hK1 => ?_
                      go_wp2_with (go_at_call 53; (with_reducible refine (s_CloneA ad cp pq _ (hrowA.later (by (exact kpt)) (Nat.le_refl _)) (by omega) hzA).mono ?_); rintro z w5 ⟨v5, rfl, ho5, hb5⟩; obtain ⟨ad5, cp5, rfl, _⟩ := owns_row (enc := Deed.cells) (k := 2) deed_len ho5)
                      refine hK1.out _ _ ⟨by (exact blk), by (exact blk), by (exact blk)⟩ ?_
                      refine next_plain rfl fun K2 Q2 hK2 => ?_
                      go_wp2
                      refine hK2.out _ _ ⟨by (exact blk), by (exact blk), by (exact blk)⟩ ?_
                      exact ⟨_, _, rfl, ad5, cp5, _, rfl, rfl, owns_keep (owns_base ho5 (Nat.le_refl _)) (by (exact kpt)), by (exact blk), by (exact kpt)⟩
                    · refine next_plain rfl fun K1 Q1 hK1 => ?_
                      go_wp2
                      refine hK1.out _ _ ⟨by (exact blk), by (exact blk), by (exact blk)⟩ ?_
                      refine next_plain rfl fun K2 Q2 hK2 => ?_
                      go_wp2_with (go_at_call 53; (with_reducible refine (s_CloneA ad cp pq _ (hrowA.later (by (exact kpt)) (Nat.le_refl _)) (by omega) hzA).mono ?_); rintro z w5 ⟨v5, rfl, ho5, hb5⟩; obtain ⟨ad5, cp5, rfl, _⟩ := owns_row (enc := Deed.cells) (k := 2) deed_len ho5)
                      refine hK2.out _ _ ⟨by (exact blk), by (exact blk), by (exact blk)⟩ ?_
                      exact ⟨_, _, rfl, ad5, cp5, _, rfl, rfl, owns_base ho5 (by simp), by (exact blk), by (exact kpt)⟩
                    intro u v w3 hS3 hR
                    obtain ⟨ad5, cp5, g5, rfl, rfl, ho5, hb5, hk5⟩ := hR
                    simp only [Act.put, List.setIfInBounds_toArray, List.set_cons_zero, List.set_cons_succ]
                    refine held_one ?_
                    refine wpList_step1 rfl ?_
                    refine step_push rfl _ _ 40 rfl V2.heap.size 48 (.agg #[.int .u8 0, .int .i64 0]) 2 16 Tryz.underlying40 infoDeed rfl (by decide) _ pq.length (pq.flatMap Deed.cells) (by rfl) ho5 _ [.int .u8 t, .int .i64 x] 48 (by rfl) rfl hb5 (fun u hu => by simp at hu; rcases hu with rfl | rfl <;> rfl) (by omega) (by decide) hk5.size ?_
                    intro v8 w8 ho8 hg8
                    have hk8 : Kept V2 w8 := Kept.grown hk5 ho5 (Nat.le_refl _) hg8
                    have ho8b : w8.ownsRow V2.heap.size 48 2 v8 (pq ++ [(⟨t, x⟩ : Deed)]).length ((pq ++ [(⟨t, x⟩ : Deed)]).flatMap Deed.cells) := by rw [List.flatMap_append, List.length_append]; exact ho8
                    obtain ⟨ad8, cp8, hv8, _⟩ := owns_row (enc := Deed.cells) (k := 2) deed_len ho8b
                    obtain rfl : v8 = .slice ad8 (pq.length + 1) cp8 := by rw [hv8]; simp
                    clear hv8
                    refine held_on ⟨by (exact blk), by (exact blk), by (exact blk)⟩ ?_
                    simp only [Act.put, List.setIfInBounds_toArray, List.set_cons_zero, List.set_cons_succ]
                    refine held_take ?_ ?_ (fun w' hS => ?_) ?_; rotate_left 1; (focus rfl); (focus (skip; first | (go_simp; done) | (go_simp; with_reducible rfl)))
                    simp only [Act.put, List.setIfInBounds_toArray, List.set_cons_zero, List.set_cons_succ]
                    refine held_one ?_
                    refine wpList_plain rfl fun K1 hK1 => ?_
                    go_wp2
                    refine held_on ⟨by (exact blk), by (exact blk), by (exact blk)⟩ ?_
                    refine held_one ?_
                    have m8 := m2.keep (Kept.alloc hk8 (.cells #[.int .u8 DB.ship, .int .i64 DB.axis, .int .i64 DB.held, .bool DB.wire, .bool DB.opn, .slice ad8 (pq.length + 1) cp8] 108))
                    refine wpList_push_que _ rfl _ _ 109 rfl 108 (.agg #[.int .u8 0, .int .i64 0, .int .i64 0, .bool false, .bool false, .slice none 0 0]) 6 56 Tryz.underlying109 infoRoute rfl (by decide) N (Nat.le_of_lt m8.size) _ T3.length (T3.flatMap routeC) rfl m8.que _ (routeC (DB, (pq ++ [(⟨t, x⟩ : Deed)]), .slice ad8 (pq.length + 1) cp8)) 108 rfl rfl (Blk.new' (by simp)) (fun u hu => by simp [routeC] at hu; rcases hu with rfl | rfl | rfl | rfl | rfl | rfl <;> rfl) (by omega) (by decide) ?_
                    intro v9 w9 hq9 hg9 hv9
                    have m9 := m8.grow (t := (DB, (pq ++ [(⟨t, x⟩ : Deed)]), .slice ad8 (pq.length + 1) cp8)) (owns_keep (owns_base ho8b HW2.out) (Kept.alloc (Below.refl _ _) _)) hq9 hg9
                    have rat9 : Blk w9 nA #[.int .u8 bq.ship, .int .i64 bq.axis, .int .i64 bq.held, .bool bq.wire, .bool bq.opn, .slice ad pq.length cp] 108 := Blk.beside (by (exact blk)) hne3 hg9
                    have ra9 : Blk w9 nC #[.int .u8 t, .int .i64 x] 48 := Blk.grownQ (by (exact blk)) m8.que (by decide) hg9
                    have rd9 : Blk w9 nD (dockCells a c e d p ⟨DB, needP p, wd, x⟩) 112 := Blk.grownQ (by (exact blk)) m8.que (by decide) hg9
                    refine held_on ⟨rat9, ra9, rd9⟩ ?_
                    simp only [Act.put, List.setIfInBounds_toArray, List.set_cons_zero, List.set_cons_succ]
                    refine held_take ?_ ?_ (fun w' hS => ?_) ?_; rotate_left 1; (focus rfl); (focus (skip; first | (go_simp; done) | (go_simp; with_reducible rfl)))
                    simp only [Act.put, List.setIfInBounds_toArray, List.set_cons_zero, List.set_cons_succ]
                    refine held_nil ?_
                    have HV9 := Lib.hid hv9
                    have HK8 := Lib.hid hk8.size
                    clear hk8 ho8 ho8b hb5 ho5 hk5 hg8 m8 rat ra rd m2 hv9 hq9 hg9 ra9 rd9 hS3 hrowA hzA
                    go_wp2_with fail
                    go_roundw
                    case rel =>
                      refine ⟨L3 ++ [(DB, pq ++ [⟨t, x⟩])], T3 ++ [(DB, pq ++ [⟨t, x⟩], .slice ad8 (pq.length + 1) cp8)], m + 1, hm1, by go_num, HPV.out _, ?_, ?_, ?_, rat9, ?_⟩
                      · rw [List.map_append]; exact m9
                      · rw [List.getElem?_append_left (by omega)]; exact HLH3
                      · cases T3 with
                        | nil => cases HTH3
                        | cons t T => exact HTH3
                      · rcases HV9.out with e | ⟨g', e, hg'⟩
                        · rw [e]; exact hne3
                        · rw [e]; simp at hg' ⊢; have := HK8.out; omega
                    case measure => simp [intOf]; omega
                · rw [if_neg hz] at hst
                  have HI4 := HSK.out (fun y hy => by rw [hst] at hy; cases hy)
                  have hRq : 0 < R := by omega
                  clear HSK HPU hst HDB hz
                  go_wp2_with (go_at_call 52; (with_reducible refine (f_try a c e d p ⟨bq, needP p, wd, 0⟩ V0.heap.size t x _ rd M B ((m0.tab).below (Below.alloc (Below.refl _ _) (by omega) _)) (by omega) hxn HP.out HW.out hax ht13).mono ?_); rw [show tryR p { (⟨bq, needP p, wd, 0⟩ : Dock) with n := x } t = R from HR.out]; rintro z w9 ⟨rfl, hyes, hnot, hb9⟩; have hk9 : Kept V0 w9 := Below.trans (Below.alloc (Below.refl _ _) (Nat.le_refl _) _) hb9; skip)
                  go_roundw
                  case rel => exact ⟨L3, T3, m + 1, hm1, by go_num, HI4, m0.keep hk9, HLH3, HTH3, rat.keep hk9, hne3⟩
                  case measure => simp [intOf]; omega
              · obtain rfl : NN = m := by omega
                have u1 : ¬ LO + (NN : Int) ≤ HH := fun h => absurd ((HN2.out NN).2 h) (Nat.lt_irrefl _)
                rw [← HNX.out] at HI3
                go_wp2
                go_roundw
                case rel => exact ⟨L3, T3, k + 1, hk14, by rw [HT.out]; go_num, HI3, HM3, HLH3, HTH3, rat3, hne3⟩
                case measure => simp [intOf]; omega
          · obtain rfl : k = 13 := by omega
            obtain ⟨g2, off2, cap2, rfl, -⟩ := HM2.que.form
            obtain ⟨hlt2, hLe2⟩ := List.getElem?_eq_some_iff.1 HLH2
            have hT2 : 0 < T2.length := by rw [HI2.len]; omega
            have HM4 := Lib.hid (HM2.next rfl hT2)
            have HI4 := Lib.hid (HI2.next hlt2 (by rw [hLe2]; exact HGF.out))
            have hq2 := HM2.que.form
            obtain ⟨_, _, _, e2, _, _, hcl2, hcM2, _⟩ := hq2
            simp at e2
            obtain ⟨-, -, rfl⟩ := e2
            have hTi : (1 : Int) ≤ (T2.length : Int) := by omega
            have hci : (1 : Int) ≤ (cap2 : Int) := by omega
            clear HI2 HM2
            go_wp2
            go_roundw
            case rel => exact ⟨154369 - (h + 1), L2, T2.tail, h + 1, by omega, rfl, HI4.out, HM4.out⟩
            case measure =>
              refine Nat.lt_of_le_of_lt (leastOf_ok (n := 154369 - (h + 1)) ⟨L2, T2.tail, h + 1, by omega, rfl, HI4.out, HM4.out⟩).2 ?_
              exact Nat.lt_of_lt_of_le (by omega : 154369 - (h + 1) < 154369 - h) (Nat.le_of_eq HMM.out)
    · obtain rfl : L.length = h := by omega
      have t0 : ¬ (0 : Int) < (T.length : Int) := by rw [HI.len]; omega
      have HE := Lib.hid (HI.search.at_end HC.out (goal := goalB ship) (fun q hq => by
        obtain ⟨i, hi, rfl⟩ := List.mem_iff_getElem.1 hq
        exact HI.no i hi hi))
      have HKW := Lib.hid HM.kept
      clear HI HM hcell HMM
      go_wp2
      exact bodyPost_ret (v := .tuple #[.slice none 0 0, .int .i64 6]) (by simp [results, Tryz.results17, go_sem]) rfl ⟨none, HE.out, _, rfl, owns_nil (α := Deed) (enc := Deed.cells), Kept.drop HKW.out (by (exact kpt))⟩

end Go.Proofs.YtacbkbilbmkjnaaGreat

/-
  Plans, both sides.
-/
namespace Go.Proofs.YtacbkbilbmkjnaaGreat
open Go.RowKit Bal Bal.Trim Bal.Mast
set_option linter.unusedVariables false
set_option linter.unusedSimpArgs false
set_option maxHeartbeats 4000000
set_option maxRecDepth 10000

def planErr (p : Port) (b : Berth) (wd : Wind) (ship : Int) : Int := if checkBerth p b = 0 then (if windB wd = true then (if 5 < ship then 2 else 0) else 71) else checkBerth p b
/-- what Plan answers, by the numbers that acts are tried with -/
def PlanRes (nums : Port → Int → List Int) (p : Port) (b : Berth) (wd : Wind) (ship : Int) (E : Int) (l : List Deed) : Prop :=
  (planErr p b wd ship ≠ 0 ∧ E = planErr p b wd ship ∧ l = []) ∨ ((portB p = true ∧ berthB p b = true ∧ windB wd = true ∧ ship ≤ 5) ∧ planErr p b wd ship = 0 ∧ ∃ r, Least (stepB p wd) 4096 codeD (actsOf (nums p)) b (goalB ship) r ∧ E = outE r ∧ l = outL r)
theorem check_parts {p : Port} {b : Berth} (h : checkBerth p b = 0) : portB p = true ∧ berthB p b = true := by
  unfold checkBerth at h
  cases c4 : portB p
  · rw [c4] at h; simp at h
  · cases c5 : berthB p b
    · rw [c4, c5] at h; simp at h
    · exact ⟨rfl, rfl⟩
theorem plan_ok {p : Port} {b : Berth} {wd : Wind} {ship : Int} (h : checkBerth p b = 0) (hw : windB wd = true) (hs : ¬ 5 < ship) : planErr p b wd ship = 0 := by
  unfold planErr; rw [if_pos h, if_pos hw, if_neg hs]

theorem f_Plan (a : Option Addr) (c : Nat) (e : Option Addr) (d : Nat) (p : Port) (w : World) (hx : Row Axis.cells 2 w.heap.size w a p.axes) (hc : p.axes.length ≤ c) (hM : c ≤ maxLen) (hy : Row Span.cells 2 w.heap.size w e p.pulls) (hd : p.pulls.length ≤ d) (hN : d ≤ maxLen) (h1 : p.axes.length ≤ 1000000) (h2 : p.pulls.length ≤ 1000000) (b : Berth) (hs0 : 0 ≤ b.ship) (wd : Wind) (ship : Int) (hsh : 0 ≤ ship ∧ ship ≤ 255) :
    Calls Tryz.prog 17 #[.agg #[.slice a p.axes.length c, .int .i64 p.people, .int .i64 p.most, .slice e p.pulls.length d, .int .i64 p.cross], .agg #[.int .u8 b.ship, .int .i64 b.axis, .int .i64 b.held, .bool b.wire, .bool b.opn], .agg #[.int .i64 wd.xlo, .int .i64 wd.xhi, .int .i64 wd.ylo, .int .i64 wd.yhi], .int .u8 ship] w fun z w' => ∃ v l E, PlanRes numsP p b wd ship E l ∧ z = .returned (.tuple #[v, .int .i64 E]) ∧ w'.ownsRow w.heap.size 48 2 v l.length (l.flatMap Deed.cells) ∧ Kept w w' := by
  have early : ∀ E : Int, planErr p b wd ship = E → E ≠ 0 → Calls Tryz.prog 17 #[.agg #[.slice a p.axes.length c, .int .i64 p.people, .int .i64 p.most, .slice e p.pulls.length d, .int .i64 p.cross], .agg #[.int .u8 b.ship, .int .i64 b.axis, .int .i64 b.held, .bool b.wire, .bool b.opn], .agg #[.int .i64 wd.xlo, .int .i64 wd.xhi, .int .i64 wd.ylo, .int .i64 wd.yhi], .int .u8 ship] w (fun z w' => z = .returned (.tuple #[.slice none 0 0, .int .i64 E]) ∧ Kept w w') → Calls Tryz.prog 17 #[.agg #[.slice a p.axes.length c, .int .i64 p.people, .int .i64 p.most, .slice e p.pulls.length d, .int .i64 p.cross], .agg #[.int .u8 b.ship, .int .i64 b.axis, .int .i64 b.held, .bool b.wire, .bool b.opn], .agg #[.int .i64 wd.xlo, .int .i64 wd.xhi, .int .i64 wd.ylo, .int .i64 wd.yhi], .int .u8 ship] w fun z w' => ∃ v l E, PlanRes numsP p b wd ship E l ∧ z = .returned (.tuple #[v, .int .i64 E]) ∧ w'.ownsRow w.heap.size 48 2 v l.length (l.flatMap Deed.cells) ∧ Kept w w' := by
    intro E hE hne h
    refine h.mono ?_
    rintro z w' ⟨rfl, hk⟩
    exact ⟨_, [], E, .inl ⟨by rw [hE]; exact hne, hE.symm, rfl⟩, rfl, owns_nil (α := Deed) (enc := Deed.cells), hk⟩
  by_cases hcb : checkBerth p b = 0
  · obtain ⟨hp, hb⟩ := check_parts hcb
    cases hw : windB wd
    · exact early 71 (by simp [planErr, hcb, hw]) (by omega) (f_Plan_wind a c e d p w hx hc hM hy hd hN h1 h2 b hs0 wd ship hcb hw)
    · by_cases h5 : 5 < ship
      · exact early 2 (by simp [planErr, hcb, hw, h5]) (by omega) (f_Plan_ship a c e d p w hx hc hM hy hd hN h1 h2 b hs0 wd ship hcb hw h5)
      · have hok := plan_ok hcb hw h5
        have hq : portB p = true ∧ berthB p b = true ∧ windB wd = true ∧ ship ≤ 5 := ⟨hp, hb, hw, by omega⟩
        refine (f_Plan_main a c e d p w hx hc hM hy hd hN h1 h2 hp b hs0 hb wd hw ship ⟨hsh.1, by omega⟩).mono ?_
        rintro z w' ⟨r, v, hl, rfl, ho, hk⟩
        exact ⟨v, outL r, outE r, .inr ⟨hq, hok, r, hl, rfl, rfl⟩, rfl, ho, hk⟩
  · exact early (checkBerth p b) (by simp [planErr, hcb]) hcb (f_Plan_berth a c e d p w hx hc hM hy hd hN h1 h2 b hs0 wd ship _ rfl hcb)

end Go.Proofs.YtacbkbilbmkjnaaGreat

/-
  Decision tables, checked, in the reference; tables that are great.
-/
namespace Go.Proofs.YtacbkbilbmkjnaaGreat
open Go.RowKit Bal Bal.Trim Bal.Mast
set_option linter.unusedVariables false
set_option linter.unusedSimpArgs false
set_option maxHeartbeats 2000000
set_option maxRecDepth 20000

def spanOk (s : Span) : Bool := spanIn s.lo s.hi (-1000) 1000
def rowOk (n : Nat) (r : Rw) : Bool := (decide (r.conds.length = n) && inB r.action 0 99) && r.conds.all spanOk
def validB (d : Tb) : Bool := ((inB (d.vars.length : Int) 1 3 && decide (d.rows.length ≤ 30)) && d.vars.all spanOk) && d.rows.all (rowOk d.vars.length)
def checkRows (d : Tb) : Int := if validB d then 0 else 76
theorem bad_check {d : Tb} (h : validB d = false) : checkRows d = 76 := by unfold checkRows; rw [h]; rfl
theorem good_check {d : Tb} (h : validB d = true) : checkRows d = 0 := by unfold checkRows; rw [h]; rfl
theorem valid_parts {d : Tb} : validB d = true ↔ inB (d.vars.length : Int) 1 3 = true ∧ d.rows.length ≤ 30 ∧ (∀ v ∈ d.vars, spanOk v = true) ∧ ∀ r ∈ d.rows, r.conds.length = d.vars.length ∧ inB r.action 0 99 = true ∧ ∀ c ∈ r.conds, spanOk c = true := by
  simp only [validB, rowOk, Bool.and_eq_true, decide_eq_true_eq, List.all_eq_true]
  constructor
  · rintro ⟨⟨⟨h1, h2⟩, h3⟩, h4⟩
    exact ⟨h1, h2, h3, fun r hr => ⟨(h4 r hr).1.1, (h4 r hr).1.2, (h4 r hr).2⟩⟩
  · rintro ⟨h1, h2, h3, h4⟩
    exact ⟨⟨⟨h1, h2⟩, h3⟩, fun r hr => ⟨⟨(h4 r hr).1, (h4 r hr).2.1⟩, (h4 r hr).2.2⟩⟩
theorem not_valid {d : Tb} (h : ¬ (validB d = true)) : checkRows d = 76 := bad_check (by simpa using h)
theorem spanOk_le {s : Span} (h : spanOk s = true) : (-1000 ≤ s.lo ∧ s.lo ≤ 1000) ∧ (-1000 ≤ s.hi ∧ s.hi ≤ 1000) ∧ s.lo ≤ s.hi := by
  unfold spanOk spanIn rng at h
  simp only [List.all_cons, List.all_nil, Bool.and_true, Bool.and_eq_true, decide_eq_true_eq, inB_iff] at h
  omega
theorem valid_even {d : Tb} (h : validB d = true) : Even d := fun r hr => ((valid_parts.1 h).2.2.2 r hr).1
theorem valid_le {d : Tb} (h : validB d = true) : ∀ v ∈ d.vars, v.lo ≤ v.hi := fun v hv => (spanOk_le ((valid_parts.1 h).2.2.1 v hv)).2.2
theorem rows_len {vs : List Span} {rs : List RowM} : (tbOf vs rs).rows.length = rs.length := by simp [tbOf]
theorem mem_rowsT {vs : List Span} {rs : List RowM} {x : RowM} (h : x ∈ rs) : x.r ∈ (tbOf vs rs).rows := List.mem_map.2 ⟨x, h, rfl⟩

def greatR (d : Tb) : Bool := (decide (5 < d.vars.length) || decide (35 < d.rows.length)) || (d.rows.any (fun r => decide (10 < r.conds.length)) || (decide (d.vars.length = 3) && inB (d.rows.length : Int) 13 30))
theorem r_GreatRows (vs : List Span) (va : Option Addr) (vc : Nat) (rs : List RowM) (ra : Option Addr) (rc : Nat) (w : World) (ht : TabAt ⟨vs, va, vc, rs, ra, rc⟩ w) :
    Calls Tryz.prog 25 #[.agg #[.slice va vs.length vc, .slice ra rs.length rc]] w fun z w' => z = .returned (.bool (greatR (tbOf vs rs))) ∧ Kept w w' := by
  have htr : Row RowM.cells 2 w.heap.size w ra rs := ht.rows
  have hvm : vc ≤ maxLen := ht.vm
  have hrm : rc ≤ maxLen := ht.rm
  have hvl : vs.length ≤ vc := ht.vl
  have hrl : rs.length ≤ rc := ht.rl
  unfold maxLen at hvm hrm
  by_cases h1 : 5 < vs.length
  · have l1 : (5 : Int) < (vs.length : Int) := by omega
    have HB := Lib.hid (show greatR (tbOf vs rs) = true by unfold greatR; rw [show (tbOf vs rs).vars = vs from rfl]; simp [h1])
    clear h1
    go_enter Tryz.func25, Tryz.ntmps25
    go_wp2
    exact bodyPost_ret (v := .bool true) (by simp [results, Tryz.results25, go_sem]) rfl ⟨by rw [HB.out], by (exact kpt)⟩
  by_cases h2 : 35 < rs.length
  · have l1 : ¬ (5 : Int) < (vs.length : Int) := by omega
    have l2 : (35 : Int) < (rs.length : Int) := by omega
    have HB := Lib.hid (show greatR (tbOf vs rs) = true by unfold greatR; rw [rows_len]; simp [h2])
    clear h1 h2
    go_enter Tryz.func25, Tryz.ntmps25
    go_wp2
    exact bodyPost_ret (v := .bool true) (by simp [results, Tryz.results25, go_sem]) rfl ⟨by rw [HB.out], by (exact kpt)⟩
  have l1 : ¬ (5 : Int) < (vs.length : Int) := by omega
  have l2 : ¬ (35 : Int) < (rs.length : Int) := by omega
  have HBT := Lib.hid (fun (x : RowM) (hx : x ∈ rs) (h : 10 < x.r.conds.length) => (by
    unfold greatR
    rw [show (tbOf vs rs).rows.any (fun r => decide (10 < r.conds.length)) = true from List.any_eq_true.2 ⟨x.r, mem_rowsT hx, decide_eq_true h⟩]
    simp : greatR (tbOf vs rs) = true))
  have HBF := Lib.hid (fun (h : ∀ x ∈ rs, ¬ 10 < x.r.conds.length) => (by
    unfold greatR
    rw [show (tbOf vs rs).rows.any (fun r => decide (10 < r.conds.length)) = false from by
      rw [List.any_eq_false]; intro r hr; obtain ⟨x, hx, rfl⟩ := List.mem_map.1 hr; simpa using h x hx, rows_len, show (tbOf vs rs).vars = vs from rfl, decide_eq_false h1, decide_eq_false h2]
    simp : greatR (tbOf vs rs) = (decide (vs.length = 3) && inB (rs.length : Int) 13 30)))
  clear h1 h2
  go_enter Tryz.func25, Tryz.ntmps25
  go_wp2
  go_loopw [3] (fun s3 wr => ∃ i : Nat, i ≤ rs.length ∧ s3 = .int .i64 (i : Int) ∧ (∀ j (hj : j < rs.length), j < i → ¬ 10 < rs[j].r.conds.length) ∧ Blk wr w.heap.size #[.slice va vs.length vc, .slice ra rs.length rc] 68 ∧ Kept w wr) (fun s3 _ => rs.length - (intOf s3).toNat)
  case atStart => exact ⟨0, Nat.zero_le _, rfl, fun j hj h => absurd h (Nat.not_lt_zero _), by (exact blk), by (exact kpt)⟩
  case round =>
    obtain ⟨i, hi, rfl, hok, r0, hkk⟩ := hrel
    have r0c0 := r0.cell 0
    have r0f0 := r0.free 0
    have r0c1 := r0.cell 1
    have r0f1 := r0.free 1
    have r0l := r0.lt
    simp at r0c0 r0c1
    by_cases hlt : i < rs.length
    · obtain ⟨rb, ro, rfl, hrb, g0, g1⟩ := RowM.row (htr.later hkk (Nat.le_refl _)) i hlt
      have HI := Lib.hid hok
      have HBD := Lib.hid (HBT.out _ (List.getElem_mem hlt))
      have HNX := Lib.hid (fun (h : ¬ 10 < rs[i].r.conds.length) => (fun j hj hj2 => by
        rcases Nat.lt_or_ge j i with h3 | h3
        · exact HI.out j hj h3
        · obtain rfl : j = i := by omega
          exact h : ∀ j (hj : j < rs.length), j < i + 1 → ¬ 10 < rs[j].r.conds.length))
      have hcl1 : rs[i].r.conds.length ≤ rs[i].cap := (ht.cl _ (List.getElem_mem hlt)).1
      have hcl2 : rs[i].cap ≤ maxLen := (ht.cl _ (List.getElem_mem hlt)).2
      obtain ⟨X, hX⟩ : ∃ X, X = rs[i] := ⟨_, rfl⟩
      rw [← hX] at g0 g1 HBD HNX hcl1 hcl2
      clear hX hok
      obtain ⟨⟨cs, ac⟩, ca, cc⟩ := X
      simp only at g0 g1 HBD HNX hcl1 hcl2
      unfold maxLen at hcl2
      have i0 : (0 : Int) ≤ (i : Int) := by omega
      have i1 : (i : Int) < (rs.length : Int) := by omega
      by_cases hn : 10 < cs.length
      · have l3 : (10 : Int) < (cs.length : Int) := by omega
        have HB := Lib.hid (HBD.out hn)
        clear HBD HNX hn
        go_wp2
        exact bodyPost_ret (v := .bool true) (by simp [results, Tryz.results25, go_sem]) rfl ⟨by rw [HB.out], by (exact kpt)⟩
      · have l3 : ¬ (10 : Int) < (cs.length : Int) := by omega
        have HB := Lib.hid (HNX.out hn)
        clear HBD HNX hn
        go_wp2
        go_roundw
        case rel => exact ⟨i + 1, by omega, by go_num, HB.out, r0, by (exact kpt)⟩
        case measure => simp [intOf]; omega
    · obtain rfl : rs.length = i := by omega
      have HB := Lib.hid (HBF.out (fun x hx => by obtain ⟨j, hj, rfl⟩ := List.mem_iff_getElem.1 hx; exact hok j hj hj))
      clear hok
      by_cases h3 : vs.length = 3
      · have e1 : ((vs.length : Int) == 3) = true := by simp; omega
        obtain ⟨z, hz⟩ : ∃ z, z = inB (rs.length : Int) 13 30 := ⟨_, rfl⟩
        have HZ := Lib.hid hz.symm
        have HB2 := Lib.hid (show greatR (tbOf vs rs) = z by rw [HB.out, hz, decide_eq_true h3]; rfl)
        clear h3 hz
        go_wp2_with (go_at_call 65; (with_reducible refine (r_within _ _ _ _).mono ?_); rw [HZ.out]; rintro z w1 ⟨rfl, rfl⟩)
        exact bodyPost_ret (v := .bool z) (by simp [results, Tryz.results25, go_sem]) rfl ⟨by rw [HB2.out], by (exact kpt)⟩
      · have e1 : ((vs.length : Int) == 3) = false := by simp; omega
        have HB2 := Lib.hid (show greatR (tbOf vs rs) = false by rw [HB.out, decide_eq_false h3]; rfl)
        clear h3
        go_wp2
        exact bodyPost_ret (v := .bool false) (by simp [results, Tryz.results25, go_sem]) rfl ⟨by rw [HB2.out], by (exact kpt)⟩

end Go.Proofs.YtacbkbilbmkjnaaGreat

/-
  The first state, in the reference.
-/
namespace Go.Proofs.YtacbkbilbmkjnaaGreat
open Go.RowKit Bal Bal.Trim Bal.Mast
set_option linter.unusedVariables false
set_option linter.unusedSimpArgs false
set_option maxHeartbeats 2000000
set_option maxRecDepth 20000

def outS (r : Option (List Int)) : List Int := r.getD []
/-- lists that were found, each the call's own -/
structure Lists (B : Nat) (w : World) (L : List (List Int)) (Ps : List Value) : Prop where
  len : Ps.length = L.length
  at_ : ∀ (i : Nat) (hi : i < L.length) (hp : i < Ps.length), w.ownsRow B 3 1 Ps[i] L[i].length (L[i].flatMap icell)
theorem Lists.keep {B : Nat} {w w' : World} {L : List (List Int)} {Ps : List Value} (h : Lists B w L Ps) (hk : Below w.heap.size w w') : Lists B w' L Ps := ⟨h.len, fun i hi hp => owns_keep (h.at_ i hi hp) hk⟩
theorem owns_grownI {B base k k' n n' : Nat} {w w' : World} {e e' : TypeId} {v v' : Value} {xs ys : List Value} (h : w.ownsRow B e' k' v' n' ys) (ho : w.ownsRow base e k v n xs) (hne : e' ≠ e) (hg : w.grownBy w' v.ownBlock) : w'.ownsRow B e' k' v' n' ys := by
  obtain ⟨q1, q2 | ⟨g, cap, cur, hv, hgb, hh, r⟩⟩ := h
  · exact ⟨q1, .inl q2⟩
  · exact ⟨q1, .inr ⟨g, cap, cur, hv, hgb, Blk.grown hh ho hne hg, r⟩⟩
theorem Lists.grown {B base k n : Nat} {w w' : World} {L : List (List Int)} {Ps : List Value} {e : TypeId} {v : Value} {xs : List Value} (h : Lists B w L Ps) (ho : w.ownsRow base e k v n xs) (hne : 3 ≠ e) (hg : w.grownBy w' v.ownBlock) : Lists B w' L Ps :=
  ⟨h.len, fun i hi hp => owns_grownI (h.at_ i hi hp) ho hne hg⟩
theorem Lists.push {B : Nat} {w : World} {L : List (List Int)} {Ps : List Value} (h : Lists B w L Ps) {l : List Int} {v : Value} (hv : w.ownsRow B 3 1 v l.length (l.flatMap icell)) : Lists B w (L ++ [l]) (Ps ++ [v]) :=
  ⟨by simp [h.len], fun i hi hp => by
    by_cases hl : i < L.length
    · have hl' : i < Ps.length := by rw [h.len]; exact hl
      rw [List.getElem_append_left hl', List.getElem_append_left hl]
      exact h.at_ i hl hl'
    · have he : i = L.length := by simp at hi; omega
      subst he
      have hq := h.len
      simp only [List.getElem_append_right (Nat.le_refl L.length), List.getElem_append_right (Nat.le_of_eq hq), hq, Nat.sub_self, List.getElem_cons_zero]
      exact hv⟩
theorem flat_icell (l : List Int) : l.flatMap icell = l.map fun y => Value.int .i64 y := by
  induction l with
  | nil => rfl
  | cons x l ih => simp [icell, List.flatMap_cons, ih]
end Go.Proofs.YtacbkbilbmkjnaaGreat

/-
  Decide, Gap and Twice, in the reference.
-/
namespace Go.Proofs.YtacbkbilbmkjnaaGreat
open Go.RowKit Bal Bal.Trim Bal.Mast
set_option linter.unusedVariables false
set_option linter.unusedSimpArgs false
set_option maxHeartbeats 2000000
set_option maxRecDepth 20000

def W0 (l : List Nat) : Bool := decide (l.length = 0)
def W2 (l : List Nat) : Bool := decide (1 < l.length)
def decR (d : Tb) (st : List Int) : Int × Int := if validB d then (if st.length = d.vars.length then (if hits d.vars st then (match matchL d st with | [] => (0, 6) | [i] => ((i : Int), 0) | _ => (0, 77)) else (0, 2)) else (0, 2)) else (0, 76)
def GapRes (d : Tb) (E : Int) (s : List Int) : Prop := (validB d = false ∧ E = 76 ∧ s = []) ∨ (validB d = true ∧ ∃ r, FirstExt d W0 [] r ∧ E = (match r with | some _ => 0 | none => 6) ∧ s = outS r)
def TwRes (d : Tb) (E : Int) (s : List Int) (i k : Int) : Prop := (validB d = false ∧ E = 76 ∧ s = [] ∧ i = 0 ∧ k = 0) ∨ (validB d = true ∧ ∃ r, FirstExt d W2 [] r ∧ E = (match r with | some _ => 0 | none => 6) ∧ s = outS r ∧ i = (match r with | some x => (natsI (matchL d x))[0]?.getD 0 | none => 0) ∧ k = (match r with | some x => (natsI (matchL d x))[1]?.getD 0 | none => 0))
theorem FirstExt.congr {d : Tb} {W W' : List Nat → Bool} {pre : List Int} {r : Option (List Int)} (hw : ∀ t, W (matchL d t) = W' (matchL d t)) (h : FirstExt d W pre r) : FirstExt d W' pre r := by
  cases r with
  | none => exact fun t h1 h2 => by rw [← hw]; exact h t h1 h2
  | some s => exact ⟨h.1, h.2.1, by rw [← hw]; exact h.2.2.1, fun t h1 h2 h3 => h.2.2.2 t h1 h2 (by rw [hw]; exact h3)⟩
theorem match_few {d : Tb} (t : List Int) : (matchL d t).length ≤ d.rows.length := matchTo_len d t _
theorem hits_fail {cs : List Span} {st : List Int} {k : Nat} (h : hits cs (st.take k) = false) : hits cs st = false := by
  rw [← List.take_append_drop k st, hits_app, h]; rfl

end Go.Proofs.YtacbkbilbmkjnaaGreat

/-
  Regions that draw their order within a round of a loop over an iterator (at the wide fence): what is shown of them outside holds there too. No program in sight.
-/
namespace Bal
open Go Go.RowKit
section
variable {P : Program} {Q : Exit → Act → World → Prop} {md : Region.Mode} {ops : Array Oper} {l : Nat} {n : Nat}

end

/-! ### A region without guards whose operations come in any order: one look at each operation -/
section
variable {P : Program} {Q : Exit → Act → World → Prop} {md : Region.Mode} {ops : Array Oper}
end

/-- what is kept is grown by nothing -/
theorem grown_of_kept {A B : World} (h : Kept A B) : A.grownBy B none := ⟨h.os, h.tape, h.output, h.size, fun k hk _ => h.block k hk⟩
theorem abides_kept {β : Type} {C : Nat} {J : β → World → Prop} (hJ : AbidesFrom C J) {s : β} {A B : World} (hs : J s A) (h : Kept A B) : J s B := hJ s A B none hs (grown_of_kept h) (fun r e => by cases e)
theorem keepsFrom_kept {W W' : World} (h : Kept W W') (B : Nat) : KeepsFrom B W W' :=
  ⟨h.size, fun k _ _ hk _ => (h.block k (Array.getElem?_eq_some_iff.1 hk).1).trans hk⟩
theorem Blk.belowR {W W' : World} {b B : Nat} {arr : Array Value} {t : TypeId} (h : Blk W b arr t) (hb : Below B W W') (hB : b < B) : Blk W' b arr t := (hb.block b hB).trans h
theorem blk_from {β : Type} (B b : Nat) (arr : Array Value) (t : TypeId) : OwnFrom B (fun (_ : β) W => Blk W b arr t) := by
  intro _ X Y row hb hg hr
  refine (hg.block b (Array.getElem?_eq_some_iff.1 hb).1 (fun e => ?_)).trans hb
  obtain ⟨_, _, ho, hc⟩ := hr b e.symm
  rw [show X.heap[b]? = _ from hb] at ho
  cases ho
  cases hc
end Bal

/-
  A range over an iterator that keeps its state in cells of its own, and hands over values that show them: its contract, and the law of the caller. No program in sight.
-/
namespace Bal
open Go Go.RowKit
variable {F : Fence} {n : Nat} {P : Program}

/-! ### The marks that the loops have left -/
def marks (Ds : List Nat) : List Deferred := Ds.map fun D => { target := .collected D, args := #[] }
/-- each mark's block is there, with no call -/
def Marked (B : Nat) (Ds : List Nat) (W : World) : Prop := Ds.Nodup ∧ ∀ D ∈ Ds, B ≤ D ∧ W.heap[D]? = some (.deferred (some []))
theorem Marked.keep {B C : Nat} {Ds : List Nat} {W W' : World} (h : Marked B Ds W) (hb : Below C W W') (hC : W.heap.size ≤ C) : Marked B Ds W' :=
  ⟨h.1, fun D hD => ⟨(h.2 D hD).1, (hb.block D (by have := (Array.getElem?_eq_some_iff.1 (h.2 D hD).2).1; omega)).trans (h.2 D hD).2⟩⟩
theorem Marked.from {B C : Nat} {Ds : List Nat} {W W' : World} (h : Marked B Ds W) (hk : KeepsFrom C W W') (hC : C ≤ B) : Marked B Ds W' :=
  ⟨h.1, fun D hD => ⟨(h.2 D hD).1, hk.same D _ (by have := (h.2 D hD).1; omega) (h.2 D hD).2 rfl⟩⟩
/-- a function leaves through its marks: what its ending says must abide their turn -/
theorem leaves_marks {fn : Func} {tmps : Array Value} {R : Ending → World → Prop} {B : Nat} (S : World → Prop) (hS : OwnFrom B (fun (_ : Unit) W => S W)) (hend : ∀ W, S W → LeavesIn F n P fn tmps R [] .returning W) :
    ∀ (Ds : List Nat) (W : World), Marked B Ds W → S W → LeavesInM F n P fn tmps R (marks Ds) .returning W
  | [], W, _, h => hend W h
  | D :: Ds, W, hm, h => by
    obtain ⟨hnd, hm⟩ := hm
    obtain ⟨hB, hD⟩ := hm D (by simp)
    refine ⟨by simp, .inl ⟨D, _, rfl, run_takeDeferred hD, leaves_marks S hS hend Ds _ ⟨(List.nodup_cons.1 hnd).2, fun E hE => ?_⟩ (hS.putObj (s := ()) _ h hB hD rfl)⟩⟩
    have hne : E ≠ D := fun e => (List.nodup_cons.1 hnd).1 (e ▸ hE)
    exact ⟨(hm E (by simp [hE])).1, (World.putObj_heap_other hne).trans (hm E (by simp [hE])).2⟩
end Bal

/-
  The rows that match, in the program: the iterator.
-/
namespace Go.Proofs.YtacbkbilbmkjnaaGreat
open Go.RowKit Go.Shelf Bal Bal.Trim Bal.Mast
set_option linter.unusedVariables false
set_option linter.unusedSimpArgs false
set_option maxHeartbeats 4000000
set_option maxRecDepth 100000
attribute [local go_sem] Oper.semAt_some

theorem wpIn_scopeM {n : Nat} {P : Program} {c : Code} {Q : Exit → Act → World → Prop} {a : Act} {W : World} (h : c.wpIn Fence.wide n P (Exit.noGoto Q) a W) : (Code.scope c).wpIn Fence.wide n P Q a W := wpIn_wide.2 (wp_scope_straight (wpIn_wide.1 h))
theorem at_worldR {F : Fence} {n : Nat} {P : Program} {c : Code} {Q : Exit → Act → World → Prop} {a : Act} {S : World → Prop} {W : World} (h : S W) (k : ∀ W, S W → c.wpIn F n P Q a W) : c.wpIn F n P Q a W := k W h
theorem matchTo_mono (d : Tb) (st : List Int) (k : Nat) : ∀ j, (matchTo d st k).length ≤ (matchTo d st (k + j)).length
  | 0 => Nat.le_refl _
  | j + 1 => by
    rw [← Nat.add_assoc, matchTo_succ, List.length_append]
    exact Nat.le_trans (matchTo_mono d st k j) (Nat.le_add_right _ _)
theorem matchTo_lt {d : Tb} {st : List Int} {k : Nat} (hk : k < d.rows.length) (h : matchP d st k = true) : (matchTo d st k).length < (matchL d st).length := by
  have h1 := matchTo_mono d st (k + 1) (d.rows.length - (k + 1))
  rw [show k + 1 + (d.rows.length - (k + 1)) = d.rows.length by omega, matchTo_succ, h, List.length_append] at h1
  unfold matchL
  simp at h1
  omega
theorem f_matching (vs : List Span) (va : Option Addr) (vc : Nat) (rs : List RowM) (ra : Option Addr) (rc : Nat) (w : World) (ht : TabAt ⟨vs, va, vc, rs, ra, rc⟩ w) (sa : Option Addr) (sc : Nat) (st : List Int) :
    Calls Tryz.prog 71 #[.agg #[.slice va vs.length vc, .slice ra rs.length rc], .slice sa st.length sc] w fun e w' =>
      e = .returned (.func (.func 107) #[] #[.pointer (some ⟨w.heap.size, 0, none⟩), .pointer (some ⟨w.heap.size + 1, 0, none⟩)]) ∧ w' = (w.alloc (.cells #[.slice va vs.length vc, .slice ra rs.length rc] 68)).alloc (.cells #[.slice sa st.length sc] 29) := by
  go_enter Tryz.func71, Tryz.ntmps71
  go_wp2
  go_ret
  exact ⟨rfl, rfl⟩

theorem f_match1 (vs : List Span) (va : Option Addr) (vc : Nat) (rs : List RowM) (ra : Option Addr) (rc : Nat) (w : World) (ht : TabAt ⟨vs, va, vc, rs, ra, rc⟩ w) (sa : Option Addr) (sc : Nat) (st : List Int) (hs : Row icell 1 w.heap.size w sa st) (hsl : st.length ≤ sc) (hsm : sc ≤ maxLen) (hr : rs.length ≤ 1000) (hE : ∀ x ∈ rs, st.length ≤ x.r.conds.length) (w' : World) (hk0 : Kept w w') (b0 b1 : Nat) (hq0 : Blk w' b0 #[.slice va vs.length vc, .slice ra rs.length rc] 68) (hq1 : Blk w' b1 #[.slice sa st.length sc] 29) (n0 : Nat) (hn0 : b0 < n0) (hn1 : b1 < n0) (hnw : w.heap.size ≤ n0) (m : Nat) (hm : 2 ≤ m) :
    SeqStopsK Fence.wide m Tryz.prog 107 #[.pointer (some ⟨b0, 0, none⟩), .pointer (some ⟨b1, 0, none⟩)] (fun x : Nat => #[.int .i64 (x : Int)]) (Below n0) (fun xs => xs = matchL (tbOf vs rs) st) (fun _ => True) (matchL (tbOf vs rs) st).length w' := by
  intro l J Jx W hWW hJ hJx hY h0
  have hl0 := hq0.lt
  have hl1 := hq1.lt
  have htr : Row RowM.cells 2 w.heap.size w ra rs := ht.rows
  have htv : Row Span.cells 2 w.heap.size w va vs := ht.vars
  have hvm : vc ≤ maxLen := ht.vm
  have hrm : rc ≤ maxLen := ht.rm
  have hvl : vs.length ≤ vc := ht.vl
  have hrl : rs.length ≤ rc := ht.rl
  unfold maxLen at hvm hrm
  unfold maxLen at hsm
  have hA0 := hq0.belowR hWW hl0
  have hA1 := hq1.belowR hWW hl1
  have hW : Kept w W := hk0.trans (hWW.mono hk0.size)
  have hWs := hWW.size
  have hws := hk0.size
  clear hWW hk0 hq0 hq1
  refine callsIn_of_wp Tryz.func107 rfl trivial ?_ rfl
  simp only [Tryz.ntmps107, List.size_toArray, List.length_cons, List.length_nil, Nat.reduceAdd, Nat.reduceSub, Array.replicate_succ, Array.replicate_zero, List.push_toArray, List.append_toArray, List.nil_append, List.cons_append]
  refine wpIn_scopeM ?_
  have hA0c0 := hA0.cell 0
  have hA0f0 := hA0.free 0
  have hA0c1 := hA0.cell 1
  have hA0f1 := hA0.free 1
  have hA0l := hA0.lt
  simp at hA0c0 hA0c1
  have hA1c0 := hA1.cell 0
  have hA1f0 := hA1.free 0
  have hA1l := hA1.lt
  simp at hA1c0
  gi_wp2
  refine wpIn_wide.2 (wp_label ?_)
  gi_wp2
  gi_loopw [11] (fun i wr => ∃ k : Nat, k ≤ rs.length ∧ i = .int .i64 k ∧ J (matchTo (tbOf vs rs) st k) wr ∧ Blk wr b0 #[.slice va vs.length vc, .slice ra rs.length rc] 68 ∧ Blk wr b1 #[.slice sa st.length sc] 29 ∧ Kept w wr ∧ W.heap.size ≤ wr.heap.size) (fun i _ => rs.length - (intOf i).toNat)
  case atStart => exact ⟨0, Nat.zero_le _, rfl, h0, hA0, hA1, hW, Nat.le_refl _⟩
  case round =>
    clear hA0 hA1 h0 hW hA0c0 hA0f0 hA0c1 hA0f1 hA0l hA1c0 hA1f0 hA1l
    obtain ⟨k, hk, rfl, hJ0, q0, q1, hkr, hzr⟩ := hrel
    have HJ0 := Lib.hid hJ0
    clear hJ0
    have q0c0 := q0.cell 0
    have q0f0 := q0.free 0
    have q0c1 := q0.cell 1
    have q0f1 := q0.free 1
    have q0l := q0.lt
    simp at q0c0 q0c1
    have q1c0 := q1.cell 0
    have q1f0 := q1.free 0
    have q1l := q1.lt
    simp at q1c0
    by_cases hlt : k < rs.length
    · obtain ⟨rb, ro, rfl, hrb, g0, g1⟩ := RowM.row (htr.later hkr (Nat.le_refl _)) k hlt
      have hcnd : Row Span.cells 2 w.heap.size w rs[k].ad rs[k].r.conds := ht.conds _ (List.getElem_mem hlt)
      have hce : st.length ≤ rs[k].r.conds.length := hE _ (List.getElem_mem hlt)
      have hc3 : rs[k].r.conds.length ≤ rs[k].cap := (ht.cl _ (List.getElem_mem hlt)).1
      have hc4 : rs[k].cap ≤ maxLen := (ht.cl _ (List.getElem_mem hlt)).2
      have HMS := Lib.hid (show matchTo (tbOf vs rs) st (k + 1) = matchTo (tbOf vs rs) st k ++ if hits rs[k].r.conds st then [k] else [] by rw [matchTo_succ, show matchP (tbOf vs rs) st k = hits rs[k].r.conds st by unfold matchP; simp [tbOf, hlt]])
      have HMT := Lib.hid (fun (h : hits rs[k].r.conds st = true) => matchTo_lt (d := tbOf vs rs) (st := st) (k := k) (by rw [rows_len]; exact hlt) (by rw [show matchP (tbOf vs rs) st k = hits rs[k].r.conds st by unfold matchP; simp [tbOf, hlt]]; exact h))
      obtain ⟨X, hX⟩ : ∃ X, X = rs[k] := ⟨_, rfl⟩
      rw [← hX] at g0 g1 hcnd hce hc3 hc4 HMS HMT
      clear hX
      obtain ⟨⟨cs, ac⟩, ca, cc⟩ := X
      simp only at g0 g1 hcnd hce hc3 hc4 HMS HMT
      unfold maxLen at hc4
      obtain ⟨Z, rfl⟩ : ∃ Z : World, Z = wr := ⟨_, rfl⟩
      have hb0 := q0.lt
      have hb1 := q1.lt
      gi_wp2
      gi_loopw [18] (fun s wq => ∃ j : Nat, j ≤ st.length ∧ s = .int .i64 j ∧ hits cs (st.take j) = true ∧ Blk wq Z.heap.size #[.slice ca cs.length cc, .int .i64 ac] 80 ∧ Kept Z wq) (fun s _ => st.length - (intOf s).toNat)
      case atStart => exact ⟨0, Nat.zero_le _, rfl, by cases cs <;> rfl, by (exact blk), by (exact kpt)⟩
      case round =>
        obtain ⟨j, hj, rfl, hh, rx, hkz⟩ := hrel
        have hkw := Kept.drop hkr hkz
        have rxc0 := rx.cell 0
        have rxf0 := rx.free 0
        have rxc1 := rx.cell 1
        have rxf1 := rx.free 1
        have rxl := rx.lt
        simp at rxc0 rxc1
        by_cases hjt : j < st.length
        · obtain ⟨sb, so, rfl, hsb, x0⟩ := int_row (hs.later hkw (Nat.le_refl _)) j hjt
          obtain ⟨cb, co, rfl, hcb, c0, c1⟩ := Span.row (hcnd.later hkw (Nat.le_refl _)) j (by omega)
          have HTK := Lib.hid (show hits cs (st.take (j + 1)) = inB st[j] (cs[j]'(by omega)).lo (cs[j]'(by omega)).hi by
            rw [List.take_succ_eq_append_getElem hjt, hits_snoc (by rw [List.length_take]; omega), hh]
            simp only [List.length_take, Nat.min_eq_left (Nat.le_of_lt hjt), Bool.true_and])
          obtain ⟨y, hy⟩ : ∃ x, x = st[j] := ⟨_, rfl⟩
          obtain ⟨c, hc⟩ : ∃ x, x = cs[j]'(by omega) := ⟨_, rfl⟩
          rw [← hy, ← hc] at HTK
          rw [← hy] at x0
          rw [← hc] at c0 c1
          clear hy hc hh
          have i0 : (0 : Int) ≤ (j : Int) := by omega
          have i1 : (j : Int) < (st.length : Int) := by omega
          have i2 : (j : Int) < (cs.length : Int) := by omega
          have k0 : ∀ w2, Kept wr w2 → w2.cell? ⟨Z.heap.size, 0, none⟩ = some (.slice (some ⟨cb, co, none⟩) cs.length cc) := fun w2 h => by simpa using (rx.keep h).cell 0
          have k1 : ∀ w2, Kept wr w2 → w2.cell? ⟨Z.heap.size, 1, none⟩ = some (.int .i64 ac) := fun w2 h => by simpa using (rx.keep h).cell 1
          have k2 : ∀ w2, Kept wr w2 → w2.cell? ⟨cb, co + j * 2, none⟩ = some (.int .i64 c.lo) := fun w2 h => by rw [h.cell (p := ⟨cb, co + j * 2, none⟩) hcb]; exact c0
          have k3 : ∀ w2, Kept wr w2 → w2.cell? ⟨cb, co + j * 2 + 1, none⟩ = some (.int .i64 c.hi) := fun w2 h => by rw [h.cell (p := ⟨cb, co + j * 2 + 1, none⟩) hcb]; exact c1
          have lx := rx.lt
          have hzw := hkz.size
          gi_wp2
          clear x0 c0 c1 rxc0 rxf0 rxc1 rxf1 rxl
          refine wpIn_wide.2 ?_
          cases hb : inB y c.lo c.hi
          · have HB := Lib.hid (show inB y c.lo c.hi = false from hb)
            have HF := Lib.hid (hits_fail (k := j + 1) (by rw [HTK.out]; exact hb))
            clear hb HTK
            go_region_held3 (fun w2 => Kept wr w2) (exact kpt) (first | (go_at_call 44; (with_reducible refine (f_rangedB c.lo c.hi y _ 3 _ ?_).mono ?_); (focus (first | (with_reducible refine Blk.drew (Blk.new' ?_); (first | rfl | (simp; done))) | (with_reducible refine Blk.new' ?_; (first | rfl | (simp; done))) | (exact blk))); rw [HB.out]; rintro z w2 ⟨rfl, hb2⟩) | fail)
            all_goals
              gi_wp2
              go_roundw
              case rel =>
                have hkf : Kept wr w2 := by (exact kpt)
                have hkZ : Kept Z w2 := Kept.drop hkz hkf
                exact ⟨k + 1, by omega, by go_num, by rw [HMS.out, HF.out]; simpa using abides_kept hJ HJ0.out hkZ, q0.keep hkZ, q1.keep hkZ, Kept.drop hkr hkZ, Nat.le_trans hzr hkZ.size⟩
              case measure => simp [intOf]; omega
          · have HB := Lib.hid (show inB y c.lo c.hi = true from hb)
            have HT := Lib.hid (show hits cs (st.take (j + 1)) = true by rw [HTK.out]; exact hb)
            clear hb HTK
            go_region_held3 (fun w2 => Kept wr w2) (exact kpt) (first | (go_at_call 44; (with_reducible refine (f_rangedB c.lo c.hi y _ 3 _ ?_).mono ?_); (focus (first | (with_reducible refine Blk.drew (Blk.new' ?_); (first | rfl | (simp; done))) | (with_reducible refine Blk.new' ?_; (first | rfl | (simp; done))) | (exact blk))); rw [HB.out]; rintro z w2 ⟨rfl, hb2⟩) | fail)
            all_goals
              gi_wp2
              go_roundw
              case rel =>
                have hkf : Kept wr w2 := by (exact kpt)
                exact ⟨j + 1, by omega, by go_num, HT.out, rx.keep hkf, Kept.drop hkz hkf⟩
              case measure => simp [intOf]; omega
        · obtain rfl : st.length = j := by omega
          rw [List.take_length] at hh
          obtain ⟨fn, tmps, assign, body, hy, hR⟩ := hY (matchTo (tbOf vs rs) st k) k wr (abides_kept hJ HJ0.out hkz) (HMT.out hh)
          have HR := Lib.hid hR
          have HH := Lib.hid hh
          have q0z := q0.keep hkz
          have q1z := q1.keep hkz
          clear hR hh
          gi_wp2
          first | refine HR.out.mono ?_ | refine ⟨fun _ => by omega, HR.out.mono ?_⟩
          clear hy
          rintro e W3 (⟨rfl, hJ3, hk3⟩ | ⟨rfl, hJx3⟩)
          · gi_wp2
            go_roundw
            case rel => exact ⟨k + 1, by omega, by go_num, by rw [HMS.out, HH.out]; exact hJ3, q0z.belowR hk3 hn0, q1z.belowR hk3 hn1, hkw.trans (hk3.mono hnw), Nat.le_trans hzr (Nat.le_trans hkz.size hk3.size)⟩
            case measure => simp [intOf]; omega
          · gi_wp2
            simp only [Exit.noGoto]
            refine bodyPost_ret (results_none rfl _ _ _) rfl ⟨⟨_, rfl⟩, .inr ⟨_, trivial, hJx3⟩⟩
    · obtain rfl : rs.length = k := by omega
      gi_wp2
      simp only [Exit.noGoto]
      go_end0
      exact ⟨⟨_, rfl⟩, .inl ⟨_, rfl, by have := HJ0.out; unfold matchL; rw [rows_len]; exact this⟩⟩

end Go.Proofs.YtacbkbilbmkjnaaGreat

/-
  The rows that match, collected, in the program.
-/
namespace Go.Proofs.YtacbkbilbmkjnaaGreat
open Go.RowKit Go.Shelf Bal Bal.Trim Bal.Mast
set_option linter.unusedVariables false
set_option linter.unusedSimpArgs false
set_option maxHeartbeats 4000000
set_option maxRecDepth 100000
attribute [local go_sem] Oper.semAt_some

theorem f_AppendSeq (vs : List Span) (va : Option Addr) (vc : Nat) (rs : List RowM) (ra : Option Addr) (rc : Nat) (w : World) (ht : TabAt ⟨vs, va, vc, rs, ra, rc⟩ w) (sa : Option Addr) (sc : Nat) (st : List Int) (hs : Row icell 1 w.heap.size w sa st) (hsl : st.length ≤ sc) (hsm : sc ≤ maxLen) (hr : rs.length ≤ 1000) (hE : ∀ x ∈ rs, st.length ≤ x.r.conds.length) (w' : World) (hk0 : Kept w w') (b0 b1 : Nat) (hq0 : Blk w' b0 #[.slice va vs.length vc, .slice ra rs.length rc] 68) (hq1 : Blk w' b1 #[.slice sa st.length sc] 29) :
    Calls Tryz.prog 106 #[.slice none 0 0, .func (.func 107) #[] #[.pointer (some ⟨b0, 0, none⟩), .pointer (some ⟨b1, 0, none⟩)]] w' fun e W' => ∃ v, e = .returned v ∧ W'.ownsRow w'.heap.size 3 1 v (matchL (tbOf vs rs) st).length ((natsI (matchL (tbOf vs rs) st)).flatMap icell) ∧ Kept w' W' := by
  have hml : (matchL (tbOf vs rs) st).length ≤ 1000 := by
    have := match_few (d := tbOf vs rs) st
    rw [rows_len] at this; omega
  refine (callsIn_wide (n := 6)).1 ?_
  refine callsIn_of_wp_marks Tryz.func106 rfl trivial ?_ rfl
  simp only [Tryz.ntmps106, List.size_toArray, List.length_cons, List.length_nil, Nat.reduceAdd, Nat.reduceSub, Array.replicate_succ, Array.replicate_zero, List.push_toArray, List.append_toArray, List.nil_append, List.cons_append]
  gi_wp2
  refine at_worldR (S := fun V => Boxed V w'.heap.size 29 (.slice none 0 0) ∧ Kept w' V) ⟨Boxed.new _ _ _, by (exact kpt)⟩ ?_
  rintro V ⟨hbV, hkV⟩
  have hVs := hkV.size
  have q0 := hq0.keep hkV
  have q1 := hq1.keep hkV
  refine wpIn_rangeFunc_ownH (gf := 107) (lb := #[.pointer (some ⟨b0, 0, none⟩), .pointer (some ⟨b1, 0, none⟩)]) rfl (by omega) rfl trivial (enters_of Tryz.func107 (by kernel_rfl) rfl)
    (f_match1 vs va vc rs ra rc w ht sa sc st hs hsl hsm hr hE V (Kept.drop hk0 hkV) b0 b1 q0 q1 w'.heap.size hq0.lt hq1.lt hk0.size 5 (by omega)) belowK_t (belowK_b hVs) (Below.refl _ _) (fun _ => rfl)
    (fun pre W => (∃ v, Boxed W w'.heap.size 29 v ∧ W.ownsRow w'.heap.size 3 1 v (pre).length ((natsI (pre)).flatMap icell) ∧ True) ∧ Kept w' W ∧ V.heap.size ≤ W.heap.size)
    (fun _ _ _ => False)
    (OwnFrom.and ((holdsRow_own _ _ _ _ _ _ _ _).from _) (OwnFrom.and (ownFrom_below (Nat.le_refl _) hkV.size) (fun _ _ _ _ hs hg _ => Nat.le_trans hs hg.size)))
    (fun _ _ _ _ _ hs _ _ => hs)
    ⟨⟨_, hbV, owns_nil (α := Int) (enc := icell), trivial⟩, hkV, Nat.le_refl _⟩
    (fun x a' W => a' = { tmps := #[.slice none 0 0, .func (.func 107) #[] #[.pointer (some ⟨b0, 0, none⟩), .pointer (some ⟨b1, 0, none⟩)], .pointer (some ⟨w'.heap.size, 0, none⟩), undef, .slice none 0 0, .int .i64 (x : Int), .func (.func 107) #[] #[.pointer (some ⟨b0, 0, none⟩), .pointer (some ⟨b1, 0, none⟩)], .int .i64 (x : Int), undef, undef, undef, undef, undef], defers := [] })
    (fun x a' _ X Y row hs hg hr => hs)
    ?assign ?body ?done ?stop
  case assign =>
    rintro l pre x W K ⟨hL, hkw, hsz⟩ hK
    gi_wp2
    exact hK _ _ (keepsFrom_kept (Below.refl _ _) _) (Below.refl _ _) ⟨hL, hkw, hsz⟩ rfl
  case body =>
    rintro l pre x a' W hl _ ⟨⟨v, hbx, hown, -⟩, hkw, hsz⟩ rfl hlen
    have hsW := hkw.size
    have hpl : pre.length ≤ 1000 := by omega
    have x0 := hbx.cell
    have x1 := hbx.frozen
    have x2 := hbx.lt
    have hown : W.ownsRow w'.heap.size 3 1 v pre.length ((natsI pre).flatMap icell) := hown
    gi_wp2_with (gi_at_builtin; obtain ⟨i0, hi, hz0, hz1, hz2⟩ := info_parts infoIntM; refine wpListIn_append_own _ rfl _ _ 29 rfl (w'.heap.size) 3 i0 (.int .i64 0) 1 8 Tryz.underlying29 hi hz0 hz1 hz2 rfl (by decide) _ _ _ rfl (hown.alloc _) ⟨_, 0, none⟩ 1 1 [.int .i64 (x : Int)] rfl rfl (cell_one_at (by simp) _ _) (fun x hx => by simp at hx; subst hx; rfl) (by unfold maxLen; omega) (by omega) (by simp only [World.size_alloc]; omega) ?_; intro v9 w9 hown9 hgrow9 hnil9; clear hi hz0 hz1 hz2; obtain ⟨g9, c9, rfl⟩ := ownsRow_succ hown9; obtain ⟨B1, B2, B3, B4, B5⟩ := Boxed.appended (n₀ := w'.heap.size) hbx (by decide) hown hsW (Nat.le_refl _) hown9 hgrow9; have y0 := B1.cell; have y1 := B1.frozen; have y2 := B1.lt)
    refine ⟨B4.from _, B5, ⟨_, B2, ?_, trivial⟩, hkw.trans B5, ?_⟩
    · rw [natsI_snoc, List.flatMap_append, List.length_append]; exact B3
    · have h9 := hgrow9.size
      simp only [World.size_alloc] at h9
      have e9 : ∀ (a : Addr) (u : Value), (w9.setCell a u).heap.size = w9.heap.size := fun a u => by simp [World.setCell]
      rw [e9]
      omega
  case done =>
    rintro Dd ys X hD rfl ⟨⟨v, hbx, hown, -⟩, hkw, hsz⟩ hK
    have x0 := hbx.cell
    have x1 := hbx.frozen
    have x2 := hbx.lt
    have HK := Lib.hid hK
    clear hK
    gi_wp2
    refine leaves_marks (B := w'.heap.size) (fun W => (∃ u, Boxed W w'.heap.size 29 u ∧ W.ownsRow w'.heap.size 3 1 u (matchL (tbOf vs rs) st).length ((natsI (matchL (tbOf vs rs) st)).flatMap icell) ∧ u = v) ∧ Kept w' W) (OwnFrom.and ((holdsRow_own (β := Unit) _ _ _ _ _ (fun _ => (matchL (tbOf vs rs) st).length) (fun _ => (natsI (matchL (tbOf vs rs) st)).flatMap icell) (fun _ u => u = v)).from _) (ownFrom_below (Nat.le_refl _) (Nat.le_refl _))) ?_ [Dd] _ ⟨by simp, fun E hE => ?_⟩ ⟨⟨v, hbx, hown, rfl⟩, hkw⟩
    · rintro W5 ⟨⟨u, hb5, ho5, rfl⟩, hk5⟩
      exact ⟨u, by simp [results, Tryz.results106, go_sem], u, rfl, ho5, hk5⟩
    · obtain rfl : E = Dd := by simpa using hE
      exact ⟨by omega, HK.out⟩
  case stop =>
    rintro D c pre W _ _ h _
    exact h.elim

theorem f_Collect (vs : List Span) (va : Option Addr) (vc : Nat) (rs : List RowM) (ra : Option Addr) (rc : Nat) (w : World) (ht : TabAt ⟨vs, va, vc, rs, ra, rc⟩ w) (sa : Option Addr) (sc : Nat) (st : List Int) (hs : Row icell 1 w.heap.size w sa st) (hsl : st.length ≤ sc) (hsm : sc ≤ maxLen) (hr : rs.length ≤ 1000) (hE : ∀ x ∈ rs, st.length ≤ x.r.conds.length) (w' : World) (hk0 : Kept w w') (b0 b1 : Nat) (hq0 : Blk w' b0 #[.slice va vs.length vc, .slice ra rs.length rc] 68) (hq1 : Blk w' b1 #[.slice sa st.length sc] 29) :
    Calls Tryz.prog 70 #[.func (.func 107) #[] #[.pointer (some ⟨b0, 0, none⟩), .pointer (some ⟨b1, 0, none⟩)]] w' fun e W' => ∃ v, e = .returned v ∧ W'.ownsRow w'.heap.size 3 1 v (matchL (tbOf vs rs) st).length ((natsI (matchL (tbOf vs rs) st)).flatMap icell) ∧ Kept w' W' := by
  go_enter Tryz.func70, Tryz.ntmps70
  go_wp2_with (go_at_call 106; (with_reducible refine (f_AppendSeq vs va vc rs ra rc w ht sa sc st hs hsl hsm hr hE _ (Kept.drop hk0 (by (exact kpt))) b0 b1 (hq0.keep (by (exact kpt))) (hq1.keep (by (exact kpt)))).mono ?_); rintro z w1 ⟨v1, rfl, ho1, hb1⟩)
  exact bodyPost_ret (v := v1) (by simp [results, Tryz.results70, go_sem]) rfl ⟨v1, rfl, ho1, by (exact kpt)⟩

end Go.Proofs.YtacbkbilbmkjnaaGreat

/-
  The contracts of the library's sort and compact, laid at this seat by the kit's own tool.
-/
namespace Go.Proofs
open Go.Shelf
def Tryz.lays189_ren : Go.Shelf.Ren := ⟨fun | 189 => 108 | 125 => 116 | 257 => 115 | 128 => 127 | 129 => 128 | 294 => 118 | 295 => 119 | 296 => 120 | 297 => 121 | 298 => 122 | 299 => 123 | 216 => 124 | 300 => 125 | 301 => 126 | 328 => 129 | 329 => 130 | 330 => 131 | 331 => 132 | 332 => 133 | 215 => 134 | 343 => 135 | n => n, fun | 28 => 29 | 3 => 3 | 46 => 151 | 0 => 0 | 51 => 163 | 53 => 165 | 4 => 4 | 183 => 155 | 182 => 154 | 131 => 160 | 5 => 5 | 9 => 9 | 218 => 166 | 222 => 170 | 228 => 172 | 229 => 173 | n => n, fun | n => n⟩
theorem Tryz.lays189 : Go.Proofs.Lays.n189 Tryz.prog Tryz.lays189_ren := {
  mixed := by kernel_rfl
  f125 := Tryz.func116.trans (congrArg some (by kernel_rfl))
  f128 := Tryz.func127.trans (congrArg some (by kernel_rfl))
  f129 := Tryz.func128.trans (congrArg some (by kernel_rfl))
  f189 := Tryz.func108.trans (congrArg some (by kernel_rfl))
  f215 := Tryz.func134.trans (congrArg some (by kernel_rfl))
  f216 := Tryz.func124.trans (congrArg some (by kernel_rfl))
  f257 := Tryz.func115.trans (congrArg some (by kernel_rfl))
  f294 := Tryz.func118.trans (congrArg some (by kernel_rfl))
  f295 := Tryz.func119.trans (congrArg some (by kernel_rfl))
  f296 := Tryz.func120.trans (congrArg some (by kernel_rfl))
  f297 := Tryz.func121.trans (congrArg some (by kernel_rfl))
  f298 := Tryz.func122.trans (congrArg some (by kernel_rfl))
  f299 := Tryz.func123.trans (congrArg some (by kernel_rfl))
  f300 := Tryz.func125.trans (congrArg some (by kernel_rfl))
  f301 := Tryz.func126.trans (congrArg some (by kernel_rfl))
  f328 := Tryz.func129.trans (congrArg some (by kernel_rfl))
  f329 := Tryz.func130.trans (congrArg some (by kernel_rfl))
  f330 := Tryz.func131.trans (congrArg some (by kernel_rfl))
  f331 := Tryz.func132.trans (congrArg some (by kernel_rfl))
  f332 := Tryz.func133.trans (congrArg some (by kernel_rfl))
  f343 := Tryz.func135.trans (congrArg some (by kernel_rfl))
  t0 := Tryz.underlying0
  a0 := Tryz.isAgg0
  z0 := Tryz.sizeOf0
  v0 := Tryz.zeroValue0
  t3 := Tryz.underlying3
  a3 := Tryz.isAgg3
  z3 := Tryz.sizeOf3
  v3 := Tryz.zeroValue3
  t4 := Tryz.underlying4
  a4 := Tryz.isAgg4
  z4 := Tryz.sizeOf4
  v4 := Tryz.zeroValue4
  t5 := Tryz.underlying5
  a5 := Tryz.isAgg5
  z5 := Tryz.sizeOf5
  v5 := Tryz.zeroValue5
  t9 := Tryz.underlying9
  a9 := Tryz.isAgg9
  z9 := Tryz.sizeOf9
  v9 := Tryz.zeroValue9
  t28 := Tryz.underlying29
  a28 := Tryz.isAgg29
  z28 := Tryz.sizeOf29
  v28 := Tryz.zeroValue29
  t46 := Tryz.underlying151
  a46 := Tryz.isAgg151
  z46 := Tryz.sizeOf151
  v46 := Tryz.zeroValue151
  t51 := Tryz.underlying163
  a51 := Tryz.isAgg163
  z51 := Tryz.sizeOf163
  v51 := Tryz.zeroValue163
  t53 := Tryz.underlying165
  a53 := Tryz.isAgg165
  z53 := Tryz.sizeOf165
  v53 := Tryz.zeroValue165
  t131 := Tryz.underlying160
  a131 := Tryz.isAgg160
  z131 := Tryz.sizeOf160
  v131 := Tryz.zeroValue160
  t182 := Tryz.underlying154
  a182 := Tryz.isAgg154
  z182 := Tryz.sizeOf154
  v182 := Tryz.zeroValue154
  t183 := Tryz.underlying155
  a183 := Tryz.isAgg155
  z183 := Tryz.sizeOf155
  v183 := Tryz.zeroValue155
  t218 := Tryz.underlying166
  a218 := Tryz.isAgg166
  z218 := Tryz.sizeOf166
  v218 := Tryz.zeroValue166
  t222 := Tryz.underlying170
  a222 := Tryz.isAgg170
  z222 := Tryz.sizeOf170
  v222 := Tryz.zeroValue170
  t228 := Tryz.underlying172
  a228 := Tryz.isAgg172
  z228 := Tryz.sizeOf172
  v228 := Tryz.zeroValue172
  t229 := Tryz.underlying173
  a229 := Tryz.isAgg173
  z229 := Tryz.sizeOf173
  v229 := Tryz.zeroValue173 }
def Tryz.lays20_ren : Go.Shelf.Ren := ⟨fun | 20 => 109 | n => n, fun | 22 => 29 | 3 => 3 | 4 => 4 | 0 => 0 | n => n, fun | n => n⟩
theorem Tryz.lays20 : Go.Proofs.Lays2.n20 Tryz.prog Tryz.lays20_ren := {
  mixed := by kernel_rfl
  f20 := Tryz.func109.trans (congrArg some (by kernel_rfl))
  t0 := Tryz.underlying0
  a0 := Tryz.isAgg0
  z0 := Tryz.sizeOf0
  v0 := Tryz.zeroValue0
  t3 := Tryz.underlying3
  a3 := Tryz.isAgg3
  z3 := Tryz.sizeOf3
  v3 := Tryz.zeroValue3
  t4 := Tryz.underlying4
  a4 := Tryz.isAgg4
  z4 := Tryz.sizeOf4
  v4 := Tryz.zeroValue4
  t22 := Tryz.underlying29
  a22 := Tryz.isAgg29
  z22 := Tryz.sizeOf29
  v22 := Tryz.zeroValue29
  i3 := by kernel_rfl }
end Go.Proofs

/-
  Sort, Compact and Clone at numbers; what Gap and Twice ask of the rows.
-/
namespace Go.Proofs.YtacbkbilbmkjnaaGreat
open Go.RowKit Go.Sort Bal Bal.Trim Bal.Mast
set_option linter.unusedVariables false
set_option linter.unusedSimpArgs false
set_option maxHeartbeats 2000000
set_option maxRecDepth 20000

theorem s_CloneI (a : Option Addr) (cap : Nat) (xs : List Int) (w : World) (hx : Row icell 1 w.heap.size w a xs) (hn : xs.length ≤ 1000) (hz : a = none → cap = 0) :
    Calls Tryz.prog 110 #[.slice a xs.length cap] w fun e w' => ∃ v, e = .returned v ∧ w'.ownsRow w.heap.size 3 1 v xs.length (xs.flatMap icell) ∧ Kept w w' := by
  cases a with
  | none =>
    have hl : xs = [] := by
      cases xs with
      | nil => rfl
      | cons y ys => obtain ⟨b, off, ha, _⟩ := hx 0 y rfl; cases ha
    subst hl
    have := hz rfl
    subst this
    have hs0 : ∀ w, (binOp .eql 29 (.slice none 0 0) (.slice none 0 0)).run Tryz.prog w = .ok (.bool true) w := fun w => Lib.run_eql_slice_nil w _ _ _ _ _ _ _ Tryz.underlying29
    go_enter Tryz.func110, Tryz.ntmps110
    go_wp2
    exact bodyPost_ret (v := .slice none 0 0) (by simp [results, Tryz.results110, go_sem]) rfl ⟨_, rfl, owns_nil (α := Int) (enc := icell), by (exact kpt)⟩
  | some ad =>
    have HO := Lib.hid (owns_made (α := Int) (enc := icell) (base := w.heap.size) (k := 1) (n := w.heap.size) (e := 3) (w := w) rfl (Nat.le_refl _))
    have hs0 : ∀ w, (binOp .eql 29 (.slice (some ad) xs.length cap) (.slice none 0 0)).run Tryz.prog w = .ok (.bool false) w := fun w => Lib.run_eql_slice_nil w _ _ _ _ _ _ _ Tryz.underlying29
    go_enter Tryz.func110, Tryz.ntmps110
    go_wp2_with (at_builtin; obtain ⟨i0, hi, hz0, hz1, hz2⟩ := info_parts infoIntM; refine wpList_append_list (enc := icell) rfl _ _ 29 rfl w.heap.size 3 i0 (.int .i64 0) 1 8 Tryz.underlying29 hi hz0 hz1 hz2 rfl (by decide) (fun _ => rfl) (fun x u hu => by simp [icell] at hu; subst hu; rfl) _ [] rfl HO.out (some ad) cap xs rfl (by simp) (B := w.heap.size) (hx.keep (by (exact kpt)) (Nat.le_refl _)) (by simp [maxLen]; omega) (by simp; omega) (by simp) ?_; intro v' w9 hown' hgrow; clear hi hz0 hz1 hz2)
    have hk : Kept w w9 := Kept.grown (Kept.alloc (Below.refl _ _) _) HO.out (Nat.le_refl _) hgrow
    rw [List.nil_append] at hown'
    obtain ⟨ad', cp, rfl, _⟩ := owns_row (enc := icell) (k := 1) (fun _ => rfl) hown'
    exact bodyPost_ret (v := .slice ad' xs.length cp) (by simp [results, Tryz.results110, go_sem]) rfl ⟨_, rfl, hown', hk⟩

theorem s_SortI {base : Nat} (g cap : Nat) (xs : List Int) (w : World) (hx : xs.length ≤ 1000000) (ho : w.ownsRow base 3 1 (.slice (some ⟨g, 0, none⟩) xs.length cap) xs.length (xs.flatMap icell)) :
    Calls Tryz.prog 108 #[.slice (some ⟨g, 0, none⟩) xs.length cap] w fun e w' => e = .returned (.tuple #[]) ∧ w'.ownsRow base 3 1 (.slice (some ⟨g, 0, none⟩) xs.length cap) xs.length ((xs.mergeSort fun x y => decide (x ≤ y)).flatMap icell) ∧ Below base w w' := by
  rw [flat_icell] at ho ⊢
  obtain ⟨g', cap', e0, hb, hlt, hn, hm, -, hH⟩ := Lib.holds_of_ownsRow ho (by simp)
  cases e0
  unfold maxLen at hm
  have h := Any.slices_Sort_int Tryz.lays189 g 0 cap xs w hH hlt (by omega)
  refine Calls.mono h ?_
  rintro e w' ⟨rfl, n, os, rfl⟩
  refine ⟨rfl, ?_, ?_⟩
  · rcases ho.2 with ⟨e0, _⟩ | ⟨g', cap', cur, e0, hb', hg, hn', hm', hs, ht⟩
    · cases e0
    · cases e0
      exact ownsRow_sortedI (List.length_mergeSort xs) hb hg hn hm' hs
  · have hG := grownBy_sortedI (w := w) (g := g) (n := n) (os := os) (xs.mergeSort fun x y => decide (x ≤ y)).toArray
    exact ⟨hG.os, hG.tape, hG.output, hG.size, fun i hi => hG.block i (by omega) (fun he => by cases he; omega)⟩
theorem s_CompactI {base : Nat} (g cap : Nat) (xs : List Int) (w : World) (ho : w.ownsRow base 3 1 (.slice (some ⟨g, 0, none⟩) xs.length cap) xs.length (xs.flatMap icell)) :
    Calls Tryz.prog 109 #[.slice (some ⟨g, 0, none⟩) xs.length cap] w fun e w' => e = .returned (.slice (some ⟨g, 0, none⟩) (Lib.compact xs).length cap) ∧ w'.ownsRow base 3 1 (.slice (some ⟨g, 0, none⟩) (Lib.compact xs).length cap) (Lib.compact xs).length ((Lib.compact xs).flatMap icell) ∧ Below base w w' := by
  rw [flat_icell] at ho ⊢
  obtain ⟨g', cap', e0, hb, hlt, hn, hm, -, hH⟩ := Lib.holds_of_ownsRow ho (by simp)
  cases e0
  unfold maxLen at hm
  have h := Any.slices_Compact_int Tryz.lays20 g 0 cap xs w hH (by omega) hn
  refine Calls.mono h ?_
  rintro e w' ⟨rfl, q, rfl⟩
  have hle := Lib.compact_length_le xs
  refine ⟨rfl, ?_, Lib.below_putRow (Below.refl _ _) hb⟩
  have := Lib.ownsRow_putRow (q := q) (k := (Lib.compact xs).length) (ys := Lib.compact xs ++ List.replicate (xs.length - (Lib.compact xs).length) 0) ho (by simp; omega) hle
  simpa [List.take_append_of_le_length (Nat.le_refl _)] using this
theorem s_CompactN {base n : Nat} (g cap : Nat) (xs : List Int) (w : World) (hn : xs.length = n) (ho : w.ownsRow base 3 1 (.slice (some ⟨g, 0, none⟩) n cap) n (xs.flatMap icell)) :
    Calls Tryz.prog 109 #[.slice (some ⟨g, 0, none⟩) n cap] w fun e w' => e = .returned (.slice (some ⟨g, 0, none⟩) (Lib.compact xs).length cap) ∧ w'.ownsRow base 3 1 (.slice (some ⟨g, 0, none⟩) (Lib.compact xs).length cap) (Lib.compact xs).length ((Lib.compact xs).flatMap icell) ∧ Below base w w' := by
  subst hn
  exact s_CompactI g cap xs w ho
theorem f_w0 (v : Option Addr) (n c : Nat) (w : World) : Calls Tryz.prog 73 #[.slice v n c] w fun e w' => e = .returned (.bool (decide (n = 0))) ∧ Kept w w' := by
  go_enter Tryz.func73, Tryz.ntmps73
  go_wp2
  refine bodyPost_ret (v := .bool (decide (n = 0))) (by simp [results, Tryz.results73, go_sem]; by_cases h : n = 0 <;> simp [h]) rfl ⟨rfl, by (exact kpt)⟩
theorem f_w2 (v : Option Addr) (n c : Nat) (w : World) : Calls Tryz.prog 74 #[.slice v n c] w fun e w' => e = .returned (.bool (decide (1 < n))) ∧ Kept w w' := by
  go_enter Tryz.func74, Tryz.ntmps74
  go_wp2
  refine bodyPost_ret (v := .bool (decide (1 < n))) (by simp [results, Tryz.results74, go_sem]; try omega) rfl ⟨rfl, by (exact kpt)⟩

end Go.Proofs.YtacbkbilbmkjnaaGreat

/-
  The program's search for a state.
-/
namespace Go.Proofs.YtacbkbilbmkjnaaGreat
open Go.RowKit Bal Bal.Trim Bal.Mast
set_option linter.unusedVariables false
set_option linter.unusedSimpArgs false
set_option maxHeartbeats 4000000
set_option maxRecDepth 100000

/-! ### plain -/
def valsTo (d : Tb) (pre : List Int) (k : Nat) : List Int := (match d.vars[pre.length]? with | some v => [v.lo] | none => []) ++ ((matchL d pre).take k).flatMap (rowVals d pre.length)
theorem valsTo_all (d : Tb) (pre : List Int) : valsTo d pre (matchL d pre).length = valsP d pre := by unfold valsTo valsP; rw [List.take_length]; rfl
theorem valsTo_zero {d : Tb} {pre : List Int} (h : pre.length < d.vars.length) : valsTo d pre 0 = [d.vars[pre.length].lo] := by unfold valsTo; simp [h]
theorem valsTo_succ {d : Tb} {pre : List Int} {k i : Nat} (h : (matchL d pre)[k]? = some i) : valsTo d pre (k + 1) = valsTo d pre k ++ rowVals d pre.length i := by
  obtain ⟨hk, e⟩ := List.getElem?_eq_some_iff.1 h
  unfold valsTo
  rw [List.take_succ_eq_append_getElem hk, List.flatMap_append, e]
  simp
theorem rowVals_len (d : Tb) (k i : Nat) : (rowVals d k i).length ≤ 2 := by
  unfold rowVals
  split
  · exact Nat.le_trans (List.length_filter_le _ _) (by simp)
  · simp
theorem valsTo_len (d : Tb) (pre : List Int) (k : Nat) : (valsTo d pre k).length ≤ 1 + 2 * k := by
  unfold valsTo
  rw [List.length_append]
  have h1 : (match d.vars[pre.length]? with | some v => [v.lo] | none => []).length ≤ 1 := by split <;> simp
  have h2 : (((matchL d pre).take k).flatMap (rowVals d pre.length)).length ≤ 2 * ((matchL d pre).take k).length := by
    generalize (matchL d pre).take k = l
    induction l with
    | nil => simp
    | cons x l ih => rw [List.flatMap_cons, List.length_append, List.length_cons]; have := rowVals_len d pre.length x; omega
  have h3 : ((matchL d pre).take k).length ≤ k := List.length_take_le k _
  omega
theorem valsTo_pos {d : Tb} {pre : List Int} {k : Nat} (h : pre.length < d.vars.length) : 0 < (valsTo d pre k).length := by unfold valsTo; simp [h]
theorem filt_one (p : Int → Bool) (a b : Int) : ([a, b].take 1).filter p = ([a, b].take 0).filter p ++ if p a = true then [a] else [] := by cases h : p a <;> simp [h]
theorem filt_two (p : Int → Bool) (a b : Int) : ([a, b].take 2).filter p = ([a, b].take 1).filter p ++ if p b = true then [b] else [] := by cases h : p a <;> cases h2 : p b <;> simp [h, h2]
theorem firstP_found {d : Tb} {W : List Nat → Bool} {m : Nat} {st s : List Int} {k : Nat} (hk : k < (once (valsP d st)).length) (hno : ∀ j (hj : j < (once (valsP d st)).length), j < k → firstP d W m (st ++ [(once (valsP d st))[j]]) = none)
    (h : firstP d W m (st ++ [(once (valsP d st))[k]]) = some s) : firstP d W (m + 1) st = some s := by
  unfold firstP
  rw [List.findSome?_eq_some_iff]
  refine ⟨(once (valsP d st)).take k, _, (once (valsP d st)).drop (k + 1), by simp, h, fun x hx => ?_⟩
  obtain ⟨j, hj, rfl⟩ := List.mem_iff_getElem.1 hx
  rw [List.length_take] at hj
  rw [List.getElem_take]
  exact hno j (by omega) (by omega)
theorem firstP_none {d : Tb} {W : List Nat → Bool} {m : Nat} {st : List Int} (hno : ∀ j (hj : j < (once (valsP d st)).length), firstP d W m (st ++ [(once (valsP d st))[j]]) = none) : firstP d W (m + 1) st = none := by
  unfold firstP
  rw [List.findSome?_eq_none_iff]
  intro x hx
  obtain ⟨j, hj, rfl⟩ := List.mem_iff_getElem.1 hx
  exact hno j hj
/-! ### the question, and the answer -/
structure Asks (W : List Nat → Bool) (F : FuncId) : Prop where
  cf : ∀ (args : Array Value) (w : World), (callFunc F args).run Tryz.prog w = .ok (.enter F args) w
  ask : ∀ (l : List Nat) (a : Option Addr) (c : Nat) (w : World), Calls Tryz.prog F #[.slice a l.length c] w fun e w' => e = .returned (.bool (W l)) ∧ Kept w w'
theorem asks0 : Asks W0 73 := ⟨fun args w => by kernel_rfl, fun l a c w => f_w0 a l.length c w⟩
theorem asks2 : Asks W2 74 := ⟨fun args w => by kernel_rfl, fun l a c w => f_w2 a l.length c w⟩
def FOut (o : Option (List Int)) (w : World) (z : Ending) : Prop := ∃ a c, z = .returned (.slice a (outS o).length c) ∧ Row icell 1 w.heap.size w a (outS o) ∧ (outS o).length ≤ c ∧ c ≤ maxLen ∧ ((o = none ∧ a = none ∧ c = 0) ∨ (o.isSome = true ∧ a.isNone = false))
theorem Blk.apart {w w' : World} {b : Nat} {arr : Array Value} {t : TypeId} {o : Option Nat} (h : Blk w b arr t) (hg : w.grownBy w' o) (hne : o ≠ some b) : Blk w' b arr t := by
  have hl := h.lt
  unfold Blk at *
  rw [hg.block b hl (fun he => hne he.symm)]
  exact h
theorem owns_rowI {w : World} {base n c : Nat} {a : Option Addr} {xs : List Int} (hn : xs.length = n) (h : w.ownsRow base 3 1 (.slice a n c) n (xs.flatMap icell)) : Row icell 1 w.heap.size w a xs ∧ n ≤ c ∧ c ≤ maxLen := by
  subst hn
  obtain ⟨a', c', e, h1, h2, h3⟩ := owns_row (enc := icell) (k := 1) (xs := xs) (fun _ => rfl) h
  cases e
  exact ⟨h1, h2, h3⟩
theorem owns_capM {w : World} {base k n m c : Nat} {e : TypeId} {a : Option Addr} {xs : List Value} (h : w.ownsRow base e k (.slice a n c) m xs) : a = none → c = 0 := by
  rintro rfl
  obtain ⟨_, ⟨hv, _⟩ | ⟨g, cap, cur, hv, _⟩⟩ := h
  · cases hv; rfl
  · cases hv
theorem owns_sliceM {w : World} {base k m : Nat} {e : TypeId} {v : Value} {xs : List Value} (h : w.ownsRow base e k v m xs) : ∃ ad cp, v = .slice ad m cp ∧ w.ownsRow base e k (.slice ad m cp) m xs := by
  obtain ⟨h0, ⟨rfl, rfl⟩ | ⟨g, cap, cur, rfl, hr⟩⟩ := h
  · exact ⟨none, 0, rfl, h0, .inl ⟨rfl, rfl⟩⟩
  · exact ⟨_, _, rfl, h0, .inr ⟨g, cap, cur, rfl, hr⟩⟩
theorem owns_blockM {w : World} {base k m : Nat} {e : TypeId} {v : Value} {xs : List Value} (h : w.ownsRow base e k v m xs) (hm : 0 < m) (hk : 0 < k) : ∃ g cp, v = .slice (some ⟨g, 0, none⟩) m cp ∧ base ≤ g ∧ g < w.heap.size := by
  obtain ⟨h0, ⟨rfl, h1⟩ | ⟨g, cap, cur, rfl, hb, hg, hr⟩⟩ := h
  · exfalso
    rw [h1] at hm
    exact Nat.lt_irrefl 0 hm
  · exact ⟨g, cap, rfl, hb, (Array.getElem?_eq_some_iff.1 hg).1⟩
theorem cell_blkM {w : World} {g : Nat} {v : Value} {t : TypeId} (h : Blk w g #[v] t) : ∀ j u, [v][j]? = some u → w.cell? ((⟨g, 0, none⟩ : Addr).add j) = some u := by
  intro j u hj
  have hj0 : j = 0 := by
    have := (List.getElem?_eq_some_iff.1 hj).1
    simp at this; omega
  subst hj0
  simp at hj
  subst hj
  have := h.cell 0
  simpa [Addr.add] using this

theorem f_first (vs : List Span) (va : Option Addr) (vc : Nat) (rs : List RowM) (ra : Option Addr) (rc : Nat) (hv : validB (tbOf vs rs) = true) (W : List Nat → Bool) (F : FuncId) (hF : Asks W F) : ∀ (m : Nat) (w : World) (ht : TabAt ⟨vs, va, vc, rs, ra, rc⟩ w) (sa : Option Addr) (sc : Nat) (st : List Int) (hs : Row icell 1 w.heap.size w sa st) (hsl : st.length ≤ sc) (hsm : sc ≤ maxLen) (hz : sa = none → sc = 0) (hm : st.length + m = vs.length),
    Calls Tryz.prog 72 #[.agg #[.slice va vs.length vc, .slice ra rs.length rc], .slice sa st.length sc, .func (.func F) #[] #[]] w fun e w' => FOut (firstP (tbOf vs rs) W m st) w' e ∧ Kept w w' := by
  obtain ⟨q1, q2, q3, q4⟩ := valid_parts.1 hv
  have hn := inB_iff.1 q1
  rw [show (tbOf vs rs).vars = vs from rfl] at hn
  rw [rows_len] at q2
  have hn3 : 1 ≤ vs.length ∧ vs.length ≤ 3 := by omega
  have HR := Lib.hid (show rs.length ≤ 1000 by omega)
  have HVL := Lib.hid (fun (k : Nat) (hk : k < vs.length) => (by
    have := spanOk_le (q3 vs[k] (List.getElem_mem hk)); omega : (-1000 ≤ vs[k].lo ∧ vs[k].lo ≤ 1000) ∧ -1000 ≤ vs[k].hi ∧ vs[k].hi ≤ 1000))
  have HCE := Lib.hid (fun x hx => by have := (q4 x.r (mem_rowsT hx)).1; exact this : ∀ x ∈ rs, x.r.conds.length = vs.length)
  have HBC := Lib.hid (fun x hx c hc => by have := spanOk_le ((q4 x.r (mem_rowsT hx)).2.2 c hc); omega : ∀ x ∈ rs, ∀ c ∈ x.r.conds, (-1000 ≤ c.lo ∧ c.lo ≤ 1000) ∧ -1000 ≤ c.hi ∧ c.hi ≤ 1000)
  clear q1 q2 q3 q4 hn
  intro m
  induction m with
  | zero =>
    intro w ht sa sc st hs hsl hsm hz hm
    have htv : Row Span.cells 2 w.heap.size w va vs := ht.vars
    have hvm : vc ≤ maxLen := ht.vm
    have hrm : rc ≤ maxLen := ht.rm
    have hvl : vs.length ≤ vc := ht.vl
    have hrl : rs.length ≤ rc := ht.rl
    unfold maxLen at hvm hrm
    have HCS := Lib.hid (fun x hx => by rw [HCE.out x hx]; omega : ∀ x ∈ rs, st.length ≤ x.r.conds.length)
    have lf1 : ((st.length : Int) == (vs.length : Int)) = true := by simp; omega
    have lf2 : ((st.length : Int) = (vs.length : Int)) = True := by simp; omega
    obtain ⟨bs, os, hsa, -, -⟩ := int_row hs 0 (by omega)
    have HSA := Lib.hid hsa
    clear hsa
    go_enter Tryz.func72, Tryz.ntmps72
    go_upto_region 2 with fail
    go_upto_region 3 with (first | (go_at_call 71; (with_reducible refine (f_matching vs va vc rs ra rc _ (ht.later (by (exact kpt))) sa sc st).mono ?_); rintro z w1 ⟨rfl, rfl⟩) | (go_at_call 70; (with_reducible refine (f_Collect vs va vc rs ra rc w ht sa sc st hs hsl hsm HR.out HCS.out _ ?_ _ _ ?_ ?_).mono ?_); (focus (exact kpt)); (focus (first | (with_reducible refine Blk.drew (Blk.new' ?_); (first | rfl | (simp; done))) | (with_reducible refine Blk.new' ?_; (first | rfl | (simp; done))) | (exact blk))); (focus (first | (with_reducible refine Blk.drew (Blk.new' ?_); (first | rfl | (simp; done))) | (with_reducible refine Blk.new' ?_; (first | rfl | (simp; done))) | (exact blk))); rintro z w1 ⟨v1, rfl, ho1, hb1⟩; obtain ⟨ad1, cp1, rfl, -⟩ := owns_row (enc := icell) (k := 1) (xs := natsI (matchL (tbOf vs rs) st)) (fun _ => rfl) (by rw [natsI_len]; exact ho1); rw [natsI_len] at ho1 ⊢; refine Blk.thru (b := w.heap.size) (arr := ?_) (t := ?_) ?_ hb1 ?_; rotate_left 2; (focus (exact blk)); intro q3; have q3c0 := q3.cell 0; have q3f0 := q3.free 0; have q3c1 := q3.cell 1; have q3f1 := q3.free 1; have q3l := q3.lt; simp at q3c0 q3c1))
    refine at_world (S := fun V => Blk V w.heap.size #[.slice va vs.length vc, .slice ra rs.length rc] 68 ∧ V.ownsRow w.heap.size 3 1 (.slice ad1 (matchL (tbOf vs rs) st).length cp1) (matchL (tbOf vs rs) st).length ((natsI (matchL (tbOf vs rs) st)).flatMap icell) ∧ Kept w V) ⟨by (exact blk), owns_base ho1 (by simp only [World.size_alloc]; omega), by (exact kpt)⟩ ?_
    clear ho1 hb1 q3 q3c0 q3f0 q3c1 q3f1 q3l
    rintro V ⟨r3, hoL, hkV⟩
    have r3c0 := r3.cell 0
    have r3f0 := r3.free 0
    have r3c1 := r3.cell 1
    have r3f1 := r3.free 1
    have r3l := r3.lt
    simp at r3c0 r3c1
    have hcf := hF.cf
    obtain ⟨BQ, hBQ⟩ : ∃ B, B = W (matchL (tbOf vs rs) st) := ⟨_, rfl⟩
    have HASK := Lib.hid (fun a c w => (by have := hF.ask (matchL (tbOf vs rs) st) a c w; rwa [← hBQ] at this : Calls Tryz.prog F #[.slice a (matchL (tbOf vs rs) st).length c] w fun e w' => e = .returned (.bool BQ) ∧ Kept w w'))
    have HFP := Lib.hid (show firstP (tbOf vs rs) W 0 st = if BQ then some st else none by rw [hBQ]; rfl)
    clear hBQ
    cases BQ with
    | false =>
      go_wp2_with ((with_reducible refine (HASK.out ad1 cp1 _).mono ?_); rintro z w1 ⟨rfl, hb1⟩)
      exact bodyPost_ret (v := .slice none 0 0) (by simp [results, Tryz.results72, go_sem]) rfl ⟨by rw [HFP.out]; exact ⟨none, 0, rfl, Row.nil, Nat.le_refl _, Nat.zero_le _, .inl ⟨rfl, rfl, rfl⟩⟩, by (exact kpt)⟩
    | true =>
      go_wp2_with ((with_reducible refine (HASK.out ad1 cp1 _).mono ?_); rintro z w1 ⟨rfl, hb1⟩)
      exact bodyPost_ret (v := .slice sa st.length sc) (by simp [results, Tryz.results72, go_sem]) rfl ⟨by rw [HFP.out]; exact ⟨sa, sc, rfl, hs.later (by (exact kpt)) (Nat.le_refl _), hsl, hsm, .inr ⟨rfl, by rw [HSA.out]; rfl⟩⟩, by (exact kpt)⟩
  | succ m ih =>
    intro w ht sa sc st hs hsl hsm hz hm
    have htv : Row Span.cells 2 w.heap.size w va vs := ht.vars
    have hvm : vc ≤ maxLen := ht.vm
    have hrm : rc ≤ maxLen := ht.rm
    have hvl : vs.length ≤ vc := ht.vl
    have hrl : rs.length ≤ rc := ht.rl
    unfold maxLen at hvm hrm
    have hk : st.length < vs.length := by omega
    have HCS := Lib.hid (fun x hx => by rw [HCE.out x hx]; omega : ∀ x ∈ rs, st.length ≤ x.r.conds.length)
    have lf1 : ((st.length : Int) == (vs.length : Int)) = false := by simp; omega
    have lf2 : ((st.length : Int) = (vs.length : Int)) = False := by simp; omega
    have hml : (matchL (tbOf vs rs) st).length ≤ 1000 := by
      have := match_few (d := tbOf vs rs) st
      rw [rows_len] at this; have := HR.out; omega
    have HIH := Lib.hid ih
    clear ih
    obtain ⟨OF, hOF⟩ : ∃ OF, OF = firstP (tbOf vs rs) W (m + 1) st := ⟨_, rfl⟩
    have HOF := Lib.hid hOF
    rw [← hOF]
    clear hOF
    go_enter Tryz.func72, Tryz.ntmps72
    go_upto_region 2 with fail
    go_upto_region 3 with (first | (go_at_call 71; (with_reducible refine (f_matching vs va vc rs ra rc _ (ht.later (by (exact kpt))) sa sc st).mono ?_); rintro z w1 ⟨rfl, rfl⟩) | (go_at_call 70; (with_reducible refine (f_Collect vs va vc rs ra rc w ht sa sc st hs hsl hsm HR.out HCS.out _ ?_ _ _ ?_ ?_).mono ?_); (focus (exact kpt)); (focus (first | (with_reducible refine Blk.drew (Blk.new' ?_); (first | rfl | (simp; done))) | (with_reducible refine Blk.new' ?_; (first | rfl | (simp; done))) | (exact blk))); (focus (first | (with_reducible refine Blk.drew (Blk.new' ?_); (first | rfl | (simp; done))) | (with_reducible refine Blk.new' ?_; (first | rfl | (simp; done))) | (exact blk))); rintro z w1 ⟨v1, rfl, ho1, hb1⟩; obtain ⟨ad1, cp1, rfl, -⟩ := owns_row (enc := icell) (k := 1) (xs := natsI (matchL (tbOf vs rs) st)) (fun _ => rfl) (by rw [natsI_len]; exact ho1); rw [natsI_len] at ho1 ⊢; refine Blk.thru (b := w.heap.size) (arr := ?_) (t := ?_) ?_ hb1 ?_; rotate_left 2; (focus (exact blk)); intro q3; have q3c0 := q3.cell 0; have q3f0 := q3.free 0; have q3c1 := q3.cell 1; have q3f1 := q3.free 1; have q3l := q3.lt; simp at q3c0 q3c1))
    refine at_world (S := fun V => Blk V w.heap.size #[.slice va vs.length vc, .slice ra rs.length rc] 68 ∧ V.ownsRow w.heap.size 3 1 (.slice ad1 (matchL (tbOf vs rs) st).length cp1) (matchL (tbOf vs rs) st).length ((natsI (matchL (tbOf vs rs) st)).flatMap icell) ∧ Kept w V) ⟨by (exact blk), owns_base ho1 (by simp only [World.size_alloc]; omega), by (exact kpt)⟩ ?_
    clear ho1 hb1 q3 q3c0 q3f0 q3c1 q3f1 q3l
    rintro V ⟨r3, hoL, hkV⟩
    have hrow := hoL
    rw [flat_icell] at hrow
    obtain ⟨_, _, e1, hrowL, hcL, hmL⟩ := owns_row (enc := icell) (k := 1) (xs := natsI (matchL (tbOf vs rs) st)) (fun _ => rfl) (by rw [natsI_len]; exact hoL)
    clear hrow
    simp only [natsI_len, Value.slice.injEq, true_and] at e1 hcL
    obtain ⟨rfl, rfl⟩ := e1
    unfold maxLen at hmL
    obtain ⟨vb, vo, rfl, hvb, v0, v1⟩ := Span.row (htv.later hkV (Nat.le_refl _)) st.length hk
    have HV0 := Lib.hid (valsTo_zero (d := tbOf vs rs) (pre := st) hk)
    have HXB := HVL.out st.length hk
    have HXV := Lib.hid (show (tbOf vs rs).vars[st.length]? = some vs[st.length] from by show vs[st.length]? = _; simp [hk])
    rw [show (tbOf vs rs).vars[st.length]'hk = vs[st.length] from rfl] at HV0
    obtain ⟨X, hX⟩ : ∃ X, X = vs[st.length] := ⟨_, rfl⟩
    rw [← hX] at v0 v1 HV0 HXB HXV
    clear hX
    have i0 : (0 : Int) ≤ (st.length : Int) := by omega
    have i1 : (st.length : Int) < (vs.length : Int) := by omega
    have r3c0 := r3.cell 0
    have r3f0 := r3.free 0
    have r3c1 := r3.cell 1
    have r3f1 := r3.free 1
    have r3l := r3.lt
    simp at r3c0 r3c1
    go_upto_region 8 with fail
    refine at_world (S := fun U => Blk U V.heap.size #[.int .i64 X.lo] 3 ∧ Kept V U) ⟨by (exact blk), by (exact kpt)⟩ ?_
    rintro U ⟨r9, hkU⟩
    have ho9 : U.ownsRow V.heap.size 3 1 (.slice (some ⟨V.heap.size, 0, none⟩) 1 1) 1 [.int .i64 X.lo] := ⟨rfl, .inr ⟨_, 1, _, rfl, Nat.le_refl _, r9, Nat.le_refl _, by decide, rfl, rfl⟩⟩
    have HVC := Lib.hid (fun (U : World) (hU : Kept V U) => (⟨(hU.cell (p := ⟨vb, vo + st.length * 2, none⟩) hvb).trans v0, (hU.cell (p := ⟨vb, vo + st.length * 2 + 1, none⟩) hvb).trans v1⟩ : U.cell? ⟨vb, vo + st.length * 2, none⟩ = some (.int .i64 X.lo) ∧ U.cell? ⟨vb, vo + st.length * 2 + 1, none⟩ = some (.int .i64 X.hi)))
    clear v0 v1 r9 r3c0 r3f0 r3c1 r3f1 r3l
    go_wp2
    go_loopw [9, 42] (fun s9 i wr => ∃ k : Nat, k ≤ (matchL (tbOf vs rs) st).length ∧ i = .int .i64 k ∧ (∃ l : List Int, l = valsTo (tbOf vs rs) st k ∧ wr.ownsRow V.heap.size 3 1 s9 l.length (l.flatMap icell)) ∧ Kept V wr) (fun _ i _ => (matchL (tbOf vs rs) st).length - (intOf i).toNat)
    case atStart => exact ⟨0, Nat.zero_le _, rfl, ⟨_, rfl, by rw [HV0.out]; exact ho9⟩, hkU⟩
    case round =>
      clear ho9 hkU
      obtain ⟨k, hk2, rfl, ⟨l, hl, hown⟩, hkr⟩ := hrel
      have hlb : l.length ≤ 2001 := by have := valsTo_len (tbOf vs rs) st k; rw [hl]; omega
      have hlp : 0 < l.length := by rw [hl]; exact valsTo_pos hk
      have HL := Lib.hid hl
      clear hl
      obtain ⟨g9, cp9, rfl, hg1, hg2⟩ := owns_blockM hown hlp (by decide)
      have r3w := r3.keep hkr
      have hkw := Kept.drop hkV hkr
      have hVr := hkr.size
      have hwV := hkV.size
      have r3wc0 := r3w.cell 0
      have r3wf0 := r3w.free 0
      have r3wc1 := r3w.cell 1
      have r3wf1 := r3w.free 1
      have r3wl := r3w.lt
      simp at r3wc0 r3wc1
      by_cases hlt : k < (matchL (tbOf vs rs) st).length
      · obtain ⟨lb, lo_, rfl, hlb0, x0⟩ := int_row (hrowL.later hkr (Nat.le_refl _)) k (by rw [natsI_len]; exact hlt)
        have hil : (matchL (tbOf vs rs) st)[k] < rs.length := by
          obtain ⟨h, -⟩ := mem_match.1 (List.getElem_mem hlt)
          rw [rows_len] at h; exact h
        have hsuc := valsTo_succ (d := tbOf vs rs) (pre := st) (k := k) (i := (matchL (tbOf vs rs) st)[k]) (by simp [hlt])
        have x0b : wr.cell? ⟨lb, lo_ + k, none⟩ = some (.int .i64 (((matchL (tbOf vs rs) st)[k] : Nat) : Int)) := by simpa [natsI] using x0
        obtain ⟨i, hi⟩ : ∃ i, i = (matchL (tbOf vs rs) st)[k] := ⟨_, rfl⟩
        rw [← HL.out] at hsuc
        simp only [← hi] at hil hsuc x0b
        clear hi x0
        have htr : Row RowM.cells 2 w.heap.size w ra rs := ht.rows
        obtain ⟨rb, ro, rfl, hrb, g0, g1⟩ := RowM.row (htr.later hkw (Nat.le_refl _)) i hil
        have hcnd : Row Span.cells 2 w.heap.size w rs[i].ad rs[i].r.conds := ht.conds _ (List.getElem_mem hil)
        have hce : rs[i].r.conds.length = vs.length := HCE.out _ (List.getElem_mem hil)
        have hbc : ∀ c ∈ rs[i].r.conds, (-1000 ≤ c.lo ∧ c.lo ≤ 1000) ∧ -1000 ≤ c.hi ∧ c.hi ≤ 1000 := HBC.out _ (List.getElem_mem hil)
        have hc3 : rs[i].r.conds.length ≤ rs[i].cap := (ht.cl _ (List.getElem_mem hil)).1
        have hc4 : rs[i].cap ≤ maxLen := (ht.cl _ (List.getElem_mem hil)).2
        obtain ⟨c, hcx⟩ : ∃ c, rs[i].r.conds[st.length]? = some c := ⟨rs[i].r.conds[st.length]'(by omega), List.getElem?_eq_getElem (by omega)⟩
        have hrv : rowVals (tbOf vs rs) st.length i = ([c.lo, c.hi + 1].filter (fun n => inB n X.lo X.hi)) := by
          unfold rowVals
          rw [HXV.out]
          have e1 : ((tbOf vs rs).rows[i]?).bind (fun r => r.conds[st.length]?) = some c := by
            rw [← hcx]
            simp [tbOf, hil]
          rw [e1]
        rw [hrv] at hsuc
        clear hrv
        have hcB := hbc _ (List.mem_of_getElem? hcx)
        obtain ⟨R, hR⟩ : ∃ R, R = rs[i] := ⟨_, rfl⟩
        simp only [← hR] at g0 g1 hcnd hce hc3 hc4 hcx
        clear hR hbc
        obtain ⟨⟨cs, ac⟩, ca, cc⟩ := R
        simp only at g0 g1 hcnd hce hc3 hc4 hcx
        unfold maxLen at hc4
        obtain ⟨cb, co, rfl, hcb, c0, c1⟩ := Span.row (hcnd.later hkw (Nat.le_refl _)) st.length (by omega)
        have hcy : cs[st.length]'(by omega) = c := by
          obtain ⟨_, e⟩ := List.getElem?_eq_some_iff.1 hcx
          exact e
        rw [hcy] at c0 c1
        have hc : True := trivial
        have HVS := Lib.hid hsuc
        clear hc hsuc hcx hcy
        have u1 : IntKind.i64.wrap (c.hi + 1) = c.hi + 1 := by rw [IntKind.wrap_i64]; omega
        have u2 : wrap64 (c.hi + 1) = c.hi + 1 := by unfold wrap64; omega
        have j0 : (0 : Int) ≤ (i : Int) := by omega
        have j1 : (i : Int) < (rs.length : Int) := by omega
        have j2 : (st.length : Int) < (cs.length : Int) := by omega
        have j3 : (0 : Int) ≤ (k : Int) := by omega
        have j4 : (k : Int) < ((matchL (tbOf vs rs) st).length : Int) := by omega
        go_wp2
        refine at_world (S := fun Y => Blk Y (wr.heap.size + 1) #[.int .i64 c.lo, .int .i64 (c.hi + 1)] 3 ∧ Y.ownsRow V.heap.size 3 1 (.slice (some ⟨g9, 0, none⟩) l.length cp9) l.length (l.flatMap icell) ∧ Kept V Y) ⟨by (exact blk), owns_keep hown (by (exact kpt)), by (exact kpt)⟩ ?_
        clear hown hkr r3w g0 g1 c0 c1 x0b u1 u2 r3wc0 r3wf0 r3wc1 r3wf1 r3wl
        have HG := Lib.hid hg2
        obtain ⟨Z1, rfl⟩ : ∃ Z1 : World, Z1 = wr := ⟨_, rfl⟩
        rintro Y ⟨rA, hown, hkY⟩
        go_loopw [9, 62] (fun s9 j wr => ∃ j' : Nat, j' ≤ 2 ∧ j = .int .i64 j' ∧ (j' = 0 → s9 = .slice (some ⟨g9, 0, none⟩) l.length cp9) ∧ (j' ≤ 1 → Blk wr (Z1.heap.size + 1) #[.int .i64 c.lo, .int .i64 (c.hi + 1)] 3) ∧ (∃ l2 : List Int, l2 = l ++ ([c.lo, c.hi + 1].take j').filter (fun n => inB n X.lo X.hi) ∧ wr.ownsRow V.heap.size 3 1 s9 l2.length (l2.flatMap icell)) ∧ Kept V wr) (fun _ j _ => 2 - (intOf j).toNat)
        case atStart => exact ⟨0, by omega, rfl, fun _ => rfl, fun _ => rA, ⟨l, by simp, hown⟩, hkY⟩
        case round =>
          clear rA hown hkY
          obtain ⟨j, hj, rfl, h90, hq0, ⟨l2, hl2, hown2⟩, hkr2⟩ := hrel
          rcases (by omega : j = 0 ∨ j = 1 ∨ j = 2) with rfl | rfl | rfl
          · obtain rfl := h90 rfl
            have hl2b : l2.length ≤ 2001 := by rw [hl2]; simpa using hlb
            have q0 := hq0 (by omega)
            clear h90 hq0
            have q0c0 := q0.cell 0
            have q0f0 := q0.free 0
            have q0c1 := q0.cell 1
            have q0f1 := q0.free 1
            have q0l := q0.lt
            simp at q0c0 q0c1
            obtain ⟨y, hy⟩ : ∃ y, y = c.lo := ⟨_, rfl⟩
            rw [← hy] at q0c0
            have HE := Lib.hid (show l ++ ([c.lo, c.hi + 1].take 1).filter (fun n => inB n X.lo X.hi) = l2 ++ (if inB y X.lo X.hi = true then [y] else []) by rw [hl2, filt_one, List.append_assoc, hy])
            clear hy
            have hkW := Kept.drop hkV hkr2
            have rw3 := r3.keep hkr2
            have lw := rw3.lt
            have hVR := hkr2.size
            have k0 : ∀ w2, Kept wr w2 → w2.cell? ⟨w.heap.size, 0, none⟩ = some (.slice (some ⟨vb, vo, none⟩) vs.length vc) := fun w2 h => by simpa using (rw3.keep h).cell 0
            have k2 : ∀ w2, Kept wr w2 → w2.cell? ⟨vb, vo + st.length * 2, none⟩ = some (.int .i64 X.lo) := fun w2 h => (HVC.out w2 (Kept.drop hkr2 h)).1
            have k3 : ∀ w2, Kept wr w2 → w2.cell? ⟨vb, vo + st.length * 2 + 1, none⟩ = some (.int .i64 X.hi) := fun w2 h => (HVC.out w2 (Kept.drop hkr2 h)).2
            obtain rfl : l = l2 := by rw [hl2]; simp
            clear hl2
            go_upto_region 15 with fail
            clear q0c0 q0c1 q0f0 q0f1 q0l
            cases hb : inB y X.lo X.hi
            · have HB := Lib.hid (show inB y X.lo X.hi = false from hb)
              have HF := Lib.hid (show l ++ ([c.lo, c.hi + 1].take 1).filter (fun n => inB n X.lo X.hi) = l by rw [HE.out, hb]; simp)
              clear hb HE
              go_region_held3 (fun w2 => Kept wr w2) (exact kpt) (first | (go_at_call 44; (with_reducible refine (f_rangedB X.lo X.hi y _ 3 _ ?_).mono ?_); (focus (first | (with_reducible refine Blk.drew (Blk.new' ?_); (first | rfl | (simp; done))) | (with_reducible refine Blk.new' ?_; (first | rfl | (simp; done))) | (exact blk))); rw [HB.out]; rintro z w2 ⟨rfl, hb2⟩) | fail)
              all_goals
                go_wp2
                go_roundw
                case rel =>
                  have hkf : Kept wr w2 := by (exact kpt)
                  exact ⟨1, by omega, by go_num, fun h => absurd h (by omega), fun _ => q0.keep hkf, ⟨l, HF.out.symm, owns_keep hown2 hkf⟩, Kept.drop hkr2 hkf⟩
                case measure => simp [intOf]
            · have HB := Lib.hid (show inB y X.lo X.hi = true from hb)
              have HF := Lib.hid (show l ++ ([c.lo, c.hi + 1].take 1).filter (fun n => inB n X.lo X.hi) = l ++ [y] by rw [HE.out, hb]; simp)
              clear hb HE
              go_region_held3 (fun w2 => Kept wr w2) (exact kpt) (first | (go_at_call 44; (with_reducible refine (f_rangedB X.lo X.hi y _ 3 _ ?_).mono ?_); (focus (first | (with_reducible refine Blk.drew (Blk.new' ?_); (first | rfl | (simp; done))) | (with_reducible refine Blk.new' ?_; (first | rfl | (simp; done))) | (exact blk))); rw [HB.out]; rintro z w2 ⟨rfl, hb2⟩) | fail)
              all_goals
                have hkf : Kept wr w2 := by (exact kpt)
                have ho8 := owns_keep hown2 hkf
                have hz2 := hkf.size
                go_wp2_with (at_builtin; obtain ⟨i0, hi, hz0, hz1, hz2⟩ := info_parts infoIntM; refine wpList_append_own _ rfl _ _ 29 rfl V.heap.size 3 i0 (.int .i64 0) 1 8 Tryz.underlying29 hi hz0 hz1 hz2 rfl (by decide) _ _ _ rfl (ho8.alloc _) ⟨_, 0, none⟩ 1 1 [.int .i64 y] rfl rfl (cell_one_at (by simp) _ _) (fun x hx => by simp at hx; subst hx; rfl) (by unfold maxLen; omega) (by omega) (by simp only [World.size_alloc]; omega) ?_; intro v9 w9 hown9 hgrow9 hnil9; clear hi hz0 hz1 hz2)
                go_roundw
                case rel =>
                  exact ⟨1, by omega, by go_num, fun h => absurd h (by omega), fun _ => Blk.apart ((q0.keep hkf).alloc _) hgrow9 (show (Value.slice (some ⟨g9, 0, none⟩) l.length cp9).ownBlock ≠ some (Z1.heap.size + 1) by simp [Value.ownBlock]; have := HG.out; omega), ⟨l ++ [y], HF.out.symm, by rw [List.flatMap_append, List.length_append]; exact hown9⟩, Kept.grown (Kept.alloc (Kept.drop hkr2 hkf) _) (ho8.alloc _) (Nat.le_refl _) hgrow9⟩
                case measure => simp [intOf]
          · have hl2b : l2.length ≤ 2003 := by rw [hl2, List.length_append]; have := List.length_filter_le (fun n => inB n X.lo X.hi) ([c.lo, c.hi + 1].take 1); simp only [List.length_take, List.length_cons, List.length_nil] at this; omega
            have hl2p : 0 < l2.length := by rw [hl2, List.length_append]; omega
            obtain ⟨g9, cp9, rfl, hg8, hg7⟩ := owns_blockM hown2 hl2p (by decide)
            have q0 := hq0 (by omega)
            clear h90 hq0
            have q0c0 := q0.cell 0
            have q0f0 := q0.free 0
            have q0c1 := q0.cell 1
            have q0f1 := q0.free 1
            have q0l := q0.lt
            simp at q0c0 q0c1
            obtain ⟨y, hy⟩ : ∃ y, y = (c.hi + 1) := ⟨_, rfl⟩
            rw [← hy] at q0c1
            have HE := Lib.hid (show l ++ ([c.lo, c.hi + 1].take 2).filter (fun n => inB n X.lo X.hi) = l2 ++ (if inB y X.lo X.hi = true then [y] else []) by rw [hl2, filt_two, List.append_assoc, hy])
            clear hy hl2
            have hkW := Kept.drop hkV hkr2
            have rw3 := r3.keep hkr2
            have lw := rw3.lt
            have hVR := hkr2.size
            have k0 : ∀ w2, Kept wr w2 → w2.cell? ⟨w.heap.size, 0, none⟩ = some (.slice (some ⟨vb, vo, none⟩) vs.length vc) := fun w2 h => by simpa using (rw3.keep h).cell 0
            have k2 : ∀ w2, Kept wr w2 → w2.cell? ⟨vb, vo + st.length * 2, none⟩ = some (.int .i64 X.lo) := fun w2 h => (HVC.out w2 (Kept.drop hkr2 h)).1
            have k3 : ∀ w2, Kept wr w2 → w2.cell? ⟨vb, vo + st.length * 2 + 1, none⟩ = some (.int .i64 X.hi) := fun w2 h => (HVC.out w2 (Kept.drop hkr2 h)).2
            go_upto_region 15 with fail
            clear q0c0 q0c1 q0f0 q0f1 q0l
            cases hb : inB y X.lo X.hi
            · have HB := Lib.hid (show inB y X.lo X.hi = false from hb)
              have HF := Lib.hid (show l ++ ([c.lo, c.hi + 1].take 2).filter (fun n => inB n X.lo X.hi) = l2 by rw [HE.out, hb]; simp)
              clear hb HE
              go_region_held3 (fun w2 => Kept wr w2) (exact kpt) (first | (go_at_call 44; (with_reducible refine (f_rangedB X.lo X.hi y _ 3 _ ?_).mono ?_); (focus (first | (with_reducible refine Blk.drew (Blk.new' ?_); (first | rfl | (simp; done))) | (with_reducible refine Blk.new' ?_; (first | rfl | (simp; done))) | (exact blk))); rw [HB.out]; rintro z w2 ⟨rfl, hb2⟩) | fail)
              all_goals
                go_wp2
                go_roundw
                case rel =>
                  have hkf : Kept wr w2 := by (exact kpt)
                  exact ⟨2, by omega, by go_num, fun h => absurd h (by omega), fun h => absurd h (by omega), ⟨l2, HF.out.symm, owns_keep hown2 hkf⟩, Kept.drop hkr2 hkf⟩
                case measure => simp [intOf]
            · have HB := Lib.hid (show inB y X.lo X.hi = true from hb)
              have HF := Lib.hid (show l ++ ([c.lo, c.hi + 1].take 2).filter (fun n => inB n X.lo X.hi) = l2 ++ [y] by rw [HE.out, hb]; simp)
              clear hb HE
              go_region_held3 (fun w2 => Kept wr w2) (exact kpt) (first | (go_at_call 44; (with_reducible refine (f_rangedB X.lo X.hi y _ 3 _ ?_).mono ?_); (focus (first | (with_reducible refine Blk.drew (Blk.new' ?_); (first | rfl | (simp; done))) | (with_reducible refine Blk.new' ?_; (first | rfl | (simp; done))) | (exact blk))); rw [HB.out]; rintro z w2 ⟨rfl, hb2⟩) | fail)
              all_goals
                have hkf : Kept wr w2 := by (exact kpt)
                have ho8 := owns_keep hown2 hkf
                have hz2 := hkf.size
                go_wp2_with (at_builtin; obtain ⟨i0, hi, hz0, hz1, hz2⟩ := info_parts infoIntM; refine wpList_append_own _ rfl _ _ 29 rfl V.heap.size 3 i0 (.int .i64 0) 1 8 Tryz.underlying29 hi hz0 hz1 hz2 rfl (by decide) _ _ _ rfl (ho8.alloc _) ⟨_, 0, none⟩ 1 1 [.int .i64 y] rfl rfl (cell_one_at (by simp) _ _) (fun x hx => by simp at hx; subst hx; rfl) (by unfold maxLen; omega) (by omega) (by simp only [World.size_alloc]; omega) ?_; intro v9 w9 hown9 hgrow9 hnil9; clear hi hz0 hz1 hz2)
                go_roundw
                case rel =>
                  exact ⟨2, by omega, by go_num, fun h => absurd h (by omega), fun h => absurd h (by omega), ⟨l2 ++ [y], HF.out.symm, by rw [List.flatMap_append, List.length_append]; exact hown9⟩, Kept.grown (Kept.alloc (Kept.drop hkr2 hkf) _) (ho8.alloc _) (Nat.le_refl _) hgrow9⟩
                case measure => simp [intOf]
          · clear h90 hq0
            have HL2 := Lib.hid hl2
            clear hl2
            have hkW := Kept.drop hkV hkr2
            go_wp2
            go_roundw
            case rel => exact ⟨k + 1, by omega, by go_num, ⟨l2, by rw [HVS.out]; exact HL2.out, hown2⟩, hkr2⟩
            case measure => simp [intOf]; omega
      · obtain rfl : k = (matchL (tbOf vs rs) st).length := by omega
        have HO0 := Lib.hid (show Lib.compact (l.mergeSort fun x y => decide (x ≤ y)) = once (valsP (tbOf vs rs) st) by rw [← valsTo_all, ← HL.out]; rfl)
        go_wp2_with (first | (go_at_call 108; (with_reducible refine (s_SortI (base := V.heap.size) g9 cp9 l _ (by omega) ?_).mono ?_); (focus exact owns_keep hown (by (exact kpt))); rintro z w4 ⟨rfl, ho4, hb4⟩; have hk4 : Kept V w4 := Below.trans (by (exact kpt)) hb4; clear hb4) | (go_at_call 109; (with_reducible refine (s_CompactN (base := V.heap.size) g9 cp9 (l.mergeSort fun x y => decide (x ≤ y)) _ (List.length_mergeSort l) ?_).mono ?_); (focus exact owns_keep ho4 (by (exact kpt))); rintro z w5 ⟨rfl, ho5, hb5⟩; have hk5 : Kept V w5 := Below.trans (by (exact kpt)) hb5; clear hb5))
        have hrO := (owns_rowI rfl ho5).1
        have hlO : (Lib.compact (l.mergeSort fun x y => decide (x ≤ y))).length ≤ 2001 := Nat.le_trans (Lib.compact_length_le _) (by rw [List.length_mergeSort]; exact hlb)
        have hmO := (owns_rowI rfl ho5).2
        obtain ⟨O, hO⟩ : ∃ O, O = Lib.compact (l.mergeSort fun x y => decide (x ≤ y)) := ⟨_, rfl⟩
        rw [← hO] at HO0 hrO hlO hmO ⊢
        clear hO ho5 ho4
        unfold maxLen at hmO
        refine at_world (S := fun Z => Row icell 1 Z.heap.size Z (some ⟨g9, 0, none⟩) O ∧ Blk Z w.heap.size #[.slice (some ⟨vb, vo, none⟩) vs.length vc, .slice ra rs.length rc] 68 ∧ Kept w Z) ⟨hrO.later (by (exact kpt)) (Nat.le_refl _), by (exact blk), by (exact kpt)⟩ ?_
        clear hrO hk4 hk5 r3w hkw r3wc0 r3wf0 r3wc1 r3wf1 r3wl hown hoL hrowL r3
        obtain ⟨Y0, rfl⟩ : ∃ Y0 : World, Y0 = wr := ⟨_, rfl⟩
        rintro Z ⟨hrowO, r3, hkZ⟩
        go_loopw [92] (fun i wr => ∃ k : Nat, k ≤ O.length ∧ i = .int .i64 k ∧ (∀ j (hj : j < O.length), j < k → firstP (tbOf vs rs) W m (st ++ [O[j]]) = none) ∧ Kept Z wr) (fun i _ => O.length - (intOf i).toNat)
        case atStart => exact ⟨0, Nat.zero_le _, rfl, fun j hj h => absurd h (Nat.not_lt_zero _), by (exact kpt)⟩
        case round =>
          obtain ⟨k, hk3, rfl, hno, hkz⟩ := hrel
          have HNO := Lib.hid hno
          clear hno
          have r3z := r3.keep hkz
          have hkk := Kept.drop hkZ hkz
          by_cases hlt2 : k < O.length
          · obtain ⟨ob, oo, e0, hob, x0⟩ := int_row (hrowO.later hkz (Nat.le_refl _)) k hlt2
            simp only [Option.some.injEq, Addr.mk.injEq, and_true] at e0
            obtain ⟨rfl, rfl⟩ := e0
            rw [Nat.zero_add] at x0
            obtain ⟨y, hy⟩ : ∃ y, y = O[k] := ⟨_, rfl⟩
            obtain ⟨OS, hOS⟩ : ∃ OS, OS = firstP (tbOf vs rs) W m (st ++ [y]) := ⟨_, rfl⟩
            have HOS := Lib.hid (show firstP (tbOf vs rs) W m (st ++ [O[k]]) = OS by rw [hOS, hy])
            have HFS := Lib.hid (fun (s : List Int) (hno : ∀ j (hj : j < O.length), j < k → firstP (tbOf vs rs) W m (st ++ [O[j]]) = none) (hs : firstP (tbOf vs rs) W m (st ++ [O[k]]) = some s) => (by
              have h1 := HOF.out
              have h2 := HO0.out
              subst h2
              rw [h1]
              exact firstP_found hlt2 hno hs : OF = some s))
            have HIH2 := Lib.hid (fun (U : World) (ad : Option Addr) (cp : Nat) (hU : Kept w U) (hr : Row icell 1 U.heap.size U ad (st ++ [y])) (h1 : st.length + 1 ≤ cp) (h6 : cp ≤ maxLen) (h7 : ad = none → cp = 0) => (by
              have := HIH.out U (ht.later hU) ad cp (st ++ [y]) hr (by simpa using h1) h6 h7 (by simp; omega)
              rw [← hOS, List.length_append, List.length_singleton] at this
              exact this : Calls Tryz.prog 72 #[.agg #[.slice (some ⟨vb, vo, none⟩) vs.length vc, .slice ra rs.length rc], .slice ad (st.length + 1) cp, .func (.func F) #[] #[]] U fun e w' => FOut OS w' e ∧ Kept U w'))
            have HCLO := Lib.hid (fun (U : World) (hU : Kept w U) => s_CloneI sa sc st U (hs.later hU (Nat.le_refl _)) (by omega) hz)
            rw [← hy] at x0
            clear hy hOS
            go_upto_region 23 with fail
            refine fork_walk (fun w' => Kept wr w') (fun u v V => ∃ ad cp g, u = .slice ad st.length cp ∧ v = .slice (some ⟨g, 0, none⟩) 1 1 ∧ V.ownsRow wr.heap.size 3 1 u st.length (st.flatMap icell) ∧ Blk V g #[.int .i64 y] 3) [0, 1, 3, 6] 2 4 [(false, 5), (false, 7), (true, 8)] (by kernel_rfl) (by kernel_rfl) (fun c a d v w h => by cases d <;> exact h) (Below.drew (Below.refl _ _)) ?_
            simp only [List.filterMap_cons, List.filterMap_nil, List.getElem?_cons_zero, List.getElem?_cons_succ, Option.map_some]
            refine taken_take ?_ ?_ (fun w' hS => ?_) ?_; rotate_left 1; (focus rfl); (focus (have y8 := r3z.keep hS; have y80 := y8.cell 0; have y81 := y8.cell 1; have y82 := y8.free 0; have y83 := y8.free 1; have y84 := y8.lt; simp at y80 y81; first | (go_simp; done) | (go_simp; with_reducible rfl))); simp only [Act.put, List.setIfInBounds_toArray, List.set_cons_zero, List.set_cons_succ]
            refine taken_take ?_ ?_ (fun w' hS => ?_) ?_; rotate_left 1; (focus rfl); (focus (have y8 := r3z.keep hS; have y80 := y8.cell 0; have y81 := y8.cell 1; have y82 := y8.free 0; have y83 := y8.free 1; have y84 := y8.lt; simp at y80 y81; first | (go_simp; done) | (go_simp; with_reducible rfl))); simp only [Act.put, List.setIfInBounds_toArray, List.set_cons_zero, List.set_cons_succ]
            refine taken_take ?_ ?_ (fun w' hS => ?_) ?_; rotate_left 1; (focus rfl); (focus (have y8 := r3z.keep hS; have y80 := y8.cell 0; have y81 := y8.cell 1; have y82 := y8.free 0; have y83 := y8.free 1; have y84 := y8.lt; simp at y80 y81; first | (go_simp; done) | (go_simp; with_reducible rfl))); simp only [Act.put, List.setIfInBounds_toArray, List.set_cons_zero, List.set_cons_succ]
            refine taken_take ?_ ?_ (fun w' hS => ?_) ?_; rotate_left 1; (focus rfl); (focus (have y8 := r3z.keep hS; have y80 := y8.cell 0; have y81 := y8.cell 1; have y82 := y8.free 0; have y83 := y8.free 1; have y84 := y8.lt; simp at y80 y81; first | (go_simp; done) | (go_simp; with_reducible rfl))); simp only [Act.put, List.setIfInBounds_toArray, List.set_cons_zero, List.set_cons_succ]
            refine taken_nil ?_
            intro oi oj hoi hoj
            simp only [Option.some.injEq] at hoi hoj
            subst hoi hoj
            refine ⟨?_, ?_, ?_⟩
            · refine wpList_plain rfl fun K1 hK1 => ?_
              go_wp2_with (go_at_call 110; (with_reducible refine (HCLO.out _ (by (exact kpt))).mono ?_); rintro e w1 ⟨v1, rfl, ho1, hb1⟩)
              obtain ⟨ad2, cp2, rfl, hown1⟩ : ∃ ad cp, v1 = .slice ad st.length cp ∧ _ := owns_sliceM ho1
              refine fork_first (by (exact kpt)) ?_
              refine wpList_plain rfl fun K2 hK2 => ?_
              go_wp2
              refine fork_first (by (exact kpt)) ?_
              exact ⟨_, _, rfl, ad2, cp2, _, rfl, rfl, owns_keep (owns_base hown1 (Nat.le_refl _)) (by (exact kpt)), by (exact blk)⟩
            · refine wpList_plain rfl fun K1 hK1 => ?_
              go_wp2
              refine fork_first (by (exact kpt)) ?_
              refine wpList_plain rfl fun K2 hK2 => ?_
              go_wp2_with (go_at_call 110; (with_reducible refine (HCLO.out _ (by (exact kpt))).mono ?_); rintro e w1 ⟨v1, rfl, ho1, hb1⟩)
              obtain ⟨ad2, cp2, rfl, hown1⟩ : ∃ ad cp, v1 = .slice ad st.length cp ∧ _ := owns_sliceM ho1
              refine fork_first (by (exact kpt)) ?_
              first | exact ⟨_, _, rfl, ad2, cp2, _, rfl, rfl, owns_base hown1 (by simp), by (exact blk)⟩ | exact ⟨_, _, rfl, ⟨ad2, cp2, rfl⟩, _, rfl, owns_base hown1 (by simp), by (exact blk)⟩
            intro u v w2 hS2 hR
            obtain ⟨ad9, cp9b, g8, rfl, rfl, ho9, hb9⟩ := hR
            simp only [Act.put, List.setIfInBounds_toArray, List.set_cons_zero, List.set_cons_succ]
            have HNEW := Lib.hid (show ∀ j u, ([.int .i64 y] : List Value)[j]? = some u → w2.cell? ((⟨g8, 0, none⟩ : Addr).add j) = some u from cell_blkM hb9)
            have hz9 : wr.heap.size ≤ w2.heap.size := hS2.size
            refine held_one ?_
            (obtain ⟨i0, hi, hz0, hz1, hz2⟩ := info_parts infoIntM; refine wpList_append_own _ rfl _ _ 29 rfl wr.heap.size 3 i0 (.int .i64 0) 1 8 Tryz.underlying29 hi hz0 hz1 hz2 rfl (by decide) _ _ _ rfl ho9 ⟨g8, 0, none⟩ 1 1 [.int .i64 y] rfl rfl HNEW.out (fun x hx => by simp at hx; subst hx; rfl) (by unfold maxLen; omega) (by omega) hz9 ?_; intro v8 w8 hown8 hgrow8 hnil8; clear hi hz0 hz1 hz2)
            have hk8 : Kept wr w8 := Kept.grown hS2 ho9 (Nat.le_refl _) hgrow8
            obtain ⟨ad8, cp8, rfl, hrow8, hc8, hm8⟩ := owns_row (enc := icell) (k := 1) (xs := st ++ [y]) (fun _ => rfl) (by rw [List.flatMap_append, List.length_append]; exact hown8)
            have hz8 := owns_capM hown8
            rw [List.length_append, List.length_singleton] at hc8 ⊢
            have hk98 : Kept w w8 := Kept.drop hkk hk8
            refine held_on hk8 ?_
            simp only [Act.put, List.setIfInBounds_toArray, List.set_cons_zero, List.set_cons_succ]
            refine held_one ?_
            refine wpList_plain rfl fun K1 hK1 => ?_
            go_wp2_with (go_at_call 72; (with_reducible refine (HIH2.out _ ad8 cp8 hk98 hrow8 hc8 hm8 hz8).mono ?_); rintro e w7 ⟨⟨a7, c7, rfl, hr7, hc7, hm7, hcase⟩, hb7⟩)
            refine held_on (by (exact kpt)) ?_
            refine held_take ?_ ?_ (fun w' hS => ?_) ?_; rotate_left 1; (focus rfl); (focus (skip; first | (go_simp; done) | (go_simp; with_reducible rfl))); simp only [Act.put, List.setIfInBounds_toArray, List.set_cons_zero, List.set_cons_succ]
            refine held_nil ?_
            cases OS with
            | none =>
              obtain ⟨-, rfl, rfl⟩ : none = none ∧ a7 = none ∧ c7 = 0 := by
                rcases hcase with h | ⟨h, _⟩
                · exact h
                · cases h
              have HF := Lib.hid (show ∀ j (hj : j < O.length), j < k + 1 → firstP (tbOf vs rs) W m (st ++ [O[j]]) = none from fun j hj h => by
                rcases Nat.lt_or_ge j k with h2 | h2
                · exact HNO.out j hj h2
                · obtain rfl : j = k := by omega
                  exact HOS.out)
              have hs0 : ∀ w, (binOp .neq 29 (.slice none 0 0) (.slice none 0 0)).run Tryz.prog w = .ok (.bool false) w := fun w => run_neq_slice_nil _ _ _ _ _ _ Tryz.underlying29
              simp only [outS, Option.getD_none, List.length_nil]
              go_wp2
              go_roundw
              case rel => exact ⟨k + 1, by omega, by go_num, HF.out, Kept.drop hkz (Kept.drop hk8 hb7)⟩
              case measure => simp [intOf]; omega
            | some s =>
              obtain ⟨-, h7⟩ : (some s).isSome = true ∧ a7.isNone = false := by
                rcases hcase with ⟨h, _⟩ | h
                · cases h
                · exact h
              have HF := Lib.hid (show OF = some s from HFS.out s HNO.out HOS.out)
              have hs0 : ∀ w, (binOp .neq 29 (.slice a7 (outS (some s)).length c7) (.slice none 0 0)).run Tryz.prog w = .ok (.bool true) w := fun w => by rw [run_neq_slice_nil _ _ _ _ _ _ Tryz.underlying29, h7]; rfl
              obtain ⟨n7, hn7⟩ : ∃ n7, n7 = (outS (some s)).length := ⟨_, rfl⟩
              rw [← hn7] at hs0 ⊢
              have HN7 := Lib.hid hn7
              clear hn7 hcase
              go_wp2
              refine bodyPost_ret (v := .slice a7 n7 c7) (by simp [results, Tryz.results72, go_sem]) rfl ⟨?_, Kept.drop hk98 hb7⟩
              rw [HF.out]
              exact ⟨a7, c7, by rw [HN7.out], hr7, hc7, hm7, .inr ⟨rfl, h7⟩⟩
          · obtain rfl : O.length = k := by omega
            have HF := Lib.hid (show OF = none by
              have h1 := HOF.out
              have h2 := HO0.out
              have h3 := HNO.out
              subst h2
              rw [h1]
              exact firstP_none (fun j hj => h3 j hj hj))
            go_wp2
            exact bodyPost_ret (v := .slice none 0 0) (by simp [results, Tryz.results72, go_sem]) rfl ⟨by rw [HF.out]; exact ⟨none, 0, rfl, Row.nil, Nat.le_refl _, Nat.zero_le _, .inl ⟨rfl, rfl, rfl⟩⟩, by (exact kpt)⟩

end Go.Proofs.YtacbkbilbmkjnaaGreat

/-
  Decision tables, checked, in the program.
-/
namespace Go.Proofs.YtacbkbilbmkjnaaGreat
open Go.RowKit Bal Bal.Trim Bal.Mast
set_option linter.unusedVariables false
set_option linter.unusedSimpArgs false
set_option maxHeartbeats 2000000
set_option maxRecDepth 20000

theorem f_rows11 (a : Span) (w : World) :
    Calls Tryz.prog 68 #[.agg #[.int .i64 a.lo, .int .i64 a.hi]] w fun e w' => e = .returned (.bool (!spanOk a)) ∧ Kept w w' := by
  have HC := fun w => f_span a.lo a.hi (-1000) 1000 w
  have he : spanOk a = spanIn a.lo a.hi (-1000) 1000 := rfl
  rw [← he] at HC
  clear he
  go_enter Tryz.func68, Tryz.ntmps68
  go_wp2_with (go_at_call 69; (with_reducible refine (HC _).mono ?_); rintro e w1 ⟨rfl, hb1⟩; obtain ⟨hc1, hf1, hl1⟩ := bcell3 hb1)
  go_ret
  exact ⟨ret_bool (by first | rfl | simp), by (exact kpt)⟩

theorem s_IndexRows (a : Option Addr) (cap : Nat) (xs : List Span) (w : World) (hx : Row Span.cells 2 w.heap.size w a xs) (h1 : xs.length ≤ 1000000) :
    Calls Tryz.prog 105 #[.slice a xs.length cap, .func (.func 68) #[] #[]] w fun e w' => (∃ r : Int, e = .returned (.int .i64 r) ∧ decide (r < 0) = xs.all spanOk ∧ -1 ≤ r) ∧ Kept w w' := by
  obtain ⟨R, hR⟩ : ∃ R, R = xs.all spanOk := ⟨_, rfl⟩
  have HR := Lib.hid hR
  rw [← hR]
  clear hR
  go_enter Tryz.func105, Tryz.ntmps105
  go_wp2
  go_loopw [8] (fun i wr => Upto spanOk xs w i wr) (fun i _ => xs.length - (intOf i).toNat)
  case atStart => exact ⟨0, Nat.zero_le _, rfl, by simp, Below.refl _ _⟩
  case round =>
    obtain ⟨k, hk, rfl, ha', hb'⟩ := hrel
    have ha := Lib.hid ha'
    have hb := Lib.hid hb'
    clear ha'
    by_cases hlt : k < xs.length
    · obtain ⟨b, off, rfl, hbl, h0, h1⟩ := Span.row (hx.later hb' (Nat.le_refl _)) k hlt
      have hbad : spanOk xs[k] = false → R = false := fun hv => by
        rw [HR.out, Bool.eq_false_iff]
        intro h
        rw [List.all_eq_true.1 h _ (List.getElem_mem hlt)] at hv
        cases hv
      have HB := Lib.hid hbad
      clear hbad hb'
      have HT := Lib.hid (fun h => take_all (valid := spanOk) hlt ha.out h)
      have hcall := fun w => f_rows11 xs[k] w
      obtain ⟨x, hx0⟩ : ∃ x, x = xs[k] := ⟨_, rfl⟩
      rw [← hx0] at HB HT h0 h1 hcall
      clear hx0
      obtain ⟨V, hV⟩ : ∃ V, V = spanOk x := ⟨_, rfl⟩
      rw [← hV] at hcall HB HT
      clear hV
      cases V with
      | false =>
        have HF := Lib.hid (HB.out rfl)
        clear HB
        go_wp2_with (go_at_call 68; refine (hcall _).mono ?_; rintro e w1 ⟨rfl, hb1⟩)
        go_ret
        refine ⟨⟨k, rfl, ?_, by omega⟩, Kept.drop hb.out (by (exact kpt))⟩
        rw [HF.out, decide_eq_false_iff_not]; omega
      | true =>
        have HF := Lib.hid (HT.out rfl)
        clear HT
        go_wp2_with (go_at_call 68; refine (hcall _).mono ?_; rintro e w1 ⟨rfl, hb1⟩)
        go_roundw
        case rel => exact ⟨k + 1, by omega, by go_num, HF.out, Kept.drop hb.out (by (exact kpt))⟩
        case measure => simp [intOf]; omega
    · obtain rfl : k = xs.length := by omega
      have HF := Lib.hid (show R = true by rw [HR.out, ← ha.out, List.take_length])
      clear hb'
      go_wp2
      go_ret
      refine ⟨⟨-1, rfl, ?_, by omega⟩, hb.out⟩
      rw [HF.out]; rfl

theorem s_ContainsRows (a : Option Addr) (cap : Nat) (xs : List Span) (w : World) (hx : Row Span.cells 2 w.heap.size w a xs) (h1 : xs.length ≤ 1000000) :
    Calls Tryz.prog 67 #[.slice a xs.length cap, .func (.func 68) #[] #[]] w fun e w' => e = .returned (.bool (!xs.all spanOk)) ∧ Kept w w' := by
  obtain ⟨R, hR⟩ : ∃ R, R = xs.all spanOk := ⟨_, rfl⟩
  have hcall := s_IndexRows a cap xs w hx h1
  rw [← hR] at hcall ⊢
  clear hR
  go_enter Tryz.func67, Tryz.ntmps67
  go_wp2_with (go_at_call 105; refine hcall.mono ?_; rintro e w1 ⟨⟨r, rfl, hr1, hr2⟩, hb1⟩)
  go_ret
  refine ⟨ret_bool ?_, hb1⟩
  rw [← hr1, ← decide_not]
  exact decide_eq_decide.2 (by omega)

theorem f_rows1 (vs : List Span) (va : Option Addr) (vc : Nat) (rs : List RowM) (ra : Option Addr) (rc : Nat) (w : World) (bx : Nat) (hB : Blk w bx #[.slice va vs.length vc, .slice ra rs.length rc] 68) (a : Option Addr) (cap : Nat) (xs : List Span) (hx : Row Span.cells 2 w.heap.size w a xs) (hn : xs.length ≤ 1000000) (hvl : vs.length ≤ 1000000) :
    Calls Tryz.prog 66 #[.slice a xs.length cap, .pointer (some ⟨bx, 0, none⟩)] w fun z w' => z = .returned (.bool (decide (xs.length = vs.length) && xs.all spanOk)) ∧ Kept w w' := by
  have hl := hB.lt
  have hBc0 := hB.cell 0
  have hBf0 := hB.free 0
  have hBc1 := hB.cell 1
  have hBf1 := hB.free 1
  have hBl := hB.lt
  simp at hBc0 hBc1
  by_cases h : xs.length = vs.length
  · have e1 : ((xs.length : Int) == (vs.length : Int)) = true := by simp [h]
    obtain ⟨R, hR⟩ : ∃ R, R = xs.all spanOk := ⟨_, rfl⟩
    have HA := Lib.hid hR.symm
    have HD := Lib.hid (show (decide (xs.length = vs.length) && xs.all spanOk) = R by rw [decide_eq_true h, ← hR]; rfl)
    clear hR h
    go_enter Tryz.func66, Tryz.ntmps66
    go_wp2_with (go_at_call 67; (with_reducible refine (s_ContainsRows _ _ xs _ (hx.later (by (exact kpt)) (Nat.le_refl _)) hn).mono ?_); rw [HA.out]; rintro z w1 ⟨rfl, hb1⟩)
    exact bodyPost_ret (v := .bool R) (by simp [results, Tryz.results66, go_sem]) rfl ⟨by rw [HD.out], by (exact kpt)⟩
  · have e1 : ((xs.length : Int) == (vs.length : Int)) = false := by simp; omega
    have HD := Lib.hid (show (decide (xs.length = vs.length) && xs.all spanOk) = false by rw [decide_eq_false h]; rfl)
    clear h
    go_enter Tryz.func66, Tryz.ntmps66
    go_wp2
    exact bodyPost_ret (v := .bool false) (by simp [results, Tryz.results66, go_sem]) rfl ⟨by rw [HD.out], by (exact kpt)⟩

theorem f_CheckRows (vs : List Span) (va : Option Addr) (vc : Nat) (rs : List RowM) (ra : Option Addr) (rc : Nat) (w : World) (ht : TabAt ⟨vs, va, vc, rs, ra, rc⟩ w) (hvl5 : vs.length ≤ 1000000) (hrl5 : rs.length ≤ 1000000) (hcl5 : ∀ x ∈ rs, x.r.conds.length ≤ 1000000) :
    Calls Tryz.prog 26 #[.agg #[.slice va vs.length vc, .slice ra rs.length rc]] w fun z w' => z = .returned (.int .i64 (checkRows (tbOf vs rs))) ∧ Kept w w' := by
  have htr : Row RowM.cells 2 w.heap.size w ra rs := ht.rows
  have htv : Row Span.cells 2 w.heap.size w va vs := ht.vars
  have hvm : vc ≤ maxLen := ht.vm
  have hrm : rc ≤ maxLen := ht.rm
  have hvl : vs.length ≤ vc := ht.vl
  have hrl : rs.length ≤ rc := ht.rl
  unfold maxLen at hvm hrm
  cases h1 : inB (vs.length : Int) 1 3
  · have H1 := Lib.hid h1
    have HB := Lib.hid (not_valid (d := tbOf vs rs) fun h => by have := (valid_parts.1 h).1; rw [show (tbOf vs rs).vars = vs from rfl, h1] at this; cases this)
    clear h1
    go_enter Tryz.func26, Tryz.ntmps26
    go_wp2_with (first | (go_at_call 44; (with_reducible refine (f_rangedB 1 3 (vs.length : Int) _ 3 _ ?_).mono ?_); (focus (exact blk)); rw [H1.out]; rintro z w3 ⟨rfl, hb3⟩; refine Blk.thru (b := w.heap.size) (arr := ?_) (t := ?_) ?_ hb3 ?_; rotate_left 2; (focus (exact blk)); intro r0; have r0c0 := r0.cell 0; have r0f0 := r0.free 0; have r0c1 := r0.cell 1; have r0f1 := r0.free 1; have r0l := r0.lt; simp at r0c0 r0c1) | (go_at_call 66; (with_reducible refine (HSV.out _ (by (exact blk)) (by (exact kpt))).mono ?_); rintro z w4 ⟨rfl, hb4⟩; refine Blk.thru (b := w.heap.size) (arr := ?_) (t := ?_) ?_ hb4 ?_; rotate_left 2; (focus (exact blk)); intro r0; have r0c0 := r0.cell 0; have r0f0 := r0.free 0; have r0c1 := r0.cell 1; have r0f1 := r0.free 1; have r0l := r0.lt; simp at r0c0 r0c1))
    exact bodyPost_ret (v := .int .i64 76) (by simp [results, Tryz.results26, go_sem]) rfl ⟨by rw [HB.out], by (exact kpt)⟩
  · have H1 := Lib.hid h1
    have h1b := inB_iff.1 h1
    by_cases h2 : rs.length ≤ 30
    · have l2 : ¬ (30 : Int) < (rs.length : Int) := by omega
      cases h3 : vs.all spanOk
      · have HSV := Lib.hid (fun (W : World) (hB : Blk W w.heap.size #[.slice va vs.length vc, .slice ra rs.length rc] 68) (hW : Kept w W) => (by have := f_rows1 vs va vc rs ra rc W w.heap.size hB va vc vs (htv.later hW (Nat.le_refl _)) hvl5 hvl5; rw [h3, Bool.and_false] at this; exact this : Calls Tryz.prog 66 #[.slice va vs.length vc, .pointer (some ⟨w.heap.size, 0, none⟩)] W fun z w2 => z = .returned (.bool false) ∧ Kept W w2))
        have HB := Lib.hid (not_valid (d := tbOf vs rs) fun h => by have := (valid_parts.1 h).2.2.1; rw [← List.all_eq_true, show (tbOf vs rs).vars = vs from rfl, h3] at this; cases this)
        clear h1 h3
        go_enter Tryz.func26, Tryz.ntmps26
        go_wp2_with (first | (go_at_call 44; (with_reducible refine (f_rangedB 1 3 (vs.length : Int) _ 3 _ ?_).mono ?_); (focus (exact blk)); rw [H1.out]; rintro z w3 ⟨rfl, hb3⟩; refine Blk.thru (b := w.heap.size) (arr := ?_) (t := ?_) ?_ hb3 ?_; rotate_left 2; (focus (exact blk)); intro r0; have r0c0 := r0.cell 0; have r0f0 := r0.free 0; have r0c1 := r0.cell 1; have r0f1 := r0.free 1; have r0l := r0.lt; simp at r0c0 r0c1) | (go_at_call 66; (with_reducible refine (HSV.out _ (by (exact blk)) (by (exact kpt))).mono ?_); rintro z w4 ⟨rfl, hb4⟩; refine Blk.thru (b := w.heap.size) (arr := ?_) (t := ?_) ?_ hb4 ?_; rotate_left 2; (focus (exact blk)); intro r0; have r0c0 := r0.cell 0; have r0f0 := r0.free 0; have r0c1 := r0.cell 1; have r0f1 := r0.free 1; have r0l := r0.lt; simp at r0c0 r0c1))
        exact bodyPost_ret (v := .int .i64 76) (by simp [results, Tryz.results26, go_sem]) rfl ⟨by rw [HB.out], by (exact kpt)⟩
      · have HSV := Lib.hid (fun (W : World) (hB : Blk W w.heap.size #[.slice va vs.length vc, .slice ra rs.length rc] 68) (hW : Kept w W) => (by have := f_rows1 vs va vc rs ra rc W w.heap.size hB va vc vs (htv.later hW (Nat.le_refl _)) hvl5 hvl5; rw [h3, decide_eq_true rfl, Bool.and_true] at this; exact this : Calls Tryz.prog 66 #[.slice va vs.length vc, .pointer (some ⟨w.heap.size, 0, none⟩)] W fun z w2 => z = .returned (.bool true) ∧ Kept W w2))
        have HV := Lib.hid (fun (h4 : ∀ x ∈ rs, x.r.conds.length = vs.length ∧ inB x.r.action 0 99 = true ∧ ∀ c ∈ x.r.conds, spanOk c = true) => good_check (d := tbOf vs rs) (valid_parts.2 ⟨h1, by rw [rows_len]; exact h2, List.all_eq_true.1 h3, fun r hr => by obtain ⟨x, hx, rfl⟩ := List.mem_map.1 hr; exact h4 x hx⟩))
        have HNR := Lib.hid (fun (x : RowM) (hx : x ∈ rs) (hb : ¬ (x.r.conds.length = vs.length ∧ inB x.r.action 0 99 = true ∧ ∀ c ∈ x.r.conds, spanOk c = true)) => not_valid (d := tbOf vs rs) fun h => hb ((valid_parts.1 h).2.2.2 x.r (mem_rowsT hx)))
        clear h1 h3
        go_enter Tryz.func26, Tryz.ntmps26
        go_wp2_with (first | (go_at_call 44; (with_reducible refine (f_rangedB 1 3 (vs.length : Int) _ 3 _ ?_).mono ?_); (focus (exact blk)); rw [H1.out]; rintro z w3 ⟨rfl, hb3⟩; refine Blk.thru (b := w.heap.size) (arr := ?_) (t := ?_) ?_ hb3 ?_; rotate_left 2; (focus (exact blk)); intro r0; have r0c0 := r0.cell 0; have r0f0 := r0.free 0; have r0c1 := r0.cell 1; have r0f1 := r0.free 1; have r0l := r0.lt; simp at r0c0 r0c1) | (go_at_call 66; (with_reducible refine (HSV.out _ (by (exact blk)) (by (exact kpt))).mono ?_); rintro z w4 ⟨rfl, hb4⟩; refine Blk.thru (b := w.heap.size) (arr := ?_) (t := ?_) ?_ hb4 ?_; rotate_left 2; (focus (exact blk)); intro r0; have r0c0 := r0.cell 0; have r0f0 := r0.free 0; have r0c1 := r0.cell 1; have r0f1 := r0.free 1; have r0l := r0.lt; simp at r0c0 r0c1))
        go_loopw [29] (fun s wq => ∃ i : Nat, i ≤ rs.length ∧ s = .int .i64 (i : Int) ∧ (∀ j (hj : j < rs.length), j < i → rs[j].r.conds.length = vs.length ∧ inB rs[j].r.action 0 99 = true ∧ ∀ c ∈ rs[j].r.conds, spanOk c = true) ∧ Blk wq w.heap.size #[.slice va vs.length vc, .slice ra rs.length rc] 68 ∧ Kept w wq) (fun s _ => rs.length - (intOf s).toNat)
        case atStart => exact ⟨0, Nat.zero_le _, rfl, fun j hj h => absurd h (Nat.not_lt_zero _), by (exact blk), by (exact kpt)⟩
        case round =>
          clear r0 r0c0 r0f0 r0c1 r0f1 r0l
          obtain ⟨i, hi, rfl, hok, r0, hkk⟩ := hrel
          have hsz := hkk.size
          have r0c0 := r0.cell 0
          have r0f0 := r0.free 0
          have r0c1 := r0.cell 1
          have r0f1 := r0.free 1
          have r0l := r0.lt
          simp at r0c0 r0c1
          by_cases hlt : i < rs.length
          · obtain ⟨rb, ro, rfl, hrb, g0, g1⟩ := RowM.row (htr.later hkk (Nat.le_refl _)) i hlt
            have hcnd : Row Span.cells 2 w.heap.size w rs[i].ad rs[i].r.conds := ht.conds _ (List.getElem_mem hlt)
            have hcl3 := hcl5 _ (List.getElem_mem hlt)
            have HI := Lib.hid hok
            have HBD := Lib.hid (HNR.out _ (List.getElem_mem hlt))
            have HNX := Lib.hid (fun (h : rs[i].r.conds.length = vs.length ∧ inB rs[i].r.action 0 99 = true ∧ ∀ c ∈ rs[i].r.conds, spanOk c = true) => (fun j hj hj2 => by
              rcases Nat.lt_or_ge j i with h3 | h3
              · exact HI.out j hj h3
              · obtain rfl : j = i := by omega
                exact h : ∀ j (hj : j < rs.length), j < i + 1 → rs[j].r.conds.length = vs.length ∧ inB rs[j].r.action 0 99 = true ∧ ∀ c ∈ rs[j].r.conds, spanOk c = true))
            obtain ⟨X, hX⟩ : ∃ X, X = rs[i] := ⟨_, rfl⟩
            rw [← hX] at g0 g1 hcnd hcl3 HBD HNX
            clear hX hok
            obtain ⟨⟨cs, ac⟩, ca, cc⟩ := X
            simp only at g0 g1 hcnd hcl3 HBD HNX
            have i0 : (0 : Int) ≤ (i : Int) := by omega
            have i1 : (i : Int) < (rs.length : Int) := by omega
            cases hs : (decide (cs.length = vs.length) && cs.all spanOk)
            · have HSC := Lib.hid (fun (W : World) (hB : Blk W w.heap.size #[.slice va vs.length vc, .slice (some ⟨rb, ro, none⟩) rs.length rc] 68) (hW : Kept w W) => (by have := f_rows1 vs va vc rs (some ⟨rb, ro, none⟩) rc W w.heap.size hB ca cc cs (hcnd.later hW (Nat.le_refl _)) hcl3 hvl5; rw [hs] at this; exact this : Calls Tryz.prog 66 #[.slice ca cs.length cc, .pointer (some ⟨w.heap.size, 0, none⟩)] W fun z w2 => z = .returned (.bool false) ∧ Kept W w2))
              have HB := Lib.hid (HBD.out (fun h => by rw [decide_eq_true h.1, List.all_eq_true.2 h.2.2] at hs; cases hs))
              clear HBD HNX hs
              go_wp2_with (first | (go_at_call 66; (with_reducible refine (HSC.out _ (by (exact blk)) (by (exact kpt))).mono ?_); rintro z w4 ⟨rfl, hb4⟩; refine Blk.thru (b := w.heap.size) (arr := ?_) (t := ?_) ?_ hb4 ?_; rotate_left 2; (focus (exact blk)); intro r0; have r0c0 := r0.cell 0; have r0f0 := r0.free 0; have r0c1 := r0.cell 1; have r0f1 := r0.free 1; have r0l := r0.lt; simp at r0c0 r0c1; refine Blk.thru (b := wr.heap.size) (arr := ?_) (t := ?_) ?_ hb4 ?_; rotate_left 2; (focus (exact blk)); intro rn; have rnc0 := rn.cell 0; have rnf0 := rn.free 0; have rnc1 := rn.cell 1; have rnf1 := rn.free 1; have rnl := rn.lt; simp at rnc0 rnc1) | (go_at_call 44; (with_reducible refine (f_rangedB 0 99 ac _ 3 _ ?_).mono ?_); (focus (exact blk)); rw [HA.out]; rintro z w3 ⟨rfl, hb3⟩; refine Blk.thru (b := w.heap.size) (arr := ?_) (t := ?_) ?_ hb3 ?_; rotate_left 2; (focus (exact blk)); intro r0; have r0c0 := r0.cell 0; have r0f0 := r0.free 0; have r0c1 := r0.cell 1; have r0f1 := r0.free 1; have r0l := r0.lt; simp at r0c0 r0c1; refine Blk.thru (b := wr.heap.size) (arr := ?_) (t := ?_) ?_ hb3 ?_; rotate_left 2; (focus (exact blk)); intro rn; have rnc0 := rn.cell 0; have rnf0 := rn.free 0; have rnc1 := rn.cell 1; have rnf1 := rn.free 1; have rnl := rn.lt; simp at rnc0 rnc1))
              exact bodyPost_ret (v := .int .i64 76) (by simp [results, Tryz.results26, go_sem]) rfl ⟨by rw [HB.out], by (exact kpt)⟩
            · have HSC := Lib.hid (fun (W : World) (hB : Blk W w.heap.size #[.slice va vs.length vc, .slice (some ⟨rb, ro, none⟩) rs.length rc] 68) (hW : Kept w W) => (by have := f_rows1 vs va vc rs (some ⟨rb, ro, none⟩) rc W w.heap.size hB ca cc cs (hcnd.later hW (Nat.le_refl _)) hcl3 hvl5; rw [hs] at this; exact this : Calls Tryz.prog 66 #[.slice ca cs.length cc, .pointer (some ⟨w.heap.size, 0, none⟩)] W fun z w2 => z = .returned (.bool true) ∧ Kept W w2))
              simp only [Bool.and_eq_true, decide_eq_true_eq, List.all_eq_true] at hs
              cases ha : inB ac 0 99
              · have HA := Lib.hid ha
                have HB := Lib.hid (HBD.out (fun h => by rw [ha] at h; cases h.2.1))
                clear HBD HNX hs ha
                go_wp2_with (first | (go_at_call 66; (with_reducible refine (HSC.out _ (by (exact blk)) (by (exact kpt))).mono ?_); rintro z w4 ⟨rfl, hb4⟩; refine Blk.thru (b := w.heap.size) (arr := ?_) (t := ?_) ?_ hb4 ?_; rotate_left 2; (focus (exact blk)); intro r0; have r0c0 := r0.cell 0; have r0f0 := r0.free 0; have r0c1 := r0.cell 1; have r0f1 := r0.free 1; have r0l := r0.lt; simp at r0c0 r0c1; refine Blk.thru (b := wr.heap.size) (arr := ?_) (t := ?_) ?_ hb4 ?_; rotate_left 2; (focus (exact blk)); intro rn; have rnc0 := rn.cell 0; have rnf0 := rn.free 0; have rnc1 := rn.cell 1; have rnf1 := rn.free 1; have rnl := rn.lt; simp at rnc0 rnc1) | (go_at_call 44; (with_reducible refine (f_rangedB 0 99 ac _ 3 _ ?_).mono ?_); (focus (exact blk)); rw [HA.out]; rintro z w3 ⟨rfl, hb3⟩; refine Blk.thru (b := w.heap.size) (arr := ?_) (t := ?_) ?_ hb3 ?_; rotate_left 2; (focus (exact blk)); intro r0; have r0c0 := r0.cell 0; have r0f0 := r0.free 0; have r0c1 := r0.cell 1; have r0f1 := r0.free 1; have r0l := r0.lt; simp at r0c0 r0c1; refine Blk.thru (b := wr.heap.size) (arr := ?_) (t := ?_) ?_ hb3 ?_; rotate_left 2; (focus (exact blk)); intro rn; have rnc0 := rn.cell 0; have rnf0 := rn.free 0; have rnc1 := rn.cell 1; have rnf1 := rn.free 1; have rnl := rn.lt; simp at rnc0 rnc1))
                exact bodyPost_ret (v := .int .i64 76) (by simp [results, Tryz.results26, go_sem]) rfl ⟨by rw [HB.out], by (exact kpt)⟩
              · have HA := Lib.hid ha
                have HB := Lib.hid (HNX.out ⟨hs.1, ha, hs.2⟩)
                clear HBD HNX hs ha
                go_wp2_with (first | (go_at_call 66; (with_reducible refine (HSC.out _ (by (exact blk)) (by (exact kpt))).mono ?_); rintro z w4 ⟨rfl, hb4⟩; refine Blk.thru (b := w.heap.size) (arr := ?_) (t := ?_) ?_ hb4 ?_; rotate_left 2; (focus (exact blk)); intro r0; have r0c0 := r0.cell 0; have r0f0 := r0.free 0; have r0c1 := r0.cell 1; have r0f1 := r0.free 1; have r0l := r0.lt; simp at r0c0 r0c1; refine Blk.thru (b := wr.heap.size) (arr := ?_) (t := ?_) ?_ hb4 ?_; rotate_left 2; (focus (exact blk)); intro rn; have rnc0 := rn.cell 0; have rnf0 := rn.free 0; have rnc1 := rn.cell 1; have rnf1 := rn.free 1; have rnl := rn.lt; simp at rnc0 rnc1) | (go_at_call 44; (with_reducible refine (f_rangedB 0 99 ac _ 3 _ ?_).mono ?_); (focus (exact blk)); rw [HA.out]; rintro z w3 ⟨rfl, hb3⟩; refine Blk.thru (b := w.heap.size) (arr := ?_) (t := ?_) ?_ hb3 ?_; rotate_left 2; (focus (exact blk)); intro r0; have r0c0 := r0.cell 0; have r0f0 := r0.free 0; have r0c1 := r0.cell 1; have r0f1 := r0.free 1; have r0l := r0.lt; simp at r0c0 r0c1; refine Blk.thru (b := wr.heap.size) (arr := ?_) (t := ?_) ?_ hb3 ?_; rotate_left 2; (focus (exact blk)); intro rn; have rnc0 := rn.cell 0; have rnf0 := rn.free 0; have rnc1 := rn.cell 1; have rnf1 := rn.free 1; have rnl := rn.lt; simp at rnc0 rnc1))
                go_roundw
                case rel => exact ⟨i + 1, by omega, by go_num, HB.out, by (exact blk), by (exact kpt)⟩
                case measure => simp [intOf]; omega
          · obtain rfl : rs.length = i := by omega
            have HB := Lib.hid (HV.out (fun x hx => by obtain ⟨j, hj, rfl⟩ := List.mem_iff_getElem.1 hx; exact hok j hj hj))
            clear hok
            go_wp2
            exact bodyPost_ret (v := .int .i64 0) (by simp [results, Tryz.results26, go_sem]) rfl ⟨by rw [HB.out], by (exact kpt)⟩
    · have l2 : (30 : Int) < (rs.length : Int) := by omega
      have HB := Lib.hid (not_valid (d := tbOf vs rs) fun h => by have := (valid_parts.1 h).2.1; rw [rows_len] at this; omega)
      clear h1
      go_enter Tryz.func26, Tryz.ntmps26
      go_wp2_with (first | (go_at_call 44; (with_reducible refine (f_rangedB 1 3 (vs.length : Int) _ 3 _ ?_).mono ?_); (focus (exact blk)); rw [H1.out]; rintro z w3 ⟨rfl, hb3⟩; refine Blk.thru (b := w.heap.size) (arr := ?_) (t := ?_) ?_ hb3 ?_; rotate_left 2; (focus (exact blk)); intro r0; have r0c0 := r0.cell 0; have r0f0 := r0.free 0; have r0c1 := r0.cell 1; have r0f1 := r0.free 1; have r0l := r0.lt; simp at r0c0 r0c1) | fail)
      exact bodyPost_ret (v := .int .i64 76) (by simp [results, Tryz.results26, go_sem]) rfl ⟨by rw [HB.out], by (exact kpt)⟩

end Go.Proofs.YtacbkbilbmkjnaaGreat

/-
  Decide and Gap in the program.
-/
namespace Go.Proofs.YtacbkbilbmkjnaaGreat
open Go.RowKit Bal Bal.Trim Bal.Mast
set_option linter.unusedVariables false
set_option linter.unusedSimpArgs false
set_option maxHeartbeats 4000000
set_option maxRecDepth 100000

theorem f_firstZ (vs : List Span) (va : Option Addr) (vc : Nat) (rs : List RowM) (ra : Option Addr) (rc : Nat) (hv : validB (tbOf vs rs) = true) (W : List Nat → Bool) (F : FuncId) (hF : Asks W F) (w : World) (ht : TabAt ⟨vs, va, vc, rs, ra, rc⟩ w) :
    Calls Tryz.prog 72 #[.agg #[.slice va vs.length vc, .slice ra rs.length rc], .slice none 0 0, .func (.func F) #[] #[]] w fun z w' => ∃ (r : Option (List Int)) (a : Option Addr) (c : Nat), FirstExt (tbOf vs rs) W [] r ∧ z = .returned (.slice a (outS r).length c) ∧ Row icell 1 w'.heap.size w' a (outS r) ∧ (outS r).length ≤ c ∧ c ≤ maxLen ∧ ((r = none ∧ a = none ∧ c = 0) ∨ (r.isSome = true ∧ a.isNone = false)) ∧ Kept w w' := by
  refine Calls.mono (f_first vs va vc rs ra rc hv W F hF vs.length w ht none 0 [] Row.nil (Nat.le_refl _) (Nat.zero_le _) (fun _ => rfl) (by simp)) ?_
  rintro z w' ⟨⟨a, c, rfl, h1, h2, h3, h4⟩, hb⟩
  exact ⟨_, a, c, firstP_ext (valid_even hv) (valid_le hv) W vs.length [] (by show 0 + vs.length = vs.length; omega) (by show hits vs [] = true; cases vs <;> rfl), rfl, h1, h2, h3, h4, hb⟩

theorem f_Gap (vs : List Span) (va : Option Addr) (vc : Nat) (rs : List RowM) (ra : Option Addr) (rc : Nat) (w : World) (ht : TabAt ⟨vs, va, vc, rs, ra, rc⟩ w) (hvl5 : vs.length ≤ 1000000) (hrl5 : rs.length ≤ 1000000) (hcl5 : ∀ x ∈ rs, x.r.conds.length ≤ 1000000) :
    Calls Tryz.prog 29 #[.agg #[.slice va vs.length vc, .slice ra rs.length rc]] w fun z w' => ∃ (a : Option Addr) (c : Nat) (s : List Int) (E : Int), GapRes (tbOf vs rs) E s ∧ z = .returned (.tuple #[.slice a s.length c, .int .i64 E]) ∧ Row icell 1 w'.heap.size w' a s ∧ s.length ≤ c ∧ c ≤ maxLen ∧ Kept w w' := by
  have htv : Row Span.cells 2 w.heap.size w va vs := ht.vars
  have hvm : vc ≤ maxLen := ht.vm
  have hrm : rc ≤ maxLen := ht.rm
  have hvl : vs.length ≤ vc := ht.vl
  have hrl : rs.length ≤ rc := ht.rl
  unfold maxLen at hvm hrm
  cases hv : validB (tbOf vs rs)
  · have HCK := Lib.hid (bad_check hv)
    have HV := Lib.hid hv
    clear hv
    go_enter Tryz.func29, Tryz.ntmps29
    go_wp2_with (go_at_call 26; (with_reducible refine (f_CheckRows vs va vc rs ra rc _ (ht.later (by (exact kpt))) hvl5 hrl5 hcl5).mono ?_); rw [HCK.out]; rintro z w1 ⟨rfl, hb1⟩; refine Blk.thru (b := w.heap.size) (arr := ?_) (t := ?_) ?_ hb1 ?_; rotate_left 2; (focus (exact blk)); intro r0; have r0c0 := r0.cell 0; have r0f0 := r0.free 0; have r0c1 := r0.cell 1; have r0f1 := r0.free 1; have r0l := r0.lt; simp at r0c0 r0c1)
    exact bodyPost_ret (v := .tuple #[.slice none 0 0, .int .i64 76]) (by simp [results, Tryz.results29, go_sem]) rfl ⟨none, 0, [], 76, .inl ⟨HV.out, rfl, rfl⟩, rfl, Row.nil, Nat.le_refl _, Nat.zero_le _, by (exact kpt)⟩
  · have HCK := Lib.hid (good_check hv)
    obtain ⟨q1, q2, q3, q4⟩ := valid_parts.1 hv
    have hn := inB_iff.1 q1
    rw [show (tbOf vs rs).vars = vs from rfl] at hn
    rw [rows_len] at q2
    have hr : rs.length ≤ 1000 := by omega
    have hn3 : 1 ≤ vs.length ∧ vs.length ≤ 3 := by omega
    have hce : ∀ x ∈ rs, x.r.conds.length = vs.length := fun x hx => (q4 x.r (mem_rowsT hx)).1
    have HV := Lib.hid hv
    clear q1 q2 q3 q4 hn hv hce
    go_enter Tryz.func29, Tryz.ntmps29
    go_upto_region 5 with (first | (go_at_call 26; (with_reducible refine (f_CheckRows vs va vc rs ra rc _ (ht.later (by (exact kpt))) hvl5 hrl5 hcl5).mono ?_); rw [HCK.out]; rintro z w1 ⟨rfl, hb1⟩; refine Blk.thru (b := w.heap.size) (arr := ?_) (t := ?_) ?_ hb1 ?_; rotate_left 2; (focus (exact blk)); intro r0; have r0c0 := r0.cell 0; have r0f0 := r0.free 0; have r0c1 := r0.cell 1; have r0f1 := r0.free 1; have r0l := r0.lt; simp at r0c0 r0c1) | (go_at_call 72; (with_reducible refine (f_firstZ vs va vc rs ra rc HV.out W0 _ asks0 _ (ht.later (by (exact kpt)))).mono ?_); rintro z w2 ⟨r, a2, c2, hfr, rfl, hr2, hc2, hm2, hcase, hb2⟩; refine Blk.thru (b := w.heap.size) (arr := ?_) (t := ?_) ?_ hb2 ?_; rotate_left 2; (focus (exact blk)); intro r0; have r0c0 := r0.cell 0; have r0f0 := r0.free 0; have r0c1 := r0.cell 1; have r0f1 := r0.free 1; have r0l := r0.lt; simp at r0c0 r0c1))
    cases r with
    | none =>
      have HF := Lib.hid hfr
      obtain ⟨-, rfl, rfl⟩ : (none : Option (List Int)) = none ∧ a2 = none ∧ c2 = 0 := by
        rcases hcase with h | ⟨h, _⟩
        · exact h
        · cases h
      have hs0 : ∀ w, (binOp .eql 29 (.slice none 0 0) (.slice none 0 0)).run Tryz.prog w = .ok (.bool true) w := fun w => Lib.run_eql_slice_nil w _ _ _ _ _ _ _ Tryz.underlying29
      simp only [outS, Option.getD_none, List.length_nil]
      clear hfr hcase
      go_wp2
      exact bodyPost_ret (v := .tuple #[.slice none 0 0, .int .i64 6]) (by simp [results, Tryz.results29, go_sem]) rfl ⟨none, 0, [], 6, .inr ⟨HV.out, none, HF.out, rfl, rfl⟩, rfl, Row.nil, Nat.le_refl _, Nat.zero_le _, by (exact kpt)⟩
    | some s =>
      have HF := Lib.hid hfr
      obtain ⟨-, h7⟩ : (some s).isSome = true ∧ a2.isNone = false := by
        rcases hcase with ⟨h, _⟩ | h
        · cases h
        · exact h
      simp only [outS, Option.getD_some] at hr2 hc2 ⊢
      have hs0 : ∀ w, (binOp .eql 29 (.slice a2 s.length c2) (.slice none 0 0)).run Tryz.prog w = .ok (.bool false) w := fun w => by rw [Lib.run_eql_slice_nil w _ _ _ _ _ _ _ Tryz.underlying29, h7]
      clear hfr hcase
      go_wp2
      exact bodyPost_ret (v := .tuple #[.slice a2 s.length c2, .int .i64 0]) (by simp [results, Tryz.results29, go_sem]) rfl ⟨a2, c2, s, 0, .inr ⟨HV.out, some s, HF.out, rfl, rfl⟩, rfl, hr2, hc2, hm2, by (exact kpt)⟩

theorem f_Decide (vs : List Span) (va : Option Addr) (vc : Nat) (rs : List RowM) (ra : Option Addr) (rc : Nat) (w : World) (ht : TabAt ⟨vs, va, vc, rs, ra, rc⟩ w) (sa : Option Addr) (sc : Nat) (st : List Int) (hs : Row icell 1 w.heap.size w sa st) (hsl : st.length ≤ sc) (hsm : sc ≤ maxLen) (hvl5 : vs.length ≤ 1000000) (hrl5 : rs.length ≤ 1000000) (hcl5 : ∀ x ∈ rs, x.r.conds.length ≤ 1000000) (hst5 : st.length ≤ 1000) :
    Calls Tryz.prog 28 #[.agg #[.slice va vs.length vc, .slice ra rs.length rc], .slice sa st.length sc] w fun z w' => z = .returned (.tuple #[.int .i64 (decR (tbOf vs rs) st).1, .int .i64 (decR (tbOf vs rs) st).2]) ∧ Kept w w' := by
  have htv : Row Span.cells 2 w.heap.size w va vs := ht.vars
  have hvm : vc ≤ maxLen := ht.vm
  have hrm : rc ≤ maxLen := ht.rm
  have hvl : vs.length ≤ vc := ht.vl
  have hrl : rs.length ≤ rc := ht.rl
  unfold maxLen at hvm hrm
  have hsm' := hsm
  unfold maxLen at hsm'
  cases hv : validB (tbOf vs rs)
  · have HCK := Lib.hid (bad_check hv)
    have HD := Lib.hid (show decR (tbOf vs rs) st = (0, 76) by unfold decR; rw [hv]; rfl)
    clear hv
    go_enter Tryz.func28, Tryz.ntmps28
    go_wp2_with (go_at_call 26; (with_reducible refine (f_CheckRows vs va vc rs ra rc _ (ht.later (by (exact kpt))) hvl5 hrl5 hcl5).mono ?_); rw [HCK.out]; rintro z w1 ⟨rfl, hb1⟩; refine Blk.thru (b := w.heap.size) (arr := ?_) (t := ?_) ?_ hb1 ?_; rotate_left 2; (focus (exact blk)); intro r0; have r0c0 := r0.cell 0; have r0f0 := r0.free 0; have r0c1 := r0.cell 1; have r0f1 := r0.free 1; have r0l := r0.lt; simp at r0c0 r0c1)
    exact bodyPost_ret (v := .tuple #[.int .i64 0, .int .i64 76]) (by simp [results, Tryz.results28, go_sem]) rfl ⟨by rw [HD.out], by (exact kpt)⟩
  · have HCK := Lib.hid (good_check hv)
    obtain ⟨q1, q2, q3, q4⟩ := valid_parts.1 hv
    have hn := inB_iff.1 q1
    rw [show (tbOf vs rs).vars = vs from rfl] at hn
    rw [rows_len] at q2
    have hr : rs.length ≤ 1000 := by omega
    have hn3 : 1 ≤ vs.length ∧ vs.length ≤ 3 := by omega
    have hce : ∀ x ∈ rs, x.r.conds.length = vs.length := fun x hx => (q4 x.r (mem_rowsT hx)).1
    have HV := Lib.hid hv
    by_cases hl : st.length = vs.length
    · have e1 : ((st.length : Int) != (vs.length : Int)) = false := by simp [hl]
      have hST : st.length ≤ vs.length := by omega
      have HCS := Lib.hid (fun x hx => by rw [hce x hx]; exact hST : ∀ x ∈ rs, st.length ≤ x.r.conds.length)
      have HD2 := Lib.hid (fun (h : hits vs st = false) => (show decR (tbOf vs rs) st = (0, 2) by unfold decR; rw [hv, show (tbOf vs rs).vars = vs from rfl, if_pos rfl, if_pos hl, h]; rfl))
      have HD3 := Lib.hid (fun (h : hits vs st = true) => (show decR (tbOf vs rs) st = (match matchL (tbOf vs rs) st with | [] => (0, 6) | [i] => ((i : Int), 0) | _ => (0, 77)) by unfold decR; first | (rw [hv, show (tbOf vs rs).vars = vs from rfl, if_pos rfl, if_pos hl, if_pos h]; done) | (rw [hv, show (tbOf vs rs).vars = vs from rfl, if_pos rfl, if_pos hl, if_pos h]; rfl)))
      have HL := Lib.hid hl
      clear q1 q2 q3 q4 hn hv hce hl
      go_enter Tryz.func28, Tryz.ntmps28
      go_wp2_with (go_at_call 26; (with_reducible refine (f_CheckRows vs va vc rs ra rc _ (ht.later (by (exact kpt))) hvl5 hrl5 hcl5).mono ?_); rw [HCK.out]; rintro z w1 ⟨rfl, hb1⟩; refine Blk.thru (b := w.heap.size) (arr := ?_) (t := ?_) ?_ hb1 ?_; rotate_left 2; (focus (exact blk)); intro r0; have r0c0 := r0.cell 0; have r0f0 := r0.free 0; have r0c1 := r0.cell 1; have r0f1 := r0.free 1; have r0l := r0.lt; simp at r0c0 r0c1)
      go_loopw [23] (fun s7 wr => ∃ k : Nat, k ≤ st.length ∧ s7 = .int .i64 (k : Int) ∧ hits vs (st.take k) = true ∧ Blk wr w.heap.size #[.slice va vs.length vc, .slice ra rs.length rc] 68 ∧ Kept w wr) (fun s7 _ => st.length - (intOf s7).toNat)
      case atStart => exact ⟨0, Nat.zero_le _, rfl, by cases vs <;> rfl, by (exact blk), by (exact kpt)⟩
      case round =>
        clear r0 r0c0 r0f0 r0c1 r0f1 r0l
        obtain ⟨k, hk, rfl, hh, r0, hkk⟩ := hrel
        by_cases hkt : k < st.length
        · have hkv : k < vs.length := by omega
          obtain ⟨sb, so, rfl, hsb, x0⟩ := int_row (hs.later hkk (Nat.le_refl _)) k hkt
          obtain ⟨vb, vo, rfl, hvb, c0, c1⟩ := Span.row (htv.later hkk (Nat.le_refl _)) k hkv
          have HTK := Lib.hid (show hits vs (st.take (k + 1)) = inB st[k] vs[k].lo vs[k].hi by
            rw [List.take_succ_eq_append_getElem hkt, hits_snoc (by rw [List.length_take]; omega), hh]
            simp only [List.length_take, Nat.min_eq_left (Nat.le_of_lt hkt), Bool.true_and])
          obtain ⟨y, hy⟩ : ∃ x, x = st[k] := ⟨_, rfl⟩
          obtain ⟨c, hc⟩ : ∃ x, x = vs[k] := ⟨_, rfl⟩
          rw [← hy, ← hc] at HTK
          rw [← hy] at x0
          rw [← hc] at c0 c1
          clear hy hc hh
          have i0 : (0 : Int) ≤ (k : Int) := by omega
          have i1 : (k : Int) < (st.length : Int) := by omega
          have i2 : (k : Int) < (vs.length : Int) := by omega
          have k0 : ∀ w2, Kept wr w2 → w2.cell? ⟨w.heap.size, 0, none⟩ = some (.slice (some ⟨vb, vo, none⟩) vs.length vc) := fun w2 h => by simpa using (r0.keep h).cell 0
          have k2 : ∀ w2, Kept wr w2 → w2.cell? ⟨vb, vo + k * 2, none⟩ = some (.int .i64 c.lo) := fun w2 h => by rw [h.cell (p := ⟨vb, vo + k * 2, none⟩) hvb]; exact c0
          have k3 : ∀ w2, Kept wr w2 → w2.cell? ⟨vb, vo + k * 2 + 1, none⟩ = some (.int .i64 c.hi) := fun w2 h => by rw [h.cell (p := ⟨vb, vo + k * 2 + 1, none⟩) hvb]; exact c1
          have lw := r0.lt
          cases hb : inB y c.lo c.hi
          · have HB := Lib.hid (show inB y c.lo c.hi = false from hb)
            have HDD := Lib.hid (HD2.out (hits_fail (k := k + 1) (by rw [HTK.out]; exact hb)))
            clear hb HTK
            go_upto_region 9 with fail
            go_region_held3 (fun w2 => Kept wr w2) (exact kpt) (first | (go_at_call 44; (with_reducible refine (f_rangedB c.lo c.hi y _ 3 _ ?_).mono ?_); (focus (first | (with_reducible refine Blk.drew (Blk.new' ?_); (first | rfl | (simp; done))) | (with_reducible refine Blk.new' ?_; (first | rfl | (simp; done))) | (exact blk))); rw [HB.out]; rintro z w2 ⟨rfl, hb2⟩) | fail)
            all_goals
              go_wp2
              exact bodyPost_ret (v := .tuple #[.int .i64 0, .int .i64 2]) (by simp [results, Tryz.results28, go_sem]) rfl ⟨by rw [HDD.out], by (exact kpt)⟩
          · have HB := Lib.hid (show inB y c.lo c.hi = true from hb)
            have HN := Lib.hid (show hits vs (st.take (k + 1)) = true by rw [HTK.out]; exact hb)
            clear hb HTK
            go_upto_region 9 with fail
            go_region_held3 (fun w2 => Kept wr w2) (exact kpt) (first | (go_at_call 44; (with_reducible refine (f_rangedB c.lo c.hi y _ 3 _ ?_).mono ?_); (focus (first | (with_reducible refine Blk.drew (Blk.new' ?_); (first | rfl | (simp; done))) | (with_reducible refine Blk.new' ?_; (first | rfl | (simp; done))) | (exact blk))); rw [HB.out]; rintro z w2 ⟨rfl, hb2⟩) | fail)
            all_goals
              go_wp2
              go_roundw
              case rel =>
                have hkf : Kept wr w2 := by (exact kpt)
                exact ⟨k + 1, by omega, by go_num, HN.out, r0.keep hkf, Kept.drop hkk hkf⟩
              case measure => simp [intOf]; omega
        · obtain rfl : st.length = k := by omega
          rw [List.take_length] at hh
          have HDD := Lib.hid (HD3.out hh)
          have hmf := match_few (d := tbOf vs rs) st
          rw [rows_len] at hmf
          clear HD2 HD3 hh
          have r0c0 := r0.cell 0
          have r0f0 := r0.free 0
          have r0c1 := r0.cell 1
          have r0f1 := r0.free 1
          have r0l := r0.lt
          simp at r0c0 r0c1
          go_upto_region 13 with (first | (go_at_call 71; (with_reducible refine (f_matching vs va vc rs ra rc _ (ht.later (by (exact kpt))) sa sc st).mono ?_); rintro z w4 ⟨rfl, rfl⟩) | (go_at_call 70; (with_reducible refine (f_Collect vs va vc rs ra rc w ht sa sc st hs hsl hsm hr HCS.out _ ?_ _ _ ?_ ?_).mono ?_); (focus (exact kpt)); (focus (first | (with_reducible refine Blk.drew (Blk.new' ?_); (first | rfl | (simp; done))) | (with_reducible refine Blk.new' ?_; (first | rfl | (simp; done))) | (exact blk))); (focus (first | (with_reducible refine Blk.drew (Blk.new' ?_); (first | rfl | (simp; done))) | (with_reducible refine Blk.new' ?_; (first | rfl | (simp; done))) | (exact blk))); rintro z w5 ⟨v5, rfl, ho5, hb5⟩; obtain ⟨ad5, cp5, rfl, hrw5, hcp5, hcm5⟩ := owns_row (enc := icell) (k := 1) (xs := natsI (matchL (tbOf vs rs) st)) (fun _ => rfl) (by rw [natsI_len]; exact ho5); simp only [natsI_len] at hcp5 ⊢))
          clear r0 r0c0 r0f0 r0c1 r0f1 r0l
          match hM : matchL (tbOf vs rs) st with
          | [] =>
            have HD4 := Lib.hid (show decR (tbOf vs rs) st = (0, 6) by rw [HDD.out, hM])
            clear hM
            go_wp2
            exact bodyPost_ret (v := .tuple #[.int .i64 0, .int .i64 6]) (by simp [results, Tryz.results28, go_sem]) rfl ⟨by rw [HD4.out], by (exact kpt)⟩
          | [i] =>
            have HD4 := Lib.hid (show decR (tbOf vs rs) st = ((i : Int), 0) by rw [HDD.out, hM])
            have hlen1 : (matchL (tbOf vs rs) st).length = 1 := by rw [hM]; rfl
            obtain ⟨b5, o5, rfl, hbl5, x5⟩ := int_row hrw5 0 (by rw [natsI_len, hlen1]; omega)
            simp only [hM, natsI, List.map_cons, List.map_nil, List.getElem_cons_zero, Nat.add_zero] at x5
            clear hM hlen1
            go_wp2
            exact bodyPost_ret (v := .tuple #[.int .i64 i, .int .i64 0]) (by simp [results, Tryz.results28, go_sem]) rfl ⟨by rw [HD4.out], by (exact kpt)⟩
          | i :: j :: l =>
            have HD4 := Lib.hid (show decR (tbOf vs rs) st = (0, 77) by rw [HDD.out, hM])
            clear hM
            go_wp2
            exact bodyPost_ret (v := .tuple #[.int .i64 0, .int .i64 77]) (by simp [results, Tryz.results28, go_sem]) rfl ⟨by rw [HD4.out], by (exact kpt)⟩
    · have e1 : ((st.length : Int) != (vs.length : Int)) = true := by simp; omega
      have HD := Lib.hid (show decR (tbOf vs rs) st = (0, 2) by unfold decR; rw [hv, show (tbOf vs rs).vars = vs from rfl, if_pos rfl, if_neg hl])
      clear q1 q2 q3 q4 hn hv hce hl
      go_enter Tryz.func28, Tryz.ntmps28
      go_wp2_with (go_at_call 26; (with_reducible refine (f_CheckRows vs va vc rs ra rc _ (ht.later (by (exact kpt))) hvl5 hrl5 hcl5).mono ?_); rw [HCK.out]; rintro z w1 ⟨rfl, hb1⟩; refine Blk.thru (b := w.heap.size) (arr := ?_) (t := ?_) ?_ hb1 ?_; rotate_left 2; (focus (exact blk)); intro r0; have r0c0 := r0.cell 0; have r0f0 := r0.free 0; have r0c1 := r0.cell 1; have r0f1 := r0.free 1; have r0l := r0.lt; simp at r0c0 r0c1)
      exact bodyPost_ret (v := .tuple #[.int .i64 0, .int .i64 2]) (by simp [results, Tryz.results28, go_sem]) rfl ⟨by rw [HD.out], by (exact kpt)⟩

end Go.Proofs.YtacbkbilbmkjnaaGreat

/-
  The outright statements of chapter 7: what the examples answer; alive.
-/
namespace Go.Proofs.YtacbkbilbmkjnaaGreat
open Go.RowKit Bal Bal.Trim Bal.Mast
set_option linter.unusedVariables false
set_option linter.unusedSimpArgs false
set_option maxHeartbeats 4000000
set_option maxRecDepth 10000

theorem o_plan (w : World) : Calls Tryz.prog 42 #[] w fun z w' => ∃ g, z = .returned (.slice (some ⟨g, 0, none⟩) 8 8) ∧ Row Deed.cells 2 w'.heap.size w' (some ⟨g, 0, none⟩) exPlan ∧ Kept w w' := by
  go_enter Tryz.func42, Tryz.ntmps42
  go_wp2
  go_ret
  exact ⟨_, rfl, Row.block (arr := #[.int .u8 1, .int .i64 0, .int .u8 2, .int .i64 8, .int .u8 4, .int .i64 0, .int .u8 5, .int .i64 0, .int .u8 9, .int .i64 1, .int .u8 7, .int .i64 0, .int .u8 10, .int .i64 0, .int .u8 11, .int .i64 0]) (t := 48) (fun _ => rfl) Blk.new rfl, by (exact kpt)⟩
theorem a_cross (w : World) : Calls Tryz.prog 19 #[.agg #[.int .i64 0, .int .i64 30, .int .i64 40, .int .i64 40], .agg #[.int .i64 3, .int .i64 4]] w fun z w' => z = .returned (.tuple #[.agg #[.int .i64 0, .int .i64 24], .int .i64 0]) ∧ Kept w w' := by
  have := f_Cross exWind ⟨3, 4⟩ w
  rw [show crossLo exWind ⟨3, 4⟩ = 0 by decide +kernel, show crossHi exWind ⟨3, 4⟩ = 24 by decide +kernel, show crossE exWind ⟨3, 4⟩ = 0 by decide +kernel] at this
  exact this
theorem a_man (a : Option Addr) (w : World) (hx : Row Span.cells 2 w.heap.size w a exPort.pulls) : Calls Tryz.prog 13 #[.slice a 3 3, .int .i64 10, .int .i64 100] w fun z w' => ∃ ad cp, z = .returned (.tuple #[.slice ad 3 cp, .int .i64 0]) ∧ Row icell 1 w'.heap.size w' ad [4, 6, 0] ∧ 3 ≤ cp ∧ cp ≤ maxLen ∧ Kept w w' := by
  refine (f_Man a 3 exPort.pulls 10 100 w hx (by decide) (by decide) (by decide)).mono ?_
  rintro z w' ⟨v, rfl, ho, hk⟩
  rw [show manL exPort.pulls 10 100 = [4, 6, 0] by decide +kernel] at ho
  rw [show manE exPort.pulls 10 100 = 0 by decide +kernel]
  obtain ⟨ad, cp, rfl, hr, h1, h2⟩ := owns_row (enc := icell) (k := 1) (fun _ => rfl) ho
  exact ⟨ad, cp, rfl, hr, h1, h2, hk⟩
theorem a_plan (a e : Option Addr) (w : World) (hx : Row Axis.cells 2 w.heap.size w a exPort.axes) (hy : Row Span.cells 2 w.heap.size w e exPort.pulls) : Calls Tryz.prog 17 #[.agg #[.slice a 3 3, .int .i64 12, .int .i64 100, .slice e 3 3, .int .i64 25], .agg #[.int .u8 0, .int .i64 0, .int .i64 0, .bool false, .bool false], .agg #[.int .i64 0, .int .i64 30, .int .i64 40, .int .i64 40], .int .u8 5] w fun z w' => ∃ ad cp, z = .returned (.tuple #[.slice ad 8 cp, .int .i64 0]) ∧ Row Deed.cells 2 w'.heap.size w' ad exPlan ∧ 8 ≤ cp ∧ cp ≤ maxLen ∧ Kept w w' := by
  refine (f_Plan a 3 e 3 exPort w hx (by decide) (by decide) hy (by decide) (by decide) (by decide) (by decide) noBerth (by decide) exWind 5 ⟨by decide, by decide⟩).mono ?_
  rintro z w' ⟨v, l, E, hr, rfl, ho, hk⟩
  have hok : planErr exPort noBerth exWind 5 = 0 := by decide +kernel
  obtain ⟨rfl, rfl⟩ : E = 0 ∧ l = exPlan := by
    rcases hr with ⟨h, _⟩ | ⟨_, _, r, hl, rfl, rfl⟩
    · exact absurd hok h
    · have := Least.unique (coded (nums_ok exPort_ok).1) hl exLeast
      subst this
      exact ⟨rfl, rfl⟩
  obtain ⟨ad, cp, rfl, hr, h1, h2⟩ := owns_row (enc := Deed.cells) (k := 2) deed_len ho
  exact ⟨ad, cp, rfl, hr, h1, h2, hk⟩
theorem a_do (a e : Option Addr) (w : World) (hx : Row Axis.cells 2 w.heap.size w a exPort.axes) (hy : Row Span.cells 2 w.heap.size w e exPort.pulls) : Calls Tryz.prog 23 #[.agg #[.slice a 3 3, .int .i64 12, .int .i64 100, .slice e 3 3, .int .i64 25], .agg #[.int .u8 3, .int .i64 0, .int .i64 9, .bool false, .bool true], .agg #[.int .u8 10, .int .i64 0, .int .i64 0, .int .i64 30, .int .i64 40, .int .i64 40]] w fun z w' => z = .returned (.tuple #[.agg #[.int .u8 0, .int .i64 0, .int .i64 0, .bool false, .bool false], .int .i64 4, .int .i64 74]) ∧ Kept w w' := by
  have := f_Do a 3 e 3 exPort w hx (by decide) (by decide) hy (by decide) (by decide) (by decide) (by decide) ⟨3, 0, 9, false, true⟩ (by decide) ⟨⟨10, 0⟩, exWind⟩ ⟨by decide, by decide⟩
  rw [show doB exPort ⟨3, 0, 9, false, true⟩ ⟨⟨10, 0⟩, exWind⟩ = noBerth by decide +kernel, show doRule exPort ⟨3, 0, 9, false, true⟩ ⟨⟨10, 0⟩, exWind⟩ = 4 by decide +kernel, show doE exPort ⟨3, 0, 9, false, true⟩ ⟨⟨10, 0⟩, exWind⟩ = 74 by decide +kernel] at this
  exact this
def exTab : Tb := ⟨[⟨0, 9⟩], [⟨[⟨0, 4⟩], 0⟩, ⟨[⟨4, 8⟩], 3⟩]⟩
theorem exTab_is (g2 g3 : Nat) : tbOf [⟨0, 9⟩] (exRows g2 g3) = exTab := rfl
theorem exTab_ok : validB exTab = true := by decide +kernel
theorem exGap {E : Int} {s : List Int} (h : GapRes exTab E s) : E = 0 ∧ s = [9] := by
  rcases h with ⟨h, _⟩ | ⟨_, r, hr, rfl, rfl⟩
  · rw [exTab_ok] at h; cases h
  · have h1 := firstL_ext (valid_even exTab_ok) W0 1 0 [] rfl (by rfl) (by rfl)
    have h2 : firstL exTab W0 ((List.range' 0 1).map (starts exTab)) [] = some [9] := by decide +kernel
    rw [h2] at h1
    have := FirstExt.unique hr h1
    subst this
    exact ⟨rfl, rfl⟩
theorem a_gap (a e : Option Addr) (g2 g3 : Nat) (w : World) (ht : TabAt ⟨[⟨0, 9⟩], a, 1, exRows g2 g3, e, 2⟩ w) : Calls Tryz.prog 29 #[.agg #[.slice a 1 1, .slice e 2 2]] w fun z w' => ∃ ad cp, z = .returned (.tuple #[.slice ad 1 cp, .int .i64 0]) ∧ Row icell 1 w'.heap.size w' ad [9] ∧ 1 ≤ cp ∧ cp ≤ maxLen ∧ Kept w w' := by
  refine (f_Gap [⟨0, 9⟩] a 1 (exRows g2 g3) e 2 w ht (by decide) (by simp [exRows]) (fun x hx => by simp only [exRows, List.mem_cons, List.not_mem_nil, or_false] at hx; rcases hx with rfl | rfl <;> simp)).mono ?_
  rintro z w' ⟨ad, cp, s, E, hr, rfl, hrow, h1, h2, hk⟩
  rw [exTab_is] at hr
  obtain ⟨rfl, rfl⟩ := exGap hr
  exact ⟨ad, cp, rfl, hrow, h1, h2, hk⟩
theorem a_dec (n x R E : Int) (b : Nat) (hd : decR exTab [x] = (R, E)) (a e : Option Addr) (g2 g3 : Nat) (w : World) (ht : TabAt ⟨[⟨0, 9⟩], a, 1, exRows g2 g3, e, 2⟩ w) (hb : Blk w b #[.int .i64 x] 3) : Calls Tryz.prog 28 #[.agg #[.slice a 1 1, .slice e 2 2], .slice (some ⟨b, 0, none⟩) 1 1] w fun z w' => z = .returned (.tuple #[.int .i64 R, .int .i64 E]) ∧ Kept w w' := by
  have := f_Decide [⟨0, 9⟩] a 1 (exRows g2 g3) e 2 w ht (some ⟨b, 0, none⟩) 1 [x] (Row.block (fun _ => rfl) hb rfl) (by simp) (by decide) (by decide) (by simp [exRows]) (fun x hx => by simp only [exRows, List.mem_cons, List.not_mem_nil, or_false] at hx; rcases hx with rfl | rfl <;> simp) (by simp)
  rw [exTab_is, hd] at this
  exact this
theorem a_ints1 (a : Option Addr) (b c : Nat) (p : Int) (w : World) (hx : Row icell 1 w.heap.size w a [p]) (hc : 1 ≤ c) (hM : c ≤ maxLen) (hy : Blk w b #[.int .i64 p] 3) :
    Calls Tryz.prog 37 #[.slice a 1 c, .slice (some ⟨b, 0, none⟩) 1 1] w fun e w' => e = .returned (.bool true) ∧ Kept w w' := r_SameInts a _ c 1 [p] w hx (Row.block (fun _ => rfl) hy rfl) hc (Nat.le_refl _) hM (by simp [maxLen])
theorem a_ints3 (a : Option Addr) (b c : Nat) (p q r : Int) (w : World) (hx : Row icell 1 w.heap.size w a [p, q, r]) (hc : 3 ≤ c) (hM : c ≤ maxLen) (hy : Blk w b #[.int .i64 p, .int .i64 q, .int .i64 r] 3) :
    Calls Tryz.prog 37 #[.slice a 3 c, .slice (some ⟨b, 0, none⟩) 3 3] w fun e w' => e = .returned (.bool true) ∧ Kept w w' := r_SameInts a _ c 3 [p, q, r] w hx (Row.block (fun _ => rfl) hy rfl) hc (Nat.le_refl _) hM (by simp [maxLen])
theorem a_acts (a b : Option Addr) (c : Nat) (w : World) (hx : Row Deed.cells 2 w.heap.size w a exPlan) (hy : Row Deed.cells 2 w.heap.size w b exPlan) (hc : 8 ≤ c) (hM : c ≤ maxLen) :
    Calls Tryz.prog 41 #[.slice a 8 c, .slice b 8 8] w fun e w' => e = .returned (.bool true) ∧ Kept w w' := r_SameActs a b c 8 exPlan w hx hy hc (Nat.le_refl _) hM (by simp [maxLen])
theorem fieldP (v0 v1 v2 v3 v4 : Value) (w : World) : (Instr.field 25 (.agg #[v0, v1, v2, v3, v4]) 3).run Tryz.prog w = .ok v3 w := by kernel_rfl
attribute [local go_sem] fieldP

theorem o_alive (w : World) : Calls Tryz.prog 11 #[] w fun z w' => z = .returned (.bool true) ∧ Kept w w' := by
  have HD := Lib.hid (show decR exTab [5] = (1, 0) by decide +kernel)
  go_enter Tryz.func11, Tryz.ntmps11
  go_upto_region 2 with (first | (go_at_call 34; (with_reducible refine (o_wind _).mono ?_); rintro z wW ⟨rfl, hbW⟩) | (go_at_call 19; (with_reducible refine (a_cross _).mono ?_); rintro z wC ⟨rfl, hbC⟩))
  refine at_world (S := fun W1 => Blk W1 wC.heap.size #[.int .i64 0, .int .i64 24] 34 ∧ Kept w W1) ⟨by (exact blkc), by (exact kpt)⟩ ?_
  obtain ⟨n1, hn1⟩ : ∃ n, n = wC.heap.size := ⟨_, rfl⟩
  rw [← hn1]
  clear hn1
  rintro W1 ⟨q1, hk⟩
  go_upto_region 3 with (first | (go_at_call 35; (with_reducible refine (o_port _).mono ?_); rintro z wA ⟨gA, hA, rfl, hxA, hyA, hbA⟩) | (go_at_call 13; (with_reducible refine (a_man _ _ (hyA.later (by (exact kpt)) (Nat.le_refl _))).mono ?_); rintro z wM ⟨aM, cM, rfl, hM, hM1, hM2, hbM⟩))
  refine at_world (S := fun W2 => Blk W2 n1 #[.int .i64 0, .int .i64 24] 34 ∧ Row icell 1 W2.heap.size W2 aM [4, 6, 0] ∧ Kept w W2) ⟨by (exact blk), (hM.later (by (exact kpt)) (Nat.le_refl _)), by (exact kpt)⟩ ?_
  clear q1 hk
  rintro W2 ⟨q1, r1, hk⟩
  go_upto_region 4 with (first | (go_at_call 35; (with_reducible refine (o_port _).mono ?_); rintro z wB ⟨gB, hB, rfl, hxB, hyB, hbB⟩) | (go_at_call 34; (with_reducible refine (o_wind _).mono ?_); rintro z wC ⟨rfl, hbC⟩) | (go_at_call 17; (with_reducible refine (a_plan _ _ _ (hxB.later (by (exact kpt)) (Nat.le_refl _)) (hyB.later (by (exact kpt)) (Nat.le_refl _))).mono ?_); rintro z wL ⟨aL, cL, rfl, hL, hL1, hL2, hbL⟩))
  refine at_world (S := fun W3 => Blk W3 n1 #[.int .i64 0, .int .i64 24] 34 ∧ Row icell 1 W3.heap.size W3 aM [4, 6, 0] ∧ Row Deed.cells 2 W3.heap.size W3 aL exPlan ∧ Kept w W3) ⟨by (exact blk), (r1.later (by (exact kpt)) (Nat.le_refl _)), (hL.later (by (exact kpt)) (Nat.le_refl _)), by (exact kpt)⟩ ?_
  clear q1 r1 hk
  rintro W3 ⟨q1, r1, r2, hk⟩
  go_upto_region 5 with (first | (go_at_call 35; (with_reducible refine (o_port _).mono ?_); rintro z wD ⟨gD, hD, rfl, hxD, hyD, hbD⟩) | (go_at_call 34; (with_reducible refine (o_wind _).mono ?_); rintro z wE ⟨rfl, hbE⟩) | (go_at_call 23; (with_reducible refine (a_do _ _ _ (hxD.later (by (exact kpt)) (Nat.le_refl _)) (hyD.later (by (exact kpt)) (Nat.le_refl _))).mono ?_); rintro z wD ⟨rfl, hbD⟩))
  refine at_world (S := fun W4 => Blk W4 n1 #[.int .i64 0, .int .i64 24] 34 ∧ Row icell 1 W4.heap.size W4 aM [4, 6, 0] ∧ Row Deed.cells 2 W4.heap.size W4 aL exPlan ∧ Kept w W4) ⟨by (exact blk), (r1.later (by (exact kpt)) (Nat.le_refl _)), (r2.later (by (exact kpt)) (Nat.le_refl _)), by (exact kpt)⟩ ?_
  clear q1 r1 r2 hk
  rintro W4 ⟨q1, r1, r2, hk⟩
  go_upto_region 6 with (first | (go_at_call 36; (with_reducible refine (o_table _).mono ?_); rintro z wF ⟨gF, kF, lF, hF, rfl, htF, hbF⟩) | (go_at_call 29; (with_reducible refine (a_gap _ _ _ _ _ (htF.later (by (exact kpt)))).mono ?_); rintro z wG ⟨aG, cG, rfl, hG, hG1, hG2, hbG⟩))
  refine at_world (S := fun W5 => Blk W5 n1 #[.int .i64 0, .int .i64 24] 34 ∧ Row icell 1 W5.heap.size W5 aM [4, 6, 0] ∧ Row Deed.cells 2 W5.heap.size W5 aL exPlan ∧ Row icell 1 W5.heap.size W5 aG [9] ∧ Kept w W5) ⟨by (exact blk), (r1.later (by (exact kpt)) (Nat.le_refl _)), (r2.later (by (exact kpt)) (Nat.le_refl _)), (hG.later (by (exact kpt)) (Nat.le_refl _)), by (exact kpt)⟩ ?_
  clear q1 r1 r2 hk
  rintro W5 ⟨q1, r1, r2, r3, hk⟩
  go_upto_region 7 with (first | (go_at_call 36; (with_reducible refine (o_table _).mono ?_); rintro z wH ⟨gH, kH, lH, hH, rfl, htH, hbH⟩) | (go_at_call 28; (with_reducible refine (a_dec 0 5 1 0 _ HD.out _ _ _ _ _ (htH.later (by (exact kpt))) ?_).mono ?_); (focus (exact blk)); rintro z wH ⟨rfl, hbH⟩))
  refine at_world (S := fun W6 => Blk W6 n1 #[.int .i64 0, .int .i64 24] 34 ∧ Row icell 1 W6.heap.size W6 aM [4, 6, 0] ∧ Row Deed.cells 2 W6.heap.size W6 aL exPlan ∧ Row icell 1 W6.heap.size W6 aG [9] ∧ Kept w W6) ⟨by (exact blk), (r1.later (by (exact kpt)) (Nat.le_refl _)), (r2.later (by (exact kpt)) (Nat.le_refl _)), (r3.later (by (exact kpt)) (Nat.le_refl _)), by (exact kpt)⟩ ?_
  clear q1 r1 r2 r3 hk
  rintro W6 ⟨q1, r1, r2, r3, hk⟩
  have q1c0 := q1.cell 0
  have q1f0 := q1.free 0
  have q1c1 := q1.cell 1
  have q1f1 := q1.free 1
  have q1l := q1.lt
  simp at q1c0 q1c1
  go_wp2_with (first | (go_at_call 37; (with_reducible refine (a_ints3 _ _ _ 4 6 0 _ (r1.later (by (exact kpt)) (Nat.le_refl _)) hM1 hM2 ?_).mono ?_); (focus (exact blk)); rintro e w8 ⟨rfl, hb8⟩) | (go_at_call 37; (with_reducible refine (a_ints1 _ _ _ 9 _ (r3.later (by (exact kpt)) (Nat.le_refl _)) hG1 hG2 ?_).mono ?_); (focus (exact blk)); rintro e w9 ⟨rfl, hb9⟩) | (go_at_call 42; (with_reducible refine (o_plan _).mono ?_); rintro z wP ⟨gP, rfl, hP, hbP⟩) | (go_at_call 41; (with_reducible refine (a_acts _ _ _ _ (r2.later (by (exact kpt)) (Nat.le_refl _)) (hP.later (by (exact kpt)) (Nat.le_refl _)) hL1 hL2).mono ?_); rintro e wQ ⟨rfl, hbQ⟩))
  go_ret
  exact ⟨rfl, by (exact kpt)⟩
end Go.Proofs.YtacbkbilbmkjnaaGreat

/-
  The outright statements of chapter 7: a number inside a span.
-/
namespace Go.Proofs.YtacbkbilbmkjnaaGreat
open Go.RowKit Bal Bal.Trim Bal.Mast
set_option linter.unusedVariables false
set_option linter.unusedSimpArgs false
set_option maxHeartbeats 4000000
set_option maxRecDepth 10000

theorem o_inside (lo hi n : Int) (w : World) (h1 : -1000000 ≤ lo) (h2 : lo ≤ hi) (h3 : hi ≤ 1000000) (hn : 0 ≤ n ∧ n ≤ 65535) :
    Calls Tryz.prog 21 #[.agg #[.int .i64 lo, .int .i64 hi], .int .u16 n] w fun e w' => e = .returned (.int .i64 (insideP lo hi n)) ∧ Kept w w' := by
  have m1 := Int.emod_nonneg n (show hi - lo + 1 ≠ 0 by omega)
  have m2 := Int.emod_lt_of_pos n (show 0 < hi - lo + 1 by omega)
  have hw1 := i64_in (n := hi - lo) (by omega)
  have hw2 := i64_in (n := hi - lo + 1) (by omega)
  have hw3 := i64_in (n := lo + n % (hi - lo + 1)) (by omega)
  have hw4 := i64_in (n := n % (hi - lo + 1)) (by omega)
  have hw5 := i64_in (n := n) (by omega)
  have hz1 : (hi - lo + 1 == 0) = false := by simp; omega
  have hz2 : ¬ hi - lo + 1 = 0 := by omega
  have ht : n.tmod (hi - lo + 1) = n % (hi - lo + 1) := Int.tmod_eq_emod_of_nonneg hn.1
  have h0 : 0 < hi - lo + 1 := by omega
  go_enter Tryz.func21, Tryz.ntmps21
  go_upto_region 1 with fail
  refine at_world (S := fun V => Blk V w.heap.size #[.int .i64 lo, .int .i64 hi] 34 ∧ Kept w V) ⟨by (exact blkc), by (exact kpt)⟩ ?_
  rintro V ⟨q0, hkV⟩
  have q0c0 := fun g : Later V => (q0.later g).cell 0
  have q0f0 := fun g : Later V => (q0.later g).free 0
  have q0c1 := fun g : Later V => (q0.later g).cell 1
  have q0f1 := fun g : Later V => (q0.later g).free 1
  have q0l := fun g : Later V => (q0.later g).lt
  simp at q0c0 q0c1
  refine Later.region (by kernel_rfl) (by kernel_rfl) ?_
  repeat (first | go_big_quiet_skip | (go_big_quiet_want; go_big_quiet_op; first | go_big_quiet_on | (apply Exists.intro; refine ⟨fun g_ => ?_, ?_⟩; (focus (first | fail)); go_big_quiet_on)))
  refine wpQuiet_nil ?_
  intro gg
  have hkg := Kept.drop hkV gg.ok
  go_wp2
  go_ret
  exact ⟨ret_int rfl, by (exact kpt)⟩
end Go.Proofs.YtacbkbilbmkjnaaGreat

/-
  Steps, played.
-/
namespace Go.Proofs.YtacbkbilbmkjnaaGreat
open Go.RowKit Bal Bal.Trim Bal.Mast
set_option linter.unusedVariables false
set_option linter.unusedSimpArgs false
set_option maxHeartbeats 4000000
set_option maxRecDepth 10000

theorem f_Play (a : Option Addr) (c : Nat) (e : Option Addr) (d : Nat) (p : Port) (w : World) (sa : Option Addr) (sc : Nat) (ss : List Step) (hx : Row Axis.cells 2 w.heap.size w a p.axes) (hc : p.axes.length ≤ c) (hM : c ≤ maxLen) (hy : Row Span.cells 2 w.heap.size w e p.pulls) (hd : p.pulls.length ≤ d) (hN : d ≤ maxLen) (h1 : p.axes.length ≤ 1000000) (h2 : p.pulls.length ≤ 1000000) (b : Berth) (hs0 : 0 ≤ b.ship) (hss : Row Step.cells 6 w.heap.size w sa ss) (hsl : ss.length ≤ sc) (hsm : sc ≤ maxLen) (hkk : ∀ s ∈ ss, 0 ≤ s.act.kind ∧ s.act.kind ≤ 255) :
    Calls Tryz.prog 32 #[.agg #[.slice a p.axes.length c, .int .i64 p.people, .int .i64 p.most, .slice e p.pulls.length d, .int .i64 p.cross], .agg #[.int .u8 b.ship, .int .i64 b.axis, .int .i64 b.held, .bool b.wire, .bool b.opn], .slice sa ss.length sc] w fun z w' => z = .returned (.tuple #[.agg #[.int .u8 (playE p b ss).b.ship, .int .i64 (playE p b ss).b.axis, .int .i64 (playE p b ss).b.held, .bool (playE p b ss).b.wire, .bool (playE p b ss).b.opn], .int .i64 (playE p b ss).i, .int .i64 (playE p b ss).r, .int .i64 (playE p b ss).e]) ∧ Kept w w' := by
  have hM' := hM
  have hN' := hN
  have hsm' := hsm
  unfold maxLen at hM' hN' hsm'
  by_cases c1 : checkBerth p b = 0
  · have HCB := Lib.hid c1
    by_cases c2 : 200 < ss.length
    · rw [show playE p b ss = ⟨noBerth, 0, 0, 4⟩ by unfold playE; rw [if_pos c1, if_pos c2]]
      have c3 : (200 : Int) < (ss.length : Int) := by omega
      clear c1
      go_enter Tryz.func32, Tryz.ntmps32
      go_wp2_with (go_at_call 24; (with_reducible refine (f_CheckBerth a c e d p _ (hx.later (by (exact kpt)) (Nat.le_refl _)) hc hM (hy.later (by (exact kpt)) (Nat.le_refl _)) hd hN h1 h2 b hs0).mono ?_); rw [HCB.out]; rintro z w1 ⟨rfl, hb1⟩; refine Blk.thru (b := w.heap.size) (arr := ?_) (t := ?_) ?_ hb1 ?_; rotate_left 2; (focus (exact blk)); intro r0; have r0c0 := r0.cell 0; have r0f0 := r0.free 0; have r0c1 := r0.cell 1; have r0f1 := r0.free 1; have r0c2 := r0.cell 2; have r0f2 := r0.free 2; have r0c3 := r0.cell 3; have r0f3 := r0.free 3; have r0c4 := r0.cell 4; have r0f4 := r0.free 4; have r0l := r0.lt; simp at r0c0 r0c1 r0c2 r0c3 r0c4; refine Blk.thru (b := (w.heap.size + 1)) (arr := ?_) (t := ?_) ?_ hb1 ?_; rotate_left 2; (focus (exact blk)); intro r1; have r1c0 := r1.cell 0; have r1f0 := r1.free 0; have r1c1 := r1.cell 1; have r1f1 := r1.free 1; have r1c2 := r1.cell 2; have r1f2 := r1.free 2; have r1c3 := r1.cell 3; have r1f3 := r1.free 3; have r1c4 := r1.cell 4; have r1f4 := r1.free 4; have r1l := r1.lt; simp at r1c0 r1c1 r1c2 r1c3 r1c4; refine Blk.thru (b := (w.heap.size + 1 + 1)) (arr := ?_) (t := ?_) ?_ hb1 ?_; rotate_left 2; (focus (exact blk)); intro r3; have r3c0 := r3.cell 0; have r3f0 := r3.free 0; have r3c1 := r3.cell 1; have r3f1 := r3.free 1; have r3c2 := r3.cell 2; have r3f2 := r3.free 2; have r3c3 := r3.cell 3; have r3f3 := r3.free 3; have r3c4 := r3.cell 4; have r3f4 := r3.free 4; have r3l := r3.lt; simp at r3c0 r3c1 r3c2 r3c3 r3c4)
      exact bodyPost_ret (v := .tuple #[.agg #[.int .u8 noBerth.ship, .int .i64 noBerth.axis, .int .i64 noBerth.held, .bool noBerth.wire, .bool noBerth.opn], .int .i64 0, .int .i64 0, .int .i64 4]) (by first | (simp [results, Tryz.results32, go_sem, noBerth, r3c0, r3c1, r3c2, r3c3, r3c4, r3l]; done) | (simp [results, Tryz.results32, go_sem, noBerth, r3c0, r3c1, r3c2, r3c3, r3c4, r3l]; rfl)) rfl ⟨rfl, by (exact kpt)⟩
    · have hpl0 : playE p b ss = play p b (ss.drop 0) 0 := by unfold playE; rw [if_pos c1, if_neg c2]; rfl
      obtain ⟨X, hX⟩ : ∃ X, playE p b ss = X := ⟨_, rfl⟩
      rw [hX] at hpl0
      rw [hX]
      have c3 : ¬ (200 : Int) < (ss.length : Int) := by omega
      have HKK := Lib.hid hkk
      clear c1 hX hkk
      go_enter Tryz.func32, Tryz.ntmps32
      go_upto_region 6 with (go_at_call 24; (with_reducible refine (f_CheckBerth a c e d p _ (hx.later (by (exact kpt)) (Nat.le_refl _)) hc hM (hy.later (by (exact kpt)) (Nat.le_refl _)) hd hN h1 h2 b hs0).mono ?_); rw [HCB.out]; rintro z w1 ⟨rfl, hb1⟩; refine Blk.thru (b := w.heap.size) (arr := ?_) (t := ?_) ?_ hb1 ?_; rotate_left 2; (focus (exact blk)); intro r0; have r0c0 := r0.cell 0; have r0f0 := r0.free 0; have r0c1 := r0.cell 1; have r0f1 := r0.free 1; have r0c2 := r0.cell 2; have r0f2 := r0.free 2; have r0c3 := r0.cell 3; have r0f3 := r0.free 3; have r0c4 := r0.cell 4; have r0f4 := r0.free 4; have r0l := r0.lt; simp at r0c0 r0c1 r0c2 r0c3 r0c4; refine Blk.thru (b := (w.heap.size + 1)) (arr := ?_) (t := ?_) ?_ hb1 ?_; rotate_left 2; (focus (exact blk)); intro r1; have r1c0 := r1.cell 0; have r1f0 := r1.free 0; have r1c1 := r1.cell 1; have r1f1 := r1.free 1; have r1c2 := r1.cell 2; have r1f2 := r1.free 2; have r1c3 := r1.cell 3; have r1f3 := r1.free 3; have r1c4 := r1.cell 4; have r1f4 := r1.free 4; have r1l := r1.lt; simp at r1c0 r1c1 r1c2 r1c3 r1c4; refine Blk.thru (b := (w.heap.size + 1 + 1)) (arr := ?_) (t := ?_) ?_ hb1 ?_; rotate_left 2; (focus (exact blk)); intro r3; have r3c0 := r3.cell 0; have r3f0 := r3.free 0; have r3c1 := r3.cell 1; have r3f1 := r3.free 1; have r3c2 := r3.cell 2; have r3f2 := r3.free 2; have r3c3 := r3.cell 3; have r3f3 := r3.free 3; have r3c4 := r3.cell 4; have r3f4 := r3.free 4; have r3l := r3.lt; simp at r3c0 r3c1 r3c2 r3c3 r3c4)
      refine at_world (S := fun V => Blk V w.heap.size #[.slice a p.axes.length c, .int .i64 p.people, .int .i64 p.most, .slice e p.pulls.length d, .int .i64 p.cross] 25 ∧ Blk V (w.heap.size + 1) #[.int .u8 b.ship, .int .i64 b.axis, .int .i64 b.held, .bool b.wire, .bool b.opn] 37 ∧ Blk V (w.heap.size + 1 + 1) #[.int .u8 0, .int .i64 0, .int .i64 0, .bool false, .bool false] 37 ∧ Kept w V) ⟨by (exact blk), by (exact blk), by (exact blk), by (exact kpt)⟩ ?_
      clear r0 r1 r3 r0c0 r0f0 r0c1 r0f1 r0c2 r0f2 r0c3 r0f3 r0c4 r0f4 r1c0 r1f0 r1c1 r1f1 r1c2 r1f2 r1c3 r1f3 r1c4 r1f4 r3c0 r3f0 r3c1 r3f1 r3c2 r3f2 r3c3 r3f3 r3c4 r3f4 r0l r1l r3l
      rintro W ⟨r0, r1, r3, hk⟩
      go_wp2
      go_loopw [29] (fun i wr => ∃ (k : Nat) (bq : Berth), k ≤ ss.length ∧ i = .int .i64 k ∧ 0 ≤ bq.ship ∧ X = play p bq (ss.drop k) k ∧ Blk wr w.heap.size #[.slice a p.axes.length c, .int .i64 p.people, .int .i64 p.most, .slice e p.pulls.length d, .int .i64 p.cross] 25 ∧ Blk wr (w.heap.size + 1) #[.int .u8 bq.ship, .int .i64 bq.axis, .int .i64 bq.held, .bool bq.wire, .bool bq.opn] 37 ∧ Blk wr (w.heap.size + 1 + 1) #[.int .u8 0, .int .i64 0, .int .i64 0, .bool false, .bool false] 37 ∧ Kept w wr) (fun i _ => ss.length - (intOf i).toNat)
      case atStart => exact ⟨0, b, Nat.zero_le _, rfl, hs0, hpl0, r0, r1, r3, hk⟩
      case round =>
        clear r0 r1 r3 hk hpl0
        obtain ⟨k, bq, hkl, rfl, hq0, hpl, r0, r1, r3, hk⟩ := hrel
        have HPL := Lib.hid hpl
        clear hpl
        by_cases hlt : k < ss.length
        · obtain ⟨bb, off, rfl, hbb, g0, g1, g2, g3, g4, g5⟩ := Step.row (hss.later hk (Nat.le_refl _)) k hlt
          have HGO := Lib.hid (fun h => play_go (p := p) (b := bq) hlt h)
          have HNO := Lib.hid (fun h => play_no (p := p) (b := bq) hlt h)
          have hk0 := HKK.out _ (List.getElem_mem hlt)
          obtain ⟨s, hs⟩ : ∃ s, s = ss[k] := ⟨_, rfl⟩
          rw [← hs] at g0 g1 g2 g3 g4 g5 HGO HNO hk0
          clear hs
          obtain ⟨DB, hDB⟩ : ∃ x, doB p bq s = x := ⟨_, rfl⟩
          obtain ⟨DE, hDE⟩ : ∃ x, doE p bq s = x := ⟨_, rfl⟩
          obtain ⟨DR, hDR⟩ : ∃ x, doRule p bq s = x := ⟨_, rfl⟩
          have HSB := Lib.hid (show 0 ≤ DB.ship by rw [← hDB]; exact doB_ship hq0)
          have HDB := Lib.hid hDB
          have HDE := Lib.hid hDE
          have HDR := Lib.hid hDR
          clear hDB hDE hDR
          have j0 : (0 : Int) ≤ (k : Int) := by omega
          have j1 : (k : Int) < (ss.length : Int) := by omega
          have r0c0 := r0.cell 0
          have r0c1 := r0.cell 1
          have r0c2 := r0.cell 2
          have r0c3 := r0.cell 3
          have r0c4 := r0.cell 4
          have r0f0 := r0.free 0
          have r0f1 := r0.free 1
          have r0f2 := r0.free 2
          have r0f3 := r0.free 3
          have r0f4 := r0.free 4
          have r0l := r0.lt
          simp at r0c0 r0c1 r0c2 r0c3 r0c4
          have r1c0 := r1.cell 0
          have r1c1 := r1.cell 1
          have r1c2 := r1.cell 2
          have r1c3 := r1.cell 3
          have r1c4 := r1.cell 4
          have r1f0 := r1.free 0
          have r1f1 := r1.free 1
          have r1f2 := r1.free 2
          have r1f3 := r1.free 3
          have r1f4 := r1.free 4
          have r1l := r1.lt
          simp at r1c0 r1c1 r1c2 r1c3 r1c4
          have r3c0 := r3.cell 0
          have r3c1 := r3.cell 1
          have r3c2 := r3.cell 2
          have r3c3 := r3.cell 3
          have r3c4 := r3.cell 4
          have r3f0 := r3.free 0
          have r3f1 := r3.free 1
          have r3f2 := r3.free 2
          have r3f3 := r3.free 3
          have r3f4 := r3.free 4
          have r3l := r3.lt
          simp at r3c0 r3c1 r3c2 r3c3 r3c4
          by_cases he : DE = 0
          · subst he
            have HX2 := Lib.hid (HPL.out.trans (HGO.out HDE.out))
            rw [show doB p bq s = DB from HDB.out] at HX2
            clear HGO HNO HPL
            go_wp2_with (go_at_call 23; (with_reducible refine (f_Do a c e d p _ (hx.later (by (exact kpt)) (Nat.le_refl _)) hc hM (hy.later (by (exact kpt)) (Nat.le_refl _)) hd hN h1 h2 bq hq0 s hk0).mono ?_); rw [HDB.out, HDE.out, HDR.out]; rintro z w5 ⟨rfl, hb5⟩; refine Blk.thru (b := w.heap.size) (arr := ?_) (t := ?_) ?_ hb5 ?_; rotate_left 2; (focus (exact blk)); intro r0; have r0c0 := r0.cell 0; have r0f0 := r0.free 0; have r0c1 := r0.cell 1; have r0f1 := r0.free 1; have r0c2 := r0.cell 2; have r0f2 := r0.free 2; have r0c3 := r0.cell 3; have r0f3 := r0.free 3; have r0c4 := r0.cell 4; have r0f4 := r0.free 4; have r0l := r0.lt; simp at r0c0 r0c1 r0c2 r0c3 r0c4; refine Blk.thru (b := (w.heap.size + 1)) (arr := ?_) (t := ?_) ?_ hb5 ?_; rotate_left 2; (focus (exact blk)); intro r1; have r1c0 := r1.cell 0; have r1f0 := r1.free 0; have r1c1 := r1.cell 1; have r1f1 := r1.free 1; have r1c2 := r1.cell 2; have r1f2 := r1.free 2; have r1c3 := r1.cell 3; have r1f3 := r1.free 3; have r1c4 := r1.cell 4; have r1f4 := r1.free 4; have r1l := r1.lt; simp at r1c0 r1c1 r1c2 r1c3 r1c4; refine Blk.thru (b := (w.heap.size + 1 + 1)) (arr := ?_) (t := ?_) ?_ hb5 ?_; rotate_left 2; (focus (exact blk)); intro r3; have r3c0 := r3.cell 0; have r3f0 := r3.free 0; have r3c1 := r3.cell 1; have r3f1 := r3.free 1; have r3c2 := r3.cell 2; have r3f2 := r3.free 2; have r3c3 := r3.cell 3; have r3f3 := r3.free 3; have r3c4 := r3.cell 4; have r3f4 := r3.free 4; have r3l := r3.lt; simp at r3c0 r3c1 r3c2 r3c3 r3c4)
            go_round
            case rel => exact ⟨k + 1, DB, by omega, by go_num, HSB.out, HX2.out, by (exact blk), by (exact blkc), by (exact blk), by (exact kpt)⟩
            case measure => simp [intOf]; omega
          · have HX2 := Lib.hid (HPL.out.trans (HNO.out (by rw [HDE.out]; exact he)))
            rw [show doRule p bq s = DR from HDR.out, show doE p bq s = DE from HDE.out] at HX2
            have heb : (DE == 0) = false := beq_eq_false_iff_ne.2 he
            have hen : (DE != 0) = true := by simp [he]
            clear HGO HNO HPL
            go_wp2_with (go_at_call 23; (with_reducible refine (f_Do a c e d p _ (hx.later (by (exact kpt)) (Nat.le_refl _)) hc hM (hy.later (by (exact kpt)) (Nat.le_refl _)) hd hN h1 h2 bq hq0 s hk0).mono ?_); rw [HDB.out, HDE.out, HDR.out]; rintro z w5 ⟨rfl, hb5⟩; refine Blk.thru (b := w.heap.size) (arr := ?_) (t := ?_) ?_ hb5 ?_; rotate_left 2; (focus (exact blk)); intro r0; have r0c0 := r0.cell 0; have r0f0 := r0.free 0; have r0c1 := r0.cell 1; have r0f1 := r0.free 1; have r0c2 := r0.cell 2; have r0f2 := r0.free 2; have r0c3 := r0.cell 3; have r0f3 := r0.free 3; have r0c4 := r0.cell 4; have r0f4 := r0.free 4; have r0l := r0.lt; simp at r0c0 r0c1 r0c2 r0c3 r0c4; refine Blk.thru (b := (w.heap.size + 1)) (arr := ?_) (t := ?_) ?_ hb5 ?_; rotate_left 2; (focus (exact blk)); intro r1; have r1c0 := r1.cell 0; have r1f0 := r1.free 0; have r1c1 := r1.cell 1; have r1f1 := r1.free 1; have r1c2 := r1.cell 2; have r1f2 := r1.free 2; have r1c3 := r1.cell 3; have r1f3 := r1.free 3; have r1c4 := r1.cell 4; have r1f4 := r1.free 4; have r1l := r1.lt; simp at r1c0 r1c1 r1c2 r1c3 r1c4; refine Blk.thru (b := (w.heap.size + 1 + 1)) (arr := ?_) (t := ?_) ?_ hb5 ?_; rotate_left 2; (focus (exact blk)); intro r3; have r3c0 := r3.cell 0; have r3f0 := r3.free 0; have r3c1 := r3.cell 1; have r3f1 := r3.free 1; have r3c2 := r3.cell 2; have r3f2 := r3.free 2; have r3c3 := r3.cell 3; have r3f3 := r3.free 3; have r3c4 := r3.cell 4; have r3f4 := r3.free 4; have r3l := r3.lt; simp at r3c0 r3c1 r3c2 r3c3 r3c4)
            obtain rfl : X = ⟨bq, k, DR, DE⟩ := HX2.out
            exact bodyPost_ret (v := .tuple #[.agg #[.int .u8 bq.ship, .int .i64 bq.axis, .int .i64 bq.held, .bool bq.wire, .bool bq.opn], .int .i64 (k : Int), .int .i64 DR, .int .i64 DE]) (by first | (simp [results, Tryz.results32, go_sem, noBerth, r3c0, r3c1, r3c2, r3c3, r3c4, r3l]; done) | (simp [results, Tryz.results32, go_sem, noBerth, r3c0, r3c1, r3c2, r3c3, r3c4, r3l]; rfl)) rfl ⟨rfl, by (exact kpt)⟩
        · obtain rfl : ss.length = k := by omega
          obtain rfl : X = ⟨bq, 0, 0, 0⟩ := HPL.out.trans play_end
          have r0c0 := r0.cell 0
          have r0c1 := r0.cell 1
          have r0c2 := r0.cell 2
          have r0c3 := r0.cell 3
          have r0c4 := r0.cell 4
          have r0f0 := r0.free 0
          have r0f1 := r0.free 1
          have r0f2 := r0.free 2
          have r0f3 := r0.free 3
          have r0f4 := r0.free 4
          have r0l := r0.lt
          simp at r0c0 r0c1 r0c2 r0c3 r0c4
          have r1c0 := r1.cell 0
          have r1c1 := r1.cell 1
          have r1c2 := r1.cell 2
          have r1c3 := r1.cell 3
          have r1c4 := r1.cell 4
          have r1f0 := r1.free 0
          have r1f1 := r1.free 1
          have r1f2 := r1.free 2
          have r1f3 := r1.free 3
          have r1f4 := r1.free 4
          have r1l := r1.lt
          simp at r1c0 r1c1 r1c2 r1c3 r1c4
          have r3c0 := r3.cell 0
          have r3c1 := r3.cell 1
          have r3c2 := r3.cell 2
          have r3c3 := r3.cell 3
          have r3c4 := r3.cell 4
          have r3f0 := r3.free 0
          have r3f1 := r3.free 1
          have r3f2 := r3.free 2
          have r3f3 := r3.free 3
          have r3f4 := r3.free 4
          have r3l := r3.lt
          simp at r3c0 r3c1 r3c2 r3c3 r3c4
          go_wp2
          exact bodyPost_ret (v := .tuple #[.agg #[.int .u8 bq.ship, .int .i64 bq.axis, .int .i64 bq.held, .bool bq.wire, .bool bq.opn], .int .i64 0, .int .i64 0, .int .i64 0]) (by first | (simp [results, Tryz.results32, go_sem, noBerth, r3c0, r3c1, r3c2, r3c3, r3c4, r3l]; done) | (simp [results, Tryz.results32, go_sem, noBerth, r3c0, r3c1, r3c2, r3c3, r3c4, r3l]; rfl)) rfl ⟨rfl, by (exact kpt)⟩
  · obtain ⟨E, hE⟩ : ∃ E, checkBerth p b = E := ⟨_, rfl⟩
    rw [show playE p b ss = ⟨noBerth, 0, 0, E⟩ by unfold playE; rw [if_neg c1, hE]]
    have HCB := Lib.hid hE
    have hE0 : ¬ E = 0 := by rw [← hE]; exact c1
    have hEb : (E == 0) = false := beq_eq_false_iff_ne.2 hE0
    clear c1 hE
    go_enter Tryz.func32, Tryz.ntmps32
    go_wp2_with (go_at_call 24; (with_reducible refine (f_CheckBerth a c e d p _ (hx.later (by (exact kpt)) (Nat.le_refl _)) hc hM (hy.later (by (exact kpt)) (Nat.le_refl _)) hd hN h1 h2 b hs0).mono ?_); rw [HCB.out]; rintro z w1 ⟨rfl, hb1⟩; refine Blk.thru (b := w.heap.size) (arr := ?_) (t := ?_) ?_ hb1 ?_; rotate_left 2; (focus (exact blk)); intro r0; have r0c0 := r0.cell 0; have r0f0 := r0.free 0; have r0c1 := r0.cell 1; have r0f1 := r0.free 1; have r0c2 := r0.cell 2; have r0f2 := r0.free 2; have r0c3 := r0.cell 3; have r0f3 := r0.free 3; have r0c4 := r0.cell 4; have r0f4 := r0.free 4; have r0l := r0.lt; simp at r0c0 r0c1 r0c2 r0c3 r0c4; refine Blk.thru (b := (w.heap.size + 1)) (arr := ?_) (t := ?_) ?_ hb1 ?_; rotate_left 2; (focus (exact blk)); intro r1; have r1c0 := r1.cell 0; have r1f0 := r1.free 0; have r1c1 := r1.cell 1; have r1f1 := r1.free 1; have r1c2 := r1.cell 2; have r1f2 := r1.free 2; have r1c3 := r1.cell 3; have r1f3 := r1.free 3; have r1c4 := r1.cell 4; have r1f4 := r1.free 4; have r1l := r1.lt; simp at r1c0 r1c1 r1c2 r1c3 r1c4; refine Blk.thru (b := (w.heap.size + 1 + 1)) (arr := ?_) (t := ?_) ?_ hb1 ?_; rotate_left 2; (focus (exact blk)); intro r3; have r3c0 := r3.cell 0; have r3f0 := r3.free 0; have r3c1 := r3.cell 1; have r3f1 := r3.free 1; have r3c2 := r3.cell 2; have r3f2 := r3.free 2; have r3c3 := r3.cell 3; have r3f3 := r3.free 3; have r3c4 := r3.cell 4; have r3f4 := r3.free 4; have r3l := r3.lt; simp at r3c0 r3c1 r3c2 r3c3 r3c4)
    exact bodyPost_ret (v := .tuple #[.agg #[.int .u8 noBerth.ship, .int .i64 noBerth.axis, .int .i64 noBerth.held, .bool noBerth.wire, .bool noBerth.opn], .int .i64 0, .int .i64 0, .int .i64 E]) (by first | (simp [results, Tryz.results32, go_sem, noBerth, r3c0, r3c1, r3c2, r3c3, r3c4, r3l]; done) | (simp [results, Tryz.results32, go_sem, noBerth, r3c0, r3c1, r3c2, r3c3, r3c4, r3l]; rfl)) rfl ⟨rfl, by (exact kpt)⟩

end Go.Proofs.YtacbkbilbmkjnaaGreat

/-
  Twice in the program.
-/
namespace Go.Proofs.YtacbkbilbmkjnaaGreat
open Go.RowKit Go.Shelf Bal Bal.Trim Bal.Mast
set_option linter.unusedVariables false
set_option linter.unusedSimpArgs false
set_option maxHeartbeats 4000000
set_option maxRecDepth 100000
attribute [local go_sem] Oper.semAt_some

/-- what a round must leave to the iterator: what lies below B, and its two boxes -/
structure KeptB (B b0 b1 : Nat) (W W' : World) : Prop where
  below : Below B W W'
  k0 : W'.heap[b0]? = W.heap[b0]?
  k1 : W'.heap[b1]? = W.heap[b1]?
theorem KeptB.trans {B b0 b1 : Nat} {X Y Z : World} (h : KeptB B b0 b1 X Y) (k : KeptB B b0 b1 Y Z) : KeptB B b0 b1 X Z := ⟨h.below.trans k.below, k.k0.trans h.k0, k.k1.trans h.k1⟩
theorem KeptB.put {B b0 b1 : Nat} {w : World} (hB : B ≤ w.heap.size) (h0 : b0 < w.heap.size) (h1 : b1 < w.heap.size) (W : World) (l : Nat) (o o' : Obj) (hl : w.heap.size ≤ l) (h : W.heap[l]? = some o) (hc : o.isCells = false) (hw : o.isWalk = false) : KeptB B b0 b1 W (W.putObj l o') :=
  ⟨belowK_b hB W l o o' hl h hc hw, World.putObj_heap_other (by omega), World.putObj_heap_other (by omega)⟩
theorem KeptB.of_kept {B b0 b1 : Nat} {W W' : World} (h : Kept W W') (hB : B ≤ W.heap.size) (h0 : b0 < W.heap.size) (h1 : b1 < W.heap.size) : KeptB B b0 b1 W W' := ⟨h.mono hB, h.block _ h0, h.block _ h1⟩
theorem KeptB.set {B b0 b1 : Nat} {W W' : World} (h : KeptB B b0 b1 W W') {a : Addr} (hB : B ≤ a.block) (h0 : a.block ≠ b0) (h1 : a.block ≠ b1) (v : Value) : KeptB B b0 b1 W (W'.setCell a v) :=
  ⟨h.below.setCell hB v, (Below.heap_setCell _ _ _ _ (Ne.symm h0)).trans h.k0, (Below.heap_setCell _ _ _ _ (Ne.symm h1)).trans h.k1⟩

theorem f_match1K (vs : List Span) (va : Option Addr) (vc : Nat) (rs : List RowM) (ra : Option Addr) (rc : Nat) (w : World) (ht : TabAt ⟨vs, va, vc, rs, ra, rc⟩ w) (sa : Option Addr) (sc : Nat) (st : List Int) (hs : Row icell 1 w.heap.size w sa st) (hsl : st.length ≤ sc) (hsm : sc ≤ maxLen) (hr : rs.length ≤ 1000) (hE : ∀ x ∈ rs, st.length ≤ x.r.conds.length) (w' : World) (hk0 : Kept w w') (b0 b1 : Nat) (hq0 : Blk w' b0 #[.slice va vs.length vc, .slice ra rs.length rc] 68) (hq1 : Blk w' b1 #[.slice sa st.length sc] 29) (n0 : Nat) (hnw : w.heap.size ≤ n0) (m : Nat) (hm : 2 ≤ m) :
    SeqStopsK Fence.wide m Tryz.prog 107 #[.pointer (some ⟨b0, 0, none⟩), .pointer (some ⟨b1, 0, none⟩)] (fun x : Nat => #[.int .i64 (x : Int)]) (KeptB n0 b0 b1) (fun xs => xs = matchL (tbOf vs rs) st) (fun _ => True) (matchL (tbOf vs rs) st).length w' := by
  intro l J Jx W hWW hJ hJx hY h0
  have hl0 := hq0.lt
  have hl1 := hq1.lt
  have htr : Row RowM.cells 2 w.heap.size w ra rs := ht.rows
  have htv : Row Span.cells 2 w.heap.size w va vs := ht.vars
  have hvm : vc ≤ maxLen := ht.vm
  have hrm : rc ≤ maxLen := ht.rm
  have hvl : vs.length ≤ vc := ht.vl
  have hrl : rs.length ≤ rc := ht.rl
  unfold maxLen at hvm hrm
  unfold maxLen at hsm
  have hA0 := hq0.belowR hWW hl0
  have hA1 := hq1.belowR hWW hl1
  have hW : Kept w W := hk0.trans (hWW.mono hk0.size)
  have hWs := hWW.size
  have hws := hk0.size
  clear hWW hk0 hq0 hq1
  refine callsIn_of_wp Tryz.func107 rfl trivial ?_ rfl
  simp only [Tryz.ntmps107, List.size_toArray, List.length_cons, List.length_nil, Nat.reduceAdd, Nat.reduceSub, Array.replicate_succ, Array.replicate_zero, List.push_toArray, List.append_toArray, List.nil_append, List.cons_append]
  refine wpIn_scopeM ?_
  have hA0c0 := hA0.cell 0
  have hA0f0 := hA0.free 0
  have hA0c1 := hA0.cell 1
  have hA0f1 := hA0.free 1
  have hA0l := hA0.lt
  simp at hA0c0 hA0c1
  have hA1c0 := hA1.cell 0
  have hA1f0 := hA1.free 0
  have hA1l := hA1.lt
  simp at hA1c0
  gi_wp2
  refine wpIn_wide.2 (wp_label ?_)
  gi_wp2
  gi_loopw [11] (fun i wr => ∃ k : Nat, k ≤ rs.length ∧ i = .int .i64 k ∧ J (matchTo (tbOf vs rs) st k) wr ∧ Blk wr b0 #[.slice va vs.length vc, .slice ra rs.length rc] 68 ∧ Blk wr b1 #[.slice sa st.length sc] 29 ∧ Kept w wr ∧ W.heap.size ≤ wr.heap.size) (fun i _ => rs.length - (intOf i).toNat)
  case atStart => exact ⟨0, Nat.zero_le _, rfl, h0, hA0, hA1, hW, Nat.le_refl _⟩
  case round =>
    clear hA0 hA1 h0 hW hA0c0 hA0f0 hA0c1 hA0f1 hA0l hA1c0 hA1f0 hA1l
    obtain ⟨k, hk, rfl, hJ0, q0, q1, hkr, hzr⟩ := hrel
    have HJ0 := Lib.hid hJ0
    clear hJ0
    have q0c0 := q0.cell 0
    have q0f0 := q0.free 0
    have q0c1 := q0.cell 1
    have q0f1 := q0.free 1
    have q0l := q0.lt
    simp at q0c0 q0c1
    have q1c0 := q1.cell 0
    have q1f0 := q1.free 0
    have q1l := q1.lt
    simp at q1c0
    by_cases hlt : k < rs.length
    · obtain ⟨rb, ro, rfl, hrb, g0, g1⟩ := RowM.row (htr.later hkr (Nat.le_refl _)) k hlt
      have hcnd : Row Span.cells 2 w.heap.size w rs[k].ad rs[k].r.conds := ht.conds _ (List.getElem_mem hlt)
      have hce : st.length ≤ rs[k].r.conds.length := hE _ (List.getElem_mem hlt)
      have hc3 : rs[k].r.conds.length ≤ rs[k].cap := (ht.cl _ (List.getElem_mem hlt)).1
      have hc4 : rs[k].cap ≤ maxLen := (ht.cl _ (List.getElem_mem hlt)).2
      have HMS := Lib.hid (show matchTo (tbOf vs rs) st (k + 1) = matchTo (tbOf vs rs) st k ++ if hits rs[k].r.conds st then [k] else [] by rw [matchTo_succ, show matchP (tbOf vs rs) st k = hits rs[k].r.conds st by unfold matchP; simp [tbOf, hlt]])
      have HMT := Lib.hid (fun (h : hits rs[k].r.conds st = true) => matchTo_lt (d := tbOf vs rs) (st := st) (k := k) (by rw [rows_len]; exact hlt) (by rw [show matchP (tbOf vs rs) st k = hits rs[k].r.conds st by unfold matchP; simp [tbOf, hlt]]; exact h))
      obtain ⟨X, hX⟩ : ∃ X, X = rs[k] := ⟨_, rfl⟩
      rw [← hX] at g0 g1 hcnd hce hc3 hc4 HMS HMT
      clear hX
      obtain ⟨⟨cs, ac⟩, ca, cc⟩ := X
      simp only at g0 g1 hcnd hce hc3 hc4 HMS HMT
      unfold maxLen at hc4
      obtain ⟨Z, rfl⟩ : ∃ Z : World, Z = wr := ⟨_, rfl⟩
      have hb0 := q0.lt
      have hb1 := q1.lt
      gi_wp2
      gi_loopw [18] (fun s wq => ∃ j : Nat, j ≤ st.length ∧ s = .int .i64 j ∧ hits cs (st.take j) = true ∧ Blk wq Z.heap.size #[.slice ca cs.length cc, .int .i64 ac] 80 ∧ Kept Z wq) (fun s _ => st.length - (intOf s).toNat)
      case atStart => exact ⟨0, Nat.zero_le _, rfl, by cases cs <;> rfl, by (exact blk), by (exact kpt)⟩
      case round =>
        obtain ⟨j, hj, rfl, hh, rx, hkz⟩ := hrel
        have hkw := Kept.drop hkr hkz
        have rxc0 := rx.cell 0
        have rxf0 := rx.free 0
        have rxc1 := rx.cell 1
        have rxf1 := rx.free 1
        have rxl := rx.lt
        simp at rxc0 rxc1
        by_cases hjt : j < st.length
        · obtain ⟨sb, so, rfl, hsb, x0⟩ := int_row (hs.later hkw (Nat.le_refl _)) j hjt
          obtain ⟨cb, co, rfl, hcb, c0, c1⟩ := Span.row (hcnd.later hkw (Nat.le_refl _)) j (by omega)
          have HTK := Lib.hid (show hits cs (st.take (j + 1)) = inB st[j] (cs[j]'(by omega)).lo (cs[j]'(by omega)).hi by
            rw [List.take_succ_eq_append_getElem hjt, hits_snoc (by rw [List.length_take]; omega), hh]
            simp only [List.length_take, Nat.min_eq_left (Nat.le_of_lt hjt), Bool.true_and])
          obtain ⟨y, hy⟩ : ∃ x, x = st[j] := ⟨_, rfl⟩
          obtain ⟨c, hc⟩ : ∃ x, x = cs[j]'(by omega) := ⟨_, rfl⟩
          rw [← hy, ← hc] at HTK
          rw [← hy] at x0
          rw [← hc] at c0 c1
          clear hy hc hh
          have i0 : (0 : Int) ≤ (j : Int) := by omega
          have i1 : (j : Int) < (st.length : Int) := by omega
          have i2 : (j : Int) < (cs.length : Int) := by omega
          have k0 : ∀ w2, Kept wr w2 → w2.cell? ⟨Z.heap.size, 0, none⟩ = some (.slice (some ⟨cb, co, none⟩) cs.length cc) := fun w2 h => by simpa using (rx.keep h).cell 0
          have k1 : ∀ w2, Kept wr w2 → w2.cell? ⟨Z.heap.size, 1, none⟩ = some (.int .i64 ac) := fun w2 h => by simpa using (rx.keep h).cell 1
          have k2 : ∀ w2, Kept wr w2 → w2.cell? ⟨cb, co + j * 2, none⟩ = some (.int .i64 c.lo) := fun w2 h => by rw [h.cell (p := ⟨cb, co + j * 2, none⟩) hcb]; exact c0
          have k3 : ∀ w2, Kept wr w2 → w2.cell? ⟨cb, co + j * 2 + 1, none⟩ = some (.int .i64 c.hi) := fun w2 h => by rw [h.cell (p := ⟨cb, co + j * 2 + 1, none⟩) hcb]; exact c1
          have lx := rx.lt
          have hzw := hkz.size
          gi_wp2
          clear x0 c0 c1 rxc0 rxf0 rxc1 rxf1 rxl
          refine wpIn_wide.2 ?_
          cases hb : inB y c.lo c.hi
          · have HB := Lib.hid (show inB y c.lo c.hi = false from hb)
            have HF := Lib.hid (hits_fail (k := j + 1) (by rw [HTK.out]; exact hb))
            clear hb HTK
            go_region_held3 (fun w2 => Kept wr w2) (exact kpt) (first | (go_at_call 44; (with_reducible refine (f_rangedB c.lo c.hi y _ 3 _ ?_).mono ?_); (focus (first | (with_reducible refine Blk.drew (Blk.new' ?_); (first | rfl | (simp; done))) | (with_reducible refine Blk.new' ?_; (first | rfl | (simp; done))) | (exact blk))); rw [HB.out]; rintro z w2 ⟨rfl, hb2⟩) | fail)
            all_goals
              gi_wp2
              go_roundw
              case rel =>
                have hkf : Kept wr w2 := by (exact kpt)
                have hkZ : Kept Z w2 := Kept.drop hkz hkf
                exact ⟨k + 1, by omega, by go_num, by rw [HMS.out, HF.out]; simpa using abides_kept hJ HJ0.out hkZ, q0.keep hkZ, q1.keep hkZ, Kept.drop hkr hkZ, Nat.le_trans hzr hkZ.size⟩
              case measure => simp [intOf]; omega
          · have HB := Lib.hid (show inB y c.lo c.hi = true from hb)
            have HT := Lib.hid (show hits cs (st.take (j + 1)) = true by rw [HTK.out]; exact hb)
            clear hb HTK
            go_region_held3 (fun w2 => Kept wr w2) (exact kpt) (first | (go_at_call 44; (with_reducible refine (f_rangedB c.lo c.hi y _ 3 _ ?_).mono ?_); (focus (first | (with_reducible refine Blk.drew (Blk.new' ?_); (first | rfl | (simp; done))) | (with_reducible refine Blk.new' ?_; (first | rfl | (simp; done))) | (exact blk))); rw [HB.out]; rintro z w2 ⟨rfl, hb2⟩) | fail)
            all_goals
              gi_wp2
              go_roundw
              case rel =>
                have hkf : Kept wr w2 := by (exact kpt)
                exact ⟨j + 1, by omega, by go_num, HT.out, rx.keep hkf, Kept.drop hkz hkf⟩
              case measure => simp [intOf]; omega
        · obtain rfl : st.length = j := by omega
          rw [List.take_length] at hh
          obtain ⟨fn, tmps, assign, body, hy, hR⟩ := hY (matchTo (tbOf vs rs) st k) k wr (abides_kept hJ HJ0.out hkz) (HMT.out hh)
          have HR := Lib.hid hR
          have HH := Lib.hid hh
          have q0z := q0.keep hkz
          have q1z := q1.keep hkz
          clear hR hh
          gi_wp2
          first | refine HR.out.mono ?_ | refine ⟨fun _ => by omega, HR.out.mono ?_⟩
          clear hy
          rintro e W3 (⟨rfl, hJ3, hk3⟩ | ⟨rfl, hJx3⟩)
          · gi_wp2
            go_roundw
            case rel => exact ⟨k + 1, by omega, by go_num, by rw [HMS.out, HH.out]; exact hJ3, hk3.k0.trans q0z, hk3.k1.trans q1z, hkw.trans (hk3.below.mono hnw), Nat.le_trans hzr (Nat.le_trans hkz.size hk3.below.size)⟩
            case measure => simp [intOf]; omega
          · gi_wp2
            simp only [Exit.noGoto]
            refine bodyPost_ret (results_none rfl _ _ _) rfl ⟨⟨_, rfl⟩, .inr ⟨_, trivial, hJx3⟩⟩
    · obtain rfl : rs.length = k := by omega
      gi_wp2
      simp only [Exit.noGoto]
      go_end0
      exact ⟨⟨_, rfl⟩, .inl ⟨_, rfl, by have := HJ0.out; unfold matchL; rw [rows_len]; exact this⟩⟩


theorem f_firstE (vs : List Span) (va : Option Addr) (vc : Nat) (rs : List RowM) (ra : Option Addr) (rc : Nat) (hv : validB (tbOf vs rs) = true) (W : List Nat → Bool) (F : FuncId) (hF : Asks W F) (r : Option (List Int)) (hr : firstP (tbOf vs rs) W vs.length [] = r) (w : World) (ht : TabAt ⟨vs, va, vc, rs, ra, rc⟩ w) :
    Calls Tryz.prog 72 #[.agg #[.slice va vs.length vc, .slice ra rs.length rc], .slice none 0 0, .func (.func F) #[] #[]] w fun z w' => ∃ (a : Option Addr) (c : Nat), z = .returned (.slice a (outS r).length c) ∧ Row icell 1 w'.heap.size w' a (outS r) ∧ (outS r).length ≤ c ∧ c ≤ maxLen ∧ ((r = none ∧ a = none ∧ c = 0) ∨ (r.isSome = true ∧ a.isNone = false)) ∧ Kept w w' := by
  subst hr
  refine Calls.mono (f_first vs va vc rs ra rc hv W F hF vs.length w ht none 0 [] Row.nil (Nat.le_refl _) (Nat.zero_le _) (fun _ => rfl) (by simp)) ?_
  rintro z w' ⟨⟨a, c, rfl, h1, h2, h3, h4⟩, hb⟩
  exact ⟨a, c, rfl, h1, h2, h3, h4, hb⟩

theorem f_Twice (vs : List Span) (va : Option Addr) (vc : Nat) (rs : List RowM) (ra : Option Addr) (rc : Nat) (w : World) (ht : TabAt ⟨vs, va, vc, rs, ra, rc⟩ w) (hvl5 : vs.length ≤ 1000000) (hrl5 : rs.length ≤ 1000000) (hcl5 : ∀ x ∈ rs, x.r.conds.length ≤ 1000000) :
    Calls Tryz.prog 30 #[.agg #[.slice va vs.length vc, .slice ra rs.length rc]] w fun z w' => ∃ (a : Option Addr) (c : Nat) (s : List Int) (E i k : Int), TwRes (tbOf vs rs) E s i k ∧ z = .returned (.tuple #[.slice a s.length c, .int .i64 i, .int .i64 k, .int .i64 E]) ∧ Row icell 1 w'.heap.size w' a s ∧ s.length ≤ c ∧ c ≤ maxLen ∧ Kept w w' := by
  have htv : Row Span.cells 2 w.heap.size w va vs := ht.vars
  have hvm : vc ≤ maxLen := ht.vm
  have hrm : rc ≤ maxLen := ht.rm
  have hvl : vs.length ≤ vc := ht.vl
  have hrl : rs.length ≤ rc := ht.rl
  unfold maxLen at hvm hrm
  cases hv : validB (tbOf vs rs)
  · have HCK := Lib.hid (bad_check hv)
    have HV := Lib.hid hv
    clear hv
    go_enter Tryz.func30, Tryz.ntmps30
    go_wp2_with (go_at_call 26; (with_reducible refine (f_CheckRows vs va vc rs ra rc _ (ht.later (by (exact kpt))) hvl5 hrl5 hcl5).mono ?_); rw [HCK.out]; rintro z w1 ⟨rfl, hb1⟩; refine Blk.thru (b := w.heap.size) (arr := ?_) (t := ?_) ?_ hb1 ?_; rotate_left 2; (focus (exact blk)); intro r0; have r0c0 := r0.cell 0; have r0f0 := r0.free 0; have r0c1 := r0.cell 1; have r0f1 := r0.free 1; have r0l := r0.lt; simp at r0c0 r0c1)
    exact bodyPost_ret (v := .tuple #[.slice none 0 0, .int .i64 0, .int .i64 0, .int .i64 76]) (by simp [results, Tryz.results30, go_sem]) rfl ⟨none, 0, [], 76, 0, 0, .inl ⟨HV.out, rfl, rfl, rfl, rfl⟩, rfl, Row.nil, Nat.le_refl _, Nat.zero_le _, by (exact kpt)⟩
  · have HCK := Lib.hid (good_check hv)
    have hext := firstP_ext (valid_even hv) (valid_le hv) W2 vs.length [] (by show 0 + vs.length = vs.length; omega) (by show hits vs [] = true; cases vs <;> rfl)
    obtain ⟨q1, q2, q3, q4⟩ := valid_parts.1 hv
    have hn := inB_iff.1 q1
    rw [show (tbOf vs rs).vars = vs from rfl] at hn
    rw [rows_len] at q2
    have hr : rs.length ≤ 1000 := by omega
    have hn3 : 1 ≤ vs.length ∧ vs.length ≤ 3 := by omega
    have hce : ∀ x ∈ rs, x.r.conds.length = vs.length := fun x hx => (q4 x.r (mem_rowsT hx)).1
    have HV := Lib.hid hv
    obtain ⟨R, hR⟩ : ∃ R, R = firstP (tbOf vs rs) W2 vs.length [] := ⟨_, rfl⟩
    rw [← hR] at hext
    have HRR := Lib.hid hR.symm
    clear hR
    cases R with
    | none =>
      have HF := Lib.hid hext
      clear q1 q2 q3 q4 hn hv hce hext
      go_enter Tryz.func30, Tryz.ntmps30
      go_upto_region 5 with (first | (go_at_call 26; (with_reducible refine (f_CheckRows vs va vc rs ra rc _ (ht.later (by (exact kpt))) hvl5 hrl5 hcl5).mono ?_); rw [HCK.out]; rintro z w1 ⟨rfl, hb1⟩; refine Blk.thru (b := w.heap.size) (arr := ?_) (t := ?_) ?_ hb1 ?_; rotate_left 2; (focus (exact blk)); intro r0; have r0c0 := r0.cell 0; have r0f0 := r0.free 0; have r0c1 := r0.cell 1; have r0f1 := r0.free 1; have r0l := r0.lt; simp at r0c0 r0c1) | (go_at_call 72; (with_reducible refine (f_firstE vs va vc rs ra rc HV.out W2 _ asks2 none HRR.out _ (ht.later (by (exact kpt)))).mono ?_); rintro z w2 ⟨a2, c2, rfl, hr2, hc2, hm2, hcase, hb2⟩; refine Blk.thru (b := w.heap.size) (arr := ?_) (t := ?_) ?_ hb2 ?_; rotate_left 2; (focus (exact blk)); intro r0; have r0c0 := r0.cell 0; have r0f0 := r0.free 0; have r0c1 := r0.cell 1; have r0f1 := r0.free 1; have r0l := r0.lt; simp at r0c0 r0c1))
      obtain ⟨rfl, rfl⟩ : a2 = none ∧ c2 = 0 := by
        rcases hcase with h | ⟨h, _⟩
        · exact h.2
        · cases h
      have hs0 : ∀ w, (binOp .eql 29 (.slice none 0 0) (.slice none 0 0)).run Tryz.prog w = .ok (.bool true) w := fun w => Lib.run_eql_slice_nil w _ _ _ _ _ _ _ Tryz.underlying29
      simp only [outS, Option.getD_none, List.length_nil]
      clear hcase
      go_wp2
      exact bodyPost_ret (v := .tuple #[.slice none 0 0, .int .i64 0, .int .i64 0, .int .i64 6]) (by simp [results, Tryz.results30, go_sem]) rfl ⟨none, 0, [], 6, 0, 0, .inr ⟨HV.out, none, HF.out, rfl, rfl, rfl, rfl⟩, rfl, Row.nil, Nat.le_refl _, Nat.zero_le _, by (exact kpt)⟩
    | some s =>
      have hsl : s.length = vs.length := hext.1.1
      have hw2 : 1 < (matchL (tbOf vs rs) s).length := of_decide_eq_true hext.2.2.1
      have hmf := match_few (d := tbOf vs rs) s
      rw [rows_len] at hmf
      have HCS := Lib.hid (fun x hx => by rw [hce x hx]; omega : ∀ x ∈ rs, s.length ≤ x.r.conds.length)
      obtain ⟨i, hi⟩ : ∃ z, z = (natsI (matchL (tbOf vs rs) s))[0]'(by rw [natsI_len]; omega) := ⟨_, rfl⟩
      obtain ⟨k, hk⟩ : ∃ z, z = (natsI (matchL (tbOf vs rs) s))[1]'(by rw [natsI_len]; omega) := ⟨_, rfl⟩
      have HTW := Lib.hid (show TwRes (tbOf vs rs) 0 s i k from .inr ⟨HV.out, some s, hext, rfl, rfl, by rw [hi]; simp [natsI_len, show 0 < (matchL (tbOf vs rs) s).length by omega], by rw [hk]; simp [natsI_len, hw2]⟩)
      have HI := Lib.hid hi
      have HK1 := Lib.hid hk
      clear hext hi hk hsl hce q1 q2 q3 q4 hn hv
      refine (callsIn_wide (n := 6)).1 ?_
      refine callsIn_of_wp_marks Tryz.func30 rfl trivial ?_ rfl
      simp only [Tryz.ntmps30, List.size_toArray, List.length_cons, List.length_nil, Nat.reduceAdd, Nat.reduceSub, Array.replicate_succ, Array.replicate_zero, List.push_toArray, List.append_toArray, List.nil_append, List.cons_append]
      gi_wp2_with (first | (refine ⟨trivial, ?_⟩; gi_at_call 26; (refine (callsIn_wide.2 (f_CheckRows vs va vc rs ra rc _ (ht.later (by (exact kpt))) hvl5 hrl5 hcl5)).mono ?_); rw [HCK.out]; rintro z w1 ⟨rfl, hb1⟩; refine Blk.thru (b := w.heap.size) (arr := ?_) (t := ?_) ?_ hb1 ?_; rotate_left 2; (focus (exact blk)); intro r0; have r0c0 := r0.cell 0; have r0f0 := r0.free 0; have r0c1 := r0.cell 1; have r0f1 := r0.free 1; have r0l := r0.lt; simp at r0c0 r0c1) | (refine ⟨trivial, ?_⟩; gi_at_call 72; (refine (callsIn_wide.2 (f_firstE vs va vc rs ra rc HV.out W2 _ asks2 (some s) HRR.out _ (ht.later (by (exact kpt))))).mono ?_); rintro z w2 ⟨a2, c2, rfl, hr2, hc2, hm2, hcase, hb2⟩; refine Blk.thru (b := w.heap.size) (arr := ?_) (t := ?_) ?_ hb2 ?_; rotate_left 2; (focus (exact blk)); intro r0; have r0c0 := r0.cell 0; have r0f0 := r0.free 0; have r0c1 := r0.cell 1; have r0f1 := r0.free 1; have r0l := r0.lt; simp at r0c0 r0c1; simp only [outS, Option.getD_some] at hr2 hc2 ⊢; have h7 : a2.isNone = false := (by rcases hcase with h | h; exact absurd h.1 (by simp); exact h.2); have hs0 : ∀ w, (binOp .eql 29 (.slice a2 s.length c2) (.slice none 0 0)).run Tryz.prog w = .ok (.bool false) w := (fun w => by rw [Lib.run_eql_slice_nil w _ _ _ _ _ _ _ Tryz.underlying29, h7])) | (refine ⟨trivial, ?_⟩; gi_at_call 71; (refine (callsIn_wide.2 (f_matching vs va vc rs ra rc _ (ht.later (by (exact kpt))) a2 c2 s)).mono ?_); rintro z w4 ⟨rfl, rfl⟩))
      refine at_worldR (S := fun V => Boxed V w2.heap.size 29 (.slice none 0 0) ∧ Blk V (w2.heap.size + 1) #[.slice va vs.length vc, .slice ra rs.length rc] 68 ∧ Blk V (w2.heap.size + 1 + 1) #[.slice a2 s.length c2] 29 ∧ Kept w2 V) ⟨((Boxed.new _ _ _).alloc _).alloc _, by (exact blk), by (exact blk), by (exact kpt)⟩ ?_
      rintro V ⟨hbV, q0V, q1V, hkV⟩
      have hVs := hkV.size
      have h0l := q0V.lt
      have h1l := q1V.lt
      have hrr := hr
      have hk2 : Kept w w2 := by (exact kpt)
      clear r0 r0c0 r0f0 r0c1 r0f1 r0l hb1 hb2
      refine wpIn_rangeFunc_ownH (gf := 107) (lb := #[.pointer (some ⟨w2.heap.size + 1, 0, none⟩), .pointer (some ⟨w2.heap.size + 1 + 1, 0, none⟩)]) rfl (by omega) rfl trivial (enters_of Tryz.func107 (by kernel_rfl) rfl)
        (f_match1K vs va vc rs ra rc w2 (ht.later hk2) a2 c2 s hr2 hc2 hm2 hr HCS.out V hkV (w2.heap.size + 1) (w2.heap.size + 1 + 1) q0V q1V w2.heap.size (Nat.le_refl _) 5 (by omega)) KeptB.trans (KeptB.put hVs h0l h1l) (Below.refl _ _) (fun _ => rfl)
        (fun pre W => (∃ v, Boxed W w2.heap.size 29 v ∧ W.ownsRow w2.heap.size 3 1 v (pre).length ((natsI (pre)).flatMap icell) ∧ True) ∧ (Blk W (w2.heap.size + 1) #[.slice va vs.length vc, .slice ra rs.length rc] 68 ∧ Blk W (w2.heap.size + 1 + 1) #[.slice a2 s.length c2] 29) ∧ Kept w2 W ∧ V.heap.size ≤ W.heap.size)
        (fun _ _ _ => False)
        (OwnFrom.and ((holdsRow_own _ _ _ _ _ _ _ _).from _) (OwnFrom.and (OwnFrom.and (blk_from _ _ _ _) (blk_from _ _ _ _)) (OwnFrom.and (ownFrom_below (Nat.le_refl _) hkV.size) (fun _ _ _ _ hs hg _ => Nat.le_trans hs hg.size))))
        (fun _ _ _ _ _ hs _ _ => hs)
        ⟨⟨_, hbV, owns_nil (α := Int) (enc := icell), trivial⟩, ⟨q0V, q1V⟩, hkV, Nat.le_refl _⟩
        (fun x a' W => a' = { tmps := #[.agg #[.slice va vs.length vc, .slice ra rs.length rc], .pointer (some ⟨w.heap.size, 0, none⟩), .slice none 0 0, .int .i64 0, .int .i64 0, .int .i64 0, .int .i64 0, .slice a2 s.length c2, .pointer (some ⟨w2.heap.size, 0, none⟩), .int .i64 (x : Int), .agg #[.slice va vs.length vc, .slice ra rs.length rc], .int .i64 0, .int .i64 0, .bool false, undef, .agg #[.slice va vs.length vc, .slice ra rs.length rc], .slice a2 s.length c2, .slice a2 s.length c2, .bool false, .agg #[.slice va vs.length vc, .slice ra rs.length rc], .slice a2 s.length c2, .func (.func 107) #[] #[.pointer (some ⟨w2.heap.size + 1, 0, none⟩), .pointer (some ⟨w2.heap.size + 1 + 1, 0, none⟩)], .int .i64 (x : Int), undef, undef, undef, undef, undef, undef, undef, undef, undef, undef, undef], defers := [] })
        (fun x a' _ X Y row hs hg hr => hs)
        ?assign ?body ?done ?stop
      case assign =>
        rintro l pre x W K ⟨hL, hbb, hkw, hsz⟩ hK
        gi_wp2
        exact hK _ _ (keepsFrom_kept (Below.refl _ _) _) (KeptB.of_kept (Below.refl _ _) (by omega) (by omega) (by omega)) ⟨hL, hbb, hkw, hsz⟩ rfl
      case body =>
        rintro l pre x a' W hl _ ⟨⟨v, hbx, hown, -⟩, ⟨q0, q1⟩, hkw, hsz⟩ rfl hlen
        have hsW := hkw.size
        have hpl : pre.length ≤ 1000 := by omega
        have x0 := hbx.cell
        have x1 := hbx.frozen
        have x2 := hbx.lt
        have hown : W.ownsRow w2.heap.size 3 1 v pre.length ((natsI pre).flatMap icell) := hown
        gi_wp2_with (gi_at_builtin; obtain ⟨i0, hi, hz0, hz1, hz2⟩ := info_parts infoIntM; refine wpListIn_append_own _ rfl _ _ 29 rfl (w2.heap.size) 3 i0 (.int .i64 0) 1 8 Tryz.underlying29 hi hz0 hz1 hz2 rfl (by decide) _ _ _ rfl (hown.alloc _) ⟨_, 0, none⟩ 1 1 [.int .i64 (x : Int)] rfl rfl (cell_one_at (by simp) _ _) (fun x hx => by simp at hx; subst hx; rfl) (by unfold maxLen; omega) (by omega) (by simp only [World.size_alloc]; omega) ?_; intro v9 w9 hown9 hgrow9 hnil9; clear hi hz0 hz1 hz2; obtain ⟨g9, c9, rfl⟩ := ownsRow_succ hown9; obtain ⟨B1, B2, B3, B4, B5⟩ := Boxed.appended (n₀ := w2.heap.size) hbx (by decide) hown hsW (Nat.le_refl _) hown9 hgrow9; have z0 := Blk.other ((q0.alloc _).grown (hown.alloc _) (by decide) hgrow9) (a := ⟨w2.heap.size, 0, none⟩) (by first | (simp; done) | (simp; omega)) (.slice (some ⟨g9, 0, none⟩) (pre.length + 1) c9); have z1 := Blk.other ((q1.alloc _).grown (hown.alloc _) (by decide) hgrow9) (a := ⟨w2.heap.size, 0, none⟩) (by first | (simp; done) | (simp; omega)) (.slice (some ⟨g9, 0, none⟩) (pre.length + 1) c9); have y0 := B1.cell; have y1 := B1.frozen; have y2 := B1.lt)
        refine ⟨B4.from _, ⟨B5, z0.trans q0.symm, z1.trans q1.symm⟩, ⟨_, B2, ?_, trivial⟩, ⟨z0, z1⟩, hkw.trans B5, ?_⟩
        · rw [natsI_snoc, List.flatMap_append, List.length_append]; exact B3
        · have h9 := hgrow9.size
          simp only [World.size_alloc] at h9
          have e9 : ∀ (a : Addr) (u : Value), (w9.setCell a u).heap.size = w9.heap.size := fun a u => by simp [World.setCell]
          rw [e9]
          omega
      case done =>
        rintro Dd ys X hD rfl ⟨⟨v, hbx, hown, -⟩, ⟨q0, q1⟩, hkw, hsz⟩ hK
        obtain ⟨ad5, cp5, rfl, hrw5, hcp5, hcm5⟩ := owns_row (enc := icell) (k := 1) (xs := natsI (matchL (tbOf vs rs) s)) (fun _ => rfl) (by rw [natsI_len]; exact hown)
        have x0 := hbx.cell
        have x1 := hbx.frozen
        have x2 := hbx.lt
        obtain ⟨b5, o5, rfl, hbl5, c0⟩ := int_row hrw5 0 (by rw [natsI_len]; omega)
        obtain ⟨b6, o6, e6, hbl6, c1⟩ := int_row hrw5 1 (by rw [natsI_len]; omega)
        simp only [Option.some.injEq, Addr.mk.injEq, and_true] at e6
        obtain ⟨rfl, rfl⟩ := e6
        rw [← HI.out] at c0
        rw [← HK1.out] at c1
        simp only [natsI_len] at x0
        simp only [Nat.add_zero] at c0
        have l1 : (0 : Int) < ((matchL (tbOf vs rs) s).length : Int) := by omega
        have l2 : (1 : Int) < ((matchL (tbOf vs rs) s).length : Int) := by omega
        have HK := Lib.hid hK
        clear hK hrw5 hown
        gi_wp2
        refine wpIn_wide.2 ?_
        go_region
        all_goals
          gi_wp2
          refine leaves_marks (B := w2.heap.size) (fun W => Kept w2 W) (ownFrom_below (β := Unit) (Nat.le_refl _) (Nat.le_refl _)) ?_ [Dd] _ ⟨by simp, fun E hE => ?_⟩ (by (exact kpt))
          · intro W5 hk5
            exact ⟨_, by simp [results, Tryz.results30, go_sem], a2, c2, s, 0, i, k, HTW.out, rfl, hr2.later hk5 (Nat.le_refl _), hc2, hm2, Kept.drop hk2 hk5⟩
          · obtain rfl : E = Dd := by simpa using hE
            exact ⟨by omega, HK.out⟩
      case stop =>
        rintro D c pre W _ _ h _
        exact h.elim

end Go.Proofs.YtacbkbilbmkjnaaGreat

/-
  An argument that is a struct of numbers, opened. No program in sight.
-/
namespace Bal
open Go Go.RowKit Go.WideShapes
section
variable {H : Type} {enc : TypeId × Value → H} {P : Program} {w : World} {base : Nat} {spare : Nat → Bool} {held : Bool}
theorem open_agg {α : Type} {enc' : α → List Value} {wf : α → Prop} {ls : List Leaf} (hdec : ∀ cs, LeavesOk ls cs → ∃ x : α, cs = enc' x ∧ wf x) {t : TypeId} {fs : Array Field} {n : Nat} {v : Value} {d : DataW H} {ps : List MemPlace} {r : Reach} {b0 : Nat}
    (ht : P.underlying t = some (.struct fs)) (hls : leaves P n t = some ls) (hval : Value.okWide P w r b0 t v) (hd : DataW.Trod enc P w base spare held t v d ps) :
    ∃ x : α, v = .agg (enc' x).toArray ∧ wf x := by
  obtain ⟨cs, rfl, _⟩ := okWide_struct ht hval
  obtain ⟨fuel, hf⟩ := hd
  obtain ⟨x, e, hw⟩ := hdec _ (leaves_ok n _ _ _ _ _ hls hf)
  refine ⟨x, ?_, hw⟩
  rw [← e]
  simp [Value.cells]
end
end Bal

/-
  A port that came in, opened: its axes, its pulls, its numbers.
-/
namespace Go.Proofs.YtacbkbilbmkjnaaGreat
open Go.RowKit Go.ChangeShapes Go.WideShapes Go.ChangeAt Bal Bal.Trim Bal.Mast
set_option linter.unusedVariables false
set_option maxRecDepth 100000
theorem trod_field {H : Type} {enc : TypeId × Value → H} {P : Program} {w : World} {base fuel : Nat} {spare : Nat → Bool} {held : Bool} {fs : Array Field} {cs : List Value} {xs : List (DataW H × List MemPlace)} (hxl : xs.length = fs.size)
    (hg : ∀ (i : Nat) (f : Field), fs[i]? = some f → DataW.trod enc P w base spare held fuel f.type ((cs.drop f.offset).take (P.cellsOf f.type)) = xs[i]?) (i : Nat) (f : Field) (hi : fs[i]? = some f) :
    ∃ x, DataW.trod enc P w base spare held fuel f.type ((cs.drop f.offset).take (P.cellsOf f.type)) = some x := by
  have hlt : i < fs.size := (Array.getElem?_eq_some_iff.1 hi).1
  refine ⟨xs[i]'(by omega), ?_⟩
  rw [hg i f hi]
  exact List.getElem?_eq_getElem (by omega)
theorem open_port {H : Type} {enc : TypeId × Value → H} {w : World} {base : Nat} {spare : Nat → Bool} {held : Bool} {v : Value} {d : DataW H} {ps : List MemPlace} {r : Reach} {b0 : Nat}
    (hval : Value.okWide Tryz.prog w r b0 25 v) (hd : DataW.Trod enc Tryz.prog w base spare held 25 v d ps) :
    ∃ (a : Option Addr) (c : Nat) (xs : List Axis) (pe mo : Int) (b : Option Addr) (e : Nat) (ys : List Span) (cr : Int), v = .agg #[.slice a xs.length c, .int .i64 pe, .int .i64 mo, .slice b ys.length e, .int .i64 cr] ∧
      Row Axis.cells 2 w.heap.size w a xs ∧ xs.length ≤ c ∧ c ≤ maxLen ∧ (a = none → c = 0) ∧ Row Span.cells 2 w.heap.size w b ys ∧ ys.length ≤ e ∧ e ≤ maxLen ∧ (b = none → e = 0) := by
  obtain ⟨cs, rfl, hsz⟩ := okWide_struct Tryz.underlying25 hval
  obtain ⟨fuel, hf⟩ := hd
  obtain ⟨zs, n, _, _, hcl, hxl, hg⟩ := DataW.trod_struct Tryz.underlying25 hf
  have hc5 : Tryz.prog.cellsOf 25 = 5 := by kernel_rfl
  have k1 : Tryz.prog.cellsOf 3 = 1 := by kernel_rfl
  have k2 : Tryz.prog.cellsOf 22 = 1 := by kernel_rfl
  have k3 : Tryz.prog.cellsOf 23 = 1 := by kernel_rfl
  obtain ⟨x0, h0⟩ := trod_field hxl hg 0 _ rfl
  obtain ⟨x1, h1⟩ := trod_field hxl hg 1 _ rfl
  obtain ⟨x2, h2⟩ := trod_field hxl hg 2 _ rfl
  obtain ⟨x3, h3⟩ := trod_field hxl hg 3 _ rfl
  obtain ⟨x4, h4⟩ := trod_field hxl hg 4 _ rfl
  have g0 : DataW.trod enc Tryz.prog w base spare held n 22 (((Value.agg cs).cells.toList.drop 0).take (Tryz.prog.cellsOf 22)) = some x0 := h0
  have g1 : DataW.trod enc Tryz.prog w base spare held n 3 (((Value.agg cs).cells.toList.drop 1).take (Tryz.prog.cellsOf 3)) = some x1 := h1
  have g2 : DataW.trod enc Tryz.prog w base spare held n 3 (((Value.agg cs).cells.toList.drop 2).take (Tryz.prog.cellsOf 3)) = some x2 := h2
  have g3 : DataW.trod enc Tryz.prog w base spare held n 23 (((Value.agg cs).cells.toList.drop 3).take (Tryz.prog.cellsOf 23)) = some x3 := h3
  have g4 : DataW.trod enc Tryz.prog w base spare held n 3 (((Value.agg cs).cells.toList.drop 4).take (Tryz.prog.cellsOf 3)) = some x4 := h4
  clear h0 h1 h2 h3 h4
  rw [k2] at g0
  rw [k1] at g1 g2 g4
  rw [k3] at g3
  obtain ⟨a, c, xs, e0, hl0, hm0, row0, _, z0⟩ := open_typed (n := 4) (fun _ h => Axis.of_leaves h) Tryz.underlying22 (by kernel_rfl) (by kernel_rfl) (by decide) g0
  obtain ⟨b, e, ys, e3, hl3, hm3, row3, _, z3⟩ := open_typed (n := 4) (fun _ h => Span.of_leaves h) Tryz.underlying23 (by kernel_rfl) (by kernel_rfl) (by decide) g3
  obtain ⟨q1, e1, _, _⟩ := DataW.trod_int Tryz.underlying3 g1
  obtain ⟨q2, e2, _, _⟩ := DataW.trod_int Tryz.underlying3 g2
  obtain ⟨q4, e4, _, _⟩ := DataW.trod_int Tryz.underlying3 g4
  refine ⟨a, c, xs, q1, q2, b, e, ys, q4, ?_, row0, hl0, hm0, z0, row3, hl3, hm3, z3⟩
  obtain ⟨l⟩ := cs
  rw [hc5] at hsz
  match l, hsz with
  | [c0, c1, c2, c3, c4], _ =>
    simp [Value.cells] at e0 e1 e2 e3 e4
    simp [e0, e1, e2, e3, e4]
end Go.Proofs.YtacbkbilbmkjnaaGreat

/-
  Decision tables that came in, opened.
-/
namespace Go.Proofs.YtacbkbilbmkjnaaGreat
open Go.RowKit Go.ChangeShapes Go.WideShapes Go.ChangeAt Bal Bal.Trim Bal.Mast
set_option linter.unusedVariables false
set_option maxRecDepth 100000

theorem trod_fieldH {H : Type} {enc : TypeId × Value → H} {P : Program} {w : World} {base fuel : Nat} {spare : Nat → Bool} {held : Bool} {fs : Array Field} {cs : List Value} {xs : List (DataW H × List MemPlace)} (hxl : xs.length = fs.size)
    (hg : ∀ (i : Nat) (f : Field), fs[i]? = some f → DataW.trod enc P w base spare held fuel f.type ((cs.drop f.offset).take (P.cellsOf f.type)) = xs[i]?) (i : Nat) (f : Field) (hi : fs[i]? = some f) :
    ∃ x, DataW.trod enc P w base spare held fuel f.type ((cs.drop f.offset).take (P.cellsOf f.type)) = some x := by
  have hlt : i < fs.size := (Array.getElem?_eq_some_iff.1 hi).1
  refine ⟨xs[i]'(by omega), ?_⟩
  rw [hg i f hi]
  exact List.getElem?_eq_getElem (by omega)
/-- a slice whose elements are known by what their reading shows -/
theorem open_rows {H : Type} {enc : TypeId × Value → H} {P : Program} {w : World} {base fuel : Nat} {spare : Nat → Bool} {held : Bool} {t e : TypeId} {cs : List Value} {x : DataW H × List MemPlace} {ok : List Value → Prop} {k : Nat}
    (hok : ∀ q cs x, DataW.trod enc P w base spare held q e cs = some x → ok cs) (hlen : ∀ cs, ok cs → cs.length = k) (ht : P.underlying t = some (.slice e)) (hk : P.cellsOf e = k) (hne : 0 < k)
    (h : DataW.trod enc P w base spare held fuel t cs = some x) :
    ∃ (a : Option Addr) (cap : Nat) (xs : List (List Value)), cs = [.slice a xs.length cap] ∧ xs.length ≤ cap ∧ cap ≤ maxLen ∧ Row id k w.heap.size w a xs ∧ (∀ x ∈ xs, ok x) ∧ (a = none → cap = 0) := by
  rcases Go.Deep.open_slice ht h with ⟨rfl, _⟩ | ⟨a, len, cap, m, q, D, Pl, rfl, hb, hl, hm, hmm, _, hi⟩
  · exact ⟨none, 0, [], rfl, by simp, by simp [maxLen], Row.nil, by simp, fun _ => rfl⟩
  · have hlm : len ≤ m := by subst hmm; split <;> omega
    obtain ⟨f, hf⟩ := Go.Deep.choose_lt (n := len) (p := fun i cs' => w.cells? base (a.add (i * P.cellsOf e)) (P.cellsOf e) = some cs' ∧ DataW.trod enc P w base spare held q e cs' = some (D i, Pl i)) (fun i hil => hi i (by omega))
    have hfl : ∀ i, i < len → (f i).length = k := fun i hil => hlen _ (hok _ _ _ (hf i hil).2)
    refine ⟨some a, cap, (List.range len).map f, by simp, by simpa using hl, hm, ?_, ?_, by simp⟩
    · intro i y hy
      have hil : i < len := by
        have := (List.getElem?_eq_some_iff.1 hy).1
        simpa using this
      simp [hil] at hy
      subst hy
      have hsp : a.spot = none := by
        obtain ⟨hc, ht'⟩ := hf 0 (by omega)
        have hl0 := hfl 0 (by omega)
        obtain ⟨_, hcl, hat⟩ := World.cells?_some hc
        have h1 := hat 0 (by omega)
        have hv : (f 0)[0]? = some ((f 0)[0]'(by omega)) := List.getElem?_eq_getElem (by omega)
        rw [hv] at h1
        have := World.cell?_spot h1
        simpa [Addr.add] using this
      obtain ⟨ab, ao, asp⟩ := a
      simp at hsp
      subst hsp
      obtain ⟨hc, ht'⟩ := hf i hil
      have hli := hfl i hil
      obtain ⟨_, hcl, hat⟩ := World.cells?_some hc
      have hat' : ∀ j, j < k → w.cell? ⟨ab, ao + i * k + j, none⟩ = (f i)[j]? := by
        intro j hj
        have h1 := hat j (by omega)
        rw [Go.Deep.add_add, hk] at h1
        rw [← h1]
        congr 1
        unfold Addr.add
        split
        · rename_i h0
          have h3 : ao + i * k + j = ao := by omega
          rw [h3]
        · simp [Nat.add_assoc]
      refine ⟨ab, ao, rfl, ?_, fun j v hj => ?_⟩
      · have h0 := hat' 0 hne
        have hv : (f i)[0]? = some ((f i)[0]'(by omega)) := List.getElem?_eq_getElem (by omega)
        rw [hv] at h0
        rcases Nat.lt_or_ge ab w.heap.size with h' | h'
        · exact h'
        · simp [World.cell?, Array.getElem?_eq_none h'] at h0
      · have hjl : j < (f i).length := (List.getElem?_eq_some_iff.1 hj).1
        rw [hat' j (by omega)]
        exact hj
    · intro y hy
      simp at hy
      obtain ⟨i, hil, rfl⟩ := hy
      exact hok _ _ _ (hf i hil).2
theorem decodeH {α : Type} {enc : α → List Value} {ok : List Value → Prop} {wf : α → Prop} (hdec : ∀ cs, ok cs → ∃ x : α, cs = enc x ∧ wf x) : ∀ (xs : List (List Value)), (∀ x ∈ xs, ok x) → ∃ ys : List α, xs = ys.map enc ∧ ∀ y ∈ ys, wf y
  | [], _ => ⟨[], rfl, by simp⟩
  | c :: cs, h => by
    obtain ⟨y, rfl, hy⟩ := hdec c (h c (by simp))
    obtain ⟨ys, rfl, hys⟩ := decodeH hdec cs (fun x hx => h x (by simp [hx]))
    exact ⟨y :: ys, rfl, by simpa using ⟨hy, hys⟩⟩

theorem Row.of_mapM {α : Type} {enc : α → List Value} {k B : Nat} {w : World} {a : Option Addr} {xs : List α} (h : Row id k B w a (xs.map enc)) : Row enc k B w a xs := by
  intro i x hx
  obtain ⟨b, off, h1, h2, h3⟩ := h i (enc x) (by simp [hx])
  exact ⟨b, off, h1, h2, h3⟩
def RowOk (w : World) (x : RowM) : Prop := Row Span.cells 2 w.heap.size w x.ad x.r.conds ∧ x.r.conds.length ≤ x.cap ∧ x.cap ≤ maxLen
theorem open_rowM {H : Type} {enc : TypeId × Value → H} {w : World} {base fuel : Nat} {spare : Nat → Bool} {held : Bool} {cs : List Value} {x : DataW H × List MemPlace} (h : DataW.trod enc Tryz.prog w base spare held fuel 80 cs = some x) :
    ∃ g : RowM, cs = g.cells ∧ RowOk w g := by
  obtain ⟨zs, n, _, _, hcl, hxl, hg⟩ := DataW.trod_struct Tryz.underlying80 h
  have k1 : Tryz.prog.cellsOf 3 = 1 := by kernel_rfl
  have k2 : Tryz.prog.cellsOf 23 = 1 := by kernel_rfl
  have k6 : Tryz.prog.cellsOf 80 = 2 := by kernel_rfl
  obtain ⟨x0, h0⟩ := trod_fieldH hxl hg 0 _ rfl
  obtain ⟨x1, h1⟩ := trod_fieldH hxl hg 1 _ rfl
  have g0 : DataW.trod enc Tryz.prog w base spare held n 23 ((cs.drop 0).take (Tryz.prog.cellsOf 23)) = some x0 := h0
  have g1 : DataW.trod enc Tryz.prog w base spare held n 3 ((cs.drop 1).take (Tryz.prog.cellsOf 3)) = some x1 := h1
  rw [k2] at g0
  rw [k1] at g1
  obtain ⟨a, c, xs, e0, hl2, hm2, row2, _, _⟩ := open_typed (n := 4) (fun _ h => Span.of_leaves h) Tryz.underlying23 (by kernel_rfl) (by kernel_rfl) (by decide) g0
  obtain ⟨q1, e1, _, _⟩ := DataW.trod_int Tryz.underlying3 g1
  refine ⟨⟨⟨xs, q1⟩, a, c⟩, ?_, row2, hl2, hm2⟩
  rw [k6] at hcl
  match cs, hcl with
  | [c0, c1], _ =>
    simp at e0 e1
    simp [RowM.cells, e0, e1]
theorem open_decisions {H : Type} {enc : TypeId × Value → H} {w : World} {base : Nat} {spare : Nat → Bool} {held : Bool} {v : Value} {d : DataW H} {ps : List MemPlace} {r : Reach} {b0 : Nat}
    (hval : Value.okWide Tryz.prog w r b0 68 v) (hd : DataW.Trod enc Tryz.prog w base spare held 68 v d ps) :
    ∃ (vs : List Span) (va : Option Addr) (vc : Nat) (rs : List RowM) (ra : Option Addr) (rc : Nat), v = .agg #[.slice va vs.length vc, .slice ra rs.length rc] ∧ TabAt ⟨vs, va, vc, rs, ra, rc⟩ w := by
  obtain ⟨cs, rfl, hsz⟩ := okWide_struct Tryz.underlying68 hval
  obtain ⟨fuel, hf⟩ := hd
  obtain ⟨zs, n, _, _, hcl, hxl, hg⟩ := DataW.trod_struct Tryz.underlying68 hf
  have hc3 : Tryz.prog.cellsOf 68 = 2 := by kernel_rfl
  have k1 : Tryz.prog.cellsOf 23 = 1 := by kernel_rfl
  have k2 : Tryz.prog.cellsOf 66 = 1 := by kernel_rfl
  obtain ⟨x0, h0⟩ := trod_fieldH hxl hg 0 _ rfl
  obtain ⟨x1, h1⟩ := trod_fieldH hxl hg 1 _ rfl
  have g0 : DataW.trod enc Tryz.prog w base spare held n 23 (((Value.agg cs).cells.toList.drop 0).take (Tryz.prog.cellsOf 23)) = some x0 := h0
  have g1 : DataW.trod enc Tryz.prog w base spare held n 66 (((Value.agg cs).cells.toList.drop 1).take (Tryz.prog.cellsOf 66)) = some x1 := h1
  clear h0 h1
  rw [k1] at g0
  rw [k2] at g1
  obtain ⟨aw, cw, ws, e0, wl, wm, wrow, _, _⟩ := open_typed (n := 4) (fun _ h => Span.of_leaves h) Tryz.underlying23 (by kernel_rfl) (by kernel_rfl) (by decide) g0
  obtain ⟨ag, cg, gs0, e1, gl, gm, grow, gok, _⟩ := open_rows (ok := fun cs => ∃ g : RowM, cs = g.cells ∧ RowOk w g) (k := 2) (fun q cs x h => open_rowM h) (fun cs ⟨g, hg, _⟩ => by rw [hg]; rfl) Tryz.underlying66 (by kernel_rfl) (by decide) g1
  obtain ⟨gs, rfl, gw⟩ := decodeH (wf := RowOk w) (fun cs h => h) gs0 gok
  rw [List.length_map] at e1 gl
  refine ⟨ws, aw, cw, gs, ag, cg, ?_, ⟨wrow, Row.of_mapM grow, fun g hg => (gw g hg).1, wl, wm, gl, gm, fun g hg => (gw g hg).2⟩⟩
  obtain ⟨l⟩ := cs
  rw [hc3] at hsz
  match l, hsz with
  | [c0, c1], _ =>
    simp [Value.cells] at e0 e1
    simp [e0, e1]
end Go.Proofs.YtacbkbilbmkjnaaGreat

/-
  Slices of numbers that come in. No program in sight.
-/
namespace Bal.Trim
open Go Go.RowKit Go.ChangeShapes Go.WideShapes
set_option linter.unusedVariables false
theorem wf_u8 {n : Int} (h : (Lit.int .u8 n).wf = true) : 0 ≤ n ∧ n ≤ 255 := by
  simp only [Lit.wf, Bool.and_eq_true, decide_eq_true_eq] at h
  have e1 : IntKind.min .u8 = 0 := by decide
  have e2 : IntKind.max .u8 = 255 := by decide
  rw [e1, e2] at h
  exact h
theorem wf_i64 {n : Int} (h : (Lit.int .i64 n).wf = true) : -9223372036854775808 ≤ n ∧ n ≤ 9223372036854775807 := by
  simp only [Lit.wf, Bool.and_eq_true, decide_eq_true_eq] at h
  have e1 : IntKind.min .i64 = -9223372036854775808 := by decide
  have e2 : IntKind.max .i64 = 9223372036854775807 := by decide
  rw [e1, e2] at h
  exact h
end Bal.Trim

/-
  The words of a string that is known sign by sign: for the facts on how a program was made. No program in sight.
-/
namespace Bal
open Go
theorem words_cons : ∀ (w r : List Char), w.all (fun c => c != Char.ofNat 32) = true → wordsSigns (w ++ Char.ofNat 32 :: r) = w :: wordsSigns r
  | [], r, _ => by simp [wordsSigns]
  | c :: w, r, h => by
    simp only [List.all_cons, Bool.and_eq_true, bne_iff_ne, ne_eq] at h
    obtain ⟨h1, h2⟩ := h
    have ih := words_cons w r h2
    rw [List.cons_append]
    simp [wordsSigns, ih]
theorem words_last : ∀ (w : List Char), w.all (fun c => c != Char.ofNat 32) = true → wordsSigns w = [w]
  | [], _ => by simp [wordsSigns]
  | c :: w, h => by
    simp only [List.all_cons, Bool.and_eq_true, bne_iff_ne, ne_eq] at h
    obtain ⟨h1, h2⟩ := h
    simp [wordsSigns, words_last w h2]
/-! A program that was cut, behind a harness. (With the program a variable the kernel never unfolds it.) -/
section
variable {P : Program} {w0 w1 : List Char} {r : List (List Char)}
theorem behind_cut (h : wordsSigns P.initOrder.toList = w0 :: w1 :: [Char.ofNat 99, Char.ofNat 117, Char.ofNat 116] :: r) (h0 : w0 = "harness".toList) (h1 : isSumSigns w1 = true) : behindMainWord (wordsSigns P.initOrder.toList) = [Char.ofNat 99, Char.ofNat 117, Char.ofNat 116] :: r := by
  rw [h]
  have e : (w0 == "harness".toList) = true := by rw [h0]; simp
  simp only [behindMainWord, e, h1, Bool.true_or, Bool.and_self, if_true]
theorem make_cut (h : wordsSigns P.initOrder.toList = w0 :: w1 :: [Char.ofNat 99, Char.ofNat 117, Char.ofNat 116] :: r) (h0 : w0 = "harness".toList) (h1 : isSumSigns w1 = true) : P.make = some .cut := by
  unfold Program.make
  rw [behind_cut h h0 h1]
  rfl
theorem lifts_cut (h : wordsSigns P.initOrder.toList = w0 :: w1 :: [Char.ofNat 99, Char.ofNat 117, Char.ofNat 116] :: r) (h0 : w0 = "harness".toList) (h1 : isSumSigns w1 = true) : P.liftsFinal = false := by
  unfold Program.liftsFinal Program.headLifts
  rw [behind_cut h h0 h1]
  rfl
theorem enter_cut (h : wordsSigns P.initOrder.toList = w0 :: w1 :: [Char.ofNat 99, Char.ofNat 117, Char.ofNat 116] :: r) (h0 : w0 = "harness".toList) (h1 : isSumSigns w1 = true) (l : P.laysLater = false) (b : P.bearsReflect = false) (d : P.doorFits [] = true) : P.mayEnter = true := by
  unfold Program.mayEnter
  rw [behind_cut h h0 h1]
  have e : stripLifts liftWords ([Char.ofNat 99, Char.ofNat 117, Char.ofNat 116] :: r) = ([], [Char.ofNat 99, Char.ofNat 117, Char.ofNat 116] :: r) := rfl
  simp only [e, l, b, d]
  rfl
end
end Bal

/-
  How the program was made: its words, and what follows for every row of the seat.
-/
namespace Go.Proofs.YtacbkbilbmkjnaaGreat
open Bal
set_option maxRecDepth 100000
def initW0 : List Char := List.map Char.ofNat [104, 97, 114, 110, 101, 115, 115]
def initW1 : List Char := List.map Char.ofNat [101, 53, 97, 48, 54, 52, 102, 52, 53, 99, 52, 56, 99, 51, 56, 57, 99, 52, 53, 50, 56, 55, 49, 101, 53, 99, 51, 98, 100, 100, 51, 99, 97, 54, 98, 102, 48, 99, 100, 50, 98, 102, 49, 56, 98, 54, 97, 54, 98, 99, 51, 51, 98, 57, 57, 97, 101, 55, 56, 100, 101, 51, 51, 51]
def initW2 : List Char := List.map Char.ofNat [99, 117, 116]
def initW3 : List Char := List.map Char.ofNat [97, 116]
def initW4 : List Char := List.map Char.ofNat [98, 97, 108, 108, 111, 110, 101, 116, 47, 98, 97, 108, 108, 111, 110, 101, 116, 108, 97, 119, 48, 55, 46, 77, 97, 115, 116, 77, 97, 110, 110, 101, 100]
def initW5 : List Char := List.map Char.ofNat [98, 97, 108, 108, 111, 110, 101, 116, 47, 98, 97, 108, 108, 111, 110, 101, 116, 108, 97, 119, 48, 55, 46, 77, 97, 115, 116, 80, 108, 97, 110, 110, 101, 100]
def initW6 : List Char := List.map Char.ofNat [98, 97, 108, 108, 111, 110, 101, 116, 47, 98, 97, 108, 108, 111, 110, 101, 116, 108, 97, 119, 48, 55, 46, 77, 97, 115, 116, 66, 108, 111, 119, 110]
def initW7 : List Char := List.map Char.ofNat [98, 97, 108, 108, 111, 110, 101, 116, 47, 98, 97, 108, 108, 111, 110, 101, 116, 108, 97, 119, 48, 55, 46, 77, 97, 115, 116, 75, 101, 112, 116]
def initW8 : List Char := List.map Char.ofNat [98, 97, 108, 108, 111, 110, 101, 116, 47, 98, 97, 108, 108, 111, 110, 101, 116, 108, 97, 119, 48, 55, 46, 77, 97, 115, 116, 67, 111, 109, 112, 108, 101, 116, 101]
def initW9 : List Char := List.map Char.ofNat [98, 97, 108, 108, 111, 110, 101, 116, 47, 98, 97, 108, 108, 111, 110, 101, 116, 108, 97, 119, 48, 55, 46, 77, 97, 115, 116, 80, 108, 97, 121, 101, 100]
def initW10 : List Char := List.map Char.ofNat [98, 97, 108, 108, 111, 110, 101, 116, 47, 98, 97, 108, 108, 111, 110, 101, 116, 108, 97, 119, 48, 55, 46, 77, 97, 115, 116, 84, 117, 114, 110, 101, 100]
def initW11 : List Char := List.map Char.ofNat [98, 97, 108, 108, 111, 110, 101, 116, 47, 98, 97, 108, 108, 111, 110, 101, 116, 108, 97, 119, 48, 55, 46, 77, 97, 115, 116, 69, 120, 97, 109, 112, 108, 101, 115]
def initL : List Char := initW0 ++ Char.ofNat 32 :: (initW1 ++ Char.ofNat 32 :: (initW2 ++ Char.ofNat 32 :: (initW3 ++ Char.ofNat 32 :: (initW4 ++ Char.ofNat 32 :: (initW5 ++ Char.ofNat 32 :: (initW6 ++ Char.ofNat 32 :: (initW7 ++ Char.ofNat 32 :: (initW8 ++ Char.ofNat 32 :: (initW9 ++ Char.ofNat 32 :: (initW10 ++ Char.ofNat 32 :: initW11))))))))))
theorem init_is : Tryz.prog.initOrder = String.ofList initL := by kernel_rfl
theorem init_words : wordsSigns Tryz.prog.initOrder.toList = [initW0, initW1, initW2, initW3, initW4, initW5, initW6, initW7, initW8, initW9, initW10, initW11] := by
  rw [init_is, String.toList_ofList]
  unfold initL
  rw [words_cons _ _ (by decide), words_cons _ _ (by decide), words_cons _ _ (by decide), words_cons _ _ (by decide), words_cons _ _ (by decide), words_cons _ _ (by decide), words_cons _ _ (by decide), words_cons _ _ (by decide), words_cons _ _ (by decide), words_cons _ _ (by decide), words_cons _ _ (by decide), words_last _ (by decide)]
theorem init_cut : wordsSigns Tryz.prog.initOrder.toList = initW0 :: initW1 :: [Char.ofNat 99, Char.ofNat 117, Char.ofNat 116] :: [initW3, initW4, initW5, initW6, initW7, initW8, initW9, initW10, initW11] := init_words
theorem init_sum : isSumSigns initW1 = true := by decide
theorem make_is : Tryz.prog.make = some .cut := make_cut init_cut rfl init_sum
theorem liftsFinal_is : Tryz.prog.liftsFinal = false := lifts_cut init_cut rfl init_sum
theorem mayEnter_is : Tryz.prog.mayEnter = true := enter_cut init_cut rfl init_sum (by kernel_rfl) (by kernel_rfl) (by kernel_rfl)
end Go.Proofs.YtacbkbilbmkjnaaGreat

/-
  The contracts of chapter 7 that its outright statements lean on:
  o_alive o_inside o_wind o_port o_table o_plan a_cross a_man a_plan a_do a_gap a_dec a_ints1 a_ints3 a_acts exTab exTab_is exTab_ok exGap exPort exWind exPlan exRows fieldP
  f_Do f_CheckBerth f_CheckPort f_need f_CheckWind f_CheckAxis f_CheckRows f_Cross f_Calm f_Turn f_Man f_Play f_Plan f_Decide f_Gap f_Twice r_CheckBerth r_CheckWind r_CheckAxis r_Great r_Wide r_GreatRows r_SameInts r_SameActs r_within r_withinK
  open_port open_agg open_decisions of_leaves Wind Axis Span Berth Step Deed u8_bd mayEnter_is liftsFinal_is make_is own row Row owns_row owns_nil owns_keep infoI cell_one info_parts later_mix held_walk tail region at_world blk blkc kpt thru later sub take block one eq_berth deed_len berth_len
  berth_parts ship_parts portB_bd portB_parts needP_bd turnable_parts linesB_parts inB_iff doErr_parts firstNot_zero kept_valid doB_ship plan_same coded nums_ok PlanRes planErr check_parts plan_ok TabAt RowM validB valid_parts valid_even valid_le decR GapRes TwRes outS natsI FirstExt rows_len mem_rowsT tbOf greatR wideB wide_len play playE play_go play_no play_end
  manE manL turnE turnN turnI crossE crossLo crossHi calmE calmB calmS near_far far_sq near_sq long_pos i64_in mul_bd corner_bd far_bd line_bd need_bd needs_take needs_len needs_bd total_bd total_snoc after_bd after_len pick_bd pick_none total_mem
-/
namespace Go.Proofs.YtacbkbilbmkjnaaGreat
open Go.RowKit Bal Bal.Mast
end Go.Proofs.YtacbkbilbmkjnaaGreat
