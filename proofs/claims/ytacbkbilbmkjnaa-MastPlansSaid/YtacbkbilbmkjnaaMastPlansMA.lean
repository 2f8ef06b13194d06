/-
  MastPlans, the statement: for every input the call returns true and leaves the input alone.
-/
import Derived.Test.YtacbkbilbmkjnaaMastBaseM
import Derived.WalkKit
import Derived.WalkSpells
import Derived.WalkLawsBesides
import Derived.Lib.Hide
import Derived.ProofKit
import Derived.OpenShut
import Derived.ChangeOld
import Derived.Below
import Derived.Deep.Slices
import Derived.Deep.Fields
import Derived.Deep.Quiet
import Derived.Laws.AppendOwn
import Derived.Laws.AppendOwnNone
import Derived.WalkSmall
import Derived.Deep.RegionLaw
import Derived.OwnWalk
import Derived.ArgAppend
import Derived.DeepKeys4
import Derived.Deep.CutBlock
set_option linter.unusedVariables false
set_option linter.unusedSimpArgs false
namespace Bal
open Go Go.RowKit Go.ChangeShapes Go.WideShapes

/-! ### Slices that a call has made itself, element by element -/
theorem flatMap_len {α : Type} {enc : α → List Value} {k : Nat} (he : ∀ x, (enc x).length = k) (xs : List α) : (xs.flatMap enc).length = xs.length * k := by
  induction xs with
  | nil => simp
  | cons x xs ih => simp [List.flatMap_cons, ih, he, Nat.succ_mul, Nat.add_comm]

theorem flatMap_at {α : Type} {enc : α → List Value} {k : Nat} (hk : 0 < k) (he : ∀ x, (enc x).length = k) (xs : List α) (j : Nat) (u : Value) (h : (xs.flatMap enc)[j]? = some u) :
    ∃ x, xs[j / k]? = some x ∧ (enc x)[j % k]? = some u := by
  have hj : j < xs.length * k := by rw [← flatMap_len he xs]; exact (List.getElem?_eq_some_iff.1 h).1
  have hi : j / k < xs.length := Nat.div_lt_of_lt_mul (by rw [Nat.mul_comm]; exact hj)
  refine ⟨xs[j / k], by simp [hi], ?_⟩
  rw [← flatMap_get he xs (j / k) xs[j / k] (by simp [hi]) (j % k) (Nat.mod_lt _ hk), ← h]
  congr 1
  have := Nat.div_add_mod j k
  rw [Nat.mul_comm] at this
  omega

theorem Row.news {α : Type} {enc : α → List Value} {k B : Nat} {w : World} {ad : Addr} {ys : List α} (hk : 0 < k) (he : ∀ x, (enc x).length = k) (h : Row enc k B w (some ad) ys) :
    ∀ j u, (ys.flatMap enc)[j]? = some u → w.cell? (ad.add j) = some u := by
  intro j u hj
  obtain ⟨x, hx, hu⟩ := flatMap_at hk he ys j u hj
  obtain ⟨b, off, ha, _, hc⟩ := h _ x hx
  simp only [Option.some.injEq] at ha
  subst ha
  have h1 := hc _ u hu
  have e : (⟨b, off, none⟩ : Addr).add j = ⟨b, off + j / k * k + j % k, none⟩ := by
    have h2 : off + j / k * k + j % k = off + j := by
      have := Nat.div_add_mod j k
      rw [Nat.mul_comm] at this
      omega
    unfold Addr.add
    split
    · rename_i h0; rw [h2, h0]; rfl
    · rw [h2]
  rw [e]
  exact h1

/-- APPENDING A LIST to a slice that the call owns, wherever the list lies (nil too). -/
theorem wpList_append_list {α : Type} {enc : α → List Value} {P : Program} {w : World} {ops : Array Oper} {rest : List Oper} {o : Oper} {a : Act} {Q : Exit → Act → World → Prop} (hgd : o.guard = none) (s x : Operand) (t : TypeId)
    (ho : o.op = .call { callee := .builtin .append, args := #[s, x], argTypes := #[t, t] })
    (base : Nat) (e : TypeId) (i : TypeInfo) (z : Value) (size bytes : Nat) (ht : P.underlying t = some (.slice e)) (hi : P.info? e = some i) (hz : i.zero = some z)
    (hsize : i.size = size) (hby : i.bytes = bytes) (hzs : z.cells.size = size) (hsz : 0 < size) (he : ∀ x : α, (enc x).length = size) (h1 : ∀ (x : α), ∀ u ∈ enc x, u.oneCell' = true)
    (v : Value) (xs : List α) (hs : a.eval s = v) (hown : w.ownsRow base e size v xs.length (xs.flatMap enc))
    (ad : Option Addr) (c : Nat) (ys : List α) (hx : a.eval x = .slice ad ys.length c) (hc : ad = none → c = 0) {B : Nat} (hrow : Row enc size B w ad ys)
    (h63 : xs.length + ys.length ≤ maxLen) (hbytes : (xs.length + ys.length) * bytes ≤ 140737488355328) (hbase : base ≤ w.heap.size)
    (h : ∀ v' w', w'.ownsRow base e size v' (xs ++ ys).length ((xs ++ ys).flatMap enc) → w.grownBy w' v.ownBlock → wpList P ops Q rest (a.put o.dst v') w') : wpList P ops Q (o :: rest) a w := by
  cases ad with
  | none =>
    have hys : ys = [] := by
      cases ys with
      | nil => rfl
      | cons y ys => obtain ⟨b, off, ha, _⟩ := hrow 0 y rfl; cases ha
    subst hys
    have := hc rfl
    subst this
    exact wpList_append_own_none hgd s x t ho base e i size ht hi v xs.length _ hs hown hx (h v w (by simpa using hown) ⟨rfl, rfl, rfl, Nat.le_refl _, fun _ _ _ => rfl⟩)
  | some ad =>
    refine wpList_append_own w hgd s x t ho base e i z size bytes ht hi hz hsize hby hzs hsz v xs.length _ hs hown ad ys.length c (ys.flatMap enc) hx (flatMap_len he ys) (hrow.news hsz he) ?_ h63 hbytes hbase ?_
    · intro u hu
      obtain ⟨y, _, hy⟩ := List.mem_flatMap.1 hu
      exact h1 y u hy
    · intro v' w' ho' hg _
      exact h v' w' (by simpa [List.length_append] using ho') hg

/-! ### A block of the call's own, known whole -/
/-! ### Cells that are numbers or bools, whatever structs they lie in -/
section
variable {H : Type} {enc : TypeId × Value → H} {P : Program} {w : World} {base : Nat} {spare : Nat → Bool} {held : Bool}

end

/-! ### Regions that draw their order and only read or call: one walk of the text's order -/
instance {w : World} : Nonempty (Later w) := ⟨⟨w, Below.refl _ _⟩⟩

end Bal

namespace Bal
open Go Go.RowKit
theorem cell_two_at {w : World} {n : Nat} (h : n = w.heap.size) (a b : Value) (t : TypeId) : ∀ j u, [a, b][j]? = some u → (w.alloc (.cells #[a, b] t)).cell? ((⟨n, 0, none⟩ : Addr).add j) = some u := h ▸ cell_two_new w a b t
end Bal

namespace Go.Proofs.Ytacbkbilbmkjnaa
open Go.RowKit Bal Bal.Trim Bal.Mast
set_option linter.unusedVariables false
set_option linter.unusedSimpArgs false
set_option maxHeartbeats 4000000
set_option maxRecDepth 10000

theorem owns_none {w : World} {base k n m c : Nat} {e : TypeId} {a : Option Addr} {xs : List Value} (h : w.ownsRow base e k (.slice a n c) m xs) : a = none → c = 0 := by
  rintro rfl
  obtain ⟨_, ⟨hv, _⟩ | ⟨g, cap, cur, hv, _⟩⟩ := h
  · cases hv; rfl
  · cases hv
theorem owns_made {α : Type} {enc : α → List Value} {base k n : Nat} {e : TypeId} {w : World} (hn : n = w.heap.size) (hb : base ≤ w.heap.size) : (w.alloc (.cells #[] e)).ownsRow base e k (.slice (some ⟨n, 0, none⟩) 0 0) ([] : List α).length (([] : List α).flatMap enc) := by
  subst hn
  refine ⟨by simp, .inr ⟨w.heap.size, 0, #[], rfl, hb, Blk.new, Nat.le_refl _, by simp [maxLen], by simp, by simp⟩⟩

end Go.Proofs.Ytacbkbilbmkjnaa

/-
  Plans, in the program: the early ends.
-/
namespace Go.Proofs.Ytacbkbilbmkjnaa
open Go.RowKit Bal Bal.Trim Bal.Mast
set_option linter.unusedVariables false
set_option linter.unusedSimpArgs false
set_option maxHeartbeats 4000000
set_option maxRecDepth 10000

theorem f_Plan_berth (a : Option Addr) (c : Nat) (e : Option Addr) (d : Nat) (p : Port) (w : World) (hx : Row Axis.cells 2 w.heap.size w a p.axes) (hc : p.axes.length ≤ c) (hM : c ≤ maxLen) (hy : Row Span.cells 2 w.heap.size w e p.pulls) (hd : p.pulls.length ≤ d) (hN : d ≤ maxLen) (h1 : p.axes.length ≤ 1000000) (h2 : p.pulls.length ≤ 1000000) (b : Berth) (hs0 : 0 ≤ b.ship) (wd : Wind) (ship : Int) (E : Int) (hcb : checkBerth p b = E) (hE : E ≠ 0) :
    Calls Try.prog 32 #[.agg #[.slice a p.axes.length c, .int .i64 p.people, .int .i64 p.most, .slice e p.pulls.length d, .int .i64 p.cross], .agg #[.int .u8 b.ship, .int .i64 b.axis, .int .i64 b.held, .bool b.wire, .bool b.opn], .agg #[.int .i64 wd.xlo, .int .i64 wd.xhi, .int .i64 wd.ylo, .int .i64 wd.yhi], .int .u8 ship] w fun z w' => z = .returned (.tuple #[.slice none 0 0, .int .i64 E]) ∧ Kept w w' := by
  have HCB := Lib.hid hcb
  clear hcb
  have e1 : (E != 0) = true := by simp [hE]
  clear hE
  go_enter Try.func32, Try.ntmps32
  go_wp2_with (first | (go_at_call 27; (with_reducible refine (f_CheckBerth a c e d p _ (hx.later (by (exact kpt)) (Nat.le_refl _)) hc hM (hy.later (by (exact kpt)) (Nat.le_refl _)) hd hN h1 h2 b hs0).mono ?_); rw [HCB.out]; rintro z w1 ⟨rfl, hb1⟩; refine Blk.thru (b := w.heap.size) (arr := ?_) (t := ?_) ?_ hb1 ?_; rotate_left 2; (focus (exact blk)); intro r0; have r0c0 := r0.cell 0; have r0f0 := r0.free 0; have r0c1 := r0.cell 1; have r0f1 := r0.free 1; have r0c2 := r0.cell 2; have r0f2 := r0.free 2; have r0c3 := r0.cell 3; have r0f3 := r0.free 3; have r0c4 := r0.cell 4; have r0f4 := r0.free 4; have r0l := r0.lt; simp at r0c0 r0c1 r0c2 r0c3 r0c4; refine Blk.thru (b := (w.heap.size + 1)) (arr := ?_) (t := ?_) ?_ hb1 ?_; rotate_left 2; (focus (exact blk)); intro r1; have r1c0 := r1.cell 0; have r1f0 := r1.free 0; have r1c1 := r1.cell 1; have r1f1 := r1.free 1; have r1c2 := r1.cell 2; have r1f2 := r1.free 2; have r1c3 := r1.cell 3; have r1f3 := r1.free 3; have r1c4 := r1.cell 4; have r1f4 := r1.free 4; have r1l := r1.lt; simp at r1c0 r1c1 r1c2 r1c3 r1c4; refine Blk.thru (b := (w.heap.size + 1 + 1)) (arr := ?_) (t := ?_) ?_ hb1 ?_; rotate_left 2; (focus (exact blk)); intro r3; have r3c0 := r3.cell 0; have r3f0 := r3.free 0; have r3c1 := r3.cell 1; have r3f1 := r3.free 1; have r3c2 := r3.cell 2; have r3f2 := r3.free 2; have r3c3 := r3.cell 3; have r3f3 := r3.free 3; have r3l := r3.lt; simp at r3c0 r3c1 r3c2 r3c3))
  exact bodyPost_ret (v := .tuple #[.slice none 0 0, .int .i64 E]) (by simp [results, Try.results32, go_sem]) rfl ⟨rfl, by (exact kpt)⟩

theorem f_Plan_wind (a : Option Addr) (c : Nat) (e : Option Addr) (d : Nat) (p : Port) (w : World) (hx : Row Axis.cells 2 w.heap.size w a p.axes) (hc : p.axes.length ≤ c) (hM : c ≤ maxLen) (hy : Row Span.cells 2 w.heap.size w e p.pulls) (hd : p.pulls.length ≤ d) (hN : d ≤ maxLen) (h1 : p.axes.length ≤ 1000000) (h2 : p.pulls.length ≤ 1000000) (b : Berth) (hs0 : 0 ≤ b.ship) (wd : Wind) (ship : Int) (hcb : checkBerth p b = 0) (hw : windB wd = false) :
    Calls Try.prog 32 #[.agg #[.slice a p.axes.length c, .int .i64 p.people, .int .i64 p.most, .slice e p.pulls.length d, .int .i64 p.cross], .agg #[.int .u8 b.ship, .int .i64 b.axis, .int .i64 b.held, .bool b.wire, .bool b.opn], .agg #[.int .i64 wd.xlo, .int .i64 wd.xhi, .int .i64 wd.ylo, .int .i64 wd.yhi], .int .u8 ship] w fun z w' => z = .returned (.tuple #[.slice none 0 0, .int .i64 71]) ∧ Kept w w' := by
  have HCB := Lib.hid hcb
  clear hcb
  have HWD := Lib.hid (show checkWind wd = 71 by simp [checkWind, hw])
  clear hw
  go_enter Try.func32, Try.ntmps32
  go_wp2_with (first | (go_at_call 27; (with_reducible refine (f_CheckBerth a c e d p _ (hx.later (by (exact kpt)) (Nat.le_refl _)) hc hM (hy.later (by (exact kpt)) (Nat.le_refl _)) hd hN h1 h2 b hs0).mono ?_); rw [HCB.out]; rintro z w1 ⟨rfl, hb1⟩; refine Blk.thru (b := w.heap.size) (arr := ?_) (t := ?_) ?_ hb1 ?_; rotate_left 2; (focus (exact blk)); intro r0; have r0c0 := r0.cell 0; have r0f0 := r0.free 0; have r0c1 := r0.cell 1; have r0f1 := r0.free 1; have r0c2 := r0.cell 2; have r0f2 := r0.free 2; have r0c3 := r0.cell 3; have r0f3 := r0.free 3; have r0c4 := r0.cell 4; have r0f4 := r0.free 4; have r0l := r0.lt; simp at r0c0 r0c1 r0c2 r0c3 r0c4; refine Blk.thru (b := (w.heap.size + 1)) (arr := ?_) (t := ?_) ?_ hb1 ?_; rotate_left 2; (focus (exact blk)); intro r1; have r1c0 := r1.cell 0; have r1f0 := r1.free 0; have r1c1 := r1.cell 1; have r1f1 := r1.free 1; have r1c2 := r1.cell 2; have r1f2 := r1.free 2; have r1c3 := r1.cell 3; have r1f3 := r1.free 3; have r1c4 := r1.cell 4; have r1f4 := r1.free 4; have r1l := r1.lt; simp at r1c0 r1c1 r1c2 r1c3 r1c4; refine Blk.thru (b := (w.heap.size + 1 + 1)) (arr := ?_) (t := ?_) ?_ hb1 ?_; rotate_left 2; (focus (exact blk)); intro r3; have r3c0 := r3.cell 0; have r3f0 := r3.free 0; have r3c1 := r3.cell 1; have r3f1 := r3.free 1; have r3c2 := r3.cell 2; have r3f2 := r3.free 2; have r3c3 := r3.cell 3; have r3f3 := r3.free 3; have r3l := r3.lt; simp at r3c0 r3c1 r3c2 r3c3) | (go_at_call 15; (with_reducible refine (f_CheckWind wd _).mono ?_); rw [HWD.out]; rintro z w2 ⟨rfl, hb2⟩; refine Blk.thru (b := w.heap.size) (arr := ?_) (t := ?_) ?_ hb2 ?_; rotate_left 2; (focus (exact blk)); intro r0; have r0c0 := r0.cell 0; have r0f0 := r0.free 0; have r0c1 := r0.cell 1; have r0f1 := r0.free 1; have r0c2 := r0.cell 2; have r0f2 := r0.free 2; have r0c3 := r0.cell 3; have r0f3 := r0.free 3; have r0c4 := r0.cell 4; have r0f4 := r0.free 4; have r0l := r0.lt; simp at r0c0 r0c1 r0c2 r0c3 r0c4; refine Blk.thru (b := (w.heap.size + 1)) (arr := ?_) (t := ?_) ?_ hb2 ?_; rotate_left 2; (focus (exact blk)); intro r1; have r1c0 := r1.cell 0; have r1f0 := r1.free 0; have r1c1 := r1.cell 1; have r1f1 := r1.free 1; have r1c2 := r1.cell 2; have r1f2 := r1.free 2; have r1c3 := r1.cell 3; have r1f3 := r1.free 3; have r1c4 := r1.cell 4; have r1f4 := r1.free 4; have r1l := r1.lt; simp at r1c0 r1c1 r1c2 r1c3 r1c4; refine Blk.thru (b := (w.heap.size + 1 + 1)) (arr := ?_) (t := ?_) ?_ hb2 ?_; rotate_left 2; (focus (exact blk)); intro r3; have r3c0 := r3.cell 0; have r3f0 := r3.free 0; have r3c1 := r3.cell 1; have r3f1 := r3.free 1; have r3c2 := r3.cell 2; have r3f2 := r3.free 2; have r3c3 := r3.cell 3; have r3f3 := r3.free 3; have r3l := r3.lt; simp at r3c0 r3c1 r3c2 r3c3))
  exact bodyPost_ret (v := .tuple #[.slice none 0 0, .int .i64 71]) (by simp [results, Try.results32, go_sem]) rfl ⟨rfl, by (exact kpt)⟩

theorem f_Plan_ship (a : Option Addr) (c : Nat) (e : Option Addr) (d : Nat) (p : Port) (w : World) (hx : Row Axis.cells 2 w.heap.size w a p.axes) (hc : p.axes.length ≤ c) (hM : c ≤ maxLen) (hy : Row Span.cells 2 w.heap.size w e p.pulls) (hd : p.pulls.length ≤ d) (hN : d ≤ maxLen) (h1 : p.axes.length ≤ 1000000) (h2 : p.pulls.length ≤ 1000000) (b : Berth) (hs0 : 0 ≤ b.ship) (wd : Wind) (ship : Int) (hcb : checkBerth p b = 0) (hw : windB wd = true) (hsh : 5 < ship) :
    Calls Try.prog 32 #[.agg #[.slice a p.axes.length c, .int .i64 p.people, .int .i64 p.most, .slice e p.pulls.length d, .int .i64 p.cross], .agg #[.int .u8 b.ship, .int .i64 b.axis, .int .i64 b.held, .bool b.wire, .bool b.opn], .agg #[.int .i64 wd.xlo, .int .i64 wd.xhi, .int .i64 wd.ylo, .int .i64 wd.yhi], .int .u8 ship] w fun z w' => z = .returned (.tuple #[.slice none 0 0, .int .i64 2]) ∧ Kept w w' := by
  have HCB := Lib.hid hcb
  clear hcb
  have HWD := Lib.hid (show checkWind wd = 0 by simp [checkWind, hw])
  clear hw
  go_enter Try.func32, Try.ntmps32
  go_wp2_with (first | (go_at_call 27; (with_reducible refine (f_CheckBerth a c e d p _ (hx.later (by (exact kpt)) (Nat.le_refl _)) hc hM (hy.later (by (exact kpt)) (Nat.le_refl _)) hd hN h1 h2 b hs0).mono ?_); rw [HCB.out]; rintro z w1 ⟨rfl, hb1⟩; refine Blk.thru (b := w.heap.size) (arr := ?_) (t := ?_) ?_ hb1 ?_; rotate_left 2; (focus (exact blk)); intro r0; have r0c0 := r0.cell 0; have r0f0 := r0.free 0; have r0c1 := r0.cell 1; have r0f1 := r0.free 1; have r0c2 := r0.cell 2; have r0f2 := r0.free 2; have r0c3 := r0.cell 3; have r0f3 := r0.free 3; have r0c4 := r0.cell 4; have r0f4 := r0.free 4; have r0l := r0.lt; simp at r0c0 r0c1 r0c2 r0c3 r0c4; refine Blk.thru (b := (w.heap.size + 1)) (arr := ?_) (t := ?_) ?_ hb1 ?_; rotate_left 2; (focus (exact blk)); intro r1; have r1c0 := r1.cell 0; have r1f0 := r1.free 0; have r1c1 := r1.cell 1; have r1f1 := r1.free 1; have r1c2 := r1.cell 2; have r1f2 := r1.free 2; have r1c3 := r1.cell 3; have r1f3 := r1.free 3; have r1c4 := r1.cell 4; have r1f4 := r1.free 4; have r1l := r1.lt; simp at r1c0 r1c1 r1c2 r1c3 r1c4; refine Blk.thru (b := (w.heap.size + 1 + 1)) (arr := ?_) (t := ?_) ?_ hb1 ?_; rotate_left 2; (focus (exact blk)); intro r3; have r3c0 := r3.cell 0; have r3f0 := r3.free 0; have r3c1 := r3.cell 1; have r3f1 := r3.free 1; have r3c2 := r3.cell 2; have r3f2 := r3.free 2; have r3c3 := r3.cell 3; have r3f3 := r3.free 3; have r3l := r3.lt; simp at r3c0 r3c1 r3c2 r3c3) | (go_at_call 15; (with_reducible refine (f_CheckWind wd _).mono ?_); rw [HWD.out]; rintro z w2 ⟨rfl, hb2⟩; refine Blk.thru (b := w.heap.size) (arr := ?_) (t := ?_) ?_ hb2 ?_; rotate_left 2; (focus (exact blk)); intro r0; have r0c0 := r0.cell 0; have r0f0 := r0.free 0; have r0c1 := r0.cell 1; have r0f1 := r0.free 1; have r0c2 := r0.cell 2; have r0f2 := r0.free 2; have r0c3 := r0.cell 3; have r0f3 := r0.free 3; have r0c4 := r0.cell 4; have r0f4 := r0.free 4; have r0l := r0.lt; simp at r0c0 r0c1 r0c2 r0c3 r0c4; refine Blk.thru (b := (w.heap.size + 1)) (arr := ?_) (t := ?_) ?_ hb2 ?_; rotate_left 2; (focus (exact blk)); intro r1; have r1c0 := r1.cell 0; have r1f0 := r1.free 0; have r1c1 := r1.cell 1; have r1f1 := r1.free 1; have r1c2 := r1.cell 2; have r1f2 := r1.free 2; have r1c3 := r1.cell 3; have r1f3 := r1.free 3; have r1c4 := r1.cell 4; have r1f4 := r1.free 4; have r1l := r1.lt; simp at r1c0 r1c1 r1c2 r1c3 r1c4; refine Blk.thru (b := (w.heap.size + 1 + 1)) (arr := ?_) (t := ?_) ?_ hb2 ?_; rotate_left 2; (focus (exact blk)); intro r3; have r3c0 := r3.cell 0; have r3f0 := r3.free 0; have r3c1 := r3.cell 1; have r3f1 := r3.free 1; have r3c2 := r3.cell 2; have r3f2 := r3.free 2; have r3c3 := r3.cell 3; have r3f3 := r3.free 3; have r3l := r3.lt; simp at r3c0 r3c1 r3c2 r3c3))
  exact bodyPost_ret (v := .tuple #[.slice none 0 0, .int .i64 2]) (by simp [results, Try.results32, go_sem]) rfl ⟨rfl, by (exact kpt)⟩

end Go.Proofs.Ytacbkbilbmkjnaa

/-
  Steps, played one behind the other: the plain side; steps as cells.
-/
namespace Bal.Mast
open Go Go.RowKit Bal Bal.Trim
structure Played where
  b : Berth
  i : Int
  r : Int
  e : Int
def play (p : Port) : Berth → List Step → Nat → Played
  | b, [], _ => ⟨b, 0, 0, 0⟩
  | b, s :: ss, i => if doE p b s = 0 then play p (doB p b s) ss (i + 1) else ⟨b, i, doRule p b s, doE p b s⟩
def playE (p : Port) (b : Berth) (ss : List Step) : Played := if checkBerth p b = 0 then (if 200 < ss.length then ⟨noBerth, 0, 0, 4⟩ else play p b ss 0) else ⟨noBerth, 0, 0, checkBerth p b⟩
theorem play_go {p : Port} {b : Berth} {ss : List Step} {k : Nat} (hk : k < ss.length) (h : doE p b ss[k] = 0) : play p b (ss.drop k) k = play p (doB p b ss[k]) (ss.drop (k + 1)) (k + 1) := by
  rw [List.drop_eq_getElem_cons hk, play, if_pos h]
theorem play_no {p : Port} {b : Berth} {ss : List Step} {k : Nat} (hk : k < ss.length) (h : doE p b ss[k] ≠ 0) : play p b (ss.drop k) k = ⟨b, k, doRule p b ss[k], doE p b ss[k]⟩ := by
  rw [List.drop_eq_getElem_cons hk, play, if_neg h]
theorem play_end {p : Port} {b : Berth} {ss : List Step} {i : Nat} : play p b (ss.drop ss.length) i = ⟨b, 0, 0, 0⟩ := by rw [List.drop_length]; rfl
theorem doneB_ship {k : Dock} (h : 0 ≤ k.b.ship) (t : Int) : 0 ≤ (doneB k t).ship := by
  unfold doneB
  split <;> (try simp only [toShip]) <;> first | exact h | omega | (split <;> first | exact h | omega)
theorem doB_ship {p : Port} {b : Berth} {s : Step} (h : 0 ≤ b.ship) : 0 ≤ (doB p b s).ship := by
  unfold doB
  split
  · exact doneB_ship (k := dockOf p b s) h _
  · exact Int.le_refl 0
theorem Step.row {B : Nat} {w : World} {a : Option Addr} {xs : List Step} (h : Row Step.cells 6 B w a xs) (i : Nat) (hi : i < xs.length) :
    ∃ b off, a = some ⟨b, off, none⟩ ∧ b < B ∧ w.cell? ⟨b, off + i * 6, none⟩ = some (.int .u8 xs[i].act.kind) ∧ w.cell? ⟨b, off + i * 6 + 1, none⟩ = some (.int .i64 xs[i].act.n) ∧ w.cell? ⟨b, off + i * 6 + 2, none⟩ = some (.int .i64 xs[i].wind.xlo) ∧ w.cell? ⟨b, off + i * 6 + 3, none⟩ = some (.int .i64 xs[i].wind.xhi) ∧ w.cell? ⟨b, off + i * 6 + 4, none⟩ = some (.int .i64 xs[i].wind.ylo) ∧ w.cell? ⟨b, off + i * 6 + 5, none⟩ = some (.int .i64 xs[i].wind.yhi) := by
  obtain ⟨b, off, ha, hb, hc⟩ := h i xs[i] (by simp [hi])
  exact ⟨b, off, ha, hb, hc 0 _ rfl, hc 1 _ rfl, hc 2 _ rfl, hc 3 _ rfl, hc 4 _ rfl, hc 5 _ rfl⟩
end Bal.Mast

/-
  A search in breadth: what it finds is the least way, by length and then by the acts' order. No program in sight.
-/
namespace Bal.Mast
set_option linter.unusedVariables false
section
variable {S A : Type}
/-- where a list of acts leads -/
def run (st : S → A → Option S) : S → List A → Option S
  | x, [] => some x
  | x, a :: l => (st x a).bind fun y => run st y l
theorem run_snoc (st : S → A → Option S) (a : A) : ∀ (l : List A) (x : S), run st x (l ++ [a]) = (run st x l).bind fun y => st y a
  | [], x => by simp [run]
  | b :: l, x => by
    simp only [List.cons_append, run]
    cases st x b with
    | none => rfl
    | some y => simp only [Option.bind_some]; exact run_snoc st a l y
/-- the number of a list of acts: it grows with the length, and then with the acts' order -/
def pv (B : Nat) (code : A → Nat) (l : List A) : Nat := l.foldl (fun v a => v * B + code a) 1
theorem pv_nil (B : Nat) (code : A → Nat) : pv B code [] = 1 := rfl
theorem pv_snoc (B : Nat) (code : A → Nat) (l : List A) (a : A) : pv B code (l ++ [a]) = pv B code l * B + code a := by simp [pv]
theorem snoc_induct {P : List A → Prop} (h0 : P []) (h1 : ∀ l a, P l → P (l ++ [a])) (l : List A) : P l := by
  rw [← List.reverse_reverse l]
  induction l.reverse with
  | nil => exact h0
  | cons a r ih => rw [List.reverse_cons]; exact h1 _ _ ih
theorem pv_pos {B : Nat} {code : A → Nat} (hB : 2 ≤ B) (l : List A) : 1 ≤ pv B code l := by
  induction l using snoc_induct with
  | h0 => exact Nat.le_refl 1
  | h1 l a ih =>
    rw [pv_snoc]
    have : 1 * 2 ≤ pv B code l * B := Nat.mul_le_mul ih hB
    omega
theorem pv_le_snoc {B : Nat} {code : A → Nat} (hB : 2 ≤ B) (l : List A) (a : A) : pv B code l < pv B code (l ++ [a]) := by
  rw [pv_snoc]
  have h1 := pv_pos (code := code) hB l
  have : pv B code l * 2 ≤ pv B code l * B := Nat.mul_le_mul_left _ hB
  omega
/-- digits decide -/
theorem dig_lt {B u v c d : Nat} (hc : c < B) (hd : d < B) (h : u * B + c < v * B + d) : u < v ∨ u = v ∧ c < d := by
  rcases Nat.lt_trichotomy u v with h1 | h1 | h1
  · exact .inl h1
  · subst h1; exact .inr ⟨rfl, by omega⟩
  · exfalso
    have : (v + 1) * B ≤ u * B := Nat.mul_le_mul_right B h1
    rw [Nat.add_mul, Nat.one_mul] at this
    omega
theorem dig_lt' {B u v c d : Nat} (hc : c < B) (h : u < v) : u * B + c < v * B + d := by
  have : (u + 1) * B ≤ v * B := Nat.mul_le_mul_right B h
  rw [Nat.add_mul, Nat.one_mul] at this
  omega
theorem dig_eq {B u v c d : Nat} (hc : c < B) (hd : d < B) (h : u * B + c = v * B + d) : u = v ∧ c = d := by
  rcases Nat.lt_trichotomy u v with h1 | h1 | h1
  · have := dig_lt' (B := B) (d := d) hc h1; omega
  · subst h1; exact ⟨rfl, by omega⟩
  · have := dig_lt' (B := B) (d := c) hd h1; omega
theorem pv_inj {B : Nat} {code : A → Nat} {acts : List A} (hB : 2 ≤ B) (hc : ∀ a ∈ acts, code a < B) (hi : ∀ a ∈ acts, ∀ b ∈ acts, code a = code b → a = b) (l : List A) :
    ∀ m : List A, (∀ a ∈ l, a ∈ acts) → (∀ a ∈ m, a ∈ acts) → pv B code l = pv B code m → l = m := by
  induction l using snoc_induct with
  | h0 =>
    intro m _ hm h
    rcases List.eq_nil_or_concat m with rfl | ⟨m', b, rfl⟩
    · rfl
    · have := pv_le_snoc (code := code) hB m' b
      have h2 := pv_pos (code := code) hB m'
      rw [pv_nil] at h; rw [List.concat_eq_append] at h; omega
  | h1 l a ih =>
    intro m hl hm h
    rcases List.eq_nil_or_concat m with rfl | ⟨m', b, rfl⟩
    · have := pv_le_snoc (code := code) hB l a
      have h2 := pv_pos (code := code) hB l
      rw [pv_nil] at h; omega
    · rw [List.concat_eq_append] at hm h ⊢
      rw [pv_snoc, pv_snoc] at h
      have ha := hl a (by simp)
      have hb := hm b (by simp)
      obtain ⟨h1, h2⟩ := dig_eq (hc a ha) (hc b hb) h
      rw [ih m' (fun x hx => hl x (by simp [hx])) (fun x hx => hm x (by simp [hx])) h1, hi a ha b hb h2]
/-! ### The search -/
variable (st : S → A → Option S) (B : Nat) (code : A → Nat) (acts : List A) (b0 : S)
/-- what is found is in order, and all acts of the first h, and the first k of the next one, were tried -/
structure Search (L : List (S × List A)) (h k : Nat) : Prop where
  first : L[0]? = some (b0, [])
  way : ∀ q ∈ L, run st b0 q.2 = some q.1 ∧ ∀ a ∈ q.2, a ∈ acts
  sorted : L.Pairwise fun p q => pv B code p.2 < pv B code q.2
  apart : L.Pairwise fun p q => p.1 ≠ q.1
  done : ∀ (i j : Nat) (hi : i < L.length) (hj : j < acts.length), (i < h ∨ i = h ∧ j < k) → ∀ y, st L[i].1 acts[j] = some y → ∃ q ∈ L, q.1 = y ∧ pv B code q.2 ≤ pv B code (L[i].2 ++ [acts[j]])
  from_ : ∀ q ∈ L, q.2 = [] ∨ ∃ (i j : Nat) (hi : i < L.length) (hj : j < acts.length), (i < h ∨ i = h ∧ j < k) ∧ q.2 = L[i].2 ++ [acts[j]]
/-- the acts are told apart by their codes, in order -/
structure Coded : Prop where
  two : 2 ≤ B
  lt : ∀ a ∈ acts, code a < B
  inc : acts.Pairwise fun a b => code a < code b
variable {st B code acts b0}
theorem Coded.mono (C : Coded B code acts) {i j : Nat} (hi : i < acts.length) (hj : j < acts.length) : code acts[i] < code acts[j] ↔ i < j := by
  have hp := List.pairwise_iff_getElem.1 C.inc
  constructor
  · intro h
    rcases Nat.lt_trichotomy i j with h1 | h1 | h1
    · exact h1
    · subst h1; omega
    · have := hp j i hj hi h1; omega
  · exact fun h => hp i j hi hj h
theorem Coded.inj (C : Coded B code acts) : ∀ a ∈ acts, ∀ b ∈ acts, code a = code b → a = b := by
  intro a ha b hb h
  obtain ⟨i, hi, rfl⟩ := List.mem_iff_getElem.1 ha
  obtain ⟨j, hj, rfl⟩ := List.mem_iff_getElem.1 hb
  have h1 := C.mono hi hj
  have h2 := C.mono hj hi
  have : i = j := by omega
  subst this; rfl
theorem Search.start (C : Coded B code acts) : Search st B code acts b0 [(b0, [])] 0 0 where
  first := rfl
  way := by intro q hq; simp at hq; subst hq; exact ⟨rfl, fun a ha => by cases ha⟩
  sorted := by simp
  apart := by simp
  done := by intro i j hi hj h; omega
  from_ := by intro q hq; simp at hq; subst hq; exact .inl rfl
theorem Search.order {L : List (S × List A)} {h k : Nat} (I : Search st B code acts b0 L h k) {i j : Nat} (hi : i < L.length) (hj : j < L.length) : pv B code L[i].2 < pv B code L[j].2 ↔ i < j := by
  have hp := List.pairwise_iff_getElem.1 I.sorted
  constructor
  · intro h
    rcases Nat.lt_trichotomy i j with h1 | h1 | h1
    · exact h1
    · subst h1; omega
    · have := hp j i hj hi h1; omega
  · exact fun h => hp i j hi hj h
/-- all that was found is before what is tried next -/
theorem Search.before {L : List (S × List A)} {h k : Nat} (C : Coded B code acts) (I : Search st B code acts b0 L h k) (hh : h < L.length) (hk : k < acts.length) : ∀ q ∈ L, pv B code q.2 < pv B code (L[h].2 ++ [acts[k]]) := by
  intro q hq
  rcases I.from_ q hq with e | ⟨i, j, hi, hj, hp, e⟩
  · rw [e, pv_nil]
    have h1 := pv_le_snoc (code := code) C.two L[h].2 acts[k]
    have h2 := pv_pos (code := code) C.two L[h].2
    omega
  · rw [e, pv_snoc, pv_snoc]
    rcases hp with hp | ⟨rfl, hp⟩
    · exact dig_lt' (C.lt _ (List.getElem_mem hj)) ((I.order hi hh).2 hp)
    · have := (C.mono hj hk).2 hp; omega
/-- an act that cannot be done, or leads to what is known -/
theorem Search.skip {L : List (S × List A)} {h k : Nat} (C : Coded B code acts) (I : Search st B code acts b0 L h k) (hh : h < L.length) (hk : k < acts.length) (hs : ∀ y, st L[h].1 acts[k] = some y → ∃ q ∈ L, q.1 = y) : Search st B code acts b0 L h (k + 1) where
  first := I.first
  way := I.way
  sorted := I.sorted
  apart := I.apart
  done := by
    intro i j hi hj hp y hy
    by_cases e : i = h ∧ j = k
    · obtain ⟨rfl, rfl⟩ := e
      obtain ⟨q, hq, e⟩ := hs y hy
      exact ⟨q, hq, e, Nat.le_of_lt (I.before C hh hk q hq)⟩
    · exact I.done i j hi hj (by omega) y hy
  from_ := by
    intro q hq
    rcases I.from_ q hq with e | ⟨i, j, hi, hj, hp, e⟩
    · exact .inl e
    · exact .inr ⟨i, j, hi, hj, by omega, e⟩
/-- an act that leads to something new -/
theorem Search.push {L : List (S × List A)} {h k : Nat} (C : Coded B code acts) (I : Search st B code acts b0 L h k) (hh : h < L.length) (hk : k < acts.length) {y : S} (hy : st L[h].1 acts[k] = some y) (hn : ∀ q ∈ L, q.1 ≠ y) : Search st B code acts b0 (L ++ [(y, L[h].2 ++ [acts[k]])]) h (k + 1) := by
  have hw := I.way _ (List.getElem_mem hh)
  have hg : ∀ (i : Nat) (hi : i < L.length) (hi' : i < (L ++ [(y, L[h].2 ++ [acts[k]])]).length), (L ++ [(y, L[h].2 ++ [acts[k]])])[i] = L[i] := fun i hi hi' => List.getElem_append_left hi
  refine ⟨?_, ?_, ?_, ?_, ?_, ?_⟩
  · rw [List.getElem?_append_left (by omega)]; exact I.first
  · intro q hq
    rcases List.mem_append.1 hq with hq | hq
    · exact I.way q hq
    · simp at hq; subst hq
      refine ⟨by rw [run_snoc, hw.1]; exact hy, fun a ha => ?_⟩
      rcases List.mem_append.1 ha with ha | ha
      · exact hw.2 a ha
      · simp at ha; subst ha; exact List.getElem_mem hk
  · rw [List.pairwise_append]
    exact ⟨I.sorted, by simp, fun p hp q hq => by simp at hq; subst hq; exact I.before C hh hk p hp⟩
  · rw [List.pairwise_append]
    exact ⟨I.apart, by simp, fun p hp q hq => by simp at hq; subst hq; exact hn p hp⟩
  · intro i j hi hj hp z hz
    have hi' : i < L.length := by omega
    rw [hg i hi'] at hz ⊢
    by_cases e : i = h ∧ j = k
    · obtain ⟨rfl, rfl⟩ := e
      rw [hy] at hz
      obtain rfl := Option.some.inj hz
      exact ⟨_, List.mem_append_right _ (List.mem_singleton.2 rfl), rfl, Nat.le_refl _⟩
    · obtain ⟨q, hq, e1, e2⟩ := I.done i j hi' hj (by omega) z hz
      exact ⟨q, List.mem_append_left _ hq, e1, e2⟩
  · intro q hq
    rcases List.mem_append.1 hq with hq | hq
    · rcases I.from_ q hq with e | ⟨i, j, hi, hj, hp, e⟩
      · exact .inl e
      · exact .inr ⟨i, j, by simp; omega, hj, by omega, by rw [hg i hi]; exact e⟩
    · simp at hq; subst hq
      exact .inr ⟨h, k, by simp; omega, hk, by omega, by rw [hg h hh]⟩
/-- the next one -/
theorem Search.next {L : List (S × List A)} {h : Nat} (I : Search st B code acts b0 L h acts.length) : Search st B code acts b0 L (h + 1) 0 where
  first := I.first
  way := I.way
  sorted := I.sorted
  apart := I.apart
  done := by intro i j hi hj hp; exact I.done i j hi hj (by omega)
  from_ := by
    intro q hq
    rcases I.from_ q hq with e | ⟨i, j, hi, hj, hp, e⟩
    · exact .inl e
    · exact .inr ⟨i, j, hi, hj, by omega, e⟩
/-- what all ways lead to that lie before what is tried next was found, by no greater a way -/
theorem Search.covers {L : List (S × List A)} {h k : Nat} (C : Coded B code acts) (I : Search st B code acts b0 L h k) (r : List A) :
    (∀ a ∈ r, a ∈ acts) → (∀ (i j : Nat) (hi : i < L.length) (hj : j < acts.length), pv B code (L[i].2 ++ [acts[j]]) ≤ pv B code r → i < h ∨ i = h ∧ j < k) → ∀ y, run st b0 r = some y → ∃ q ∈ L, q.1 = y ∧ pv B code q.2 ≤ pv B code r := by
  induction r using snoc_induct with
  | h0 =>
    intro _ _ y hy
    simp only [run, Option.some.injEq] at hy
    subst hy
    exact ⟨_, List.mem_of_getElem? I.first, rfl, Nat.le_refl _⟩
  | h1 r d ih =>
    intro hr hp y hy
    rw [run_snoc] at hy
    obtain ⟨z, hz, hy⟩ := Option.bind_eq_some_iff.1 hy
    have hle := Nat.le_of_lt (pv_le_snoc (code := code) C.two r d)
    obtain ⟨q, hq, rfl, hq2⟩ := ih (fun a ha => hr a (by simp [ha])) (fun i j hi hj h => hp i j hi hj (Nat.le_trans h hle)) z hz
    obtain ⟨i, hi, rfl⟩ := List.mem_iff_getElem.1 hq
    obtain ⟨j, hj, rfl⟩ := List.mem_iff_getElem.1 (hr d (by simp))
    have hc : pv B code (L[i].2 ++ [acts[j]]) ≤ pv B code (r ++ [acts[j]]) := by
      rw [pv_snoc, pv_snoc]
      have := Nat.mul_le_mul_right B hq2
      omega
    obtain ⟨q, hq, e1, e2⟩ := I.done i j hi hj (hp i j hi hj hc) y hy
    exact ⟨q, hq, e1, Nat.le_trans e2 hc⟩
/-- the least way to a goal; none if there is none -/
def Least (st : S → A → Option S) (B : Nat) (code : A → Nat) (acts : List A) (b0 : S) (goal : S → Bool) : Option (List A) → Prop
  | some l => (∀ a ∈ l, a ∈ acts) ∧ (∃ x, run st b0 l = some x ∧ goal x = true) ∧ ∀ r, (∀ a ∈ r, a ∈ acts) → ∀ y, run st b0 r = some y → goal y = true → pv B code l ≤ pv B code r
  | none => ∀ r, (∀ a ∈ r, a ∈ acts) → ∀ y, run st b0 r = some y → goal y = false
/-- a goal at the head -/
theorem Search.at_head {L : List (S × List A)} {h : Nat} (C : Coded B code acts) (I : Search st B code acts b0 L h 0) (hh : h < L.length) {goal : S → Bool} (hg : goal L[h].1 = true) (hno : ∀ (i : Nat) (hi : i < L.length), i < h → goal L[i].1 = false) : Least st B code acts b0 goal (some L[h].2) := by
  have hw := I.way _ (List.getElem_mem hh)
  refine ⟨hw.2, ⟨_, hw.1, hg⟩, fun r hr y hy hgy => ?_⟩
  apply Nat.le_of_not_lt
  intro hlt
  obtain ⟨q, hq, rfl, hq2⟩ := I.covers C r hr (fun i j hi hj hc => .inl ((I.order hi hh).1 (by have := pv_le_snoc (code := code) C.two L[i].2 acts[j]; omega))) y hy
  obtain ⟨i, hi, rfl⟩ := List.mem_iff_getElem.1 hq
  have := hno i hi ((I.order hi hh).1 (by omega))
  rw [this] at hgy; cases hgy
/-- a goal that an act leads to -/
theorem Search.at_act {L : List (S × List A)} {h k : Nat} (C : Coded B code acts) (I : Search st B code acts b0 L h k) (hh : h < L.length) (hk : k < acts.length) {goal : S → Bool} {y : S} (hy : st L[h].1 acts[k] = some y) (hg : goal y = true) (hno : ∀ q ∈ L, goal q.1 = false) : Least st B code acts b0 goal (some (L[h].2 ++ [acts[k]])) := by
  have hw := I.way _ (List.getElem_mem hh)
  refine ⟨fun a ha => ?_, ⟨y, by rw [run_snoc, hw.1]; exact hy, hg⟩, fun r hr z hz hgz => ?_⟩
  · rcases List.mem_append.1 ha with ha | ha
    · exact hw.2 a ha
    · simp at ha; subst ha; exact List.getElem_mem hk
  · apply Nat.le_of_not_lt
    intro hlt
    obtain ⟨q, hq, rfl, _⟩ := I.covers C r hr (fun i j hi hj hc => by
      have h1 : pv B code (L[i].2 ++ [acts[j]]) < pv B code (L[h].2 ++ [acts[k]]) := by omega
      rw [pv_snoc, pv_snoc] at h1
      rcases dig_lt (C.lt _ (List.getElem_mem hj)) (C.lt _ (List.getElem_mem hk)) h1 with h2 | ⟨h2, h3⟩
      · exact .inl ((I.order hi hh).1 h2)
      · refine .inr ⟨?_, (C.mono hj hk).1 h3⟩
        have a1 := (I.order hi hh).2
        have a2 := (I.order hh hi).2
        omega) z hz
    rw [hno q hq] at hgz; cases hgz
/-- nothing left to try -/
theorem Search.at_end {L : List (S × List A)} (C : Coded B code acts) (I : Search st B code acts b0 L L.length 0) {goal : S → Bool} (hno : ∀ q ∈ L, goal q.1 = false) : Least st B code acts b0 goal none := by
  intro r hr y hy
  obtain ⟨q, hq, rfl, _⟩ := I.covers C r hr (fun i j hi hj _ => .inl hi) y hy
  exact hno q hq
theorem Least.unique (C : Coded B code acts) {goal : S → Bool} {r r' : Option (List A)} (h : Least st B code acts b0 goal r) (h' : Least st B code acts b0 goal r') : r = r' := by
  cases r with
  | none =>
    cases r' with
    | none => rfl
    | some l =>
      obtain ⟨x, hx, hg⟩ := h'.2.1
      rw [h l h'.1 x hx] at hg; cases hg
  | some l =>
    cases r' with
    | none =>
      obtain ⟨x, hx, hg⟩ := h.2.1
      rw [h' l h.1 x hx] at hg; cases hg
    | some m =>
      obtain ⟨x, hx, hg⟩ := h.2.1
      obtain ⟨y, hy, hg'⟩ := h'.2.1
      have h1 := h.2.2 m h'.1 y hy hg'
      have h2 := h'.2.2 l h.1 x hx hg
      rw [pv_inj C.two C.lt C.inj l m h.1 h'.1 (by omega)]
end
end Bal.Mast

/-
  Plans at the mast: more people on the lines lead to no other places. No program in sight.
-/
namespace Bal.Mast
open Bal.Trim
set_option linter.unusedVariables false
/-- an act in a wind: where it leads -/
def stepB (p : Port) (w : Wind) (b : Berth) (a : Deed) : Option Berth := if doE p b ⟨a, w⟩ = 0 then some (doB p b ⟨a, w⟩) else none
def goalB (s : Int) (b : Berth) : Bool := decide (b.ship = s)
/-- the numbers from lo on, n of them -/
def upFrom (lo : Int) (n : Nat) : List Int := (List.range n).map fun i : Nat => lo + (i : Int)
theorem mem_upFrom {lo x : Int} {n : Nat} : x ∈ upFrom lo n ↔ lo ≤ x ∧ x < lo + n := by
  simp only [upFrom, List.mem_map, List.mem_range]
  constructor
  · rintro ⟨i, hi, rfl⟩; omega
  · intro h; exact ⟨(x - lo).toNat, by omega, by omega⟩
/-- the numbers that an act of a kind is tried with: the program's, the reference's -/
def numsP (p : Port) (k : Int) : List Int := if k = 2 then upFrom (needP p) (min (needP p) p.people - needP p + 1).toNat else if k = 9 then upFrom 0 p.axes.length else [0]
def numsR (p : Port) (k : Int) : List Int := if k = 2 then upFrom (needP p) (p.people - needP p + 1).toNat else if k = 9 then upFrom 0 p.axes.length else [0]
def actsOf (nums : Int → List Int) : List Deed := (upFrom 1 13).flatMap fun k => (nums k).map fun n => ⟨k, n⟩
def codeD (a : Deed) : Nat := a.kind.toNat * 256 + a.n.toNat
theorem mem_acts {nums : Int → List Int} {a : Deed} : a ∈ actsOf nums ↔ (1 ≤ a.kind ∧ a.kind ≤ 13) ∧ a.n ∈ nums a.kind := by
  simp only [actsOf, List.mem_flatMap, List.mem_map, mem_upFrom]
  constructor
  · rintro ⟨k, hk, n, hn, rfl⟩; exact ⟨by simp only; omega, hn⟩
  · rintro ⟨hk, hn⟩; exact ⟨a.kind, by omega, a.n, hn, rfl⟩
theorem upFrom_inc (lo : Int) (n : Nat) : (upFrom lo n).Pairwise (· < ·) := by
  unfold upFrom
  rw [List.pairwise_map]
  exact List.Pairwise.imp (fun h => by omega) List.pairwise_lt_range
theorem coded {nums : Int → List Int} (hb : ∀ k, 1 ≤ k → k ≤ 13 → (∀ n ∈ nums k, 0 ≤ n ∧ n ≤ 255) ∧ (nums k).Pairwise (· < ·)) : Coded 4096 codeD (actsOf nums) where
  two := by omega
  lt := by
    intro a ha
    obtain ⟨h1, h2⟩ := mem_acts.1 ha
    have := (hb a.kind h1.1 h1.2).1 _ h2
    unfold codeD
    omega
  inc := by
    unfold actsOf
    rw [List.pairwise_flatMap]
    refine ⟨fun k hk => ?_, ?_⟩
    · have h1 := mem_upFrom.1 hk
      rw [List.pairwise_map]
      obtain ⟨q1, q2⟩ := hb k h1.1 (by omega)
      exact List.Pairwise.imp_of_mem (fun {x y} hx hy hxy => by have := q1 x hx; have := q1 y hy; unfold codeD; simp only; omega) q2
    · refine List.Pairwise.imp_of_mem (fun {j k} hj hk hjk => ?_) (upFrom_inc 1 13)
      have h1 := mem_upFrom.1 hj
      have h2 := mem_upFrom.1 hk
      intro x hx y hy
      obtain ⟨n, hn, rfl⟩ := List.mem_map.1 hx
      obtain ⟨m, hm, rfl⟩ := List.mem_map.1 hy
      have q1 := (hb j h1.1 (by omega)).1 n hn
      have q2 := (hb k h2.1 (by omega)).1 m hm
      unfold codeD; simp only; omega
theorem nums_ok {p : Port} (hp : portB p = true) : (∀ k, 1 ≤ k → k ≤ 13 → (∀ n ∈ numsP p k, 0 ≤ n ∧ n ≤ 255) ∧ (numsP p k).Pairwise (· < ·)) ∧ (∀ k, 1 ≤ k → k ≤ 13 → (∀ n ∈ numsR p k, 0 ≤ n ∧ n ≤ 255) ∧ (numsR p k).Pairwise (· < ·)) := by
  have hb := portB_bd hp
  have hn := needP_bd hp
  constructor
  · intro k _ _
    unfold numsP
    split
    · exact ⟨fun n hn => by have := mem_upFrom.1 hn; omega, upFrom_inc _ _⟩
    · split
      · exact ⟨fun n hn => by have := mem_upFrom.1 hn; omega, upFrom_inc _ _⟩
      · exact ⟨fun n hn => by simp at hn; omega, by simp⟩
  · intro k _ _
    unfold numsR
    split
    · exact ⟨fun n hn => by have := mem_upFrom.1 hn; omega, upFrom_inc _ _⟩
    · split
      · exact ⟨fun n hn => by have := mem_upFrom.1 hn; omega, upFrom_inc _ _⟩
      · exact ⟨fun n hn => by simp at hn; omega, by simp⟩
/-- what an act does to a valid berth is valid -/
theorem doErr_parts {p : Port} {b : Berth} {s : Step} (h : doErr p b s = 0) : portB p = true ∧ berthB p b = true ∧ windB s.wind = true ∧ 1 ≤ s.act.kind ∧ s.act.kind ≤ 13 := by
  unfold doErr at h
  by_cases c1 : checkBerth p b = 0
  · rw [if_pos c1] at h
    unfold checkBerth at c1
    cases c2 : windB s.wind
    · rw [c2] at h; simp at h
    · rw [c2] at h
      cases c3 : inB s.act.kind 1 13
      · rw [c3] at h; simp at h
      · have := inB_iff.1 c3
        cases c4 : portB p
        · rw [c4] at c1; simp at c1
        · cases c5 : berthB p b
          · rw [c4, c5] at c1; simp at c1
          · exact ⟨rfl, rfl, rfl, this.1, this.2⟩
  · rw [if_neg c1] at h; exact absurd h c1
theorem doE_zero {p : Port} {b : Berth} {s : Step} : doE p b s = 0 ↔ doErr p b s = 0 ∧ tryR p (dockOf p b s) s.act.kind = 0 := by
  unfold doE doRule
  by_cases h : doErr p b s = 0
  · rw [if_pos h, if_pos h]
    by_cases h2 : tryR p (dockOf p b s) s.act.kind = 0
    · simp [h, h2]
    · simp [h, h2]
  · rw [if_neg h]
    simp [h]
theorem doB_done {p : Port} {b : Berth} {s : Step} (h : doE p b s = 0) : doB p b s = doneB (dockOf p b s) s.act.kind := by unfold doB; rw [if_pos h]
theorem berthB_of {p : Port} {b : Berth} (h1 : b.ship ≤ 5) (h2 : 0 ≤ b.axis) (h3 : b.axis ≤ p.axes.length - 1) (h4 : b.held = 0 ∨ needP p ≤ b.held ∧ b.held ≤ p.people) (h5 : shipB b = true) : berthB p b = true := by
  simp only [berthB, fitsB, Bool.and_eq_true, Bool.or_eq_true, decide_eq_true_eq, inB_iff]
  exact ⟨⟨⟨h1, h2, h3⟩, h4⟩, h5⟩
theorem kept_valid {p : Port} {b : Berth} {s : Step} (h0 : 0 ≤ b.ship) (h : doE p b s = 0) : berthB p (doB p b s) = true := by
  rw [doB_done h]
  obtain ⟨he, ht⟩ := doE_zero.1 h
  obtain ⟨hp, hb, _, k1, k2⟩ := doErr_parts he
  have hnd := needP_bd hp
  obtain ⟨h5, ⟨ha1, ha2⟩, hh, hs⟩ := berth_parts hb
  have hall := firstNot_zero ht
  obtain ⟨⟨t, n⟩, wd⟩ := s
  obtain ⟨sh, ax, he', wi, op⟩ := b
  simp only [dockOf] at *
  rcases ship_parts hs h5 h0 with ⟨e, q⟩ | ⟨e, q⟩ | ⟨e, q⟩ | ⟨e, q⟩ | ⟨e, q⟩ | ⟨e, q⟩ <;> (simp only at e q; subst e) <;>
  rcases (by omega : t = 1 ∨ t = 2 ∨ t = 3 ∨ t = 4 ∨ t = 5 ∨ t = 6 ∨ t = 7 ∨ t = 8 ∨ t = 9 ∨ t = 10 ∨ t = 11 ∨ t = 12 ∨ t = 13) with rfl | rfl | rfl | rfl | rfl | rfl | rfl | rfl | rfl | rfl | rfl | rfl | rfl <;>
  first
  | (exfalso; simp [rulesOf, away, reached, tied, lined, masted, housed, walking, fast, still] at hall; done)
  | (simp [rulesOf, away, reached, tied, lined, masted, housed, walking, fast, still, loose, bare, gripped, crew, elsewhere, shut, wired, opened, inB_iff] at hall
     refine berthB_of ?_ ?_ ?_ ?_ ?_ <;> simp [doneB, toShip, shipB, fast, masted, housed, hall] <;> first | omega | (simp_all; done) | (simp_all; omega))
/-- two berths that differ in how many people hold the lines alone -/
def Alike (p : Port) (x y : Berth) : Prop := (0 ≤ x.ship ∧ berthB p x = true) ∧ (berthB p y = true) ∧ x.ship = y.ship ∧ x.axis = y.axis ∧ x.wire = y.wire ∧ x.opn = y.opn ∧ (x.held = 0 ↔ y.held = 0)
/-- as few people as are needed -/
def fewest (p : Port) (a : Deed) : Deed := if a.kind = 2 then ⟨2, needP p⟩ else a
theorem alike_step {p : Port} {w : Wind} {x y x' : Berth} {a : Deed} (hxy : Alike p x y) (ha : a ∈ actsOf (numsR p)) (h : stepB p w x a = some x') : ∃ y', stepB p w y (fewest p a) = some y' ∧ Alike p x' y' := by
  obtain ⟨⟨hx0, hxv⟩, hyv, e1, e2, e3, e4, e5⟩ := hxy
  unfold stepB at h ⊢
  split at h
  · rename_i hd
    obtain rfl := Option.some.inj h
    obtain ⟨he, ht⟩ := doE_zero.1 hd
    obtain ⟨hp, hb, hw, k1, k2⟩ := doErr_parts he
    have hnd := needP_bd hp
    obtain ⟨_, hn⟩ := mem_acts.1 ha
    have hxh := (berth_parts hxv).2.2.1
    have hyh := (berth_parts hyv).2.2.1
    have hall := firstNot_zero ht
    obtain ⟨t, n⟩ := a
    obtain ⟨sh, ax, he', wi, op⟩ := x
    obtain ⟨sh2, ax2, he2, wi2, op2⟩ := y
    simp only at *
    subst e1 e2 e3 e4
    have hdo : doErr p ⟨sh, ax, he2, wi, op⟩ ⟨fewest p ⟨t, n⟩, w⟩ = 0 := by
      unfold doErr checkBerth
      have hk : (fewest p ⟨t, n⟩).kind = t := by unfold fewest; simp only; split <;> simp [*]
      simp only [hp, hyv, hw, if_true, hk]
      rw [if_pos (inB_iff.2 ⟨k1, k2⟩)]
    have htr : tryR p (dockOf p ⟨sh, ax, he2, wi, op⟩ ⟨fewest p ⟨t, n⟩, w⟩) (fewest p ⟨t, n⟩).kind = 0 := by
      have g1 : decide (0 < he2) = decide (0 < he') := by apply decide_eq_decide.2; omega
      have g2 : decide (he2 = 0) = decide (he' = 0) := by apply decide_eq_decide.2; omega
      by_cases ht2 : t = 2
      · subst ht2
        have q1 := hall (reached ⟨⟨sh, ax, he', wi, op⟩, needP p, w, n⟩) (by simp [rulesOf, dockOf])
        have q2 := hall (loose ⟨⟨sh, ax, he', wi, op⟩, needP p, w, n⟩) (by simp [rulesOf, dockOf])
        have q3 := hall (crew p ⟨⟨sh, ax, he', wi, op⟩, needP p, w, n⟩) (by simp [rulesOf, dockOf])
        refine firstNot_all (fun x hx => ?_)
        have hx' : x ∈ rulesOf p ⟨⟨sh, ax, he2, wi, op⟩, needP p, w, needP p⟩ 2 := hx
        simp only [rulesOf, List.mem_cons, List.not_mem_nil, or_false] at hx'
        rcases hx' with rfl | rfl | rfl
        · exact q1
        · unfold loose at q2 ⊢; simp only at q2 ⊢; rw [g2]; exact q2
        · unfold crew at q3 ⊢
          simp only [inB_iff] at q3 ⊢
          omega
      · have hf : fewest p ⟨t, n⟩ = ⟨t, n⟩ := by unfold fewest; rw [if_neg ht2]
        rw [hf]
        have q1 : gripped (dockOf p ⟨sh, ax, he2, wi, op⟩ ⟨⟨t, n⟩, w⟩) = gripped (dockOf p ⟨sh, ax, he', wi, op⟩ ⟨⟨t, n⟩, w⟩) := g1
        have q2 : loose (dockOf p ⟨sh, ax, he2, wi, op⟩ ⟨⟨t, n⟩, w⟩) = loose (dockOf p ⟨sh, ax, he', wi, op⟩ ⟨⟨t, n⟩, w⟩) := g2
        have hr : rulesOf p (dockOf p ⟨sh, ax, he2, wi, op⟩ ⟨⟨t, n⟩, w⟩) t = rulesOf p (dockOf p ⟨sh, ax, he', wi, op⟩ ⟨⟨t, n⟩, w⟩) t := by
          rcases (by omega : t = 1 ∨ t = 3 ∨ t = 4 ∨ t = 5 ∨ t = 6 ∨ t = 7 ∨ t = 8 ∨ t = 9 ∨ t = 10 ∨ t = 11 ∨ t = 12 ∨ t = 13) with rfl | rfl | rfl | rfl | rfl | rfl | rfl | rfl | rfl | rfl | rfl | rfl <;>
          simp only [rulesOf] <;> first | rfl | (rw [q1]; rfl) | (rw [q2]; rfl)
        unfold tryR at ht ⊢
        rw [hr]; exact ht
    have hd2 : doE p ⟨sh, ax, he2, wi, op⟩ ⟨fewest p ⟨t, n⟩, w⟩ = 0 := doE_zero.2 ⟨hdo, htr⟩
    refine ⟨_, by rw [if_pos hd2], ⟨doB_ship hx0, kept_valid hx0 hd⟩, kept_valid (b := ⟨sh, ax, he2, wi, op⟩) hx0 hd2, ?_⟩
    rw [doB_done hd, doB_done hd2]
    by_cases ht2 : t = 2
    · subst ht2
      have q3 := hall (crew p ⟨⟨sh, ax, he', wi, op⟩, needP p, w, n⟩) (by simp [rulesOf, dockOf])
      unfold crew at q3
      simp only [inB_iff] at q3
      refine ⟨rfl, rfl, rfl, rfl, ?_⟩
      show n = 0 ↔ needP p = 0
      omega
    · have hf : fewest p ⟨t, n⟩ = ⟨t, n⟩ := by unfold fewest; rw [if_neg ht2]
      rw [hf]
      rcases (by omega : t = 1 ∨ t = 3 ∨ t = 4 ∨ t = 5 ∨ t = 6 ∨ t = 7 ∨ t = 8 ∨ t = 9 ∨ t = 10 ∨ t = 11 ∨ t = 12 ∨ t = 13) with rfl | rfl | rfl | rfl | rfl | rfl | rfl | rfl | rfl | rfl | rfl | rfl <;>
      exact ⟨rfl, rfl, rfl, rfl, by first | exact e5 | exact Iff.rfl⟩
  · cases h
theorem alike_run {p : Port} {w : Wind} : ∀ {r : List Deed} {x y z : Berth}, Alike p x y → (∀ a ∈ r, a ∈ actsOf (numsR p)) → run (stepB p w) x r = some z → ∃ z', run (stepB p w) y (r.map (fewest p)) = some z' ∧ Alike p z z'
  | [], x, y, z, h, _, hr => by
    simp only [run, Option.some.injEq] at hr
    subst hr
    exact ⟨y, rfl, h⟩
  | a :: r, x, y, z, h, ha, hr => by
    simp only [run] at hr
    obtain ⟨x', h1, h2⟩ := Option.bind_eq_some_iff.1 hr
    obtain ⟨y', h3, h4⟩ := alike_step h (ha a (by simp)) h1
    obtain ⟨z', h5, h6⟩ := alike_run h4 (fun b hb => ha b (by simp [hb])) h2
    exact ⟨z', by simp only [List.map_cons, run, h3, Option.bind_some]; exact h5, h6⟩
theorem fewest_mem {p : Port} {a : Deed} (h : a ∈ actsOf (numsR p)) : fewest p a ∈ actsOf (numsP p) := by
  obtain ⟨h1, h2⟩ := mem_acts.1 h
  unfold fewest
  split
  · rename_i e
    rw [e] at h2
    unfold numsR at h2
    rw [if_pos rfl, mem_upFrom] at h2
    refine mem_acts.2 ⟨by simp, ?_⟩
    unfold numsP
    rw [if_pos rfl, mem_upFrom]
    simp only
    omega
  · rename_i e
    refine mem_acts.2 ⟨h1, ?_⟩
    unfold numsR at h2
    unfold numsP
    rw [if_neg e] at h2 ⊢
    exact h2
theorem actsP_sub {p : Port} {a : Deed} (h : a ∈ actsOf (numsP p)) : a ∈ actsOf (numsR p) := by
  obtain ⟨h1, h2⟩ := mem_acts.1 h
  refine mem_acts.2 ⟨h1, ?_⟩
  unfold numsP at h2
  unfold numsR
  split at h2
  · rename_i e
    rw [if_pos e]
    rw [mem_upFrom] at h2 ⊢
    omega
  · rename_i e
    rw [if_neg e]
    exact h2
theorem fewest_le {p : Port} (hp : portB p = true) {a : Deed} (h : a ∈ actsOf (numsR p)) : codeD (fewest p a) ≤ codeD a := by
  obtain ⟨h1, h2⟩ := mem_acts.1 h
  unfold fewest
  split
  · rename_i e
    rw [e] at h2
    unfold numsR at h2
    rw [if_pos rfl, mem_upFrom] at h2
    have := needP_bd hp
    unfold codeD
    rw [e]
    simp only
    omega
  · exact Nat.le_refl _
theorem pv_fewest {p : Port} (hp : portB p = true) (r : List Deed) : (∀ a ∈ r, a ∈ actsOf (numsR p)) → pv 4096 codeD (r.map (fewest p)) ≤ pv 4096 codeD r := by
  induction r using snoc_induct with
  | h0 => intro _; exact Nat.le_refl _
  | h1 r a ih =>
    intro h
    rw [List.map_append, List.map_singleton, pv_snoc, pv_snoc]
    have h1 := ih (fun b hb => h b (by simp [hb]))
    have h2 := fewest_le hp (h a (by simp))
    omega
/-- the least plan with as few people as are needed is the least of all -/
theorem plan_same {p : Port} {w : Wind} {b : Berth} {s : Int} (hp : portB p = true) (h0 : 0 ≤ b.ship) (hb : berthB p b = true) {r : Option (List Deed)} (h : Least (stepB p w) 4096 codeD (actsOf (numsP p)) b (goalB s) r) :
    Least (stepB p w) 4096 codeD (actsOf (numsR p)) b (goalB s) r := by
  have hself : Alike p b b := ⟨⟨h0, hb⟩, hb, rfl, rfl, rfl, rfl, Iff.rfl⟩
  have key : ∀ q : List Deed, (∀ a ∈ q, a ∈ actsOf (numsR p)) → ∀ y, run (stepB p w) b q = some y → ∃ y', run (stepB p w) b (q.map (fewest p)) = some y' ∧ y.ship = y'.ship := fun q hq y hy => by
    obtain ⟨y', h1, h2⟩ := alike_run hself hq hy
    exact ⟨y', h1, h2.2.2.1⟩
  have hmap : ∀ q : List Deed, (∀ a ∈ q, a ∈ actsOf (numsR p)) → ∀ a ∈ q.map (fewest p), a ∈ actsOf (numsP p) := fun q hq a ha => by
    obtain ⟨c, hc, rfl⟩ := List.mem_map.1 ha
    exact fewest_mem (hq c hc)
  cases r with
  | none =>
    intro q hq y hy
    obtain ⟨y', h1, h2⟩ := key q hq y hy
    have := h _ (hmap q hq) y' h1
    unfold goalB at this ⊢
    rw [h2]; exact this
  | some l =>
    refine ⟨fun a ha => actsP_sub (h.1 a ha), h.2.1, fun q hq y hy hg => ?_⟩
    obtain ⟨y', h1, h2⟩ := key q hq y hy
    have := h.2.2 _ (hmap q hq) y' h1 (by unfold goalB at hg ⊢; rw [← h2]; exact hg)
    exact Nat.le_trans this (pv_fewest hp q hq)
end Bal.Mast

/-
  An empty slice that a call has made, and lists appended to it. No program in sight.
-/
namespace Bal
open Go Go.RowKit
set_option linter.unusedVariables false
theorem owns_made {α : Type} {enc : α → List Value} {base k n : Nat} {e : TypeId} {w : World} (hn : n = w.heap.size) (hb : base ≤ w.heap.size) : (w.alloc (.cells #[] e)).ownsRow base e k (.slice (some ⟨n, 0, none⟩) 0 0) ([] : List α).length (([] : List α).flatMap enc) := by
  subst hn
  refine ⟨by simp, .inr ⟨w.heap.size, 0, #[], rfl, hb, Blk.new, Nat.le_refl _, by simp [maxLen], by simp, by simp⟩⟩
/-- THE COPY OF A LIST: append to an empty slice of the call's own -/
theorem wpList_copy {α : Type} {enc : α → List Value} {P : Program} {w0 w : World} {ops : Array Oper} {rest : List Oper} {o : Oper} {a : Act} {Q : Exit → Act → World → Prop} (hgd : o.guard = none) (s x : Operand) (t : TypeId)
    (ho : o.op = .call { callee := .builtin .append, args := #[s, x], argTypes := #[t, t] })
    (base : Nat) (e : TypeId) (z : Value) (size bytes : Nat) (ht : P.underlying t = some (.slice e)) (hinfo : (P.info? e).map (fun i => (i.zero, i.size, i.bytes)) = some (some z, size, bytes))
    (hzs : z.cells.size = size) (hsz : 0 < size) (he : ∀ x : α, (enc x).length = size) (h1 : ∀ (x : α), ∀ u ∈ enc x, u.oneCell' = true)
    (n : Nat) (hn : n = w.heap.size) (hs : a.eval s = .slice (some ⟨n, 0, none⟩) 0 0)
    (ad : Option Addr) (c : Nat) (ys : List α) (hx : a.eval x = .slice ad ys.length c) (hc : ad = none → c = 0) (hrow : Row enc size w0.heap.size w0 ad ys) (hk : Kept w0 w) (hbase : base = w0.heap.size)
    (h63 : ys.length ≤ 1000000) (hbytes : bytes ≤ 100000)
    (h : ∀ ad' cp w', Row enc size w'.heap.size w' ad' ys → ys.length ≤ cp → cp ≤ maxLen → Kept w0 w' → Kept w w' → wpList P ops Q rest (a.put o.dst (.slice ad' ys.length cp)) w') :
    wpList P ops Q (o :: rest) a (w.alloc (.cells #[] e)) := by
  subst hbase
  obtain ⟨i, hi, hz, hsize, hby⟩ := info_parts hinfo
  have hsz0 := hk.size
  have hown0 : (w.alloc (.cells #[] e)).ownsRow w0.heap.size e size (.slice (some ⟨n, 0, none⟩) 0 0) ([] : List α).length (([] : List α).flatMap enc) := owns_made hn hsz0
  have hm : ys.length * bytes ≤ 1000000 * 100000 := Nat.mul_le_mul h63 hbytes
  refine wpList_append_list hgd s x t ho w0.heap.size e i z size bytes ht hi hz hsize hby hzs hsz he h1 _ [] hs hown0 ad c ys hx hc (hrow.keep (Kept.alloc hk _) (Nat.le_refl _)) (by simp [maxLen]; omega) (by simp; omega) (by show w0.heap.size ≤ (w.heap.push _).size; simp; omega) ?_
  intro v' w' hown hgrow
  have hk' : Kept w0 w' := Kept.grown (Kept.alloc hk _) hown0 (Nat.le_refl _) hgrow
  have hk2 : Kept w w' := by
    have hown1 : (w.alloc (.cells #[] e)).ownsRow w.heap.size e size (.slice (some ⟨n, 0, none⟩) 0 0) ([] : List α).length (([] : List α).flatMap enc) := owns_made hn (Nat.le_refl _)
    exact Kept.grown (Kept.alloc (Below.refl _ _) _) hown1 (Nat.le_refl _) hgrow
  rw [List.nil_append] at hown
  obtain ⟨ad', cp', rfl, hrow', h5, h6⟩ := Row.of_owns he hown
  exact h ad' cp' w' hrow' h5 h6 hk' hk2
end Bal

/-
  Acts and berths in lists.
-/
namespace Go.Proofs.Ytacbkbilbmkjnaa
open Go.RowKit Bal Bal.Trim Bal.Mast
set_option linter.unusedVariables false
set_option linter.unusedSimpArgs false
set_option maxHeartbeats 2000000
set_option maxRecDepth 10000

def Deed.cells (a : Deed) : List Value := [.int .u8 a.kind, .int .i64 a.n]
theorem deed_len (x : Deed) : (Deed.cells x).length = 2 := rfl
theorem berth_len (x : Berth) : (Berth.cells x).length = 5 := rfl
theorem Deed.row {B : Nat} {w : World} {a : Option Addr} {xs : List Deed} (h : Row Deed.cells 2 B w a xs) (i : Nat) (hi : i < xs.length) :
    ∃ b off, a = some ⟨b, off, none⟩ ∧ b < B ∧ w.cell? ⟨b, off + i * 2, none⟩ = some (.int .u8 xs[i].kind) ∧ w.cell? ⟨b, off + i * 2 + 1, none⟩ = some (.int .i64 xs[i].n) := by
  obtain ⟨b, off, ha, hb, hc⟩ := h i xs[i] (by simp [hi])
  exact ⟨b, off, ha, hb, hc 0 _ rfl, hc 1 _ rfl⟩
theorem Berth.row {B : Nat} {w : World} {a : Option Addr} {xs : List Berth} (h : Row Berth.cells 5 B w a xs) (i : Nat) (hi : i < xs.length) :
    ∃ b off, a = some ⟨b, off, none⟩ ∧ b < B ∧ w.cell? ⟨b, off + i * 5, none⟩ = some (.int .u8 xs[i].ship) ∧ w.cell? ⟨b, off + i * 5 + 1, none⟩ = some (.int .i64 xs[i].axis) ∧ w.cell? ⟨b, off + i * 5 + 2, none⟩ = some (.int .i64 xs[i].held) ∧ w.cell? ⟨b, off + i * 5 + 3, none⟩ = some (.bool xs[i].wire) ∧ w.cell? ⟨b, off + i * 5 + 4, none⟩ = some (.bool xs[i].opn) := by
  obtain ⟨b, off, ha, hb, hc⟩ := h i xs[i] (by simp [hi])
  exact ⟨b, off, ha, hb, hc 0 _ rfl, hc 1 _ rfl, hc 2 _ rfl, hc 3 _ rfl, hc 4 _ rfl⟩
theorem infoDeed : (Try.prog.info? 61).map (fun i => (i.zero, i.size, i.bytes)) = some (some (.agg #[.int .u8 0, .int .i64 0]), 2, 16) := by kernel_rfl
theorem infoBerth : (Try.prog.info? 59).map (fun i => (i.zero, i.size, i.bytes)) = some (some (.agg #[.int .u8 0, .int .i64 0, .int .i64 0, .bool false, .bool false]), 5, 32) := by kernel_rfl
theorem eq_berth (x y : Berth) {z : Bool} (h : decide (x = y) = z) (w : World) : (binOp .eql 59 (.agg #[.int .u8 x.ship, .int .i64 x.axis, .int .i64 x.held, .bool x.wire, .bool x.opn]) (.agg #[.int .u8 y.ship, .int .i64 y.axis, .int .i64 y.held, .bool y.wire, .bool y.opn])).run Try.prog w = .ok (.bool z) w := by
  subst h
  obtain ⟨x1, x2, x3, x4, x5⟩ := x
  obtain ⟨y1, y2, y3, y4, y5⟩ := y
  simp only [Berth.mk.injEq]
  simp [go_sem]
  by_cases h1 : x1 = y1 <;> by_cases h2 : x2 = y2 <;> by_cases h3 : x3 = y3 <;> cases x4 <;> cases y4 <;> cases x5 <;> cases y5 <;> simp [h1, h2, h3]

theorem r_SameActs (a b : Option Addr) (c d : Nat) (xs : List Deed) (w : World) (hx : Row Deed.cells 2 w.heap.size w a xs) (hy : Row Deed.cells 2 w.heap.size w b xs) (hc : xs.length ≤ c) (hd : xs.length ≤ d) (hM : c ≤ maxLen) (hN : d ≤ maxLen) :
    Calls Try.prog 34 #[.slice a xs.length c, .slice b xs.length d] w fun e w' => e = .returned (.bool true) ∧ Kept w w' := by
  unfold maxLen at hM hN
  go_enter Try.func34, Try.ntmps34
  go_wp2
  go_loopw [5] (fun i wr => ∃ k : Nat, k ≤ xs.length ∧ i = .int .i64 k ∧ Kept w wr) (fun i _ => xs.length - (intOf i).toNat)
  case atStart => exact ⟨0, Nat.zero_le _, rfl, Below.refl _ _⟩
  case round =>
    obtain ⟨k, hk, rfl, hkk⟩ := hrel
    by_cases hlt : k < xs.length
    · obtain ⟨b1, o1, rfl, hb1, h0, h1⟩ := Deed.row (hx.later hkk (Nat.le_refl _)) k hlt
      obtain ⟨b2, o2, rfl, hb2, j0, j1⟩ := Deed.row (hy.later hkk (Nat.le_refl _)) k hlt
      have x0 := fun g : Later wr => g.some h0
      have y0 := fun g : Later wr => g.some j0
      have x1 := fun g : Later wr => g.some h1
      have y1 := fun g : Later wr => g.some j1
      go_upto_region 6 with fail
      refine Later.region (by kernel_rfl) (by kernel_rfl) ?_
      repeat (first | go_big_quiet_skip | (go_big_quiet_want; go_big_quiet_op; first | go_big_quiet_on | (apply Exists.intro; refine ⟨fun g => ?_, ?_⟩; (focus (first | fail)); go_big_quiet_on)))
      refine wpQuiet_nil ?_
      intro gg
      have hkgg := Kept.drop hkk gg.ok
      go_wp2
      go_roundw
      case rel => exact ⟨k + 1, by omega, by go_num, by (exact kpt)⟩
      case measure => simp [intOf]; omega
    · obtain rfl : k = xs.length := by omega
      go_wp2
      go_ret
      exact ⟨rfl, hkk⟩

theorem s_CloneA (a : Option Addr) (cap : Nat) (xs : List Deed) (w : World) (hx : Row Deed.cells 2 w.heap.size w a xs) (hn : xs.length ≤ 1000000) (hz : a = none → cap = 0) :
    Calls Try.prog 78 #[.slice a xs.length cap] w fun e w' => ∃ v, e = .returned v ∧ w'.ownsRow w.heap.size 61 2 v xs.length (xs.flatMap Deed.cells) ∧ Kept w w' := by
  cases a with
  | none =>
    have hl : xs = [] := by
      cases xs with
      | nil => rfl
      | cons y ys => obtain ⟨b, off, ha, _⟩ := hx 0 y rfl; cases ha
    subst hl
    have := hz rfl
    subst this
    have hs0 : ∀ w, (binOp .eql 79 (.slice none 0 0) (.slice none 0 0)).run Try.prog w = .ok (.bool true) w := fun w => Lib.run_eql_slice_nil w _ _ _ _ _ _ _ Try.underlying79
    go_enter Try.func78, Try.ntmps78
    go_wp2
    exact bodyPost_ret (v := .slice none 0 0) (by simp [results, Try.results78, go_sem]) rfl ⟨_, rfl, owns_nil (α := Deed) (enc := Deed.cells), by (exact kpt)⟩
  | some ad =>
    have HO := Lib.hid (owns_made (α := Deed) (enc := Deed.cells) (base := w.heap.size) (k := 2) (n := w.heap.size) (e := 61) (w := w) rfl (Nat.le_refl _))
    have hs0 : ∀ w, (binOp .eql 79 (.slice (some ad) xs.length cap) (.slice none 0 0)).run Try.prog w = .ok (.bool false) w := fun w => Lib.run_eql_slice_nil w _ _ _ _ _ _ _ Try.underlying79
    go_enter Try.func78, Try.ntmps78
    go_wp2_with (at_builtin; obtain ⟨i0, hi, hz0, hz1, hz2⟩ := info_parts infoDeed; refine wpList_append_list (enc := Deed.cells) rfl _ _ 79 rfl w.heap.size 61 i0 (.agg #[.int .u8 0, .int .i64 0]) 2 16 Try.underlying79 hi hz0 hz1 hz2 rfl (by decide) deed_len (fun x u hu => by simp [Deed.cells] at hu; rcases hu with rfl | rfl <;> rfl) _ [] rfl HO.out (some ad) cap xs rfl (by simp) (B := w.heap.size) (hx.keep (by (exact kpt)) (Nat.le_refl _)) (by simp [maxLen]; omega) (by simp; omega) (by simp) ?_; intro v' w9 hown' hgrow; clear hi hz0 hz1 hz2)
    have hk : Kept w w9 := Kept.grown (Kept.alloc (Below.refl _ _) _) HO.out (Nat.le_refl _) hgrow
    rw [List.nil_append] at hown'
    obtain ⟨ad', cp, rfl, _⟩ := owns_row (enc := Deed.cells) (k := 2) deed_len hown'
    exact bodyPost_ret (v := .slice ad' xs.length cp) (by simp [results, Try.results78, go_sem]) rfl ⟨_, rfl, hown', hk⟩

theorem r_known (a : Option Addr) (c : Nat) (xs : List Berth) (b : Berth) (w : World) (hx : Row Berth.cells 5 w.heap.size w a xs) (hc : xs.length ≤ c) (hM : c ≤ maxLen) :
    Calls Try.prog 80 #[.slice a xs.length c, .agg #[.int .u8 b.ship, .int .i64 b.axis, .int .i64 b.held, .bool b.wire, .bool b.opn]] w fun e w' => e = .returned (.bool (decide (b ∈ xs))) ∧ Kept w w' := by
  unfold maxLen at hM
  go_enter Try.func80, Try.ntmps80
  go_wp2
  go_loopw [5] (fun i wr => ∃ k : Nat, k ≤ xs.length ∧ i = .int .i64 k ∧ b ∉ xs.take k ∧ Blk wr w.heap.size #[.int .u8 b.ship, .int .i64 b.axis, .int .i64 b.held, .bool b.wire, .bool b.opn] 59 ∧ Kept w wr) (fun i _ => xs.length - (intOf i).toNat)
  case atStart => exact ⟨0, Nat.zero_le _, rfl, by simp, by (exact blk), by (exact kpt)⟩
  case round =>
    obtain ⟨k, hk, rfl, hno, r0, hkk⟩ := hrel
    have HNO := Lib.hid hno
    clear hno
    by_cases hlt : k < xs.length
    · obtain ⟨b1, o1, rfl, hb1, h0, h1, h2, h3, h4⟩ := Berth.row (hx.later hkk (Nat.le_refl _)) k hlt
      have HIN := Lib.hid (fun h : xs[k] = b => (h ▸ List.getElem_mem hlt : b ∈ xs))
      have HNX := Lib.hid (fun h : xs[k] ≠ b => (by
        rw [List.take_succ_eq_append_getElem hlt]
        intro hm
        rcases List.mem_append.1 hm with hm | hm
        · exact HNO.out hm
        · exact h (List.mem_singleton.1 hm).symm : b ∉ xs.take (k + 1)))
      obtain ⟨y, hy⟩ : ∃ y, y = xs[k] := ⟨_, rfl⟩
      rw [← hy] at HIN HNX h0 h1 h2 h3 h4
      clear hy
      have x0 := fun g : Later wr => g.some h0
      have x1 := fun g : Later wr => g.some h1
      have x2 := fun g : Later wr => g.some h2
      have x3 := fun g : Later wr => g.some h3
      have x4 := fun g : Later wr => g.some h4
      have r0c0 := fun g : Later wr => (r0.later g).cell 0
      have r0f0 := fun g : Later wr => (r0.later g).free 0
      have r0c1 := fun g : Later wr => (r0.later g).cell 1
      have r0f1 := fun g : Later wr => (r0.later g).free 1
      have r0c2 := fun g : Later wr => (r0.later g).cell 2
      have r0f2 := fun g : Later wr => (r0.later g).free 2
      have r0c3 := fun g : Later wr => (r0.later g).cell 3
      have r0f3 := fun g : Later wr => (r0.later g).free 3
      have r0c4 := fun g : Later wr => (r0.later g).cell 4
      have r0f4 := fun g : Later wr => (r0.later g).free 4
      have r0l := fun g : Later wr => (r0.later g).lt
      simp at r0c0 r0c1 r0c2 r0c3 r0c4
      by_cases hyb : y = b
      · have HY := Lib.hid (HIN.out hyb)
        have hE : ∀ w, (binOp .eql 59 (.agg #[.int .u8 y.ship, .int .i64 y.axis, .int .i64 y.held, .bool y.wire, .bool y.opn]) (.agg #[.int .u8 b.ship, .int .i64 b.axis, .int .i64 b.held, .bool b.wire, .bool b.opn])).run Try.prog w = .ok (.bool true) w := fun w => eq_berth y b (by simpa using hyb) w
        clear hyb
        go_upto_region 4 with fail
        refine Later.region (by kernel_rfl) (by kernel_rfl) ?_
        repeat (first | go_big_quiet_skip | (go_big_quiet_want; go_big_quiet_op; first | go_big_quiet_on | (apply Exists.intro; refine ⟨fun g => ?_, ?_⟩; (focus (first | fail)); go_big_quiet_on)))
        refine wpQuiet_nil ?_
        intro gg
        have hkgg := Kept.drop hkk gg.ok
        go_wp2
        go_ret
        exact ⟨ret_bool (by simp [HY.out]), hkgg⟩
      · have HY := Lib.hid (HNX.out hyb)
        have hE : ∀ w, (binOp .eql 59 (.agg #[.int .u8 y.ship, .int .i64 y.axis, .int .i64 y.held, .bool y.wire, .bool y.opn]) (.agg #[.int .u8 b.ship, .int .i64 b.axis, .int .i64 b.held, .bool b.wire, .bool b.opn])).run Try.prog w = .ok (.bool false) w := fun w => eq_berth y b (by simpa using hyb) w
        clear hyb
        go_upto_region 4 with fail
        refine Later.region (by kernel_rfl) (by kernel_rfl) ?_
        repeat (first | go_big_quiet_skip | (go_big_quiet_want; go_big_quiet_op; first | go_big_quiet_on | (apply Exists.intro; refine ⟨fun g => ?_, ?_⟩; (focus (first | fail)); go_big_quiet_on)))
        refine wpQuiet_nil ?_
        intro gg
        have hkgg := Kept.drop hkk gg.ok
        go_wp2
        go_roundw
        case rel => exact ⟨k + 1, by omega, by go_num, HY.out, by exact r0.later gg, hkgg⟩
        case measure => simp [intOf]; omega
    · obtain rfl : k = xs.length := by omega
      have HY := Lib.hid (show b ∉ xs by have := HNO.out; rwa [List.take_length] at this)
      go_wp2
      go_ret
      exact ⟨ret_bool (by simp [HY.out]), hkk⟩

end Go.Proofs.Ytacbkbilbmkjnaa

/-
  All acts, in order; ports that are wide.
-/
namespace Go.Proofs.Ytacbkbilbmkjnaa
open Go.RowKit Bal Bal.Trim Bal.Mast
set_option linter.unusedVariables false
set_option linter.unusedSimpArgs false
set_option maxHeartbeats 2000000
set_option maxRecDepth 10000

def loK (p : Port) (t : Int) : Int := if t = 2 then needP p else 0
def hiK (p : Port) (t : Int) : Int := if t = 2 then p.people else if t = 9 then (p.axes.length : Int) - 1 else 0
theorem numsR_up (p : Port) (t : Int) : numsR p t = upFrom (loK p t) (hiK p t - loK p t + 1).toNat := by
  unfold numsR loK hiK
  by_cases h2 : t = 2
  · rw [if_pos h2, if_pos h2, if_pos h2]
  · rw [if_neg h2, if_neg h2, if_neg h2]
    by_cases h9 : t = 9
    · rw [if_pos h9, if_pos h9]; congr 1; omega
    · rw [if_neg h9, if_neg h9]; rfl
theorem upFrom_len (lo : Int) (n : Nat) : (upFrom lo n).length = n := by simp [upFrom]
theorem upFrom_succ (lo : Int) (n : Nat) : upFrom lo (n + 1) = upFrom lo n ++ [lo + (n : Int)] := by
  unfold upFrom; rw [List.range_succ, List.map_append]; rfl
def actsTo (nums : Int → List Int) (k : Nat) : List Deed := (upFrom 1 k).flatMap fun t => (nums t).map fun n => ⟨t, n⟩
theorem actsTo_zero (nums : Int → List Int) : actsTo nums 0 = [] := rfl
theorem actsTo_succ (nums : Int → List Int) (k : Nat) : actsTo nums (k + 1) = actsTo nums k ++ (nums (1 + (k : Int))).map fun n => ⟨1 + (k : Int), n⟩ := by
  unfold actsTo; rw [upFrom_succ, List.flatMap_append, List.flatMap_singleton]
theorem hiK_bd {p : Port} (hp : portB p = true) (t : Int) : (0 ≤ loK p t ∧ loK p t ≤ 8000000) ∧ (0 ≤ hiK p t ∧ hiK p t ≤ 200) := by
  have h1 := portB_bd hp
  have h2 := needP_bd hp
  unfold loK hiK
  split
  · omega
  · split <;> omega
theorem actsTo_len {p : Port} (hp : portB p = true) : ∀ k : Nat, (actsTo (numsR p) k).length ≤ k * 201
  | 0 => by simp [actsTo_zero]
  | k + 1 => by
    have h1 := actsTo_len hp k
    have h2 := hiK_bd hp (1 + (k : Int))
    rw [actsTo_succ, List.length_append, List.length_map, numsR_up, upFrom_len]
    omega
/-- the acts of a kind, as far as they were laid -/
def actsUp (p : Port) (k m : Nat) : List Deed := actsTo (numsR p) k ++ (upFrom (loK p (1 + (k : Int))) m).map fun n => ⟨1 + (k : Int), n⟩
theorem actsUp_zero (p : Port) (k : Nat) : actsUp p k 0 = actsTo (numsR p) k := by simp [actsUp, upFrom]
theorem actsUp_succ (p : Port) (k m : Nat) : actsUp p k (m + 1) = actsUp p k m ++ [⟨1 + (k : Int), loK p (1 + (k : Int)) + (m : Int)⟩] := by
  unfold actsUp; rw [upFrom_succ, List.map_append, List.append_assoc]; rfl
theorem actsUp_all (p : Port) (k : Nat) : actsUp p k (hiK p (1 + (k : Int)) - loK p (1 + (k : Int)) + 1).toNat = actsTo (numsR p) (k + 1) := by
  rw [actsTo_succ, numsR_up]; rfl
theorem actsUp_len {p : Port} (hp : portB p = true) {k m : Nat} (hk : k < 13) (hm : m ≤ 201) : (actsUp p k m).length ≤ 2613 := by
  have h1 := actsTo_len hp k
  unfold actsUp
  rw [List.length_append, List.length_map, upFrom_len]
  omega

theorem r_acts (a : Option Addr) (c : Nat) (e : Option Addr) (d : Nat) (p : Port) (w : World) (hx : Row Axis.cells 2 w.heap.size w a p.axes) (hc : p.axes.length ≤ c) (hM : c ≤ maxLen) (hy : Row Span.cells 2 w.heap.size w e p.pulls) (hd : p.pulls.length ≤ d) (hN : d ≤ maxLen) (h1 : p.axes.length ≤ 1000000) (h2 : p.pulls.length ≤ 1000000) (hp : portB p = true) :
    Calls Try.prog 79 #[.agg #[.slice a p.axes.length c, .int .i64 p.people, .int .i64 p.most, .slice e p.pulls.length d, .int .i64 p.cross]] w fun z w' => ∃ v, z = .returned v ∧ w'.ownsRow w.heap.size 61 2 v (actsOf (numsR p)).length ((actsOf (numsR p)).flatMap Deed.cells) ∧ Kept w w' := by
  have HP := Lib.hid hp
  have hbd := portB_bd hp
  have hnd := needP_bd hp
  have h12 := hM
  unfold maxLen at h12
  go_enter Try.func79, Try.ntmps79
  go_wp2
  go_loopw [3, 4] (fun l s wr => ∃ k : Nat, k ≤ 13 ∧ s = .int .i64 (1 + (k : Int)) ∧ wr.ownsRow w.heap.size 61 2 l (actsTo (numsR p) k).length ((actsTo (numsR p) k).flatMap Deed.cells) ∧ Blk wr w.heap.size #[.slice a p.axes.length c, .int .i64 p.people, .int .i64 p.most, .slice e p.pulls.length d, .int .i64 p.cross] 45 ∧ Kept w wr) (fun _ s _ => 14 - (intOf s).toNat)
  case atStart => exact ⟨0, Nat.zero_le _, rfl, owns_nil (α := Deed) (enc := Deed.cells), by (exact blk), by (exact kpt)⟩
  case round =>
    obtain ⟨k, hk, rfl, hown, r0, hkk⟩ := hrel
    have hsz := hkk.size
    by_cases hlt : k < 13
    · have hhb := hiK_bd HP.out (1 + (k : Int))
      have HLL := Lib.hid (fun (m : Nat) (hm : m ≤ 201) => actsUp_len HP.out (k := k) (m := m) hlt hm)
      have HU0 := Lib.hid (actsUp_zero p k)
      have hus := actsUp_succ p k
      have hua := actsUp_all p k
      have hlo : loK p (1 + (k : Int)) = if 1 + (k : Int) = 2 then needP p else 0 := rfl
      have hhi : hiK p (1 + (k : Int)) = if 1 + (k : Int) = 2 then p.people else if 1 + (k : Int) = 9 then (p.axes.length : Int) - 1 else 0 := rfl
      obtain ⟨LO, hLO⟩ : ∃ x, x = loK p (1 + (k : Int)) := ⟨_, rfl⟩
      obtain ⟨HI, hHI⟩ : ∃ x, x = hiK p (1 + (k : Int)) := ⟨_, rfl⟩
      obtain ⟨t, ht⟩ : ∃ t : Int, t = 1 + (k : Int) := ⟨_, rfl⟩
      rw [← hLO] at hhb hlo
      rw [← hHI] at hhb hhi
      simp only [← hLO, ← hHI] at hua
      simp only [← hLO] at hus
      obtain ⟨N, hN0⟩ : ∃ N, N = (HI - LO + 1).toNat := ⟨_, rfl⟩
      rw [← hN0] at hua
      simp only [← ht] at hus hlo hhi ⊢
      have HT := Lib.hid ht
      have hu8 : IntKind.u8.wrap t = t := by rw [IntKind.wrap_u8]; omega
      have hN1 : N ≤ 201 := by omega
      have HN2 := Lib.hid (fun m : Nat => (show m < N ↔ LO + (m : Int) ≤ HI by omega))
      have ht1 : 1 ≤ t := by omega
      have ht2 : t ≤ 13 := by omega
      have htk : t.toNat = k + 1 := by omega
      have HUS := Lib.hid hus
      have HUA := Lib.hid hua
      clear hus hua hLO hHI hN0 ht
      by_cases h2 : t = 2
      · have hL : LO = needP p := by rw [hlo, if_pos h2]
        have hH : HI = p.people := by rw [hhi, if_pos h2]
        have e2 : (t == 2) = true := by simp [h2]
        have e9 : (t == 9) = false := by simp [h2]
        clear hlo hhi h2
        subst hH
        have HL := Lib.hid hL
        clear hL
        have hk := hkk
        have r0c0 := fun g : Later wr => (r0.later g).cell 0
        have r0f0 := fun g : Later wr => (r0.later g).free 0
        have r0c1 := fun g : Later wr => (r0.later g).cell 1
        have r0f1 := fun g : Later wr => (r0.later g).free 1
        have r0c2 := fun g : Later wr => (r0.later g).cell 2
        have r0f2 := fun g : Later wr => (r0.later g).free 2
        have r0c3 := fun g : Later wr => (r0.later g).cell 3
        have r0f3 := fun g : Later wr => (r0.later g).free 3
        have r0c4 := fun g : Later wr => (r0.later g).cell 4
        have r0f4 := fun g : Later wr => (r0.later g).free 4
        have r0l := fun g : Later wr => (r0.later g).lt
        simp at r0c0 r0c1 r0c2 r0c3 r0c4
        go_upto_region 7 with fail
        refine Later.region (by kernel_rfl) (by kernel_rfl) ?_
        repeat (first | go_big_quiet_skip | (go_big_quiet_want; go_big_quiet_op; first | go_big_quiet_on | (apply Exists.intro; refine ⟨fun g => ?_, ?_⟩; (focus (first | (go_at_call 77; with_reducible exact Later.call (r_Need a c e d p _ (hx.later (Kept.drop hk g.ok) (Nat.le_refl _)) hc hM (hy.later (Kept.drop hk g.ok) (Nat.le_refl _)) hd hN h1 h2 hp)))); go_big_quiet_on)))
        refine wpQuiet_nil ?_
        intro gg
        have hkgg := Kept.drop hkk gg.ok
        have r0g := r0.later gg
        have hog := owns_keep hown gg.ok
        clear hown r0 hkk hk
        have hown := hog
        have r0 := r0g
        have hkk := hkgg
        clear hog r0g hkgg
        go_wp2
        go_loopw [3, 7] (fun l s wq => ∃ m : Nat, m ≤ N ∧ s = .int .i64 (LO + (m : Int)) ∧ wq.ownsRow w.heap.size 61 2 l (actsUp p k m).length ((actsUp p k m).flatMap Deed.cells) ∧ Blk wq w.heap.size #[.slice a p.axes.length c, .int .i64 p.people, .int .i64 p.most, .slice e p.pulls.length d, .int .i64 p.cross] 45 ∧ Kept w wq) (fun _ s _ => N - (intOf s - LO).toNat)
        case atStart => exact ⟨0, Nat.zero_le _, by rw [HL.out]; go_num, by rw [HU0.out]; exact hown, by (exact blk), by (exact kpt)⟩
        case round =>
          clear hown r0 hkk
          obtain ⟨m, hm, rfl, hown, r0, hkk⟩ := hrel
          have hsz := hkk.size
          by_cases hmt : m < N
          · have hll := HLL.out m (by omega)
            have u1 : LO + (m : Int) ≤ p.people := (HN2.out m).1 hmt
            go_wp2_with (at_builtin; obtain ⟨i0, hi, hz0, hz1, hz2⟩ := info_parts infoDeed; refine wpList_append_own _ rfl _ _ 79 rfl w.heap.size 61 i0 (.agg #[.int .u8 0, .int .i64 0]) 2 16 Try.underlying79 hi hz0 hz1 hz2 rfl (by decide) _ _ _ rfl (hown.alloc _) ⟨_, 0, none⟩ 1 1 [.int .u8 t, .int .i64 (LO + (m : Int))] rfl rfl (cell_two_at (by simp) _ _ _) (fun x hx => by simp at hx; rcases hx with rfl | rfl <;> rfl) (by unfold maxLen; omega) (by omega) (by simp only [World.size_alloc]; omega) ?_; intro v9 w9 hown9 hgrow9 hnil9; clear hi hz0 hz1 hz2)
            have hK9 : Kept w w9 := Kept.grown (by (exact kpt)) (hown.alloc _) (Nat.le_refl _) hgrow9
            have hB9 := Blk.grown (r0.alloc _) (hown.alloc _) (by decide) hgrow9
            go_roundw
            case rel => exact ⟨m + 1, by omega, by go_num, by rw [HUS.out, List.flatMap_append, List.length_append]; exact hown9, hB9, hK9⟩
            case measure => simp [intOf]; omega
          · obtain rfl : N = m := by omega
            have u1 : ¬ LO + (N : Int) ≤ p.people := fun h => absurd ((HN2.out N).2 h) (Nat.lt_irrefl _)
            rw [HUA.out] at hown
            go_wp2
            go_roundw
            case rel => exact ⟨k + 1, by omega, by rw [HT.out]; go_num, hown, by (exact blk), by (exact kpt)⟩
            case measure => simp [intOf]; omega
      · have hL : LO = 0 := by rw [hlo, if_neg h2]
        by_cases h9 : t = 9
        · have hH : HI = (p.axes.length : Int) - 1 := by rw [hhi, if_neg h2, if_pos h9]
          have e2 : (t == 2) = false := by simp [h2]
          have e9 : (t == 9) = true := by simp [h9]
          clear hlo hhi h2 h9
          subst hH
          have HL := Lib.hid hL
          clear hL
          have r0c0 := r0.cell 0
          have r0f0 := r0.free 0
          have r0c1 := r0.cell 1
          have r0f1 := r0.free 1
          have r0c2 := r0.cell 2
          have r0f2 := r0.free 2
          have r0c3 := r0.cell 3
          have r0f3 := r0.free 3
          have r0c4 := r0.cell 4
          have r0f4 := r0.free 4
          have r0l := r0.lt
          simp at r0c0 r0c1 r0c2 r0c3 r0c4
          go_wp2
          go_loopw [3, 7] (fun l s wq => ∃ m : Nat, m ≤ N ∧ s = .int .i64 (LO + (m : Int)) ∧ wq.ownsRow w.heap.size 61 2 l (actsUp p k m).length ((actsUp p k m).flatMap Deed.cells) ∧ Blk wq w.heap.size #[.slice a p.axes.length c, .int .i64 p.people, .int .i64 p.most, .slice e p.pulls.length d, .int .i64 p.cross] 45 ∧ Kept w wq) (fun _ s _ => N - (intOf s - LO).toNat)
          case atStart => exact ⟨0, Nat.zero_le _, by rw [HL.out]; go_num, by rw [HU0.out]; exact hown, by (exact blk), by (exact kpt)⟩
          case round =>
            clear hown r0 hkk
            obtain ⟨m, hm, rfl, hown, r0, hkk⟩ := hrel
            have hsz := hkk.size
            by_cases hmt : m < N
            · have hll := HLL.out m (by omega)
              have u1 : LO + (m : Int) ≤ (p.axes.length : Int) - 1 := (HN2.out m).1 hmt
              go_wp2_with (at_builtin; obtain ⟨i0, hi, hz0, hz1, hz2⟩ := info_parts infoDeed; refine wpList_append_own _ rfl _ _ 79 rfl w.heap.size 61 i0 (.agg #[.int .u8 0, .int .i64 0]) 2 16 Try.underlying79 hi hz0 hz1 hz2 rfl (by decide) _ _ _ rfl (hown.alloc _) ⟨_, 0, none⟩ 1 1 [.int .u8 t, .int .i64 (LO + (m : Int))] rfl rfl (cell_two_at (by simp) _ _ _) (fun x hx => by simp at hx; rcases hx with rfl | rfl <;> rfl) (by unfold maxLen; omega) (by omega) (by simp only [World.size_alloc]; omega) ?_; intro v9 w9 hown9 hgrow9 hnil9; clear hi hz0 hz1 hz2)
              have hK9 : Kept w w9 := Kept.grown (by (exact kpt)) (hown.alloc _) (Nat.le_refl _) hgrow9
              have hB9 := Blk.grown (r0.alloc _) (hown.alloc _) (by decide) hgrow9
              go_roundw
              case rel => exact ⟨m + 1, by omega, by go_num, by rw [HUS.out, List.flatMap_append, List.length_append]; exact hown9, hB9, hK9⟩
              case measure => simp [intOf]; omega
            · obtain rfl : N = m := by omega
              have u1 : ¬ LO + (N : Int) ≤ (p.axes.length : Int) - 1 := fun h => absurd ((HN2.out N).2 h) (Nat.lt_irrefl _)
              rw [HUA.out] at hown
              go_wp2
              go_roundw
              case rel => exact ⟨k + 1, by omega, by rw [HT.out]; go_num, hown, by (exact blk), by (exact kpt)⟩
              case measure => simp [intOf]; omega
        · have hH : HI = 0 := by rw [hhi, if_neg h2, if_neg h9]
          have e2 : (t == 2) = false := by simp [h2]
          have e9 : (t == 9) = false := by simp [h9]
          clear hlo hhi h2 h9
          subst hH
          have HL := Lib.hid hL
          clear hL
          have r0c0 := r0.cell 0
          have r0f0 := r0.free 0
          have r0c1 := r0.cell 1
          have r0f1 := r0.free 1
          have r0c2 := r0.cell 2
          have r0f2 := r0.free 2
          have r0c3 := r0.cell 3
          have r0f3 := r0.free 3
          have r0c4 := r0.cell 4
          have r0f4 := r0.free 4
          have r0l := r0.lt
          simp at r0c0 r0c1 r0c2 r0c3 r0c4
          go_wp2
          go_loopw [3, 7] (fun l s wq => ∃ m : Nat, m ≤ N ∧ s = .int .i64 (LO + (m : Int)) ∧ wq.ownsRow w.heap.size 61 2 l (actsUp p k m).length ((actsUp p k m).flatMap Deed.cells) ∧ Blk wq w.heap.size #[.slice a p.axes.length c, .int .i64 p.people, .int .i64 p.most, .slice e p.pulls.length d, .int .i64 p.cross] 45 ∧ Kept w wq) (fun _ s _ => N - (intOf s - LO).toNat)
          case atStart => exact ⟨0, Nat.zero_le _, by rw [HL.out]; go_num, by rw [HU0.out]; exact hown, by (exact blk), by (exact kpt)⟩
          case round =>
            clear hown r0 hkk
            obtain ⟨m, hm, rfl, hown, r0, hkk⟩ := hrel
            have hsz := hkk.size
            by_cases hmt : m < N
            · have hll := HLL.out m (by omega)
              have u1 : LO + (m : Int) ≤ 0 := (HN2.out m).1 hmt
              go_wp2_with (at_builtin; obtain ⟨i0, hi, hz0, hz1, hz2⟩ := info_parts infoDeed; refine wpList_append_own _ rfl _ _ 79 rfl w.heap.size 61 i0 (.agg #[.int .u8 0, .int .i64 0]) 2 16 Try.underlying79 hi hz0 hz1 hz2 rfl (by decide) _ _ _ rfl (hown.alloc _) ⟨_, 0, none⟩ 1 1 [.int .u8 t, .int .i64 (LO + (m : Int))] rfl rfl (cell_two_at (by simp) _ _ _) (fun x hx => by simp at hx; rcases hx with rfl | rfl <;> rfl) (by unfold maxLen; omega) (by omega) (by simp only [World.size_alloc]; omega) ?_; intro v9 w9 hown9 hgrow9 hnil9; clear hi hz0 hz1 hz2)
              have hK9 : Kept w w9 := Kept.grown (by (exact kpt)) (hown.alloc _) (Nat.le_refl _) hgrow9
              have hB9 := Blk.grown (r0.alloc _) (hown.alloc _) (by decide) hgrow9
              go_roundw
              case rel => exact ⟨m + 1, by omega, by go_num, by rw [HUS.out, List.flatMap_append, List.length_append]; exact hown9, hB9, hK9⟩
              case measure => simp [intOf]; omega
            · obtain rfl : N = m := by omega
              have u1 : ¬ LO + (N : Int) ≤ 0 := fun h => absurd ((HN2.out N).2 h) (Nat.lt_irrefl _)
              rw [HUA.out] at hown
              go_wp2
              go_roundw
              case rel => exact ⟨k + 1, by omega, by rw [HT.out]; go_num, hown, by (exact blk), by (exact kpt)⟩
              case measure => simp [intOf]; omega
    · obtain rfl : k = 13 := by omega
      obtain ⟨ad, cp, rfl, hrow, hcp, hcm⟩ := owns_row (enc := Deed.cells) (k := 2) deed_len hown
      go_wp2
      exact bodyPost_ret (v := .slice ad (actsTo (numsR p) 13).length cp) (by simp [results, Try.results79, go_sem]) rfl ⟨_, rfl, hown, by (exact kpt)⟩

def wideB (p : Port) : Bool := (decide (40 < p.axes.length) || decide (20 < p.pulls.length)) || portB p && (decide (6 < p.axes.length) || decide (12 < p.people - needP p))
theorem r_Wide_great (a : Option Addr) (c : Nat) (e : Option Addr) (d : Nat) (p : Port) (w : World) (hx : Row Axis.cells 2 w.heap.size w a p.axes) (hc : p.axes.length ≤ c) (hM : c ≤ maxLen) (hy : Row Span.cells 2 w.heap.size w e p.pulls) (hd : p.pulls.length ≤ d) (hN : d ≤ maxLen) (hg : (decide (40 < p.axes.length) || decide (20 < p.pulls.length)) = true) :
    Calls Try.prog 31 #[.agg #[.slice a p.axes.length c, .int .i64 p.people, .int .i64 p.most, .slice e p.pulls.length d, .int .i64 p.cross]] w fun z w' => z = .returned (.bool true) ∧ Kept w w' := by
  have HGR := Lib.hid (fun W => (by have := r_Great a c p.axes p.people p.most e d p.pulls p.cross W hM hN hc hd; rw [hg] at this; exact this : Calls Try.prog 17 #[.agg #[.slice a p.axes.length c, .int .i64 p.people, .int .i64 p.most, .slice e p.pulls.length d, .int .i64 p.cross]] W fun z w' => z = .returned (.bool true) ∧ Kept W w'))
  clear hg
  go_enter Try.func31, Try.ntmps31
  go_upto_region 1 with fail
  refine at_world (S := fun V => Blk V w.heap.size #[.slice a p.axes.length c, .int .i64 p.people, .int .i64 p.most, .slice e p.pulls.length d, .int .i64 p.cross] 45 ∧ Kept w V) ⟨by (exact blk), by (exact kpt)⟩ ?_
  rintro W ⟨r0, hk⟩
  have r0c0 := fun g : Later W => (r0.later g).cell 0
  have r0f0 := fun g : Later W => (r0.later g).free 0
  have r0c1 := fun g : Later W => (r0.later g).cell 1
  have r0f1 := fun g : Later W => (r0.later g).free 1
  have r0c2 := fun g : Later W => (r0.later g).cell 2
  have r0f2 := fun g : Later W => (r0.later g).free 2
  have r0c3 := fun g : Later W => (r0.later g).cell 3
  have r0f3 := fun g : Later W => (r0.later g).free 3
  have r0c4 := fun g : Later W => (r0.later g).cell 4
  have r0f4 := fun g : Later W => (r0.later g).free 4
  have r0l := fun g : Later W => (r0.later g).lt
  simp at r0c0 r0c1 r0c2 r0c3 r0c4
  refine Later.region (by kernel_rfl) (by kernel_rfl) ?_
  repeat (first | go_big_quiet_skip | (go_big_quiet_want; go_big_quiet_op; first | go_big_quiet_on | (apply Exists.intro; refine ⟨fun g => ?_, ?_⟩; (focus (first | (go_at_call 17; with_reducible exact Later.call (HGR.out _)))); go_big_quiet_on)))
  refine wpQuiet_nil ?_
  intro gg
  have hkgg := Kept.drop hk gg.ok
  go_wp2
  go_ret
  exact ⟨ret_bool rfl, hkgg⟩
theorem r_Wide_no (a : Option Addr) (c : Nat) (e : Option Addr) (d : Nat) (p : Port) (w : World) (hx : Row Axis.cells 2 w.heap.size w a p.axes) (hc : p.axes.length ≤ c) (hM : c ≤ maxLen) (hy : Row Span.cells 2 w.heap.size w e p.pulls) (hd : p.pulls.length ≤ d) (hN : d ≤ maxLen) (hg : (decide (40 < p.axes.length) || decide (20 < p.pulls.length)) = false) (hp : portB p = false) :
    Calls Try.prog 31 #[.agg #[.slice a p.axes.length c, .int .i64 p.people, .int .i64 p.most, .slice e p.pulls.length d, .int .i64 p.cross]] w fun z w' => z = .returned (.bool false) ∧ Kept w w' := by
  have HGR := Lib.hid (fun W => (by have := r_Great a c p.axes p.people p.most e d p.pulls p.cross W hM hN hc hd; rw [hg] at this; exact this : Calls Try.prog 17 #[.agg #[.slice a p.axes.length c, .int .i64 p.people, .int .i64 p.most, .slice e p.pulls.length d, .int .i64 p.cross]] W fun z w' => z = .returned (.bool false) ∧ Kept W w'))
  have hgg : p.axes.length ≤ 40 ∧ p.pulls.length ≤ 20 := by simp at hg; omega
  have HPT := Lib.hid (fun W (hW : Kept w W) => (by have := r_Port a c e d p W (hx.later hW (Nat.le_refl _)) hc hM (hy.later hW (Nat.le_refl _)) hd hN (by omega) (by omega); rw [hp] at this; exact this : Calls Try.prog 68 #[.agg #[.slice a p.axes.length c, .int .i64 p.people, .int .i64 p.most, .slice e p.pulls.length d, .int .i64 p.cross]] W fun z w' => z = .returned (.bool false) ∧ Kept W w'))
  clear hg hp
  go_enter Try.func31, Try.ntmps31
  go_upto_region 1 with fail
  refine at_world (S := fun V => Blk V w.heap.size #[.slice a p.axes.length c, .int .i64 p.people, .int .i64 p.most, .slice e p.pulls.length d, .int .i64 p.cross] 45 ∧ Kept w V) ⟨by (exact blk), by (exact kpt)⟩ ?_
  rintro W ⟨r0, hk⟩
  have r0c0 := fun g : Later W => (r0.later g).cell 0
  have r0f0 := fun g : Later W => (r0.later g).free 0
  have r0c1 := fun g : Later W => (r0.later g).cell 1
  have r0f1 := fun g : Later W => (r0.later g).free 1
  have r0c2 := fun g : Later W => (r0.later g).cell 2
  have r0f2 := fun g : Later W => (r0.later g).free 2
  have r0c3 := fun g : Later W => (r0.later g).cell 3
  have r0f3 := fun g : Later W => (r0.later g).free 3
  have r0c4 := fun g : Later W => (r0.later g).cell 4
  have r0f4 := fun g : Later W => (r0.later g).free 4
  have r0l := fun g : Later W => (r0.later g).lt
  simp at r0c0 r0c1 r0c2 r0c3 r0c4
  refine Later.region (by kernel_rfl) (by kernel_rfl) ?_
  repeat (first | go_big_quiet_skip | (go_big_quiet_want; go_big_quiet_op; first | go_big_quiet_on | (apply Exists.intro; refine ⟨fun g => ?_, ?_⟩; (focus (first | (go_at_call 17; with_reducible exact Later.call (HGR.out _)) | (go_at_call 68; with_reducible exact Later.call (HPT.out _ (Kept.drop hk g.ok))))); go_big_quiet_on)))
  refine wpQuiet_nil ?_
  intro gg
  have hkgg := Kept.drop hk gg.ok
  go_wp2
  go_ret
  exact ⟨ret_bool rfl, hkgg⟩
theorem r_Wide_axes (a : Option Addr) (c : Nat) (e : Option Addr) (d : Nat) (p : Port) (w : World) (hx : Row Axis.cells 2 w.heap.size w a p.axes) (hc : p.axes.length ≤ c) (hM : c ≤ maxLen) (hy : Row Span.cells 2 w.heap.size w e p.pulls) (hd : p.pulls.length ≤ d) (hN : d ≤ maxLen) (hg : (decide (40 < p.axes.length) || decide (20 < p.pulls.length)) = false) (hp : portB p = true) (h6 : 6 < p.axes.length) :
    Calls Try.prog 31 #[.agg #[.slice a p.axes.length c, .int .i64 p.people, .int .i64 p.most, .slice e p.pulls.length d, .int .i64 p.cross]] w fun z w' => z = .returned (.bool true) ∧ Kept w w' := by
  have HGR := Lib.hid (fun W => (by have := r_Great a c p.axes p.people p.most e d p.pulls p.cross W hM hN hc hd; rw [hg] at this; exact this : Calls Try.prog 17 #[.agg #[.slice a p.axes.length c, .int .i64 p.people, .int .i64 p.most, .slice e p.pulls.length d, .int .i64 p.cross]] W fun z w' => z = .returned (.bool false) ∧ Kept W w'))
  have hgg : p.axes.length ≤ 40 ∧ p.pulls.length ≤ 20 := by simp at hg; omega
  have HPT := Lib.hid (fun W (hW : Kept w W) => (by have := r_Port a c e d p W (hx.later hW (Nat.le_refl _)) hc hM (hy.later hW (Nat.le_refl _)) hd hN (by omega) (by omega); rw [hp] at this; exact this : Calls Try.prog 68 #[.agg #[.slice a p.axes.length c, .int .i64 p.people, .int .i64 p.most, .slice e p.pulls.length d, .int .i64 p.cross]] W fun z w' => z = .returned (.bool true) ∧ Kept W w'))
  have l6 : (6 : Int) < (p.axes.length : Int) := by omega
  clear hg hp
  go_enter Try.func31, Try.ntmps31
  go_upto_region 1 with fail
  refine at_world (S := fun V => Blk V w.heap.size #[.slice a p.axes.length c, .int .i64 p.people, .int .i64 p.most, .slice e p.pulls.length d, .int .i64 p.cross] 45 ∧ Kept w V) ⟨by (exact blk), by (exact kpt)⟩ ?_
  rintro W ⟨r0, hk⟩
  have r0c0 := fun g : Later W => (r0.later g).cell 0
  have r0f0 := fun g : Later W => (r0.later g).free 0
  have r0c1 := fun g : Later W => (r0.later g).cell 1
  have r0f1 := fun g : Later W => (r0.later g).free 1
  have r0c2 := fun g : Later W => (r0.later g).cell 2
  have r0f2 := fun g : Later W => (r0.later g).free 2
  have r0c3 := fun g : Later W => (r0.later g).cell 3
  have r0f3 := fun g : Later W => (r0.later g).free 3
  have r0c4 := fun g : Later W => (r0.later g).cell 4
  have r0f4 := fun g : Later W => (r0.later g).free 4
  have r0l := fun g : Later W => (r0.later g).lt
  simp at r0c0 r0c1 r0c2 r0c3 r0c4
  refine Later.region (by kernel_rfl) (by kernel_rfl) ?_
  repeat (first | go_big_quiet_skip | (go_big_quiet_want; go_big_quiet_op; first | go_big_quiet_on | (apply Exists.intro; refine ⟨fun g => ?_, ?_⟩; (focus (first | (go_at_call 17; with_reducible exact Later.call (HGR.out _)) | (go_at_call 68; with_reducible exact Later.call (HPT.out _ (Kept.drop hk g.ok))))); go_big_quiet_on)))
  refine wpQuiet_nil ?_
  intro gg
  have hkgg := Kept.drop hk gg.ok
  go_wp2
  go_ret
  exact ⟨ret_bool rfl, hkgg⟩
theorem r_Wide_need (a : Option Addr) (c : Nat) (e : Option Addr) (d : Nat) (p : Port) (w : World) (hx : Row Axis.cells 2 w.heap.size w a p.axes) (hc : p.axes.length ≤ c) (hM : c ≤ maxLen) (hy : Row Span.cells 2 w.heap.size w e p.pulls) (hd : p.pulls.length ≤ d) (hN : d ≤ maxLen) (hg : (decide (40 < p.axes.length) || decide (20 < p.pulls.length)) = false) (hp : portB p = true) (h6 : ¬ 6 < p.axes.length) :
    Calls Try.prog 31 #[.agg #[.slice a p.axes.length c, .int .i64 p.people, .int .i64 p.most, .slice e p.pulls.length d, .int .i64 p.cross]] w fun z w' => z = .returned (.bool (decide (12 < p.people - needP p))) ∧ Kept w w' := by
  have HGR := Lib.hid (fun W => (by have := r_Great a c p.axes p.people p.most e d p.pulls p.cross W hM hN hc hd; rw [hg] at this; exact this : Calls Try.prog 17 #[.agg #[.slice a p.axes.length c, .int .i64 p.people, .int .i64 p.most, .slice e p.pulls.length d, .int .i64 p.cross]] W fun z w' => z = .returned (.bool false) ∧ Kept W w'))
  have hgg : p.axes.length ≤ 40 ∧ p.pulls.length ≤ 20 := by simp at hg; omega
  have HPT := Lib.hid (fun W (hW : Kept w W) => (by have := r_Port a c e d p W (hx.later hW (Nat.le_refl _)) hc hM (hy.later hW (Nat.le_refl _)) hd hN (by omega) (by omega); rw [hp] at this; exact this : Calls Try.prog 68 #[.agg #[.slice a p.axes.length c, .int .i64 p.people, .int .i64 p.most, .slice e p.pulls.length d, .int .i64 p.cross]] W fun z w' => z = .returned (.bool true) ∧ Kept W w'))
  have HND := Lib.hid (fun W (hW : Kept w W) => r_Need a c e d p W (hx.later hW (Nat.le_refl _)) hc hM (hy.later hW (Nat.le_refl _)) hd hN (by omega) (by omega) hp)
  have hbd := portB_bd hp
  have hnd := needP_bd hp
  have l6 : ¬ (6 : Int) < (p.axes.length : Int) := by omega
  obtain ⟨D, hD⟩ : ∃ D, D = decide (12 < p.people - needP p) := ⟨_, rfl⟩
  have HD := Lib.hid hD
  rw [← hD]
  clear hg hp hD
  go_enter Try.func31, Try.ntmps31
  go_upto_region 1 with fail
  refine at_world (S := fun V => Blk V w.heap.size #[.slice a p.axes.length c, .int .i64 p.people, .int .i64 p.most, .slice e p.pulls.length d, .int .i64 p.cross] 45 ∧ Kept w V) ⟨by (exact blk), by (exact kpt)⟩ ?_
  rintro W ⟨r0, hk⟩
  have r0c0 := fun g : Later W => (r0.later g).cell 0
  have r0f0 := fun g : Later W => (r0.later g).free 0
  have r0c1 := fun g : Later W => (r0.later g).cell 1
  have r0f1 := fun g : Later W => (r0.later g).free 1
  have r0c2 := fun g : Later W => (r0.later g).cell 2
  have r0f2 := fun g : Later W => (r0.later g).free 2
  have r0c3 := fun g : Later W => (r0.later g).cell 3
  have r0f3 := fun g : Later W => (r0.later g).free 3
  have r0c4 := fun g : Later W => (r0.later g).cell 4
  have r0f4 := fun g : Later W => (r0.later g).free 4
  have r0l := fun g : Later W => (r0.later g).lt
  simp at r0c0 r0c1 r0c2 r0c3 r0c4
  refine Later.region (by kernel_rfl) (by kernel_rfl) ?_
  repeat (first | go_big_quiet_skip | (go_big_quiet_want; go_big_quiet_op; first | go_big_quiet_on | (apply Exists.intro; refine ⟨fun g => ?_, ?_⟩; (focus (first | (go_at_call 17; with_reducible exact Later.call (HGR.out _)) | (go_at_call 68; with_reducible exact Later.call (HPT.out _ (Kept.drop hk g.ok))) | (go_at_call 77; with_reducible exact Later.call (HND.out _ (Kept.drop hk g.ok))))); go_big_quiet_on)))
  refine wpQuiet_nil ?_
  intro gg
  have hkgg := Kept.drop hk gg.ok
  go_wp2
  go_ret
  exact ⟨ret_bool (by rw [HD.out]), hkgg⟩
theorem r_Wide (a : Option Addr) (c : Nat) (e : Option Addr) (d : Nat) (p : Port) (w : World) (hx : Row Axis.cells 2 w.heap.size w a p.axes) (hc : p.axes.length ≤ c) (hM : c ≤ maxLen) (hy : Row Span.cells 2 w.heap.size w e p.pulls) (hd : p.pulls.length ≤ d) (hN : d ≤ maxLen) :
    Calls Try.prog 31 #[.agg #[.slice a p.axes.length c, .int .i64 p.people, .int .i64 p.most, .slice e p.pulls.length d, .int .i64 p.cross]] w fun z w' => z = .returned (.bool (wideB p)) ∧ Kept w w' := by
  unfold wideB
  cases hg : (decide (40 < p.axes.length) || decide (20 < p.pulls.length))
  · cases hp : portB p
    · exact r_Wide_no a c e d p w hx hc hM hy hd hN hg hp
    · by_cases h6 : 6 < p.axes.length
      · rw [decide_eq_true h6]; exact r_Wide_axes a c e d p w hx hc hM hy hd hN hg hp h6
      · rw [decide_eq_false h6]; exact r_Wide_need a c e d p w hx hc hM hy hd hN hg hp h6
  · exact r_Wide_great a c e d p w hx hc hM hy hd hN hg

end Go.Proofs.Ytacbkbilbmkjnaa

/-
  A search among valid berths ends: what it finds differs, and there are but so many. No program in sight.
-/
namespace Bal.Mast
open Bal.Trim
set_option linter.unusedVariables false
theorem pigeon : ∀ (N : Nat) (l : List Nat), l.Nodup → (∀ x ∈ l, x < N) → l.length ≤ N
  | 0, l, _, h => by
    cases l with
    | nil => simp
    | cons x l => exact absurd (h x (by simp)) (Nat.not_lt_zero _)
  | N + 1, l, hd, h => by
    by_cases hm : N ∈ l
    · have h1 := pigeon N (l.erase N) (hd.erase N) (fun x hx => by
        have h2 := (hd.mem_erase_iff).1 hx
        have := h x h2.2
        have := h2.1
        omega)
      have h2 := List.length_erase_of_mem hm
      omega
    · have := pigeon N l hd (fun x hx => by
        have h1 := h x hx
        have : x ≠ N := fun e => hm (e ▸ hx)
        omega)
      omega
def bitN (x : Bool) : Nat := if x then 1 else 0
theorem bitN_lt (x : Bool) : bitN x < 2 := by cases x <;> decide
theorem bitN_inj {x y : Bool} (h : bitN x = bitN y) : x = y := by cases x <;> cases y <;> simp [bitN] at h ⊢
/-- a valid berth's number -/
def codeB (b : Berth) : Nat := (((b.ship.toNat * 32 + b.axis.toNat) * 201 + b.held.toNat) * 2 + bitN b.wire) * 2 + bitN b.opn
theorem berth_bd {p : Port} (hp : portB p = true) {b : Berth} (h : berthB p b = true) : b.ship ≤ 5 ∧ (0 ≤ b.axis ∧ b.axis ≤ 31) ∧ (0 ≤ b.held ∧ b.held ≤ 200) := by
  have h1 := berth_parts h
  have h2 := portB_bd hp
  have h3 := needP_bd hp
  omega
theorem codeB_lt {p : Port} (hp : portB p = true) {b : Berth} (h : berthB p b = true) : codeB b < 154368 := by
  have h1 := berth_bd hp h
  have h2 := bitN_lt b.wire
  have h3 := bitN_lt b.opn
  unfold codeB
  omega
theorem codeB_inj {p : Port} (hp : portB p = true) {x y : Berth} (hx : berthB p x = true) (hy : berthB p y = true) (sx : 0 ≤ x.ship) (sy : 0 ≤ y.ship) (h : codeB x = codeB y) : x = y := by
  have h1 := berth_bd hp hx
  have h2 := berth_bd hp hy
  have a1 := bitN_lt x.wire
  have a2 := bitN_lt x.opn
  have a3 := bitN_lt y.wire
  have a4 := bitN_lt y.opn
  unfold codeB at h
  have e1 : bitN x.opn = bitN y.opn := by omega
  have e2 : bitN x.wire = bitN y.wire := by omega
  obtain ⟨xs, xa, xh, xw, xo⟩ := x
  obtain ⟨ys, ya, yh, yw, yo⟩ := y
  simp only at *
  obtain rfl := bitN_inj e1
  obtain rfl := bitN_inj e2
  have e3 : xs = ys := by omega
  have e4 : xa = ya := by omega
  have e5 : xh = yh := by omega
  rw [e3, e4, e5]
theorem run_valid {p : Port} {w : Wind} : ∀ {r : List Deed} {x y : Berth}, 0 ≤ x.ship → berthB p x = true → run (stepB p w) x r = some y → 0 ≤ y.ship ∧ berthB p y = true
  | [], x, y, h0, hb, h => by
    simp only [run, Option.some.injEq] at h
    subst h
    exact ⟨h0, hb⟩
  | a :: r, x, y, h0, hb, h => by
    simp only [run] at h
    obtain ⟨z, h1, h2⟩ := Option.bind_eq_some_iff.1 h
    unfold stepB at h1
    split at h1
    · rename_i hd
      obtain rfl := Option.some.inj h1
      exact run_valid (doB_ship h0) (kept_valid h0 hd) h2
    · cases h1
section
variable {p : Port} {w : Wind} {B : Nat} {code : Deed → Nat} {acts : List Deed} {b : Berth} {L : List (Berth × List Deed)} {h k : Nat}
theorem Search.valid (I : Search (stepB p w) B code acts b L h k) (h0 : 0 ≤ b.ship) (hb : berthB p b = true) : ∀ q ∈ L, 0 ≤ q.1.ship ∧ berthB p q.1 = true :=
  fun q hq => run_valid h0 hb (I.way q hq).1
theorem Search.few (I : Search (stepB p w) B code acts b L h k) (hp : portB p = true) (h0 : 0 ≤ b.ship) (hb : berthB p b = true) : L.length ≤ 154368 := by
  have hv := I.valid h0 hb
  have := pigeon 154368 (L.map fun q => codeB q.1) (by
    unfold List.Nodup
    rw [List.pairwise_map]
    refine List.Pairwise.imp_of_mem (fun {x y} hx hy hxy => ?_) I.apart
    exact fun e => hxy (codeB_inj hp (hv x hx).2 (hv y hy).2 (hv x hx).1 (hv y hy).1 e)) (fun n hn => by
    obtain ⟨q, hq, rfl⟩ := List.mem_map.1 hn
    exact codeB_lt hp (hv q hq).2)
  rwa [List.length_map] at this
theorem Search.lens (C : Coded B code acts) (I : Search (stepB p w) B code acts b L h k) : ∀ (i : Nat) (hi : i < L.length), L[i].2.length ≤ i := by
  intro i
  induction i using Nat.strongRecOn with
  | ind i ih =>
    intro hi
    rcases I.from_ _ (List.getElem_mem hi) with e | ⟨j, m, hj, hm, _, e⟩
    · rw [e]; simp
    · have h1 : j < i := (I.order hj hi).1 (by rw [e]; exact pv_le_snoc C.two _ _)
      have h2 := ih j h1 hj
      rw [e, List.length_append, List.length_singleton]
      omega
end
/-- there already -/
theorem Least.here {S A : Type} {st : S → A → Option S} {B : Nat} {code : A → Nat} {acts : List A} {b : S} {goal : S → Bool} (C : Coded B code acts) (h : goal b = true) : Least st B code acts b goal (some []) := by
  show (∀ a ∈ ([] : List A), a ∈ acts) ∧ (∃ x, run st b [] = some x ∧ goal x = true) ∧ ∀ r : List A, (∀ a ∈ r, a ∈ acts) → ∀ y, run st b r = some y → goal y = true → pv B code [] ≤ pv B code r
  refine ⟨fun a ha => (by cases ha), ⟨b, rfl, h⟩, fun r _ y _ _ => ?_⟩
  rw [pv_nil]; exact pv_pos C.two r
end Bal.Mast

/-
  Appends as steps of a region that draws.
-/
namespace Go.Proofs.Ytacbkbilbmkjnaa
open Go.RowKit Bal Bal.Trim Bal.Mast
set_option linter.unusedVariables false
set_option linter.unusedSimpArgs false
set_option maxHeartbeats 2000000
set_option maxRecDepth 10000

/-- the copy of a list: what else stands -/
theorem step_copyG {α : Type} {enc : α → List Value} {P : Program} {ops : Array Oper} {w0 w : World} {o : Oper} {a : Act} {K : Act → World → Prop} {Q : Exit → Act → World → Prop} {E : Prop} (hg : o.guard = none) (s x : Operand) (t : TypeId)
    (ho : o.op = .call { callee := .builtin .append, args := #[s, x], argTypes := #[t, t] })
    (e : TypeId) (z : Value) (size bytes : Nat) (ht : P.underlying t = some (.slice e)) (hinfo : (P.info? e).map (fun i => (i.zero, i.size, i.bytes)) = some (some z, size, bytes))
    (hzs : z.cells.size = size) (hsz : 0 < size) (he : ∀ x : α, (enc x).length = size) (h1 : ∀ (x : α), ∀ u ∈ enc x, u.oneCell' = true)
    (v : Value) (hs : a.eval s = v) (hown : w.ownsRow w0.heap.size e size v ([] : List α).length (([] : List α).flatMap enc))
    (ad : Option Addr) (c : Nat) (ys : List α) (hx : a.eval x = .slice ad ys.length c) (hc : ad = none → c = 0) (hrow : Row enc size w0.heap.size w0 ad ys) (hk : Kept w0 w)
    (h63 : ys.length ≤ 1000000) (hbytes : bytes ≤ 100000)
    (h : ∀ v' w', w'.ownsRow w0.heap.size e size v' ys.length (ys.flatMap enc) → w.grownBy w' v.ownBlock → Kept w0 w' → K (a.put o.dst v') w') :
    if Region.wanted o (yielded ops a.tmps) = true then Oper.wp P o a w K Q else E := by
  have hw : Region.wanted o (yielded ops a.tmps) = true := by simp [Region.wanted, hg]
  rw [if_pos hw]
  obtain ⟨i, hi, hz, hsize, hby⟩ := info_parts hinfo
  have hm : ys.length * bytes ≤ 1000000 * 100000 := Nat.mul_le_mul h63 hbytes
  have key : ∀ v' w', w'.ownsRow w0.heap.size e size v' ys.length (ys.flatMap enc) → w.grownBy w' v.ownBlock → K (a.put o.dst v') w' :=
    fun v' w' hown' hgrow => h v' w' hown' hgrow (Kept.grown hk hown (Nat.le_refl _) hgrow)
  cases ad with
  | none =>
    have hys : ys = [] := by
      cases ys with
      | nil => rfl
      | cons y ys => obtain ⟨b, off, ha, _⟩ := hrow 0 y rfl; cases ha
    subst hys
    have := hc rfl
    subst this
    have hrun := run_append_owned_none (P := P) (w := w) w0.heap.size t o.type e i size ht hi v ([] : List α).length _ hown
    have hK := key v w hown ⟨rfl, rfl, rfl, Nat.le_refl _, fun _ _ _ => rfl⟩
    unfold Oper.wp
    simp only [List.length_nil] at hx
    simp [execOp, ho, resolve, invoke, builtin, hs, hx, hrun, Result.andThen]
    exact hK
  | some ad =>
    refine wp_append_own (w := w) s x t ho w0.heap.size e i z size bytes ht hi hz hsize hby hzs hsz v ([] : List α).length _ hs hown ad ys.length c (ys.flatMap enc) hx (flatMap_len he ys) ((hrow.keep hk (Nat.le_refl _)).news hsz he) ?_ (by simp [maxLen]; omega) (by simp; omega) hk.size ?_
    · intro u hu
      obtain ⟨y, _, hy⟩ := List.mem_flatMap.1 hu
      exact h1 y u hy
    · intro v' w' ho' hg' _
      exact key v' w' (by simpa using ho') hg'
theorem cells_blk {w : World} {m : Nat} {us : List Value} {T : TypeId} (h : Blk w m us.toArray T) : ∀ j u, us[j]? = some u → w.cell? ((⟨m, 0, none⟩ : Addr).add j) = some u := by
  intro j u hj
  rw [show (⟨m, 0, none⟩ : Addr).add j = ⟨m, j, none⟩ by simp [Addr.add]; exact fun h => h.symm, h.cell, List.getElem?_toArray]
  exact hj
/-- one more at the end of a list of the call's own -/
theorem step_push {P : Program} {ops : Array Oper} {w : World} {o : Oper} {a : Act} {K : Act → World → Prop} {Q : Exit → Act → World → Prop} {E : Prop} (hg : o.guard = none) (s x : Operand) (t : TypeId)
    (ho : o.op = .call { callee := .builtin .append, args := #[s, x], argTypes := #[t, t] })
    (base : Nat) (e : TypeId) (z : Value) (size bytes : Nat) (ht : P.underlying t = some (.slice e)) (hinfo : (P.info? e).map (fun i => (i.zero, i.size, i.bytes)) = some (some z, size, bytes))
    (hzs : z.cells.size = size) (hsz : 0 < size) (v : Value) (n : Nat) (xs : List Value) (hs : a.eval s = v) (hown : w.ownsRow base e size v n xs)
    (m : Nat) (us : List Value) (T : TypeId) (hx : a.eval x = .slice (some ⟨m, 0, none⟩) 1 1) (hl : us.length = size) (hblk : Blk w m us.toArray T) (h1 : ∀ u ∈ us, u.oneCell' = true)
    (h63 : n + 1 ≤ 1000000) (hbytes : bytes ≤ 100000) (hbase : base ≤ w.heap.size)
    (h : ∀ v' w', w'.ownsRow base e size v' (n + 1) (xs ++ us) → w.grownBy w' v.ownBlock → K (a.put o.dst v') w') :
    if Region.wanted o (yielded ops a.tmps) = true then Oper.wp P o a w K Q else E := by
  have hw : Region.wanted o (yielded ops a.tmps) = true := by simp [Region.wanted, hg]
  rw [if_pos hw]
  obtain ⟨i, hi, hz, hsize, hby⟩ := info_parts hinfo
  have hm : (n + 1) * bytes ≤ 1000000 * 100000 := Nat.mul_le_mul h63 hbytes
  exact wp_append_own (w := w) s x t ho base e i z size bytes ht hi hz hsize hby hzs hsz v n xs hs hown ⟨m, 0, none⟩ 1 1 us hx (by omega) (cells_blk hblk) h1 (by simp [maxLen]; omega) (by omega) hbase fun v' w' h2 h3 _ => h v' w' h2 h3

end Go.Proofs.Ytacbkbilbmkjnaa

/-
  A slice of the call's own that may begin in the midst of its block: a queue. No program in sight.
-/
namespace Bal
open Go Go.RowKit
set_option linter.unusedVariables false
/-- n elements of k cells in a block of the call's own, from some cell on -/
def Que (w : World) (base : Nat) (e : TypeId) (k : Nat) (v : Value) (n : Nat) (xs : List Value) : Prop :=
  xs.length = n * k ∧ ∃ g off cap cur, v = .slice (some ⟨g, off, none⟩) n cap ∧ base ≤ g ∧ Blk w g cur e ∧ off + cap * k ≤ cur.size ∧ n ≤ cap ∧ cap ≤ maxLen ∧ ∀ j u, xs[j]? = some u → cur[off + j]? = some u
theorem Que.form {w : World} {base k n : Nat} {e : TypeId} {v : Value} {xs : List Value} (h : Que w base e k v n xs) : ∃ g off cap, v = .slice (some ⟨g, off, none⟩) n cap ∧ base ≤ g ∧ g < w.heap.size ∧ n ≤ cap ∧ cap ≤ maxLen ∧ ∀ j u, xs[j]? = some u → w.cell? ⟨g, off + j, none⟩ = some u := by
  obtain ⟨_, g, off, cap, cur, hv, hb, hh, _, h1, h2, h3⟩ := h
  exact ⟨g, off, cap, hv, hb, hh.lt, h1, h2, fun j u hu => by rw [hh.cell]; exact h3 j u hu⟩
theorem Que.of_owns {w : World} {base k n : Nat} {e : TypeId} {v : Value} {xs : List Value} (h : w.ownsRow base e k v n xs) (hn : 0 < n) : Que w base e k v n xs := by
  obtain ⟨hl, ⟨_, h0⟩ | ⟨g, cap, cur, hv, hb, hh, h1, h2, h3, h4⟩⟩ := h
  · omega
  · refine ⟨hl, g, 0, cap, cur, hv, hb, hh, by omega, h1, h2, fun j u hu => ?_⟩
    rw [← h4, List.getElem?_take] at hu
    split at hu
    · rw [Nat.zero_add, ← hu, Array.getElem?_toList]
    · cases hu
theorem Que.keep {w w' : World} {base k n : Nat} {e : TypeId} {v : Value} {xs : List Value} (h : Que w base e k v n xs) (hk : Kept w w') : Que w' base e k v n xs := by
  obtain ⟨hl, g, off, cap, cur, hv, hb, hh, r⟩ := h
  exact ⟨hl, g, off, cap, cur, hv, hb, hh.keep hk, r⟩
theorem Que.alloc {w : World} {base k n : Nat} {e : TypeId} {v : Value} {xs : List Value} (h : Que w base e k v n xs) (o : Obj) : Que (w.alloc o) base e k v n xs := h.keep (Kept.alloc (Below.refl _ _) _)
theorem Que.base {w : World} {base base' k n : Nat} {e : TypeId} {v : Value} {xs : List Value} (h : Que w base e k v n xs) (hb : base' ≤ base) : Que w base' e k v n xs := by
  obtain ⟨hl, g, off, cap, cur, hv, hb', r⟩ := h
  exact ⟨hl, g, off, cap, cur, hv, Nat.le_trans hb hb', r⟩
/-- a store into another block -/
theorem Que.set {w : World} {b i base k n : Nat} {arr : Array Value} {t e : TypeId} {v u : Value} {xs : List Value} (h : Que w base e k v n xs) (hb : Blk w b arr t) (hne : t ≠ e) : Que (w.setCell ⟨b, i, none⟩ u) base e k v n xs := by
  obtain ⟨hl, g, off, cap, cur, hv, hg, hh, r⟩ := h
  refine ⟨hl, g, off, cap, cur, hv, hg, Blk.other hh ?_ u, r⟩
  simp only
  rintro rfl
  unfold Blk at hb hh
  rw [hb] at hh
  simp only [Option.some.injEq, Obj.cells.injEq] at hh
  exact hne hh.2.1
/-- the world below which the queue's block is not: what stands below number m, where m is at or below the queue's own -/
theorem Que.low {w w' : World} {m base k n : Nat} {e : TypeId} {v : Value} {xs : List Value} (h : Que w base e k v n xs) (hk : Below m w w') (hm : ∀ g, v.ownBlock = some g → g < m) : Que w' base e k v n xs := by
  obtain ⟨hl, g, off, cap, cur, rfl, hg, hh, r⟩ := h
  refine ⟨hl, g, off, cap, cur, rfl, hg, ?_, r⟩
  unfold Blk at *
  rw [hk.block g (hm g rfl)]
  exact hh
/-- its tail -/
theorem Que.tail {w : World} {base k n g off cap : Nat} {e : TypeId} {us xs : List Value} (h : Que w base e k (.slice (some ⟨g, off, none⟩) (n + 1) cap) (n + 1) (us ++ xs)) (hu : us.length = k) : Que w base e k (.slice (some ⟨g, off + k, none⟩) n (cap - 1)) n xs := by
  obtain ⟨hl, g', off', cap', cur, hv, hb, hh, h0, h1, h2, h3⟩ := h
  simp only [Value.slice.injEq, Option.some.injEq, Addr.mk.injEq, and_true] at hv
  obtain ⟨⟨rfl, rfl⟩, -, rfl⟩ := hv
  rw [List.length_append, hu, Nat.add_mul] at hl
  refine ⟨by omega, g, off + k, cap - 1, cur, rfl, hb, hh, ?_, by omega, by omega, fun j u hj => ?_⟩
  · obtain ⟨c, rfl⟩ : ∃ c, cap = c + 1 := ⟨cap - 1, by omega⟩
    rw [Nat.add_mul] at h0
    simp only [Nat.add_sub_cancel]
    omega
  · have := h3 (k + j) u (by rw [List.getElem?_append_right (by omega), hu, Nat.add_sub_cancel_left]; exact hj)
    rw [← Nat.add_assoc] at this
    exact this
theorem Que.tail0 {w : World} {base k n g off : Nat} {e : TypeId} {us xs : List Value} (h : Que w base e k (.slice (some ⟨g, off, none⟩) (n + 1) 1) (n + 1) (us ++ xs)) (hu : us.length = k) : Que w base e k (.slice (some ⟨g, off, none⟩) n 0) n xs := by
  obtain ⟨hl, g', off', cap', cur, hv, hb, hh, h0, h1, h2, h3⟩ := h
  simp only [Value.slice.injEq, Option.some.injEq, Addr.mk.injEq, and_true] at hv
  obtain ⟨⟨rfl, rfl⟩, -, rfl⟩ := hv
  have hn : n = 0 := by omega
  subst hn
  rw [List.length_append, hu] at hl
  have hx : xs = [] := List.eq_nil_of_length_eq_zero (by omega)
  subst hx
  exact ⟨by simp, g, off, 0, cur, rfl, hb, hh, by omega, Nat.le_refl _, by omega, fun j u hj => by simp at hj⟩
/-- blocks of another type stand when the queue grows -/
theorem Blk.grownQ {w w' : World} {b base k n : Nat} {arr : Array Value} {t e : TypeId} {v : Value} {xs : List Value} (h : Blk w b arr t) (ho : Que w base e k v n xs) (hne : t ≠ e) (hg : w.grownBy w' v.ownBlock) : Blk w' b arr t := by
  have hl := h.lt
  unfold Blk at *
  rw [hg.block b hl ?_]
  · exact h
  · intro he
    obtain ⟨_, g, off, cap, cur, rfl, _, hh, _⟩ := ho
    simp only [Value.ownBlock, Option.some.injEq] at he
    subst he
    unfold Blk at hh
    rw [h] at hh
    simp only [Option.some.injEq, Obj.cells.injEq] at hh
    exact hne hh.2.1
theorem owns_grownQ {B base k k' n n' : Nat} {w w' : World} {e e' : TypeId} {v v' : Value} {xs ys : List Value} (h : w.ownsRow B e' k' v' n' ys) (ho : Que w base e k v n xs) (hne : e' ≠ e) (hg : w.grownBy w' v.ownBlock) : w'.ownsRow B e' k' v' n' ys := by
  obtain ⟨q1, q2 | ⟨g, cap, cur, hv, hgb, hh, r⟩⟩ := h
  · exact ⟨q1, .inl q2⟩
  · exact ⟨q1, .inr ⟨g, cap, cur, hv, hgb, Blk.grownQ hh ho hne hg, r⟩⟩
theorem Kept.grownQ {w0 w w' : World} {base k n : Nat} {e : TypeId} {v : Value} {xs : List Value} (h : Kept w0 w) (ho : Que w base e k v n xs) (hb : w0.heap.size ≤ base) (hg : w.grownBy w' v.ownBlock) : Kept w0 w' := by
  refine Below.trans h ⟨hg.os, hg.tape, hg.output, hg.size, fun i hi => hg.block i (Nat.lt_of_lt_of_le hi h.size) fun he => ?_⟩
  obtain ⟨_, g, off, cap, cur, rfl, hbg, _, _⟩ := ho
  simp only [Value.ownBlock, Option.some.injEq] at he
  omega
/-- the queue stands when a list of another type grows -/
theorem Que.grown {w w' : World} {base base' k k' n n' : Nat} {e e' : TypeId} {v v' : Value} {xs ys : List Value} (h : Que w base e k v n xs) (ho : w.ownsRow base' e' k' v' n' ys) (hne : e ≠ e') (hg : w.grownBy w' v'.ownBlock) : Que w' base e k v n xs := by
  obtain ⟨hl, g, off, cap, cur, hv, hb, hh, r⟩ := h
  exact ⟨hl, g, off, cap, cur, hv, hb, Blk.grown hh ho hne hg, r⟩
/-- the queue stands when block b, which is not its own, is written -/
theorem Que.turned {w w' : World} {b base k n : Nat} {e : TypeId} {v : Value} {xs : List Value} (h : Que w base e k v n xs) (hb : ∀ arr t, ¬ Blk w b arr t) (hg : w.grownBy w' (some b)) : Que w' base e k v n xs := by
  obtain ⟨hl, g, off, cap, cur, hv, hbb, hh, r⟩ := h
  refine ⟨hl, g, off, cap, cur, hv, hbb, ?_, r⟩
  have hl := hh.lt
  have hgb : g ≠ b := fun e => hb _ _ (e ▸ hh)
  unfold Blk at *
  rw [hg.block g hl (fun he => hgb (by simpa using he))]
  exact hh
theorem owns_turned {w w' : World} {b base k n : Nat} {e : TypeId} {v : Value} {xs : List Value} (h : w.ownsRow base e k v n xs) (hb : ∀ arr t, ¬ Blk w b arr t) (hg : w.grownBy w' (some b)) : w'.ownsRow base e k v n xs := by
  obtain ⟨q1, q2 | ⟨g, cap, cur, hv, hgb, hh, r⟩⟩ := h
  · exact ⟨q1, .inl q2⟩
  · refine ⟨q1, .inr ⟨g, cap, cur, hv, hgb, ?_, r⟩⟩
    have hh' : Blk w g cur e := hh
    have hl := hh'.lt
    have hne : g ≠ b := fun e => hb _ _ (e ▸ hh')
    rw [hg.block g hl (fun he => hne (by simpa using he))]
    exact hh
/-- cells laid into a block -/
theorem Blk.setCells {b : Nat} {t : TypeId} : ∀ (vs : List Value) (o : Nat) (w : World) (arr : Array Value), Blk w b arr t → ∃ arr', Blk (w.setCells b o vs) b arr' t ∧ arr'.size = arr.size
  | [], _, w, arr, h => ⟨arr, h, rfl⟩
  | v :: r, o, w, arr, h => by
    obtain ⟨arr', h1, h2⟩ := Blk.setCells r (o + 1) _ _ (h.set o v)
    exact ⟨arr', h1, by rw [h2, Array.size_setIfInBounds]⟩
theorem World.grownBy_setCells (b : Nat) : ∀ (vs : List Value) (o : Nat) (w : World), w.grownBy (w.setCells b o vs) (some b)
  | [], _, w => ⟨rfl, rfl, rfl, Nat.le_refl _, fun _ _ _ => rfl⟩
  | v :: r, o, w => by
    obtain ⟨h1, h2, h3, h4, h5⟩ := World.grownBy_setCells b r (o + 1) (w.setCell ⟨b, o, none⟩ v)
    have hs : (w.setCell ⟨b, o, none⟩ v).heap.size = w.heap.size := by simp [World.setCell]
    refine ⟨h1, h2, h3, by rw [hs] at h4; exact h4, fun k hk hne => ?_⟩
    show ((w.setCell ⟨b, o, none⟩ v).setCells b (o + 1) r).heap[k]? = _
    rw [h5 k (by rw [hs]; exact hk) hne]
    exact Below.heap_setCell _ _ _ _ (fun he => hne (by rw [he]))
/-- one more at its end -/
theorem wpList_push_que {P : Program} (w : World) {ops : Array Oper} {rest : List Oper} {o : Oper} {a : Act} {Q : Exit → Act → World → Prop}
    (hg : o.guard = none) (s x : Operand) (t : TypeId) (hop : o.op = Op.call { callee := Callee.builtin Builtin.append, args := #[s, x], argTypes := #[t, t] })
    (e : TypeId) (z : Value) (size bytes : Nat) (h1 : P.underlying t = some (.slice e)) (hinfo : (P.info? e).map (fun i => (i.zero, i.size, i.bytes)) = some (some z, size, bytes)) (h6 : z.cells.size = size) (h7 : 0 < size)
    (base : Nat) (hbase : base ≤ w.heap.size) (v : Value) (n : Nat) (xs : List Value) (hs : a.eval s = v) (hq : Que w base e size v n xs)
    (m : Nat) (us : List Value) (T : TypeId) (hx : a.eval x = .slice (some ⟨m, 0, none⟩) 1 1) (hl : us.length = size) (hblk : Blk w m us.toArray T) (h1c : ∀ u ∈ us, u.oneCell' = true)
    (b1 : n + 1 ≤ 1000000) (b2 : bytes ≤ 100000)
    (hK : ∀ v' w', Que w' base e size v' (n + 1) (xs ++ us) → w.grownBy w' v.ownBlock → (v'.ownBlock = v.ownBlock ∨ ∃ g, v'.ownBlock = some g ∧ w.heap.size ≤ g) → wpList P ops Q rest (a.put o.dst v') w') :
    wpList P ops Q (o :: rest) a w := by
  obtain ⟨i, hi, hz, hsize, hby⟩ := info_parts hinfo
  have hm : (n + 1) * bytes ≤ 1000000 * 100000 := Nat.mul_le_mul b1 b2
  obtain ⟨hlen, g, off, cap, cur, rfl, hb, hh, c0, c1, c2, c3⟩ := hq
  have hcells : ∀ j u, us[j]? = some u → w.cell? ((⟨m, 0, none⟩ : Addr).add j) = some u := by
    intro j u hj
    rw [show (⟨m, 0, none⟩ : Addr).add j = ⟨m, j, none⟩ by simp [Addr.add]; exact fun h => h.symm, hblk.cell, List.getElem?_toArray]
    exact hj
  have hmul : (n + 1) * size = n * size + size := by rw [Nat.add_mul, Nat.one_mul]
  refine wpList_append_arg w hg s x t hop e i z size bytes h1 hi hz hsize hby h6 h7 g off n cap xs hs hlen (fun j u hu => by rw [hh.cell]; exact c3 j u hu) ⟨m, 0, none⟩ 1 1 us hx (by omega) hcells h1c ?_ (by simp [maxLen]; omega) (by omega) ?_ ?_
  · intro hr j hj
    have : (n + 1) * size ≤ cap * size := Nat.mul_le_mul_right _ hr
    refine ⟨?_, hh.free _⟩
    rw [hh.cell, Array.getElem?_eq_getElem (by omega)]
    rfl
  · intro hr
    have hcap : (n + 1) * size ≤ cap * size := Nat.mul_le_mul_right _ hr
    obtain ⟨arr', hb', hsz'⟩ := Blk.setCells us (off + n * size) w cur hh
    refine hK _ _ ⟨by rw [List.length_append, hlen, hl, hmul], g, off, cap, arr', rfl, hb, hb', by omega, hr, c2, fun j u hj => ?_⟩ (World.grownBy_setCells g us _ w) (.inl rfl)
    rw [← hb'.cell]
    by_cases hjn : j < n * size
    · rw [World.cell?_setCells_out g us _ w ⟨g, off + j, none⟩ (fun _ _ => .inl (by simp only; omega)), hh.cell]
      rw [List.getElem?_append_left (by omega)] at hj
      exact c3 j u hj
    · rw [List.getElem?_append_right (by omega)] at hj
      obtain ⟨hlt, he⟩ := List.getElem?_eq_some_iff.1 hj
      have := World.cell?_setCells_in g us (off + n * size) w (fun j hj => by rw [hh.cell, Array.getElem?_eq_getElem (by omega)]; rfl) (j - xs.length) hlt
      rw [show off + n * size + (j - xs.length) = off + j by omega] at this
      rw [this, he]
  · intro _ v' w' hown hgr
    obtain ⟨_, g', off', cap', cur', hv', hb', _⟩ := Que.of_owns hown (by omega)
    exact hK v' w' ((Que.of_owns hown (by omega)).base hbase) ⟨hgr.os, hgr.tape, hgr.output, hgr.size, fun k hk hne => hgr.block k hk (by simp)⟩ (.inr ⟨g', by rw [hv']; rfl, hb'⟩)
/-- a block that is not the one that grows -/
theorem Blk.beside {w w' : World} {b : Nat} {arr : Array Value} {t : TypeId} {row : Option Nat} (h : Blk w b arr t) (hne : row ≠ some b) (hg : w.grownBy w' row) : Blk w' b arr t := by
  have hl := h.lt
  unfold Blk at *
  rw [hg.block b hl (fun he => hne he.symm)]
  exact h
theorem Below.grown {w w' : World} {m b : Nat} (hg : w.grownBy w' (some b)) (hb : m ≤ b) (hs : m ≤ w.heap.size) : Below m w w' :=
  ⟨hg.os, hg.tape, hg.output, hg.size, fun i hi => hg.block i (Nat.lt_of_lt_of_le hi hs) (fun he => by simp at he; omega)⟩
open Go.Maps
/-- 'm[k]', as an equation -/
theorem InSet.look {P : Program} {w : World} {t k e : TypeId} {b n : Nat} {f : Lit → Bool} (h : InSet P k e w b n f) (K : Keyed P k) (ht : P.underlying t = some (.map k e)) (he : P.underlying e = some .bool) (hz : (zeroValue e).run P w = .ok (.bool false) w)
    {key : Value} {kl : Lit} (hkey : keyOf P k key = some kl) : (Instr.lookup t (.map (some b)) key false).run P w = .ok (.bool (f kl)) w := by
  obtain ⟨D, hown, hD, hf⟩ := h
  obtain ⟨v, ps, hrun, hv⟩ := hown.lookup K ht hz (plainElem_bool he false) hkey
  rw [hf kl] at hv
  have hvv : v = .bool (f kl) := by
    unfold plainElem at hv
    rw [he] at hv
    cases v <;> simp at hv
    obtain ⟨rfl, _⟩ := hv
    rfl
  rw [hrun, hvv]
/-- 'm[k] = v', as an equation -/
theorem InSet.run {P : Program} {w : World} {t k e : TypeId} {b n : Nat} {f g : Lit → Bool} (h : InSet P k e w b n f) (K : Keyed P k) (ht : P.underlying t = some (.map k e)) (he : P.underlying e = some .bool) (hn : n < maxLen)
    {key : Value} {kl : Lit} {y : Bool} (hkey : keyOf P k key = some kl) (hg1 : g kl = y) (hg2 : ∀ z, z ≠ kl → g z = f z) :
    ∃ w', (Instr.mapUpdate t (.map (some b)) key (.bool y)).run P w = .ok () w' ∧ InSet P k e w' b (n + 1) g ∧ w.grownBy w' (some b) := by
  obtain ⟨D, hown, hD, hf⟩ := h
  obtain ⟨w', hrun, r1, r2⟩ := hown.update K ht hn hkey (plainElem_bool he y)
  exact ⟨w', hrun, InSet.put hD hf (K.key hkey) hg1 hg2 r1, r2⟩
theorem InSet.none {P : Program} {k e : TypeId} {w : World} {b n : Nat} {f : Lit → Bool} (h : InSet P k e w b n f) (arr : Array Value) (t : TypeId) : ¬ Blk w b arr t := by
  obtain ⟨D, ⟨es, clock, hh, _⟩, _⟩ := h
  intro hb
  unfold Blk at hb
  rw [hh] at hb
  cases hb
theorem InSet.beside {P : Program} {k e : TypeId} {w w' : World} {b n : Nat} {f : Lit → Bool} {row : Option Nat} (h : InSet P k e w b n f) (hne : row ≠ some b) (hg : w.grownBy w' row) : InSet P k e w' b n f := by
  have hl := h.lt
  obtain ⟨D, ⟨es, clock, hh, r⟩, h2⟩ := h
  exact ⟨D, ⟨es, clock, by rw [hg.block b hl (fun he => hne he.symm)]; exact hh, r⟩, h2⟩
/-- a number that is least among those of a kind -/
theorem least_of {P : Nat → Prop} : ∀ n, P n → ∃ m, P m ∧ ∀ j, P j → m ≤ j := by
  intro n
  induction n using Nat.strongRecOn with
  | ind n ih =>
    intro hn
    by_cases h : ∃ j, j < n ∧ P j
    · obtain ⟨j, hj, hp⟩ := h
      exact ih j hj hp
    · exact ⟨n, hn, fun j hj => Nat.le_of_not_lt fun hlt => h ⟨j, hlt, hj⟩⟩
noncomputable def leastOf (P : Nat → Prop) : Nat := by classical exact if h : ∃ n, P n then Classical.choose (least_of h.choose h.choose_spec) else 0
theorem leastOf_ok {P : Nat → Prop} {n : Nat} (h : P n) : P (leastOf P) ∧ leastOf P ≤ n := by
  unfold leastOf
  rw [dif_pos ⟨n, h⟩]
  have := Classical.choose_spec (least_of (P := P) (Exists.choose ⟨n, h⟩) (Exists.choose_spec ⟨n, h⟩))
  exact ⟨this.1, this.2 n h⟩
end Bal

/-
  The acts that the program tries, in order; berths as keys.
-/
namespace Go.Proofs.Ytacbkbilbmkjnaa
open Go.RowKit Bal Bal.Trim Bal.Mast
set_option linter.unusedVariables false
set_option linter.unusedSimpArgs false
set_option maxHeartbeats 2000000
set_option maxRecDepth 10000

def hiP (p : Port) (t : Int) : Int := if t = 2 then min (needP p) p.people else if t = 9 then (p.axes.length : Int) - 1 else 0
theorem numsP_up (p : Port) (t : Int) : numsP p t = upFrom (loK p t) (hiP p t - loK p t + 1).toNat := by
  unfold numsP loK hiP
  by_cases h2 : t = 2
  · rw [if_pos h2, if_pos h2, if_pos h2]
  · rw [if_neg h2, if_neg h2, if_neg h2]
    by_cases h9 : t = 9
    · rw [if_pos h9, if_pos h9]; congr 1; omega
    · rw [if_neg h9, if_neg h9]; rfl
theorem hiP_bd {p : Port} (hp : portB p = true) (t : Int) : (0 ≤ loK p t ∧ loK p t ≤ 8000000) ∧ (0 ≤ hiP p t ∧ hiP p t ≤ 200) := by
  have h1 := portB_bd hp
  have h2 := needP_bd hp
  unfold loK hiP
  split
  · omega
  · split <;> omega
theorem actsTo_more (nums : Int → List Int) (k : Nat) : ∀ j : Nat, ∃ r, actsTo nums (k + j) = actsTo nums k ++ r
  | 0 => ⟨[], by simp⟩
  | j + 1 => by
    obtain ⟨r, hr⟩ := actsTo_more nums k j
    exact ⟨_, by rw [← Nat.add_assoc, actsTo_succ, hr, List.append_assoc]⟩
theorem acts_at {nums : Int → List Int} {k m : Nat} (hk : k < 13) {lo : Int} {N : Nat} (hn : nums (1 + (k : Int)) = upFrom lo N) (hm : m < N) : ∃ h : (actsTo nums k).length + m < (actsOf nums).length, (actsOf nums)[(actsTo nums k).length + m] = ⟨1 + (k : Int), lo + (m : Int)⟩ := by
  obtain ⟨r, hr⟩ := actsTo_more nums (k + 1) (12 - k)
  have h2 := actsTo_succ nums k
  rw [hn] at h2
  rw [show k + 1 + (12 - k) = 13 by omega, h2] at hr
  have hr' : actsOf nums = (actsTo nums k ++ (upFrom lo N).map fun n => (⟨1 + (k : Int), n⟩ : Deed)) ++ r := hr
  have key : (actsOf nums)[(actsTo nums k).length + m]? = some ⟨1 + (k : Int), lo + (m : Int)⟩ := by
    rw [hr', List.append_assoc, List.getElem?_append_right (by omega), Nat.add_sub_cancel_left, List.getElem?_append_left (by simp [upFrom]; omega)]
    simp [upFrom, hm]
  obtain ⟨h, e⟩ := List.getElem?_eq_some_iff.1 key
  exact ⟨h, e⟩
theorem actsTo_next {nums : Int → List Int} {k : Nat} {lo : Int} {N : Nat} (hn : nums (1 + (k : Int)) = upFrom lo N) : (actsTo nums (k + 1)).length = (actsTo nums k).length + N := by
  rw [actsTo_succ, hn, List.length_append, List.length_map, upFrom_len]
theorem step_try {p : Port} {b : Berth} {a : Deed} {w : Wind} (hp : portB p = true) (hb : berthB p b = true) (hw : windB w = true) (hk : 1 ≤ a.kind ∧ a.kind ≤ 13) :
    stepB p w b a = if tryR p (dockOf p b ⟨a, w⟩) a.kind = 0 then some (doneB (dockOf p b ⟨a, w⟩) a.kind) else none := by
  have he : doErr p b ⟨a, w⟩ = 0 := by
    unfold doErr
    have h1 : checkBerth p b = 0 := by unfold checkBerth; rw [if_pos hp, if_pos hb]
    have h3 : inB a.kind 1 13 = true := inB_iff.2 hk
    simp [h1, hw, h3]
  unfold stepB
  by_cases h : tryR p (dockOf p b ⟨a, w⟩) a.kind = 0
  · have hd : doE p b ⟨a, w⟩ = 0 := doE_zero.2 ⟨he, h⟩
    rw [if_pos hd, if_pos h, doB_done hd]
  · rw [if_neg (fun hd => h (doE_zero.1 hd).2), if_neg h]

open Go.Maps
theorem laidOutM : laidOutB Try.prog = true := by kernel_rfl
theorem rowB : (59 : TypeId) < Try.prog.types.size := of_decide_eq_true (by kernel_rfl)
theorem wideB_ : (match Try.prog.underlying 59 with | some (.array _ _) | some (.struct _) => true | _ => false) = true := by kernel_rfl
theorem keyedB : Keyed Try.prog 59 := Keyed.of_law (deep_law_laid laidOutM (m := 2) (by omega) rowB (by kernel_rfl) wideB_)
theorem zeroBool (w : World) : (zeroValue 4).run Try.prog w = .ok (.bool false) w := by kernel_rfl
def berthV (b : Berth) : Value := .agg #[.int .u8 b.ship, .int .i64 b.axis, .int .i64 b.held, .bool b.wire, .bool b.opn]
theorem berthV_inj {x y : Berth} (h : berthV x = berthV y) : x = y := by
  obtain ⟨x1, x2, x3, x4, x5⟩ := x
  obtain ⟨y1, y2, y3, y4, y5⟩ := y
  simp [berthV] at h
  simp [h]
def InB (b : Berth) : Prop := (0 ≤ b.ship ∧ b.ship ≤ 255) ∧ (-9223372036854775808 ≤ b.axis ∧ b.axis ≤ 9223372036854775807) ∧ (-9223372036854775808 ≤ b.held ∧ b.held ≤ 9223372036854775807)
theorem fuelM : ∃ m, Try.prog.types.size = m + 2 := ⟨Try.prog.types.size - 2, by kernel_rfl⟩
theorem keyTypeB : Try.prog.keyType 59 = true := by kernel_rfl
theorem cellsB : Try.prog.cellsOf 59 = 5 := by kernel_rfl
theorem key_berth {b : Berth} (h : InB b) : ∃ l, keyOf Try.prog 59 (berthV b) = some l := by
  obtain ⟨⟨a1, a2⟩, ⟨b1, b2⟩, c1, c2⟩ := h
  obtain ⟨m, hm⟩ := fuelM
  obtain ⟨s, ax, he, wi, op⟩ := b
  simp only at a1 a2 b1 b2 c1 c2
  have u1 : Try.prog.cellsOf 5 = 1 := by kernel_rfl
  have u2 : Try.prog.cellsOf 3 = 1 := by kernel_rfl
  have u3 : Try.prog.cellsOf 4 = 1 := by kernel_rfl
  have w1 : (Lit.int .u8 s).wf = true := WalkArith.wf_u8 ⟨a1, a2⟩
  have w2 : (Lit.int .i64 ax).wf = true := WalkArith.wf_i64 ⟨b1, b2⟩
  have w3 : (Lit.int .i64 he).wf = true := WalkArith.wf_i64 ⟨c1, c2⟩
  have hf : (berthV ⟨s, ax, he, wi, op⟩).formed Try.prog 59 = true := by simp [Value.formed, Try.underlying59, cellsB, berthV]
  have hk : ∃ ls, Try.prog.keyLits (Try.prog.types.size + 1) 59 (berthV ⟨s, ax, he, wi, op⟩).cells.toList = some ls := by
    rw [hm]
    unfold Program.keyLits
    rw [Try.underlying59]
    simp [berthV, Value.cells, cellsB, u1, u2, u3, Program.keyLits, Try.underlying5, Try.underlying3, Try.underlying4, w1, w2, w3]
  obtain ⟨ls, hls⟩ := hk
  unfold keyOf
  rw [Try.underlying59]
  simp only [keyTypeB, hf, hls]
  exact ⟨_, rfl⟩
noncomputable def metB (P : Prop) : Bool := @decide P (Classical.propDecidable P)
theorem metB_iff {P : Prop} : metB P = true ↔ P := by unfold metB; exact @decide_eq_true_iff P (Classical.propDecidable P)
theorem metB_congr {P Q : Prop} (h : P ↔ Q) : metB P = metB Q := by rw [propext h]
/-- the berths that were met -/
noncomputable def metF (L : List Berth) : Lit → Bool := fun l => metB (∃ b ∈ L, keyOf Try.prog 59 (berthV b) = some l)
theorem metF_at {L : List Berth} {b : Berth} {l : Lit} (h : keyOf Try.prog 59 (berthV b) = some l) : metF L l = decide (b ∈ L) := by
  unfold metF
  by_cases hb : b ∈ L
  · rw [decide_eq_true hb]; exact metB_iff.2 ⟨b, hb, h⟩
  · rw [decide_eq_false hb, ← Bool.not_eq_true, metB_iff]
    rintro ⟨c, hc, hk⟩
    refine hb ?_
    rw [← berthV_inj (keyedB.inj hk h)]; exact hc
theorem metF_nil : metF [] = fun _ => false := by funext l; unfold metF; rw [← Bool.not_eq_true, metB_iff]; rintro ⟨_, h, _⟩; cases h
theorem metF_put {L : List Berth} {b : Berth} {l : Lit} (h : keyOf Try.prog 59 (berthV b) = some l) : metF (L ++ [b]) l = true ∧ ∀ x, x ≠ l → metF (L ++ [b]) x = metF L x := by
  refine ⟨by rw [metF_at h]; simp, fun x hx => ?_⟩
  unfold metF
  refine metB_congr ⟨fun ⟨c, hc, hk⟩ => ?_, fun ⟨c, hc, hk⟩ => ⟨c, List.mem_append_left _ hc, hk⟩⟩
  rcases List.mem_append.1 hc with hc | hc
  · exact ⟨c, hc, hk⟩
  · obtain rfl := List.mem_singleton.1 hc
    rw [h] at hk
    exact absurd (Option.some.inj hk).symm hx

end Go.Proofs.Ytacbkbilbmkjnaa

/-
  What holds of the search for a plan, in the program.
-/
namespace Go.Proofs.Ytacbkbilbmkjnaa
open Go.RowKit Bal Bal.Trim Bal.Mast
set_option linter.unusedVariables false
set_option linter.unusedSimpArgs false
set_option maxHeartbeats 2000000
set_option maxRecDepth 10000

theorem infoRoute : (Try.prog.info? 135).map (fun i => (i.zero, i.size, i.bytes)) = some (some (.agg #[.int .u8 0, .int .i64 0, .int .i64 0, .bool false, .bool false, .slice none 0 0]), 6, 56) := by kernel_rfl
abbrev Rt := Berth × List Deed × Value
def routeC (t : Rt) : List Value := [.int .u8 t.1.ship, .int .i64 t.1.axis, .int .i64 t.1.held, .bool t.1.wire, .bool t.1.opn, t.2.2]
theorem routeC_len (t : Rt) : (routeC t).length = 6 := rfl
/-- the memory while the program looks for a plan: T: what is in the queue v; X: the berths that were met -/
structure PlanM (p : Port) (wd : Wind) (PC : Array Value) (w : World) (M B N : Nat) (V : World) (v : Value) (T : List Rt) (X : List Berth) : Prop where
  bn : B ≤ N
  wn : w.heap.size ≤ N
  own : ∀ t ∈ T, V.ownsRow w.heap.size 61 2 t.2.2 t.2.1.length (t.2.1.flatMap Deed.cells)
  que : Que V N 135 6 v T.length (T.flatMap routeC)
  r0 : Blk V w.heap.size PC 45
  r3 : Blk V (w.heap.size + 1 + 1) #[.int .i64 wd.xlo, .int .i64 wd.xhi, .int .i64 wd.ylo, .int .i64 wd.yhi] 25
  tab : Table V B M
  met : ∃ n, n ≤ X.length ∧ InSet Try.prog 59 4 V N n (metF X)
  kept : Kept w V
/-- what holds while the program looks for a plan: h berths are done, of the next one k acts -/
structure PlanI (p : Port) (b : Berth) (wd : Wind) (ship : Int) (L : List (Berth × List Deed)) (T : List Rt) (h k : Nat) : Prop where
  search : Search (stepB p wd) 4096 codeD (actsOf (numsP p)) b L h k
  no : ∀ (i : Nat) (hi : i < L.length), i < h → goalB ship L[i].1 = false
  map : T.map (fun t => (t.1, t.2.1)) = L.drop h
section
variable {p : Port} {b : Berth} {wd : Wind} {ship : Int} {PC : Array Value} {w : World} {M B N : Nat} {V V' : World} {v v' : Value} {L : List (Berth × List Deed)} {T : List Rt} {X : List Berth} {h k : Nat}
theorem PlanM.keep (I : PlanM p wd PC w M B N V v T X) (hk : Kept V V') : PlanM p wd PC w M B N V' v T X := by
  obtain ⟨n, hn, hm⟩ := I.met
  have hl := hm.lt
  have hbn := I.bn
  exact ⟨I.bn, I.wn, fun t ht => owns_keep (I.own t ht) hk, I.que.keep hk, I.r0.keep hk, I.r3.keep hk, I.tab.below (hk.mono (by omega)), ⟨n, hn, hm.keep hk⟩, Kept.drop I.kept hk⟩
theorem PlanM.size (I : PlanM p wd PC w M B N V v T X) : N < V.heap.size := by obtain ⟨_, _, hm⟩ := I.met; exact hm.lt
theorem PlanM.turned (I : PlanM p wd PC w M B N V v T X) {y : Berth} {n : Nat} (hn : n ≤ X.length) (hs : InSet Try.prog 59 4 V' N (n + 1) (metF (X ++ [y]))) (hg : V.grownBy V' (some N)) : PlanM p wd PC w M B N V' v T (X ++ [y]) := by
  obtain ⟨_, _, hm⟩ := I.met
  have hz := I.size
  have hbn := I.bn
  have hno := hm.none
  have hne : ∀ {m arr t}, Blk V m arr t → m ≠ N := fun hb e => hno _ _ (e ▸ hb)
  exact ⟨I.bn, I.wn, fun t ht => owns_turned (I.own t ht) hno hg, I.que.turned hno hg, I.r0.turned (hne I.r0) hg, I.r3.turned (hne I.r3) hg, I.tab.below (Below.grown hg hbn (by omega)), ⟨n + 1, by simp; exact hn, hs⟩, Kept.turned I.kept I.wn hg⟩
theorem PlanM.grow (I : PlanM p wd PC w M B N V v T X) {t : Rt} (hu : V.ownsRow w.heap.size 61 2 t.2.2 t.2.1.length (t.2.1.flatMap Deed.cells)) (hq : Que V' N 135 6 v' (T.length + 1) (T.flatMap routeC ++ routeC t)) (hg : V.grownBy V' v.ownBlock) : PlanM p wd PC w M B N V' v' (T ++ [t]) X := by
  obtain ⟨n, hn, hm⟩ := I.met
  have hq0 := I.que
  obtain ⟨_, g, off, cap, cur, hv, hNg, hgb, _⟩ := hq0
  have hgN : g ≠ N := fun e => hm.none _ _ (e ▸ hgb)
  have hvb : v.ownBlock = some g := by rw [hv]; rfl
  have hgs := hgb.lt
  have hbn := I.bn
  refine ⟨I.bn, I.wn, fun u hu' => ?_, ?_, Blk.grownQ I.r0 I.que (by decide) hg, Blk.grownQ I.r3 I.que (by decide) hg, ?_, ⟨n, hn, hm.beside (by rw [hvb]; simpa using hgN) hg⟩, Kept.grownQ I.kept I.que I.wn hg⟩
  · rcases List.mem_append.1 hu' with hu' | hu'
    · exact owns_grownQ (I.own u hu') I.que (by decide) hg
    · obtain rfl := List.mem_singleton.1 hu'
      exact owns_grownQ hu I.que (by decide) hg
  · rw [List.length_append, List.flatMap_append]
    simpa using hq
  · rw [hvb] at hg
    exact I.tab.below (Below.grown hg (by omega) (by omega))
theorem PlanI.to (I : PlanI p b wd ship L T h k) {k' : Nat} (S : Search (stepB p wd) 4096 codeD (actsOf (numsP p)) b L h k') : PlanI p b wd ship L T h k' := ⟨S, I.no, I.map⟩
theorem PlanI.len (I : PlanI p b wd ship L T h k) : T.length = L.length - h := by
  have := congrArg List.length I.map
  simpa using this
/-- the one at the queue's head -/
theorem PlanI.head (I : PlanI p b wd ship L T h k) (hh : h < L.length) : ∃ u T', T = (L[h].1, L[h].2, u) :: T' := by
  have hm := I.map
  cases T with
  | nil => have := I.len; simp at this; omega
  | cons t T' =>
    rw [List.drop_eq_getElem_cons hh, List.map_cons] at hm
    obtain ⟨h1, -⟩ := List.cons.inj hm
    obtain ⟨t1, t2, t3⟩ := t
    have e1 : t1 = L[h].1 := by rw [← h1]
    have e2 : t2 = L[h].2 := by rw [← h1]
    subst e1 e2
    exact ⟨t3, T', rfl⟩
theorem PlanI.next (I : PlanI p b wd ship L T h (actsOf (numsP p)).length) (hh : h < L.length) (hg : goalB ship L[h].1 = false) : PlanI p b wd ship L T.tail (h + 1) 0 := by
  obtain ⟨u, T', hT⟩ := I.head hh
  subst hT
  refine ⟨I.search.next, fun i hi hih => ?_, ?_⟩
  · rcases Nat.lt_or_ge i h with h1 | h1
    · exact I.no i hi h1
    · obtain rfl : i = h := by omega
      exact hg
  · have := I.map
    rw [List.drop_eq_getElem_cons hh, List.map_cons] at this
    exact (List.cons.inj this).2
theorem PlanM.next (I : PlanM p wd PC w M B N V v T X) {g off cap n : Nat} (hv : v = .slice (some ⟨g, off, none⟩) n cap) (hn : 0 < T.length) : PlanM p wd PC w M B N V (.slice (if cap = 1 then some ⟨g, off, none⟩ else some ⟨g, off + 6, none⟩) (n - 1) (cap - 1)) T.tail X := by
  subst hv
  have hq := I.que
  have hn' : n = T.length := by
    obtain ⟨_, _, _, _, _, e, _⟩ := hq
    simp at e; exact e.2.1
  subst hn'
  cases T with
  | nil => simp at hn
  | cons t T' =>
    refine ⟨I.bn, I.wn, fun t ht => I.own t (List.mem_cons_of_mem _ ht), ?_, I.r0, I.r3, I.tab, I.met, I.kept⟩
    rw [List.flatMap_cons] at hq
    by_cases hc : cap = 1
    · subst hc
      rw [if_pos rfl]
      exact hq.tail0 (routeC_len _)
    · rw [if_neg hc]
      exact hq.tail (routeC_len _)
/-- a berth more at the queue's end -/
theorem PlanI.push (I : PlanI p b wd ship L T h k) (hh : h < L.length) {y : Berth} {l : List Deed} (u : Value) {k' : Nat} (S : Search (stepB p wd) 4096 codeD (actsOf (numsP p)) b (L ++ [(y, l)]) h k') : PlanI p b wd ship (L ++ [(y, l)]) (T ++ [(y, l, u)]) h k' := by
  refine ⟨S, fun i hi hih => ?_, ?_⟩
  · rw [List.getElem_append_left (by omega)]
    exact I.no i (by omega) hih
  · rw [List.map_append, List.drop_append_of_le_length (by omega), I.map]; rfl
/-- rounds that are left -/
def PlanH (p : Port) (b : Berth) (wd : Wind) (ship : Int) (PC : Array Value) (w : World) (M B N : Nat) (V : World) (v : Value) (m : Nat) : Prop :=
  ∃ L T h, h ≤ L.length ∧ 154369 - h = m ∧ PlanI p b wd ship L T h 0 ∧ PlanM p wd PC w M B N V v T (L.map fun q => q.1)
theorem valid_in {p : Port} (hp : portB p = true) {x : Berth} (h0 : 0 ≤ x.ship) (hx : berthB p x = true) : InB x := by
  have h1 := portB_bd hp
  have h2 := needP_bd hp
  obtain ⟨h3, h4, h5, _⟩ := berth_parts hx
  unfold InB
  omega
end

end Go.Proofs.Ytacbkbilbmkjnaa

/-
  Ways that a search has found.
-/
namespace Go.Proofs.Ytacbkbilbmkjnaa
open Go.RowKit Bal Bal.Trim Bal.Mast
set_option linter.unusedVariables false
set_option linter.unusedSimpArgs false
set_option maxHeartbeats 4000000
set_option maxRecDepth 10000

def outE (r : Option (List Deed)) : Int := match r with | some _ => 0 | none => 6
def outL (r : Option (List Deed)) : List Deed := r.getD []
def vcell (v : Value) : List Value := [v]
/-- the ways that were found, each a list of the call's own -/
structure Paths (B : Nat) (w : World) (L : List (Berth × List Deed)) (Ps : List Value) : Prop where
  len : Ps.length = L.length
  at_ : ∀ (i : Nat) (hi : i < L.length) (hp : i < Ps.length), w.ownsRow B 61 2 Ps[i] L[i].2.length (L[i].2.flatMap Deed.cells)
theorem Paths.keep {B : Nat} {w w' : World} {L : List (Berth × List Deed)} {Ps : List Value} (h : Paths B w L Ps) (hk : Below w.heap.size w w') : Paths B w' L Ps := ⟨h.len, fun i hi hp => owns_keep (h.at_ i hi hp) hk⟩
theorem Paths.grown {B base k n : Nat} {w w' : World} {L : List (Berth × List Deed)} {Ps : List Value} {e : TypeId} {v : Value} {xs : List Value} (h : Paths B w L Ps) (ho : w.ownsRow base e k v n xs) (hne : 61 ≠ e) (hg : w.grownBy w' v.ownBlock) : Paths B w' L Ps :=
  ⟨h.len, fun i hi hp => by
    obtain ⟨q1, q2 | ⟨g, cap, cur, hv, hgb, hh, r⟩⟩ := h.at_ i hi hp
    · exact ⟨q1, .inl q2⟩
    · exact ⟨q1, .inr ⟨g, cap, cur, hv, hgb, Blk.grown hh ho hne hg, r⟩⟩⟩
theorem owns_grown {B base k k' n n' : Nat} {w w' : World} {e e' : TypeId} {v v' : Value} {xs ys : List Value} (h : w.ownsRow B e' k' v' n' ys) (ho : w.ownsRow base e k v n xs) (hne : e' ≠ e) (hg : w.grownBy w' v.ownBlock) : w'.ownsRow B e' k' v' n' ys := by
  obtain ⟨q1, q2 | ⟨g, cap, cur, hv, hgb, hh, r⟩⟩ := h
  · exact ⟨q1, .inl q2⟩
  · exact ⟨q1, .inr ⟨g, cap, cur, hv, hgb, Blk.grown hh ho hne hg, r⟩⟩
theorem Paths.push {B : Nat} {w : World} {L : List (Berth × List Deed)} {Ps : List Value} (h : Paths B w L Ps) {x : Berth} {l : List Deed} {v : Value} (hv : w.ownsRow B 61 2 v l.length (l.flatMap Deed.cells)) : Paths B w (L ++ [(x, l)]) (Ps ++ [v]) :=
  ⟨by simp [h.len], fun i hi hp => by
    by_cases hl : i < L.length
    · have hl' : i < Ps.length := by rw [h.len]; exact hl
      rw [List.getElem_append_left hl', List.getElem_append_left hl]
      exact h.at_ i hl hl'
    · have he : i = L.length := by simp at hi; omega
      subst he
      have hq := h.len
      simp only [List.getElem_append_right (Nat.le_refl L.length), List.getElem_append_right (Nat.le_of_eq hq), hq, Nat.sub_self, List.getElem_cons_zero]
      exact hv⟩
/-- a slice literal of one element, as a list of the call's own -/
theorem owns_one {base k n : Nat} {e : TypeId} {w : World} {us : List Value} (hn : n = w.heap.size) (hb : base ≤ w.heap.size) (hu : us.length = k) : (w.alloc (.cells us.toArray e)).ownsRow base e k (.slice (some ⟨n, 0, none⟩) 1 1) 1 us := by
  subst hn hu
  refine ⟨by simp, .inr ⟨w.heap.size, 1, us.toArray, rfl, hb, Blk.new, Nat.le_refl _, by simp [maxLen], by simp, by simp⟩⟩
theorem thruG {w w' : World} {m : Nat} {arr : Array Value} {t : TypeId} {v : Value} {G : Prop} (h : Blk w m arr t) (hne : v.ownBlock ≠ some m) (hg : w.grownBy w' v.ownBlock) (k : Blk w' m arr t → G) : G := k (by
  have hl := h.lt
  unfold Blk at *
  rw [hg.block m hl (fun he => hne he.symm)]
  exact h)
theorem infoPath : (Try.prog.info? 79).map (fun i => (i.zero, i.size, i.bytes)) = some (some (.slice none 0 0), 1, 24) := by kernel_rfl

end Go.Proofs.Ytacbkbilbmkjnaa

/-
  A region that draws its order: some operations are taken first, two may then come up in either order, the rest is walked as in XHeld. No program in sight.
-/
namespace Bal
open Go Go.RowKit

section
variable {P : Program} {ops : Array Oper} {md : Region.Mode} {S : World → Prop} {Q : Exit → Act → World → Prop}

/-- operations that are taken first: all yield under S -/
def TakenAll (P : Program) (ops : Array Oper) (S : World → Prop) (K : Act → World → Prop) : List Oper → Act → World → Prop
  | [], a, w => K a w
  | o :: r, a, w => ∃ v, YieldsIf P ops S o v a ∧ TakenAll P ops S K r (a.put o.dst v) w
def marked : List Nat → Array Bool → Array Bool
  | [], listed => listed
  | i :: is, listed => marked is (listed.setIfInBounds i true)
def takenB (md : Region.Mode) (ops : Array Oper) : List Nat → Array Bool → Bool
  | [], _ => true
  | i :: is, listed => (Region.ready md ops listed).contains i && Region.free md ops listed i && decide (i < ops.size) && takenB md ops is (listed.setIfInBounds i true)

theorem lastOk_size : LastOk md ops ops.size := ⟨fun h => absurd h (Nat.lt_irrefl _), fun h => absurd h (Nat.lt_irrefl _), fun h => absurd h (Nat.lt_irrefl _)⟩
theorem lastInv_size (listed : Array Bool) : LastInv md ops ops.size listed := fun h => absurd h (Nat.lt_irrefl _)

theorem wpAnyE_of_taken (hsel : Region.noSelect ops = true) (hQ : ∀ c a d v w, Q (.panic c) (Act.put a d v) w → Q (.panic c) a w) {K : Act → World → Prop} {g : Nat} :
    ∀ (is : List Nat) (l : List Oper) (listed : Array Bool) (a : Act) (w : World), is.map (fun i => ops[i]?) = l.map some → takenB md ops is listed = true → S w →
      (∀ a, K a w → wpAnyE P md ops Q S ops.size g (marked is listed) a w) → TakenAll P ops S K l a w → wpAnyE P md ops Q S ops.size (l.length + g) listed a w
  | [], [], listed, a, w, _, _, _, hK, h => by rw [List.length_nil, Nat.zero_add]; exact hK a h
  | [], _ :: _, _, _, _, hm, _, _, _, _ => by simp at hm
  | _ :: _, [], _, _, _, hm, _, _, _, _ => by simp at hm
  | i :: is, o :: l, listed, a, w, hm, hB, hS, hK, h => by
    simp only [List.map_cons, List.cons.injEq] at hm
    obtain ⟨h0, hm'⟩ := hm
    simp only [takenB, Bool.and_eq_true, decide_eq_true_eq] at hB
    obtain ⟨⟨⟨hr, hf⟩, hlt⟩, hB'⟩ := hB
    obtain ⟨v, hy, hT⟩ := h
    have hr' : i ∈ Region.ready md ops listed := by simpa using hr
    rw [show (o :: l).length + g = (l.length + g) + 1 by simp only [List.length_cons]; omega]
    exact wpAnyE_first lastOk_size (by omega) h0 (Region.noSelect_spec hsel) (fun c a w => hQ c a _ _ w) _ listed a w (lastInv_size _) (Region.free_spec h0 hf) hr' hy hS
      (wpAnyE_of_taken hsel hQ is l _ _ _ hm' hB' hS hK hT)

/-- two operations, each ahead of the other, and what is then known of what they yielded -/
def Fork (P : Program) (ops : Array Oper) (Q : Exit → Act → World → Prop) (S : World → Prop) (R : Value → Value → World → Prop) (oi oj : Oper) (K : Act → World → Prop) (a : Act) (w : World) : Prop :=
  wpList P ops (onward (fun a1 w1 => S w1 ∧ wpList P ops (onward (fun a2 w2 => S w2 ∧ ∃ u v, a2 = (a.put oi.dst u).put oj.dst v ∧ R u v w2) Q) [oj] a1 w1) Q) [oi] a w ∧
  wpList P ops (onward (fun a1 w1 => S w1 ∧ wpList P ops (onward (fun a2 w2 => S w2 ∧ ∃ u v, a2 = (a.put oj.dst v).put oi.dst u ∧ R u v w2) Q) [oi] a1 w1) Q) [oj] a w ∧
  ∀ u v w2, S w2 → R u v w2 → K ((a.put oi.dst u).put oj.dst v) w2

theorem wpAnyE_fork {i j n g : Nat} {oi oj : Oper} {R : Value → Value → World → Prop} {K : Act → World → Prop} {listed : Array Bool} {a : Act} {w : World} (h0 : ops[i]? = some oi) (h0' : ops[j]? = some oj)
    (hd : ∀ d, oi.dst = some d → oj.dst ≠ some d) (hr : Region.ready md ops listed = [i, j]) (hri : Region.ready md ops (listed.setIfInBounds i true) = [j]) (hrj : Region.ready md ops (listed.setIfInBounds j true) = [i])
    (hij : i ≠ j) (h : Fork P ops Q S R oi oj K a w) (hK : ∀ a w, S w → K a w → wpAnyE P md ops Q S n g ((listed.setIfInBounds i true).setIfInBounds j true) a w) : wpAnyE P md ops Q S n (g + 2) listed a w := by
  obtain ⟨h1, h2, h3⟩ := h
  have one : ∀ {k : Nat} {o : Oper} {K : Act → World → Prop} {a : Act} {w : World}, ops[k]? = some o → wpList P ops (onward K Q) [o] a w → wpOp P ops Q k K a w := by
    intro k o K a w hk h
    refine wpOp_onward ?_
    unfold wpOp
    simp only [hk]
    exact h
  refine ⟨fun h => (by rw [hr] at h; cases h), fun k hk => ?_⟩
  rw [hr] at hk
  rcases List.mem_cons.1 hk with rfl | hk
  · refine wpOp_mono (fun a1 w1 hh => ⟨.inr hh.1, fun h => (by rw [hri] at h; cases h), fun k2 hk2 => ?_⟩) (one h0 h1)
    rw [hri] at hk2
    obtain rfl : k2 = j := by simpa using hk2
    refine wpOp_mono (fun a2 w2 hh2 => ⟨.inr hh2.1, ?_⟩) (one h0' hh.2)
    obtain ⟨hS2, u, v, rfl, hR⟩ := hh2
    exact hK _ _ hS2 (h3 u v w2 hS2 hR)
  · obtain rfl : k = j := by simpa using hk
    refine wpOp_mono (fun a1 w1 hh => ⟨.inr hh.1, fun h => (by rw [hrj] at h; cases h), fun k2 hk2 => ?_⟩) (one h0' h2)
    rw [hrj] at hk2
    obtain rfl : k2 = i := by simpa using hk2
    refine wpOp_mono (fun a2 w2 hh2 => ⟨.inr hh2.1, ?_⟩) (one h0 hh.2)
    obtain ⟨hS2, u, v, rfl, hR⟩ := hh2
    rw [← Act.put_comm a u v (fun d hd' => hd d hd'), Array.setIfInBounds_comm _ _ (Ne.symm hij)]
    exact hK _ _ hS2 (h3 u v w2 hS2 hR)

/-- THE THEOREM -/
theorem fork_walk {P : Program} {id : Nat} {Q : Exit → Act → World → Prop} {a : Act} {w : World} {l : List Oper} (S : World → Prop) (R : Value → Value → World → Prop) (is1 : List Nat) (i j : Nat) (is2 : List (Bool × Nat)) (hm : P.follows .mixedOrders = true)
    (hB : (Region.noSelect l.toArray && takenB .any l.toArray is1 (Array.replicate l.toArray.size false) && is1.all (fun i => decide (i < l.length)) && decide (i < l.length) && decide (j < l.length) && decide (i ≠ j) &&
      decide (Region.ready .any l.toArray (marked is1 (Array.replicate l.toArray.size false)) = [i, j]) && decide (Region.ready .any l.toArray ((marked is1 (Array.replicate l.toArray.size false)).setIfInBounds i true) = [j]) &&
      decide (Region.ready .any l.toArray ((marked is1 (Array.replicate l.toArray.size false)).setIfInBounds j true) = [i]) &&
      heldB .any l.toArray l.toArray.size is2 (((marked is1 (Array.replicate l.toArray.size false)).setIfInBounds i true).setIfInBounds j true) && is2.all (fun i => decide (i.2 < l.length)) &&
      decide (is1.length + (is2.length + 2) = l.length) && decide ((l[i]?).map (·.dst) ≠ (l[j]?).map (·.dst))) = true)
    (hQ : ∀ c a d v w, Q (.panic c) (Act.put a d v) w → Q (.panic c) a w) (hS : S w.drew)
    (h : TakenAll P l.toArray S (fun a w => ∀ oi oj, l[i]? = some oi → l[j]? = some oj → Fork P l.toArray Q S R oi oj (fun a w => Held P l.toArray Q S (is2.filterMap fun x => (l[x.2]?).map fun o => (x.1, o)) a w) a w) (is1.filterMap fun i => l[i]?) a w.drew) : (Code.region id l.toArray true).wp P Q a w := by
  simp only [Bool.and_eq_true, decide_eq_true_eq, List.all_eq_true] at hB
  obtain ⟨⟨⟨⟨⟨⟨⟨⟨⟨⟨⟨⟨hsel, htk⟩, hlt1⟩, hi⟩, hj⟩, hij⟩, hr⟩, hri⟩, hrj⟩, hheld⟩, hlt2⟩, hlen⟩, hdst⟩ := hB
  obtain ⟨q1, q2⟩ := filterMap_ok2 is2 hlt2
  have p : ∀ is : List Nat, (∀ x ∈ is, x < l.length) → is.map (fun i => l.toArray[i]?) = (is.filterMap fun i => l[i]?).map some ∧ (is.filterMap fun i => l[i]?).length = is.length := by
    intro is
    induction is with
    | nil => simp
    | cons x is ih =>
      intro hx
      have hx0 := hx x (by simp)
      obtain ⟨e1, e2⟩ := ih fun y hy => hx y (by simp [hy])
      have e0 : l[x]? = some l[x] := List.getElem?_eq_getElem hx0
      rw [List.filterMap_cons, e0]
      simp only [List.map_cons, List.length_cons, e1, e2]
      exact ⟨by simp [hx0], trivial⟩
  obtain ⟨p1, p2⟩ := p is1 hlt1
  have ei : l[i]? = some l[i] := List.getElem?_eq_getElem hi
  have ej : l[j]? = some l[j] := List.getElem?_eq_getElem hj
  refine wp_region_any hm (wpAny_of_E (S := S) (n := l.toArray.size) _ _ _ _ ?_)
  have key := wpAnyE_of_taken (P := P) (S := S) (md := .any) (Q := Q) (g := is2.length + 2) hsel hQ is1 _ _ a w.drew p1 htk hS (fun a' hK => by
    have := wpAnyE_fork (P := P) (md := .any) (n := l.toArray.size) (g := is2.length) (i := i) (j := j) (by simp) (by simp) (by
      intro d hd he
      rw [ei, ej] at hdst
      simp only [Option.map_some, ne_eq, Option.some.injEq] at hdst
      exact hdst (by rw [hd, he])) hr hri hrj hij (hK _ _ ei ej) (fun a2 w2 hS2 hH => by
        have := wpAnyE_of_held (P := P) (S := S) (md := .any) (Q := Q) lastOk_size hsel hQ is2 _ _ a2 w2 q1 (.inl (lastInv_size _)) hheld (.inr hS2) hH
        rwa [q2] at this)
    exact this) h
  rw [p2, hlen] at key
  simpa using key
/-! ### The moves of a walk -/
theorem taken_take {K : Act → World → Prop} {o : Oper} {r : List Oper} {a : Act} {w : World} (v : Value) (hw : Region.wanted o (yielded ops a.tmps) = true) (hy : ∀ w', S w' → (execOp a.eval o).run P w' = .ok (.value v) w') (h : TakenAll P ops S K r (a.put o.dst v) w) :
    TakenAll P ops S K (o :: r) a w := ⟨v, .inl ⟨hw, hy⟩, h⟩
theorem taken_nil {K : Act → World → Prop} {a : Act} {w : World} (h : K a w) : TakenAll P ops S K [] a w := h
theorem fork_first {S : World → Prop} {K : Act → World → Prop} {a : Act} {w : World} (hS : S w) (h : K a w) : onward (fun a w => S w ∧ K a w) Q .normal a w := ⟨hS, h⟩
end
end Bal

/-
  A region that draws its order: some operations are taken first, then three are left of which two come up one behind the other and the third anywhere among them; the rest is walked as in XHeld. No program in sight.
-/
namespace Bal
open Go Go.RowKit

section
variable {P : Program} {ops : Array Oper} {md : Region.Mode} {S : World → Prop} {Q : Exit → Act → World → Prop}

/-- one operation is taken, S holds behind it, and on it goes -/
def Next (P : Program) (ops : Array Oper) (Q : Exit → Act → World → Prop) (S : World → Prop) (o : Oper) (K : Act → World → Prop) (a : Act) (w : World) : Prop :=
  wpList P ops (onward (fun a w => S w ∧ K a w) Q) [o] a w
theorem next_on {K : Act → World → Prop} {a : Act} {w : World} (hS : S w) (h : K a w) : onward (fun a w => S w ∧ K a w) Q .normal a w := ⟨hS, h⟩
theorem wpList_step1 {o : Oper} {rest : List Oper} {a : Act} {w : World} (hg : o.guard = none) (h : if Region.wanted o (yielded ops a.tmps) = true then Oper.wp P o a w (wpList P ops Q rest) Q else False) : wpList P ops Q (o :: rest) a w := by
  have hw : Region.wanted o (yielded ops a.tmps) = true := by simp [Region.wanted, hg]
  rw [if_pos hw] at h
  unfold wpList
  rw [if_pos hw]
  exact .inl h

/-- the rest out of sight -/
theorem next_plain {o : Oper} {K : Act → World → Prop} {a : Act} {w : World} (hg : o.guard = none) (h : ∀ (K1 : Act → World → Prop) (Q1 : Exit → Act → World → Prop), Hid (∀ a w, S w → K a w → K1 a w) → Oper.wp P o a w K1 Q1) : Next P ops Q S o K a w := by
  refine wpList_step1 hg ?_
  have hw : Region.wanted o (yielded ops a.tmps) = true := by simp [Region.wanted, hg]
  rw [if_pos hw]
  exact h _ _ (Lib.hid fun a w hS hK => ⟨hS, hK⟩)
/-- o1 ahead of o2, o3 anywhere -/
def Tri (P : Program) (ops : Array Oper) (Q : Exit → Act → World → Prop) (S : World → Prop) (R : Value → Value → Value → World → Prop) (oi oj ok : Oper) (K : Act → World → Prop) (a : Act) (w : World) : Prop :=
  Next P ops Q S oi (fun a1 w1 =>
      Next P ops Q S oj (fun a2 w2 => Next P ops Q S ok (fun a3 w3 => ∃ u v x, a3 = ((a.put oi.dst u).put oj.dst v).put ok.dst x ∧ R u v x w3) a2 w2) a1 w1 ∧
      Next P ops Q S ok (fun a2 w2 => Next P ops Q S oj (fun a3 w3 => ∃ u v x, a3 = ((a.put oi.dst u).put ok.dst x).put oj.dst v ∧ R u v x w3) a2 w2) a1 w1) a w ∧
  Next P ops Q S ok (fun a1 w1 => Next P ops Q S oi (fun a2 w2 => Next P ops Q S oj (fun a3 w3 => ∃ u v x, a3 = ((a.put ok.dst x).put oi.dst u).put oj.dst v ∧ R u v x w3) a2 w2) a1 w1) a w ∧
  ∀ u v x w3, S w3 → R u v x w3 → K (((a.put oi.dst u).put oj.dst v).put ok.dst x) w3

theorem next_op {n k g : Nat} {o : Oper} {K : Act → World → Prop} {listed : Array Bool} {a : Act} {w : World} (hk : ops[k]? = some o) (h : Next P ops Q S o K a w)
    (hK : ∀ a w, S w → K a w → wpAnyE P md ops Q S n g (listed.setIfInBounds k true) a w) : wpOp P ops Q k (fun a' w' => (k = n ∨ S w') ∧ wpAnyE P md ops Q S n g (listed.setIfInBounds k true) a' w') a w := by
  refine wpOp_mono (K := fun a w => S w ∧ K a w) (fun a w hh => ⟨.inr hh.1, hK a w hh.1 hh.2⟩) (wpOp_onward ?_)
  unfold wpOp
  simp only [hk]
  exact h
theorem any_one {n k g : Nat} {o : Oper} {K : Act → World → Prop} {listed : Array Bool} {a : Act} {w : World} (hr : Region.ready md ops listed = [k]) (hk : ops[k]? = some o) (h : Next P ops Q S o K a w)
    (hK : ∀ a w, S w → K a w → wpAnyE P md ops Q S n g (listed.setIfInBounds k true) a w) : wpAnyE P md ops Q S n (g + 1) listed a w :=
  ⟨fun h => (by rw [hr] at h; cases h), fun k' hk' => by
    rw [hr] at hk'
    obtain rfl : k' = k := by simpa using hk'
    exact next_op hk h hK⟩
theorem any_two {n k l g : Nat} {o o' : Oper} {K K' : Act → World → Prop} {listed : Array Bool} {a : Act} {w : World} (hr : Region.ready md ops listed = [k, l]) (hk : ops[k]? = some o) (hl : ops[l]? = some o') (h : Next P ops Q S o K a w) (h' : Next P ops Q S o' K' a w)
    (hK : ∀ a w, S w → K a w → wpAnyE P md ops Q S n g (listed.setIfInBounds k true) a w) (hK' : ∀ a w, S w → K' a w → wpAnyE P md ops Q S n g (listed.setIfInBounds l true) a w) : wpAnyE P md ops Q S n (g + 1) listed a w :=
  ⟨fun h => (by rw [hr] at h; cases h), fun k' hk' => by
    rw [hr] at hk'
    rcases List.mem_cons.1 hk' with rfl | hk'
    · exact next_op hk h hK
    · obtain rfl : k' = l := by simpa using hk'
      exact next_op hl h' hK'⟩

theorem wpAnyE_tri {i j k n g : Nat} {oi oj ok : Oper} {R : Value → Value → Value → World → Prop} {K : Act → World → Prop} {listed : Array Bool} {a : Act} {w : World} (h1 : ops[i]? = some oi) (h2 : ops[j]? = some oj) (h3 : ops[k]? = some ok)
    (d1 : ∀ d, oi.dst = some d → ok.dst ≠ some d) (d2 : ∀ d, oj.dst = some d → ok.dst ≠ some d)
    (r0 : Region.ready md ops listed = [i, k]) (ri : Region.ready md ops (listed.setIfInBounds i true) = [j, k]) (rk : Region.ready md ops (listed.setIfInBounds k true) = [i])
    (rij : Region.ready md ops ((listed.setIfInBounds i true).setIfInBounds j true) = [k]) (rik : Region.ready md ops ((listed.setIfInBounds i true).setIfInBounds k true) = [j])
    (hik : i ≠ k) (hjk : j ≠ k) (h : Tri P ops Q S R oi oj ok K a w)
    (hK : ∀ a w, S w → K a w → wpAnyE P md ops Q S n g (((listed.setIfInBounds i true).setIfInBounds j true).setIfInBounds k true) a w) : wpAnyE P md ops Q S n (g + 3) listed a w := by
  obtain ⟨q1, q2, q3⟩ := h
  refine any_two r0 h1 h3 q1 q2 (fun a1 w1 _ hh => any_two ri h2 h3 hh.1 hh.2 (fun a2 w2 _ hh2 => any_one rij h3 hh2 fun a3 w3 hS hh3 => ?_) (fun a2 w2 _ hh2 => any_one rik h2 hh2 fun a3 w3 hS hh3 => ?_))
    (fun a1 w1 _ hh => any_one rk h1 hh fun a2 w2 _ hh2 => any_one (by rw [Array.setIfInBounds_comm _ _ hik.symm]; exact rik) h2 hh2 fun a3 w3 hS hh3 => ?_)
  · obtain ⟨u, v, x, rfl, hR⟩ := hh3
    exact hK _ _ hS (q3 u v x w3 hS hR)
  · obtain ⟨u, v, x, rfl, hR⟩ := hh3
    rw [← Act.put_comm _ v x (fun d hd => d2 d hd), Array.setIfInBounds_comm _ _ hjk.symm]
    exact hK _ _ hS (q3 u v x w3 hS hR)
  · obtain ⟨u, v, x, rfl, hR⟩ := hh3
    rw [← Act.put_comm a u x (fun d hd => d1 d hd), ← Act.put_comm _ v x (fun d hd => d2 d hd), Array.setIfInBounds_comm (xs := listed) _ _ hik.symm, Array.setIfInBounds_comm _ _ hjk.symm]
    exact hK _ _ hS (q3 u v x w3 hS hR)

/-- THE THEOREM -/
theorem tri_walk {P : Program} {id : Nat} {Q : Exit → Act → World → Prop} {a : Act} {w : World} {l : List Oper} (S : World → Prop) (R : Value → Value → Value → World → Prop) (is1 : List Nat) (i j k : Nat) (is2 : List (Bool × Nat)) (hm : P.follows .mixedOrders = true)
    (hB : (Region.noSelect l.toArray && takenB .any l.toArray is1 (Array.replicate l.toArray.size false) && is1.all (fun i => decide (i < l.length)) && decide (i < l.length) && decide (j < l.length) && decide (k < l.length) && decide (i ≠ k) && decide (j ≠ k) &&
      decide (Region.ready .any l.toArray (marked is1 (Array.replicate l.toArray.size false)) = [i, k]) && decide (Region.ready .any l.toArray ((marked is1 (Array.replicate l.toArray.size false)).setIfInBounds i true) = [j, k]) &&
      decide (Region.ready .any l.toArray ((marked is1 (Array.replicate l.toArray.size false)).setIfInBounds k true) = [i]) &&
      decide (Region.ready .any l.toArray (((marked is1 (Array.replicate l.toArray.size false)).setIfInBounds i true).setIfInBounds j true) = [k]) &&
      decide (Region.ready .any l.toArray (((marked is1 (Array.replicate l.toArray.size false)).setIfInBounds i true).setIfInBounds k true) = [j]) &&
      heldB .any l.toArray l.toArray.size is2 ((((marked is1 (Array.replicate l.toArray.size false)).setIfInBounds i true).setIfInBounds j true).setIfInBounds k true) && is2.all (fun i => decide (i.2 < l.length)) &&
      decide (is1.length + (is2.length + 3) = l.length) && decide ((l[i]?).map (·.dst) ≠ (l[k]?).map (·.dst)) && decide ((l[j]?).map (·.dst) ≠ (l[k]?).map (·.dst))) = true)
    (hQ : ∀ c a d v w, Q (.panic c) (Act.put a d v) w → Q (.panic c) a w) (hS : S w.drew)
    (h : TakenAll P l.toArray S (fun a w => ∀ oi oj ok, l[i]? = some oi → l[j]? = some oj → l[k]? = some ok → Tri P l.toArray Q S R oi oj ok (fun a w => Held P l.toArray Q S (is2.filterMap fun x => (l[x.2]?).map fun o => (x.1, o)) a w) a w) (is1.filterMap fun i => l[i]?) a w.drew) : (Code.region id l.toArray true).wp P Q a w := by
  simp only [Bool.and_eq_true, decide_eq_true_eq, List.all_eq_true] at hB
  obtain ⟨⟨⟨⟨⟨⟨⟨⟨⟨⟨⟨⟨⟨⟨⟨⟨⟨hsel, htk⟩, hlt1⟩, hi⟩, hj⟩, hk⟩, hik⟩, hjk⟩, hr⟩, hri⟩, hrk⟩, hrij⟩, hrik⟩, hheld⟩, hlt2⟩, hlen⟩, hd1⟩, hd2⟩ := hB
  obtain ⟨q1, q2⟩ := filterMap_ok2 is2 hlt2
  have p : ∀ is : List Nat, (∀ x ∈ is, x < l.length) → is.map (fun i => l.toArray[i]?) = (is.filterMap fun i => l[i]?).map some ∧ (is.filterMap fun i => l[i]?).length = is.length := by
    intro is
    induction is with
    | nil => simp
    | cons x is ih =>
      intro hx
      have hx0 := hx x (by simp)
      obtain ⟨e1, e2⟩ := ih fun y hy => hx y (by simp [hy])
      have e0 : l[x]? = some l[x] := List.getElem?_eq_getElem hx0
      rw [List.filterMap_cons, e0]
      simp only [List.map_cons, List.length_cons, e1, e2]
      exact ⟨by simp [hx0], trivial⟩
  obtain ⟨p1, p2⟩ := p is1 hlt1
  have ei : l[i]? = some l[i] := List.getElem?_eq_getElem hi
  have ej : l[j]? = some l[j] := List.getElem?_eq_getElem hj
  have ek : l[k]? = some l[k] := List.getElem?_eq_getElem hk
  refine wp_region_any hm (wpAny_of_E (S := S) (n := l.toArray.size) _ _ _ _ ?_)
  have key := wpAnyE_of_taken (P := P) (S := S) (md := .any) (Q := Q) (g := is2.length + 3) hsel hQ is1 _ _ a w.drew p1 htk hS (fun a' hK => by
    have := wpAnyE_tri (P := P) (md := .any) (n := l.toArray.size) (g := is2.length) (i := i) (j := j) (k := k) (by simp) (by simp) (by simp) (by
      intro d hd he
      rw [ei, ek] at hd1
      simp only [Option.map_some, ne_eq, Option.some.injEq] at hd1
      exact hd1 (by rw [hd, he])) (by
      intro d hd he
      rw [ej, ek] at hd2
      simp only [Option.map_some, ne_eq, Option.some.injEq] at hd2
      exact hd2 (by rw [hd, he])) hr hri hrk hrij hrik hik hjk (hK _ _ _ ei ej ek) (fun a2 w2 hS2 hH => by
        have := wpAnyE_of_held (P := P) (S := S) (md := .any) (Q := Q) lastOk_size hsel hQ is2 _ _ a2 w2 q1 (.inl (lastInv_size _)) hheld (.inr hS2) hH
        rwa [q2] at this)
    exact this) h
  rw [p2, hlen] at key
  simpa using key
end
end Bal

/-
  Plans, in the program.
-/
namespace Go.Proofs.Ytacbkbilbmkjnaa
open Go.RowKit Bal Bal.Trim Bal.Mast
set_option linter.unusedVariables false
set_option linter.unusedSimpArgs false
set_option maxHeartbeats 4000000
set_option maxRecDepth 20000
attribute [local go_sem] ite_max ite_min

theorem f_Plan_main (a : Option Addr) (c : Nat) (e : Option Addr) (d : Nat) (p : Port) (w : World) (hx : Row Axis.cells 2 w.heap.size w a p.axes) (hc : p.axes.length ≤ c) (hM : c ≤ maxLen) (hy : Row Span.cells 2 w.heap.size w e p.pulls) (hd : p.pulls.length ≤ d) (hN : d ≤ maxLen) (h1 : p.axes.length ≤ 1000000) (h2 : p.pulls.length ≤ 1000000) (hp : portB p = true) (b : Berth) (hs0 : 0 ≤ b.ship) (hb : berthB p b = true) (wd : Wind) (hw : windB wd = true) (ship : Int) (hsh : 0 ≤ ship ∧ ship ≤ 5) :
    Calls Try.prog 32 #[.agg #[.slice a p.axes.length c, .int .i64 p.people, .int .i64 p.most, .slice e p.pulls.length d, .int .i64 p.cross], .agg #[.int .u8 b.ship, .int .i64 b.axis, .int .i64 b.held, .bool b.wire, .bool b.opn], .agg #[.int .i64 wd.xlo, .int .i64 wd.xhi, .int .i64 wd.ylo, .int .i64 wd.yhi], .int .u8 ship] w fun z w' => ∃ r v, Least (stepB p wd) 4096 codeD (actsOf (numsP p)) b (goalB ship) r ∧ z = .returned (.tuple #[v, .int .i64 (outE r)]) ∧ w'.ownsRow w.heap.size 61 2 v (outL r).length ((outL r).flatMap Deed.cells) ∧ Kept w w' := by
  have hM' := hM
  have hN' := hN
  unfold maxLen at hM' hN'
  have HCB := Lib.hid (show checkBerth p b = 0 by unfold checkBerth; rw [if_pos hp, if_pos hb])
  have HWD := Lib.hid (show checkWind wd = 0 by simp [checkWind, hw])
  have HC := Lib.hid (coded (nums_ok hp).1)
  have HVB := Lib.hid hb
  have HP := Lib.hid hp
  have HW := Lib.hid hw
  have hnd := needP_bd hp
  have hpb := portB_bd hp
  have HS0 := Lib.hid (Search.start (st := stepB p wd) HC.out (b0 := b))
  clear hb hw hp
  go_enter Try.func32, Try.ntmps32
  go_upto_region 9 with (first | (go_at_call 27; (with_reducible refine (f_CheckBerth a c e d p _ (hx.later (by (exact kpt)) (Nat.le_refl _)) hc hM (hy.later (by (exact kpt)) (Nat.le_refl _)) hd hN h1 h2 b hs0).mono ?_); rw [HCB.out]; rintro z w1 ⟨rfl, hb1⟩; refine Blk.thru (b := w.heap.size) (arr := ?_) (t := ?_) ?_ hb1 ?_; rotate_left 2; (focus (exact blk)); intro r0; have r0c0 := r0.cell 0; have r0f0 := r0.free 0; have r0c1 := r0.cell 1; have r0f1 := r0.free 1; have r0c2 := r0.cell 2; have r0f2 := r0.free 2; have r0c3 := r0.cell 3; have r0f3 := r0.free 3; have r0c4 := r0.cell 4; have r0f4 := r0.free 4; have r0l := r0.lt; simp at r0c0 r0c1 r0c2 r0c3 r0c4; refine Blk.thru (b := (w.heap.size + 1)) (arr := ?_) (t := ?_) ?_ hb1 ?_; rotate_left 2; (focus (exact blk)); intro r1; have r1c0 := r1.cell 0; have r1f0 := r1.free 0; have r1c1 := r1.cell 1; have r1f1 := r1.free 1; have r1c2 := r1.cell 2; have r1f2 := r1.free 2; have r1c3 := r1.cell 3; have r1f3 := r1.free 3; have r1c4 := r1.cell 4; have r1f4 := r1.free 4; have r1l := r1.lt; simp at r1c0 r1c1 r1c2 r1c3 r1c4; refine Blk.thru (b := (w.heap.size + 1 + 1)) (arr := ?_) (t := ?_) ?_ hb1 ?_; rotate_left 2; (focus (exact blk)); intro r3; have r3c0 := r3.cell 0; have r3f0 := r3.free 0; have r3c1 := r3.cell 1; have r3f1 := r3.free 1; have r3c2 := r3.cell 2; have r3f2 := r3.free 2; have r3c3 := r3.cell 3; have r3f3 := r3.free 3; have r3l := r3.lt; simp at r3c0 r3c1 r3c2 r3c3) | (go_at_call 15; (with_reducible refine (f_CheckWind wd _).mono ?_); rw [HWD.out]; rintro z w2 ⟨rfl, hb2⟩; refine Blk.thru (b := w.heap.size) (arr := ?_) (t := ?_) ?_ hb2 ?_; rotate_left 2; (focus (exact blk)); intro r0; have r0c0 := r0.cell 0; have r0f0 := r0.free 0; have r0c1 := r0.cell 1; have r0f1 := r0.free 1; have r0c2 := r0.cell 2; have r0f2 := r0.free 2; have r0c3 := r0.cell 3; have r0f3 := r0.free 3; have r0c4 := r0.cell 4; have r0f4 := r0.free 4; have r0l := r0.lt; simp at r0c0 r0c1 r0c2 r0c3 r0c4; refine Blk.thru (b := (w.heap.size + 1)) (arr := ?_) (t := ?_) ?_ hb2 ?_; rotate_left 2; (focus (exact blk)); intro r1; have r1c0 := r1.cell 0; have r1f0 := r1.free 0; have r1c1 := r1.cell 1; have r1f1 := r1.free 1; have r1c2 := r1.cell 2; have r1f2 := r1.free 2; have r1c3 := r1.cell 3; have r1f3 := r1.free 3; have r1c4 := r1.cell 4; have r1f4 := r1.free 4; have r1l := r1.lt; simp at r1c0 r1c1 r1c2 r1c3 r1c4; refine Blk.thru (b := (w.heap.size + 1 + 1)) (arr := ?_) (t := ?_) ?_ hb2 ?_; rotate_left 2; (focus (exact blk)); intro r3; have r3c0 := r3.cell 0; have r3f0 := r3.free 0; have r3c1 := r3.cell 1; have r3f1 := r3.free 1; have r3c2 := r3.cell 2; have r3f2 := r3.free 2; have r3c3 := r3.cell 3; have r3f3 := r3.free 3; have r3l := r3.lt; simp at r3c0 r3c1 r3c2 r3c3))
  refine at_world (S := fun V => Blk V w.heap.size #[.slice a p.axes.length c, .int .i64 p.people, .int .i64 p.most, .slice e p.pulls.length d, .int .i64 p.cross] 45 ∧ Blk V (w.heap.size + 1) #[.int .u8 b.ship, .int .i64 b.axis, .int .i64 b.held, .bool b.wire, .bool b.opn] 59 ∧ Blk V (w.heap.size + 1 + 1) #[.int .i64 wd.xlo, .int .i64 wd.xhi, .int .i64 wd.ylo, .int .i64 wd.yhi] 25 ∧ Kept w V) ⟨by (exact blk), by (exact blk), by (exact blk), by (exact kpt)⟩ ?_
  clear r0 r1 r3 r0c0 r0f0 r0c1 r0f1 r0c2 r0f2 r0c3 r0f3 r0c4 r0f4 r1c0 r1f0 r1c1 r1f1 r1c2 r1f2 r1c3 r1f3 r1c4 r1f4 r3c0 r3f0 r3c1 r3f1 r3c2 r3f2 r3c3 r3f3 r0l r1l r3l
  rintro W ⟨r0, r1, r3, hk⟩
  have hl3 := r3.lt
  go_cut [12, 13] (fun s12 s13 wx => ∃ M B, s12 = .map (some M) ∧ s13 = .int .i64 (needP p) ∧ Table wx B M ∧ B ≤ wx.heap.size ∧ Kept W wx)
  case first =>
    have r0k0 : ∀ w', Kept W w' → w'.cell? ⟨w.heap.size, 0, none⟩ = some (.slice a p.axes.length c) := fun w' hkw => by simpa using (r0.keep hkw).cell 0
    have r0k1 : ∀ w', Kept W w' → w'.cell? ⟨w.heap.size, 1, none⟩ = some (.int .i64 p.people) := fun w' hkw => by simpa using (r0.keep hkw).cell 1
    have r0k2 : ∀ w', Kept W w' → w'.cell? ⟨w.heap.size, 2, none⟩ = some (.int .i64 p.most) := fun w' hkw => by simpa using (r0.keep hkw).cell 2
    have r0k3 : ∀ w', Kept W w' → w'.cell? ⟨w.heap.size, 3, none⟩ = some (.slice e p.pulls.length d) := fun w' hkw => by simpa using (r0.keep hkw).cell 3
    have r0k4 : ∀ w', Kept W w' → w'.cell? ⟨w.heap.size, 4, none⟩ = some (.int .i64 p.cross) := fun w' hkw => by simpa using (r0.keep hkw).cell 4
    have l0 := r0.lt
    go_region_held3 (fun w' => Kept W w') (exact kpt) (first | (go_at_call 63; (with_reducible refine (f_deeds _).mono ?_); rintro z w3 ⟨rfl, hT, hb3⟩) | (go_at_call 64; (with_reducible refine (f_need a c e d p _ (hx.later (Kept.drop hk (by (exact kpt))) (Nat.le_refl _)) hc hM (hy.later (Kept.drop hk (by (exact kpt))) (Nat.le_refl _)) hd hN h1 h2 HP.out).mono ?_); rintro z w4 ⟨rfl, hb4⟩) | fail)
    all_goals (go_wp2_with fail; go_meet)
    all_goals
      refine ⟨_, w3.heap.size, rfl, rfl, ?_, ?_, ?_⟩
      · first | exact hT | exact hT.below hb4
      · first | exact Nat.le_refl _ | exact hb4.size
      · (exact kpt)
  case rest =>
  obtain ⟨M, B, rfl, rfl, hT, hBs, hkW⟩ := hcut
  have hk2 := Kept.drop hk hkW
  have b0 := r0.keep hkW
  have b1 := r1.keep hkW
  have b3 := r3.keep hkW
  clear r0 r1 r3 hk hkW
  obtain ⟨kb, hkb⟩ := key_berth (valid_in HP.out hs0 HVB.out)
  obtain ⟨w10, hr10, hs10, hg10⟩ := (InSet.made (P := Try.prog) (k := 59) (e := 4) (w := wc) (b := wc.heap.size) rfl).run (g := metF [b]) keyedB Try.underlying133 Try.underlying4 (by simp [maxLen]) hkb (metF_put (L := []) hkb).1 (fun z hz => by rw [show metF [b] z = _ from (metF_put (L := []) hkb).2 z hz, metF_nil])
  unfold berthV at hr10
  have hno := (InSet.made (P := Try.prog) (k := 59) (e := 4) (w := wc) (b := wc.heap.size) rfl).none
  have HB0 := Lib.hid ((b0.alloc (.map #[] 0)).turned (Nat.ne_of_lt b0.lt) hg10)
  have HB1 := Lib.hid ((b1.alloc (.map #[] 0)).turned (Nat.ne_of_lt b1.lt) hg10)
  have HB3 := Lib.hid ((b3.alloc (.map #[] 0)).turned (Nat.ne_of_lt b3.lt) hg10)
  have HT := Lib.hid ((hT.below (Below.alloc (Below.refl _ _) hBs (.map #[] 0))).below (Below.grown hg10 hBs (by simp; omega)))
  have hwN : w.heap.size ≤ wc.heap.size := hk2.size
  have HK := Lib.hid (Kept.turned (Kept.alloc hk2 (.map #[] 0)) hwN hg10)
  have HS10 := Lib.hid hs10
  clear hs10 hg10 hno hT hkb
  have b1c0 := b1.cell 0
  have b1f0 := b1.free 0
  have b1c1 := b1.cell 1
  have b1f1 := b1.free 1
  have b1c2 := b1.cell 2
  have b1f2 := b1.free 2
  have b1c3 := b1.cell 3
  have b1f3 := b1.free 3
  have b1c4 := b1.cell 4
  have b1f4 := b1.free 4
  have b1l := b1.lt
  simp at b1c0 b1c1 b1c2 b1c3 b1c4
  have hmm := @run_makeMap Try.prog
  go_upto_region 11 with fail
  clear hmm
  refine at_world (S := fun V => Blk V w.heap.size #[.slice a p.axes.length c, .int .i64 p.people, .int .i64 p.most, .slice e p.pulls.length d, .int .i64 p.cross] 45 ∧ Blk V (w.heap.size + 1) #[.int .u8 b.ship, .int .i64 b.axis, .int .i64 b.held, .bool b.wire, .bool b.opn] 59 ∧ Blk V (w.heap.size + 1 + 1) #[.int .i64 wd.xlo, .int .i64 wd.xhi, .int .i64 wd.ylo, .int .i64 wd.yhi] 25 ∧ Table V B M ∧ InSet Try.prog 59 4 V wc.heap.size 1 (metF [b]) ∧ Kept w V) ⟨HB0.out, HB1.out, HB3.out, HT.out, HS10.out, HK.out⟩ ?_
  clear HB0 HB1 HB3 HT HS10 HK hr10 b0 b1 b3 hk2 b1c0 b1f0 b1c1 b1f1 b1c2 b1f2 b1c3 b1f3 b1c4 b1f4 b1l
  obtain ⟨N, hNN⟩ : ∃ N, N = wc.heap.size := ⟨_, rfl⟩
  rw [← hNN] at hBs hwN ⊢
  clear hNN
  rintro V ⟨r0, r1, r3, hT, hs, hk⟩
  have hNV := hs.lt
  have r1c0 := r1.cell 0
  have r1f0 := r1.free 0
  have r1c1 := r1.cell 1
  have r1f1 := r1.free 1
  have r1c2 := r1.cell 2
  have r1f2 := r1.free 2
  have r1c3 := r1.cell 3
  have r1f3 := r1.free 3
  have r1c4 := r1.cell 4
  have r1f4 := r1.free 4
  have r1l := r1.lt
  simp at r1c0 r1c1 r1c2 r1c3 r1c4
  go_wp2
  go_loopw [15] (fun s15 wr => ∃ m, PlanH p b wd ship #[.slice a p.axes.length c, .int .i64 p.people, .int .i64 p.most, .slice e p.pulls.length d, .int .i64 p.cross] w M B N wr s15 m) (fun s15 wr => leastOf fun m => PlanH p b wd ship #[.slice a p.axes.length c, .int .i64 p.people, .int .i64 p.most, .slice e p.pulls.length d, .int .i64 p.cross] w M B N wr s15 m)
  case atStart =>
    refine ⟨_, [(b, [])], [(b, [], .slice none 0 0)], 0, Nat.zero_le _, rfl, ⟨HS0.out, fun i hi h0 => absurd h0 (Nat.not_lt_zero _), rfl⟩, hBs, hwN, ?_, ?_, ?_, ?_, ?_, ⟨1, by simp, hs.keep (Kept.alloc (Below.refl _ _) _)⟩, ?_⟩
    · intro t ht
      obtain rfl := List.mem_singleton.1 ht
      exact owns_nil (α := Deed) (enc := Deed.cells)
    · exact Que.of_owns (owns_one (us := routeC (b, [], .slice none 0 0)) rfl (Nat.le_of_lt hNV) rfl) (by simp)
    · (exact blk)
    · (exact blk)
    · exact hT.below (Below.alloc (Below.refl _ _) (by omega) _)
    · (exact kpt)
  case round =>
    clear r0 r1 r3 hT hs hk hNV r1c0 r1f0 r1c1 r1f1 r1c2 r1f2 r1c3 r1f3 r1c4 r1f4 r1l
    obtain ⟨mq, hmq⟩ := hrel
    obtain ⟨⟨L, T, h, hh, hmm, HI, HM⟩, -⟩ := leastOf_ok hmq
    clear hmq
    have hfew := HI.search.few HP.out hs0 HVB.out
    obtain ⟨g, off, cap, hsv, hNg, hgl, hcl, hcM, hcell⟩ := HM.que.form
    subst hsv
    have HMM := Lib.hid hmm
    clear hmm
    by_cases hlt : h < L.length
    · obtain ⟨u, T', hTe⟩ := HI.head hlt
      have HOWN := Lib.hid (HM.own (L[h].1, L[h].2, u) (by rw [hTe]; exact List.mem_cons_self))
      obtain ⟨ad, cp, hue, hrowq, hcp, hcm⟩ := owns_row (enc := Deed.cells) (k := 2) deed_len HOWN.out
      simp only at hue
      subst hue
      have hzq := owns_none HOWN.out
      have HLH := Lib.hid (List.getElem?_eq_getElem hlt)
      have hlenq := HI.search.lens HC.out h hlt
      obtain ⟨hqs, hqv⟩ := HI.search.valid hs0 HVB.out _ (List.getElem_mem hlt)
      have HGO := Lib.hid (fun hg => HI.search.at_head HC.out hlt (goal := goalB ship) hg HI.no)
      obtain ⟨pq, hpq⟩ : ∃ y, y = L[h].2 := ⟨_, rfl⟩
      obtain ⟨bq, hbq⟩ : ∃ y, y = L[h].1 := ⟨_, rfl⟩
      rw [show L[h] = (bq, pq) by rw [hbq, hpq]] at HLH
      simp only [← hbq, ← hpq] at HGO HOWN hlenq hqs hqv hrowq hcp hzq hTe
      clear hbq hpq
      have c0 := hcell 0 (.int .u8 bq.ship) (by rw [hTe]; rfl)
      have c1 := hcell 1 (.int .i64 bq.axis) (by rw [hTe]; rfl)
      have c2 := hcell 2 (.int .i64 bq.held) (by rw [hTe]; rfl)
      have c3 := hcell 3 (.bool bq.wire) (by rw [hTe]; rfl)
      have c4 := hcell 4 (.bool bq.opn) (by rw [hTe]; rfl)
      have c5 := hcell 5 (.slice ad pq.length cp) (by rw [hTe]; rfl)
      have t0 : (0 : Int) < (T.length : Int) := by rw [HI.len]; omega
      clear hcell
      simp at c0
      by_cases hsp : bq.ship = ship
      · have e1 : (bq.ship == ship) = true := by simp [hsp]
        have HL := Lib.hid (HGO.out (by unfold goalB; exact decide_eq_true hsp))
        have HKW := Lib.hid HM.kept
        clear HGO hsp HI HM hTe
        go_wp2
        exact bodyPost_ret (v := .tuple #[.slice ad pq.length cp, .int .i64 0]) (by simp [results, Try.results32, go_sem]) rfl ⟨some pq, _, HL.out, rfl, owns_keep HOWN.out (by (exact kpt)), Kept.drop HKW.out (by (exact kpt))⟩
      · have e1 : (bq.ship == ship) = false := beq_eq_false_iff_ne.2 hsp
        have HGF := Lib.hid (show goalB ship bq = false by unfold goalB; exact decide_eq_false hsp)
        clear HGO hsp HOWN
        have HIh := Lib.hid HI
        have HMh := Lib.hid HM
        clear HI HM
        go_upto_region 17 with fail
        refine at_world (S := fun V => PlanM p wd #[.slice a p.axes.length c, .int .i64 p.people, .int .i64 p.most, .slice e p.pulls.length d, .int .i64 p.cross] w M B N V (.slice (some ⟨g, off, none⟩) T.length cap) T (L.map fun q => q.1) ∧ Blk V wr.heap.size #[.int .u8 bq.ship, .int .i64 bq.axis, .int .i64 bq.held, .bool bq.wire, .bool bq.opn, .slice ad pq.length cp] 135 ∧ Kept wr V) ⟨(HMh.out).keep (by (exact kpt)), by (refine Blk.cast (arr := ?_) ?_ ?_; rotate_left 1; (focus (exact blk)); (first | with_reducible rfl | (simp; done) | rfl)), by (exact kpt)⟩ ?_
        have HI := HIh.out
        have HTH := Lib.hid (show T.head? = some (bq, pq, (.slice ad pq.length cp : Value)) by rw [hTe]; rfl)
        clear HIh HMh c0 c1 c2 c3 c4 c5 hcl hcM t0 hTe hrowq hcp hcm hzq
        obtain ⟨nA, hnA⟩ : ∃ n, n = wr.heap.size := ⟨_, rfl⟩
        rw [← hnA] at hgl ⊢
        clear hnA
        rintro W2 ⟨HM, rat, hkr⟩
        go_wp2
        go_loopw [15, 17] (fun s15 s17 wk => ∃ L2 T2, ∃ k : Nat, k ≤ 13 ∧ s17 = .int .u8 (1 + (k : Int)) ∧ PlanI p b wd ship L2 T2 h (actsTo (numsP p) k).length ∧ PlanM p wd #[.slice a p.axes.length c, .int .i64 p.people, .int .i64 p.most, .slice e p.pulls.length d, .int .i64 p.cross] w M B N wk s15 T2 (L2.map fun q => q.1) ∧ L2[h]? = some (bq, pq) ∧ T2.head? = some (bq, pq, (.slice ad pq.length cp : Value)) ∧ Blk wk nA #[.int .u8 bq.ship, .int .i64 bq.axis, .int .i64 bq.held, .bool bq.wire, .bool bq.opn, .slice ad pq.length cp] 135 ∧ s15.ownBlock ≠ some nA) (fun _ s17 _ => 14 - (intOf s17).toNat)
        case atStart => exact ⟨L, T, 0, by omega, rfl, HI, HM, HLH.out, HTH.out, rat, by simp [Value.ownBlock]; omega⟩
        case round =>
          clear HI HM rat HLH HTH hkr hgl
          obtain ⟨L2, T2, k, hk13, rfl, HI2, HM2, HLH2, HTH2, rat2, hne2⟩ := hrel
          by_cases hlk : k < 13
          · have hpd := hiP_bd HP.out (1 + (k : Int))
            have hnm := numsP_up p (1 + (k : Int))
            have hlo : loK p (1 + (k : Int)) = if 1 + (k : Int) = 2 then needP p else 0 := rfl
            have hhi : hiP p (1 + (k : Int)) = if 1 + (k : Int) = 2 then min (needP p) p.people else if 1 + (k : Int) = 9 then (p.axes.length : Int) - 1 else 0 := rfl
            obtain ⟨LO, hLO⟩ : ∃ x, x = loK p (1 + (k : Int)) := ⟨_, rfl⟩
            obtain ⟨HH, hHH⟩ : ∃ x, x = hiP p (1 + (k : Int)) := ⟨_, rfl⟩
            rw [← hLO] at hpd hlo hnm
            rw [← hHH] at hpd hhi hnm
            obtain ⟨NN, hNN⟩ : ∃ N, N = (HH - LO + 1).toNat := ⟨_, rfl⟩
            rw [← hNN] at hnm
            obtain ⟨K0, hK0⟩ : ∃ x, x = (actsTo (numsP p) k).length := ⟨_, rfl⟩
            obtain ⟨t, ht⟩ : ∃ t : Int, t = 1 + (k : Int) := ⟨_, rfl⟩
            have HAT := Lib.hid (fun (m : Nat) (hm : m < NN) => (by subst hK0 ht; exact acts_at hlk hnm hm : ∃ hh : K0 + m < (actsOf (numsP p)).length, (actsOf (numsP p))[K0 + m] = ⟨t, LO + (m : Int)⟩))
            have HNX := Lib.hid (show (actsTo (numsP p) (k + 1)).length = K0 + NN by rw [hK0]; exact actsTo_next hnm)
            rw [← hK0] at HI2
            simp only [← ht] at hlo hhi ⊢
            have HT := Lib.hid ht
            have ht13 : 1 ≤ t ∧ t ≤ 13 := by omega
            have ht0 : 0 ≤ t ∧ t ≤ 255 := by omega
            have hu8 : IntKind.u8.wrap t = t := by rw [IntKind.wrap_u8]; omega
            have HN2 := Lib.hid (fun m : Nat => (show m < NN ↔ LO + (m : Int) ≤ HH by omega))
            have HNB : NN ≤ 201 := by omega
            have hk14 : k + 1 ≤ 13 := by omega
            clear hnm hLO hHH hNN ht hlk hK0
            go_upto_block 4 with fail
            go_cut [18, 19] (fun s18 s19 wx => s18 = .int .i64 LO ∧ s19 = .int .i64 HH ∧ Kept wr wx)
            case first =>
              have r0 := HM2.r0
              clear HM2 rat2
              by_cases h2 : t = 2
              · have hL : LO = needP p := by rw [hlo, if_pos h2]
                have hH : HH = min (needP p) p.people := by rw [hhi, if_pos h2]
                have e2 : (t == 2) = true := by simp [h2]
                have HLL := Lib.hid hL
                have HHH := Lib.hid hH
                clear hlo hhi h2 hL hH HN2
                have r0c0 := fun g : Later wr => (r0.later g).cell 0
                have r0f0 := fun g : Later wr => (r0.later g).free 0
                have r0c1 := fun g : Later wr => (r0.later g).cell 1
                have r0f1 := fun g : Later wr => (r0.later g).free 1
                have r0c2 := fun g : Later wr => (r0.later g).cell 2
                have r0f2 := fun g : Later wr => (r0.later g).free 2
                have r0c3 := fun g : Later wr => (r0.later g).cell 3
                have r0f3 := fun g : Later wr => (r0.later g).free 3
                have r0c4 := fun g : Later wr => (r0.later g).cell 4
                have r0f4 := fun g : Later wr => (r0.later g).free 4
                have r0l := fun g : Later wr => (r0.later g).lt
                simp at r0c0 r0c1 r0c2 r0c3 r0c4
                go_upto_region 23 with fail
                refine Later.region (by kernel_rfl) (by kernel_rfl) ?_
                repeat (first | go_big_quiet_skip | (go_big_quiet_want; go_big_quiet_op; first | go_big_quiet_on | (apply Exists.intro; refine ⟨fun g => ?_, ?_⟩; (focus (first | fail)); go_big_quiet_on)))
                refine wpQuiet_nil ?_
                intro gg
                go_wp2
                go_meet
                exact ⟨by rw [HLL.out], by rw [HHH.out], gg.ok⟩
              · have hL : LO = 0 := by rw [hlo, if_neg h2]
                have e2 : (t == 2) = false := by simp [h2]
                by_cases h9 : t = 9
                · have hH : HH = (p.axes.length : Int) - 1 := by rw [hhi, if_neg h2, if_pos h9]
                  have e9 : (t == 9) = true := by simp [h9]
                  clear hlo hhi h2 h9 HN2
                  subst hL hH
                  have r0c0 := r0.cell 0
                  have r0f0 := r0.free 0
                  have r0c1 := r0.cell 1
                  have r0f1 := r0.free 1
                  have r0c2 := r0.cell 2
                  have r0f2 := r0.free 2
                  have r0c3 := r0.cell 3
                  have r0f3 := r0.free 3
                  have r0c4 := r0.cell 4
                  have r0f4 := r0.free 4
                  have r0l := r0.lt
                  simp at r0c0 r0c1 r0c2 r0c3 r0c4
                  go_wp2
                  go_meet
                  exact ⟨rfl, rfl, by (exact kpt)⟩
                · have hH : HH = 0 := by rw [hhi, if_neg h2, if_neg h9]
                  have e9 : (t == 9) = false := by simp [h9]
                  clear hlo hhi h2 h9 HN2
                  subst hL hH
                  go_wp2
                  go_meet
                  exact ⟨rfl, rfl, by (exact kpt)⟩
            case rest =>
            obtain ⟨rfl, rfl, hkx⟩ := hcut
            have HM := HM2.keep hkx
            have rat := rat2.keep hkx
            clear HM2 rat2 hkx hlo hhi
            go_wp2
            go_loopw [15, 20] (fun s15 s20 wn => ∃ L2 T2, ∃ m : Nat, m ≤ NN ∧ s20 = .int .i64 (LO + (m : Int)) ∧ PlanI p b wd ship L2 T2 h (K0 + m) ∧ PlanM p wd #[.slice a p.axes.length c, .int .i64 p.people, .int .i64 p.most, .slice e p.pulls.length d, .int .i64 p.cross] w M B N wn s15 T2 (L2.map fun q => q.1) ∧ L2[h]? = some (bq, pq) ∧ T2.head? = some (bq, pq, (.slice ad pq.length cp : Value)) ∧ Blk wn nA #[.int .u8 bq.ship, .int .i64 bq.axis, .int .i64 bq.held, .bool bq.wire, .bool bq.opn, .slice ad pq.length cp] 135 ∧ s15.ownBlock ≠ some nA) (fun _ s20 _ => (HH + 1 - intOf s20).toNat)
            case atStart => exact ⟨L2, T2, 0, Nat.zero_le _, by simp, HI2, HM, HLH2, HTH2, rat, hne2⟩
            case round =>
              clear HI2 HM HLH2 HTH2 rat hne2
              obtain ⟨L3, T3, m, hm, rfl, HI3, HM3, HLH3, HTH3, rat3, hne3⟩ := hrel
              obtain ⟨g3, off3, cap3, rfl, -⟩ := HM3.que.form
              by_cases hmt : m < NN
              · have u1 : LO + (m : Int) ≤ HH := (HN2.out m).1 hmt
                obtain ⟨hidx, hact⟩ := HAT.out m hmt
                obtain ⟨hlt3, hLe⟩ := List.getElem?_eq_some_iff.1 HLH3
                have hfew3 := HI3.search.few HP.out hs0 HVB.out
                have hTl3 : T3.length ≤ 154368 := by rw [HI3.len]; omega
                have hst := step_try (a := ⟨t, LO + (m : Int)⟩) HP.out hqv HW.out ht13
                obtain ⟨x, hx0⟩ : ∃ x : Int, x = LO + (m : Int) := ⟨_, rfl⟩
                rw [← hx0] at hst hact
                have HX := Lib.hid hx0
                obtain ⟨R, hR0⟩ : ∃ R, tryR p (dockOf p bq ⟨⟨t, x⟩, wd⟩) t = R := ⟨_, rfl⟩
                obtain ⟨DB, hDB0⟩ : ∃ D, doneB (dockOf p bq ⟨⟨t, x⟩, wd⟩) t = D := ⟨_, rfl⟩
                simp only [hR0, hDB0] at hst
                have hRp : 0 ≤ R := by rw [← hR0]; exact firstNot_pos
                have HR := Lib.hid (show tryR p { (⟨bq, needP p, wd, 0⟩ : Dock) with n := x } t = R from hR0)
                have HDB := Lib.hid (show doneB { (⟨bq, needP p, wd, 0⟩ : Dock) with n := x } t = DB from hDB0)
                have HSK := Lib.hid (fun (hs : ∀ y, stepB p wd bq ⟨t, x⟩ = some y → ∃ q ∈ L3, q.1 = y) => (HI3.to (HI3.search.skip HC.out hlt3 hidx (by rw [hLe, hact]; exact hs))))
                have HPU := Lib.hid (fun (h0 : stepB p wd bq ⟨t, x⟩ = some DB) (hn : ∀ q ∈ L3, q.1 ≠ DB) (u : Value) => (HI3.push hlt3 (y := DB) (l := pq ++ [⟨t, x⟩]) u (by
                  have := HI3.search.push HC.out hlt3 hidx (y := DB) (by rw [hLe, hact]; exact h0) hn
                  rw [hLe, hact] at this
                  exact this)))
                have hax := (berth_parts hqv).2.1
                have hax : 0 ≤ bq.axis ∧ bq.axis < p.axes.length := by omega
                obtain ⟨T4, HT4⟩ : ∃ T4, T3 = (bq, pq, (.slice ad pq.length cp : Value)) :: T4 := by
                  cases T3 with
                  | nil => cases HTH3
                  | cons t T => exact ⟨T, by cases HTH3; rfl⟩
                have HTM := Lib.hid (show (bq, pq, (.slice ad pq.length cp : Value)) ∈ T3 by rw [HT4]; exact List.mem_cons_self)
                have HLX := Lib.hid (show (⟨bq, pq⟩ : Berth × List Deed) ∈ L3 by rw [← hLe]; exact List.getElem_mem hlt3)
                have hlenp : pq.length ≤ h := hlenq
                have hh3 : h ≤ 154368 := by omega
                have hm1 : m + 1 ≤ NN := by omega
                clear hact hLe hx0 hR0 hDB0 HI3 HT4 hmt
                have hkw3 := HM3.kept
                have rat3c0 := rat3.cell 0
                have rat3c1 := rat3.cell 1
                have rat3c2 := rat3.cell 2
                have rat3c3 := rat3.cell 3
                have rat3c4 := rat3.cell 4
                have rat3c5 := rat3.cell 5
                have rat3f0 := rat3.free 0
                have rat3f1 := rat3.free 1
                have rat3f2 := rat3.free 2
                have rat3f3 := rat3.free 3
                have rat3f4 := rat3.free 4
                have rat3f5 := rat3.free 5
                have rat3l := rat3.lt
                simp at rat3c0 rat3c1 rat3c2 rat3c3 rat3c4 rat3c5
                have r0 := HM3.r0
                have r3 := HM3.r3
                go_upto_region 30 with fail
                refine at_world (S := fun V => PlanM p wd #[.slice a p.axes.length c, .int .i64 p.people, .int .i64 p.most, .slice e p.pulls.length d, .int .i64 p.cross] w M B N V (.slice (some ⟨g3, off3, none⟩) T3.length cap3) T3 (L3.map fun q => q.1) ∧ Blk V nA #[.int .u8 bq.ship, .int .i64 bq.axis, .int .i64 bq.held, .bool bq.wire, .bool bq.opn, .slice ad pq.length cp] 135 ∧ Blk V wr.heap.size #[.int .u8 t, .int .i64 x] 61) ⟨HM3.keep (by (exact kpt)), by (exact blk), by rw [HX.out]; (refine Blk.cast (arr := ?_) ?_ ?_; rotate_left 1; (focus (exact blk)); (first | with_reducible rfl | (simp; done) | rfl))⟩ ?_
                obtain ⟨nC, hnC⟩ : ∃ n, n = wr.heap.size := ⟨_, rfl⟩
                rw [← hnC]
                clear hnC HM3 rat3 hkw3 r0 r3 rat3c0 rat3f0 rat3c1 rat3f1 rat3c2 rat3f2 rat3c3 rat3f3 rat3c4 rat3f4 rat3c5 rat3f5 rat3l
                rintro V0 ⟨m0, rat, ra⟩
                have hkw0 := m0.kept
                have hBN := m0.bn
                have hN0 := m0.size
                have r0 := m0.r0
                have r3 := m0.r3
                have ratc0 := rat.cell 0
                have ratc1 := rat.cell 1
                have ratc2 := rat.cell 2
                have ratc3 := rat.cell 3
                have ratc4 := rat.cell 4
                have ratf0 := rat.free 0
                have ratf1 := rat.free 1
                have ratf2 := rat.free 2
                have ratf3 := rat.free 3
                have ratf4 := rat.free 4
                have ratl := rat.lt
                simp at ratc0 ratc1 ratc2 ratc3 ratc4
                have rac0 := ra.cell 0
                have rac1 := ra.cell 1
                have raf0 := ra.free 0
                have raf1 := ra.free 1
                have ral := ra.lt
                simp at rac0 rac1
                have r0c0 := r0.cell 0
                have r0c1 := r0.cell 1
                have r0c2 := r0.cell 2
                have r0c3 := r0.cell 3
                have r0c4 := r0.cell 4
                have r0f0 := r0.free 0
                have r0f1 := r0.free 1
                have r0f2 := r0.free 2
                have r0f3 := r0.free 3
                have r0f4 := r0.free 4
                have r0l := r0.lt
                simp at r0c0 r0c1 r0c2 r0c3 r0c4
                have r3c0 := r3.cell 0
                have r3c1 := r3.cell 1
                have r3c2 := r3.cell 2
                have r3c3 := r3.cell 3
                have r3f0 := r3.free 0
                have r3f1 := r3.free 1
                have r3f2 := r3.free 2
                have r3f3 := r3.free 3
                have r3l := r3.lt
                simp at r3c0 r3c1 r3c2 r3c3
                go_upto_region 31 with fail
                have rd : Blk (V0.alloc (.cells #[.int .u8 bq.ship, .int .i64 bq.axis, .int .i64 bq.held, .bool bq.wire, .bool bq.opn, .slice a p.axes.length c, .int .i64 p.people, .int .i64 p.most, .slice e p.pulls.length d, .int .i64 p.cross, .int .i64 (needP p), .int .i64 wd.xlo, .int .i64 wd.xhi, .int .i64 wd.ylo, .int .i64 wd.yhi, .int .i64 0] 126)) V0.heap.size (dockCells a c e d p ⟨bq, needP p, wd, 0⟩) 126 := Blk.new
                have hxn : Row Axis.cells 2 V0.heap.size (V0.alloc (.cells #[.int .u8 bq.ship, .int .i64 bq.axis, .int .i64 bq.held, .bool bq.wire, .bool bq.opn, .slice a p.axes.length c, .int .i64 p.people, .int .i64 p.most, .slice e p.pulls.length d, .int .i64 p.cross, .int .i64 (needP p), .int .i64 wd.xlo, .int .i64 wd.xhi, .int .i64 wd.ylo, .int .i64 wd.yhi, .int .i64 0] 126)) a p.axes := (hx.later hkw0 (Nat.le_refl _)).keep (Below.alloc (Below.refl _ _) (Nat.le_refl _) _) (Nat.le_refl _)
                clear r0 r3 ratc0 ratf0 ratc1 ratf1 ratc2 ratf2 ratc3 ratf3 ratc4 ratf4 r0c0 r0f0 r0c1 r0f1 r0c2 r0f2 r0c3 r0f3 r0c4 r0f4 r3c0 r3f0 r3c1 r3f1 r3c2 r3f2 r3c3 r3f3 ratl r0l r3l
                by_cases hz : R = 0
                · subst hz
                  rw [if_pos rfl] at hst
                  have hvd : 0 ≤ DB.ship ∧ berthB p DB = true := run_valid (p := p) (w := wd) (x := bq) (y := DB) (r := [⟨t, x⟩]) hqs hqv (by simp [run, hst])
                  obtain ⟨kl, hkl⟩ := key_berth (valid_in HP.out hvd.1 hvd.2)
                  have HKB := Lib.hid hkl
                  clear hkl
                  by_cases hin : DB ∈ L3.map fun q => q.1
                  · have HI4 := HSK.out (fun y hy => by rw [hst] at hy; obtain rfl := Option.some.inj hy; obtain ⟨q, hq, e⟩ := List.mem_map.1 hin; exact ⟨q, hq, e⟩)
                    clear HSK HPU hst
                    go_wp2_with (go_at_call 65; (with_reducible refine (f_try a c e d p ⟨bq, needP p, wd, 0⟩ V0.heap.size t x _ rd M B ((m0.tab).below (Below.alloc (Below.refl _ _) (by omega) _)) (by omega) hxn HP.out HW.out hax ht13).mono ?_); rw [show tryR p { (⟨bq, needP p, wd, 0⟩ : Dock) with n := x } t = 0 from HR.out]; rintro z w9 ⟨rfl, hyes, hnot, hb9⟩; have hk9 : Kept V0 w9 := Below.trans (Below.alloc (Below.refl _ _) (Nat.le_refl _) _) hb9; have rd9 := hyes rfl; have rd9 := (Blk.cast rd9 (show dockCells a c e d p { (⟨bq, needP p, wd, 0⟩ : Dock) with b := doneB { (⟨bq, needP p, wd, 0⟩ : Dock) with n := x } t, n := x } = (dockCells a c e d p ⟨DB, needP p, wd, x⟩) from by rw [HDB.out])); unfold dockCells at rd9; have rd9c0 := rd9.cell 0; have rd9c1 := rd9.cell 1; have rd9c2 := rd9.cell 2; have rd9c3 := rd9.cell 3; have rd9c4 := rd9.cell 4; have rd9f0 := rd9.free 0; have rd9f1 := rd9.free 1; have rd9f2 := rd9.free 2; have rd9f3 := rd9.free 3; have rd9f4 := rd9.free 4; have rd9l := rd9.lt; simp at rd9c0 rd9c1 rd9c2 rd9c3 rd9c4; obtain ⟨nM, hnM, hset⟩ := m0.met; have hlk := (hset.keep hk9).look keyedB Try.underlying133 Try.underlying4 (zeroBool _) HKB.out; rw [metF_at HKB.out, decide_eq_true hin] at hlk; unfold berthV at hlk)
                    go_roundw
                    case rel => exact ⟨L3, T3, m + 1, hm1, by go_num, HI4, m0.keep hk9, HLH3, HTH3, rat.keep hk9, hne3⟩
                    case measure => simp [intOf]; omega
                  · have HNI := Lib.hid (fun (q : Berth × List Deed) (hq : q ∈ L3) => fun (e : q.1 = DB) => hin (List.mem_map.2 ⟨q, hq, e⟩))
                    have HPV := Lib.hid (fun u : Value => HPU.out hst HNI.out u)
                    clear HSK HPU hst
                    go_upto_region 32 with (go_at_call 65; (with_reducible refine (f_try a c e d p ⟨bq, needP p, wd, 0⟩ V0.heap.size t x _ rd M B ((m0.tab).below (Below.alloc (Below.refl _ _) (by omega) _)) (by omega) hxn HP.out HW.out hax ht13).mono ?_); rw [show tryR p { (⟨bq, needP p, wd, 0⟩ : Dock) with n := x } t = 0 from HR.out]; rintro z w9 ⟨rfl, hyes, hnot, hb9⟩; have hk9 : Kept V0 w9 := Below.trans (Below.alloc (Below.refl _ _) (Nat.le_refl _) _) hb9; have rd9 := hyes rfl; have rd9 := (Blk.cast rd9 (show dockCells a c e d p { (⟨bq, needP p, wd, 0⟩ : Dock) with b := doneB { (⟨bq, needP p, wd, 0⟩ : Dock) with n := x } t, n := x } = (dockCells a c e d p ⟨DB, needP p, wd, x⟩) from by rw [HDB.out])); unfold dockCells at rd9; have rd9c0 := rd9.cell 0; have rd9c1 := rd9.cell 1; have rd9c2 := rd9.cell 2; have rd9c3 := rd9.cell 3; have rd9c4 := rd9.cell 4; have rd9f0 := rd9.free 0; have rd9f1 := rd9.free 1; have rd9f2 := rd9.free 2; have rd9f3 := rd9.free 3; have rd9f4 := rd9.free 4; have rd9l := rd9.lt; simp at rd9c0 rd9c1 rd9c2 rd9c3 rd9c4; obtain ⟨nM, hnM, hset⟩ := m0.met; have hlk := (hset.keep hk9).look keyedB Try.underlying133 Try.underlying4 (zeroBool _) HKB.out; rw [metF_at HKB.out, decide_eq_false hin] at hlk; unfold berthV at hlk)
                    refine at_world (S := fun V => PlanM p wd #[.slice a p.axes.length c, .int .i64 p.people, .int .i64 p.most, .slice e p.pulls.length d, .int .i64 p.cross] w M B N V (.slice (some ⟨g3, off3, none⟩) T3.length cap3) T3 (L3.map fun q => q.1) ∧ Blk V nA #[.int .u8 bq.ship, .int .i64 bq.axis, .int .i64 bq.held, .bool bq.wire, .bool bq.opn, .slice ad pq.length cp] 135 ∧ Blk V nC #[.int .u8 t, .int .i64 x] 61 ∧ Blk V V0.heap.size (dockCells a c e d p ⟨DB, needP p, wd, x⟩) 126) ⟨m0.keep hk9, rat.keep hk9, ra.keep hk9, rd9⟩ ?_
                    obtain ⟨nD, hnD⟩ : ∃ n, n = V0.heap.size := ⟨_, rfl⟩
                    rw [← hnD]
                    clear hnD rd9 rd9c0 rd9c1 rd9c2 rd9c3 rd9c4 rd9f0 rd9f1 rd9f2 rd9f3 rd9f4 rd9l hlk hset hnM hyes hnot hb9 hk9 rd hxn m0 rat ra hkw0 hN0 HR HDB
                    rintro V1 ⟨m1, rat, ra, rd⟩
                    obtain ⟨nM, hnM, hset⟩ := m1.met
                    have hnM2 : nM ≤ 154368 := by rw [List.length_map] at hnM; omega
                    obtain ⟨w10, hr10, hs10, hg10⟩ := hset.run (g := metF ((L3.map fun q => q.1) ++ [DB])) keyedB Try.underlying133 Try.underlying4 (by unfold maxLen; omega) HKB.out (metF_put HKB.out).1 (metF_put HKB.out).2
                    unfold berthV at hr10
                    have hno := hset.none
                    have HM10 := Lib.hid (m1.turned hnM hs10 hg10)
                    have HA10 := Lib.hid (rat.turned (fun e => hno _ _ (e ▸ rat)) hg10)
                    have HC10 := Lib.hid (ra.turned (fun e => hno _ _ (e ▸ ra)) hg10)
                    have HD10 := Lib.hid (rd.turned (fun e => hno _ _ (e ▸ rd)) hg10)
                    clear hs10 hg10 hno hset hnM hnM2
                    unfold dockCells at rd
                    have rdc0 := rd.cell 0
                    have rdc1 := rd.cell 1
                    have rdc2 := rd.cell 2
                    have rdc3 := rd.cell 3
                    have rdc4 := rd.cell 4
                    have rdf0 := rd.free 0
                    have rdf1 := rd.free 1
                    have rdf2 := rd.free 2
                    have rdf3 := rd.free 3
                    have rdf4 := rd.free 4
                    have rdl := rd.lt
                    simp at rdc0 rdc1 rdc2 rdc3 rdc4
                    go_upto_region 33 with fail
                    refine at_world (S := fun V => PlanM p wd #[.slice a p.axes.length c, .int .i64 p.people, .int .i64 p.most, .slice e p.pulls.length d, .int .i64 p.cross] w M B N V (.slice (some ⟨g3, off3, none⟩) T3.length cap3) T3 ((L3.map fun q => q.1) ++ [DB]) ∧ Blk V nA #[.int .u8 bq.ship, .int .i64 bq.axis, .int .i64 bq.held, .bool bq.wire, .bool bq.opn, .slice ad pq.length cp] 135 ∧ Blk V nC #[.int .u8 t, .int .i64 x] 61 ∧ Blk V nD (dockCells a c e d p ⟨DB, needP p, wd, x⟩) 126) ⟨HM10.out, HA10.out, HC10.out, HD10.out⟩ ?_
                    clear HM10 HA10 HC10 HD10 hr10 m1 rat ra rd rdc0 rdf0 rdc1 rdf1 rdc2 rdf2 rdc3 rdf3 rdc4 rdf4 rdl
                    rintro V2 ⟨m2, rat, ra, rd⟩
                    have HOA := m2.own _ HTM.out
                    have hzA := owns_none HOA
                    have hrowA : Row Deed.cells 2 V2.heap.size V2 ad pq := by obtain ⟨q1, q2, e, r, _⟩ := owns_row (enc := Deed.cells) (k := 2) deed_len HOA; cases e; exact r
                    have HW2 := Lib.hid m2.kept.size
                    have lA := rat.lt
                    clear HOA
                    refine fork_walk (fun V => Blk V nA #[.int .u8 bq.ship, .int .i64 bq.axis, .int .i64 bq.held, .bool bq.wire, .bool bq.opn, .slice ad pq.length cp] 135 ∧ Blk V nC #[.int .u8 t, .int .i64 x] 61 ∧ Blk V nD (dockCells a c e d p ⟨DB, needP p, wd, x⟩) 126) (fun u v V => ∃ ad5 cp5 g, u = .slice ad5 pq.length cp5 ∧ v = .slice (some ⟨g, 0, none⟩) 1 1 ∧ V.ownsRow V2.heap.size 61 2 u pq.length (pq.flatMap Deed.cells) ∧ Blk V g #[.int .u8 t, .int .i64 x] 61 ∧ Kept V2 V) [0, 1, 2, 3, 4, 5, 6, 8] 7 9 [(false, 10), (true, 11), (false, 12), (false, 13), (true, 14)] (by kernel_rfl) (by kernel_rfl) (fun c a d v w h => by cases d <;> exact h) ⟨rat, ra, rd⟩ ?_
                    simp only [List.filterMap_cons, List.filterMap_nil, List.getElem?_cons_zero, List.getElem?_cons_succ, Option.map_some]
                    refine taken_take ?_ ?_ (fun w' hS => ?_) ?_; rotate_left 1; (focus rfl); (focus (have y0 := hS.1.cell 0; have y1 := hS.1.cell 1; have y2 := hS.1.cell 2; have y3 := hS.1.cell 3; have y4 := hS.1.cell 4; have y5 := hS.1.cell 5; have z0 := hS.2.1.cell 0; have z1 := hS.2.1.cell 1; have hS3 := hS.2.2; unfold dockCells at hS3; have x0 := hS3.cell 0; have x1 := hS3.cell 1; have x2 := hS3.cell 2; have x3 := hS3.cell 3; have x4 := hS3.cell 4; have l1 := hS.1.lt; have l2 := hS.2.1.lt; have l3 := hS3.lt; simp at y0 y1 y2 y3 y4 y5 z0 z1 x0 x1 x2 x3 x4; first | (go_simp; done) | (go_simp; with_reducible rfl))); simp only [Act.put, List.setIfInBounds_toArray, List.set_cons_zero, List.set_cons_succ]
                    refine taken_take ?_ ?_ (fun w' hS => ?_) ?_; rotate_left 1; (focus rfl); (focus (have y0 := hS.1.cell 0; have y1 := hS.1.cell 1; have y2 := hS.1.cell 2; have y3 := hS.1.cell 3; have y4 := hS.1.cell 4; have y5 := hS.1.cell 5; have z0 := hS.2.1.cell 0; have z1 := hS.2.1.cell 1; have hS3 := hS.2.2; unfold dockCells at hS3; have x0 := hS3.cell 0; have x1 := hS3.cell 1; have x2 := hS3.cell 2; have x3 := hS3.cell 3; have x4 := hS3.cell 4; have l1 := hS.1.lt; have l2 := hS.2.1.lt; have l3 := hS3.lt; simp at y0 y1 y2 y3 y4 y5 z0 z1 x0 x1 x2 x3 x4; first | (go_simp; done) | (go_simp; with_reducible rfl))); simp only [Act.put, List.setIfInBounds_toArray, List.set_cons_zero, List.set_cons_succ]
                    refine taken_take ?_ ?_ (fun w' hS => ?_) ?_; rotate_left 1; (focus rfl); (focus (have y0 := hS.1.cell 0; have y1 := hS.1.cell 1; have y2 := hS.1.cell 2; have y3 := hS.1.cell 3; have y4 := hS.1.cell 4; have y5 := hS.1.cell 5; have z0 := hS.2.1.cell 0; have z1 := hS.2.1.cell 1; have hS3 := hS.2.2; unfold dockCells at hS3; have x0 := hS3.cell 0; have x1 := hS3.cell 1; have x2 := hS3.cell 2; have x3 := hS3.cell 3; have x4 := hS3.cell 4; have l1 := hS.1.lt; have l2 := hS.2.1.lt; have l3 := hS3.lt; simp at y0 y1 y2 y3 y4 y5 z0 z1 x0 x1 x2 x3 x4; first | (go_simp; done) | (go_simp; with_reducible rfl))); simp only [Act.put, List.setIfInBounds_toArray, List.set_cons_zero, List.set_cons_succ]
                    refine taken_take ?_ ?_ (fun w' hS => ?_) ?_; rotate_left 1; (focus rfl); (focus (have y0 := hS.1.cell 0; have y1 := hS.1.cell 1; have y2 := hS.1.cell 2; have y3 := hS.1.cell 3; have y4 := hS.1.cell 4; have y5 := hS.1.cell 5; have z0 := hS.2.1.cell 0; have z1 := hS.2.1.cell 1; have hS3 := hS.2.2; unfold dockCells at hS3; have x0 := hS3.cell 0; have x1 := hS3.cell 1; have x2 := hS3.cell 2; have x3 := hS3.cell 3; have x4 := hS3.cell 4; have l1 := hS.1.lt; have l2 := hS.2.1.lt; have l3 := hS3.lt; simp at y0 y1 y2 y3 y4 y5 z0 z1 x0 x1 x2 x3 x4; first | (go_simp; done) | (go_simp; with_reducible rfl))); simp only [Act.put, List.setIfInBounds_toArray, List.set_cons_zero, List.set_cons_succ]
                    refine taken_take ?_ ?_ (fun w' hS => ?_) ?_; rotate_left 1; (focus rfl); (focus (have y0 := hS.1.cell 0; have y1 := hS.1.cell 1; have y2 := hS.1.cell 2; have y3 := hS.1.cell 3; have y4 := hS.1.cell 4; have y5 := hS.1.cell 5; have z0 := hS.2.1.cell 0; have z1 := hS.2.1.cell 1; have hS3 := hS.2.2; unfold dockCells at hS3; have x0 := hS3.cell 0; have x1 := hS3.cell 1; have x2 := hS3.cell 2; have x3 := hS3.cell 3; have x4 := hS3.cell 4; have l1 := hS.1.lt; have l2 := hS.2.1.lt; have l3 := hS3.lt; simp at y0 y1 y2 y3 y4 y5 z0 z1 x0 x1 x2 x3 x4; first | (go_simp; done) | (go_simp; with_reducible rfl))); simp only [Act.put, List.setIfInBounds_toArray, List.set_cons_zero, List.set_cons_succ]
                    refine taken_take ?_ ?_ (fun w' hS => ?_) ?_; rotate_left 1; (focus rfl); (focus (have y0 := hS.1.cell 0; have y1 := hS.1.cell 1; have y2 := hS.1.cell 2; have y3 := hS.1.cell 3; have y4 := hS.1.cell 4; have y5 := hS.1.cell 5; have z0 := hS.2.1.cell 0; have z1 := hS.2.1.cell 1; have hS3 := hS.2.2; unfold dockCells at hS3; have x0 := hS3.cell 0; have x1 := hS3.cell 1; have x2 := hS3.cell 2; have x3 := hS3.cell 3; have x4 := hS3.cell 4; have l1 := hS.1.lt; have l2 := hS.2.1.lt; have l3 := hS3.lt; simp at y0 y1 y2 y3 y4 y5 z0 z1 x0 x1 x2 x3 x4; first | (go_simp; done) | (go_simp; with_reducible rfl))); simp only [Act.put, List.setIfInBounds_toArray, List.set_cons_zero, List.set_cons_succ]
                    refine taken_take ?_ ?_ (fun w' hS => ?_) ?_; rotate_left 1; (focus rfl); (focus (have y0 := hS.1.cell 0; have y1 := hS.1.cell 1; have y2 := hS.1.cell 2; have y3 := hS.1.cell 3; have y4 := hS.1.cell 4; have y5 := hS.1.cell 5; have z0 := hS.2.1.cell 0; have z1 := hS.2.1.cell 1; have hS3 := hS.2.2; unfold dockCells at hS3; have x0 := hS3.cell 0; have x1 := hS3.cell 1; have x2 := hS3.cell 2; have x3 := hS3.cell 3; have x4 := hS3.cell 4; have l1 := hS.1.lt; have l2 := hS.2.1.lt; have l3 := hS3.lt; simp at y0 y1 y2 y3 y4 y5 z0 z1 x0 x1 x2 x3 x4; first | (go_simp; done) | (go_simp; with_reducible rfl))); simp only [Act.put, List.setIfInBounds_toArray, List.set_cons_zero, List.set_cons_succ]
                    refine taken_take ?_ ?_ (fun w' hS => ?_) ?_; rotate_left 1; (focus rfl); (focus (have y0 := hS.1.cell 0; have y1 := hS.1.cell 1; have y2 := hS.1.cell 2; have y3 := hS.1.cell 3; have y4 := hS.1.cell 4; have y5 := hS.1.cell 5; have z0 := hS.2.1.cell 0; have z1 := hS.2.1.cell 1; have hS3 := hS.2.2; unfold dockCells at hS3; have x0 := hS3.cell 0; have x1 := hS3.cell 1; have x2 := hS3.cell 2; have x3 := hS3.cell 3; have x4 := hS3.cell 4; have l1 := hS.1.lt; have l2 := hS.2.1.lt; have l3 := hS3.lt; simp at y0 y1 y2 y3 y4 y5 z0 z1 x0 x1 x2 x3 x4; first | (go_simp; done) | (go_simp; with_reducible rfl))); simp only [Act.put, List.setIfInBounds_toArray, List.set_cons_zero, List.set_cons_succ]
                    refine taken_nil ?_
                    intro oi oj hoi hoj
                    simp only [Option.some.injEq] at hoi hoj
                    subst hoi hoj
                    refine ⟨?_, ?_, ?_⟩
                    · refine next_plain rfl fun K1 Q1 hK1 => ?_
                      go_wp2_with (go_at_call 78; (with_reducible refine (s_CloneA ad cp pq _ (hrowA.later (by (exact kpt)) (Nat.le_refl _)) (by omega) hzA).mono ?_); rintro z w5 ⟨v5, rfl, ho5, hb5⟩; obtain ⟨ad5, cp5, rfl, _⟩ := owns_row (enc := Deed.cells) (k := 2) deed_len ho5)
                      refine hK1.out _ _ ⟨by (exact blk), by (exact blk), by (exact blk)⟩ ?_
                      refine next_plain rfl fun K2 Q2 hK2 => ?_
                      go_wp2
                      refine hK2.out _ _ ⟨by (exact blk), by (exact blk), by (exact blk)⟩ ?_
                      exact ⟨_, _, rfl, ad5, cp5, _, rfl, rfl, owns_keep (owns_base ho5 (Nat.le_refl _)) (by (exact kpt)), by (exact blk), by (exact kpt)⟩
                    · refine next_plain rfl fun K1 Q1 hK1 => ?_
                      go_wp2
                      refine hK1.out _ _ ⟨by (exact blk), by (exact blk), by (exact blk)⟩ ?_
                      refine next_plain rfl fun K2 Q2 hK2 => ?_
                      go_wp2_with (go_at_call 78; (with_reducible refine (s_CloneA ad cp pq _ (hrowA.later (by (exact kpt)) (Nat.le_refl _)) (by omega) hzA).mono ?_); rintro z w5 ⟨v5, rfl, ho5, hb5⟩; obtain ⟨ad5, cp5, rfl, _⟩ := owns_row (enc := Deed.cells) (k := 2) deed_len ho5)
                      refine hK2.out _ _ ⟨by (exact blk), by (exact blk), by (exact blk)⟩ ?_
                      exact ⟨_, _, rfl, ad5, cp5, _, rfl, rfl, owns_base ho5 (by simp), by (exact blk), by (exact kpt)⟩
                    intro u v w3 hS3 hR
                    obtain ⟨ad5, cp5, g5, rfl, rfl, ho5, hb5, hk5⟩ := hR
                    simp only [Act.put, List.setIfInBounds_toArray, List.set_cons_zero, List.set_cons_succ]
                    refine held_one ?_
                    refine wpList_step1 rfl ?_
                    refine step_push rfl _ _ 79 rfl V2.heap.size 61 (.agg #[.int .u8 0, .int .i64 0]) 2 16 Try.underlying79 infoDeed rfl (by decide) _ pq.length (pq.flatMap Deed.cells) (by rfl) ho5 _ [.int .u8 t, .int .i64 x] 61 (by rfl) rfl hb5 (fun u hu => by simp at hu; rcases hu with rfl | rfl <;> rfl) (by omega) (by decide) hk5.size ?_
                    intro v8 w8 ho8 hg8
                    have hk8 : Kept V2 w8 := Kept.grown hk5 ho5 (Nat.le_refl _) hg8
                    have ho8b : w8.ownsRow V2.heap.size 61 2 v8 (pq ++ [(⟨t, x⟩ : Deed)]).length ((pq ++ [(⟨t, x⟩ : Deed)]).flatMap Deed.cells) := by rw [List.flatMap_append, List.length_append]; exact ho8
                    obtain ⟨ad8, cp8, hv8, _⟩ := owns_row (enc := Deed.cells) (k := 2) deed_len ho8b
                    obtain rfl : v8 = .slice ad8 (pq.length + 1) cp8 := by rw [hv8]; simp
                    clear hv8
                    refine held_on ⟨by (exact blk), by (exact blk), by (exact blk)⟩ ?_
                    simp only [Act.put, List.setIfInBounds_toArray, List.set_cons_zero, List.set_cons_succ]
                    refine held_take ?_ ?_ (fun w' hS => ?_) ?_; rotate_left 1; (focus rfl); (focus (skip; first | (go_simp; done) | (go_simp; with_reducible rfl)))
                    simp only [Act.put, List.setIfInBounds_toArray, List.set_cons_zero, List.set_cons_succ]
                    refine held_one ?_
                    refine wpList_plain rfl fun K1 hK1 => ?_
                    go_wp2
                    refine held_on ⟨by (exact blk), by (exact blk), by (exact blk)⟩ ?_
                    refine held_one ?_
                    have m8 := m2.keep (Kept.alloc hk8 (.cells #[.int .u8 DB.ship, .int .i64 DB.axis, .int .i64 DB.held, .bool DB.wire, .bool DB.opn, .slice ad8 (pq.length + 1) cp8] 135))
                    refine wpList_push_que _ rfl _ _ 136 rfl 135 (.agg #[.int .u8 0, .int .i64 0, .int .i64 0, .bool false, .bool false, .slice none 0 0]) 6 56 Try.underlying136 infoRoute rfl (by decide) N (Nat.le_of_lt m8.size) _ T3.length (T3.flatMap routeC) rfl m8.que _ (routeC (DB, (pq ++ [(⟨t, x⟩ : Deed)]), .slice ad8 (pq.length + 1) cp8)) 135 rfl rfl (Blk.new' (by simp)) (fun u hu => by simp [routeC] at hu; rcases hu with rfl | rfl | rfl | rfl | rfl | rfl <;> rfl) (by omega) (by decide) ?_
                    intro v9 w9 hq9 hg9 hv9
                    have m9 := m8.grow (t := (DB, (pq ++ [(⟨t, x⟩ : Deed)]), .slice ad8 (pq.length + 1) cp8)) (owns_keep (owns_base ho8b HW2.out) (Kept.alloc (Below.refl _ _) _)) hq9 hg9
                    have rat9 : Blk w9 nA #[.int .u8 bq.ship, .int .i64 bq.axis, .int .i64 bq.held, .bool bq.wire, .bool bq.opn, .slice ad pq.length cp] 135 := Blk.beside (by (exact blk)) hne3 hg9
                    have ra9 : Blk w9 nC #[.int .u8 t, .int .i64 x] 61 := Blk.grownQ (by (exact blk)) m8.que (by decide) hg9
                    have rd9 : Blk w9 nD (dockCells a c e d p ⟨DB, needP p, wd, x⟩) 126 := Blk.grownQ (by (exact blk)) m8.que (by decide) hg9
                    refine held_on ⟨rat9, ra9, rd9⟩ ?_
                    simp only [Act.put, List.setIfInBounds_toArray, List.set_cons_zero, List.set_cons_succ]
                    refine held_take ?_ ?_ (fun w' hS => ?_) ?_; rotate_left 1; (focus rfl); (focus (skip; first | (go_simp; done) | (go_simp; with_reducible rfl)))
                    simp only [Act.put, List.setIfInBounds_toArray, List.set_cons_zero, List.set_cons_succ]
                    refine held_nil ?_
                    have HV9 := Lib.hid hv9
                    have HK8 := Lib.hid hk8.size
                    clear hk8 ho8 ho8b hb5 ho5 hk5 hg8 m8 rat ra rd m2 hv9 hq9 hg9 ra9 rd9 hS3 hrowA hzA
                    go_wp2_with fail
                    go_roundw
                    case rel =>
                      refine ⟨L3 ++ [(DB, pq ++ [⟨t, x⟩])], T3 ++ [(DB, pq ++ [⟨t, x⟩], .slice ad8 (pq.length + 1) cp8)], m + 1, hm1, by go_num, HPV.out _, ?_, ?_, ?_, rat9, ?_⟩
                      · rw [List.map_append]; exact m9
                      · rw [List.getElem?_append_left (by omega)]; exact HLH3
                      · cases T3 with
                        | nil => cases HTH3
                        | cons t T => exact HTH3
                      · rcases HV9.out with e | ⟨g', e, hg'⟩
                        · rw [e]; exact hne3
                        · rw [e]; simp at hg' ⊢; have := HK8.out; omega
                    case measure => simp [intOf]; omega
                · rw [if_neg hz] at hst
                  have HI4 := HSK.out (fun y hy => by rw [hst] at hy; cases hy)
                  have hRq : 0 < R := by omega
                  clear HSK HPU hst HDB hz
                  go_wp2_with (go_at_call 65; (with_reducible refine (f_try a c e d p ⟨bq, needP p, wd, 0⟩ V0.heap.size t x _ rd M B ((m0.tab).below (Below.alloc (Below.refl _ _) (by omega) _)) (by omega) hxn HP.out HW.out hax ht13).mono ?_); rw [show tryR p { (⟨bq, needP p, wd, 0⟩ : Dock) with n := x } t = R from HR.out]; rintro z w9 ⟨rfl, hyes, hnot, hb9⟩; have hk9 : Kept V0 w9 := Below.trans (Below.alloc (Below.refl _ _) (Nat.le_refl _) _) hb9; skip)
                  go_roundw
                  case rel => exact ⟨L3, T3, m + 1, hm1, by go_num, HI4, m0.keep hk9, HLH3, HTH3, rat.keep hk9, hne3⟩
                  case measure => simp [intOf]; omega
              · obtain rfl : NN = m := by omega
                have u1 : ¬ LO + (NN : Int) ≤ HH := fun h => absurd ((HN2.out NN).2 h) (Nat.lt_irrefl _)
                rw [← HNX.out] at HI3
                go_wp2
                go_roundw
                case rel => exact ⟨L3, T3, k + 1, hk14, by rw [HT.out]; go_num, HI3, HM3, HLH3, HTH3, rat3, hne3⟩
                case measure => simp [intOf]; omega
          · obtain rfl : k = 13 := by omega
            obtain ⟨g2, off2, cap2, rfl, -⟩ := HM2.que.form
            obtain ⟨hlt2, hLe2⟩ := List.getElem?_eq_some_iff.1 HLH2
            have hT2 : 0 < T2.length := by rw [HI2.len]; omega
            have HM4 := Lib.hid (HM2.next rfl hT2)
            have HI4 := Lib.hid (HI2.next hlt2 (by rw [hLe2]; exact HGF.out))
            have hq2 := HM2.que.form
            obtain ⟨_, _, _, e2, _, _, hcl2, hcM2, _⟩ := hq2
            simp at e2
            obtain ⟨-, -, rfl⟩ := e2
            have hTi : (1 : Int) ≤ (T2.length : Int) := by omega
            have hci : (1 : Int) ≤ (cap2 : Int) := by omega
            clear HI2 HM2
            go_wp2
            go_roundw
            case rel => exact ⟨154369 - (h + 1), L2, T2.tail, h + 1, by omega, rfl, HI4.out, HM4.out⟩
            case measure =>
              refine Nat.lt_of_le_of_lt (leastOf_ok (n := 154369 - (h + 1)) ⟨L2, T2.tail, h + 1, by omega, rfl, HI4.out, HM4.out⟩).2 ?_
              exact Nat.lt_of_lt_of_le (by omega : 154369 - (h + 1) < 154369 - h) (Nat.le_of_eq HMM.out)
    · obtain rfl : L.length = h := by omega
      have t0 : ¬ (0 : Int) < (T.length : Int) := by rw [HI.len]; omega
      have HE := Lib.hid (HI.search.at_end HC.out (goal := goalB ship) (fun q hq => by
        obtain ⟨i, hi, rfl⟩ := List.mem_iff_getElem.1 hq
        exact HI.no i hi hi))
      have HKW := Lib.hid HM.kept
      clear HI HM hcell HMM
      go_wp2
      exact bodyPost_ret (v := .tuple #[.slice none 0 0, .int .i64 6]) (by simp [results, Try.results32, go_sem]) rfl ⟨none, HE.out, _, rfl, owns_nil (α := Deed) (enc := Deed.cells), Kept.drop HKW.out (by (exact kpt))⟩

end Go.Proofs.Ytacbkbilbmkjnaa

/-
  Steps, played in the reference.
-/
namespace Go.Proofs.Ytacbkbilbmkjnaa
open Go.RowKit Bal Bal.Trim Bal.Mast
set_option linter.unusedVariables false
set_option linter.unusedSimpArgs false
set_option maxHeartbeats 4000000
set_option maxRecDepth 10000

theorem r_Play (a : Option Addr) (c : Nat) (e : Option Addr) (d : Nat) (p : Port) (w : World) (sa : Option Addr) (sc : Nat) (ss : List Step) (hx : Row Axis.cells 2 w.heap.size w a p.axes) (hc : p.axes.length ≤ c) (hM : c ≤ maxLen) (hy : Row Span.cells 2 w.heap.size w e p.pulls) (hd : p.pulls.length ≤ d) (hN : d ≤ maxLen) (h1 : p.axes.length ≤ 1000000) (h2 : p.pulls.length ≤ 1000000) (b : Berth) (hs0 : 0 ≤ b.ship) (hss : Row Step.cells 6 w.heap.size w sa ss) (hsl : ss.length ≤ sc) (hsm : sc ≤ maxLen) (hkk : ∀ s ∈ ss, 0 ≤ s.act.kind ∧ s.act.kind ≤ 255) :
    Calls Try.prog 30 #[.agg #[.slice a p.axes.length c, .int .i64 p.people, .int .i64 p.most, .slice e p.pulls.length d, .int .i64 p.cross], .agg #[.int .u8 b.ship, .int .i64 b.axis, .int .i64 b.held, .bool b.wire, .bool b.opn], .slice sa ss.length sc] w fun z w' => z = .returned (.tuple #[.agg #[.int .u8 (playE p b ss).b.ship, .int .i64 (playE p b ss).b.axis, .int .i64 (playE p b ss).b.held, .bool (playE p b ss).b.wire, .bool (playE p b ss).b.opn], .int .i64 (playE p b ss).i, .int .i64 (playE p b ss).r, .int .i64 (playE p b ss).e]) ∧ Kept w w' := by
  have hM' := hM
  have hN' := hN
  have hsm' := hsm
  unfold maxLen at hM' hN' hsm'
  by_cases c1 : checkBerth p b = 0
  · have HCB := Lib.hid c1
    by_cases c2 : 200 < ss.length
    · rw [show playE p b ss = ⟨noBerth, 0, 0, 4⟩ by unfold playE; rw [if_pos c1, if_pos c2]]
      have c3 : (200 : Int) < (ss.length : Int) := by omega
      clear c1
      go_enter Try.func30, Try.ntmps30
      go_wp2_with (go_at_call 28; (with_reducible refine (r_CheckBerth a c e d p _ (hx.later (by (exact kpt)) (Nat.le_refl _)) hc hM (hy.later (by (exact kpt)) (Nat.le_refl _)) hd hN h1 h2 b hs0).mono ?_); rw [HCB.out]; rintro z w1 ⟨rfl, hb1⟩; refine Blk.thru (b := w.heap.size) (arr := ?_) (t := ?_) ?_ hb1 ?_; rotate_left 2; (focus (exact blk)); intro r0; have r0c0 := r0.cell 0; have r0f0 := r0.free 0; have r0c1 := r0.cell 1; have r0f1 := r0.free 1; have r0c2 := r0.cell 2; have r0f2 := r0.free 2; have r0c3 := r0.cell 3; have r0f3 := r0.free 3; have r0c4 := r0.cell 4; have r0f4 := r0.free 4; have r0l := r0.lt; simp at r0c0 r0c1 r0c2 r0c3 r0c4; refine Blk.thru (b := (w.heap.size + 1)) (arr := ?_) (t := ?_) ?_ hb1 ?_; rotate_left 2; (focus (exact blk)); intro r1; have r1c0 := r1.cell 0; have r1f0 := r1.free 0; have r1c1 := r1.cell 1; have r1f1 := r1.free 1; have r1c2 := r1.cell 2; have r1f2 := r1.free 2; have r1c3 := r1.cell 3; have r1f3 := r1.free 3; have r1c4 := r1.cell 4; have r1f4 := r1.free 4; have r1l := r1.lt; simp at r1c0 r1c1 r1c2 r1c3 r1c4; refine Blk.thru (b := (w.heap.size + 1 + 1)) (arr := ?_) (t := ?_) ?_ hb1 ?_; rotate_left 2; (focus (exact blk)); intro r3; have r3c0 := r3.cell 0; have r3f0 := r3.free 0; have r3c1 := r3.cell 1; have r3f1 := r3.free 1; have r3c2 := r3.cell 2; have r3f2 := r3.free 2; have r3c3 := r3.cell 3; have r3f3 := r3.free 3; have r3c4 := r3.cell 4; have r3f4 := r3.free 4; have r3l := r3.lt; simp at r3c0 r3c1 r3c2 r3c3 r3c4)
      exact bodyPost_ret (v := .tuple #[.agg #[.int .u8 noBerth.ship, .int .i64 noBerth.axis, .int .i64 noBerth.held, .bool noBerth.wire, .bool noBerth.opn], .int .i64 0, .int .i64 0, .int .i64 4]) (by first | (simp [results, Try.results30, go_sem, noBerth, r3c0, r3c1, r3c2, r3c3, r3c4, r3l]; done) | (simp [results, Try.results30, go_sem, noBerth, r3c0, r3c1, r3c2, r3c3, r3c4, r3l]; rfl)) rfl ⟨rfl, by (exact kpt)⟩
    · have hpl0 : playE p b ss = play p b (ss.drop 0) 0 := by unfold playE; rw [if_pos c1, if_neg c2]; rfl
      obtain ⟨X, hX⟩ : ∃ X, playE p b ss = X := ⟨_, rfl⟩
      rw [hX] at hpl0
      rw [hX]
      have c3 : ¬ (200 : Int) < (ss.length : Int) := by omega
      have HKK := Lib.hid hkk
      clear c1 hX hkk
      go_enter Try.func30, Try.ntmps30
      go_upto_region 6 with (go_at_call 28; (with_reducible refine (r_CheckBerth a c e d p _ (hx.later (by (exact kpt)) (Nat.le_refl _)) hc hM (hy.later (by (exact kpt)) (Nat.le_refl _)) hd hN h1 h2 b hs0).mono ?_); rw [HCB.out]; rintro z w1 ⟨rfl, hb1⟩; refine Blk.thru (b := w.heap.size) (arr := ?_) (t := ?_) ?_ hb1 ?_; rotate_left 2; (focus (exact blk)); intro r0; have r0c0 := r0.cell 0; have r0f0 := r0.free 0; have r0c1 := r0.cell 1; have r0f1 := r0.free 1; have r0c2 := r0.cell 2; have r0f2 := r0.free 2; have r0c3 := r0.cell 3; have r0f3 := r0.free 3; have r0c4 := r0.cell 4; have r0f4 := r0.free 4; have r0l := r0.lt; simp at r0c0 r0c1 r0c2 r0c3 r0c4; refine Blk.thru (b := (w.heap.size + 1)) (arr := ?_) (t := ?_) ?_ hb1 ?_; rotate_left 2; (focus (exact blk)); intro r1; have r1c0 := r1.cell 0; have r1f0 := r1.free 0; have r1c1 := r1.cell 1; have r1f1 := r1.free 1; have r1c2 := r1.cell 2; have r1f2 := r1.free 2; have r1c3 := r1.cell 3; have r1f3 := r1.free 3; have r1c4 := r1.cell 4; have r1f4 := r1.free 4; have r1l := r1.lt; simp at r1c0 r1c1 r1c2 r1c3 r1c4; refine Blk.thru (b := (w.heap.size + 1 + 1)) (arr := ?_) (t := ?_) ?_ hb1 ?_; rotate_left 2; (focus (exact blk)); intro r3; have r3c0 := r3.cell 0; have r3f0 := r3.free 0; have r3c1 := r3.cell 1; have r3f1 := r3.free 1; have r3c2 := r3.cell 2; have r3f2 := r3.free 2; have r3c3 := r3.cell 3; have r3f3 := r3.free 3; have r3c4 := r3.cell 4; have r3f4 := r3.free 4; have r3l := r3.lt; simp at r3c0 r3c1 r3c2 r3c3 r3c4)
      refine at_world (S := fun V => Blk V w.heap.size #[.slice a p.axes.length c, .int .i64 p.people, .int .i64 p.most, .slice e p.pulls.length d, .int .i64 p.cross] 45 ∧ Blk V (w.heap.size + 1) #[.int .u8 b.ship, .int .i64 b.axis, .int .i64 b.held, .bool b.wire, .bool b.opn] 59 ∧ Blk V (w.heap.size + 1 + 1) #[.int .u8 0, .int .i64 0, .int .i64 0, .bool false, .bool false] 59 ∧ Kept w V) ⟨by (exact blk), by (exact blk), by (exact blk), by (exact kpt)⟩ ?_
      clear r0 r1 r3 r0c0 r0f0 r0c1 r0f1 r0c2 r0f2 r0c3 r0f3 r0c4 r0f4 r1c0 r1f0 r1c1 r1f1 r1c2 r1f2 r1c3 r1f3 r1c4 r1f4 r3c0 r3f0 r3c1 r3f1 r3c2 r3f2 r3c3 r3f3 r3c4 r3f4 r0l r1l r3l
      rintro W ⟨r0, r1, r3, hk⟩
      go_wp2
      go_loopw [11] (fun i wr => ∃ (k : Nat) (bq : Berth), k ≤ ss.length ∧ i = .int .i64 k ∧ 0 ≤ bq.ship ∧ X = play p bq (ss.drop k) k ∧ Blk wr w.heap.size #[.slice a p.axes.length c, .int .i64 p.people, .int .i64 p.most, .slice e p.pulls.length d, .int .i64 p.cross] 45 ∧ Blk wr (w.heap.size + 1) #[.int .u8 bq.ship, .int .i64 bq.axis, .int .i64 bq.held, .bool bq.wire, .bool bq.opn] 59 ∧ Blk wr (w.heap.size + 1 + 1) #[.int .u8 0, .int .i64 0, .int .i64 0, .bool false, .bool false] 59 ∧ Kept w wr) (fun i _ => ss.length - (intOf i).toNat)
      case atStart => exact ⟨0, b, Nat.zero_le _, rfl, hs0, hpl0, r0, r1, r3, hk⟩
      case round =>
        clear r0 r1 r3 hk hpl0
        obtain ⟨k, bq, hkl, rfl, hq0, hpl, r0, r1, r3, hk⟩ := hrel
        have HPL := Lib.hid hpl
        clear hpl
        by_cases hlt : k < ss.length
        · obtain ⟨bb, off, rfl, hbb, g0, g1, g2, g3, g4, g5⟩ := Step.row (hss.later hk (Nat.le_refl _)) k hlt
          have HGO := Lib.hid (fun h => play_go (p := p) (b := bq) hlt h)
          have HNO := Lib.hid (fun h => play_no (p := p) (b := bq) hlt h)
          have hk0 := HKK.out _ (List.getElem_mem hlt)
          obtain ⟨s, hs⟩ : ∃ s, s = ss[k] := ⟨_, rfl⟩
          rw [← hs] at g0 g1 g2 g3 g4 g5 HGO HNO hk0
          clear hs
          obtain ⟨DB, hDB⟩ : ∃ x, doB p bq s = x := ⟨_, rfl⟩
          obtain ⟨DE, hDE⟩ : ∃ x, doE p bq s = x := ⟨_, rfl⟩
          obtain ⟨DR, hDR⟩ : ∃ x, doRule p bq s = x := ⟨_, rfl⟩
          have HSB := Lib.hid (show 0 ≤ DB.ship by rw [← hDB]; exact doB_ship hq0)
          have HDB := Lib.hid hDB
          have HDE := Lib.hid hDE
          have HDR := Lib.hid hDR
          clear hDB hDE hDR
          have j0 : (0 : Int) ≤ (k : Int) := by omega
          have j1 : (k : Int) < (ss.length : Int) := by omega
          go_upto_region 9 with fail
          have r0k0 : ∀ w', Kept wr w' → w'.cell? ⟨w.heap.size, 0, none⟩ = some (.slice a p.axes.length c) := fun w' h => by simpa using (r0.keep h).cell 0
          have r0k1 : ∀ w', Kept wr w' → w'.cell? ⟨w.heap.size, 1, none⟩ = some (.int .i64 p.people) := fun w' h => by simpa using (r0.keep h).cell 1
          have r0k2 : ∀ w', Kept wr w' → w'.cell? ⟨w.heap.size, 2, none⟩ = some (.int .i64 p.most) := fun w' h => by simpa using (r0.keep h).cell 2
          have r0k3 : ∀ w', Kept wr w' → w'.cell? ⟨w.heap.size, 3, none⟩ = some (.slice e p.pulls.length d) := fun w' h => by simpa using (r0.keep h).cell 3
          have r0k4 : ∀ w', Kept wr w' → w'.cell? ⟨w.heap.size, 4, none⟩ = some (.int .i64 p.cross) := fun w' h => by simpa using (r0.keep h).cell 4
          have r1k0 : ∀ w', Kept wr w' → w'.cell? ⟨(w.heap.size + 1), 0, none⟩ = some (.int .u8 bq.ship) := fun w' h => by simpa using (r1.keep h).cell 0
          have r1k1 : ∀ w', Kept wr w' → w'.cell? ⟨(w.heap.size + 1), 1, none⟩ = some (.int .i64 bq.axis) := fun w' h => by simpa using (r1.keep h).cell 1
          have r1k2 : ∀ w', Kept wr w' → w'.cell? ⟨(w.heap.size + 1), 2, none⟩ = some (.int .i64 bq.held) := fun w' h => by simpa using (r1.keep h).cell 2
          have r1k3 : ∀ w', Kept wr w' → w'.cell? ⟨(w.heap.size + 1), 3, none⟩ = some (.bool bq.wire) := fun w' h => by simpa using (r1.keep h).cell 3
          have r1k4 : ∀ w', Kept wr w' → w'.cell? ⟨(w.heap.size + 1), 4, none⟩ = some (.bool bq.opn) := fun w' h => by simpa using (r1.keep h).cell 4
          have y0 : ∀ w', Kept wr w' → w'.cell? ⟨bb, off + k * 6, none⟩ = some (.int .u8 s.act.kind) := fun w' h => (by rw [h.cell (p := ⟨bb, off + k * 6, none⟩) hbb]; exact g0)
          have y1 : ∀ w', Kept wr w' → w'.cell? ⟨bb, off + k * 6 + 1, none⟩ = some (.int .i64 s.act.n) := fun w' h => (by rw [h.cell (p := ⟨bb, off + k * 6 + 1, none⟩) hbb]; exact g1)
          have y2 : ∀ w', Kept wr w' → w'.cell? ⟨bb, off + k * 6 + 2, none⟩ = some (.int .i64 s.wind.xlo) := fun w' h => (by rw [h.cell (p := ⟨bb, off + k * 6 + 2, none⟩) hbb]; exact g2)
          have y3 : ∀ w', Kept wr w' → w'.cell? ⟨bb, off + k * 6 + 3, none⟩ = some (.int .i64 s.wind.xhi) := fun w' h => (by rw [h.cell (p := ⟨bb, off + k * 6 + 3, none⟩) hbb]; exact g3)
          have y4 : ∀ w', Kept wr w' → w'.cell? ⟨bb, off + k * 6 + 4, none⟩ = some (.int .i64 s.wind.ylo) := fun w' h => (by rw [h.cell (p := ⟨bb, off + k * 6 + 4, none⟩) hbb]; exact g4)
          have y5 : ∀ w', Kept wr w' → w'.cell? ⟨bb, off + k * 6 + 5, none⟩ = some (.int .i64 s.wind.yhi) := fun w' h => (by rw [h.cell (p := ⟨bb, off + k * 6 + 5, none⟩) hbb]; exact g5)
          have l0 := r0.lt
          have l1 := r1.lt
          have l3 := r3.lt
          go_cut [12, 13, 14] (fun s12 s13 s14 wx => ∃ nb, s12 = .pointer (some ⟨nb, 0, none⟩) ∧ s13 = .int .i64 DR ∧ s14 = .int .i64 DE ∧ wr.heap.size ≤ nb ∧ Blk wx nb #[.int .u8 DB.ship, .int .i64 DB.axis, .int .i64 DB.held, .bool DB.wire, .bool DB.opn] 59 ∧ Blk wx w.heap.size #[.slice a p.axes.length c, .int .i64 p.people, .int .i64 p.most, .slice e p.pulls.length d, .int .i64 p.cross] 45 ∧ Blk wx (w.heap.size + 1) #[.int .u8 bq.ship, .int .i64 bq.axis, .int .i64 bq.held, .bool bq.wire, .bool bq.opn] 59 ∧ Blk wx (w.heap.size + 1 + 1) #[.int .u8 0, .int .i64 0, .int .i64 0, .bool false, .bool false] 59 ∧ Kept w wx)
          case first =>
            clear g0 g1 g2 g3 g4 g5
            go_region_held3 (fun w' => Kept wr w') (exact kpt) (first | (go_at_call 24; (with_reducible refine (r_Do a c e d p _ (hx.later (by (exact kpt)) (Nat.le_refl _)) hc hM (hy.later (by (exact kpt)) (Nat.le_refl _)) hd hN h1 h2 bq hq0 s hk0).mono ?_); rw [HDB.out, HDE.out, HDR.out]; rintro z w5 ⟨rfl, hb5⟩; (first | (refine Blk.thru (b := wr.heap.size) (arr := #[.int .u8 0, .int .i64 0, .int .i64 0, .bool false, .bool false]) (t := 59) ?_ hb5 ?_; (focus (first | with_reducible assumption | (refine Blk.new' ?_; (focus (simp; done))) | (refine Blk.drew (Blk.new' ?_); (focus (simp; done))) | (refine Blk.alloc (Blk.new' ?_) _; (focus (simp; done))) | (refine Blk.drew (Blk.alloc (Blk.new' ?_) _); (focus (simp; done))) | (refine Blk.alloc (Blk.drew (Blk.new' ?_)) _; (focus (simp; done))) | (refine Blk.alloc ?_ _; with_reducible assumption) | (refine Blk.drew ?_; with_reducible assumption) | (refine Blk.drew (Blk.alloc ?_ _); with_reducible assumption) | fail)); intro tz; have tzc0 := tz.cell 0; have tzf0 := tz.free 0; have tzc1 := tz.cell 1; have tzf1 := tz.free 1; have tzc2 := tz.cell 2; have tzf2 := tz.free 2; have tzc3 := tz.cell 3; have tzf3 := tz.free 3; have tzc4 := tz.cell 4; have tzf4 := tz.free 4; have tzl := tz.lt; simp at tzc0 tzc1 tzc2 tzc3 tzc4) | skip)) | fail)
            all_goals (go_wp2_with fail; go_meet)
            all_goals
              refine ⟨_, rfl, rfl, rfl, ?_, ?_, ?_, ?_, ?_, ?_⟩
              · first | exact Nat.le_refl _ | (simp; done) | exact Kept.size (by assumption) | (refine Kept.size ?_; (exact kpt)) | (simp; omega)
              · (refine Blk.cast (arr := ?_) ?_ ?_; rotate_left 1; (focus (exact blk)); (first | with_reducible rfl | (simp; done) | rfl))
              · (exact blk)
              · (exact blk)
              · (exact blk)
              · (exact kpt)
          case rest =>
            clear r0 r1 r3 hk g0 g1 g2 g3 g4 g5 r0k0 r1k0 r0k1 r1k1 r0k2 r1k2 r0k3 r1k3 r0k4 r1k4 y0 y1 y2 y3 y4 y5
            obtain ⟨nb, rfl, rfl, rfl, hnb, rn, r0, r1, r3, hk⟩ := hcut
            have ne0 : nb ≠ w.heap.size := by omega
            have ne1 : nb ≠ w.heap.size + 1 := by omega
            have ne3 : nb ≠ w.heap.size + 1 + 1 := by omega
            have r0c0 := r0.cell 0
            have r0c1 := r0.cell 1
            have r0c2 := r0.cell 2
            have r0c3 := r0.cell 3
            have r0c4 := r0.cell 4
            have r0f0 := r0.free 0
            have r0f1 := r0.free 1
            have r0f2 := r0.free 2
            have r0f3 := r0.free 3
            have r0f4 := r0.free 4
            have r0l := r0.lt
            simp at r0c0 r0c1 r0c2 r0c3 r0c4
            have r1c0 := r1.cell 0
            have r1c1 := r1.cell 1
            have r1c2 := r1.cell 2
            have r1c3 := r1.cell 3
            have r1c4 := r1.cell 4
            have r1f0 := r1.free 0
            have r1f1 := r1.free 1
            have r1f2 := r1.free 2
            have r1f3 := r1.free 3
            have r1f4 := r1.free 4
            have r1l := r1.lt
            simp at r1c0 r1c1 r1c2 r1c3 r1c4
            have r3c0 := r3.cell 0
            have r3c1 := r3.cell 1
            have r3c2 := r3.cell 2
            have r3c3 := r3.cell 3
            have r3c4 := r3.cell 4
            have r3f0 := r3.free 0
            have r3f1 := r3.free 1
            have r3f2 := r3.free 2
            have r3f3 := r3.free 3
            have r3f4 := r3.free 4
            have r3l := r3.lt
            simp at r3c0 r3c1 r3c2 r3c3 r3c4
            have rnc0 := rn.cell 0
            have rnc1 := rn.cell 1
            have rnc2 := rn.cell 2
            have rnc3 := rn.cell 3
            have rnc4 := rn.cell 4
            have rnf0 := rn.free 0
            have rnf1 := rn.free 1
            have rnf2 := rn.free 2
            have rnf3 := rn.free 3
            have rnf4 := rn.free 4
            have rnl := rn.lt
            simp at rnc0 rnc1 rnc2 rnc3 rnc4
            by_cases he : DE = 0
            · subst he
              have HX2 := Lib.hid (HPL.out.trans (HGO.out HDE.out))
              rw [show doB p bq s = DB from HDB.out] at HX2
              clear HGO HNO HPL
              go_wp2
              go_round
              case rel => exact ⟨k + 1, DB, by omega, by go_num, HSB.out, HX2.out, by (exact blk), by (exact blkc), by (exact blk), by (exact kpt)⟩
              case measure => simp [intOf]; omega
            · have HX2 := Lib.hid (HPL.out.trans (HNO.out (by rw [HDE.out]; exact he)))
              rw [show doRule p bq s = DR from HDR.out, show doE p bq s = DE from HDE.out] at HX2
              have heb : (DE == 0) = false := beq_eq_false_iff_ne.2 he
              have hen : (DE != 0) = true := by simp [he]
              clear HGO HNO HPL
              go_wp2
              obtain rfl : X = ⟨bq, k, DR, DE⟩ := HX2.out
              exact bodyPost_ret (v := .tuple #[.agg #[.int .u8 bq.ship, .int .i64 bq.axis, .int .i64 bq.held, .bool bq.wire, .bool bq.opn], .int .i64 (k : Int), .int .i64 DR, .int .i64 DE]) (by first | (simp [results, Try.results30, go_sem, noBerth, r3c0, r3c1, r3c2, r3c3, r3c4, r3l]; done) | (simp [results, Try.results30, go_sem, noBerth, r3c0, r3c1, r3c2, r3c3, r3c4, r3l]; rfl)) rfl ⟨rfl, by (exact kpt)⟩
        · obtain rfl : ss.length = k := by omega
          obtain rfl : X = ⟨bq, 0, 0, 0⟩ := HPL.out.trans play_end
          have r0c0 := r0.cell 0
          have r0c1 := r0.cell 1
          have r0c2 := r0.cell 2
          have r0c3 := r0.cell 3
          have r0c4 := r0.cell 4
          have r0f0 := r0.free 0
          have r0f1 := r0.free 1
          have r0f2 := r0.free 2
          have r0f3 := r0.free 3
          have r0f4 := r0.free 4
          have r0l := r0.lt
          simp at r0c0 r0c1 r0c2 r0c3 r0c4
          have r1c0 := r1.cell 0
          have r1c1 := r1.cell 1
          have r1c2 := r1.cell 2
          have r1c3 := r1.cell 3
          have r1c4 := r1.cell 4
          have r1f0 := r1.free 0
          have r1f1 := r1.free 1
          have r1f2 := r1.free 2
          have r1f3 := r1.free 3
          have r1f4 := r1.free 4
          have r1l := r1.lt
          simp at r1c0 r1c1 r1c2 r1c3 r1c4
          have r3c0 := r3.cell 0
          have r3c1 := r3.cell 1
          have r3c2 := r3.cell 2
          have r3c3 := r3.cell 3
          have r3c4 := r3.cell 4
          have r3f0 := r3.free 0
          have r3f1 := r3.free 1
          have r3f2 := r3.free 2
          have r3f3 := r3.free 3
          have r3f4 := r3.free 4
          have r3l := r3.lt
          simp at r3c0 r3c1 r3c2 r3c3 r3c4
          go_wp2
          exact bodyPost_ret (v := .tuple #[.agg #[.int .u8 bq.ship, .int .i64 bq.axis, .int .i64 bq.held, .bool bq.wire, .bool bq.opn], .int .i64 0, .int .i64 0, .int .i64 0]) (by first | (simp [results, Try.results30, go_sem, noBerth, r3c0, r3c1, r3c2, r3c3, r3c4, r3l]; done) | (simp [results, Try.results30, go_sem, noBerth, r3c0, r3c1, r3c2, r3c3, r3c4, r3l]; rfl)) rfl ⟨rfl, by (exact kpt)⟩
  · obtain ⟨E, hE⟩ : ∃ E, checkBerth p b = E := ⟨_, rfl⟩
    rw [show playE p b ss = ⟨noBerth, 0, 0, E⟩ by unfold playE; rw [if_neg c1, hE]]
    have HCB := Lib.hid hE
    have hE0 : ¬ E = 0 := by rw [← hE]; exact c1
    have hEb : (E == 0) = false := beq_eq_false_iff_ne.2 hE0
    clear c1 hE
    go_enter Try.func30, Try.ntmps30
    go_wp2_with (go_at_call 28; (with_reducible refine (r_CheckBerth a c e d p _ (hx.later (by (exact kpt)) (Nat.le_refl _)) hc hM (hy.later (by (exact kpt)) (Nat.le_refl _)) hd hN h1 h2 b hs0).mono ?_); rw [HCB.out]; rintro z w1 ⟨rfl, hb1⟩; refine Blk.thru (b := w.heap.size) (arr := ?_) (t := ?_) ?_ hb1 ?_; rotate_left 2; (focus (exact blk)); intro r0; have r0c0 := r0.cell 0; have r0f0 := r0.free 0; have r0c1 := r0.cell 1; have r0f1 := r0.free 1; have r0c2 := r0.cell 2; have r0f2 := r0.free 2; have r0c3 := r0.cell 3; have r0f3 := r0.free 3; have r0c4 := r0.cell 4; have r0f4 := r0.free 4; have r0l := r0.lt; simp at r0c0 r0c1 r0c2 r0c3 r0c4; refine Blk.thru (b := (w.heap.size + 1)) (arr := ?_) (t := ?_) ?_ hb1 ?_; rotate_left 2; (focus (exact blk)); intro r1; have r1c0 := r1.cell 0; have r1f0 := r1.free 0; have r1c1 := r1.cell 1; have r1f1 := r1.free 1; have r1c2 := r1.cell 2; have r1f2 := r1.free 2; have r1c3 := r1.cell 3; have r1f3 := r1.free 3; have r1c4 := r1.cell 4; have r1f4 := r1.free 4; have r1l := r1.lt; simp at r1c0 r1c1 r1c2 r1c3 r1c4; refine Blk.thru (b := (w.heap.size + 1 + 1)) (arr := ?_) (t := ?_) ?_ hb1 ?_; rotate_left 2; (focus (exact blk)); intro r3; have r3c0 := r3.cell 0; have r3f0 := r3.free 0; have r3c1 := r3.cell 1; have r3f1 := r3.free 1; have r3c2 := r3.cell 2; have r3f2 := r3.free 2; have r3c3 := r3.cell 3; have r3f3 := r3.free 3; have r3c4 := r3.cell 4; have r3f4 := r3.free 4; have r3l := r3.lt; simp at r3c0 r3c1 r3c2 r3c3 r3c4)
    exact bodyPost_ret (v := .tuple #[.agg #[.int .u8 noBerth.ship, .int .i64 noBerth.axis, .int .i64 noBerth.held, .bool noBerth.wire, .bool noBerth.opn], .int .i64 0, .int .i64 0, .int .i64 E]) (by first | (simp [results, Try.results30, go_sem, noBerth, r3c0, r3c1, r3c2, r3c3, r3c4, r3l]; done) | (simp [results, Try.results30, go_sem, noBerth, r3c0, r3c1, r3c2, r3c3, r3c4, r3l]; rfl)) rfl ⟨rfl, by (exact kpt)⟩

end Go.Proofs.Ytacbkbilbmkjnaa

/-
  Plans, in the reference.
-/
namespace Go.Proofs.Ytacbkbilbmkjnaa
open Go.RowKit Bal Bal.Trim Bal.Mast
set_option linter.unusedVariables false
set_option linter.unusedSimpArgs false
set_option maxHeartbeats 4000000
set_option maxRecDepth 10000

theorem r_Plan_main (a : Option Addr) (c : Nat) (e : Option Addr) (d : Nat) (p : Port) (w : World) (hx : Row Axis.cells 2 w.heap.size w a p.axes) (hc : p.axes.length ≤ c) (hM : c ≤ maxLen) (hy : Row Span.cells 2 w.heap.size w e p.pulls) (hd : p.pulls.length ≤ d) (hN : d ≤ maxLen) (h1 : p.axes.length ≤ 1000000) (h2 : p.pulls.length ≤ 1000000) (hp : portB p = true) (b : Berth) (hs0 : 0 ≤ b.ship) (hb : berthB p b = true) (wd : Wind) (hw : windB wd = true) (ship : Int) (hsh : 0 ≤ ship ∧ ship ≤ 5) (hne : b.ship ≠ ship) :
    Calls Try.prog 33 #[.agg #[.slice a p.axes.length c, .int .i64 p.people, .int .i64 p.most, .slice e p.pulls.length d, .int .i64 p.cross], .agg #[.int .u8 b.ship, .int .i64 b.axis, .int .i64 b.held, .bool b.wire, .bool b.opn], .agg #[.int .i64 wd.xlo, .int .i64 wd.xhi, .int .i64 wd.ylo, .int .i64 wd.yhi], .int .u8 ship] w fun z w' => ∃ r v, Least (stepB p wd) 4096 codeD (actsOf (numsR p)) b (goalB ship) r ∧ z = .returned (.tuple #[v, .int .i64 (outE r)]) ∧ w'.ownsRow w.heap.size 61 2 v (outL r).length ((outL r).flatMap Deed.cells) ∧ Kept w w' := by
  have hM' := hM
  have hN' := hN
  unfold maxLen at hM' hN'
  have HCB := Lib.hid (show checkBerth p b = 0 by unfold checkBerth; rw [if_pos hp, if_pos hb])
  have HWD := Lib.hid hw
  have HC := Lib.hid (coded (nums_ok hp).2)
  have HVB := Lib.hid hb
  have hsne : (b.ship == ship) = false := beq_eq_false_iff_ne.2 hne
  have HG0 := Lib.hid (show goalB ship b = false by unfold goalB; exact decide_eq_false hne)
  have HAL := Lib.hid (actsTo_len hp 13)
  have HS0 := Lib.hid (Search.start (st := stepB p wd) HC.out (b0 := b))
  obtain ⟨NA, hNA⟩ : ∃ NA, NA = (actsOf (numsR p)).length := ⟨_, rfl⟩
  have HNA := Lib.hid hNA
  have hNb : NA ≤ 2613 := by rw [hNA]; exact HAL.out
  clear hb hw hne hNA
  go_enter Try.func33, Try.ntmps33
  go_upto_region 11 with (first | (go_at_call 28; (with_reducible refine (r_CheckBerth a c e d p _ (hx.later (by (exact kpt)) (Nat.le_refl _)) hc hM (hy.later (by (exact kpt)) (Nat.le_refl _)) hd hN h1 h2 b hs0).mono ?_); rw [HCB.out]; rintro z w1 ⟨rfl, hb1⟩; refine Blk.thru (b := w.heap.size) (arr := ?_) (t := ?_) ?_ hb1 ?_; rotate_left 2; (focus (exact blk)); intro r0; have r0c0 := r0.cell 0; have r0f0 := r0.free 0; have r0c1 := r0.cell 1; have r0f1 := r0.free 1; have r0c2 := r0.cell 2; have r0f2 := r0.free 2; have r0c3 := r0.cell 3; have r0f3 := r0.free 3; have r0c4 := r0.cell 4; have r0f4 := r0.free 4; have r0l := r0.lt; simp at r0c0 r0c1 r0c2 r0c3 r0c4; refine Blk.thru (b := (w.heap.size + 1)) (arr := ?_) (t := ?_) ?_ hb1 ?_; rotate_left 2; (focus (exact blk)); intro r1; have r1c0 := r1.cell 0; have r1f0 := r1.free 0; have r1c1 := r1.cell 1; have r1f1 := r1.free 1; have r1c2 := r1.cell 2; have r1f2 := r1.free 2; have r1c3 := r1.cell 3; have r1f3 := r1.free 3; have r1c4 := r1.cell 4; have r1f4 := r1.free 4; have r1l := r1.lt; simp at r1c0 r1c1 r1c2 r1c3 r1c4; refine Blk.thru (b := (w.heap.size + 1 + 1)) (arr := ?_) (t := ?_) ?_ hb1 ?_; rotate_left 2; (focus (exact blk)); intro r3; have r3c0 := r3.cell 0; have r3f0 := r3.free 0; have r3c1 := r3.cell 1; have r3f1 := r3.free 1; have r3c2 := r3.cell 2; have r3f2 := r3.free 2; have r3c3 := r3.cell 3; have r3f3 := r3.free 3; have r3l := r3.lt; simp at r3c0 r3c1 r3c2 r3c3) | (go_at_call 46; (with_reducible refine (r_Wind wd _).mono ?_); rw [HWD.out]; rintro z w2 ⟨rfl, hb2⟩; refine Blk.thru (b := w.heap.size) (arr := ?_) (t := ?_) ?_ hb2 ?_; rotate_left 2; (focus (exact blk)); intro r0; have r0c0 := r0.cell 0; have r0f0 := r0.free 0; have r0c1 := r0.cell 1; have r0f1 := r0.free 1; have r0c2 := r0.cell 2; have r0f2 := r0.free 2; have r0c3 := r0.cell 3; have r0f3 := r0.free 3; have r0c4 := r0.cell 4; have r0f4 := r0.free 4; have r0l := r0.lt; simp at r0c0 r0c1 r0c2 r0c3 r0c4; refine Blk.thru (b := (w.heap.size + 1)) (arr := ?_) (t := ?_) ?_ hb2 ?_; rotate_left 2; (focus (exact blk)); intro r1; have r1c0 := r1.cell 0; have r1f0 := r1.free 0; have r1c1 := r1.cell 1; have r1f1 := r1.free 1; have r1c2 := r1.cell 2; have r1f2 := r1.free 2; have r1c3 := r1.cell 3; have r1f3 := r1.free 3; have r1c4 := r1.cell 4; have r1f4 := r1.free 4; have r1l := r1.lt; simp at r1c0 r1c1 r1c2 r1c3 r1c4; refine Blk.thru (b := (w.heap.size + 1 + 1)) (arr := ?_) (t := ?_) ?_ hb2 ?_; rotate_left 2; (focus (exact blk)); intro r3; have r3c0 := r3.cell 0; have r3f0 := r3.free 0; have r3c1 := r3.cell 1; have r3f1 := r3.free 1; have r3c2 := r3.cell 2; have r3f2 := r3.free 2; have r3c3 := r3.cell 3; have r3f3 := r3.free 3; have r3l := r3.lt; simp at r3c0 r3c1 r3c2 r3c3) | (go_at_call 79; (with_reducible refine (r_acts a c e d p _ (hx.later (by (exact kpt)) (Nat.le_refl _)) hc hM (hy.later (by (exact kpt)) (Nat.le_refl _)) hd hN h1 h2 hp).mono ?_); rintro z w3 ⟨va, rfl, hoa, hb3⟩; obtain ⟨ada, cpa, rfl, hra, hca, hma⟩ := owns_row (enc := Deed.cells) (k := 2) deed_len hoa; refine Blk.thru (b := w.heap.size) (arr := ?_) (t := ?_) ?_ hb3 ?_; rotate_left 2; (focus (exact blk)); intro r0; have r0c0 := r0.cell 0; have r0f0 := r0.free 0; have r0c1 := r0.cell 1; have r0f1 := r0.free 1; have r0c2 := r0.cell 2; have r0f2 := r0.free 2; have r0c3 := r0.cell 3; have r0f3 := r0.free 3; have r0c4 := r0.cell 4; have r0f4 := r0.free 4; have r0l := r0.lt; simp at r0c0 r0c1 r0c2 r0c3 r0c4; refine Blk.thru (b := (w.heap.size + 1)) (arr := ?_) (t := ?_) ?_ hb3 ?_; rotate_left 2; (focus (exact blk)); intro r1; have r1c0 := r1.cell 0; have r1f0 := r1.free 0; have r1c1 := r1.cell 1; have r1f1 := r1.free 1; have r1c2 := r1.cell 2; have r1f2 := r1.free 2; have r1c3 := r1.cell 3; have r1f3 := r1.free 3; have r1c4 := r1.cell 4; have r1f4 := r1.free 4; have r1l := r1.lt; simp at r1c0 r1c1 r1c2 r1c3 r1c4; refine Blk.thru (b := (w.heap.size + 1 + 1)) (arr := ?_) (t := ?_) ?_ hb3 ?_; rotate_left 2; (focus (exact blk)); intro r3; have r3c0 := r3.cell 0; have r3f0 := r3.free 0; have r3c1 := r3.cell 1; have r3f1 := r3.free 1; have r3c2 := r3.cell 2; have r3f2 := r3.free 2; have r3c3 := r3.cell 3; have r3f3 := r3.free 3; have r3l := r3.lt; simp at r3c0 r3c1 r3c2 r3c3))
  refine at_world (S := fun V => Blk V w.heap.size #[.slice a p.axes.length c, .int .i64 p.people, .int .i64 p.most, .slice e p.pulls.length d, .int .i64 p.cross] 45 ∧ Blk V (w.heap.size + 1) #[.int .u8 b.ship, .int .i64 b.axis, .int .i64 b.held, .bool b.wire, .bool b.opn] 59 ∧ Blk V (w.heap.size + 1 + 1) #[.int .i64 wd.xlo, .int .i64 wd.xhi, .int .i64 wd.ylo, .int .i64 wd.yhi] 25 ∧ V.ownsRow w.heap.size 61 2 (.slice ada (actsOf (numsR p)).length cpa) (actsOf (numsR p)).length ((actsOf (numsR p)).flatMap Deed.cells) ∧ Kept w V) ⟨by (exact blk), by (exact blk), by (exact blk), owns_base hoa (Kept.size (by (exact kpt))), by (exact kpt)⟩ ?_
  clear r0 r1 r3
  rintro W ⟨r0, r1, r3, hra, hk⟩
  have r1c0 := r1.cell 0
  have r1f0 := r1.free 0
  have r1c1 := r1.cell 1
  have r1f1 := r1.free 1
  have r1c2 := r1.cell 2
  have r1f2 := r1.free 2
  have r1c3 := r1.cell 3
  have r1f3 := r1.free 3
  have r1c4 := r1.cell 4
  have r1f4 := r1.free 4
  have r1l := r1.lt
  simp at r1c0 r1c1 r1c2 r1c3 r1c4
  have hsW := hk.size
  have HO1 := Lib.hid (owns_one (base := w.heap.size) (k := 5) (e := 59) (us := Berth.cells b) (w := W) rfl hsW rfl)
  go_wp2
  go_loopw [12, 13, 14] (fun s12 s13 s14 wr => ∃ (L : List (Berth × List Deed)) (Ps : List Value) (h : Nat), h ≤ L.length ∧ s14 = .int .i64 (h : Int) ∧ Search (stepB p wd) 4096 codeD (actsOf (numsR p)) b L h 0 ∧ (∀ q ∈ L, goalB ship q.1 = false) ∧ wr.ownsRow w.heap.size 59 5 s12 (L).length (((L).map fun q => q.1).flatMap Berth.cells) ∧ wr.ownsRow w.heap.size 79 1 s13 (L).length (Ps.flatMap vcell) ∧ Paths w.heap.size wr L Ps ∧ Blk wr w.heap.size #[.slice a p.axes.length c, .int .i64 p.people, .int .i64 p.most, .slice e p.pulls.length d, .int .i64 p.cross] 45 ∧ Blk wr (w.heap.size + 1 + 1) #[.int .i64 wd.xlo, .int .i64 wd.xhi, .int .i64 wd.ylo, .int .i64 wd.yhi] 25 ∧ wr.ownsRow w.heap.size 61 2 (.slice ada (actsOf (numsR p)).length cpa) (actsOf (numsR p)).length ((actsOf (numsR p)).flatMap Deed.cells) ∧ Kept w wr) (fun _ _ i _ => 154369 - (intOf i).toNat)
  case atStart =>
    refine ⟨[(b, [])], [.slice none 0 0], 0, Nat.zero_le _, rfl, HS0.out, ?_, ?_, ?_, ?_, ?_, ?_, ?_, ?_⟩
    · intro q hq; obtain rfl := List.mem_singleton.1 hq; exact HG0.out
    · exact HO1.out.alloc _
    · exact owns_one (us := [.slice none 0 0]) (by simp) (by simp; omega) rfl
    · exact ⟨rfl, fun i hi hp => by
        have : i = 0 := by simpa using hi
        subst this
        exact owns_nil (α := Deed) (enc := Deed.cells)⟩
    · (exact blk)
    · (exact blk)
    · exact (hra.alloc _).alloc _
    · (exact kpt)
  case round =>
    clear hra hk r0 r1 r3 HS0 HO1 r1c0 r1f0 r1c1 r1f1 r1c2 r1f2 r1c3 r1f3 r1c4 r1f4 r1l
    obtain ⟨L, Ps, h, hh, rfl, I, hno, hof, hop, hpa, r0, r3, hra, hk⟩ := hrel
    have hsz := hk.size
    have hfew := I.few hp hs0 HVB.out
    obtain ⟨adf, cpf, rfl, hrf, hcf, hmf⟩ := owns_row (enc := Berth.cells) (k := 5) (xs := L.map fun q => q.1) berth_len (by rw [List.length_map]; exact hof)
    simp only [List.length_map] at hcf hof ⊢
    by_cases hlt : h < L.length
    · clear hrf hcf hmf hfew
      have r0c0 := r0.cell 0
      have r0f0 := r0.free 0
      have r0c1 := r0.cell 1
      have r0f1 := r0.free 1
      have r0c2 := r0.cell 2
      have r0f2 := r0.free 2
      have r0c3 := r0.cell 3
      have r0f3 := r0.free 3
      have r0c4 := r0.cell 4
      have r0f4 := r0.free 4
      have r0l := r0.lt
      simp at r0c0 r0c1 r0c2 r0c3 r0c4
      have r3c0 := r3.cell 0
      have r3f0 := r3.free 0
      have r3c1 := r3.cell 1
      have r3f1 := r3.free 1
      have r3c2 := r3.cell 2
      have r3f2 := r3.free 2
      have r3c3 := r3.cell 3
      have r3f3 := r3.free 3
      have r3l := r3.lt
      simp at r3c0 r3c1 r3c2 r3c3
      go_wp2
      go_loopw [12, 13, 15] (fun s12 s13 s15 wq => ∃ (L : List (Berth × List Deed)) (Ps : List Value) (k : Nat), h < L.length ∧ k ≤ NA ∧ s15 = .int .i64 (k : Int) ∧ Search (stepB p wd) 4096 codeD (actsOf (numsR p)) b L h k ∧ (∀ q ∈ L, goalB ship q.1 = false) ∧ wq.ownsRow w.heap.size 59 5 s12 (L).length (((L).map fun q => q.1).flatMap Berth.cells) ∧ wq.ownsRow w.heap.size 79 1 s13 (L).length (Ps.flatMap vcell) ∧ Paths w.heap.size wq L Ps ∧ Blk wq w.heap.size #[.slice a p.axes.length c, .int .i64 p.people, .int .i64 p.most, .slice e p.pulls.length d, .int .i64 p.cross] 45 ∧ Blk wq (w.heap.size + 1 + 1) #[.int .i64 wd.xlo, .int .i64 wd.xhi, .int .i64 wd.ylo, .int .i64 wd.yhi] 25 ∧ wq.ownsRow w.heap.size 61 2 (.slice ada (actsOf (numsR p)).length cpa) (actsOf (numsR p)).length ((actsOf (numsR p)).flatMap Deed.cells) ∧ Kept w wq) (fun _ _ i _ => NA - (intOf i).toNat)
      case atStart => exact ⟨L, Ps, 0, hlt, Nat.zero_le _, rfl, I, hno, hof, hop, hpa, r0, r3, hra, hk⟩
      case round =>
        clear hlt hh I hno hof hop hpa hra hk r0 r3 hsz r0c0 r0f0 r0c1 r0f1 r0c2 r0f2 r0c3 r0f3 r0c4 r0f4 r3c0 r3f0 r3c1 r3f1 r3c2 r3f2 r3c3 r3f3 r0l r3l
        obtain ⟨L, Ps, k, hlt, hkl, rfl, I, hno, hof, hop, hpa, r0, r3, hra, hk⟩ := hrel
        have hsz := hk.size
        have hfew := I.few hp hs0 HVB.out
        obtain ⟨adf, cpf, rfl, hrf, hcf, hmf⟩ := owns_row (enc := Berth.cells) (k := 5) (xs := L.map fun q => q.1) berth_len (by rw [List.length_map]; exact hof)
        simp only [List.length_map] at hcf hof ⊢
        by_cases hkt : k < NA
        · have hkA : k < (actsOf (numsR p)).length := by rw [← HNA.out]; exact hkt
          have hlen := hpa.len
          obtain ⟨adp, cpp, rfl, hrp, hcp, hmp⟩ := owns_row (enc := vcell) (k := 1) (xs := Ps) (fun _ => rfl) (by rw [hlen]; exact hop)
          simp only [hlen] at hcp hop ⊢
          have hpl : h < Ps.length := by rw [hlen]; exact hlt
          obtain ⟨bp, ofp, hadp, hbp, hcell⟩ := hrp h Ps[h] (by simp [hpl])
          have p0 := hcell 0 _ rfl
          have hlh := I.lens HC.out h hlt
          have hml : h < (L.map fun q => q.1).length := by rw [List.length_map]; exact hlt
          obtain ⟨bb, off, rfl, hbb, g0, g1, g2, g3, g4⟩ := Berth.row hrf h hml
          have hrra : Row Deed.cells 2 wr.heap.size wr ada (actsOf (numsR p)) := by obtain ⟨x, y, e, r, _⟩ := owns_row (enc := Deed.cells) (k := 2) deed_len hra; cases e; exact r
          obtain ⟨ba, ofa, hada, hba, j0, j1⟩ := Deed.row hrra k hkA
          obtain ⟨hq0, hqv⟩ := I.valid hs0 HVB.out _ (List.getElem_mem hlt)
          have hkb := (mem_acts.1 (List.getElem_mem hkA)).1
          have HSK := Lib.hid (fun hs => I.skip HC.out hlt hkA hs)
          have HPU := Lib.hid (fun y hy hn => I.push HC.out hlt hkA (y := y) hy hn)
          have HAT := Lib.hid (fun y hy hg => I.at_act HC.out hlt hkA (goal := goalB ship) (y := y) hy hg hno)
          have HPW := Lib.hid (hpa.at_ h hlt (by rw [hpa.len]; exact hlt))
          simp only [List.getElem_map] at g0 g1 g2 g3 g4
          obtain ⟨pq, hpq⟩ : ∃ y, y = L[h].2 := ⟨_, rfl⟩
          rw [← hpq] at hlh
          obtain ⟨bq, hbq⟩ : ∃ y, y = L[h].1 := ⟨_, rfl⟩
          obtain ⟨dd, hdd⟩ : ∃ y, y = (actsOf (numsR p))[k] := ⟨_, rfl⟩
          rw [← hbq] at g0 g1 g2 g3 g4 hq0 hqv
          rw [← hdd] at j0 j1 hkb
          simp only [← hbq, ← hdd, ← hpq] at HSK HPU HAT HPW
          clear hbq hdd hpq hcell
          obtain ⟨adq, cpq, hPv, hrq, hcq, hmq⟩ := owns_row (enc := Deed.cells) (k := 2) deed_len HPW.out
          have hzq := owns_none (hPv ▸ HPW.out)
          rw [hPv] at p0
          have hk0 : 0 ≤ dd.kind ∧ dd.kind ≤ 255 := by omega
          obtain ⟨DB, hDB⟩ : ∃ x, doB p bq ⟨dd, wd⟩ = x := ⟨_, rfl⟩
          obtain ⟨DE, hDE⟩ : ∃ x, doE p bq ⟨dd, wd⟩ = x := ⟨_, rfl⟩
          obtain ⟨DR, hDR⟩ : ∃ x, doRule p bq ⟨dd, wd⟩ = x := ⟨_, rfl⟩
          have HSB := Lib.hid (show 0 ≤ DB.ship by rw [← hDB]; exact doB_ship hq0)
          have hst : stepB p wd bq dd = if DE = 0 then some DB else none := by unfold stepB; rw [hDB, hDE]
          rw [hst] at HSK HPU HAT
          have HDB := Lib.hid hDB
          have HDE := Lib.hid hDE
          have HDR := Lib.hid hDR
          clear hDB hDE hDR hst
          have i0 : (0 : Int) ≤ (h : Int) := by omega
          have i1 : (h : Int) < (L.length : Int) := by omega
          have i2 : (0 : Int) ≤ (k : Int) := by omega
          have i3 : (k : Int) < ((actsOf (numsR p)).length : Int) := by omega
          subst hada hadp
          go_upto_region 18 with fail
          have r0k0 : ∀ w', Kept wr w' → w'.cell? ⟨w.heap.size, 0, none⟩ = some (.slice a p.axes.length c) := fun w' hkw => by simpa using (r0.keep hkw).cell 0
          have r0k1 : ∀ w', Kept wr w' → w'.cell? ⟨w.heap.size, 1, none⟩ = some (.int .i64 p.people) := fun w' hkw => by simpa using (r0.keep hkw).cell 1
          have r0k2 : ∀ w', Kept wr w' → w'.cell? ⟨w.heap.size, 2, none⟩ = some (.int .i64 p.most) := fun w' hkw => by simpa using (r0.keep hkw).cell 2
          have r0k3 : ∀ w', Kept wr w' → w'.cell? ⟨w.heap.size, 3, none⟩ = some (.slice e p.pulls.length d) := fun w' hkw => by simpa using (r0.keep hkw).cell 3
          have r0k4 : ∀ w', Kept wr w' → w'.cell? ⟨w.heap.size, 4, none⟩ = some (.int .i64 p.cross) := fun w' hkw => by simpa using (r0.keep hkw).cell 4
          have r3k0 : ∀ w', Kept wr w' → w'.cell? ⟨(w.heap.size + 1 + 1), 0, none⟩ = some (.int .i64 wd.xlo) := fun w' hkw => by simpa using (r3.keep hkw).cell 0
          have r3k1 : ∀ w', Kept wr w' → w'.cell? ⟨(w.heap.size + 1 + 1), 1, none⟩ = some (.int .i64 wd.xhi) := fun w' hkw => by simpa using (r3.keep hkw).cell 1
          have r3k2 : ∀ w', Kept wr w' → w'.cell? ⟨(w.heap.size + 1 + 1), 2, none⟩ = some (.int .i64 wd.ylo) := fun w' hkw => by simpa using (r3.keep hkw).cell 2
          have r3k3 : ∀ w', Kept wr w' → w'.cell? ⟨(w.heap.size + 1 + 1), 3, none⟩ = some (.int .i64 wd.yhi) := fun w' hkw => by simpa using (r3.keep hkw).cell 3
          have y0 : ∀ w', Kept wr w' → w'.cell? ⟨bb, off + h * 5, none⟩ = some (.int .u8 bq.ship) := fun w' hkw => (by rw [hkw.cell (p := ⟨bb, off + h * 5, none⟩) hbb]; exact g0)
          have y1 : ∀ w', Kept wr w' → w'.cell? ⟨bb, off + h * 5 + 1, none⟩ = some (.int .i64 bq.axis) := fun w' hkw => (by rw [hkw.cell (p := ⟨bb, off + h * 5 + 1, none⟩) hbb]; exact g1)
          have y2 : ∀ w', Kept wr w' → w'.cell? ⟨bb, off + h * 5 + 2, none⟩ = some (.int .i64 bq.held) := fun w' hkw => (by rw [hkw.cell (p := ⟨bb, off + h * 5 + 2, none⟩) hbb]; exact g2)
          have y3 : ∀ w', Kept wr w' → w'.cell? ⟨bb, off + h * 5 + 3, none⟩ = some (.bool bq.wire) := fun w' hkw => (by rw [hkw.cell (p := ⟨bb, off + h * 5 + 3, none⟩) hbb]; exact g3)
          have y4 : ∀ w', Kept wr w' → w'.cell? ⟨bb, off + h * 5 + 4, none⟩ = some (.bool bq.opn) := fun w' hkw => (by rw [hkw.cell (p := ⟨bb, off + h * 5 + 4, none⟩) hbb]; exact g4)
          have z0 : ∀ w', Kept wr w' → w'.cell? ⟨ba, ofa + k * 2, none⟩ = some (.int .u8 dd.kind) := fun w' hkw => (by rw [hkw.cell (p := ⟨ba, ofa + k * 2, none⟩) hba]; exact j0)
          have z1 : ∀ w', Kept wr w' → w'.cell? ⟨ba, ofa + k * 2 + 1, none⟩ = some (.int .i64 dd.n) := fun w' hkw => (by rw [hkw.cell (p := ⟨ba, ofa + k * 2 + 1, none⟩) hba]; exact j1)
          have l0 := r0.lt
          have l3 := r3.lt
          go_cut [16, 17, 18] (fun s16 s17 s18 wx => ∃ nb, s16 = .pointer (some ⟨nb, 0, none⟩) ∧ s17 = .int .i64 DR ∧ s18 = .int .i64 DE ∧ wr.heap.size ≤ nb ∧ Blk wx nb #[.int .u8 DB.ship, .int .i64 DB.axis, .int .i64 DB.held, .bool DB.wire, .bool DB.opn] 59 ∧ Kept wr wx)
          case first =>
            clear g0 g1 g2 g3 g4 j0 j1
            go_region_held3 (fun w' => Kept wr w') (exact kpt) (first | (go_at_call 24; (with_reducible refine (r_Do a c e d p _ (hx.later (by (exact kpt)) (Nat.le_refl _)) hc hM (hy.later (by (exact kpt)) (Nat.le_refl _)) hd hN h1 h2 bq hq0 ⟨dd, wd⟩ hk0).mono ?_); rw [HDB.out, HDE.out, HDR.out]; rintro z w5 ⟨rfl, hb5⟩; (first | (refine Blk.thru (b := wr.heap.size) (arr := #[.int .u8 0, .int .i64 0, .int .i64 0, .bool false, .bool false]) (t := 59) ?_ hb5 ?_; (focus (first | with_reducible assumption | (refine Blk.new' ?_; (focus (simp; done))) | (refine Blk.drew (Blk.new' ?_); (focus (simp; done))) | (refine Blk.alloc (Blk.new' ?_) _; (focus (simp; done))) | (refine Blk.drew (Blk.alloc (Blk.new' ?_) _); (focus (simp; done))) | (refine Blk.alloc (Blk.drew (Blk.new' ?_)) _; (focus (simp; done))) | (refine Blk.alloc ?_ _; with_reducible assumption) | (refine Blk.drew ?_; with_reducible assumption) | (refine Blk.drew (Blk.alloc ?_ _); with_reducible assumption) | fail)); intro tz; have tzc0 := tz.cell 0; have tzf0 := tz.free 0; have tzc1 := tz.cell 1; have tzf1 := tz.free 1; have tzc2 := tz.cell 2; have tzf2 := tz.free 2; have tzc3 := tz.cell 3; have tzf3 := tz.free 3; have tzc4 := tz.cell 4; have tzf4 := tz.free 4; have tzl := tz.lt; simp at tzc0 tzc1 tzc2 tzc3 tzc4) | skip)) | fail)
            all_goals (go_wp2_with fail; go_meet)
            all_goals
              refine ⟨_, rfl, rfl, rfl, ?_, ?_, ?_⟩
              · first | exact Nat.le_refl _ | (simp; done) | exact Kept.size (by assumption) | (refine Kept.size ?_; (exact kpt)) | (simp; omega)
              · (refine Blk.cast (arr := ?_) ?_ ?_; rotate_left 1; (focus (exact blk)); (first | with_reducible rfl | (simp; done) | rfl))
              · (exact kpt)
          case rest =>
            have HJ0 := Lib.hid j0
            have HJ1 := Lib.hid j1
            clear g0 g1 g2 g3 g4 j0 j1 r0k0 r0k1 r0k2 r0k3 r0k4 r3k0 r3k1 r3k2 r3k3 y0 y1 y2 y3 y4 z0 z1
            obtain ⟨nb, rfl, rfl, rfl, hnb, rn, hkx⟩ := hcut
            have hk2 : Kept w wc := Kept.drop hk hkx
            have rnc0 := rn.cell 0
            have rnc1 := rn.cell 1
            have rnc2 := rn.cell 2
            have rnc3 := rn.cell 3
            have rnc4 := rn.cell 4
            have rnf0 := rn.free 0
            have rnf1 := rn.free 1
            have rnf2 := rn.free 2
            have rnf3 := rn.free 3
            have rnf4 := rn.free 4
            have rnl := rn.lt
            simp at rnc0 rnc1 rnc2 rnc3 rnc4
            by_cases he : DE = 0
            · subst he
              rw [if_pos rfl] at HSK HPU HAT
              by_cases hin : DB ∈ L.map fun q => q.1
              · have HKN := Lib.hid (fun (V : World) (hV : Kept wr V) => (by
                  have := r_known (some ⟨bb, off, none⟩) cpf (L.map fun q => q.1) DB V (hrf.later hV (Nat.le_refl _)) (by rw [List.length_map]; exact hcf) hmf
                  rw [List.length_map, decide_eq_true hin] at this
                  exact this : Calls Try.prog 80 #[.slice (some ⟨bb, off, none⟩) L.length cpf, .agg #[.int .u8 DB.ship, .int .i64 DB.axis, .int .i64 DB.held, .bool DB.wire, .bool DB.opn]] V fun z w' => z = .returned (.bool true) ∧ Kept V w'))
                have I2 := HSK.out (fun y hy => by obtain rfl := Option.some.inj hy; obtain ⟨q, hq, e⟩ := List.mem_map.1 hin; exact ⟨q, hq, e⟩)
                clear HSK HPU HAT hin
                go_wp2_with (go_at_call 80; (with_reducible refine (HKN.out _ (by (exact kpt))).mono ?_); rintro z w6 ⟨rfl, hb6⟩; refine Blk.thru (b := nb) (arr := ?_) (t := ?_) ?_ hb6 ?_; rotate_left 2; (focus (exact blk)); intro rn; have rnc0 := rn.cell 0; have rnf0 := rn.free 0; have rnc1 := rn.cell 1; have rnf1 := rn.free 1; have rnc2 := rn.cell 2; have rnf2 := rn.free 2; have rnc3 := rn.cell 3; have rnf3 := rn.free 3; have rnc4 := rn.cell 4; have rnf4 := rn.free 4; have rnl := rn.lt; simp at rnc0 rnc1 rnc2 rnc3 rnc4)
                go_roundw
                case rel => exact ⟨L, Ps, k + 1, hlt, by omega, by go_num, I2, hno, owns_keep hof (Kept.drop hkx hb6), owns_keep hop (Kept.drop hkx hb6), hpa.keep (Kept.drop hkx hb6), r0.keep (Kept.drop hkx hb6), r3.keep (Kept.drop hkx hb6), owns_keep hra (Kept.drop hkx hb6), Kept.drop hk2 hb6⟩
                case measure => simp [intOf]; omega
              · have HKN := Lib.hid (fun (V : World) (hV : Kept wr V) => (by
                  have := r_known (some ⟨bb, off, none⟩) cpf (L.map fun q => q.1) DB V (hrf.later hV (Nat.le_refl _)) (by rw [List.length_map]; exact hcf) hmf
                  rw [List.length_map, decide_eq_false hin] at this
                  exact this : Calls Try.prog 80 #[.slice (some ⟨bb, off, none⟩) L.length cpf, .agg #[.int .u8 DB.ship, .int .i64 DB.axis, .int .i64 DB.held, .bool DB.wire, .bool DB.opn]] V fun z w' => z = .returned (.bool false) ∧ Kept V w'))
                have HNI := Lib.hid (fun (q : Berth × List Deed) (hq : q ∈ L) => fun (e : q.1 = DB) => hin (List.mem_map.2 ⟨q, hq, e⟩))
                clear HSK hin
                go_upto_region 20 with (go_at_call 80; (with_reducible refine (HKN.out _ (by (exact kpt))).mono ?_); rintro z w6 ⟨rfl, hb6⟩; refine Blk.thru (b := nb) (arr := ?_) (t := ?_) ?_ hb6 ?_; rotate_left 2; (focus (exact blk)); intro rn; have rnc0 := rn.cell 0; have rnf0 := rn.free 0; have rnc1 := rn.cell 1; have rnf1 := rn.free 1; have rnc2 := rn.cell 2; have rnf2 := rn.free 2; have rnc3 := rn.cell 3; have rnf3 := rn.free 3; have rnc4 := rn.cell 4; have rnf4 := rn.free 4; have rnl := rn.lt; simp at rnc0 rnc1 rnc2 rnc3 rnc4)
                refine at_world (S := fun V => Blk V nb #[.int .u8 DB.ship, .int .i64 DB.axis, .int .i64 DB.held, .bool DB.wire, .bool DB.opn] 59 ∧ Kept wr V) ⟨by (exact blk), by (exact kpt)⟩ ?_
                clear rn rnc0 rnf0 rnc1 rnf1 rnc2 rnf2 rnc3 rnf3 rnc4 rnf4 rnl hkx hk2 hnb
                rintro V ⟨rn, hkv⟩
                have hk2 : Kept w V := Kept.drop hk hkv
                have hvs := hkv.size
                have hp1 : bp < V.heap.size := by omega
                have hp2 : bp < V.heap.size + 1 := by omega
                have ha1 : ba < V.heap.size := by omega
                have ha2 : ba < V.heap.size + 1 := by omega
                have p1 : V.cell? ⟨bp, ofp + h, none⟩ = some (.slice adq pq.length cpq) := (by rw [hkv.cell (p := ⟨bp, ofp + h, none⟩) hbp]; simpa using p0)
                have z0 : V.cell? ⟨ba, ofa + k * 2, none⟩ = some (.int .u8 dd.kind) := (by rw [hkv.cell (p := ⟨ba, ofa + k * 2, none⟩) hba]; exact HJ0.out)
                have z1 : V.cell? ⟨ba, ofa + k * 2 + 1, none⟩ = some (.int .i64 dd.n) := (by rw [hkv.cell (p := ⟨ba, ofa + k * 2 + 1, none⟩) hba]; exact HJ1.out)
                go_cut [19] (fun s19 wx => wx.ownsRow V.heap.size 61 2 s19 (pq ++ [dd]).length ((pq ++ [dd]).flatMap Deed.cells) ∧ Kept V wx)
                case first =>
                  have f1 : ∀ w', Kept V w' → w'.cell? ⟨bp, ofp + h, none⟩ = some (.slice adq pq.length cpq) := fun w' hkw => (by rw [hkw.cell (p := ⟨bp, ofp + h, none⟩) hp1]; exact p1)
                  have f2 : ∀ w', Kept V w' → w'.cell? ⟨ba, ofa + k * 2, none⟩ = some (.int .u8 dd.kind) := fun w' hkw => (by rw [hkw.cell (p := ⟨ba, ofa + k * 2, none⟩) ha1]; exact z0)
                  have f3 : ∀ w', Kept V w' → w'.cell? ⟨ba, ofa + k * 2 + 1, none⟩ = some (.int .i64 dd.n) := fun w' hkw => (by rw [hkw.cell (p := ⟨ba, ofa + k * 2 + 1, none⟩) ha1]; exact z1)
                  clear p1 z0 z1
                  refine tri_walk (fun w' => Kept V w') (fun u v x V3 => ∃ ad cp g, v = .slice ad pq.length cp ∧ x = .slice (some ⟨g, 0, none⟩) 1 1 ∧ V3.ownsRow V.heap.size 61 2 v pq.length (pq.flatMap Deed.cells) ∧ Blk V3 g #[.int .u8 dd.kind, .int .i64 dd.n] 61) [1, 2, 3, 4, 6, 7, 8, 9] 0 5 10 [(false, 11), (true, 12)] (by kernel_rfl) (by kernel_rfl) (fun c a d v w h => by cases d <;> exact h) (Below.drew (Below.refl _ _)) ?_
                  simp only [List.filterMap_cons, List.filterMap_nil, List.getElem?_cons_zero, List.getElem?_cons_succ, Option.map_some]
                  iterate 8 (refine taken_take ?_ ?_ (fun w' hS => ?_) ?_; rotate_left 1; (focus rfl); (focus (have y1 := f1 _ hS; have y2 := f2 _ hS; have y3 := f3 _ hS; first | (go_simp; done) | (go_simp; with_reducible rfl))); simp only [Act.put, List.setIfInBounds_toArray, List.set_cons_zero, List.set_cons_succ])
                  refine taken_nil ?_
                  intro oi oj ok hoi hoj hok
                  simp only [Option.some.injEq] at hoi hoj hok
                  subst hoi hoj hok
                  refine ⟨?_, ?_, ?_⟩
                  · refine next_plain rfl fun K1 Q1 hK1 => ?_; go_wp2; refine hK1.out _ _ (by (exact kpt)) ⟨?_, ?_⟩
                    · refine wpList_step1 rfl ?_
                      refine step_copyG (enc := Deed.cells) (w0 := V) rfl _ _ 79 rfl 61 (.agg #[.int .u8 0, .int .i64 0]) 2 16 Try.underlying79 infoDeed rfl (by decide) deed_len (fun x u hu => by simp [Deed.cells] at hu; rcases hu with rfl | rfl <;> rfl) (.slice (some ⟨_, 0, none⟩) 0 0) (by first | rfl | (simp only [Act.eval, Act.put]; rfl)) (by (repeat (first | (with_reducible refine owns_made ?_ ?_; rotate_left 1; (focus (first | exact Nat.le_refl _ | (simp; done) | (simp; omega))); (focus (first | rfl | (simp; done)))) | with_reducible refine World.ownsRow.drew ?_ | with_reducible refine World.ownsRow.alloc ?_ _))) adq cpq pq (by rfl) hzq (hrq.later hkv (Nat.le_refl _)) (by (exact kpt)) (by omega) (by decide) ?_; intro v8 w8 ho8 hg8 hk8; have ha8 : ba < w8.heap.size := Nat.lt_of_lt_of_le ha1 hk8.size; have q0 : w8.cell? ⟨ba, ofa + k * 2, none⟩ = some (.int .u8 dd.kind) := f2 _ hk8; have q1 : w8.cell? ⟨ba, ofa + k * 2 + 1, none⟩ = some (.int .i64 dd.n) := f3 _ hk8; skip; obtain ⟨ad8, cp8, rfl, _⟩ := owns_row (enc := Deed.cells) (k := 2) deed_len ho8
                      refine next_on hk8 ?_
                      refine next_plain rfl fun K2 Q2 hK2 => ?_; go_wp2; refine hK2.out _ _ (by (exact kpt)) ?_
                      exact ⟨_, _, _, rfl, ad8, cp8, _, rfl, rfl, by (repeat (first | with_reducible exact ho8 | with_reducible refine World.ownsRow.drew ?_ | with_reducible refine World.ownsRow.alloc ?_ _)), by (exact blk)⟩
                    · refine next_plain rfl fun K2 Q2 hK2 => ?_; go_wp2; refine hK2.out _ _ (by (exact kpt)) ?_
                      refine wpList_step1 rfl ?_
                      refine step_copyG (enc := Deed.cells) (w0 := V) rfl _ _ 79 rfl 61 (.agg #[.int .u8 0, .int .i64 0]) 2 16 Try.underlying79 infoDeed rfl (by decide) deed_len (fun x u hu => by simp [Deed.cells] at hu; rcases hu with rfl | rfl <;> rfl) (.slice (some ⟨_, 0, none⟩) 0 0) (by first | rfl | (simp only [Act.eval, Act.put]; rfl)) (by (repeat (first | (with_reducible refine owns_made ?_ ?_; rotate_left 1; (focus (first | exact Nat.le_refl _ | (simp; done) | (simp; omega))); (focus (first | rfl | (simp; done)))) | with_reducible refine World.ownsRow.drew ?_ | with_reducible refine World.ownsRow.alloc ?_ _))) adq cpq pq (by rfl) hzq (hrq.later hkv (Nat.le_refl _)) (by (exact kpt)) (by omega) (by decide) ?_; intro v8 w8 ho8 hg8 hk8; have ha8 : ba < w8.heap.size := Nat.lt_of_lt_of_le ha1 hk8.size; have q0 : w8.cell? ⟨ba, ofa + k * 2, none⟩ = some (.int .u8 dd.kind) := f2 _ hk8; have q1 : w8.cell? ⟨ba, ofa + k * 2 + 1, none⟩ = some (.int .i64 dd.n) := f3 _ hk8; (first | (refine thruG (m := (V.heap.size + 1)) (arr := #[.int .u8 dd.kind, .int .i64 dd.n]) (t := 61) ?_ ?_ hg8 ?_; (focus (first | (refine Blk.new' ?_; (focus (simp; done))) | (refine Blk.alloc (Blk.new' ?_) _; (focus (simp; done))) | fail)); (focus (simp [Value.ownBlock]; done)); intro hm8) | skip); obtain ⟨ad8, cp8, rfl, _⟩ := owns_row (enc := Deed.cells) (k := 2) deed_len ho8
                      refine next_on hk8 ?_
                      exact ⟨_, _, _, rfl, ad8, cp8, _, rfl, rfl, ho8, hm8⟩
                  · refine next_plain rfl fun K1 Q1 hK1 => ?_; go_wp2; refine hK1.out _ _ (by (exact kpt)) ?_
                    refine next_plain rfl fun K2 Q2 hK2 => ?_; go_wp2; refine hK2.out _ _ (by (exact kpt)) ?_
                    refine wpList_step1 rfl ?_
                    refine step_copyG (enc := Deed.cells) (w0 := V) rfl _ _ 79 rfl 61 (.agg #[.int .u8 0, .int .i64 0]) 2 16 Try.underlying79 infoDeed rfl (by decide) deed_len (fun x u hu => by simp [Deed.cells] at hu; rcases hu with rfl | rfl <;> rfl) (.slice (some ⟨_, 0, none⟩) 0 0) (by first | rfl | (simp only [Act.eval, Act.put]; rfl)) (by (repeat (first | (with_reducible refine owns_made ?_ ?_; rotate_left 1; (focus (first | exact Nat.le_refl _ | (simp; done) | (simp; omega))); (focus (first | rfl | (simp; done)))) | with_reducible refine World.ownsRow.drew ?_ | with_reducible refine World.ownsRow.alloc ?_ _))) adq cpq pq (by rfl) hzq (hrq.later hkv (Nat.le_refl _)) (by (exact kpt)) (by omega) (by decide) ?_; intro v8 w8 ho8 hg8 hk8; have ha8 : ba < w8.heap.size := Nat.lt_of_lt_of_le ha1 hk8.size; have q0 : w8.cell? ⟨ba, ofa + k * 2, none⟩ = some (.int .u8 dd.kind) := f2 _ hk8; have q1 : w8.cell? ⟨ba, ofa + k * 2 + 1, none⟩ = some (.int .i64 dd.n) := f3 _ hk8; (first | (refine thruG (m := V.heap.size) (arr := #[.int .u8 dd.kind, .int .i64 dd.n]) (t := 61) ?_ ?_ hg8 ?_; (focus (first | (refine Blk.new' ?_; (focus (simp; done))) | (refine Blk.alloc (Blk.new' ?_) _; (focus (simp; done))) | fail)); (focus (simp [Value.ownBlock]; done)); intro hm8) | skip); obtain ⟨ad8, cp8, rfl, _⟩ := owns_row (enc := Deed.cells) (k := 2) deed_len ho8
                    refine next_on hk8 ?_
                    exact ⟨_, _, _, rfl, ad8, cp8, _, rfl, rfl, ho8, hm8⟩
                  intro u v x w3 hS3 hR
                  obtain ⟨ad8, cp8, g8, rfl, rfl, ho8, hm8⟩ := hR
                  simp only [Act.put, List.setIfInBounds_toArray, List.set_cons_zero, List.set_cons_succ]
                  refine held_one ?_
                  refine wpList_step1 rfl ?_
                  refine step_push rfl _ _ 79 rfl V.heap.size 61 (.agg #[.int .u8 0, .int .i64 0]) 2 16 Try.underlying79 infoDeed rfl (by decide) _ pq.length (pq.flatMap Deed.cells) (by rfl) ho8 _ [.int .u8 dd.kind, .int .i64 dd.n] 61 (by rfl) rfl hm8 (fun u hu => by simp at hu; rcases hu with rfl | rfl <;> rfl) (by omega) (by decide) hS3.size ?_; intro v9 w9 ho9 hg9; have hk9 : Kept V w9 := Kept.grown hS3 ho8 (Nat.le_refl _) hg9
                  refine held_on hk9 ?_
                  simp only [Act.put, List.setIfInBounds_toArray, List.set_cons_zero, List.set_cons_succ]
                  refine held_take ?_ ?_ (fun w' hS => ?_) ?_; rotate_left 1; (focus rfl); (focus (skip; first | (go_simp; done) | (go_simp; with_reducible rfl)))
                  simp only [Act.put, List.setIfInBounds_toArray, List.set_cons_zero, List.set_cons_succ]
                  refine held_nil ?_
                  go_wp2_with fail
                  go_meet
                  exact ⟨by rw [List.flatMap_append, List.length_append]; exact ho9, hk9⟩
                case rest =>
                  clear p1 z0 z1 hp1 hp2 ha1 ha2
                  obtain ⟨ho9, hk9⟩ := hcut
                  obtain ⟨ad9, cp9, rfl, hr9, hc9, hm9⟩ := owns_row (enc := Deed.cells) (k := 2) deed_len ho9
                  have hkx : Kept wr wc := Kept.drop hkv hk9
                  have hk4 : Kept w wc := Kept.drop hk hkx
                  have hs4 := hk4.size
                  have hV4 := hk2.size
                  have rn2 := rn.keep hk9
                  clear rn
                  have rn := rn2
                  clear rn2
                  have rnc0 := rn.cell 0
                  have rnc1 := rn.cell 1
                  have rnc2 := rn.cell 2
                  have rnc3 := rn.cell 3
                  have rnc4 := rn.cell 4
                  have rnf0 := rn.free 0
                  have rnf1 := rn.free 1
                  have rnf2 := rn.free 2
                  have rnf3 := rn.free 3
                  have rnf4 := rn.free 4
                  have rnl := rn.lt
                  simp at rnc0 rnc1 rnc2 rnc3 rnc4
                  by_cases hsp : DB.ship = ship
                  · have e1 : (DB.ship == ship) = true := by simp [hsp]
                    have HL := Lib.hid (HAT.out DB rfl (by unfold goalB; exact decide_eq_true hsp))
                    clear HAT HPU hsp
                    go_wp2
                    exact bodyPost_ret (v := .tuple #[.slice ad9 (pq ++ [dd]).length cp9, .int .i64 0]) (by simp [results, Try.results33, go_sem]) rfl ⟨some (pq ++ [dd]), _, HL.out, rfl, owns_base ho9 hV4, by (exact kpt)⟩
                  · have e1 : (DB.ship == ship) = false := beq_eq_false_iff_ne.2 hsp
                    have I2 := HPU.out DB rfl HNI.out
                    have hno2 : ∀ q ∈ L ++ [(DB, pq ++ [dd])], goalB ship q.1 = false := fun q hq => by
                      rcases List.mem_append.1 hq with hq | hq
                      · exact hno q hq
                      · obtain rfl := List.mem_singleton.1 hq
                        unfold goalB; exact decide_eq_false hsp
                    clear HAT HPU HNI hsp
                    have of4 := owns_keep hof hkx
                    have op4 := owns_keep hop hkx
                    have oa4 := owns_keep hra hkx
                    have pa4 := hpa.keep hkx
                    have r04 := r0.keep hkx
                    have r34 := r3.keep hkx
                    have hle : (pq ++ [dd]).length = pq.length + 1 := by simp
                    have hp4 : wc.ownsRow V.heap.size 61 2 (.slice ad9 (pq.length + 1) cp9) (pq ++ [dd]).length ((pq ++ [dd]).flatMap Deed.cells) := by rw [← hle]; exact ho9
                    have HP4 := Lib.hid (owns_base hp4 hV4)
                    clear hp4 hle
                    go_wp2_with (first | (at_builtin; obtain ⟨i0, hi, hz0, hz1, hz2⟩ := info_parts infoBerth; refine wpList_append_own _ rfl _ _ 139 rfl w.heap.size 59 i0 (.agg #[.int .u8 0, .int .i64 0, .int .i64 0, .bool false, .bool false]) 5 32 Try.underlying139 hi hz0 hz1 hz2 rfl (by decide) _ _ _ rfl (of4.alloc _) ⟨_, 0, none⟩ 1 1 (Berth.cells DB) rfl rfl (cells_blk (Blk.new' rfl)) (fun x hx => by simp [Berth.cells] at hx; rcases hx with rfl | rfl | rfl | rfl | rfl <;> rfl) (by unfold maxLen; omega) (by omega) (by simp only [World.size_alloc]; omega) ?_; intro v10 w10 of10 hg10 hnil10; clear hi hz0 hz1 hz2; have op10 := owns_grown (op4.alloc _) (of4.alloc _) (by decide) hg10; have hk10 : Kept w w10 := Kept.grown (Kept.alloc hk4 _) (of4.alloc _) (Nat.le_refl _) hg10; have hs10 := hk10.size) | (at_builtin; obtain ⟨i0, hi, hz0, hz1, hz2⟩ := info_parts infoPath; refine wpList_append_own _ rfl _ _ 140 rfl w.heap.size 79 i0 (.slice none 0 0) 1 24 Try.underlying140 hi hz0 hz1 hz2 rfl (by decide) _ _ _ rfl (op10.alloc _) ⟨_, 0, none⟩ 1 1 [.slice ad9 (pq.length + 1) cp9] rfl rfl (cells_blk (Blk.new' rfl)) (fun x hx => by simp at hx; subst hx; rfl) (by unfold maxLen; omega) (by omega) (by simp only [World.size_alloc]; omega) ?_; intro v11 w11 op11 hg11 hnil11; clear hi hz0 hz1 hz2))
                    have hp10 := owns_grown (HP4.out.alloc _) (of4.alloc _) (by decide) hg10
                    have oa10 := owns_grown (oa4.alloc _) (of4.alloc _) (by decide) hg10
                    have pa10 := (pa4.keep (Kept.alloc (Below.refl _ _) _)).grown (of4.alloc _) (by decide) hg10
                    have r010 := Blk.grown (r04.alloc _) (of4.alloc _) (by decide) hg10
                    have r310 := Blk.grown (r34.alloc _) (of4.alloc _) (by decide) hg10
                    have hk11 : Kept w w11 := Kept.grown (Kept.alloc hk10 _) (op10.alloc _) (Nat.le_refl _) hg11
                    have of11 := owns_grown (of10.alloc _) (op10.alloc _) (by decide) hg11
                    have hp11 := owns_grown (hp10.alloc _) (op10.alloc _) (by decide) hg11
                    have oa11 := owns_grown (oa10.alloc _) (op10.alloc _) (by decide) hg11
                    have pa11 := (pa10.keep (Kept.alloc (Below.refl _ _) _)).grown (op10.alloc _) (by decide) hg11
                    have r011 := Blk.grown (r010.alloc _) (op10.alloc _) (by decide) hg11
                    have r311 := Blk.grown (r310.alloc _) (op10.alloc _) (by decide) hg11
                    go_roundw
                    case rel =>
                      refine ⟨L ++ [(DB, pq ++ [dd])], Ps ++ [.slice ad9 (pq.length + 1) cp9], k + 1, ?_, by omega, by go_num, I2, hno2, ?_, ?_, Paths.push pa11 hp11, r011, r311, oa11, hk11⟩
                      · rw [List.length_append]; omega
                      · rw [List.length_append, List.map_append, List.flatMap_append]; simpa using of11
                      · rw [List.length_append, List.flatMap_append]; simpa [vcell] using op11
                    case measure => simp [intOf]; omega
            · have heb : (DE == 0) = false := beq_eq_false_iff_ne.2 he
              have hen : (DE != 0) = true := by simp [he]
              have I2 := HSK.out (fun y hy => by rw [if_neg he] at hy; cases hy)
              clear HSK HPU HAT
              go_wp2
              go_roundw
              case rel => exact ⟨L, Ps, k + 1, hlt, by omega, by go_num, I2, hno, owns_keep hof hkx, owns_keep hop hkx, hpa.keep hkx, r0.keep hkx, r3.keep hkx, owns_keep hra hkx, hk2⟩
              case measure => simp [intOf]; omega
        · obtain rfl : NA = k := by omega
          have I2 : Search (stepB p wd) 4096 codeD (actsOf (numsR p)) b L (h + 1) 0 := by
            rw [HNA.out] at I
            exact I.next
          have r0c0 := r0.cell 0
          have r0f0 := r0.free 0
          have r0c1 := r0.cell 1
          have r0f1 := r0.free 1
          have r0c2 := r0.cell 2
          have r0f2 := r0.free 2
          have r0c3 := r0.cell 3
          have r0f3 := r0.free 3
          have r0c4 := r0.cell 4
          have r0f4 := r0.free 4
          have r0l := r0.lt
          simp at r0c0 r0c1 r0c2 r0c3 r0c4
          have r3c0 := r3.cell 0
          have r3f0 := r3.free 0
          have r3c1 := r3.cell 1
          have r3f1 := r3.free 1
          have r3c2 := r3.cell 2
          have r3f2 := r3.free 2
          have r3c3 := r3.cell 3
          have r3f3 := r3.free 3
          have r3l := r3.lt
          simp at r3c0 r3c1 r3c2 r3c3
          have u1 : ¬ (NA : Int) < ((actsOf (numsR p)).length : Int) := by rw [← HNA.out]; omega
          go_wp2
          go_roundw
          case rel => exact ⟨L, Ps, h + 1, by omega, by go_num, I2, hno, hof, hop, hpa, r0, r3, hra, hk⟩
          case measure => simp [intOf]; omega
    · obtain rfl : L.length = h := by omega
      have HE := Lib.hid (I.at_end HC.out hno)
      clear I hno hof hop hpa hra
      have r0c0 := r0.cell 0
      have r0f0 := r0.free 0
      have r0c1 := r0.cell 1
      have r0f1 := r0.free 1
      have r0c2 := r0.cell 2
      have r0f2 := r0.free 2
      have r0c3 := r0.cell 3
      have r0f3 := r0.free 3
      have r0c4 := r0.cell 4
      have r0f4 := r0.free 4
      have r0l := r0.lt
      simp at r0c0 r0c1 r0c2 r0c3 r0c4
      have r3c0 := r3.cell 0
      have r3f0 := r3.free 0
      have r3c1 := r3.cell 1
      have r3f1 := r3.free 1
      have r3c2 := r3.cell 2
      have r3f2 := r3.free 2
      have r3c3 := r3.cell 3
      have r3f3 := r3.free 3
      have r3l := r3.lt
      simp at r3c0 r3c1 r3c2 r3c3
      go_wp2
      exact bodyPost_ret (v := .tuple #[.slice none 0 0, .int .i64 6]) (by simp [results, Try.results33, go_sem]) rfl ⟨none, _, HE.out, rfl, owns_nil (α := Deed) (enc := Deed.cells), by (exact kpt)⟩

end Go.Proofs.Ytacbkbilbmkjnaa
