/-
  Facts about memory, lists and numbers that the walks use: no program in sight.
-/
import Derived.WalkKit
import Derived.WalkSpells
import Derived.WalkLawsBesides
import Derived.Lib.Hide
import Derived.ProofKit
import Derived.OpenShut
import Derived.ChangeOld
import Derived.Below
import Derived.Deep.Slices
import Derived.Deep.Fields
import Derived.Deep.Quiet
import Derived.Laws.AppendOwn
import Derived.Laws.AppendOwnNone
import Derived.Test.YtlloijkmpmfapaaProg
import Derived.Deep.QuietTactic
import Derived.BigQuiet
import Derived.StillTail
import Derived.WalkSmall
import Derived.OwnWalk
import Derived.Deep.RegionHeld3
import Derived.Deep.DeepCutAuto
import Derived.RangeFuncNested
import Derived.RangeFuncCalls
import Derived.RangeFuncLeaves
import Derived.RangeFuncBound
import Derived.Shelf.Abstract
import Derived.Shelf.RegionOpen
import Derived.OwnWalkIn
import Derived.TacticsInMore
import Derived.LoopNIn
import Derived.LoopIn
import Derived.Sort.QuietTacIn
import Derived.Scope
import Derived.ControlIn
import Derived.Laws.CopyOwn
import Derived.OrdersHeld
import Derived.Test.YtlloijkmpmfapaaTrimStowsMA
set_option linter.unusedVariables false
set_option linter.unusedSimpArgs false
/-
  Facts about memory, lists and numbers that the walks use: no program in sight.
-/
namespace Bal
open Go Go.RowKit Go.ChangeShapes Go.WideShapes

theorem ret_int {k : IntKind} {a b : Int} (h : a = b) : Ending.returned (.int k a) = .returned (.int k b) := by rw [h]
theorem ret_bool {a b : Bool} (h : a = b) : Ending.returned (.bool a) = .returned (.bool b) := by rw [h]

/-- What a call leaves alone: nothing that was there has changed. -/
abbrev Kept (w w' : World) : Prop := Below w.heap.size w w'

/-- The elements xs of a slice at address a, each of k cells, lie in blocks below B. -/
def Row {α : Type} (enc : α → List Value) (k B : Nat) (w : World) (a : Option Addr) (xs : List α) : Prop :=
  ∀ (i : Nat) (x : α), xs[i]? = some x → ∃ b off, a = some ⟨b, off, none⟩ ∧ b < B ∧ ∀ (j : Nat) (v : Value), (enc x)[j]? = some v → w.cell? ⟨b, off + i * k + j, none⟩ = some v

theorem Row.nil {α : Type} {enc : α → List Value} {k B : Nat} {w : World} {a : Option Addr} : Row enc k B w a [] := by
  intro i x h; simp at h

theorem Row.keep {α : Type} {enc : α → List Value} {k B C : Nat} {w w' : World} {a : Option Addr} {xs : List α} (h : Row enc k B w a xs) (hb : Below C w w') (hC : B ≤ C) : Row enc k B w' a xs := by
  intro i x hx
  obtain ⟨b, off, ha, hlt, hc⟩ := h i x hx
  exact ⟨b, off, ha, hlt, fun j v hj => by rw [hb.cell (p := ⟨b, off + i * k + j, none⟩) (show b < C by omega)]; exact hc j v hj⟩

theorem Row.up {α : Type} {enc : α → List Value} {k B C : Nat} {w : World} {a : Option Addr} {xs : List α} (h : Row enc k B w a xs) (hC : B ≤ C) : Row enc k C w a xs := by
  intro i x hx
  obtain ⟨b, off, ha, hlt, hc⟩ := h i x hx
  exact ⟨b, off, ha, by omega, hc⟩

/-- a row known below the heap of w, asked for in a later world w' -/
theorem Row.later {α : Type} {enc : α → List Value} {k B : Nat} {w w' : World} {a : Option Addr} {xs : List α} (h : Row enc k B w a xs) (hb : Below B w w') (hB : B ≤ w.heap.size) : Row enc k w'.heap.size w' a xs :=
  (h.keep hb (Nat.le_refl _)).up (Nat.le_trans hB hb.size)

theorem bcell {W w1 : World} (hb : Below W.heap.size W w1) : (∀ b o, b < W.heap.size → w1.cell? ⟨b, o, none⟩ = W.cell? ⟨b, o, none⟩) ∧ (∀ b o, b < W.heap.size → w1.frozen? ⟨b, o, none⟩ = W.frozen? ⟨b, o, none⟩) :=
  ⟨fun b o h => hb.cell (p := ⟨b, o, none⟩) h, fun b o h => hb.frozen (p := ⟨b, o, none⟩) h⟩

theorem Kept.size {w w' : World} (h : Kept w w') : w.heap.size ≤ w'.heap.size := Below.size h
/-- what a walk wants to know behind a contract -/
theorem bcell3 {W w1 : World} (hb : Below W.heap.size W w1) : (∀ b o, b < W.heap.size → w1.cell? ⟨b, o, none⟩ = W.cell? ⟨b, o, none⟩) ∧ (∀ b o, b < W.heap.size → w1.frozen? ⟨b, o, none⟩ = W.frozen? ⟨b, o, none⟩) ∧ ∀ n, n < W.heap.size → n < w1.heap.size :=
  ⟨fun b o h => hb.cell (p := ⟨b, o, none⟩) h, fun b o h => hb.frozen (p := ⟨b, o, none⟩) h, fun _ h => Nat.lt_of_lt_of_le h hb.size⟩

theorem Kept.drop {w w' w'' : World} (h : Below w.heap.size w w') (h' : Kept w' w'') : Kept w w'' := h.trans (h'.mono h.size)

/-- a loop over xs has passed k elements, all of them valid, and left alone what was there -/
def Upto {α : Type} (valid : α → Bool) (xs : List α) (w : World) (i : Value) (wr : World) : Prop :=
  ∃ k : Nat, k ≤ xs.length ∧ i = .int .i64 k ∧ (xs.take k).all valid = true ∧ Kept w wr

theorem Kept.alloc {w w' : World} (h : Kept w w') (o : Obj) : Kept w (w'.alloc o) := Below.alloc h h.size o

/-- a number as a cell -/
def icell (n : Int) : List Value := [.int .i64 n]
theorem int_row {B : Nat} {w : World} {a : Option Addr} {xs : List Int} (h : Row icell 1 B w a xs) (i : Nat) (hi : i < xs.length) :
    ∃ b off, a = some ⟨b, off, none⟩ ∧ b < B ∧ w.cell? ⟨b, off + i, none⟩ = some (.int .i64 xs[i]) := by
  obtain ⟨b, off, ha, hb, hc⟩ := h i xs[i] (by simp [hi])
  exact ⟨b, off, ha, hb, by simpa using hc 0 _ rfl⟩

/-! ### Slices that a call has made itself, element by element -/
theorem flatMap_len {α : Type} {enc : α → List Value} {k : Nat} (he : ∀ x, (enc x).length = k) (xs : List α) : (xs.flatMap enc).length = xs.length * k := by
  induction xs with
  | nil => simp
  | cons x xs ih => simp [List.flatMap_cons, ih, he, Nat.succ_mul, Nat.add_comm]

theorem flatMap_get {α : Type} {enc : α → List Value} {k : Nat} (he : ∀ x, (enc x).length = k) : ∀ (xs : List α) (i : Nat) (x : α), xs[i]? = some x → ∀ j, j < k → (xs.flatMap enc)[i * k + j]? = (enc x)[j]?
  | [], i, x, h, _, _ => by simp at h
  | y :: ys, 0, x, h, j, hj => by
    simp at h
    subst h
    rw [List.flatMap_cons, Nat.zero_mul, Nat.zero_add, List.getElem?_append_left (by rw [he]; exact hj)]
  | y :: ys, i + 1, x, h, j, hj => by
    rw [List.flatMap_cons, List.getElem?_append_right (by rw [he, Nat.succ_mul]; omega), he]
    have := flatMap_get he ys i x (by simpa using h) j hj
    rw [← this]
    congr 1
    rw [Nat.succ_mul]; omega

/-- What the call owns reads as a row. -/
theorem Row.of_owns {α : Type} {enc : α → List Value} {k base : Nat} {e : TypeId} {w : World} {v : Value} {xs : List α} (he : ∀ x, (enc x).length = k) (h : w.ownsRow base e k v xs.length (xs.flatMap enc)) :
    ∃ a cap, v = .slice a xs.length cap ∧ Row enc k w.heap.size w a xs ∧ xs.length ≤ cap ∧ cap ≤ maxLen := by
  obtain ⟨_, ⟨rfl, hn⟩ | ⟨g, cap, cur, rfl, hb, hh, hnc, hcm, hsz, ht⟩⟩ := h
  · have : xs = [] := List.length_eq_zero_iff.1 hn
    subst this
    exact ⟨none, 0, rfl, Row.nil, by simp, by simp [maxLen]⟩
  · refine ⟨some ⟨g, 0, none⟩, cap, rfl, ?_, hnc, hcm⟩
    intro i x hx
    refine ⟨g, 0, rfl, ?_, ?_⟩
    · rcases Nat.lt_or_ge g w.heap.size with h' | h'
      · exact h'
      · rw [Array.getElem?_eq_none h'] at hh; cases hh
    · intro j u hj
      have hjk : j < k := by rw [← he x]; exact (List.getElem?_eq_some_iff.1 hj).1
      have hix : i < xs.length := (List.getElem?_eq_some_iff.1 hx).1
      have h1 := flatMap_get he xs i x hx j hjk
      rw [← ht, List.getElem?_take] at h1
      split at h1
      · rw [hj] at h1
        simp only [World.cell?, hh, Nat.zero_add]
        simpa using h1
      · rw [hj] at h1; cases h1

theorem owns_nil {base : Nat} {e : TypeId} {k : Nat} {w : World} {α : Type} {enc : α → List Value} : w.ownsRow base e k (.slice none 0 0) ([] : List α).length (([] : List α).flatMap enc) :=
  ⟨by simp, .inl ⟨rfl, rfl⟩⟩

theorem owns_keep {base : Nat} {e : TypeId} {k n : Nat} {w w' : World} {v : Value} {xs : List Value} (h : w.ownsRow base e k v n xs) (hb : Below w.heap.size w w') : w'.ownsRow base e k v n xs := by
  obtain ⟨h1, h2 | ⟨g, cap, cur, hv, hg, hh, r⟩⟩ := h
  · exact ⟨h1, .inl h2⟩
  · refine ⟨h1, .inr ⟨g, cap, cur, hv, hg, ?_, r⟩⟩
    rw [hb.block g ?_]
    · exact hh
    · rcases Nat.lt_or_ge g w.heap.size with h' | h'
      · exact h'
      · rw [Array.getElem?_eq_none h'] at hh; cases hh

theorem owns_base {base base' : Nat} {e : TypeId} {k n : Nat} {w : World} {v : Value} {xs : List Value} (h : w.ownsRow base e k v n xs) (hb : base' ≤ base) : w.ownsRow base' e k v n xs := by
  obtain ⟨h1, h2 | ⟨g, cap, cur, hv, hg, hh, r⟩⟩ := h
  · exact ⟨h1, .inl h2⟩
  · exact ⟨h1, .inr ⟨g, cap, cur, hv, Nat.le_trans hb hg, hh, r⟩⟩

theorem flatMap_at {α : Type} {enc : α → List Value} {k : Nat} (hk : 0 < k) (he : ∀ x, (enc x).length = k) (xs : List α) (j : Nat) (u : Value) (h : (xs.flatMap enc)[j]? = some u) :
    ∃ x, xs[j / k]? = some x ∧ (enc x)[j % k]? = some u := by
  have hj : j < xs.length * k := by rw [← flatMap_len he xs]; exact (List.getElem?_eq_some_iff.1 h).1
  have hi : j / k < xs.length := Nat.div_lt_of_lt_mul (by rw [Nat.mul_comm]; exact hj)
  refine ⟨xs[j / k], by simp [hi], ?_⟩
  rw [← flatMap_get he xs (j / k) xs[j / k] (by simp [hi]) (j % k) (Nat.mod_lt _ hk), ← h]
  congr 1
  have := Nat.div_add_mod j k
  rw [Nat.mul_comm] at this
  omega

theorem Row.news {α : Type} {enc : α → List Value} {k B : Nat} {w : World} {ad : Addr} {ys : List α} (hk : 0 < k) (he : ∀ x, (enc x).length = k) (h : Row enc k B w (some ad) ys) :
    ∀ j u, (ys.flatMap enc)[j]? = some u → w.cell? (ad.add j) = some u := by
  intro j u hj
  obtain ⟨x, hx, hu⟩ := flatMap_at hk he ys j u hj
  obtain ⟨b, off, ha, _, hc⟩ := h _ x hx
  simp only [Option.some.injEq] at ha
  subst ha
  have h1 := hc _ u hu
  have e : (⟨b, off, none⟩ : Addr).add j = ⟨b, off + j / k * k + j % k, none⟩ := by
    have h2 : off + j / k * k + j % k = off + j := by
      have := Nat.div_add_mod j k
      rw [Nat.mul_comm] at this
      omega
    unfold Addr.add
    split
    · rename_i h0; rw [h2, h0]; rfl
    · rw [h2]
  rw [e]
  exact h1

/-- APPENDING A LIST to a slice that the call owns, wherever the list lies (nil too). -/
theorem wpList_append_list {α : Type} {enc : α → List Value} {P : Program} {w : World} {ops : Array Oper} {rest : List Oper} {o : Oper} {a : Act} {Q : Exit → Act → World → Prop} (hgd : o.guard = none) (s x : Operand) (t : TypeId)
    (ho : o.op = .call { callee := .builtin .append, args := #[s, x], argTypes := #[t, t] })
    (base : Nat) (e : TypeId) (i : TypeInfo) (z : Value) (size bytes : Nat) (ht : P.underlying t = some (.slice e)) (hi : P.info? e = some i) (hz : i.zero = some z)
    (hsize : i.size = size) (hby : i.bytes = bytes) (hzs : z.cells.size = size) (hsz : 0 < size) (he : ∀ x : α, (enc x).length = size) (h1 : ∀ (x : α), ∀ u ∈ enc x, u.oneCell' = true)
    (v : Value) (xs : List α) (hs : a.eval s = v) (hown : w.ownsRow base e size v xs.length (xs.flatMap enc))
    (ad : Option Addr) (c : Nat) (ys : List α) (hx : a.eval x = .slice ad ys.length c) (hc : ad = none → c = 0) {B : Nat} (hrow : Row enc size B w ad ys)
    (h63 : xs.length + ys.length ≤ maxLen) (hbytes : (xs.length + ys.length) * bytes ≤ 140737488355328) (hbase : base ≤ w.heap.size)
    (h : ∀ v' w', w'.ownsRow base e size v' (xs ++ ys).length ((xs ++ ys).flatMap enc) → w.grownBy w' v.ownBlock → wpList P ops Q rest (a.put o.dst v') w') : wpList P ops Q (o :: rest) a w := by
  cases ad with
  | none =>
    have hys : ys = [] := by
      cases ys with
      | nil => rfl
      | cons y ys => obtain ⟨b, off, ha, _⟩ := hrow 0 y rfl; cases ha
    subst hys
    have := hc rfl
    subst this
    exact wpList_append_own_none hgd s x t ho base e i size ht hi v xs.length _ hs hown hx (h v w (by simpa using hown) ⟨rfl, rfl, rfl, Nat.le_refl _, fun _ _ _ => rfl⟩)
  | some ad =>
    refine wpList_append_own w hgd s x t ho base e i z size bytes ht hi hz hsize hby hzs hsz v xs.length _ hs hown ad ys.length c (ys.flatMap enc) hx (flatMap_len he ys) (hrow.news hsz he) ?_ h63 hbytes hbase ?_
    · intro u hu
      obtain ⟨y, _, hy⟩ := List.mem_flatMap.1 hu
      exact h1 y u hy
    · intro v' w' ho' hg _
      exact h v' w' (by simpa [List.length_append] using ho') hg

/-! ### A block of the call's own, known whole -/
def Blk (w : World) (b : Nat) (arr : Array Value) (t : TypeId) : Prop := w.heap[b]? = some (.cells arr t (0, 0))
theorem Blk.lt {w : World} {b : Nat} {arr : Array Value} {t : TypeId} (h : Blk w b arr t) : b < w.heap.size := by
  rcases Nat.lt_or_ge b w.heap.size with h' | h'
  · exact h'
  · unfold Blk at h; rw [Array.getElem?_eq_none h'] at h; cases h
theorem Blk.cell {w : World} {b : Nat} {arr : Array Value} {t : TypeId} (h : Blk w b arr t) (i : Nat) : w.cell? ⟨b, i, none⟩ = arr[i]? := by
  unfold Blk at h
  simp [World.cell?, h]
theorem Blk.free {w : World} {b : Nat} {arr : Array Value} {t : TypeId} (h : Blk w b arr t) (i : Nat) : w.frozen? ⟨b, i, none⟩ = false := by
  unfold Blk at h
  simp [World.frozen?, h]
theorem Blk.keep {w w' : World} {b : Nat} {arr : Array Value} {t : TypeId} (h : Blk w b arr t) (hb : Kept w w') : Blk w' b arr t := by
  unfold Blk
  rw [hb.block b h.lt]
  exact h
theorem Blk.alloc {w : World} {b : Nat} {arr : Array Value} {t : TypeId} (h : Blk w b arr t) (o : Obj) : Blk (w.alloc o) b arr t :=
  h.keep ((Below.refl _ _).alloc (Nat.le_refl _) o)
theorem Blk.drew {w : World} {b : Nat} {arr : Array Value} {t : TypeId} (h : Blk w b arr t) : Blk w.drew b arr t := h
theorem Blk.new {w : World} {arr : Array Value} {t : TypeId} : Blk (w.alloc (.cells arr t)) w.heap.size arr t := by
  show (w.heap.push _)[w.heap.size]? = _
  simp
theorem Blk.set {w : World} {b : Nat} {arr : Array Value} {t : TypeId} (h : Blk w b arr t) (i : Nat) (v : Value) : Blk (w.setCell ⟨b, i, none⟩ v) b (arr.setIfInBounds i v) t := by
  unfold Blk at *
  simp [World.setCell, Array.getElem?_modify, h]
theorem Blk.other {w : World} {b : Nat} {arr : Array Value} {t : TypeId} (h : Blk w b arr t) {a : Addr} (hne : a.block ≠ b) (v : Value) : Blk (w.setCell a v) b arr t := by
  unfold Blk at *
  rw [Below.heap_setCell _ _ _ _ (Ne.symm hne)]
  exact h

/-! ### Cells that are numbers or bools, whatever structs they lie in -/
inductive Leaf where
  | int (k : IntKind)
  | bool
  deriving DecidableEq

def LeafOk : Leaf → Value → Prop
  | .int k, v => ∃ n, v = .int k n ∧ (Lit.int k n).wf = true
  | .bool, v => ∃ b, v = .bool b

/-- the leaves of a row of fields, each by f, the first of them at off -/
def leavesL (P : Program) (g : TypeId → Option (List Leaf)) : Nat → List Field → Option (List Leaf)
  | _, [] => some []
  | off, f :: fs => if f.offset = off then (g f.type).bind fun m => if m.length = P.cellsOf f.type then (leavesL P g (off + m.length) fs).map (m ++ ·) else none else none

/-- the leaves of a type that is made of integers, bools and structs alone -/
def leaves (P : Program) : Nat → TypeId → Option (List Leaf)
  | 0, _ => none
  | n + 1, t => match P.underlying t with
    | some (.int k) => some [.int k]
    | some .bool => some [.bool]
    | some (.struct fs) => (leavesL P (leaves P n) 0 fs.toList).bind fun l => if l.length = P.cellsOf t then some l else none
    | _ => none

/-- cells that are leaves -/
def LeavesOk (ls : List Leaf) (cs : List Value) : Prop := cs.length = ls.length ∧ ∀ (j : Nat) (f : Leaf), ls[j]? = some f → ∃ v, cs[j]? = some v ∧ LeafOk f v

theorem leavesL_ok {P : Program} {g : TypeId → Option (List Leaf)} {cs : List Value} : ∀ (fs : List Field) (off : Nat) (ls : List Leaf),
    leavesL P g off fs = some ls → (∀ f ∈ fs, ∀ m, g f.type = some m → LeavesOk m ((cs.drop f.offset).take (P.cellsOf f.type))) →
    ∀ (j : Nat) (f : Leaf), ls[j]? = some f → ∃ v, cs[off + j]? = some v ∧ LeafOk f v
  | [], off, ls, h, _, j, f, hj => by simp [leavesL] at h; subst h; simp at hj
  | f :: fs, off, ls, h, hf, j, lf, hj => by
    simp only [leavesL] at h
    split at h
    · rename_i ho
      obtain ⟨m, hm, h⟩ := Option.bind_eq_some_iff.1 h
      split at h
      · rename_i hml
        obtain ⟨rest, hr, rfl⟩ := Option.map_eq_some_iff.1 h
        by_cases hjm : j < m.length
        · rw [List.getElem?_append_left hjm] at hj
          obtain ⟨_, h2⟩ := hf f (by simp) m hm
          obtain ⟨v, hv, hok⟩ := h2 j lf hj
          refine ⟨v, ?_, hok⟩
          rw [List.getElem?_take, List.getElem?_drop] at hv
          split at hv
          · rw [← ho]; exact hv
          · simp at hv
        · rw [List.getElem?_append_right (by omega)] at hj
          obtain ⟨v, hv, hok⟩ := leavesL_ok fs (off + m.length) rest hr (fun f' hf' => hf f' (by simp [hf'])) (j - m.length) lf hj
          exact ⟨v, by rw [← hv]; congr 1; omega, hok⟩
      · simp at h
    · simp at h

section
variable {H : Type} {enc : TypeId × Value → H} {P : Program} {w : World} {base : Nat} {spare : Nat → Bool} {held : Bool}

theorem leaves_ok (n : Nat) : ∀ (t : TypeId) (ls : List Leaf) (fuel : Nat) (cs : List Value) (x : DataW H × List MemPlace), leaves P n t = some ls → DataW.trod enc P w base spare held fuel t cs = some x → LeavesOk ls cs := by
  induction n with
  | zero => intro t ls fuel cs x h; simp [leaves] at h
  | succ n ih =>
    intro t ls fuel cs x h hx
    unfold leaves at h
    split at h
    · rename_i k hk
      simp only [Option.some.injEq] at h
      subst h
      obtain ⟨q, rfl, _, hw⟩ := DataW.trod_int hk hx
      refine ⟨rfl, fun j f hj => ?_⟩
      cases j with
      | zero => simp at hj; subst hj; exact ⟨_, rfl, q, rfl, hw⟩
      | succ j => simp at hj
    · rename_i hk
      simp only [Option.some.injEq] at h
      subst h
      obtain ⟨q, rfl, _⟩ := DataW.trod_bool hk hx
      refine ⟨rfl, fun j f hj => ?_⟩
      cases j with
      | zero => simp at hj; subst hj; exact ⟨_, rfl, q, rfl⟩
      | succ j => simp at hj
    · rename_i fs hk
      obtain ⟨l, hl, h⟩ := Option.bind_eq_some_iff.1 h
      split at h
      · rename_i hlen
        simp only [Option.some.injEq] at h
        subst h
        obtain ⟨xs, m, _, _, hcl, hxl, hg⟩ := DataW.trod_struct hk hx
        refine ⟨by rw [hcl, hlen], fun j f hj => ?_⟩
        have := leavesL_ok (cs := cs) fs.toList 0 l hl (fun f' hf' q hq => by
          obtain ⟨i, hi, rfl⟩ := List.mem_iff_getElem.1 hf'
          have hi' : i < fs.size := by simpa using hi
          have h1 := hg i fs[i] (by simp [hi'])
          have hx1 : xs[i]? = some (xs[i]'(by omega)) := List.getElem?_eq_getElem (by omega)
          rw [hx1] at h1
          simpa using ih _ _ _ _ _ hq h1) j f hj
        simpa using this
      · simp at h
    · simp at h

/-- A SLICE OF SUCH ELEMENTS, OPENED: its elements' cells. -/
theorem open_leaves {t e : TypeId} {n : Nat} {ls : List Leaf} {fuel : Nat} {cs : List Value} {x : DataW H × List MemPlace} (ht : P.underlying t = some (.slice e)) (hls : leaves P n e = some ls) (hk : P.cellsOf e = ls.length) (hne : 0 < ls.length)
    (h : DataW.trod enc P w base spare held fuel t cs = some x) :
    ∃ (a : Option Addr) (cap : Nat) (xs : List (List Value)), cs = [.slice a xs.length cap] ∧ xs.length ≤ cap ∧ cap ≤ maxLen ∧ Row id ls.length w.heap.size w a xs ∧ (∀ x ∈ xs, LeavesOk ls x) ∧ (a = none → cap = 0) := by
  rcases Go.Deep.open_slice ht h with ⟨rfl, _⟩ | ⟨a, len, cap, m, q, D, Pl, rfl, hb, hl, hm, hmm, _, hi⟩
  · exact ⟨none, 0, [], rfl, by simp, by simp [maxLen], Row.nil, by simp, fun _ => rfl⟩
  · have hlm : len ≤ m := by subst hmm; split <;> omega
    obtain ⟨f, hf⟩ := Go.Deep.choose_lt (n := len) (p := fun i cs' => w.cells? base (a.add (i * P.cellsOf e)) (P.cellsOf e) = some cs' ∧ DataW.trod enc P w base spare held q e cs' = some (D i, Pl i)) (fun i hil => hi i (by omega))
    refine ⟨some a, cap, (List.range len).map f, by simp, by simpa using hl, hm, ?_, ?_, by simp⟩
    · intro i y hy
      have hil : i < len := by
        have := (List.getElem?_eq_some_iff.1 hy).1
        simpa using this
      simp [hil] at hy
      subst hy
      have hsp : a.spot = none := by
        obtain ⟨hc, ht'⟩ := hf 0 (by omega)
        obtain ⟨_, hcl, hat⟩ := World.cells?_some hc
        have h1 := hat 0 (by omega)
        have hv : (f 0)[0]? = some ((f 0)[0]'(by omega)) := List.getElem?_eq_getElem (by omega)
        rw [hv] at h1
        have := World.cell?_spot h1
        simpa [Addr.add] using this
      obtain ⟨ab, ao, asp⟩ := a
      simp at hsp
      subst hsp
      obtain ⟨hc, ht'⟩ := hf i hil
      obtain ⟨_, hcl, hat⟩ := World.cells?_some hc
      have hat' : ∀ j, j < ls.length → w.cell? ⟨ab, ao + i * ls.length + j, none⟩ = (f i)[j]? := by
        intro j hj
        have h1 := hat j (by omega)
        rw [Go.Deep.add_add, hk] at h1
        rw [← h1]
        congr 1
        unfold Addr.add
        split
        · rename_i h0
          have h3 : ao + i * ls.length + j = ao := by omega
          rw [h3]
        · simp [Nat.add_assoc]
      refine ⟨ab, ao, rfl, ?_, fun j v hj => ?_⟩
      · have h0 := hat' 0 hne
        have hv : (f i)[0]? = some ((f i)[0]'(by omega)) := List.getElem?_eq_getElem (by omega)
        rw [hv] at h0
        rcases Nat.lt_or_ge ab w.heap.size with h' | h'
        · exact h'
        · simp [World.cell?, Array.getElem?_eq_none h'] at h0
      · have hjl : j < (f i).length := (List.getElem?_eq_some_iff.1 hj).1
        rw [hat' j (by omega)]
        exact hj
    · intro y hy
      simp at hy
      obtain ⟨i, hil, rfl⟩ := hy
      obtain ⟨hc, ht'⟩ := hf i hil
      exact leaves_ok n _ _ _ _ _ hls ht'

theorem Row.of_map {α : Type} {enc : α → List Value} {k B : Nat} {w : World} {a : Option Addr} {ys : List α} (h : Row id k B w a (ys.map enc)) : Row enc k B w a ys := by
  intro i x hx
  exact h i (enc x) (by simp [hx])

theorem decode {α : Type} {enc : α → List Value} {wf : α → Prop} {ls : List Leaf} (hdec : ∀ cs, LeavesOk ls cs → ∃ x : α, cs = enc x ∧ wf x) : ∀ (xs : List (List Value)), (∀ x ∈ xs, LeavesOk ls x) →
    ∃ ys : List α, xs = ys.map enc ∧ ∀ y ∈ ys, wf y
  | [], _ => ⟨[], rfl, by simp⟩
  | c :: cs, h => by
    obtain ⟨y, rfl, hy⟩ := hdec c (h c (by simp))
    obtain ⟨ys, rfl, hys⟩ := decode hdec cs (fun x hx => h x (by simp [hx]))
    exact ⟨y :: ys, rfl, by simpa using ⟨hy, hys⟩⟩

/-- A slice that came in, opened to a list of plain things. -/
theorem open_typed {α : Type} {enc' : α → List Value} {wf : α → Prop} {ls : List Leaf} (hdec : ∀ cs, LeavesOk ls cs → ∃ x : α, cs = enc' x ∧ wf x) {t e : TypeId} {n : Nat} {fuel : Nat} {cs : List Value} {x : DataW H × List MemPlace}
    (ht : P.underlying t = some (.slice e)) (hls : leaves P n e = some ls) (hk : P.cellsOf e = ls.length) (hne : 0 < ls.length) (h : DataW.trod enc P w base spare held fuel t cs = some x) :
    ∃ (a : Option Addr) (cap : Nat) (ys : List α), cs = [.slice a ys.length cap] ∧ ys.length ≤ cap ∧ cap ≤ maxLen ∧ Row enc' ls.length w.heap.size w a ys ∧ (∀ y ∈ ys, wf y) ∧ (a = none → cap = 0) := by
  obtain ⟨a, cap, xs, rfl, h1, h2, h3, h4, h5⟩ := open_leaves ht hls hk hne h
  obtain ⟨ys, rfl, hys⟩ := decode hdec xs h4
  exact ⟨a, cap, ys, by simp, by simpa using h1, h2, h3.of_map, hys, h5⟩
end

/-! ### Regions that draw their order and only read or call: one walk of the text's order -/
/-- a world in which all that was there is as it was -/
structure Later (w : World) where
  val : World
  ok : Below w.heap.size w val
instance {w : World} : Nonempty (Later w) := ⟨⟨w, Below.refl _ _⟩⟩

theorem Later.cell {w : World} (g : Later w) {b o : Nat} (h : b < w.heap.size) : g.val.cell? ⟨b, o, none⟩ = w.cell? ⟨b, o, none⟩ := g.ok.cell (p := ⟨b, o, none⟩) h
theorem Later.some {w : World} (g : Later w) {b o : Nat} {v : Value} (h : w.cell? ⟨b, o, none⟩ = some v) : g.val.cell? ⟨b, o, none⟩ = some v := by
  rw [g.cell, h]
  rcases Nat.lt_or_ge b w.heap.size with h' | h'
  · exact h'
  · simp [World.cell?, Array.getElem?_eq_none h'] at h

theorem Later.region {P : Program} {id : Nat} {Q : Exit → Act → World → Prop} {a : Act} {w : World} {l : List Oper} (hm : P.follows .mixedOrders = true) (hB : Region.lexB .any l.toArray = true)
    (h : wpQuiet P l.toArray (fun w' => ∃ g : Later w, w' = g.val) (fun a' => ∀ g : Later w, Q .normal a' g.val) l a) : (Code.region id l.toArray true).wp P Q a w :=
  wp_region_quiet (C := fun w' => ∃ g : Later w, w' = g.val) hm hB ⟨⟨w.drew, (Below.refl _ _).drew⟩, rfl⟩ (by
    have e : (fun a' => ∀ w', (∃ g : Later w, w' = g.val) → Q .normal a' w') = (fun a' => ∀ g : Later w, Q .normal a' g.val) := by
      funext a'
      exact propext ⟨fun h g => h _ ⟨g, rfl⟩, fun h _ ⟨g, hg⟩ => hg ▸ h g⟩
    rw [e]
    simpa using h)

/-- a contract, met in such a region -/
theorem Later.call {P : Program} {f : FuncId} {args : Array Value} {w : World} {g : Later w} {v : Value}
    (h : Calls P f args g.val fun e w' => e = .returned v ∧ Kept g.val w') : Calls P f args g.val fun e w'' => e = .returned v ∧ ∃ g' : Later w, w'' = g'.val :=
  h.mono fun _ w'' ⟨he, hk⟩ => ⟨he, ⟨w'', Kept.drop g.ok hk⟩, rfl⟩
end Bal

/-
  The structs of the trim statements as cells of memory. No program in sight.
-/
namespace Bal.Trim
open Go Go.RowKit

def Load.cells (x : Load) : List Value := [.int .i64 x.alo, .int .i64 x.ahi, .int .i64 x.wlo, .int .i64 x.whi]
theorem Load.row {B : Nat} {w : World} {a : Option Addr} {xs : List Load} (h : Row Load.cells 4 B w a xs) (i : Nat) (hi : i < xs.length) :
    ∃ b off, a = some ⟨b, off, none⟩ ∧ b < B ∧ w.cell? ⟨b, off + i * 4, none⟩ = some (.int .i64 xs[i].alo) ∧ w.cell? ⟨b, off + i * 4 + 1, none⟩ = some (.int .i64 xs[i].ahi) ∧ w.cell? ⟨b, off + i * 4 + 2, none⟩ = some (.int .i64 xs[i].wlo) ∧ w.cell? ⟨b, off + i * 4 + 3, none⟩ = some (.int .i64 xs[i].whi) := by
  obtain ⟨b, off, ha, hb, hc⟩ := h i xs[i] (by simp [hi])
  exact ⟨b, off, ha, hb, hc 0 _ rfl, hc 1 _ rfl, hc 2 _ rfl, hc 3 _ rfl⟩
theorem Load.of_leaves {cs : List Value} (h : LeavesOk [.int .i64, .int .i64, .int .i64, .int .i64] cs) : ∃ x : Load, cs = x.cells ∧ (Lit.int .i64 x.alo).wf = true ∧ (Lit.int .i64 x.ahi).wf = true ∧ (Lit.int .i64 x.wlo).wf = true ∧ (Lit.int .i64 x.whi).wf = true := by
  obtain ⟨hl, h⟩ := h
  match cs, hl with
  | [v0, v1, v2, v3], _ =>
    obtain ⟨_, e0, n0, rfl, w0⟩ := h 0 (.int .i64) rfl; simp at e0; subst e0
    obtain ⟨_, e1, n1, rfl, w1⟩ := h 1 (.int .i64) rfl; simp at e1; subst e1
    obtain ⟨_, e2, n2, rfl, w2⟩ := h 2 (.int .i64) rfl; simp at e2; subst e2
    obtain ⟨_, e3, n3, rfl, w3⟩ := h 3 (.int .i64) rfl; simp at e3; subst e3
    exact ⟨⟨n0, n1, n2, n3⟩, rfl, w0, w1, w2, w3⟩

def Limit.cells (x : Limit) : List Value := [.int .i64 x.a, .int .i64 x.b, .int .i64 x.c]
theorem Limit.row {B : Nat} {w : World} {a : Option Addr} {xs : List Limit} (h : Row Limit.cells 3 B w a xs) (i : Nat) (hi : i < xs.length) :
    ∃ b off, a = some ⟨b, off, none⟩ ∧ b < B ∧ w.cell? ⟨b, off + i * 3, none⟩ = some (.int .i64 xs[i].a) ∧ w.cell? ⟨b, off + i * 3 + 1, none⟩ = some (.int .i64 xs[i].b) ∧ w.cell? ⟨b, off + i * 3 + 2, none⟩ = some (.int .i64 xs[i].c) := by
  obtain ⟨b, off, ha, hb, hc⟩ := h i xs[i] (by simp [hi])
  exact ⟨b, off, ha, hb, hc 0 _ rfl, hc 1 _ rfl, hc 2 _ rfl⟩
theorem Limit.of_leaves {cs : List Value} (h : LeavesOk [.int .i64, .int .i64, .int .i64] cs) : ∃ x : Limit, cs = x.cells ∧ (Lit.int .i64 x.a).wf = true ∧ (Lit.int .i64 x.b).wf = true ∧ (Lit.int .i64 x.c).wf = true := by
  obtain ⟨hl, h⟩ := h
  match cs, hl with
  | [v0, v1, v2], _ =>
    obtain ⟨_, e0, n0, rfl, w0⟩ := h 0 (.int .i64) rfl; simp at e0; subst e0
    obtain ⟨_, e1, n1, rfl, w1⟩ := h 1 (.int .i64) rfl; simp at e1; subst e1
    obtain ⟨_, e2, n2, rfl, w2⟩ := h 2 (.int .i64) rfl; simp at e2; subst e2
    exact ⟨⟨n0, n1, n2⟩, rfl, w0, w1, w2⟩

def Frm.cells (x : Frm) : List Value := [.int .i64 x.pos, .int .i64 x.shear, .int .i64 x.bend]
theorem Frm.row {B : Nat} {w : World} {a : Option Addr} {xs : List Frm} (h : Row Frm.cells 3 B w a xs) (i : Nat) (hi : i < xs.length) :
    ∃ b off, a = some ⟨b, off, none⟩ ∧ b < B ∧ w.cell? ⟨b, off + i * 3, none⟩ = some (.int .i64 xs[i].pos) ∧ w.cell? ⟨b, off + i * 3 + 1, none⟩ = some (.int .i64 xs[i].shear) ∧ w.cell? ⟨b, off + i * 3 + 2, none⟩ = some (.int .i64 xs[i].bend) := by
  obtain ⟨b, off, ha, hb, hc⟩ := h i xs[i] (by simp [hi])
  exact ⟨b, off, ha, hb, hc 0 _ rfl, hc 1 _ rfl, hc 2 _ rfl⟩
theorem Frm.of_leaves {cs : List Value} (h : LeavesOk [.int .i64, .int .i64, .int .i64] cs) : ∃ x : Frm, cs = x.cells ∧ (Lit.int .i64 x.pos).wf = true ∧ (Lit.int .i64 x.shear).wf = true ∧ (Lit.int .i64 x.bend).wf = true := by
  obtain ⟨hl, h⟩ := h
  match cs, hl with
  | [v0, v1, v2], _ =>
    obtain ⟨_, e0, n0, rfl, w0⟩ := h 0 (.int .i64) rfl; simp at e0; subst e0
    obtain ⟨_, e1, n1, rfl, w1⟩ := h 1 (.int .i64) rfl; simp at e1; subst e1
    obtain ⟨_, e2, n2, rfl, w2⟩ := h 2 (.int .i64) rfl; simp at e2; subst e2
    exact ⟨⟨n0, n1, n2⟩, rfl, w0, w1, w2⟩

def Put.cells (x : Put) : List Value := [.int .i64 x.pos, .int .i64 x.wt]
theorem Put.row {B : Nat} {w : World} {a : Option Addr} {xs : List Put} (h : Row Put.cells 2 B w a xs) (i : Nat) (hi : i < xs.length) :
    ∃ b off, a = some ⟨b, off, none⟩ ∧ b < B ∧ w.cell? ⟨b, off + i * 2, none⟩ = some (.int .i64 xs[i].pos) ∧ w.cell? ⟨b, off + i * 2 + 1, none⟩ = some (.int .i64 xs[i].wt) := by
  obtain ⟨b, off, ha, hb, hc⟩ := h i xs[i] (by simp [hi])
  exact ⟨b, off, ha, hb, hc 0 _ rfl, hc 1 _ rfl⟩
theorem Put.of_leaves {cs : List Value} (h : LeavesOk [.int .i64, .int .i64] cs) : ∃ x : Put, cs = x.cells ∧ (Lit.int .i64 x.pos).wf = true ∧ (Lit.int .i64 x.wt).wf = true := by
  obtain ⟨hl, h⟩ := h
  match cs, hl with
  | [v0, v1], _ =>
    obtain ⟨_, e0, n0, rfl, w0⟩ := h 0 (.int .i64) rfl; simp at e0; subst e0
    obtain ⟨_, e1, n1, rfl, w1⟩ := h 1 (.int .i64) rfl; simp at e1; subst e1
    exact ⟨⟨n0, n1⟩, rfl, w0, w1⟩

def Hold.cells (x : Hold) : List Value := [.int .i64 x.pos, .int .i64 x.room]
theorem Hold.row {B : Nat} {w : World} {a : Option Addr} {xs : List Hold} (h : Row Hold.cells 2 B w a xs) (i : Nat) (hi : i < xs.length) :
    ∃ b off, a = some ⟨b, off, none⟩ ∧ b < B ∧ w.cell? ⟨b, off + i * 2, none⟩ = some (.int .i64 xs[i].pos) ∧ w.cell? ⟨b, off + i * 2 + 1, none⟩ = some (.int .i64 xs[i].room) := by
  obtain ⟨b, off, ha, hb, hc⟩ := h i xs[i] (by simp [hi])
  exact ⟨b, off, ha, hb, hc 0 _ rfl, hc 1 _ rfl⟩
theorem Hold.of_leaves {cs : List Value} (h : LeavesOk [.int .i64, .int .i64] cs) : ∃ x : Hold, cs = x.cells ∧ (Lit.int .i64 x.pos).wf = true ∧ (Lit.int .i64 x.room).wf = true := by
  obtain ⟨hl, h⟩ := h
  match cs, hl with
  | [v0, v1], _ =>
    obtain ⟨_, e0, n0, rfl, w0⟩ := h 0 (.int .i64) rfl; simp at e0; subst e0
    obtain ⟨_, e1, n1, rfl, w1⟩ := h 1 (.int .i64) rfl; simp at e1; subst e1
    exact ⟨⟨n0, n1⟩, rfl, w0, w1⟩

def Parcel.cells (x : Parcel) : List Value := [.int .i64 x.wt, .int .i64 x.cls]
theorem Parcel.row {B : Nat} {w : World} {a : Option Addr} {xs : List Parcel} (h : Row Parcel.cells 2 B w a xs) (i : Nat) (hi : i < xs.length) :
    ∃ b off, a = some ⟨b, off, none⟩ ∧ b < B ∧ w.cell? ⟨b, off + i * 2, none⟩ = some (.int .i64 xs[i].wt) ∧ w.cell? ⟨b, off + i * 2 + 1, none⟩ = some (.int .i64 xs[i].cls) := by
  obtain ⟨b, off, ha, hb, hc⟩ := h i xs[i] (by simp [hi])
  exact ⟨b, off, ha, hb, hc 0 _ rfl, hc 1 _ rfl⟩
theorem Parcel.of_leaves {cs : List Value} (h : LeavesOk [.int .i64, .int .i64] cs) : ∃ x : Parcel, cs = x.cells ∧ (Lit.int .i64 x.wt).wf = true ∧ (Lit.int .i64 x.cls).wf = true := by
  obtain ⟨hl, h⟩ := h
  match cs, hl with
  | [v0, v1], _ =>
    obtain ⟨_, e0, n0, rfl, w0⟩ := h 0 (.int .i64) rfl; simp at e0; subst e0
    obtain ⟨_, e1, n1, rfl, w1⟩ := h 1 (.int .i64) rfl; simp at e1; subst e1
    exact ⟨⟨n0, n1⟩, rfl, w0, w1⟩

def Rule.cells (x : Rule) : List Value := [.int .i64 x.a, .int .i64 x.b, .int .i64 x.apart]
theorem Rule.row {B : Nat} {w : World} {a : Option Addr} {xs : List Rule} (h : Row Rule.cells 3 B w a xs) (i : Nat) (hi : i < xs.length) :
    ∃ b off, a = some ⟨b, off, none⟩ ∧ b < B ∧ w.cell? ⟨b, off + i * 3, none⟩ = some (.int .i64 xs[i].a) ∧ w.cell? ⟨b, off + i * 3 + 1, none⟩ = some (.int .i64 xs[i].b) ∧ w.cell? ⟨b, off + i * 3 + 2, none⟩ = some (.int .i64 xs[i].apart) := by
  obtain ⟨b, off, ha, hb, hc⟩ := h i xs[i] (by simp [hi])
  exact ⟨b, off, ha, hb, hc 0 _ rfl, hc 1 _ rfl, hc 2 _ rfl⟩
theorem Rule.of_leaves {cs : List Value} (h : LeavesOk [.int .i64, .int .i64, .int .i64] cs) : ∃ x : Rule, cs = x.cells ∧ (Lit.int .i64 x.a).wf = true ∧ (Lit.int .i64 x.b).wf = true ∧ (Lit.int .i64 x.apart).wf = true := by
  obtain ⟨hl, h⟩ := h
  match cs, hl with
  | [v0, v1, v2], _ =>
    obtain ⟨_, e0, n0, rfl, w0⟩ := h 0 (.int .i64) rfl; simp at e0; subst e0
    obtain ⟨_, e1, n1, rfl, w1⟩ := h 1 (.int .i64) rfl; simp at e1; subst e1
    obtain ⟨_, e2, n2, rfl, w2⟩ := h 2 (.int .i64) rfl; simp at e2; subst e2
    exact ⟨⟨n0, n1, n2⟩, rfl, w0, w1, w2⟩

end Bal.Trim

/-
  What the checks of loads, limits and frames compute, in the program and in the reference.
-/
namespace Go.Proofs.Ytlloijkmpmfapaa
open Go.RowKit Bal Bal.Trim
set_option linter.unusedVariables false
set_option linter.unusedSimpArgs false
set_option maxHeartbeats 400000

theorem f_ranged (n lo hi : Int) (w : World) :
    Calls Try.prog 68 #[.int .i64 n, .int .i64 lo, .int .i64 hi] w fun e w' => e = .returned (.bool (inB n lo hi)) ∧ w = w' := by
  go_enter Try.func68, Try.ntmps68
  go_wp2
  all_goals (go_ret; refine ⟨?_, rfl⟩; simp [inB, *])
  all_goals omega

theorem r_within (n lo hi : Int) (w : World) :
    Calls Try.prog 70 #[.int .i64 n, .int .i64 lo, .int .i64 hi] w fun e w' => e = .returned (.bool (inB n lo hi)) ∧ w = w' := by
  go_enter Try.func70, Try.ntmps70
  go_wp2
  all_goals (go_ret; refine ⟨?_, rfl⟩; simp [inB, *])
  all_goals omega

theorem f_place (n : Int) (w : World) :
    Calls Try.prog 67 #[.int .i64 n] w fun e w' => e = .returned (.bool (inB n (-20000) 20000)) ∧ w = w' := by
  go_enter Try.func67, Try.ntmps67
  go_wp2_with (go_at_call 68; refine (f_ranged _ _ _ _).mono ?_; rintro e w1 ⟨rfl, rfl⟩)
  go_ret
  exact ⟨rfl, rfl⟩

theorem r_place (n : Int) (w : World) :
    Calls Try.prog 69 #[.int .i64 n] w fun e w' => e = .returned (.bool (inB n (-20000) 20000)) ∧ w = w' := by
  go_enter Try.func69, Try.ntmps69
  go_wp2_with (go_at_call 70; refine (r_within _ _ _ _).mono ?_; rintro e w1 ⟨rfl, rfl⟩)
  go_ret
  exact ⟨rfl, rfl⟩

theorem f_span (lo hi m : Int) (w : World) (h0 : 0 ≤ m) (h1 : m ≤ 1000000000000000000) :
    Calls Try.prog 60 #[.agg #[.int .i64 lo, .int .i64 hi], .int .i64 m] w fun e w' => e = .returned (.bool (spanB lo hi m)) ∧ Kept w w' := by
  go_enter Try.func60, Try.ntmps60
  go_wp2
  all_goals (go_ret; refine ⟨?_, (Below.refl _ _).alloc (Nat.le_refl _) _⟩; simp [spanB, *])
  all_goals omega

theorem r_spanned (lo hi m : Int) (w : World) (h0 : 0 ≤ m) (h1 : m ≤ 1000000000000000000) :
    Calls Try.prog 61 #[.agg #[.int .i64 lo, .int .i64 hi], .int .i64 m] w fun e w' => e = .returned (.bool (spanB lo hi m)) ∧ Kept w w' := by
  go_enter Try.func61, Try.ntmps61
  go_wp2
  all_goals (go_ret; refine ⟨?_, (Below.refl _ _).alloc (Nat.le_refl _) _⟩; simp [spanB, *])
  all_goals omega

theorem f_load (x : Load) (w : World) :
    Calls Try.prog 59 #[.agg #[.int .i64 x.alo, .int .i64 x.ahi, .int .i64 x.wlo, .int .i64 x.whi]] w fun e w' => e = .returned (.bool (loadB x)) ∧ Kept w w' := by
  go_enter Try.func59, Try.ntmps59
  go_wp2_with (first | (go_at_call 60; refine (f_span _ _ _ _ (by omega) (by omega)).mono ?_; rintro e w1 ⟨rfl, hb1⟩; obtain ⟨hc1, hf1⟩ := bcell hb1))
  all_goals (go_ret; refine ⟨?_, by (repeat (first | exact Below.refl _ _ | assumption | (refine Kept.drop ?_ (by assumption)) | (refine Kept.alloc ?_ _) | (refine Below.setCell ?_ (by first | exact Nat.le_refl _ | (simp; done) | (simp; omega) | exact Below.size (by assumption)) _) | (refine Below.drew ?_)))⟩; simp [loadB, *])

theorem f_limited (x : Limit) (w : World) :
    Calls Try.prog 63 #[.agg #[.int .i64 x.a, .int .i64 x.b, .int .i64 x.c]] w fun e w' => e = .returned (.bool (limitB x)) ∧ Kept w w' := by
  go_enter Try.func63, Try.ntmps63
  go_wp2_with (first | (go_at_call 68; refine (f_ranged _ _ _ _).mono ?_; rintro e w1 ⟨rfl, rfl⟩))
  all_goals (go_ret; refine ⟨?_, by (repeat (first | exact Below.refl _ _ | assumption | (refine Kept.drop ?_ (by assumption)) | (refine Kept.alloc ?_ _) | (refine Below.setCell ?_ (by first | exact Nat.le_refl _ | (simp; done) | (simp; omega) | exact Below.size (by assumption)) _) | (refine Below.drew ?_)))⟩; simp [limitB, *])

theorem r_limit (x : Limit) (w : World) :
    Calls Try.prog 64 #[.agg #[.int .i64 x.a, .int .i64 x.b, .int .i64 x.c]] w fun e w' => e = .returned (.bool (limitB x)) ∧ Kept w w' := by
  go_enter Try.func64, Try.ntmps64
  go_wp2_with (first | (go_at_call 70; refine (r_within _ _ _ _).mono ?_; rintro e w1 ⟨rfl, rfl⟩))
  all_goals (go_ret; refine ⟨?_, by (repeat (first | exact Below.refl _ _ | assumption | (refine Kept.drop ?_ (by assumption)) | (refine Kept.alloc ?_ _) | (refine Below.setCell ?_ (by first | exact Nat.le_refl _ | (simp; done) | (simp; omega) | exact Below.size (by assumption)) _) | (refine Below.drew ?_)))⟩; simp [limitB, *])

theorem f_checked_Load (a : Option Addr) (cap : Nat) (xs : List Load) (w : World) (hx : Row Load.cells 4 w.heap.size w a xs) (hc : xs.length ≤ cap) (hM : cap ≤ maxLen) :
    Calls Try.prog 58 #[.slice a xs.length cap, .int .i64 40, .func (.func 59) #[] #[], .int .i64 40] w
      fun e w' => e = .returned (.int .i64 (checkList loadB 40 40 xs)) ∧ Kept w w' := by
  unfold maxLen at hM
  by_cases hm : 40 < xs.length
  · rw [checkList_many hm]
    go_enter Try.func58, Try.ntmps58
    go_wp2
    go_ret
    exact ⟨rfl, Below.refl _ _⟩
  · go_enter Try.func58, Try.ntmps58
    go_wp2
    go_loopw [17] (fun i wr => Upto loadB xs w i wr) (fun i _ => xs.length - (intOf i).toNat)
    case atStart => exact ⟨0, Nat.zero_le _, rfl, by simp, Below.refl _ _⟩
    case round =>
      obtain ⟨k, hk, rfl, ha', hbel⟩ := hrel
      have ha := Lib.hid ha'
      clear ha'
      by_cases hlt : k < xs.length
      · obtain ⟨b, off, rfl, hb, h0, h1, h2, h3⟩ := Load.row (hx.later hbel (Nat.le_refl _)) k hlt
        cases hv : loadB xs[k]
        all_goals
          go_wp2_with (go_at_call 59; refine (f_load xs[k] _).mono ?_; rintro e w1 ⟨rfl, hb1⟩)
        · go_ret
          exact ⟨ret_int (checkList_bad hm k hlt hv).symm, by (repeat (first | exact Below.refl _ _ | assumption | (refine Kept.drop ?_ (by assumption)) | (refine Kept.alloc ?_ _) | (refine Below.setCell ?_ (by first | exact Nat.le_refl _ | (simp; done) | (simp; omega) | exact Below.size (by assumption)) _) | (refine Below.drew ?_)))⟩
        · go_round
          case rel => exact ⟨k + 1, by omega, by go_num, take_all hlt ha.out hv, by (repeat (first | exact Below.refl _ _ | assumption | (refine Kept.drop ?_ (by assumption)) | (refine Kept.alloc ?_ _) | (refine Below.setCell ?_ (by first | exact Nat.le_refl _ | (simp; done) | (simp; omega) | exact Below.size (by assumption)) _) | (refine Below.drew ?_)))⟩
          case measure => simp [intOf]; omega
      · go_wp2
        go_ret
        exact ⟨ret_int (checkList_ok hm (by rw [← ha.out, List.take_of_length_le (by omega)])).symm, hbel⟩

theorem f_checked_Limit (a : Option Addr) (cap : Nat) (xs : List Limit) (w : World) (hx : Row Limit.cells 3 w.heap.size w a xs) (hc : xs.length ≤ cap) (hM : cap ≤ maxLen) :
    Calls Try.prog 62 #[.slice a xs.length cap, .int .i64 12, .func (.func 63) #[] #[], .int .i64 41] w
      fun e w' => e = .returned (.int .i64 (checkList limitB 12 41 xs)) ∧ Kept w w' := by
  unfold maxLen at hM
  by_cases hm : 12 < xs.length
  · rw [checkList_many hm]
    go_enter Try.func62, Try.ntmps62
    go_wp2
    go_ret
    exact ⟨rfl, Below.refl _ _⟩
  · go_enter Try.func62, Try.ntmps62
    go_wp2
    go_loopw [17] (fun i wr => Upto limitB xs w i wr) (fun i _ => xs.length - (intOf i).toNat)
    case atStart => exact ⟨0, Nat.zero_le _, rfl, by simp, Below.refl _ _⟩
    case round =>
      obtain ⟨k, hk, rfl, ha', hbel⟩ := hrel
      have ha := Lib.hid ha'
      clear ha'
      by_cases hlt : k < xs.length
      · obtain ⟨b, off, rfl, hb, h0, h1, h2⟩ := Limit.row (hx.later hbel (Nat.le_refl _)) k hlt
        cases hv : limitB xs[k]
        all_goals
          go_wp2_with (go_at_call 63; refine (f_limited xs[k] _).mono ?_; rintro e w1 ⟨rfl, hb1⟩)
        · go_ret
          exact ⟨ret_int (checkList_bad hm k hlt hv).symm, by (repeat (first | exact Below.refl _ _ | assumption | (refine Kept.drop ?_ (by assumption)) | (refine Kept.alloc ?_ _) | (refine Below.setCell ?_ (by first | exact Nat.le_refl _ | (simp; done) | (simp; omega) | exact Below.size (by assumption)) _) | (refine Below.drew ?_)))⟩
        · go_round
          case rel => exact ⟨k + 1, by omega, by go_num, take_all hlt ha.out hv, by (repeat (first | exact Below.refl _ _ | assumption | (refine Kept.drop ?_ (by assumption)) | (refine Kept.alloc ?_ _) | (refine Below.setCell ?_ (by first | exact Nat.le_refl _ | (simp; done) | (simp; omega) | exact Below.size (by assumption)) _) | (refine Below.drew ?_)))⟩
          case measure => simp [intOf]; omega
      · go_wp2
        go_ret
        exact ⟨ret_int (checkList_ok hm (by rw [← ha.out, List.take_of_length_le (by omega)])).symm, hbel⟩

theorem f_CheckLoads (a : Option Addr) (cap : Nat) (xs : List Load) (w : World) (hx : Row Load.cells 4 w.heap.size w a xs) (hc : xs.length ≤ cap) (hM : cap ≤ maxLen) :
    Calls Try.prog 19 #[.slice a xs.length cap] w fun e w' => e = .returned (.int .i64 (checkLoads xs)) ∧ Kept w w' := by
  go_enter Try.func19, Try.ntmps19
  go_wp2_with (go_at_call 58; refine (f_checked_Load _ _ _ _ hx hc hM).mono ?_; rintro e w1 ⟨rfl, hb1⟩)
  go_ret
  exact ⟨rfl, hb1⟩

theorem f_CheckLimits (a : Option Addr) (cap : Nat) (xs : List Limit) (w : World) (hx : Row Limit.cells 3 w.heap.size w a xs) (hc : xs.length ≤ cap) (hM : cap ≤ maxLen) :
    Calls Try.prog 21 #[.slice a xs.length cap] w fun e w' => e = .returned (.int .i64 (checkLimits xs)) ∧ Kept w w' := by
  go_enter Try.func21, Try.ntmps21
  go_wp2_with (go_at_call 62; refine (f_checked_Limit _ _ _ _ hx hc hM).mono ?_; rintro e w1 ⟨rfl, hb1⟩)
  go_ret
  exact ⟨rfl, hb1⟩

theorem r_CheckLoads (a : Option Addr) (cap : Nat) (xs : List Load) (w : World) (hx : Row Load.cells 4 w.heap.size w a xs) (hc : xs.length ≤ cap) (hM : cap ≤ maxLen) :
    Calls Try.prog 20 #[.slice a xs.length cap] w fun e w' => e = .returned (.int .i64 (checkLoads xs)) ∧ Kept w w' := by
  unfold maxLen at hM
  unfold checkLoads
  by_cases hm : 40 < xs.length
  · rw [checkList_many hm]
    go_enter Try.func20, Try.ntmps20
    go_wp2
    go_ret
    exact ⟨rfl, Below.refl _ _⟩
  · go_enter Try.func20, Try.ntmps20
    go_wp2
    go_loopw [3] (fun i wr => Upto loadB xs w i wr) (fun i _ => xs.length - (intOf i).toNat)
    case atStart => exact ⟨0, Nat.zero_le _, rfl, by simp, Below.refl _ _⟩
    case round =>
      obtain ⟨k, hk, rfl, ha', hbel⟩ := hrel
      have ha := Lib.hid ha'
      clear ha'
      by_cases hlt : k < xs.length
      · obtain ⟨b, off, rfl, hb, h0, h1, h2, h3⟩ := Load.row (hx.later hbel (Nat.le_refl _)) k hlt
        cases c1 : spanB xs[k].alo xs[k].ahi 20000 <;> cases c2 : spanB xs[k].wlo xs[k].whi 1073741824
        all_goals
          go_wp2_with (first | (go_at_call 61; refine (r_spanned _ _ _ _ (by omega) (by omega)).mono ?_; rintro e w1 ⟨rfl, hb1⟩; obtain ⟨hc1, hf1⟩ := bcell hb1))
        all_goals first
          | (go_ret; refine ⟨ret_int (checkList_bad hm k hlt ?_).symm, ?_⟩; (focus (simp [loadB, *])); (repeat (first | exact Below.refl _ _ | assumption | (refine Kept.drop ?_ (by assumption)) | (refine Kept.alloc ?_ _) | (refine Below.setCell ?_ (by first | exact Nat.le_refl _ | (simp; done) | (simp; omega) | exact Below.size (by assumption)) _) | (refine Below.drew ?_))))
          | (go_round; (case rel => (refine ⟨k + 1, by omega, by go_num, take_all hlt ha.out ?_, ?_⟩; (focus (simp [loadB, *])); (repeat (first | exact Below.refl _ _ | assumption | (refine Kept.drop ?_ (by assumption)) | (refine Kept.alloc ?_ _) | (refine Below.setCell ?_ (by first | exact Nat.le_refl _ | (simp; done) | (simp; omega) | exact Below.size (by assumption)) _) | (refine Below.drew ?_))))); (case measure => simp [intOf]; omega))
      · go_wp2
        go_ret
        exact ⟨ret_int (checkList_ok hm (by rw [← ha.out, List.take_of_length_le (by omega)])).symm, hbel⟩

theorem r_CheckLimits (a : Option Addr) (cap : Nat) (xs : List Limit) (w : World) (hx : Row Limit.cells 3 w.heap.size w a xs) (hc : xs.length ≤ cap) (hM : cap ≤ maxLen) :
    Calls Try.prog 22 #[.slice a xs.length cap] w fun e w' => e = .returned (.int .i64 (checkLimits xs)) ∧ Kept w w' := by
  unfold maxLen at hM
  unfold checkLimits
  by_cases hm : 12 < xs.length
  · rw [checkList_many hm]
    go_enter Try.func22, Try.ntmps22
    go_wp2
    go_ret
    exact ⟨rfl, Below.refl _ _⟩
  · go_enter Try.func22, Try.ntmps22
    go_wp2
    go_loopw [3] (fun i wr => Upto limitB xs w i wr) (fun i _ => xs.length - (intOf i).toNat)
    case atStart => exact ⟨0, Nat.zero_le _, rfl, by simp, Below.refl _ _⟩
    case round =>
      obtain ⟨k, hk, rfl, ha', hbel⟩ := hrel
      have ha := Lib.hid ha'
      clear ha'
      by_cases hlt : k < xs.length
      · obtain ⟨b, off, rfl, hb, h0, h1, h2⟩ := Limit.row (hx.later hbel (Nat.le_refl _)) k hlt
        cases c1 : limitB xs[k]
        all_goals
          go_wp2_with (first | (go_at_call 64; refine (r_limit xs[k] _).mono ?_; rintro e w1 ⟨rfl, hb1⟩; obtain ⟨hc1, hf1⟩ := bcell hb1))
        all_goals first
          | (go_ret; refine ⟨ret_int (checkList_bad hm k hlt ?_).symm, ?_⟩; (focus (simp [c1, *])); (repeat (first | exact Below.refl _ _ | assumption | (refine Kept.drop ?_ (by assumption)) | (refine Kept.alloc ?_ _) | (refine Below.setCell ?_ (by first | exact Nat.le_refl _ | (simp; done) | (simp; omega) | exact Below.size (by assumption)) _) | (refine Below.drew ?_))))
          | (go_round; (case rel => (refine ⟨k + 1, by omega, by go_num, take_all hlt ha.out ?_, ?_⟩; (focus (simp [c1, *])); (repeat (first | exact Below.refl _ _ | assumption | (refine Kept.drop ?_ (by assumption)) | (refine Kept.alloc ?_ _) | (refine Below.setCell ?_ (by first | exact Nat.le_refl _ | (simp; done) | (simp; omega) | exact Below.size (by assumption)) _) | (refine Below.drew ?_))))); (case measure => simp [intOf]; omega))
      · go_wp2
        go_ret
        exact ⟨ret_int (checkList_ok hm (by rw [← ha.out, List.take_of_length_le (by omega)])).symm, hbel⟩

theorem r_great (a b c d : Int) (w : World) :
    Calls Try.prog 18 #[.int .i64 a, .int .i64 b, .int .i64 c, .int .i64 d] w fun e w' => e = .returned (.bool (great a b c d)) ∧ w = w' := by
  go_enter Try.func18, Try.ntmps18
  go_wp2
  all_goals (go_ret; refine ⟨?_, rfl⟩; simp [great, *])
  all_goals omega

end Go.Proofs.Ytlloijkmpmfapaa

/-
  Regions that draw their order: first operations that only read or call (calls may make memory), then operations in one forced order (stores): one walk in the text's order. No program in sight.
-/
namespace Bal
open Go Go.RowKit

theorem Blk.new' {w : World} {n : Nat} {arr : Array Value} {t : TypeId} (h : n = w.heap.size) : Blk (w.alloc (.cells arr t)) n arr t := h ▸ Blk.new
/-- the world of a walk, by what is known of it alone -/
theorem at_world {P : Program} {c : Code} {Q : Exit → Act → World → Prop} {a : Act} {S : World → Prop} {W : World} (h : S W) (k : ∀ W, S W → c.wp P Q a W) : c.wp P Q a W := k W h
theorem Blk.later {w : World} {b : Nat} {arr : Array Value} {t : TypeId} (h : Blk w b arr t) (g : Later w) : Blk g.val b arr t := h.keep g.ok
theorem Blk.cast {w : World} {b : Nat} {arr arr' : Array Value} {t : TypeId} (h : Blk w b arr t) (e : arr = arr') : Blk w b arr' t := e ▸ h
/-- a block of the call's own, behind a contract -/
theorem Blk.thru {w w' : World} {b : Nat} {arr : Array Value} {t : TypeId} {G : Prop} (h : Blk w b arr t) (hb : Kept w w') (k : Blk w' b arr t → G) : G := k (h.keep hb)

/-! ### Facts on worlds and blocks, each by one tactic that is laid here once -/
theorem kpt {w w' : World} (h : Kept w w' := by (repeat (first | with_reducible exact Below.refl _ _ | with_reducible assumption | with_reducible refine Kept.drop ?_ (by with_reducible assumption) | with_reducible refine Kept.alloc ?_ _ | ((with_reducible refine Below.setCell ?_ ?_ _); rotate_left 1; (focus (first | exact Nat.le_refl _ | (simp; done) | (simp; omega) | exact Below.size (by with_reducible assumption) | (refine Kept.size ?_; (repeat (first | with_reducible exact Below.refl _ _ | with_reducible assumption | with_reducible refine Kept.drop ?_ (by with_reducible assumption) | with_reducible refine Kept.alloc ?_ _ | with_reducible refine Below.drew ?_)))))) | with_reducible refine Below.drew ?_))) : Kept w w' := h
theorem blk {w : World} {b : Nat} {arr : Array Value} {t : TypeId} (h : Blk w b arr t := by (repeat (first | with_reducible assumption | ((with_reducible refine Blk.new' ?_); first | with_reducible rfl | (simp; done) | (simp [World.drew]; done)) | with_reducible refine Blk.alloc ?_ _ | ((with_reducible refine Blk.set (arr := ?_) ?_ _ _); rotate_left 1) | ((with_reducible refine Blk.other ?_ ?_ _); rotate_left 1; (focus (first | (simp; done) | (simp; omega) | (refine Nat.ne_of_gt (Blk.lt (arr := ?_) (t := ?_) ?_); rotate_left 2; focus (repeat (first | with_reducible assumption | ((with_reducible refine Blk.new' ?_); first | with_reducible rfl | (simp; done) | (simp [World.drew]; done)) | with_reducible refine Blk.alloc ?_ _ | with_reducible refine Blk.keep ?_ (by with_reducible assumption) | with_reducible refine Blk.drew ?_))) | (refine Nat.ne_of_lt (Blk.lt (arr := ?_) (t := ?_) ?_); rotate_left 2; focus (repeat (first | with_reducible assumption | ((with_reducible refine Blk.new' ?_); first | with_reducible rfl | (simp; done) | (simp [World.drew]; done)) | with_reducible refine Blk.alloc ?_ _ | with_reducible refine Blk.keep ?_ (by with_reducible assumption) | with_reducible refine Blk.drew ?_)))))) | with_reducible refine Blk.keep ?_ (by with_reducible assumption) | with_reducible refine Blk.drew ?_))) : Blk w b arr t := h
theorem blkc {w : World} {b : Nat} {arr : Array Value} {t : TypeId} (h : Blk w b arr t := by (refine Blk.cast (arr := ?_) ?_ ?_; rotate_left 1; (focus (repeat (first | with_reducible assumption | ((with_reducible refine Blk.new' ?_); first | with_reducible rfl | (simp; done) | (simp [World.drew]; done)) | with_reducible refine Blk.alloc ?_ _ | ((with_reducible refine Blk.set (arr := ?_) ?_ _ _); rotate_left 1) | ((with_reducible refine Blk.other ?_ ?_ _); rotate_left 1; (focus (first | (simp; done) | (simp; omega) | (refine Nat.ne_of_gt (Blk.lt (arr := ?_) (t := ?_) ?_); rotate_left 2; focus (repeat (first | with_reducible assumption | ((with_reducible refine Blk.new' ?_); first | with_reducible rfl | (simp; done) | (simp [World.drew]; done)) | with_reducible refine Blk.alloc ?_ _ | with_reducible refine Blk.keep ?_ (by with_reducible assumption) | with_reducible refine Blk.drew ?_))) | (refine Nat.ne_of_lt (Blk.lt (arr := ?_) (t := ?_) ?_); rotate_left 2; focus (repeat (first | with_reducible assumption | ((with_reducible refine Blk.new' ?_); first | with_reducible rfl | (simp; done) | (simp [World.drew]; done)) | with_reducible refine Blk.alloc ?_ _ | with_reducible refine Blk.keep ?_ (by with_reducible assumption) | with_reducible refine Blk.drew ?_)))))) | with_reducible refine Blk.keep ?_ (by with_reducible assumption) | with_reducible refine Blk.drew ?_))); (first | rfl | (simp; done)))) : Blk w b arr t := h

section
variable {P : Program} {ops : Array Oper} {md : Region.Mode} {C : World → Prop}

/-- whatever order is picked of the first n operations -/
def wpHeadQ (P : Program) (md : Region.Mode) (ops : Array Oper) (C : World → Prop) (n : Nat) (L : Array Bool → Act → Prop) : Nat → Array Bool → Act → Prop
  | 0, listed, a => L listed a
  | f + 1, listed, a =>
    Region.ready md ops listed ≠ [] ∧ ∀ i ∈ Region.ready md ops listed, i < n ∧ qOp P ops C i (wpHeadQ P md ops C n L f (listed.setIfInBounds i true)) a

theorem wpAny_of_headQ {n g : Nat} {L : Array Bool → Act → Prop} {Q' : Exit → Act → World → Prop} (hL : ∀ listed a w, C w → L listed a → wpAny P md ops Q' g listed a w) :
    ∀ (f : Nat) (listed : Array Bool) (a : Act) (w : World), C w → wpHeadQ P md ops C n L f listed a → wpAny P md ops Q' (f + g) listed a w
  | 0, listed, a, w, hw, h => by rw [Nat.zero_add]; exact hL _ _ _ hw h
  | f + 1, listed, a, w, hw, h => by
    rw [show f + 1 + g = (f + g) + 1 by omega]
    exact ⟨fun h0 => absurd h0 h.1, fun i hi => wpOp_of_qOp hw (fun a' w' hw' h' => wpAny_of_headQ hL f _ a' w' hw' h') (h.2 i hi).2⟩

theorem wpHeadQ_first {n i : Nat} {oi : Oper} {v : Value} {L : Array Bool → Act → Prop} (hi : ops[i]? = some oi) (hsel : ∀ (j : Nat) (o : Oper) cs b, ops[j]? = some o → o.op ≠ .select cs b)
    (hs : Region.sinkB md ops n = true) (hc : Region.chainB md ops n = true) (hn : n < ops.size) (hin : i < n)
    (hdone : ∀ listed a, L listed a → ∀ j ∈ Region.ready md ops listed, n ≤ j) :
    ∀ (f : Nat) (listed : Array Bool) (a : Act), HeadInv md ops n listed →
      (∀ j oj, ops[j]? = some oj → j ≠ i → listed.getD j true = false → (∀ e ∈ oj.after, Region.binds md e = true → e.on ≠ i) → oi.apart ops oj = true) →
      i ∈ Region.ready md ops listed → YieldsIn P ops C oi v a →
      wpHeadQ P md ops C n L f (listed.setIfInBounds i true) (a.put oi.dst v) → wpHeadQ P md ops C n L (f + 1) listed a := by
  intro f
  induction f with
  | zero =>
    intro listed a inv _ hr hy H
    have hun := (mem_ready.1 hr).1
    refine ⟨fun h => (by rw [h] at hr; cases hr), fun j hj => ?_⟩
    have hjn : j < n := by
      rcases Nat.lt_or_ge j n with h | h
      · exact h
      · exact absurd hj (tail_waits hs hc hn inv _ i rfl hin hun j h)
    refine ⟨hjn, ?_⟩
    by_cases hji : j = i
    · subst hji; exact hy.qOp hi H
    · have := hdone _ _ H j (ready_mono hj hji)
      omega
  | succ f ih =>
    intro listed a inv hfree hr hy H
    have hun := (mem_ready.1 hr).1
    refine ⟨fun h => (by rw [h] at hr; cases hr), fun j hj => ?_⟩
    have hjn : j < n := by
      rcases Nat.lt_or_ge j n with h | h
      · exact h
      · exact absurd hj (tail_waits hs hc hn inv _ i rfl hin hun j h)
    refine ⟨hjn, ?_⟩
    by_cases hji : j = i
    · subst hji; exact hy.qOp hi H
    · have h1 := (H.2 j (ready_mono hj hji)).2
      obtain ⟨hjun, oj, hoj, hall⟩ := mem_ready.1 hj
      have hnot : ∀ e ∈ oj.after, Region.binds md e = true → e.on ≠ i := fun e he hb heq => by
        have h1 := hall e he hb
        rw [heq, getD_both hun] at h1
        cases h1
      have h2 := qOp_put hoj (hfree j oj hoj hji hjun hnot) (fun cs b => hsel i oi cs b hi) (fun cs b => hsel j oj cs b hoj) hy h1
      have hfree' : ∀ k ok, ops[k]? = some ok → k ≠ i → (listed.setIfInBounds j true).getD k true = false →
          (∀ e ∈ ok.after, Region.binds md e = true → e.on ≠ i) → oi.apart ops ok = true := fun k ok hk hki hun hno => by
        refine hfree k ok hk hki ?_ hno
        by_cases hjk : j = k
        · subst hjk; exact hjun
        · rw [getD_set_ne true hjk] at hun; exact hun
      refine qOp_mono (fun a' h3 => ih (listed.setIfInBounds j true) a' (inv.set hj hjn) hfree' (ready_mono hr (Ne.symm hji)) h3.1 ?_) h2
      rw [Array.setIfInBounds_comm _ _ hji]
      exact h3.2

theorem wpHeadQ_lex {n g : Nat} {Lq : Act → Prop} (hsel : Region.noSelect ops = true) (hs : Region.sinkB md ops n = true) (hc : Region.chainB md ops n = true) (hn : n < ops.size) :
    ∀ (l : List Oper) (k : Nat) (listed : Array Bool) (a : Act), (∀ j, j < l.length → l[j]? = ops[k + j]?) → k + l.length = n → HeadInv md ops n listed →
    Region.lexHead md ops g l.length k listed = true → wpQuiet P ops C Lq l a →
    wpHeadQ P md ops C n (fun listed' a' => Region.seqB md ops g n listed' = true ∧ Lq a') l.length listed a
  | [], k, listed, a, _, hk, _, hB, h => by
    have : k = n := by simpa using hk
    subst this
    exact ⟨by simpa [Region.lexHead] using hB, h⟩
  | o :: l, k, listed, a, hl, hk, inv, hB, h => by
    have h0 : ops[k]? = some o := by simpa using (hl 0 (by simp)).symm
    simp only [List.length_cons, Region.lexHead, Bool.and_eq_true] at hB
    obtain ⟨⟨hr, hf⟩, hB'⟩ := hB
    have hkn : k < n := by simp only [List.length_cons] at hk; omega
    have hr' : k ∈ Region.ready md ops listed := by simpa using hr
    have hst : qOp P ops C k (wpQuiet P ops C Lq l) a := by unfold qOp; simp only [h0]; exact h
    obtain ⟨v, hy, hK⟩ := yieldsIn_of_qOp h0 hst
    exact wpHeadQ_first h0 (Region.noSelect_spec hsel) hs hc hn hkn (fun listed' a' hL => seqB_ready hL.1) l.length listed a inv (Region.free_spec h0 hf) hr' hy
      (wpHeadQ_lex hsel hs hc hn l (k + 1) _ _ (fun j hj => by have := hl (j + 1) (by simp; omega); simpa [Nat.add_assoc, Nat.add_comm 1 j] using this) (by simp only [List.length_cons] at hk; omega) (inv.set hr' hkn) hB' hK)

/-- THE THEOREM: the first n operations quiet in the class, the rest in one forced order, from every world of the class. -/
theorem Later.tail {P : Program} {id : Nat} {Q : Exit → Act → World → Prop} {a : Act} {w : World} {l : List Oper} (n : Nat) (hm : P.follows .mixedOrders = true) (hB : Region.lexTailB .any l.toArray n = true)
    (h : wpQuiet P l.toArray (fun w' => ∃ g : Later w, w' = g.val) (fun a' => ∀ g : Later w, wpList P l.toArray Q (l.drop n) a' g.val) (l.take n) a) : (Code.region id l.toArray true).wp P Q a w := by
  simp only [Region.lexTailB, Bool.and_eq_true, decide_eq_true_eq] at hB
  obtain ⟨⟨⟨⟨hsel, hn⟩, hs⟩, hc⟩, hlex⟩ := hB
  have hn' : n < l.length := by simpa using hn
  have htl : (l.take n).length = n := by simp; omega
  have hdl : (l.drop n).length = l.toArray.size - n := by simp
  have inv0 : HeadInv .any l.toArray n (Array.replicate l.toArray.size false) :=
    ⟨by simp, fun j oj _ hl => (by rw [getD_replicate_false] at hl; cases hl), fun t _ ht => getD_in (by simpa using ht) (getD_replicate_false _ _)⟩
  have H := wpHeadQ_lex (md := .any) (g := l.toArray.size - n) hsel hs hc hn (l.take n) 0 _ a (fun j hj => by
    have hj' : j < n := by rw [htl] at hj; exact hj
    simp [hj']) (by simpa using htl) inv0 (by rw [htl]; exact hlex) h
  refine wp_region_any hm ?_
  have := wpAny_of_headQ (C := fun w' => ∃ g : Later w, w' = g.val) (Q' := Q) (g := l.toArray.size - n) (fun listed a' w' hw' hL => by
    obtain ⟨g, rfl⟩ := hw'
    have := wpAny_of_seq (md := .any) (Q' := Q) (l.drop n) n listed a' g.val (fun j => by simp [List.getElem?_drop]) (by rw [hdl]; exact hL.1) (hL.2 g)
    rwa [hdl] at this) _ _ _ { w with drawn := w.drawn + 1 } ⟨⟨w.drew, (Below.refl _ _).drew⟩, rfl⟩ H
  rw [htl, show n + (l.toArray.size - n) = l.toArray.size by omega] at this
  exact this
end
end Bal

/-
  Heaviness and moment, in the program and in the reference.
-/
namespace Go.Proofs.Ytlloijkmpmfapaa
open Go.RowKit Bal Bal.Trim
set_option linter.unusedVariables false
set_option linter.unusedSimpArgs false
set_option maxHeartbeats 400000

theorem s_min (a : Option Addr) (n cap : Nat) (xs : List Int) (w : World) (hn : xs.length = n) {B : Nat} (hx : Row icell 1 B w a xs) (h0 : 0 < n) (h1 : n ≤ 1000000) :
    Calls Try.prog 108 #[.slice a n cap] w fun e w' => e = .returned (.int .i64 (lmin xs)) ∧ w = w' := by
  subst hn
  obtain ⟨b, off, rfl, hb, c0⟩ := int_row hx 0 h0
  have c00 : w.cell? ⟨b, off, none⟩ = some (.int .i64 xs[0]) := by simpa using c0
  clear c0
  have hlt1 : (0 : Int) < xs.length := by omega
  go_enter Try.func108, Try.ntmps108
  go_wp2
  go_loop [3, 4] (fun m i => ∃ k : Nat, 0 < k ∧ k ≤ xs.length ∧ i = .int .i64 k ∧ m = .int .i64 (lmin (xs.take k))) (fun _ i => xs.length - (intOf i).toNat)
  case atStart => exact ⟨1, by omega, by omega, rfl, by cases xs with | nil => simp at h0 | cons x xs => simp [lmin]⟩
  case round =>
    obtain ⟨k, hk0, hk, rfl, rfl⟩ := hrel
    by_cases hlt : k < xs.length
    · obtain ⟨b', off', hab, _, ck⟩ := int_row hx k hlt
      simp only [Option.some.injEq, Addr.mk.injEq, and_true] at hab
      obtain ⟨rfl, rfl⟩ := hab
      have HT := Lib.hid (lmin_take hk0 hlt)
      go_wp2
      all_goals
        go_round
        case rel => exact ⟨k + 1, by omega, by omega, by go_num, by rw [HT.out, ite_min]⟩
        case measure => simp [intOf]; omega
    · go_wp2
      go_ret
      exact ⟨ret_int (by rw [List.take_of_length_le (by omega)]), rfl⟩

end Go.Proofs.Ytlloijkmpmfapaa

/-
  A slice that the call owns, beside blocks of another type. No program in sight.
-/
namespace Bal
open Go Go.RowKit
theorem Blk.grown {w w' : World} {b base k n : Nat} {arr : Array Value} {t e : TypeId} {v : Value} {xs : List Value} (h : Blk w b arr t) (ho : w.ownsRow base e k v n xs) (hne : t ≠ e) (hg : w.grownBy w' v.ownBlock) : Blk w' b arr t := by
  have hl := h.lt
  unfold Blk at *
  rw [hg.block b hl ?_]
  · exact h
  · intro he
    obtain ⟨_, ⟨rfl, _⟩ | ⟨g, cap, cur, rfl, _, hh, _⟩⟩ := ho
    · cases he
    · simp only [Value.ownBlock, Option.some.injEq] at he
      subst he
      rw [h] at hh
      simp only [Option.some.injEq, Obj.cells.injEq] at hh
      exact hne hh.2.1
theorem Kept.grown {w0 w w' : World} {base k n : Nat} {e : TypeId} {v : Value} {xs : List Value} (h : Kept w0 w) (ho : w.ownsRow base e k v n xs) (hb : w0.heap.size ≤ base) (hg : w.grownBy w' v.ownBlock) : Kept w0 w' := by
  refine Below.trans h ⟨hg.os, hg.tape, hg.output, hg.size, fun i hi => hg.block i (Nat.lt_of_lt_of_le hi h.size) fun he => ?_⟩
  obtain ⟨_, ⟨rfl, _⟩ | ⟨g, cap, cur, rfl, hbg, _, _⟩⟩ := ho
  · cases he
  · simp only [Value.ownBlock, Option.some.injEq] at he
    omega
theorem owns_set {w : World} {b base k n i : Nat} {arr : Array Value} {t e : TypeId} {v u : Value} {xs : List Value} (h : Blk w b arr t) (ho : w.ownsRow base e k v n xs) (hne : t ≠ e) : (w.setCell ⟨b, i, none⟩ u).ownsRow base e k v n xs := by
  obtain ⟨h1, h2 | ⟨g, cap, cur, hv, hg, hh, r⟩⟩ := ho
  · exact ⟨h1, .inl h2⟩
  · have hgb : g ≠ b := by
      intro he
      subst he
      unfold Blk at h
      rw [h] at hh
      simp only [Option.some.injEq, Obj.cells.injEq] at hh
      exact hne hh.2.1
    refine ⟨h1, .inr ⟨g, cap, cur, hv, hg, ?_, r⟩⟩
    have := Blk.other (w := w) (b := g) (arr := cur) (t := e) (a := ⟨b, i, none⟩) hh (by simpa using fun h => hgb h.symm) u
    exact this
end Bal

/-
  Rows of elements: parts of them, equal lists, what a call owns. No program in sight.
-/
namespace Bal
open Go Go.RowKit
/-- one element of a row as a row of its own -/
theorem Row.sub {α : Type} {enc : α → List Value} {k B : Nat} {w : World} {b off : Nat} {xs : List α} (h : Row enc k B w (some ⟨b, off, none⟩) xs) (i : Nat) (hi : i < xs.length) :
    Row enc k B w (some ⟨b, off + i * k, none⟩) [xs[i]] := by
  intro j x hx
  have hj : j = 0 := by
    have := (List.getElem?_eq_some_iff.1 hx).1
    simp at this; omega
  subst hj
  simp at hx
  subst hx
  obtain ⟨b', off', ha, hb, hc⟩ := h i xs[i] (by simp [hi])
  simp only [Option.some.injEq, Addr.mk.injEq, and_true] at ha
  obtain ⟨rfl, rfl⟩ := ha
  exact ⟨b, off + i * k, rfl, hb, fun j v hv => by rw [Nat.zero_mul, Nat.add_zero]; exact hc j v hv⟩
/-- the first elements of a row -/
theorem Row.take {α : Type} {enc : α → List Value} {k B : Nat} {w : World} {a : Option Addr} {xs : List α} (h : Row enc k B w a xs) (n : Nat) : Row enc k B w a (xs.take n) := by
  intro i x hx
  rw [List.getElem?_take] at hx
  split at hx
  · exact h i x hx
  · cases hx
theorem Row.one {α : Type} {enc : α → List Value} {k : Nat} {w : World} {b : Nat} {arr : Array Value} {t : TypeId} {x : α} (h : Blk w b arr t) (he : arr.toList = enc x) : Row enc k w.heap.size w (some ⟨b, 0, none⟩) [x] := by
  intro j y hy
  have hj : j = 0 := by
    have := (List.getElem?_eq_some_iff.1 hy).1
    simp at this; omega
  subst hj
  simp at hy
  subst hy
  exact ⟨b, 0, rfl, h.lt, fun j v hv => by simp only [Nat.zero_mul, Nat.zero_add]; rw [h.cell, ← Array.getElem?_toList, he]; exact hv⟩
/-- a block of several elements as a row -/
theorem Row.block {α : Type} {enc : α → List Value} {k : Nat} {w : World} {b : Nat} {arr : Array Value} {t : TypeId} {xs : List α} (he : ∀ x, (enc x).length = k) (h : Blk w b arr t) (ha : arr.toList = xs.flatMap enc) : Row enc k w.heap.size w (some ⟨b, 0, none⟩) xs := by
  intro i x hx
  refine ⟨b, 0, rfl, h.lt, fun j v hj => ?_⟩
  have hjk : j < k := by rw [← he x]; exact (List.getElem?_eq_some_iff.1 hj).1
  rw [h.cell, Nat.zero_add, ← Array.getElem?_toList, ha, flatMap_get he xs i x hx j hjk]
  exact hj
theorem cell_two_at {w : World} {n : Nat} (h : n = w.heap.size) (a b : Value) (t : TypeId) : ∀ j u, [a, b][j]? = some u → (w.alloc (.cells #[a, b] t)).cell? ((⟨n, 0, none⟩ : Addr).add j) = some u := h ▸ cell_two_new w a b t
theorem cell_one_at {w : World} {n : Nat} (h : n = w.heap.size) (a : Value) (t : TypeId) : ∀ j u, [a][j]? = some u → (w.alloc (.cells #[a] t)).cell? ((⟨n, 0, none⟩ : Addr).add j) = some u := by
  subst h
  intro j u hj
  have hj0 : j = 0 := by
    have := (List.getElem?_eq_some_iff.1 hj).1
    simp at this; omega
  subst hj0
  simp at hj
  subst hj
  simp [Addr.add]
theorem owns_lt {w : World} {base k n g : Nat} {e : TypeId} {v : Value} {xs : List Value} (ho : w.ownsRow base e k v n xs) (h : v.ownBlock = some g) : g < w.heap.size := by
  obtain ⟨_, ⟨rfl, _⟩ | ⟨g', cap, cur, rfl, _, hh, _⟩⟩ := ho
  · cases h
  · simp only [Value.ownBlock, Option.some.injEq] at h
    subst h
    rcases Nat.lt_or_ge g' w.heap.size with h' | h'
    · exact h'
    · rw [Array.getElem?_eq_none h'] at hh; cases hh
theorem owns_setB {w : World} {base k n b i : Nat} {e : TypeId} {v u : Value} {xs : List Value} (ho : w.ownsRow base e k v n xs) (hne : v.ownBlock ≠ some b) : (w.setCell ⟨b, i, none⟩ u).ownsRow base e k v n xs := by
  obtain ⟨h1, h2 | ⟨g, cap, cur, hv, hg, hh, r⟩⟩ := ho
  · exact ⟨h1, .inl h2⟩
  · refine ⟨h1, .inr ⟨g, cap, cur, hv, hg, ?_, r⟩⟩
    have hgb : b ≠ g := by
      rintro rfl
      exact hne (by rw [hv]; rfl)
    exact Blk.other (w := w) (b := g) (arr := cur) (t := e) (a := ⟨b, i, none⟩) hh (by simpa using hgb) u
/-- a slice that a call owns, as a row at an address; nil if it is empty and unmade -/
theorem owns_row {α : Type} {enc : α → List Value} {k base : Nat} {e : TypeId} {w : World} {v : Value} {xs : List α} (he : ∀ x, (enc x).length = k) (h : w.ownsRow base e k v xs.length (xs.flatMap enc)) :
    ∃ a cap, v = .slice a xs.length cap ∧ Row enc k w.heap.size w a xs ∧ xs.length ≤ cap ∧ cap ≤ maxLen := Row.of_owns he h
end Bal

/-
  Limits at work, in the program: the value of a put, the worst corner of a load, the worst choice.
-/
namespace Go.Proofs.Ytlloijkmpmfapaa
open Go.RowKit Bal Bal.Trim
set_option linter.unusedVariables false
set_option linter.unusedSimpArgs false
set_option maxHeartbeats 800000

set_option maxRecDepth 10000

theorem f_value (m : Limit) (p : Put) (w : World) (hm : limitB m = true) (hp : putB p) :
    Calls Try.prog 76 #[.agg #[.int .i64 m.a, .int .i64 m.b, .int .i64 m.c], .agg #[.int .i64 p.pos, .int .i64 p.wt]] w fun e w' => e = .returned (.int .i64 (vOf m p)) ∧ Kept w w' := by
  obtain ⟨⟨h1, h2⟩, ⟨h3, h4⟩, h5, h6⟩ := put_bd hm hp
  clear hm hp
  go_enter Try.func76, Try.ntmps76
  go_wp2
  go_ret
  exact ⟨rfl, by (exact kpt)⟩

/-- the best corner so far -/
def bestK (m : Limit) (x : Load) : Nat → Put
  | 0 => ⟨x.alo, x.wlo⟩
  | 1 => best1 m x
  | 2 => best2 m x
  | _ => best m x
def nextC (x : Load) : Nat → Put
  | 0 => ⟨x.ahi, x.wlo⟩
  | 1 => ⟨x.alo, x.whi⟩
  | _ => ⟨x.ahi, x.whi⟩
theorem bestK_succ (m : Limit) (x : Load) (k : Nat) (hk : k < 3) : bestK m x (k + 1) = better m (bestK m x k) (nextC x k) := by
  rcases (show k = 0 ∨ k = 1 ∨ k = 2 by omega) with rfl | rfl | rfl <;> rfl
theorem bestK_B {m : Limit} {x : Load} (h : loadB x = true) (k : Nat) : putB (bestK m x k) := by
  match k with
  | 0 => exact corner_B h (by simp [bestK, corners])
  | 1 => exact corner_B h (best1_mem m x)
  | 2 => exact corner_B h (best2_mem m x)
  | (n + 3) => exact corner_B h (best_mem m x)
theorem nextC_B {x : Load} (h : loadB x = true) (k : Nat) : putB (nextC x k) := by
  match k with
  | 0 => exact corner_B h (by simp [nextC, corners])
  | 1 => exact corner_B h (by simp [nextC, corners])
  | (n + 2) => exact corner_B h (by simp [nextC, corners])
theorem better_lt {m : Limit} {b p : Put} (h : vOf m b < vOf m p) : better m b p = p := if_pos h
theorem better_ge {m : Limit} {b p : Put} (h : ¬ vOf m b < vOf m p) : better m b p = b := if_neg h
def CornerW (w w1 : World) (m : Limit) (x : Load) (B : Put) (wr : World) : Prop :=
  Blk wr w.heap.size #[.int .i64 m.a, .int .i64 m.b, .int .i64 m.c] 126 ∧ Blk wr (w.heap.size + 1 + 1) #[.int .i64 0, .int .i64 0] 85 ∧ Blk wr (w.heap.size + 1 + 1 + 1) #[.int .i64 B.pos, .int .i64 B.wt] 85 ∧ Blk wr w1.heap.size #[.int .i64 x.ahi, .int .i64 x.wlo, .int .i64 x.alo, .int .i64 x.whi, .int .i64 x.ahi, .int .i64 x.whi] 85 ∧ Kept w wr
def CornerRel (w w1 : World) (m : Limit) (x : Load) (mo i : Value) (wr : World) : Prop :=
  ∃ (k : Nat) (B : Put), k ≤ 3 ∧ i = .int .i64 k ∧ B = bestK m x k ∧ mo = .int .i64 (vOf m B) ∧ CornerW w w1 m x B wr

theorem f_corner (m : Limit) (x : Load) (w : World) (hm : limitB m = true) (hx : loadB x = true) :
    Calls Try.prog 84 #[.agg #[.int .i64 m.a, .int .i64 m.b, .int .i64 m.c], .agg #[.int .i64 x.alo, .int .i64 x.ahi, .int .i64 x.wlo, .int .i64 x.whi]] w fun e w' => e = .returned (.tuple #[.agg #[.int .i64 (best m x).pos, .int .i64 (best m x).wt], .int .i64 (vOf m (best m x))]) ∧ Kept w w' := by
  have HM := Lib.hid hm
  have HX := Lib.hid hx
  have HB0 := Lib.hid (show putB ⟨x.alo, x.wlo⟩ from corner_B hx (by simp [corners]))
  clear hm hx
  go_enter Try.func84, Try.ntmps84
  go_wp2_with (go_at_call 76; (with_reducible refine (f_value m ⟨x.alo, x.wlo⟩ _ HM.out HB0.out).mono ?_); rintro e w1 ⟨rfl, hb1⟩; obtain ⟨hc1, hf1, hl1⟩ := bcell3 hb1; refine Blk.thru (b := w.heap.size + 1) (arr := ?_) (t := ?_) ?_ hb1 ?_; rotate_left 2; (focus (exact blk)); intro qx; have qxc0 := qx.cell 0; have qxf0 := qx.free 0; have qxc1 := qx.cell 1; have qxf1 := qx.free 1; have qxc2 := qx.cell 2; have qxf2 := qx.free 2; have qxc3 := qx.cell 3; have qxf3 := qx.free 3; have qxl := qx.lt; simp at qxc0 qxc1 qxc2 qxc3; refine Blk.thru (b := w.heap.size) (arr := ?_) (t := ?_) ?_ hb1 ?_; rotate_left 2; (focus (exact blk)); intro qs; have qsc0 := qs.cell 0; have qsf0 := qs.free 0; have qsc1 := qs.cell 1; have qsf1 := qs.free 1; have qsc2 := qs.cell 2; have qsf2 := qs.free 2; have qsl := qs.lt; simp at qsc0 qsc1 qsc2)
  go_loopw [7, 44] (fun mo i wr => CornerRel w w1 m x mo i wr) (fun _ i _ => 3 - (intOf i).toNat)
  case atStart => exact ⟨0, ⟨x.alo, x.wlo⟩, by omega, rfl, rfl, rfl, by (exact blk), by (exact blk), by (exact blkc), by (exact blkc), by (exact kpt)⟩
  case round =>
    clear hc1 hf1 hl1
    obtain ⟨k, Bk, hk3, rfl, hBk, rfl, q0, q2, q3, q4, hk⟩ := hrel
    by_cases hk' : k < 3
    · have HS := Lib.hid (bestK_succ m x k hk')
      have HB := Lib.hid (bestK_B (m := m) HX.out k)
      have HN := Lib.hid (nextC_B HX.out k)
      rw [← hBk] at HS HB
      clear hBk
      by_cases hc : vOf m Bk < vOf m (nextC x k)
      · have HC := Lib.hid (better_lt hc)
        rcases (show k = 0 ∨ k = 1 ∨ k = 2 by omega) with rfl | rfl | rfl
        · simp only [nextC] at hc HC HN HS
          have q0c0 := q0.cell 0
          have q0f0 := q0.free 0
          have q0c1 := q0.cell 1
          have q0f1 := q0.free 1
          have q0c2 := q0.cell 2
          have q0f2 := q0.free 2
          have q0l := q0.lt
          simp at q0c0 q0c1 q0c2
          have q2c0 := q2.cell 0
          have q2f0 := q2.free 0
          have q2c1 := q2.cell 1
          have q2f1 := q2.free 1
          have q2l := q2.lt
          simp at q2c0 q2c1
          have q3c0 := q3.cell 0
          have q3f0 := q3.free 0
          have q3c1 := q3.cell 1
          have q3f1 := q3.free 1
          have q3l := q3.lt
          simp at q3c0 q3c1
          have q4c0 := q4.cell 0
          have q4f0 := q4.free 0
          have q4c1 := q4.cell 1
          have q4f1 := q4.free 1
          have q4c2 := q4.cell 2
          have q4f2 := q4.free 2
          have q4c3 := q4.cell 3
          have q4f3 := q4.free 3
          have q4c4 := q4.cell 4
          have q4f4 := q4.free 4
          have q4c5 := q4.cell 5
          have q4f5 := q4.free 5
          have q4l := q4.lt
          simp at q4c0 q4c1 q4c2 q4c3 q4c4 q4c5
          go_wp2_with (first | (go_at_call 76; (with_reducible refine (f_value m ⟨x.ahi, x.wlo⟩ _ HM.out HN.out).mono ?_); rintro e w1 ⟨rfl, hb1⟩; obtain ⟨hc1, hf1, hl1⟩ := bcell3 hb1; refine Blk.thru (b := wr.heap.size) (arr := ?_) (t := ?_) ?_ hb1 ?_; rotate_left 2; (focus (exact blk)); intro qy; have qyc0 := qy.cell 0; have qyf0 := qy.free 0; have qyc1 := qy.cell 1; have qyf1 := qy.free 1; have qyl := qy.lt; simp at qyc0 qyc1) | (go_at_call 76; (with_reducible refine (f_value m ⟨x.alo, x.whi⟩ _ HM.out HN.out).mono ?_); rintro e w1 ⟨rfl, hb1⟩; obtain ⟨hc1, hf1, hl1⟩ := bcell3 hb1; refine Blk.thru (b := wr.heap.size) (arr := ?_) (t := ?_) ?_ hb1 ?_; rotate_left 2; (focus (exact blk)); intro qy; have qyc0 := qy.cell 0; have qyf0 := qy.free 0; have qyc1 := qy.cell 1; have qyf1 := qy.free 1; have qyl := qy.lt; simp at qyc0 qyc1) | (go_at_call 76; (with_reducible refine (f_value m ⟨x.ahi, x.whi⟩ _ HM.out HN.out).mono ?_); rintro e w1 ⟨rfl, hb1⟩; obtain ⟨hc1, hf1, hl1⟩ := bcell3 hb1; refine Blk.thru (b := wr.heap.size) (arr := ?_) (t := ?_) ?_ hb1 ?_; rotate_left 2; (focus (exact blk)); intro qy; have qyc0 := qy.cell 0; have qyf0 := qy.free 0; have qyc1 := qy.cell 1; have qyf1 := qy.free 1; have qyl := qy.lt; simp at qyc0 qyc1))
          go_round
          case rel => exact ⟨1, ⟨x.ahi, x.wlo⟩, by omega, by go_num, by rw [HS.out, HC.out], rfl, by (exact blk), by (exact blk), by (exact blkc), by (exact blk), by (exact kpt)⟩
          case measure => simp [intOf]
        · simp only [nextC] at hc HC HN HS
          have q0c0 := q0.cell 0
          have q0f0 := q0.free 0
          have q0c1 := q0.cell 1
          have q0f1 := q0.free 1
          have q0c2 := q0.cell 2
          have q0f2 := q0.free 2
          have q0l := q0.lt
          simp at q0c0 q0c1 q0c2
          have q2c0 := q2.cell 0
          have q2f0 := q2.free 0
          have q2c1 := q2.cell 1
          have q2f1 := q2.free 1
          have q2l := q2.lt
          simp at q2c0 q2c1
          have q3c0 := q3.cell 0
          have q3f0 := q3.free 0
          have q3c1 := q3.cell 1
          have q3f1 := q3.free 1
          have q3l := q3.lt
          simp at q3c0 q3c1
          have q4c0 := q4.cell 0
          have q4f0 := q4.free 0
          have q4c1 := q4.cell 1
          have q4f1 := q4.free 1
          have q4c2 := q4.cell 2
          have q4f2 := q4.free 2
          have q4c3 := q4.cell 3
          have q4f3 := q4.free 3
          have q4c4 := q4.cell 4
          have q4f4 := q4.free 4
          have q4c5 := q4.cell 5
          have q4f5 := q4.free 5
          have q4l := q4.lt
          simp at q4c0 q4c1 q4c2 q4c3 q4c4 q4c5
          go_wp2_with (first | (go_at_call 76; (with_reducible refine (f_value m ⟨x.ahi, x.wlo⟩ _ HM.out HN.out).mono ?_); rintro e w1 ⟨rfl, hb1⟩; obtain ⟨hc1, hf1, hl1⟩ := bcell3 hb1; refine Blk.thru (b := wr.heap.size) (arr := ?_) (t := ?_) ?_ hb1 ?_; rotate_left 2; (focus (exact blk)); intro qy; have qyc0 := qy.cell 0; have qyf0 := qy.free 0; have qyc1 := qy.cell 1; have qyf1 := qy.free 1; have qyl := qy.lt; simp at qyc0 qyc1) | (go_at_call 76; (with_reducible refine (f_value m ⟨x.alo, x.whi⟩ _ HM.out HN.out).mono ?_); rintro e w1 ⟨rfl, hb1⟩; obtain ⟨hc1, hf1, hl1⟩ := bcell3 hb1; refine Blk.thru (b := wr.heap.size) (arr := ?_) (t := ?_) ?_ hb1 ?_; rotate_left 2; (focus (exact blk)); intro qy; have qyc0 := qy.cell 0; have qyf0 := qy.free 0; have qyc1 := qy.cell 1; have qyf1 := qy.free 1; have qyl := qy.lt; simp at qyc0 qyc1) | (go_at_call 76; (with_reducible refine (f_value m ⟨x.ahi, x.whi⟩ _ HM.out HN.out).mono ?_); rintro e w1 ⟨rfl, hb1⟩; obtain ⟨hc1, hf1, hl1⟩ := bcell3 hb1; refine Blk.thru (b := wr.heap.size) (arr := ?_) (t := ?_) ?_ hb1 ?_; rotate_left 2; (focus (exact blk)); intro qy; have qyc0 := qy.cell 0; have qyf0 := qy.free 0; have qyc1 := qy.cell 1; have qyf1 := qy.free 1; have qyl := qy.lt; simp at qyc0 qyc1))
          go_round
          case rel => exact ⟨2, ⟨x.alo, x.whi⟩, by omega, by go_num, by rw [HS.out, HC.out], rfl, by (exact blk), by (exact blk), by (exact blkc), by (exact blk), by (exact kpt)⟩
          case measure => simp [intOf]
        · simp only [nextC] at hc HC HN HS
          have q0c0 := q0.cell 0
          have q0f0 := q0.free 0
          have q0c1 := q0.cell 1
          have q0f1 := q0.free 1
          have q0c2 := q0.cell 2
          have q0f2 := q0.free 2
          have q0l := q0.lt
          simp at q0c0 q0c1 q0c2
          have q2c0 := q2.cell 0
          have q2f0 := q2.free 0
          have q2c1 := q2.cell 1
          have q2f1 := q2.free 1
          have q2l := q2.lt
          simp at q2c0 q2c1
          have q3c0 := q3.cell 0
          have q3f0 := q3.free 0
          have q3c1 := q3.cell 1
          have q3f1 := q3.free 1
          have q3l := q3.lt
          simp at q3c0 q3c1
          have q4c0 := q4.cell 0
          have q4f0 := q4.free 0
          have q4c1 := q4.cell 1
          have q4f1 := q4.free 1
          have q4c2 := q4.cell 2
          have q4f2 := q4.free 2
          have q4c3 := q4.cell 3
          have q4f3 := q4.free 3
          have q4c4 := q4.cell 4
          have q4f4 := q4.free 4
          have q4c5 := q4.cell 5
          have q4f5 := q4.free 5
          have q4l := q4.lt
          simp at q4c0 q4c1 q4c2 q4c3 q4c4 q4c5
          go_wp2_with (first | (go_at_call 76; (with_reducible refine (f_value m ⟨x.ahi, x.wlo⟩ _ HM.out HN.out).mono ?_); rintro e w1 ⟨rfl, hb1⟩; obtain ⟨hc1, hf1, hl1⟩ := bcell3 hb1; refine Blk.thru (b := wr.heap.size) (arr := ?_) (t := ?_) ?_ hb1 ?_; rotate_left 2; (focus (exact blk)); intro qy; have qyc0 := qy.cell 0; have qyf0 := qy.free 0; have qyc1 := qy.cell 1; have qyf1 := qy.free 1; have qyl := qy.lt; simp at qyc0 qyc1) | (go_at_call 76; (with_reducible refine (f_value m ⟨x.alo, x.whi⟩ _ HM.out HN.out).mono ?_); rintro e w1 ⟨rfl, hb1⟩; obtain ⟨hc1, hf1, hl1⟩ := bcell3 hb1; refine Blk.thru (b := wr.heap.size) (arr := ?_) (t := ?_) ?_ hb1 ?_; rotate_left 2; (focus (exact blk)); intro qy; have qyc0 := qy.cell 0; have qyf0 := qy.free 0; have qyc1 := qy.cell 1; have qyf1 := qy.free 1; have qyl := qy.lt; simp at qyc0 qyc1) | (go_at_call 76; (with_reducible refine (f_value m ⟨x.ahi, x.whi⟩ _ HM.out HN.out).mono ?_); rintro e w1 ⟨rfl, hb1⟩; obtain ⟨hc1, hf1, hl1⟩ := bcell3 hb1; refine Blk.thru (b := wr.heap.size) (arr := ?_) (t := ?_) ?_ hb1 ?_; rotate_left 2; (focus (exact blk)); intro qy; have qyc0 := qy.cell 0; have qyf0 := qy.free 0; have qyc1 := qy.cell 1; have qyf1 := qy.free 1; have qyl := qy.lt; simp at qyc0 qyc1))
          go_round
          case rel => exact ⟨3, ⟨x.ahi, x.whi⟩, by omega, by go_num, by rw [HS.out, HC.out], rfl, by (exact blk), by (exact blk), by (exact blkc), by (exact blk), by (exact kpt)⟩
          case measure => simp [intOf]
      · have HC := Lib.hid (better_ge hc)
        rcases (show k = 0 ∨ k = 1 ∨ k = 2 by omega) with rfl | rfl | rfl
        · simp only [nextC] at hc HC HN HS
          have q0c0 := q0.cell 0
          have q0f0 := q0.free 0
          have q0c1 := q0.cell 1
          have q0f1 := q0.free 1
          have q0c2 := q0.cell 2
          have q0f2 := q0.free 2
          have q0l := q0.lt
          simp at q0c0 q0c1 q0c2
          have q2c0 := q2.cell 0
          have q2f0 := q2.free 0
          have q2c1 := q2.cell 1
          have q2f1 := q2.free 1
          have q2l := q2.lt
          simp at q2c0 q2c1
          have q3c0 := q3.cell 0
          have q3f0 := q3.free 0
          have q3c1 := q3.cell 1
          have q3f1 := q3.free 1
          have q3l := q3.lt
          simp at q3c0 q3c1
          have q4c0 := q4.cell 0
          have q4f0 := q4.free 0
          have q4c1 := q4.cell 1
          have q4f1 := q4.free 1
          have q4c2 := q4.cell 2
          have q4f2 := q4.free 2
          have q4c3 := q4.cell 3
          have q4f3 := q4.free 3
          have q4c4 := q4.cell 4
          have q4f4 := q4.free 4
          have q4c5 := q4.cell 5
          have q4f5 := q4.free 5
          have q4l := q4.lt
          simp at q4c0 q4c1 q4c2 q4c3 q4c4 q4c5
          go_wp2_with (first | (go_at_call 76; (with_reducible refine (f_value m ⟨x.ahi, x.wlo⟩ _ HM.out HN.out).mono ?_); rintro e w1 ⟨rfl, hb1⟩; obtain ⟨hc1, hf1, hl1⟩ := bcell3 hb1; refine Blk.thru (b := wr.heap.size) (arr := ?_) (t := ?_) ?_ hb1 ?_; rotate_left 2; (focus (exact blk)); intro qy; have qyc0 := qy.cell 0; have qyf0 := qy.free 0; have qyc1 := qy.cell 1; have qyf1 := qy.free 1; have qyl := qy.lt; simp at qyc0 qyc1) | (go_at_call 76; (with_reducible refine (f_value m ⟨x.alo, x.whi⟩ _ HM.out HN.out).mono ?_); rintro e w1 ⟨rfl, hb1⟩; obtain ⟨hc1, hf1, hl1⟩ := bcell3 hb1; refine Blk.thru (b := wr.heap.size) (arr := ?_) (t := ?_) ?_ hb1 ?_; rotate_left 2; (focus (exact blk)); intro qy; have qyc0 := qy.cell 0; have qyf0 := qy.free 0; have qyc1 := qy.cell 1; have qyf1 := qy.free 1; have qyl := qy.lt; simp at qyc0 qyc1) | (go_at_call 76; (with_reducible refine (f_value m ⟨x.ahi, x.whi⟩ _ HM.out HN.out).mono ?_); rintro e w1 ⟨rfl, hb1⟩; obtain ⟨hc1, hf1, hl1⟩ := bcell3 hb1; refine Blk.thru (b := wr.heap.size) (arr := ?_) (t := ?_) ?_ hb1 ?_; rotate_left 2; (focus (exact blk)); intro qy; have qyc0 := qy.cell 0; have qyf0 := qy.free 0; have qyc1 := qy.cell 1; have qyf1 := qy.free 1; have qyl := qy.lt; simp at qyc0 qyc1))
          go_round
          case rel => exact ⟨1, Bk, by omega, by go_num, by rw [HS.out, HC.out], rfl, by (exact blk), by (exact blk), by (exact blk), by (exact blk), by (exact kpt)⟩
          case measure => simp [intOf]
        · simp only [nextC] at hc HC HN HS
          have q0c0 := q0.cell 0
          have q0f0 := q0.free 0
          have q0c1 := q0.cell 1
          have q0f1 := q0.free 1
          have q0c2 := q0.cell 2
          have q0f2 := q0.free 2
          have q0l := q0.lt
          simp at q0c0 q0c1 q0c2
          have q2c0 := q2.cell 0
          have q2f0 := q2.free 0
          have q2c1 := q2.cell 1
          have q2f1 := q2.free 1
          have q2l := q2.lt
          simp at q2c0 q2c1
          have q3c0 := q3.cell 0
          have q3f0 := q3.free 0
          have q3c1 := q3.cell 1
          have q3f1 := q3.free 1
          have q3l := q3.lt
          simp at q3c0 q3c1
          have q4c0 := q4.cell 0
          have q4f0 := q4.free 0
          have q4c1 := q4.cell 1
          have q4f1 := q4.free 1
          have q4c2 := q4.cell 2
          have q4f2 := q4.free 2
          have q4c3 := q4.cell 3
          have q4f3 := q4.free 3
          have q4c4 := q4.cell 4
          have q4f4 := q4.free 4
          have q4c5 := q4.cell 5
          have q4f5 := q4.free 5
          have q4l := q4.lt
          simp at q4c0 q4c1 q4c2 q4c3 q4c4 q4c5
          go_wp2_with (first | (go_at_call 76; (with_reducible refine (f_value m ⟨x.ahi, x.wlo⟩ _ HM.out HN.out).mono ?_); rintro e w1 ⟨rfl, hb1⟩; obtain ⟨hc1, hf1, hl1⟩ := bcell3 hb1; refine Blk.thru (b := wr.heap.size) (arr := ?_) (t := ?_) ?_ hb1 ?_; rotate_left 2; (focus (exact blk)); intro qy; have qyc0 := qy.cell 0; have qyf0 := qy.free 0; have qyc1 := qy.cell 1; have qyf1 := qy.free 1; have qyl := qy.lt; simp at qyc0 qyc1) | (go_at_call 76; (with_reducible refine (f_value m ⟨x.alo, x.whi⟩ _ HM.out HN.out).mono ?_); rintro e w1 ⟨rfl, hb1⟩; obtain ⟨hc1, hf1, hl1⟩ := bcell3 hb1; refine Blk.thru (b := wr.heap.size) (arr := ?_) (t := ?_) ?_ hb1 ?_; rotate_left 2; (focus (exact blk)); intro qy; have qyc0 := qy.cell 0; have qyf0 := qy.free 0; have qyc1 := qy.cell 1; have qyf1 := qy.free 1; have qyl := qy.lt; simp at qyc0 qyc1) | (go_at_call 76; (with_reducible refine (f_value m ⟨x.ahi, x.whi⟩ _ HM.out HN.out).mono ?_); rintro e w1 ⟨rfl, hb1⟩; obtain ⟨hc1, hf1, hl1⟩ := bcell3 hb1; refine Blk.thru (b := wr.heap.size) (arr := ?_) (t := ?_) ?_ hb1 ?_; rotate_left 2; (focus (exact blk)); intro qy; have qyc0 := qy.cell 0; have qyf0 := qy.free 0; have qyc1 := qy.cell 1; have qyf1 := qy.free 1; have qyl := qy.lt; simp at qyc0 qyc1))
          go_round
          case rel => exact ⟨2, Bk, by omega, by go_num, by rw [HS.out, HC.out], rfl, by (exact blk), by (exact blk), by (exact blk), by (exact blk), by (exact kpt)⟩
          case measure => simp [intOf]
        · simp only [nextC] at hc HC HN HS
          have q0c0 := q0.cell 0
          have q0f0 := q0.free 0
          have q0c1 := q0.cell 1
          have q0f1 := q0.free 1
          have q0c2 := q0.cell 2
          have q0f2 := q0.free 2
          have q0l := q0.lt
          simp at q0c0 q0c1 q0c2
          have q2c0 := q2.cell 0
          have q2f0 := q2.free 0
          have q2c1 := q2.cell 1
          have q2f1 := q2.free 1
          have q2l := q2.lt
          simp at q2c0 q2c1
          have q3c0 := q3.cell 0
          have q3f0 := q3.free 0
          have q3c1 := q3.cell 1
          have q3f1 := q3.free 1
          have q3l := q3.lt
          simp at q3c0 q3c1
          have q4c0 := q4.cell 0
          have q4f0 := q4.free 0
          have q4c1 := q4.cell 1
          have q4f1 := q4.free 1
          have q4c2 := q4.cell 2
          have q4f2 := q4.free 2
          have q4c3 := q4.cell 3
          have q4f3 := q4.free 3
          have q4c4 := q4.cell 4
          have q4f4 := q4.free 4
          have q4c5 := q4.cell 5
          have q4f5 := q4.free 5
          have q4l := q4.lt
          simp at q4c0 q4c1 q4c2 q4c3 q4c4 q4c5
          go_wp2_with (first | (go_at_call 76; (with_reducible refine (f_value m ⟨x.ahi, x.wlo⟩ _ HM.out HN.out).mono ?_); rintro e w1 ⟨rfl, hb1⟩; obtain ⟨hc1, hf1, hl1⟩ := bcell3 hb1; refine Blk.thru (b := wr.heap.size) (arr := ?_) (t := ?_) ?_ hb1 ?_; rotate_left 2; (focus (exact blk)); intro qy; have qyc0 := qy.cell 0; have qyf0 := qy.free 0; have qyc1 := qy.cell 1; have qyf1 := qy.free 1; have qyl := qy.lt; simp at qyc0 qyc1) | (go_at_call 76; (with_reducible refine (f_value m ⟨x.alo, x.whi⟩ _ HM.out HN.out).mono ?_); rintro e w1 ⟨rfl, hb1⟩; obtain ⟨hc1, hf1, hl1⟩ := bcell3 hb1; refine Blk.thru (b := wr.heap.size) (arr := ?_) (t := ?_) ?_ hb1 ?_; rotate_left 2; (focus (exact blk)); intro qy; have qyc0 := qy.cell 0; have qyf0 := qy.free 0; have qyc1 := qy.cell 1; have qyf1 := qy.free 1; have qyl := qy.lt; simp at qyc0 qyc1) | (go_at_call 76; (with_reducible refine (f_value m ⟨x.ahi, x.whi⟩ _ HM.out HN.out).mono ?_); rintro e w1 ⟨rfl, hb1⟩; obtain ⟨hc1, hf1, hl1⟩ := bcell3 hb1; refine Blk.thru (b := wr.heap.size) (arr := ?_) (t := ?_) ?_ hb1 ?_; rotate_left 2; (focus (exact blk)); intro qy; have qyc0 := qy.cell 0; have qyf0 := qy.free 0; have qyc1 := qy.cell 1; have qyf1 := qy.free 1; have qyl := qy.lt; simp at qyc0 qyc1))
          go_round
          case rel => exact ⟨3, Bk, by omega, by go_num, by rw [HS.out, HC.out], rfl, by (exact blk), by (exact blk), by (exact blk), by (exact blk), by (exact kpt)⟩
          case measure => simp [intOf]
    · obtain rfl : k = 3 := by omega
      have q2c0 := q2.cell 0
      have q2f0 := q2.free 0
      have q2c1 := q2.cell 1
      have q2f1 := q2.free 1
      have q2l := q2.lt
      simp at q2c0 q2c1
      have q3c0 := q3.cell 0
      have q3f0 := q3.free 0
      have q3c1 := q3.cell 1
      have q3f1 := q3.free 1
      have q3l := q3.lt
      simp at q3c0 q3c1
      obtain rfl : Bk = best m x := hBk
      go_wp2
      exact bodyPost_ret (v := .tuple #[.agg #[.int .i64 (best m x).pos, .int .i64 (best m x).wt], .int .i64 (vOf m (best m x))]) (by simp [results, Try.results84, go_sem, q2c0, q2c1, q2f0, q2f1, q3c0, q3c1, q2l, q3l]) rfl ⟨rfl, by (exact kpt)⟩

theorem infoP : (Try.prog.info? 85).map (fun i => (i.zero, i.size, i.bytes)) = some (some (.agg #[.int .i64 0, .int .i64 0]), 2, 16) := by kernel_rfl
def WorstRel (w : World) (m : Limit) (xs : List Load) (s cv i : Value) (wr : World) : Prop :=
  ∃ k : Nat, k ≤ xs.length ∧ i = .int .i64 k ∧ s = .int .i64 (sumBy (fun x => vOf m (best m x)) (xs.take k)) ∧ wr.ownsRow w.heap.size 85 2 cv k ((choice m (xs.take k)).flatMap Put.cells) ∧ Kept w wr
theorem choice_snoc (m : Limit) (xs : List Load) (k : Nat) (hk : k < xs.length) : (choice m (xs.take (k + 1))).flatMap Put.cells = (choice m (xs.take k)).flatMap Put.cells ++ [.int .i64 (best m xs[k]).pos, .int .i64 (best m xs[k]).wt] := by
  rw [List.take_succ_eq_append_getElem hk]
  simp only [choice, List.map_append, List.map_cons, List.map_nil, List.flatMap_append, List.flatMap_cons, List.flatMap_nil, List.append_nil]
  rfl

theorem f_worst (m : Limit) (a : Option Addr) (cap : Nat) (xs : List Load) (w : World) (hx : Row Load.cells 4 w.heap.size w a xs) (hc : xs.length ≤ cap) (hM : cap ≤ maxLen) (hn : xs.length ≤ 40) (hm : limitB m = true) (hv : ∀ x ∈ xs, loadB x = true) :
    Calls Try.prog 83 #[.slice a xs.length cap, .func (.func 84) #[.agg #[.int .i64 m.a, .int .i64 m.b, .int .i64 m.c]] #[]] w fun e w' =>
      ∃ v, e = .returned (.tuple #[.int .i64 (worstV m xs), v]) ∧ w'.ownsRow w.heap.size 85 2 v (choice m xs).length ((choice m xs).flatMap Put.cells) ∧ Kept w w' := by
  unfold maxLen at hM
  have HSUM := Lib.hid (fun k => sumBy_take_bd (fun x => vOf m (best m x)) 22000000000000000 880000000000000000 xs 40 hn (by omega) (by omega) (fun x h => best_bd hm (hv x h)) k)
  have HW := Lib.hid (worstV_eq m xs)
  have HM := Lib.hid hm
  have HV := Lib.hid hv
  clear hm hv
  go_enter Try.func83, Try.ntmps83
  go_wp2
  go_loopw [6, 7, 14] (fun s cv i wr => WorstRel w m xs s cv i wr) (fun _ _ i _ => xs.length - (intOf i).toNat)
  case atStart => exact ⟨0, Nat.zero_le _, rfl, rfl, owns_nil (α := Put) (enc := Put.cells), Below.refl _ _⟩
  case round =>
    obtain ⟨k, hk, rfl, rfl, hown, hkk⟩ := hrel
    by_cases hlt : k < xs.length
    · obtain ⟨b, off, rfl, hb, h0, h1, h2, h3⟩ := Load.row (hx.later hkk (Nat.le_refl _)) k hlt
      obtain ⟨u1, u2⟩ := HSUM.out k
      have HX := Lib.hid (HV.out xs[k] (List.getElem_mem hlt))
      obtain ⟨u3, u4⟩ := best_bd HM.out HX.out
      have hks := hkk.size
      go_wp2_with (first | (go_at_call 84; (with_reducible refine (f_corner m xs[k] _ HM.out HX.out).mono ?_); rintro e w1 ⟨rfl, hb1⟩; obtain ⟨hc1, hf1, hl1⟩ := bcell3 hb1; have hs1 := hb1.size; simp at hs1) | (at_builtin; obtain ⟨i0, hi, hz0, hz1, hz2⟩ := info_parts infoP; refine wpList_append_own _ rfl _ _ 34 rfl w.heap.size 85 i0 (.agg #[.int .i64 0, .int .i64 0]) 2 16 Try.underlying34 hi hz0 hz1 hz2 rfl (by decide) _ _ _ rfl (((owns_keep (hown.alloc _) hb1).alloc _).alloc _) ⟨w1.heap.size + 1, 0, none⟩ 1 1 [.int .i64 (best m xs[k]).pos, .int .i64 (best m xs[k]).wt] rfl rfl (cell_two_at (by simp) _ _ _) (fun x hx => by simp at hx; rcases hx with rfl | rfl <;> rfl) (by unfold maxLen; omega) (by omega) (by simp; omega) ?_; intro v' w3 hown' hgrow hnil; clear hi hz0 hz1 hz2))
      have hk3 : Kept w w3 := Kept.grown (Kept.alloc (Kept.alloc (Kept.drop (Kept.alloc hkk _) hb1) _) _) (((owns_keep (hown.alloc _) hb1).alloc _).alloc _) (Nat.le_refl _) hgrow
      go_roundw
      case rel =>
        have hown2 : w3.ownsRow w.heap.size 85 2 v' (k + 1) ((choice m (xs.take (k + 1))).flatMap Put.cells) := by rw [choice_snoc m xs k hlt]; exact hown'
        first
        | exact ⟨k + 1, by omega, by go_num, by rw [sumBy_take _ _ _ hlt], hown2, hk3⟩
        | (apply Exists.intro; repeat (apply Exists.intro); refine ⟨?_, rfl⟩; exact ⟨k + 1, by omega, by go_num, by rw [sumBy_take _ _ _ hlt], hown2, hk3⟩)
      case measure => simp [intOf]; omega
    · obtain rfl : k = xs.length := by omega
      rw [List.take_length] at hown
      have hown2 := hown
      rw [show xs.length = (choice m xs).length from (choice_len m xs).symm] at hown2
      obtain ⟨ad, cp, rfl, _⟩ := owns_row (enc := Put.cells) (k := 2) (fun _ => rfl) hown2
      go_wp2
      exact bodyPost_ret (v := .tuple #[.int .i64 (sumBy (fun x => vOf m (best m x)) (xs.take xs.length)), .slice ad (choice m xs).length cp]) (by simp [results, Try.results83, go_sem]) rfl ⟨_, by rw [HW.out, List.take_length], hown2, hkk⟩

end Go.Proofs.Ytlloijkmpmfapaa

/-
  A region that draws its order, walked once in an order that is told: first operations that need no world, then operations that only read or call (calls may make memory), then the rest in one forced order. No program in sight.
-/
namespace Bal
open Go Go.RowKit

section
variable {P : Program} {ops : Array Oper} {md : Region.Mode} {C : World → Prop}

def ordTail (md : Region.Mode) (ops : Array Oper) : List Nat → Array Bool → Bool
  | [], listed => (Region.ready md ops listed).isEmpty
  | k :: r, listed => decide (Region.ready md ops listed = [k]) && ordTail md ops r (listed.setIfInBounds k true)
def sinkOrd (md : Region.Mode) (ops : Array Oper) (t0 : Nat) : List Nat → Bool
  | [] => true
  | i :: r => ((r ++ [t0]).any fun j => Region.waitsFor md ops j i) && sinkOrd md ops t0 r
def chainOrd (md : Region.Mode) (ops : Array Oper) : Nat → List Nat → Bool
  | _, [] => true
  | a, b :: r => Region.waitsFor md ops b a && chainOrd md ops b r
structure OrdInv (md : Region.Mode) (ops : Array Oper) (hd tl : List Nat) (listed : Array Bool) : Prop where
  size : listed.size = ops.size
  closed : ∀ j oj, ops[j]? = some oj → listed.getD j false = true → ∀ e ∈ oj.after, Region.binds md e = true → listed.getD e.on false = true
  tail : ∀ t, t ∈ tl → listed.getD t true = false
  cover : ∀ j, listed.getD j true = false → j ∈ hd ∨ j ∈ tl

theorem OrdInv.set {hd tl : List Nat} {listed : Array Bool} {i : Nat} (inv : OrdInv md ops hd tl listed) (hi : i ∈ Region.ready md ops listed) (hn : i ∉ tl) : OrdInv md ops hd tl (listed.setIfInBounds i true) := by
  obtain ⟨_, oi, hoi, hall⟩ := mem_ready.1 hi
  refine ⟨by simp [inv.size], fun j oj hj hl e he hb => ?_, fun t ht => ?_, fun j hj => ?_⟩
  · by_cases hij : i = j
    · subst hij
      have : oj = oi := Option.some.inj (hj.symm.trans hoi)
      subst this
      exact getD_set_true (hall e he hb)
    · rw [getD_set_ne false hij] at hl
      exact getD_set_true (inv.closed j oj hj hl e he hb)
  · rw [getD_set_ne true (fun e => hn (by rw [e]; exact ht))]; exact inv.tail t ht
  · by_cases hij : i = j
    · subst hij
      exfalso
      rcases Nat.lt_or_ge i listed.size with h' | h'
      · simp [h'] at hj
      · simp [Array.getElem?_eq_none (by simpa using h' : (listed.setIfInBounds i true).size ≤ i)] at hj
    · rw [getD_set_ne true hij] at hj
      exact inv.cover j hj

theorem sink_waits {hd tl : List Nat} {t0 : Nat} {listed : Array Bool} (inv : OrdInv md ops hd (t0 :: tl) listed) :
    ∀ (s : List Nat), sinkOrd md ops t0 s = true → ∀ i ∈ s, listed.getD i true = false → t0 ∉ Region.ready md ops listed
  | [], _, _, hi, _ => by cases hi
  | x :: r, hs, i, hi, hun => by
    simp only [sinkOrd, Bool.and_eq_true] at hs
    obtain ⟨h1, h2⟩ := hs
    rcases List.mem_cons.1 hi with rfl | hi
    · obtain ⟨j, hj, hw⟩ := List.any_eq_true.1 h1
      obtain ⟨oj, hoj, e, he, hb, hon⟩ := Region.waitsFor_spec hw
      rcases List.mem_append.1 hj with hj | hj
      · cases hl : listed.getD j false with
        | true =>
          have h3 := inv.closed j oj hoj hl e he hb
          rw [hon, getD_both hun] at h3
          cases h3
        | false =>
          have hjs : j < listed.size := by rw [inv.size]; exact (Array.getElem?_eq_some_iff.1 hoj).1
          exact sink_waits inv r h2 j hj (getD_in hjs hl)
      · have : j = t0 := by simpa using hj
        subst this
        intro hr
        obtain ⟨_, o', ho', hall⟩ := mem_ready.1 hr
        have : oj = o' := Option.some.inj (hoj.symm.trans ho')
        subst this
        have h3 := hall e he hb
        rw [hon, getD_both hun] at h3
        cases h3
    · exact sink_waits inv r h2 i hi hun

theorem chain_mem : ∀ (tl : List Nat) (t0 : Nat), chainOrd md ops t0 tl = true → ∀ t ∈ tl, ∃ t' ∈ t0 :: tl, Region.waitsFor md ops t t' = true
  | [], _, _, t, ht => by cases ht
  | b :: r, t0, hc, t, ht => by
    simp only [chainOrd, Bool.and_eq_true] at hc
    rcases List.mem_cons.1 ht with rfl | ht
    · exact ⟨t0, by simp, hc.1⟩
    · obtain ⟨t', h1, h2⟩ := chain_mem r b hc.2 t ht
      exact ⟨t', List.mem_cons_of_mem _ h1, h2⟩

theorem wpAny_of_ordTail {Q' : Exit → Act → World → Prop} : ∀ (tl : List Nat) (l : List Oper) (listed : Array Bool) (a : Act) (w : World), tl.map (ops[·]?) = l.map some →
    ordTail md ops tl listed = true → wpList P ops Q' l a w → wpAny P md ops Q' l.length listed a w
  | [], [], _, _, _, _, hB, h => ⟨by simpa [ordTail] using hB, h⟩
  | [], _ :: _, _, _, _, hm, _, _ => by simp at hm
  | _ :: _, [], _, _, _, hm, _, _ => by simp at hm
  | k :: tl, o :: l, listed, a, w, hm, hB, h => by
    simp only [List.map_cons, List.cons.injEq] at hm
    obtain ⟨h0, hm'⟩ := hm
    simp only [ordTail, Bool.and_eq_true, decide_eq_true_eq] at hB
    refine ⟨fun h1 => (by rw [hB.1] at h1; cases h1), fun i hi => ?_⟩
    rw [hB.1] at hi
    have hik : i = k := by simpa using hi
    subst hik
    have hw : wpOp P ops Q' i (wpList P ops Q' l) a w := by unfold wpOp; simp only [h0]; exact h
    exact wpOp_mono (fun a' w' h' => wpAny_of_ordTail tl l _ a' w' hm' hB.2 h') hw

theorem filterMap_ok {l : List Oper} : ∀ (is : List Nat), (∀ i ∈ is, i < l.length) → is.map (l.toArray[·]?) = (is.filterMap (l[·]?)).map some ∧ (is.filterMap (l[·]?)).length = is.length
  | [], _ => ⟨rfl, rfl⟩
  | i :: is, h => by
    have hi := h i (by simp)
    obtain ⟨h1, h2⟩ := filterMap_ok is (fun j hj => h j (by simp [hj]))
    have e : l[i]? = some l[i] := by simp [hi]
    refine ⟨?_, ?_⟩
    · rw [List.map_cons, h1, List.filterMap_cons, e]
      simp [hi]
    · rw [List.filterMap_cons, e]
      simp [h2]

/-! ### The same, with operations that need no world among the others -/

/-- is one of hd yet to come? -/
def pendB (hd : List Nat) (listed : Array Bool) : Bool := hd.any fun i => !(listed.getD i true)

theorem pendB_false {hd : List Nat} {listed : Array Bool} (h : pendB hd listed = false) : ∀ i ∈ hd, listed.getD i true = true := fun i hi => by
  unfold pendB at h
  have := List.any_eq_false.1 h i hi
  simpa using this
theorem pendB_true {hd : List Nat} {listed : Array Bool} (h : pendB hd listed = true) : ∃ i ∈ hd, listed.getD i true = false := by
  unfold pendB at h
  obtain ⟨i, hi, h'⟩ := List.any_eq_true.1 h
  exact ⟨i, hi, by simpa using h'⟩

/-- whatever order is picked: while one of hd is yet to come only operations of hd and of wl may come up; then it is as the worlds of the class have it -/
def wpMix (P : Program) (md : Region.Mode) (ops : Array Oper) (C : World → Prop) (Q : Exit → Act → World → Prop) (hd wl : List Nat) : Nat → Array Bool → Act → Prop
  | 0, listed, a => ∀ w, C w → wpAny P md ops Q 0 listed a w
  | f + 1, listed, a =>
    (pendB hd listed = true → Region.ready md ops listed ≠ [] ∧ ∀ i ∈ Region.ready md ops listed, (i ∈ hd ∨ i ∈ wl) ∧ qOp P ops C i (wpMix P md ops C Q hd wl f (listed.setIfInBounds i true)) a) ∧
    (pendB hd listed = false → (∀ w, C w → wpAny P md ops Q (f + 1) listed a w) ∧ ∀ i ∈ Region.ready md ops listed, i ∈ wl → qOp P ops C i (wpMix P md ops C Q hd wl f (listed.setIfInBounds i true)) a)

theorem wpAny_of_mix {hd wl : List Nat} {Q : Exit → Act → World → Prop} : ∀ (f : Nat) (listed : Array Bool) (a : Act), wpMix P md ops C Q hd wl f listed a → ∀ w, C w → wpAny P md ops Q f listed a w
  | 0, _, _, h, w, hw => h w hw
  | f + 1, listed, a, h, w, hw => by
    cases hp : pendB hd listed with
    | true =>
      obtain ⟨h1, h2⟩ := h.1 hp
      exact ⟨fun h0 => absurd h0 h1, fun i hi => wpOp_of_qOp hw (fun a' w' hw' h' => wpAny_of_mix f _ a' h' w' hw') (h2 i hi).2⟩
    | false => exact (h.2 hp).1 w hw

/-- what is known of an operation that is taken: its value in the class; if it is one of wl, in whatever world -/
def Taken (P : Program) (ops : Array Oper) (C : World → Prop) (wl : List Nat) (i : Nat) (o : Oper) (v : Value) (a : Act) : Prop := YieldsIn P ops C o v a ∧ (i ∈ wl → Yields P ops o v a)

theorem Yields.inClass {o : Oper} {v : Value} {a : Act} (h : Yields P ops o v a) : YieldsIn P ops C o v a := by
  rcases h with ⟨h1, h2⟩ | h
  · exact .inl ⟨h1, fun w _ => by unfold Oper.quietAt; rw [h2 w]; exact ⟨rfl, rfl⟩⟩
  · exact .inr h

theorem qOp_put_taken {wl : List Nat} {i j : Nat} {oi oj : Oper} {v : Value} (hj : ops[j]? = some oj) (hap : oi.apart ops oj = true)
    (hsi : ∀ cs b, oi.op ≠ .select cs b) (hsj : ∀ cs b, oj.op ≠ .select cs b) {K : Act → Prop} {a : Act}
    (hy : Taken P ops C wl i oi v a) (h : qOp P ops C j K (a.put oi.dst v)) :
    qOp P ops C j (fun a' => Taken P ops C wl i oi v a' ∧ K (a'.put oi.dst v)) a := by
  obtain ⟨h1, h2, h3⟩ := Oper.apart_spec hap
  have keep : ∀ (a : Act), Taken P ops C wl i oi v a → ∀ u, Taken P ops C wl i oi v (a.put oj.dst u) := fun a hy u =>
    ⟨hy.1.of_same (execOp_put oi hsi a oj.dst u h3) (wanted_put oi a oj.dst u h3), fun hw => (hy.2 hw).of_same (execOp_put oi hsi a oj.dst u h3) (wanted_put oi a oj.dst u h3)⟩
  unfold qOp at *
  simp only [hj] at *
  rw [wanted_put oj a oi.dst v h1] at h
  split
  · rename_i hw
    simp only [hw, if_true] at h
    obtain ⟨u, hu, hn⟩ := h
    refine ⟨u, fun w hw' => ?_, keep a hy u, by rw [← Act.put_comm a v u h2]; exact hn⟩
    have := hu w hw'
    unfold Oper.quietAt at *
    rwa [execOp_put oj hsj a oi.dst v h1] at this
  · rename_i hw
    simp only [hw] at h
    exact ⟨keep a hy _, by rw [← Act.put_comm a v undef h2]; exact h⟩

/-- the invariant, hd and wl together -/
theorem wpMix_first {hd wl tl : List Nat} {t0 i : Nat} {oi : Oper} {v : Value} {Q : Exit → Act → World → Prop} (hne : ∃ w, C w) (hQ : ∀ c a w, ¬ Q (.panic c) a w) (hi : ops[i]? = some oi) (hsel : ∀ (j : Nat) (o : Oper) cs b, ops[j]? = some o → o.op ≠ .select cs b)
    (hs : sinkOrd md ops t0 hd = true) (hc : chainOrd md ops t0 tl = true) (hdis : ∀ j, j ∈ hd ∨ j ∈ wl → j ∉ t0 :: tl) (hin : i ∈ hd ∨ i ∈ wl) :
    ∀ (f : Nat) (listed : Array Bool) (a : Act), OrdInv md ops (hd ++ wl) (t0 :: tl) listed →
      (∀ j oj, ops[j]? = some oj → j ≠ i → listed.getD j true = false → (∀ e ∈ oj.after, Region.binds md e = true → e.on ≠ i) → oi.apart ops oj = true) →
      i ∈ Region.ready md ops listed → Taken P ops C wl i oi v a →
      wpMix P md ops C Q hd wl f (listed.setIfInBounds i true) (a.put oi.dst v) → wpMix P md ops C Q hd wl (f + 1) listed a := by
  have sinkR : ∀ listed, OrdInv md ops (hd ++ wl) (t0 :: tl) listed → pendB hd listed = true → ∀ j ∈ Region.ready md ops listed, j ∈ hd ∨ j ∈ wl := by
    intro listed inv hp j hj
    obtain ⟨x, hx, hxu⟩ := pendB_true hp
    rcases inv.cover j (mem_ready.1 hj).1 with h | h
    · exact List.mem_append.1 h
    · exfalso
      rcases List.mem_cons.1 h with rfl | h
      · exact sink_waits inv hd hs x hx hxu hj
      · obtain ⟨t', ht', hw⟩ := chain_mem tl t0 hc j h
        obtain ⟨oj, hoj, e, he, hb, hon⟩ := Region.waitsFor_spec hw
        obtain ⟨_, o', ho', hall⟩ := mem_ready.1 hj
        have : oj = o' := Option.some.inj (hoj.symm.trans ho')
        subst this
        have h3 := hall e he hb
        rw [hon, getD_both (inv.tail t' ht')] at h3
        cases h3
  have inW : ∀ listed, pendB hd listed = false → i ∈ Region.ready md ops listed → i ∈ wl := by
    intro listed hp hr
    rcases hin with h | h
    · have h1 := pendB_false hp i h
      rw [(mem_ready.1 hr).1] at h1
      cases h1
    · exact h
  intro f
  induction f with
  | zero =>
    intro listed a inv hfree hr hy H
    have none : ∀ j, j ∈ Region.ready md ops listed → j ≠ i → False := fun j hj hji => by
      obtain ⟨w, hw⟩ := hne
      have h1 := ready_mono hj hji
      rw [(H w hw).1] at h1
      cases h1
    have one : ∀ j, j ∈ Region.ready md ops listed → qOp P ops C j (wpMix P md ops C Q hd wl 0 (listed.setIfInBounds j true)) a := fun j hj => by
      by_cases hji : j = i
      · subst hji; exact hy.1.qOp hi H
      · exact (none j hj hji).elim
    exact ⟨fun hp => ⟨fun h => (by rw [h] at hr; cases hr), fun j hj => ⟨sinkR listed inv hp j hj, one j hj⟩⟩,
      fun hp => ⟨fun w hw => wpAny_first hi hsel (fun c a w hq => absurd hq (hQ _ _ _)) 0 listed a w hfree hr (hy.2 (inW listed hp hr)) (H w hw), fun j hj _ => one j hj⟩⟩
  | succ f ih =>
    intro listed a inv hfree hr hy H
    have step : ∀ j, j ∈ Region.ready md ops listed → j ≠ i → (j ∈ hd ∨ j ∈ wl) → qOp P ops C j (wpMix P md ops C Q hd wl f ((listed.setIfInBounds i true).setIfInBounds j true)) (a.put oi.dst v) →
        qOp P ops C j (wpMix P md ops C Q hd wl (f + 1) (listed.setIfInBounds j true)) a := fun j hj hji hjn h1 => by
      obtain ⟨hjun, oj, hoj, hall⟩ := mem_ready.1 hj
      have hun := (mem_ready.1 hr).1
      have hnot : ∀ e ∈ oj.after, Region.binds md e = true → e.on ≠ i := fun e he hb heq => by
        have h1 := hall e he hb
        rw [heq, getD_both hun] at h1
        cases h1
      have h2 := qOp_put_taken hoj (hfree j oj hoj hji hjun hnot) (fun cs b => hsel i oi cs b hi) (fun cs b => hsel j oj cs b hoj) hy h1
      have hfree' : ∀ k ok, ops[k]? = some ok → k ≠ i → (listed.setIfInBounds j true).getD k true = false →
          (∀ e ∈ ok.after, Region.binds md e = true → e.on ≠ i) → oi.apart ops ok = true := fun k ok hk hki hun hno => by
        refine hfree k ok hk hki ?_ hno
        by_cases hjk : j = k
        · subst hjk; exact hjun
        · rw [getD_set_ne true hjk] at hun; exact hun
      refine qOp_mono (fun a' h3 => ih (listed.setIfInBounds j true) a' (inv.set hj (hdis j hjn)) hfree' (ready_mono hr (Ne.symm hji)) h3.1 ?_) h2
      rw [Array.setIfInBounds_comm _ _ hji]
      exact h3.2
    have pend_set : ∀ j ∈ hd, j ≠ i → listed.getD j true = false → pendB hd (listed.setIfInBounds i true) = true := fun j hj hji hju => by
      unfold pendB
      exact List.any_eq_true.2 ⟨j, hj, by rw [getD_set_ne true (Ne.symm hji), hju]; rfl⟩
    refine ⟨fun hp => ⟨fun h => (by rw [h] at hr; cases hr), fun j hj => ⟨sinkR listed inv hp j hj, ?_⟩⟩, fun hp => ⟨fun w hw => ?_, fun j hj hjw => ?_⟩⟩
    · by_cases hji : j = i
      · subst hji; exact hy.1.qOp hi H
      · have hjn := sinkR listed inv hp j hj
        have hjr := ready_mono hj hji
        cases hp' : pendB hd (listed.setIfInBounds i true) with
        | true => exact step j hj hji hjn ((H.1 hp').2 j hjr).2
        | false =>
          rcases hjn with h | h
          · rw [pend_set j h hji (mem_ready.1 hj).1] at hp'
            cases hp'
          · exact step j hj hji (.inr h) ((H.2 hp').2 j hjr h)
    · exact wpAny_first hi hsel (fun c a w hq => absurd hq (hQ _ _ _)) (f + 1) listed a w hfree hr (hy.2 (inW listed hp hr)) (wpAny_of_mix (f + 1) _ _ H w hw)
    · by_cases hji : j = i
      · subst hji; exact hy.1.qOp hi H
      · have hjr := ready_mono hj hji
        cases hp' : pendB hd (listed.setIfInBounds i true) with
        | true => exact step j hj hji (.inr hjw) ((H.1 hp').2 j hjr).2
        | false => exact step j hj hji (.inr hjw) ((H.2 hp').2 j hjr hjw)

/-- steps: an operation that needs no world, or a quiet one -/
def wpSteps (P : Program) (ops : Array Oper) (C : World → Prop) (K : Act → Prop) : List (Bool × Oper) → Act → Prop
  | [], a => K a
  | (true, o) :: r, a => ∃ v, Yields P ops o v a ∧ wpSteps P ops C K r (a.put o.dst v)
  | (false, o) :: r, a => wpQuiet P ops C (fun a' => wpSteps P ops C K r a') [o] a

theorem wpSteps_nil {K : Act → Prop} {a : Act} (h : K a) : wpSteps P ops C K [] a := h
theorem wpSteps_any {K : Act → Prop} {a : Act} {o : Oper} {r : List (Bool × Oper)} (v : Value) (hg : o.guard = none) (hy : ∀ w, (execOp a.eval o).run P w = .ok (.value v) w) (h : wpSteps P ops C K r (a.put o.dst v)) : wpSteps P ops C K ((true, o) :: r) a :=
  ⟨v, .inl ⟨by simp [Region.wanted, hg], hy⟩, h⟩
theorem wpSteps_quiet {K : Act → Prop} {a : Act} {o : Oper} {r : List (Bool × Oper)} (h : wpQuiet P ops C (fun a' => wpSteps P ops C K r a') [o] a) : wpSteps P ops C K ((false, o) :: r) a := h

def ordMixB (md : Region.Mode) (ops : Array Oper) (hd wl tl : List Nat) : List (Bool × Nat) → Array Bool → Bool
  | [], listed => !pendB hd listed && wl.all (fun i => listed.getD i true) && ordTail md ops tl listed
  | (_, i) :: r, listed => (Region.ready md ops listed).contains i && Region.free md ops listed i && ordMixB md ops hd wl tl r (listed.setIfInBounds i true)

theorem wpMix_lex {hd wl tl : List Nat} {t0 : Nat} {Q : Exit → Act → World → Prop} (hne : ∃ w, C w) (hQ : ∀ c a w, ¬ Q (.panic c) a w) (hsel : Region.noSelect ops = true) (hs : sinkOrd md ops t0 hd = true) (hc : chainOrd md ops t0 tl = true) (hdis : ∀ j, j ∈ hd ∨ j ∈ wl → j ∉ t0 :: tl)
    (hw1 : ∀ j ∈ hd, j ∉ wl) (lt : List Oper) (ht : (t0 :: tl).map (ops[·]?) = lt.map some) {K : Act → Prop} (hK : ∀ a w, C w → K a → wpList P ops Q lt a w) :
    ∀ (is : List (Bool × Nat)) (l : List (Bool × Oper)) (listed : Array Bool) (a : Act), is.map (fun x => (x.1, ops[x.2]?)) = l.map (fun x => (x.1, some x.2)) → (∀ x ∈ is, (x.1 = true → x.2 ∈ wl) ∧ (x.1 = false → x.2 ∈ hd)) → OrdInv md ops (hd ++ wl) (t0 :: tl) listed →
    ordMixB md ops hd wl (t0 :: tl) is listed = true → wpSteps P ops C K l a → wpMix P md ops C Q hd wl (l.length + lt.length) listed a
  | [], [], listed, a, _, _, _, hB, h => by
    simp only [ordMixB, Bool.and_eq_true, Bool.not_eq_true'] at hB
    obtain ⟨⟨h1, h2⟩, h3⟩ := hB
    have fin : ∀ w, C w → wpAny P md ops Q lt.length listed a w := fun w hw => wpAny_of_ordTail (t0 :: tl) lt listed a w ht h3 (hK a w hw h)
    simp only [List.length_nil, Nat.zero_add]
    cases hl : lt.length with
    | zero => intro w hw; rw [← hl]; exact fin w hw
    | succ n =>
      refine ⟨fun hp => (by rw [h1] at hp; cases hp), fun _ => ⟨fun w hw => (by rw [← hl]; exact fin w hw), fun i hi hiw => ?_⟩⟩
      have := List.all_eq_true.1 h2 i hiw
      rw [(mem_ready.1 hi).1] at this
      cases this
  | [], _ :: _, _, _, hm, _, _, _, _ => by simp at hm
  | _ :: _, [], _, _, hm, _, _, _, _ => by simp at hm
  | (b, i) :: is, (b', o) :: l, listed, a, hm, hin, inv, hB, h => by
    simp only [List.map_cons, List.cons.injEq, Prod.mk.injEq] at hm
    obtain ⟨⟨rfl, h0⟩, hm'⟩ := hm
    simp only [ordMixB, Bool.and_eq_true] at hB
    obtain ⟨⟨hr, hf⟩, hB'⟩ := hB
    have hr' : i ∈ Region.ready md ops listed := by simpa using hr
    have hmem : i ∈ hd ∨ i ∈ wl := by
      have := hin (b, i) (by simp)
      cases b with
      | true => exact .inr (this.1 rfl)
      | false => exact .inl (this.2 rfl)
    have inv' := inv.set hr' (hdis i hmem)
    rw [show ((b, o) :: l).length + lt.length = (l.length + lt.length) + 1 by simp only [List.length_cons]; omega]
    obtain ⟨v, hy, hK'⟩ : ∃ v, Taken P ops C wl i o v a ∧ wpSteps P ops C K l (a.put o.dst v) := by
      cases b with
      | true =>
        obtain ⟨v, hy, h'⟩ := h
        exact ⟨v, ⟨Yields.inClass hy, fun _ => hy⟩, h'⟩
      | false =>
        have hst : qOp P ops C i (fun a' => wpSteps P ops C K l a') a := by
          have h' : wpQuiet P ops C (fun a' => wpSteps P ops C K l a') [o] a := h
          unfold qOp; simp only [h0]; exact h'
        obtain ⟨v, hy, h'⟩ := yieldsIn_of_qOp h0 hst
        exact ⟨v, ⟨hy, fun hw => absurd hw (hw1 i ((hin (false, i) (by simp)).2 rfl))⟩, h'⟩
    exact wpMix_first hne hQ h0 (Region.noSelect_spec hsel) hs hc hdis hmem _ listed a inv (Region.free_spec h0 hf) hr' hy
      (wpMix_lex hne hQ hsel hs hc hdis hw1 lt ht hK is l _ _ hm' (fun x hx => hin x (by simp [hx])) inv' hB' hK')

def mixB (md : Region.Mode) (ops : Array Oper) (is : List (Bool × Nat)) (t0 : Nat) (tl : List Nat) : Bool :=
  let hd := (is.filter (fun x => !x.1)).map (·.2)
  let wl := (is.filter (·.1)).map (·.2)
  Region.noSelect ops && sinkOrd md ops t0 hd && chainOrd md ops t0 tl && ((List.range ops.size).all fun i => hd.contains i || wl.contains i || (t0 :: tl).contains i) &&
    ((t0 :: tl).all fun t => !hd.contains t && !wl.contains t) && (hd.all fun i => !wl.contains i) && ordMixB md ops hd wl (t0 :: tl) is (Array.replicate ops.size false)

theorem filterMap_ok2 {l : List Oper} : ∀ (is : List (Bool × Nat)), (∀ x ∈ is, x.2 < l.length) →
    is.map (fun x => (x.1, l.toArray[x.2]?)) = (is.filterMap fun x => (l[x.2]?).map fun o => (x.1, o)).map (fun x => (x.1, some x.2)) ∧ (is.filterMap fun x => (l[x.2]?).map fun o => (x.1, o)).length = is.length
  | [], _ => ⟨rfl, rfl⟩
  | (b, i) :: is, h => by
    have hi := h (b, i) (by simp)
    obtain ⟨h1, h2⟩ := filterMap_ok2 is (fun j hj => h j (by simp [hj]))
    have e : l[i]? = some l[i] := by simp [hi]
    refine ⟨?_, ?_⟩
    · rw [List.map_cons, h1, List.filterMap_cons]
      simp only [e, Option.map_some, List.map_cons]
      simp [hi]
    · rw [List.filterMap_cons]
      simp only [e, Option.map_some, List.length_cons]
      simp [h2]

/-- THE THEOREM: is: the operations in the order in which they are walked, 'true' at one that needs no world; t0, tl: the rest, in one forced order. -/
theorem later_mix {P : Program} {id : Nat} {Q : Exit → Act → World → Prop} {a : Act} {w : World} {l : List Oper} (is : List (Bool × Nat)) (t0 : Nat) (tl : List Nat) (hm : P.follows .mixedOrders = true)
    (hB : (mixB .any l.toArray is t0 tl && (is.map (·.2) ++ t0 :: tl).all (fun i => decide (i < l.length)) && decide (is.length + (t0 :: tl).length = l.length)) = true)
    (h : wpSteps P l.toArray (fun w' => ∃ g : Later w, w' = g.val) (fun a' => ∀ g : Later w, wpList P l.toArray (NoPanic Q) ((t0 :: tl).filterMap (l[·]?)) a' g.val) (is.filterMap fun x => (l[x.2]?).map fun o => (x.1, o)) a) :
    (Code.region id l.toArray true).wp P Q a w := by
  simp only [mixB, Bool.and_eq_true, decide_eq_true_eq, List.all_eq_true, List.mem_append] at hB
  obtain ⟨⟨⟨⟨⟨⟨⟨⟨hsel, hs⟩, hc⟩, hcov⟩, hdis⟩, hwd⟩, hord⟩, hlt⟩, hlen⟩ := hB
  obtain ⟨q1, q2⟩ := filterMap_ok2 is (fun x hx => hlt x.2 (.inl (List.mem_map.2 ⟨x, hx, rfl⟩)))
  obtain ⟨r1, r2⟩ := filterMap_ok (t0 :: tl) (fun i hi => hlt i (.inr hi))
  have hdis' : ∀ t ∈ t0 :: tl, t ∉ (is.filter (fun x => !x.1)).map (·.2) ∧ t ∉ (is.filter (·.1)).map (·.2) := fun t ht => by
    have := hdis t ht
    simpa only [Bool.and_eq_true, Bool.not_eq_true', List.contains_eq_mem, decide_eq_false_iff_not] using this
  refine wp_region_noPanic (wp_region_any hm ?_)
  have inv0 : OrdInv .any l.toArray ((is.filter (fun x => !x.1)).map (·.2) ++ (is.filter (·.1)).map (·.2)) (t0 :: tl) (Array.replicate l.toArray.size false) := by
    refine ⟨by simp, fun j oj _ hl => (by rw [getD_replicate_false] at hl; cases hl), fun t ht' => ?_, fun j hj => ?_⟩
    · exact getD_in (by have := hlt t (.inr ht'); simpa using this) (getD_replicate_false _ _)
    · have hjl : j < l.toArray.size := by
        rcases Nat.lt_or_ge j l.toArray.size with h' | h'
        · exact h'
        · have hsz : (Array.replicate l.toArray.size false).size ≤ j := by simpa using h'
          have h1 : (Array.replicate l.toArray.size false).getD j true = true := by unfold Array.getD; rw [dif_neg (by omega)]
          rw [h1] at hj
          cases hj
      have := hcov j (List.mem_range.2 hjl)
      simp only [Bool.or_eq_true, List.contains_iff_mem] at this
      rcases this with (h' | h') | h'
      · exact .inl (List.mem_append.2 (.inl h'))
      · exact .inl (List.mem_append.2 (.inr h'))
      · exact .inr h'
  have key := wpMix_lex (P := P) (md := .any) (C := fun w' => ∃ g : Later w, w' = g.val) (Q := NoPanic Q) ⟨w, ⟨w, Below.refl _ _⟩, rfl⟩ (fun c a w hq => hq) hsel hs hc (fun j hj hj' => by
      rcases hj with h' | h'
      · exact (hdis' j hj').1 h'
      · exact (hdis' j hj').2 h') (fun j hj hj' => by
      have := hwd j hj
      simp only [Bool.not_eq_true', List.contains_eq_mem, decide_eq_false_iff_not] at this
      exact this hj') _ r1 (fun a' w' hw' hg => by obtain ⟨g, rfl⟩ := hw'; exact hg g) is _ _ a q1 (fun x hx => ⟨fun hb => List.mem_map.2 ⟨x, List.mem_filter.2 ⟨hx, hb⟩, rfl⟩, fun hb => List.mem_map.2 ⟨x, List.mem_filter.2 ⟨hx, by simp [hb]⟩, rfl⟩⟩) inv0 hord h
  have := wpAny_of_mix _ _ _ key { w with drawn := w.drawn + 1 } ⟨⟨w.drew, (Below.refl _ _).drew⟩, rfl⟩
  rw [q2, r2, hlen] at this
  simpa using this
end
end Bal

/-
  Breaches, in the program.
-/
namespace Go.Proofs.Ytlloijkmpmfapaa
open Go.RowKit Bal Bal.Trim
set_option linter.unusedVariables false
set_option linter.unusedSimpArgs false
set_option maxHeartbeats 800000

set_option maxRecDepth 10000

theorem f_both (a : Option Addr) (cap : Nat) (xs : List Load) (b : Option Addr) (cb : Nat) (ms : List Limit) (w : World) (hx : Row Load.cells 4 w.heap.size w a xs) (hc : xs.length ≤ cap) (hM : cap ≤ maxLen) (hy : Row Limit.cells 3 w.heap.size w b ms) (hd : ms.length ≤ cb) (hN : cb ≤ maxLen) :
    Calls Try.prog 71 #[.slice a xs.length cap, .slice b ms.length cb] w fun e w' => e = .returned (.int .i64 (both xs ms)) ∧ Kept w w' := by
  unfold both
  by_cases he : checkLoads xs = 0
  · rw [if_pos he]
    have HE := Lib.hid he
    clear he
    go_enter Try.func71, Try.ntmps71
    go_wp2_with (first | (go_at_call 19; (with_reducible refine (f_CheckLoads _ _ _ _ (hx.later (by (exact kpt)) (Nat.le_refl _)) hc hM).mono ?_); rw [HE.out]; rintro e w1 ⟨rfl, hb1⟩; obtain ⟨hc1, hf1, hl1⟩ := bcell3 hb1) | (go_at_call 21; (with_reducible refine (f_CheckLimits _ _ _ _ (hy.later (by (exact kpt)) (Nat.le_refl _)) hd hN).mono ?_); rintro e w2 ⟨rfl, hb2⟩; obtain ⟨hc2, hf2, hl2⟩ := bcell3 hb2))
    go_ret
    exact ⟨rfl, by (exact kpt)⟩
  · rw [if_neg he]
    have hb : (checkLoads xs != 0) = true := by simp [he]
    obtain ⟨E, hEE⟩ : ∃ E, E = checkLoads xs := ⟨_, rfl⟩
    have HE := Lib.hid hEE.symm
    rw [← hEE] at he hb ⊢
    clear hEE
    go_enter Try.func71, Try.ntmps71
    go_wp2_with (go_at_call 19; (with_reducible refine (f_CheckLoads _ _ _ _ (hx.later (by (exact kpt)) (Nat.le_refl _)) hc hM).mono ?_); rw [HE.out]; rintro e w1 ⟨rfl, hb1⟩; obtain ⟨hc1, hf1, hl1⟩ := bcell3 hb1)
    go_ret
    exact ⟨rfl, by (exact kpt)⟩

def BrokenRel (w : World) (xs : List Load) (ms : List Limit) (i : Value) (wr : World) : Prop :=
  ∃ k : Nat, k ≤ ms.length ∧ i = .int .i64 k ∧ (∀ j, j < k → brk xs ms j = false) ∧ Blk wr w.heap.size #[.int .i64 0, .slice none 0 0] 36 ∧ Kept w wr
theorem f_broken (a : Option Addr) (cap : Nat) (xs : List Load) (b : Option Addr) (cb : Nat) (ms : List Limit) (w : World) (hx : Row Load.cells 4 w.heap.size w a xs) (hc : xs.length ≤ cap) (hM : cap ≤ maxLen) (hy : Row Limit.cells 3 w.heap.size w b ms) (hd : ms.length ≤ cb) (hN : cb ≤ maxLen) (he : both xs ms = 0) :
    Calls Try.prog 72 #[.slice a xs.length cap, .slice b ms.length cb] w fun e w' => ∃ v, e = .returned (.tuple #[.agg #[.int .i64 (optN (broken xs ms)), v], .bool (broken xs ms).isSome]) ∧
      w'.ownsRow w.heap.size 85 2 v (brP xs ms (broken xs ms)).length ((brP xs ms (broken xs ms)).flatMap Put.cells) ∧ Kept w w' := by
  obtain ⟨he1, he2⟩ := both_ok he
  obtain ⟨hn, hv⟩ := checkLoads_ok he1
  obtain ⟨hn2, hv2⟩ := checkLimits_ok he2
  obtain ⟨Ob, hOb⟩ : ∃ O, O = broken xs ms := ⟨_, rfl⟩
  have HSOME := Lib.hid (fun (k : Nat) (hk : k < ms.length) hb hh => @broken_some xs ms k hk hb hh)
  have HNONE := Lib.hid (fun hb => @broken_none xs ms hb)
  rw [← hOb] at HSOME HNONE ⊢
  clear hOb
  have HN := Lib.hid hn
  have HV := Lib.hid hv
  have HV2 := Lib.hid hv2
  have hNN := hN
  unfold maxLen at hNN
  clear he he1 he2 hv hv2
  go_enter Try.func72, Try.ntmps72
  go_wp2
  go_loopw [12] (fun i wr => BrokenRel w xs ms i wr) (fun i _ => ms.length - (intOf i).toNat)
  case atStart => exact ⟨0, Nat.zero_le _, rfl, fun j hj => by omega, by (exact blk), by (exact kpt)⟩
  case round =>
    obtain ⟨k, hk, rfl, hno, q0, hkk⟩ := hrel
    have HNO := Lib.hid hno
    clear hno
    by_cases hlt : k < ms.length
    · obtain ⟨bm, om, rfl, hbm, l0, l1, l2⟩ := Limit.row (hy.later hkk (Nat.le_refl _)) k hlt
      have HM := Lib.hid (HV2.out ms[k] (List.getElem_mem hlt))
      have HSK := Lib.hid (HSOME.out k hlt HNO.out)
      have HBF := Lib.hid (fun h => @brk_false xs ms k hlt h)
      have HBP := Lib.hid (brP_at (xs := xs) hlt)
      obtain ⟨m, hm0⟩ : ∃ m, m = ms[k] := ⟨_, rfl⟩
      rw [← hm0] at HM HSK HBF HBP l0 l1 l2
      clear hm0
      have q0lt := q0.lt
      by_cases hgt : m.c < worstV m xs
      · have HS := Lib.hid (HSK.out hgt)
        go_wp2_with (go_at_call 83; (with_reducible refine (f_worst m _ _ xs _ (hx.later (by (exact kpt)) (Nat.le_refl _)) hc hM HN.out HM.out HV.out).mono ?_); rintro e w2 ⟨v, rfl, ho, hb2⟩; obtain ⟨ad, cp, rfl, hrow, hcp, hcm⟩ := owns_row (enc := Put.cells) (k := 2) (fun _ => rfl) ho; refine Blk.thru (b := w.heap.size) (arr := ?_) (t := ?_) ?_ hb2 ?_; rotate_left 2; (focus (exact blk)); intro z0; have z0c0 := z0.cell 0; have z0f0 := z0.free 0; have z0c1 := z0.cell 1; have z0f1 := z0.free 1; have z0l := z0.lt; simp at z0c0 z0c1; refine Blk.thru (b := wr.heap.size) (arr := ?_) (t := ?_) ?_ hb2 ?_; rotate_left 2; (focus (exact blk)); intro qm; have qmc0 := qm.cell 0; have qmf0 := qm.free 0; have qmc1 := qm.cell 1; have qmf1 := qm.free 1; have qmc2 := qm.cell 2; have qmf2 := qm.free 2; have qml := qm.lt; simp at qmc0 qmc1 qmc2)
        have HP := HBP.out
        rw [← HS.out] at HP
        exact bodyPost_ret (v := .tuple #[.agg #[.int .i64 k, .slice ad (choice m xs).length cp], .bool true]) (by simp [results, Try.results72, go_sem, z0l, z0c0, z0c1, z0f0, z0f1]) rfl ⟨_, by rw [HS.out]; rfl, by rw [HP]; exact owns_base (owns_set (z0.set 0 _) (owns_set z0 ho (by decide)) (by decide)) (by have := hkk.size; simp; omega), by (exact kpt)⟩
      · have HF := Lib.hid (HBF.out hgt)
        go_wp2_with (go_at_call 83; (with_reducible refine (f_worst m _ _ xs _ (hx.later (by (exact kpt)) (Nat.le_refl _)) hc hM HN.out HM.out HV.out).mono ?_); rintro e w2 ⟨v, rfl, ho, hb2⟩; obtain ⟨ad, cp, rfl, hrow, hcp, hcm⟩ := owns_row (enc := Put.cells) (k := 2) (fun _ => rfl) ho; refine Blk.thru (b := w.heap.size) (arr := ?_) (t := ?_) ?_ hb2 ?_; rotate_left 2; (focus (exact blk)); intro z0; have z0c0 := z0.cell 0; have z0f0 := z0.free 0; have z0c1 := z0.cell 1; have z0f1 := z0.free 1; have z0l := z0.lt; simp at z0c0 z0c1; refine Blk.thru (b := wr.heap.size) (arr := ?_) (t := ?_) ?_ hb2 ?_; rotate_left 2; (focus (exact blk)); intro qm; have qmc0 := qm.cell 0; have qmf0 := qm.free 0; have qmc1 := qm.cell 1; have qmf1 := qm.free 1; have qmc2 := qm.cell 2; have qmf2 := qm.free 2; have qml := qm.lt; simp at qmc0 qmc1 qmc2)
        go_round
        case rel =>
          refine ⟨k + 1, by omega, by go_num, ?_, by (exact blk), by (exact kpt)⟩
          intro j hj
          by_cases hjk : j < k
          · exact HNO.out j hjk
          · obtain rfl : j = k := by omega
            exact HF.out
        case measure => simp [intOf]; omega
    · obtain rfl : k = ms.length := by omega
      have HS := Lib.hid (HNONE.out HNO.out)
      have q0c0 := q0.cell 0
      have q0f0 := q0.free 0
      have q0c1 := q0.cell 1
      have q0f1 := q0.free 1
      have q0l := q0.lt
      simp at q0c0 q0c1
      go_wp2
      obtain rfl := HS.out
      exact bodyPost_ret (v := .tuple #[.agg #[.int .i64 0, .slice none 0 0], .bool false]) (by simp [results, Try.results72, go_sem, q0c0, q0c1, q0f0, q0f1]) rfl ⟨_, rfl, owns_nil (α := Put) (enc := Put.cells), by (exact kpt)⟩

end Go.Proofs.Ytlloijkmpmfapaa

/-
  What is to be stowed, as it lies in memory.
-/
namespace Bal.Trim
open Go Go.RowKit
/-- where the lists of a freight lie -/
structure FSpot where
  ax : Option Addr
  ah : Option Addr
  ap : Option Addr
  ar : Option Addr
  am : Option Addr
  cx : Nat
  ch : Nat
  cp : Nat
  cr : Nat
  cm : Nat
structure FrAt (F : Fr) (s : FSpot) (w : World) : Prop where
  xs : Row Load.cells 4 w.heap.size w s.ax F.xs
  hs : Row Hold.cells 2 w.heap.size w s.ah F.hs
  ps : Row Parcel.cells 2 w.heap.size w s.ap F.ps
  rs : Row Rule.cells 3 w.heap.size w s.ar F.rs
  ms : Row Limit.cells 3 w.heap.size w s.am F.ms
  xc : F.xs.length ≤ s.cx
  hc : F.hs.length ≤ s.ch
  pc : F.ps.length ≤ s.cp
  rc : F.rs.length ≤ s.cr
  mc : F.ms.length ≤ s.cm
  xM : s.cx ≤ maxLen
  hM : s.ch ≤ maxLen
  pM : s.cp ≤ maxLen
  rM : s.cr ≤ maxLen
  mM : s.cm ≤ maxLen
  xz : s.ax = none → s.cx = 0
theorem FrAt.later {F : Fr} {s : FSpot} {w w' : World} (k : FrAt F s w) (h : Kept w w') : FrAt F s w' :=
  ⟨k.xs.later h (Nat.le_refl _), k.hs.later h (Nat.le_refl _), k.ps.later h (Nat.le_refl _), k.rs.later h (Nat.le_refl _), k.ms.later h (Nat.le_refl _), k.xc, k.hc, k.pc, k.rc, k.mc, k.xM, k.hM, k.pM, k.rM, k.mM, k.xz⟩
end Bal.Trim

/-
  Stowages: holds, parcels and rules in the program.
-/
namespace Go.Proofs.Ytlloijkmpmfapaa
open Go.RowKit Bal Bal.Trim
set_option linter.unusedVariables false
set_option linter.unusedSimpArgs false
set_option maxHeartbeats 800000
set_option maxRecDepth 10000

theorem f_class (n : Int) (w : World) : Calls Try.prog 120 #[.int .i64 n] w fun e w' => e = .returned (.bool (inB n 0 9)) ∧ w = w' := by
  go_enter Try.func120, Try.ntmps120
  go_wp2_with (go_at_call 68; refine (f_ranged _ _ _ _).mono ?_; rintro e w1 ⟨rfl, rfl⟩)
  go_ret
  exact ⟨rfl, rfl⟩

theorem f_hold (x : Hold) (w : World) :
    Calls Try.prog 117 #[.agg #[.int .i64 x.pos, .int .i64 x.room]] w fun e w' => e = .returned (.bool (holdB x)) ∧ Kept w w' := by
  go_enter Try.func117, Try.ntmps117
  go_wp2_with (first | (go_at_call 67; refine (f_place _ _).mono ?_; rintro e w1 ⟨rfl, rfl⟩) | (go_at_call 68; refine (f_ranged _ _ _ _).mono ?_; rintro e w1 ⟨rfl, rfl⟩))
  all_goals (go_ret; refine ⟨?_, by (repeat (first | exact Below.refl _ _ | assumption | (refine Kept.drop ?_ (by assumption)) | (refine Kept.alloc ?_ _) | (refine Below.setCell ?_ (by first | exact Nat.le_refl _ | (simp; done) | (simp; omega) | exact Below.size (by assumption)) _) | (refine Below.drew ?_)))⟩; simp [holdB, *])

theorem f_parcel (x : Parcel) (w : World) :
    Calls Try.prog 119 #[.agg #[.int .i64 x.wt, .int .i64 x.cls]] w fun e w' => e = .returned (.bool (parcelB x)) ∧ Kept w w' := by
  go_enter Try.func119, Try.ntmps119
  go_wp2_with (first | (go_at_call 120; refine (f_class _ _).mono ?_; rintro e w1 ⟨rfl, rfl⟩) | (go_at_call 68; refine (f_ranged _ _ _ _).mono ?_; rintro e w1 ⟨rfl, rfl⟩))
  all_goals (go_ret; refine ⟨?_, by (repeat (first | exact Below.refl _ _ | assumption | (refine Kept.drop ?_ (by assumption)) | (refine Kept.alloc ?_ _) | (refine Below.setCell ?_ (by first | exact Nat.le_refl _ | (simp; done) | (simp; omega) | exact Below.size (by assumption)) _) | (refine Below.drew ?_)))⟩; simp [parcelB, *])

theorem f_rule (x : Rule) (w : World) :
    Calls Try.prog 122 #[.agg #[.int .i64 x.a, .int .i64 x.b, .int .i64 x.apart]] w fun e w' => e = .returned (.bool (ruleB x)) ∧ Kept w w' := by
  go_enter Try.func122, Try.ntmps122
  go_wp2_with (first | (go_at_call 120; refine (f_class _ _).mono ?_; rintro e w1 ⟨rfl, rfl⟩) | (go_at_call 68; refine (f_ranged _ _ _ _).mono ?_; rintro e w1 ⟨rfl, rfl⟩))
  all_goals (go_ret; refine ⟨?_, by (repeat (first | exact Below.refl _ _ | assumption | (refine Kept.drop ?_ (by assumption)) | (refine Kept.alloc ?_ _) | (refine Below.setCell ?_ (by first | exact Nat.le_refl _ | (simp; done) | (simp; omega) | exact Below.size (by assumption)) _) | (refine Below.drew ?_)))⟩; simp [ruleB, *])

theorem f_checked_Hold (a : Option Addr) (cap : Nat) (xs : List Hold) (w : World) (hx : Row Hold.cells 2 w.heap.size w a xs) (hc : xs.length ≤ cap) (hM : cap ≤ maxLen) :
    Calls Try.prog 116 #[.slice a xs.length cap, .int .i64 5, .func (.func 117) #[] #[], .int .i64 43] w
      fun e w' => e = .returned (.int .i64 (checkList holdB 5 43 xs)) ∧ Kept w w' := by
  unfold maxLen at hM
  by_cases hm : 5 < xs.length
  · rw [checkList_many hm]
    go_enter Try.func116, Try.ntmps116
    go_wp2
    go_ret
    exact ⟨rfl, Below.refl _ _⟩
  · go_enter Try.func116, Try.ntmps116
    go_wp2
    go_loopw [17] (fun i wr => Upto holdB xs w i wr) (fun i _ => xs.length - (intOf i).toNat)
    case atStart => exact ⟨0, Nat.zero_le _, rfl, by simp, Below.refl _ _⟩
    case round =>
      obtain ⟨k, hk, rfl, ha', hbel⟩ := hrel
      have ha := Lib.hid ha'
      clear ha'
      by_cases hlt : k < xs.length
      · obtain ⟨b, off, rfl, hb, h0, h1⟩ := Hold.row (hx.later hbel (Nat.le_refl _)) k hlt
        cases hv : holdB xs[k]
        all_goals
          go_wp2_with (go_at_call 117; refine (f_hold xs[k] _).mono ?_; rintro e w1 ⟨rfl, hb1⟩)
        · go_ret
          exact ⟨ret_int (checkList_bad hm k hlt hv).symm, by (repeat (first | exact Below.refl _ _ | assumption | (refine Kept.drop ?_ (by assumption)) | (refine Kept.alloc ?_ _) | (refine Below.setCell ?_ (by first | exact Nat.le_refl _ | (simp; done) | (simp; omega) | exact Below.size (by assumption)) _) | (refine Below.drew ?_)))⟩
        · go_round
          case rel => exact ⟨k + 1, by omega, by go_num, take_all hlt ha.out hv, by (repeat (first | exact Below.refl _ _ | assumption | (refine Kept.drop ?_ (by assumption)) | (refine Kept.alloc ?_ _) | (refine Below.setCell ?_ (by first | exact Nat.le_refl _ | (simp; done) | (simp; omega) | exact Below.size (by assumption)) _) | (refine Below.drew ?_)))⟩
          case measure => simp [intOf]; omega
      · go_wp2
        go_ret
        exact ⟨ret_int (checkList_ok hm (by rw [← ha.out, List.take_of_length_le (by omega)])).symm, hbel⟩

theorem f_checked_Parcel (a : Option Addr) (cap : Nat) (xs : List Parcel) (w : World) (hx : Row Parcel.cells 2 w.heap.size w a xs) (hc : xs.length ≤ cap) (hM : cap ≤ maxLen) :
    Calls Try.prog 118 #[.slice a xs.length cap, .int .i64 6, .func (.func 119) #[] #[], .int .i64 43] w
      fun e w' => e = .returned (.int .i64 (checkList parcelB 6 43 xs)) ∧ Kept w w' := by
  unfold maxLen at hM
  by_cases hm : 6 < xs.length
  · rw [checkList_many hm]
    go_enter Try.func118, Try.ntmps118
    go_wp2
    go_ret
    exact ⟨rfl, Below.refl _ _⟩
  · go_enter Try.func118, Try.ntmps118
    go_wp2
    go_loopw [17] (fun i wr => Upto parcelB xs w i wr) (fun i _ => xs.length - (intOf i).toNat)
    case atStart => exact ⟨0, Nat.zero_le _, rfl, by simp, Below.refl _ _⟩
    case round =>
      obtain ⟨k, hk, rfl, ha', hbel⟩ := hrel
      have ha := Lib.hid ha'
      clear ha'
      by_cases hlt : k < xs.length
      · obtain ⟨b, off, rfl, hb, h0, h1⟩ := Parcel.row (hx.later hbel (Nat.le_refl _)) k hlt
        cases hv : parcelB xs[k]
        all_goals
          go_wp2_with (go_at_call 119; refine (f_parcel xs[k] _).mono ?_; rintro e w1 ⟨rfl, hb1⟩)
        · go_ret
          exact ⟨ret_int (checkList_bad hm k hlt hv).symm, by (repeat (first | exact Below.refl _ _ | assumption | (refine Kept.drop ?_ (by assumption)) | (refine Kept.alloc ?_ _) | (refine Below.setCell ?_ (by first | exact Nat.le_refl _ | (simp; done) | (simp; omega) | exact Below.size (by assumption)) _) | (refine Below.drew ?_)))⟩
        · go_round
          case rel => exact ⟨k + 1, by omega, by go_num, take_all hlt ha.out hv, by (repeat (first | exact Below.refl _ _ | assumption | (refine Kept.drop ?_ (by assumption)) | (refine Kept.alloc ?_ _) | (refine Below.setCell ?_ (by first | exact Nat.le_refl _ | (simp; done) | (simp; omega) | exact Below.size (by assumption)) _) | (refine Below.drew ?_)))⟩
          case measure => simp [intOf]; omega
      · go_wp2
        go_ret
        exact ⟨ret_int (checkList_ok hm (by rw [← ha.out, List.take_of_length_le (by omega)])).symm, hbel⟩

theorem f_checked_Rule (a : Option Addr) (cap : Nat) (xs : List Rule) (w : World) (hx : Row Rule.cells 3 w.heap.size w a xs) (hc : xs.length ≤ cap) (hM : cap ≤ maxLen) :
    Calls Try.prog 121 #[.slice a xs.length cap, .int .i64 20, .func (.func 122) #[] #[], .int .i64 43] w
      fun e w' => e = .returned (.int .i64 (checkList ruleB 20 43 xs)) ∧ Kept w w' := by
  unfold maxLen at hM
  by_cases hm : 20 < xs.length
  · rw [checkList_many hm]
    go_enter Try.func121, Try.ntmps121
    go_wp2
    go_ret
    exact ⟨rfl, Below.refl _ _⟩
  · go_enter Try.func121, Try.ntmps121
    go_wp2
    go_loopw [17] (fun i wr => Upto ruleB xs w i wr) (fun i _ => xs.length - (intOf i).toNat)
    case atStart => exact ⟨0, Nat.zero_le _, rfl, by simp, Below.refl _ _⟩
    case round =>
      obtain ⟨k, hk, rfl, ha', hbel⟩ := hrel
      have ha := Lib.hid ha'
      clear ha'
      by_cases hlt : k < xs.length
      · obtain ⟨b, off, rfl, hb, h0, h1, h2⟩ := Rule.row (hx.later hbel (Nat.le_refl _)) k hlt
        cases hv : ruleB xs[k]
        all_goals
          go_wp2_with (go_at_call 122; refine (f_rule xs[k] _).mono ?_; rintro e w1 ⟨rfl, hb1⟩)
        · go_ret
          exact ⟨ret_int (checkList_bad hm k hlt hv).symm, by (repeat (first | exact Below.refl _ _ | assumption | (refine Kept.drop ?_ (by assumption)) | (refine Kept.alloc ?_ _) | (refine Below.setCell ?_ (by first | exact Nat.le_refl _ | (simp; done) | (simp; omega) | exact Below.size (by assumption)) _) | (refine Below.drew ?_)))⟩
        · go_round
          case rel => exact ⟨k + 1, by omega, by go_num, take_all hlt ha.out hv, by (repeat (first | exact Below.refl _ _ | assumption | (refine Kept.drop ?_ (by assumption)) | (refine Kept.alloc ?_ _) | (refine Below.setCell ?_ (by first | exact Nat.le_refl _ | (simp; done) | (simp; omega) | exact Below.size (by assumption)) _) | (refine Below.drew ?_)))⟩
          case measure => simp [intOf]; omega
      · go_wp2
        go_ret
        exact ⟨ret_int (checkList_ok hm (by rw [← ha.out, List.take_of_length_le (by omega)])).symm, hbel⟩

theorem frE_both {F : Fr} (h : both F.xs F.ms ≠ 0) : frE F = both F.xs F.ms := by unfold frE; rw [if_neg h]
theorem chk_cases {α : Type} (valid : α → Bool) (most : Nat) (xs : List α) : (checkList valid most 43 xs = 4 ∧ most < xs.length) ∨ (checkList valid most 43 xs = 0 ∧ ¬ most < xs.length ∧ xs.all valid = true) ∨ (checkList valid most 43 xs = 43 ∧ ¬ most < xs.length ∧ xs.all valid = false) := by
  unfold checkList
  by_cases h : most < xs.length
  · exact .inl ⟨if_pos h, h⟩
  · cases hv : xs.all valid
    · exact .inr (.inr ⟨by rw [if_neg h, if_neg (by simp)], h, rfl⟩)
    · exact .inr (.inl ⟨by rw [if_neg h, if_pos rfl], h, rfl⟩)
theorem f_frcheck_both (F : Fr) (s : FSpot) (w : World) (hh : FrAt F s w) (hb : both F.xs F.ms ≠ 0) :
    Calls Try.prog 99 #[.agg #[.slice s.ax F.xs.length s.cx, .slice s.ah F.hs.length s.ch, .slice s.ap F.ps.length s.cp, .slice s.ar F.rs.length s.cr, .slice s.am F.ms.length s.cm]] w fun e w' => e = .returned (.int .i64 (frE F)) ∧ Kept w w' := by
  rw [frE_both hb]
  obtain ⟨E, hE⟩ : ∃ E, E = both F.xs F.ms := ⟨_, rfl⟩
  have KB := Lib.hid hE.symm
  rw [← hE] at hb ⊢
  have e1 : (E != 0) = true := by simp [hb]
  clear hE hb
  go_enter Try.func99, Try.ntmps99
  go_wp2_with (go_at_call 71; (with_reducible refine (f_both _ _ _ _ _ _ _ (hh.xs.later (by exact kpt) (Nat.le_refl _)) hh.xc hh.xM (hh.ms.later (by exact kpt) (Nat.le_refl _)) hh.mc hh.mM).mono ?_); rw [KB.out]; rintro e w0 ⟨rfl, hb0⟩; refine Blk.thru (b := w.heap.size) (arr := ?_) (t := ?_) ?_ hb0 ?_; rotate_left 2; (focus (exact blk)); intro ob; have obc0 := ob.cell 0; have obf0 := ob.free 0; have obc1 := ob.cell 1; have obf1 := ob.free 1; have obc2 := ob.cell 2; have obf2 := ob.free 2; have obc3 := ob.cell 3; have obf3 := ob.free 3; have obc4 := ob.cell 4; have obf4 := ob.free 4; have obl := ob.lt; simp at obc0 obc1 obc2 obc3 obc4)
  go_ret
  exact ⟨rfl, by exact kpt⟩
theorem f_frcheck_ok (F : Fr) (s : FSpot) (w : World) (hh : FrAt F s w) (hb : both F.xs F.ms = 0) :
    Calls Try.prog 99 #[.agg #[.slice s.ax F.xs.length s.cx, .slice s.ah F.hs.length s.ch, .slice s.ap F.ps.length s.cp, .slice s.ar F.rs.length s.cr, .slice s.am F.ms.length s.cm]] w fun e w' => e = .returned (.int .i64 (frE F)) ∧ Kept w w' := by
  have KB := Lib.hid hb
  have hxn : F.xs.length ≤ 40 := (checkLoads_ok (both_ok hb).1).1
  have hpM := hh.pM
  have hpc := hh.pc
  unfold maxLen at hpM
  obtain ⟨x1, hx1⟩ : ∃ n, checkList holdB 5 43 F.hs = n := ⟨_, rfl⟩
  obtain ⟨x2, hx2⟩ : ∃ n, checkList parcelB 6 43 F.ps = n := ⟨_, rfl⟩
  obtain ⟨x3, hx3⟩ : ∃ n, checkList ruleB 20 43 F.rs = n := ⟨_, rfl⟩
  have Kh := Lib.hid hx1
  have Kp := Lib.hid hx2
  have Kr := Lib.hid hx3
  have hE : frE F = if x1 = 4 ∨ x2 = 4 ∨ x3 = 4 ∨ 40 < F.xs.length + F.ps.length then 4 else max (max x1 x2) x3 := by
    have c1 := chk_cases holdB 5 F.hs
    have c2 := chk_cases parcelB 6 F.ps
    have c3 := chk_cases ruleB 20 F.rs
    rw [hx1] at c1
    rw [hx2] at c2
    rw [hx3] at c3
    unfold frE frMany frB
    rw [if_pos hb]
    clear hx1 hx2 hx3 Kh Kp Kr hh KB hb
    by_cases h4 : 40 < F.xs.length + F.ps.length
    · rw [if_pos (by simp [h4]), if_pos (by omega)]
    · rcases c1 with ⟨rfl, d1⟩ | ⟨rfl, d1, v1⟩ | ⟨rfl, d1, v1⟩ <;> rcases c2 with ⟨rfl, d2⟩ | ⟨rfl, d2, v2⟩ | ⟨rfl, d2, v2⟩ <;> rcases c3 with ⟨rfl, d3⟩ | ⟨rfl, d3, v3⟩ | ⟨rfl, d3, v3⟩ <;> simp [*] <;> omega
  have hcs : (x1 = 4 ∨ x1 = 0 ∨ x1 = 43) ∧ (x2 = 4 ∨ x2 = 0 ∨ x2 = 43) ∧ (x3 = 4 ∨ x3 = 0 ∨ x3 = 43) := by
    have c1 := chk_cases holdB 5 F.hs
    have c2 := chk_cases parcelB 6 F.ps
    have c3 := chk_cases ruleB 20 F.rs
    rw [hx1] at c1
    rw [hx2] at c2
    rw [hx3] at c3
    omega
  have hp6 : x2 ≠ 4 → F.ps.length ≤ 6 := fun h => by
    rcases chk_cases parcelB 6 F.ps with c | c | c <;> omega
  rw [hE]
  clear hx1 hx2 hx3 hb hE
  obtain ⟨h1, h2, h3⟩ := hcs
  by_cases hm : x1 = 4 ∨ x2 = 4 ∨ x3 = 4 ∨ 40 < F.xs.length + F.ps.length
  · rw [if_pos hm]
    by_cases k1 : x1 = 4
    · subst k1
      clear hm h1 h2 h3
      go_enter Try.func99, Try.ntmps99
      go_wp2_with (first | (go_at_call 71; (with_reducible refine (f_both _ _ _ _ _ _ _ (hh.xs.later (by exact kpt) (Nat.le_refl _)) hh.xc hh.xM (hh.ms.later (by exact kpt) (Nat.le_refl _)) hh.mc hh.mM).mono ?_); rw [KB.out]; rintro e w0 ⟨rfl, hb0⟩; refine Blk.thru (b := w.heap.size) (arr := ?_) (t := ?_) ?_ hb0 ?_; rotate_left 2; (focus (exact blk)); intro ob; have obc0 := ob.cell 0; have obf0 := ob.free 0; have obc1 := ob.cell 1; have obf1 := ob.free 1; have obc2 := ob.cell 2; have obf2 := ob.free 2; have obc3 := ob.cell 3; have obf3 := ob.free 3; have obc4 := ob.cell 4; have obf4 := ob.free 4; have obl := ob.lt; simp at obc0 obc1 obc2 obc3 obc4) | (go_at_call 116; (with_reducible refine (f_checked_Hold _ _ _ _ (hh.hs.later (by exact kpt) (Nat.le_refl _)) hh.hc hh.hM).mono ?_); rw [Kh.out]; rintro e wh ⟨rfl, hbh⟩; refine Blk.thru (b := w.heap.size) (arr := ?_) (t := ?_) ?_ hbh ?_; rotate_left 2; (focus (exact blk)); intro oh; have ohc0 := oh.cell 0; have ohf0 := oh.free 0; have ohc1 := oh.cell 1; have ohf1 := oh.free 1; have ohc2 := oh.cell 2; have ohf2 := oh.free 2; have ohc3 := oh.cell 3; have ohf3 := oh.free 3; have ohc4 := oh.cell 4; have ohf4 := oh.free 4; have ohl := oh.lt; simp at ohc0 ohc1 ohc2 ohc3 ohc4) | (go_at_call 118; (with_reducible refine (f_checked_Parcel _ _ _ _ (hh.ps.later (by exact kpt) (Nat.le_refl _)) hh.pc hh.pM).mono ?_); rw [Kp.out]; rintro e wp ⟨rfl, hbp⟩; refine Blk.thru (b := w.heap.size) (arr := ?_) (t := ?_) ?_ hbp ?_; rotate_left 2; (focus (exact blk)); intro op; have opc0 := op.cell 0; have opf0 := op.free 0; have opc1 := op.cell 1; have opf1 := op.free 1; have opc2 := op.cell 2; have opf2 := op.free 2; have opc3 := op.cell 3; have opf3 := op.free 3; have opc4 := op.cell 4; have opf4 := op.free 4; have opl := op.lt; simp at opc0 opc1 opc2 opc3 opc4) | (go_at_call 121; (with_reducible refine (f_checked_Rule _ _ _ _ (hh.rs.later (by exact kpt) (Nat.le_refl _)) hh.rc hh.rM).mono ?_); rw [Kr.out]; rintro e wr ⟨rfl, hbr⟩; refine Blk.thru (b := w.heap.size) (arr := ?_) (t := ?_) ?_ hbr ?_; rotate_left 2; (focus (exact blk)); intro or; have orc0 := or.cell 0; have orf0 := or.free 0; have orc1 := or.cell 1; have orf1 := or.free 1; have orc2 := or.cell 2; have orf2 := or.free 2; have orc3 := or.cell 3; have orf3 := or.free 3; have orc4 := or.cell 4; have orf4 := or.free 4; have orl := or.lt; simp at orc0 orc1 orc2 orc3 orc4))
      go_ret
      exact ⟨rfl, by exact kpt⟩
    · have e1 : (x1 == 4) = false := by simp [k1]
      by_cases k2 : x2 = 4
      · subst k2
        clear hm h1 h2 h3 k1
        go_enter Try.func99, Try.ntmps99
        go_wp2_with (first | (go_at_call 71; (with_reducible refine (f_both _ _ _ _ _ _ _ (hh.xs.later (by exact kpt) (Nat.le_refl _)) hh.xc hh.xM (hh.ms.later (by exact kpt) (Nat.le_refl _)) hh.mc hh.mM).mono ?_); rw [KB.out]; rintro e w0 ⟨rfl, hb0⟩; refine Blk.thru (b := w.heap.size) (arr := ?_) (t := ?_) ?_ hb0 ?_; rotate_left 2; (focus (exact blk)); intro ob; have obc0 := ob.cell 0; have obf0 := ob.free 0; have obc1 := ob.cell 1; have obf1 := ob.free 1; have obc2 := ob.cell 2; have obf2 := ob.free 2; have obc3 := ob.cell 3; have obf3 := ob.free 3; have obc4 := ob.cell 4; have obf4 := ob.free 4; have obl := ob.lt; simp at obc0 obc1 obc2 obc3 obc4) | (go_at_call 116; (with_reducible refine (f_checked_Hold _ _ _ _ (hh.hs.later (by exact kpt) (Nat.le_refl _)) hh.hc hh.hM).mono ?_); rw [Kh.out]; rintro e wh ⟨rfl, hbh⟩; refine Blk.thru (b := w.heap.size) (arr := ?_) (t := ?_) ?_ hbh ?_; rotate_left 2; (focus (exact blk)); intro oh; have ohc0 := oh.cell 0; have ohf0 := oh.free 0; have ohc1 := oh.cell 1; have ohf1 := oh.free 1; have ohc2 := oh.cell 2; have ohf2 := oh.free 2; have ohc3 := oh.cell 3; have ohf3 := oh.free 3; have ohc4 := oh.cell 4; have ohf4 := oh.free 4; have ohl := oh.lt; simp at ohc0 ohc1 ohc2 ohc3 ohc4) | (go_at_call 118; (with_reducible refine (f_checked_Parcel _ _ _ _ (hh.ps.later (by exact kpt) (Nat.le_refl _)) hh.pc hh.pM).mono ?_); rw [Kp.out]; rintro e wp ⟨rfl, hbp⟩; refine Blk.thru (b := w.heap.size) (arr := ?_) (t := ?_) ?_ hbp ?_; rotate_left 2; (focus (exact blk)); intro op; have opc0 := op.cell 0; have opf0 := op.free 0; have opc1 := op.cell 1; have opf1 := op.free 1; have opc2 := op.cell 2; have opf2 := op.free 2; have opc3 := op.cell 3; have opf3 := op.free 3; have opc4 := op.cell 4; have opf4 := op.free 4; have opl := op.lt; simp at opc0 opc1 opc2 opc3 opc4) | (go_at_call 121; (with_reducible refine (f_checked_Rule _ _ _ _ (hh.rs.later (by exact kpt) (Nat.le_refl _)) hh.rc hh.rM).mono ?_); rw [Kr.out]; rintro e wr ⟨rfl, hbr⟩; refine Blk.thru (b := w.heap.size) (arr := ?_) (t := ?_) ?_ hbr ?_; rotate_left 2; (focus (exact blk)); intro or; have orc0 := or.cell 0; have orf0 := or.free 0; have orc1 := or.cell 1; have orf1 := or.free 1; have orc2 := or.cell 2; have orf2 := or.free 2; have orc3 := or.cell 3; have orf3 := or.free 3; have orc4 := or.cell 4; have orf4 := or.free 4; have orl := or.lt; simp at orc0 orc1 orc2 orc3 orc4))
        go_ret
        exact ⟨rfl, by exact kpt⟩
      · have e2 : (x2 == 4) = false := by simp [k2]
        by_cases k3 : x3 = 4
        · subst k3
          clear hm h1 h2 h3 k1 k2
          go_enter Try.func99, Try.ntmps99
          go_wp2_with (first | (go_at_call 71; (with_reducible refine (f_both _ _ _ _ _ _ _ (hh.xs.later (by exact kpt) (Nat.le_refl _)) hh.xc hh.xM (hh.ms.later (by exact kpt) (Nat.le_refl _)) hh.mc hh.mM).mono ?_); rw [KB.out]; rintro e w0 ⟨rfl, hb0⟩; refine Blk.thru (b := w.heap.size) (arr := ?_) (t := ?_) ?_ hb0 ?_; rotate_left 2; (focus (exact blk)); intro ob; have obc0 := ob.cell 0; have obf0 := ob.free 0; have obc1 := ob.cell 1; have obf1 := ob.free 1; have obc2 := ob.cell 2; have obf2 := ob.free 2; have obc3 := ob.cell 3; have obf3 := ob.free 3; have obc4 := ob.cell 4; have obf4 := ob.free 4; have obl := ob.lt; simp at obc0 obc1 obc2 obc3 obc4) | (go_at_call 116; (with_reducible refine (f_checked_Hold _ _ _ _ (hh.hs.later (by exact kpt) (Nat.le_refl _)) hh.hc hh.hM).mono ?_); rw [Kh.out]; rintro e wh ⟨rfl, hbh⟩; refine Blk.thru (b := w.heap.size) (arr := ?_) (t := ?_) ?_ hbh ?_; rotate_left 2; (focus (exact blk)); intro oh; have ohc0 := oh.cell 0; have ohf0 := oh.free 0; have ohc1 := oh.cell 1; have ohf1 := oh.free 1; have ohc2 := oh.cell 2; have ohf2 := oh.free 2; have ohc3 := oh.cell 3; have ohf3 := oh.free 3; have ohc4 := oh.cell 4; have ohf4 := oh.free 4; have ohl := oh.lt; simp at ohc0 ohc1 ohc2 ohc3 ohc4) | (go_at_call 118; (with_reducible refine (f_checked_Parcel _ _ _ _ (hh.ps.later (by exact kpt) (Nat.le_refl _)) hh.pc hh.pM).mono ?_); rw [Kp.out]; rintro e wp ⟨rfl, hbp⟩; refine Blk.thru (b := w.heap.size) (arr := ?_) (t := ?_) ?_ hbp ?_; rotate_left 2; (focus (exact blk)); intro op; have opc0 := op.cell 0; have opf0 := op.free 0; have opc1 := op.cell 1; have opf1 := op.free 1; have opc2 := op.cell 2; have opf2 := op.free 2; have opc3 := op.cell 3; have opf3 := op.free 3; have opc4 := op.cell 4; have opf4 := op.free 4; have opl := op.lt; simp at opc0 opc1 opc2 opc3 opc4) | (go_at_call 121; (with_reducible refine (f_checked_Rule _ _ _ _ (hh.rs.later (by exact kpt) (Nat.le_refl _)) hh.rc hh.rM).mono ?_); rw [Kr.out]; rintro e wr ⟨rfl, hbr⟩; refine Blk.thru (b := w.heap.size) (arr := ?_) (t := ?_) ?_ hbr ?_; rotate_left 2; (focus (exact blk)); intro or; have orc0 := or.cell 0; have orf0 := or.free 0; have orc1 := or.cell 1; have orf1 := or.free 1; have orc2 := or.cell 2; have orf2 := or.free 2; have orc3 := or.cell 3; have orf3 := or.free 3; have orc4 := or.cell 4; have orf4 := or.free 4; have orl := or.lt; simp at orc0 orc1 orc2 orc3 orc4))
          go_ret
          exact ⟨rfl, by exact kpt⟩
        · have e3 : (x3 == 4) = false := by simp [k3]
          have d4 : decide (40 < (F.xs.length : Int) + (F.ps.length : Int)) = true := by simp; omega
          have w64 : wrap64 ((F.xs.length : Int) + (F.ps.length : Int)) = (F.xs.length : Int) + (F.ps.length : Int) := by have h6 := hp6 (by omega); unfold wrap64; omega
          have d5 : decide (40 < F.xs.length + F.ps.length) = true := by simp; omega
          have d6 : (40 : Int) < (F.xs.length : Int) + (F.ps.length : Int) := by omega
          clear hm h1 h2 h3 k1 k2 k3
          go_enter Try.func99, Try.ntmps99
          go_wp2_with (first | (go_at_call 71; (with_reducible refine (f_both _ _ _ _ _ _ _ (hh.xs.later (by exact kpt) (Nat.le_refl _)) hh.xc hh.xM (hh.ms.later (by exact kpt) (Nat.le_refl _)) hh.mc hh.mM).mono ?_); rw [KB.out]; rintro e w0 ⟨rfl, hb0⟩; refine Blk.thru (b := w.heap.size) (arr := ?_) (t := ?_) ?_ hb0 ?_; rotate_left 2; (focus (exact blk)); intro ob; have obc0 := ob.cell 0; have obf0 := ob.free 0; have obc1 := ob.cell 1; have obf1 := ob.free 1; have obc2 := ob.cell 2; have obf2 := ob.free 2; have obc3 := ob.cell 3; have obf3 := ob.free 3; have obc4 := ob.cell 4; have obf4 := ob.free 4; have obl := ob.lt; simp at obc0 obc1 obc2 obc3 obc4) | (go_at_call 116; (with_reducible refine (f_checked_Hold _ _ _ _ (hh.hs.later (by exact kpt) (Nat.le_refl _)) hh.hc hh.hM).mono ?_); rw [Kh.out]; rintro e wh ⟨rfl, hbh⟩; refine Blk.thru (b := w.heap.size) (arr := ?_) (t := ?_) ?_ hbh ?_; rotate_left 2; (focus (exact blk)); intro oh; have ohc0 := oh.cell 0; have ohf0 := oh.free 0; have ohc1 := oh.cell 1; have ohf1 := oh.free 1; have ohc2 := oh.cell 2; have ohf2 := oh.free 2; have ohc3 := oh.cell 3; have ohf3 := oh.free 3; have ohc4 := oh.cell 4; have ohf4 := oh.free 4; have ohl := oh.lt; simp at ohc0 ohc1 ohc2 ohc3 ohc4) | (go_at_call 118; (with_reducible refine (f_checked_Parcel _ _ _ _ (hh.ps.later (by exact kpt) (Nat.le_refl _)) hh.pc hh.pM).mono ?_); rw [Kp.out]; rintro e wp ⟨rfl, hbp⟩; refine Blk.thru (b := w.heap.size) (arr := ?_) (t := ?_) ?_ hbp ?_; rotate_left 2; (focus (exact blk)); intro op; have opc0 := op.cell 0; have opf0 := op.free 0; have opc1 := op.cell 1; have opf1 := op.free 1; have opc2 := op.cell 2; have opf2 := op.free 2; have opc3 := op.cell 3; have opf3 := op.free 3; have opc4 := op.cell 4; have opf4 := op.free 4; have opl := op.lt; simp at opc0 opc1 opc2 opc3 opc4) | (go_at_call 121; (with_reducible refine (f_checked_Rule _ _ _ _ (hh.rs.later (by exact kpt) (Nat.le_refl _)) hh.rc hh.rM).mono ?_); rw [Kr.out]; rintro e wr ⟨rfl, hbr⟩; refine Blk.thru (b := w.heap.size) (arr := ?_) (t := ?_) ?_ hbr ?_; rotate_left 2; (focus (exact blk)); intro or; have orc0 := or.cell 0; have orf0 := or.free 0; have orc1 := or.cell 1; have orf1 := or.free 1; have orc2 := or.cell 2; have orf2 := or.free 2; have orc3 := or.cell 3; have orf3 := or.free 3; have orc4 := or.cell 4; have orf4 := or.free 4; have orl := or.lt; simp at orc0 orc1 orc2 orc3 orc4))
          all_goals first | (go_ret; exact ⟨rfl, by exact kpt⟩) | (exfalso; omega) | (exfalso; simp_all; omega)
  · rw [if_neg hm]
    have d4 : decide (40 < (F.xs.length : Int) + (F.ps.length : Int)) = false := by simp; omega
    have w64 : wrap64 ((F.xs.length : Int) + (F.ps.length : Int)) = (F.xs.length : Int) + (F.ps.length : Int) := by have h6 := hp6 (by omega); unfold wrap64; omega
    have d5 : decide (40 < F.xs.length + F.ps.length) = false := by simp; omega
    have d6 : ¬ (40 : Int) < (F.xs.length : Int) + (F.ps.length : Int) := by omega
    have g1 : x1 = 0 ∨ x1 = 43 := by omega
    have g2 : x2 = 0 ∨ x2 = 43 := by omega
    have g3 : x3 = 0 ∨ x3 = 43 := by omega
    clear hm h1 h2 h3
    rcases g1 with rfl | rfl <;> rcases g2 with rfl | rfl <;> rcases g3 with rfl | rfl
    all_goals
      go_enter Try.func99, Try.ntmps99
      go_wp2_with (first | (go_at_call 71; (with_reducible refine (f_both _ _ _ _ _ _ _ (hh.xs.later (by exact kpt) (Nat.le_refl _)) hh.xc hh.xM (hh.ms.later (by exact kpt) (Nat.le_refl _)) hh.mc hh.mM).mono ?_); rw [KB.out]; rintro e w0 ⟨rfl, hb0⟩; refine Blk.thru (b := w.heap.size) (arr := ?_) (t := ?_) ?_ hb0 ?_; rotate_left 2; (focus (exact blk)); intro ob; have obc0 := ob.cell 0; have obf0 := ob.free 0; have obc1 := ob.cell 1; have obf1 := ob.free 1; have obc2 := ob.cell 2; have obf2 := ob.free 2; have obc3 := ob.cell 3; have obf3 := ob.free 3; have obc4 := ob.cell 4; have obf4 := ob.free 4; have obl := ob.lt; simp at obc0 obc1 obc2 obc3 obc4) | (go_at_call 116; (with_reducible refine (f_checked_Hold _ _ _ _ (hh.hs.later (by exact kpt) (Nat.le_refl _)) hh.hc hh.hM).mono ?_); rw [Kh.out]; rintro e wh ⟨rfl, hbh⟩; refine Blk.thru (b := w.heap.size) (arr := ?_) (t := ?_) ?_ hbh ?_; rotate_left 2; (focus (exact blk)); intro oh; have ohc0 := oh.cell 0; have ohf0 := oh.free 0; have ohc1 := oh.cell 1; have ohf1 := oh.free 1; have ohc2 := oh.cell 2; have ohf2 := oh.free 2; have ohc3 := oh.cell 3; have ohf3 := oh.free 3; have ohc4 := oh.cell 4; have ohf4 := oh.free 4; have ohl := oh.lt; simp at ohc0 ohc1 ohc2 ohc3 ohc4) | (go_at_call 118; (with_reducible refine (f_checked_Parcel _ _ _ _ (hh.ps.later (by exact kpt) (Nat.le_refl _)) hh.pc hh.pM).mono ?_); rw [Kp.out]; rintro e wp ⟨rfl, hbp⟩; refine Blk.thru (b := w.heap.size) (arr := ?_) (t := ?_) ?_ hbp ?_; rotate_left 2; (focus (exact blk)); intro op; have opc0 := op.cell 0; have opf0 := op.free 0; have opc1 := op.cell 1; have opf1 := op.free 1; have opc2 := op.cell 2; have opf2 := op.free 2; have opc3 := op.cell 3; have opf3 := op.free 3; have opc4 := op.cell 4; have opf4 := op.free 4; have opl := op.lt; simp at opc0 opc1 opc2 opc3 opc4) | (go_at_call 121; (with_reducible refine (f_checked_Rule _ _ _ _ (hh.rs.later (by exact kpt) (Nat.le_refl _)) hh.rc hh.rM).mono ?_); rw [Kr.out]; rintro e wr ⟨rfl, hbr⟩; refine Blk.thru (b := w.heap.size) (arr := ?_) (t := ?_) ?_ hbr ?_; rotate_left 2; (focus (exact blk)); intro or; have orc0 := or.cell 0; have orf0 := or.free 0; have orc1 := or.cell 1; have orf1 := or.free 1; have orc2 := or.cell 2; have orf2 := or.free 2; have orc3 := or.cell 3; have orf3 := or.free 3; have orc4 := or.cell 4; have orf4 := or.free 4; have orl := or.lt; simp at orc0 orc1 orc2 orc3 orc4))
      go_ret
      first | exact ⟨rfl, by exact kpt⟩ | exact ⟨ret_int (by decide), by exact kpt⟩ | exact ⟨ret_int (by simp), by exact kpt⟩
theorem f_frcheck (F : Fr) (s : FSpot) (w : World) (hh : FrAt F s w) :
    Calls Try.prog 99 #[.agg #[.slice s.ax F.xs.length s.cx, .slice s.ah F.hs.length s.ch, .slice s.ap F.ps.length s.cp, .slice s.ar F.rs.length s.cr, .slice s.am F.ms.length s.cm]] w fun e w' => e = .returned (.int .i64 (frE F)) ∧ Kept w w' := by
  by_cases hb : both F.xs F.ms = 0
  · exact f_frcheck_ok F s w hh hb
  · exact f_frcheck_both F s w hh hb

end Go.Proofs.Ytlloijkmpmfapaa

/-
  Stowages: whether two parcels are too near, in the program.
-/
namespace Go.Proofs.Ytlloijkmpmfapaa
open Go.RowKit Bal Bal.Trim
set_option linter.unusedVariables false
set_option linter.unusedSimpArgs false
set_option maxHeartbeats 1600000
set_option maxRecDepth 10000

theorem f_near1 (x : Rule) (w : World) (d ca cb : Int) (n1 n2 n3 : Nat) (k1 : Blk w n1 #[.int .i64 d] 3) (k2 : Blk w n2 #[.int .i64 ca] 3) (k3 : Blk w n3 #[.int .i64 cb] 3) :
    Calls Try.prog 124 #[.agg #[.int .i64 x.a, .int .i64 x.b, .int .i64 x.apart], .pointer (some ⟨n1, 0, none⟩), .pointer (some ⟨n2, 0, none⟩), .pointer (some ⟨n3, 0, none⟩)] w fun e w' => e = .returned (.bool (ruleHit ca cb d x)) ∧ Kept w w' := by
  have k1c := k1.cell 0
  have k1l := k1.lt
  have k2c := k2.cell 0
  have k2l := k2.lt
  have k3c := k3.cell 0
  have k3l := k3.lt
  simp at k1c k2c k3c
  have q1 : n1 ≠ w.heap.size := by omega
  have q2 : n2 ≠ w.heap.size := by omega
  have q3 : n3 ≠ w.heap.size := by omega
  obtain ⟨R, hR⟩ : ∃ R, R = ruleHit ca cb d x := ⟨_, rfl⟩
  rw [← hR]
  have hR2 : R = (decide (d < x.apart) && (((x.a == ca) && (x.b == cb)) || ((x.a == cb) && (x.b == ca)))) := hR
  clear hR
  obtain ⟨B1, h1⟩ : ∃ B, decide (d < x.apart) = B := ⟨_, rfl⟩
  obtain ⟨B2, h2⟩ : ∃ B, (x.a == ca) = B := ⟨_, rfl⟩
  obtain ⟨B3, h3⟩ : ∃ B, (x.b == cb) = B := ⟨_, rfl⟩
  obtain ⟨B4, h4⟩ : ∃ B, (x.a == cb) = B := ⟨_, rfl⟩
  obtain ⟨B5, h5⟩ : ∃ B, (x.b == ca) = B := ⟨_, rfl⟩
  rw [h1, h2, h3, h4, h5] at hR2
  have HR := Lib.hid hR2
  clear hR2
  go_enter Try.func124, Try.ntmps124
  cases B1 <;> cases B2 <;> cases B3 <;> cases B4 <;> cases B5
  all_goals
    obtain rfl := HR.out
    clear HR
    go_wp2
    go_ret
    exact ⟨rfl, by (exact kpt)⟩

theorem s_IndexR (a : Option Addr) (cap : Nat) (xs : List Rule) (w : World) (hx : Row Rule.cells 3 w.heap.size w a xs) (h1 : xs.length ≤ 1000000) (d ca cb : Int) (n1 n2 n3 : Nat) (k1 : Blk w n1 #[.int .i64 d] 3) (k2 : Blk w n2 #[.int .i64 ca] 3) (k3 : Blk w n3 #[.int .i64 cb] 3) :
    Calls Try.prog 127 #[.slice a xs.length cap, .func (.func 124) #[] #[.pointer (some ⟨n1, 0, none⟩), .pointer (some ⟨n2, 0, none⟩), .pointer (some ⟨n3, 0, none⟩)]] w fun e w' => (∃ r : Int, e = .returned (.int .i64 r) ∧ decide (0 ≤ r) = xs.any (ruleHit ca cb d) ∧ -1 ≤ r) ∧ Kept w w' := by
  obtain ⟨R, hR⟩ : ∃ R, R = xs.any (ruleHit ca cb d) := ⟨_, rfl⟩
  have HR := Lib.hid hR
  rw [← hR]
  clear hR
  go_enter Try.func127, Try.ntmps127
  go_wp2
  go_loopw [8] (fun i wr => ∃ k : Nat, k ≤ xs.length ∧ i = .int .i64 k ∧ (xs.take k).any (ruleHit ca cb d) = false ∧ Kept w wr) (fun i _ => xs.length - (intOf i).toNat)
  case atStart => exact ⟨0, Nat.zero_le _, rfl, by simp, Below.refl _ _⟩
  case round =>
    obtain ⟨k, hk, rfl, ha', hb⟩ := hrel
    have ha := Lib.hid ha'
    clear ha'
    by_cases hlt : k < xs.length
    · obtain ⟨b0, off0, rfl, hbl0, g0, g1, g2⟩ := Rule.row (hx.later hb (Nat.le_refl _)) k hlt
      have HB := Lib.hid (show (ruleHit ca cb d) xs[k] = true → R = true from fun hv => by rw [HR.out]; exact List.any_eq_true.2 ⟨_, List.getElem_mem hlt, hv⟩)
      have HT := Lib.hid (show (ruleHit ca cb d) xs[k] = false → (xs.take (k + 1)).any (ruleHit ca cb d) = false from fun hv => by rw [List.take_succ_eq_append_getElem hlt, List.any_append, ha.out]; simp [hv])
      obtain ⟨x, hx0⟩ : ∃ x, x = xs[k] := ⟨_, rfl⟩
      rw [← hx0] at HB HT g0 g1 g2
      clear hx0
      have hcall := fun (W : World) (hk : Kept w W) => f_near1 x W d ca cb n1 n2 n3 (k1.keep hk) (k2.keep hk) (k3.keep hk)
      obtain ⟨V, hV⟩ : ∃ V, V = (ruleHit ca cb d) x := ⟨_, rfl⟩
      rw [← hV] at hcall HB HT
      clear hV
      cases V with
      | true =>
        have HF := Lib.hid (HB.out rfl)
        clear HB HT
        go_wp2_with (go_at_call 124; refine (hcall _ (by (exact kpt))).mono ?_; rintro e w1 ⟨rfl, hb1⟩)
        go_ret
        refine ⟨⟨k, rfl, ?_, by omega⟩, by (exact kpt)⟩
        rw [HF.out, decide_eq_true_eq]; omega
      | false =>
        have HF := Lib.hid (HT.out rfl)
        clear HB HT
        go_wp2_with (go_at_call 124; refine (hcall _ (by (exact kpt))).mono ?_; rintro e w1 ⟨rfl, hb1⟩)
        go_roundw
        case rel => exact ⟨k + 1, by omega, by go_num, HF.out, by (exact kpt)⟩
        case measure => simp [intOf]; omega
    · obtain rfl : k = xs.length := by omega
      have HF := Lib.hid (show R = false by rw [HR.out, ← ha.out, List.take_length])
      go_wp2
      go_ret
      refine ⟨⟨-1, rfl, ?_, by omega⟩, hb⟩
      rw [HF.out]; rfl
theorem s_ContainsR (a : Option Addr) (cap : Nat) (xs : List Rule) (w : World) (hx : Row Rule.cells 3 w.heap.size w a xs) (h1 : xs.length ≤ 1000000) (d ca cb : Int) (n1 n2 n3 : Nat) (k1 : Blk w n1 #[.int .i64 d] 3) (k2 : Blk w n2 #[.int .i64 ca] 3) (k3 : Blk w n3 #[.int .i64 cb] 3) :
    Calls Try.prog 123 #[.slice a xs.length cap, .func (.func 124) #[] #[.pointer (some ⟨n1, 0, none⟩), .pointer (some ⟨n2, 0, none⟩), .pointer (some ⟨n3, 0, none⟩)]] w fun e w' => e = .returned (.bool (xs.any (ruleHit ca cb d))) ∧ Kept w w' := by
  obtain ⟨R, hR⟩ : ∃ R, R = xs.any (ruleHit ca cb d) := ⟨_, rfl⟩
  have hcall := s_IndexR a cap xs w hx h1 d ca cb n1 n2 n3 k1 k2 k3
  rw [← hR] at hcall ⊢
  clear hR
  go_enter Try.func123, Try.ntmps123
  go_wp2_with (go_at_call 127; refine hcall.mono ?_; rintro e w1 ⟨⟨r, rfl, hr1, hr2⟩, hb1⟩)
  go_ret
  refine ⟨ret_bool ?_, hb1⟩
  rw [← hr1]

theorem f_near (F : Fr) (s : FSpot) (w : World) (hh : FrAt F s w) (i k : Nat) (ti tk : Int) (hi : i < F.ps.length) (hk : k < F.ps.length) (b1 : -1000 ≤ ti) (b2 : ti ≤ 1000) (b3 : -1000 ≤ tk) (b4 : tk ≤ 1000) (hr : F.rs.length ≤ 1000) :
    Calls Try.prog 102 #[.agg #[.slice s.ax F.xs.length s.cx, .slice s.ah F.hs.length s.ch, .slice s.ap F.ps.length s.cp, .slice s.ar F.rs.length s.cr, .slice s.am F.ms.length s.cm], .int .i64 i, .int .i64 k, .int .i64 ti, .int .i64 tk] w fun e w' => e = .returned (.bool (nearB F.rs (psAt F i).cls (psAt F k).cls (gap ti tk))) ∧ Kept w w' := by
  obtain ⟨ax, ah, ap, ar, am, cx, ch, cp, cr, cm⟩ := s
  have hps := hh.ps
  have hrs := hh.rs
  have hrc := hh.rc
  have hrM := hh.rM
  dsimp only at hps hrs hrc hrM
  clear hh
  obtain ⟨bi, oi, rfl, hbi, _, gi⟩ := Parcel.row hps i hi
  obtain ⟨bk, ok, hpk, hbk, _, gk⟩ := Parcel.row hps k hk
  obtain ⟨rfl, rfl⟩ : bi = bk ∧ oi = ok := by simpa using hpk
  rw [← psAt_eq hi] at gi
  rw [← psAt_eq hk] at gk
  obtain ⟨ca, hca⟩ : ∃ ca, ca = (psAt F i).cls := ⟨_, rfl⟩
  obtain ⟨cb, hcb⟩ : ∃ cb, cb = (psAt F k).cls := ⟨_, rfl⟩
  obtain ⟨d, hd⟩ : ∃ d, d = gap ti tk := ⟨_, rfl⟩
  have HN := Lib.hid (show ∀ v, v = F.rs.any (ruleHit ca cb d) → v = nearB F.rs ca cb d from fun v h => h)
  rw [← hca] at gi
  rw [← hcb] at gk
  rw [← hca, ← hcb, ← hd]
  have HD := Lib.hid hd
  clear hca hcb hd
  have j0 : (0 : Int) ≤ (i : Int) := by omega
  have j1 : (i : Int) < (F.ps.length : Int) := by omega
  have j2 : (0 : Int) ≤ (k : Int) := by omega
  have j3 : (k : Int) < (F.ps.length : Int) := by omega
  have u1 : IntKind.i64.wrap (ti - tk) = ti - tk := by rw [IntKind.wrap_i64]; omega
  have u2 : IntKind.i64.wrap (tk - ti) = tk - ti := by rw [IntKind.wrap_i64]; omega
  have gik : ∀ w', Kept w w' → w'.cell? ⟨bi, oi + i * 2 + 1, none⟩ = _ := fun w' h => (h.cell (p := ⟨bi, oi + i * 2 + 1, none⟩) hbi).trans gi
  have gkk : ∀ w', Kept w w' → w'.cell? ⟨bi, oi + k * 2 + 1, none⟩ = _ := fun w' h => (h.cell (p := ⟨bi, oi + k * 2 + 1, none⟩) hbk).trans gk
  clear gi gk
  go_enter Try.func102, Try.ntmps102
  go_upto_region 1 with fail
  refine at_world (S := fun W => Blk W w.heap.size #[.slice ax F.xs.length cx, .slice ah F.hs.length ch, .slice (some ⟨bi, oi, none⟩) F.ps.length cp, .slice ar F.rs.length cr, .slice am F.ms.length cm] 149 ∧ Kept w W) ⟨by (exact blk), by (exact kpt)⟩ ?_
  rintro W ⟨r0, hW⟩
  have gik2 : ∀ w', Kept W w' → w'.cell? ⟨bi, oi + i * 2 + 1, none⟩ = _ := fun w' h => gik w' (Kept.drop hW h)
  have gkk2 : ∀ w', Kept W w' → w'.cell? ⟨bi, oi + k * 2 + 1, none⟩ = _ := fun w' h => gkk w' (Kept.drop hW h)
  clear gik gkk
  have r0k0 : ∀ w', Kept W w' → w'.cell? ⟨w.heap.size, 0, none⟩ = _ := fun w' h => (r0.keep h).cell 0
  have r0k1 : ∀ w', Kept W w' → w'.cell? ⟨w.heap.size, 1, none⟩ = _ := fun w' h => (r0.keep h).cell 1
  have r0k2 : ∀ w', Kept W w' → w'.cell? ⟨w.heap.size, 2, none⟩ = _ := fun w' h => (r0.keep h).cell 2
  have r0k3 : ∀ w', Kept W w' → w'.cell? ⟨w.heap.size, 3, none⟩ = _ := fun w' h => (r0.keep h).cell 3
  have r0k4 : ∀ w', Kept W w' → w'.cell? ⟨w.heap.size, 4, none⟩ = _ := fun w' h => (r0.keep h).cell 4
  simp at r0k0 r0k1 r0k2 r0k3 r0k4
  have r0l := r0.lt
  go_cut [11, 12, 13] (fun s11 s12 s13 wx => ∃ np nq nr, s11 = .pointer (some ⟨np, 0, none⟩) ∧ s12 = .pointer (some ⟨nq, 0, none⟩) ∧ s13 = .pointer (some ⟨nr, 0, none⟩) ∧ Blk wx np #[.int .i64 ca] 3 ∧ Blk wx nq #[.int .i64 cb] 3 ∧ Blk wx nr #[.int .i64 d] 3 ∧ Blk wx w.heap.size #[.slice ax F.xs.length cx, .slice ah F.hs.length ch, .slice (some ⟨bi, oi, none⟩) F.ps.length cp, .slice ar F.rs.length cr, .slice am F.ms.length cm] 149 ∧ Kept w wx)
  case first => as_aux_lemma =>
    go_region_held3 (fun w' => Kept W w') (exact kpt) (fail)
    all_goals go_wp2_with fail
    all_goals go_meet
    all_goals
      refine ⟨_, _, _, rfl, rfl, rfl, ?_, ?_, ?_, ?_, ?_⟩
      · exact blkc
      · exact blkc
      · refine Blk.cast (arr := ?_) ?_ ?_
        rotate_left 1
        focus (exact blk)
        exact congrArg (fun z => #[Value.int IntKind.i64 z]) (by have e := HD.out; unfold gap at e; omega)
      · exact blkc
      · exact kpt
  obtain ⟨np, nq, nr, rfl, rfl, rfl, b1, b2, b3, r0, hk⟩ := hcut
  have r0c0 := r0.cell 0
  have r0f0 := r0.free 0
  have r0c1 := r0.cell 1
  have r0f1 := r0.free 1
  have r0c2 := r0.cell 2
  have r0f2 := r0.free 2
  have r0c3 := r0.cell 3
  have r0f3 := r0.free 3
  have r0c4 := r0.cell 4
  have r0f4 := r0.free 4
  have r0l := r0.lt
  simp at r0c0 r0c1 r0c2 r0c3 r0c4
  go_wp2_with (go_at_call 123; (with_reducible refine (s_ContainsR ar cr F.rs _ (hrs.later (by (exact kpt)) (Nat.le_refl _)) (by omega) d ca cb nr np nq ?_ ?_ ?_).mono ?_); (focus (exact blk)); (focus (exact blk)); (focus (exact blk)); rintro e w1 ⟨rfl, hb1⟩)
  go_ret
  exact ⟨ret_bool (HN.out _ rfl).symm, by (exact kpt)⟩

end Go.Proofs.Ytlloijkmpmfapaa

/-
  Limits at work, in the reference: corners, values, the worst choice; lists that are the same.
-/
namespace Go.Proofs.Ytlloijkmpmfapaa
open Go.RowKit Bal Bal.Trim
set_option linter.unusedVariables false
set_option linter.unusedSimpArgs false
set_option maxHeartbeats 800000

set_option maxRecDepth 10000

theorem r_corners (x : Load) (w : World) :
    Calls Try.prog 82 #[.agg #[.int .i64 x.alo, .int .i64 x.ahi, .int .i64 x.wlo, .int .i64 x.whi]] w fun e w' => e = .returned (.slice (some ⟨w.heap.size + 1, 0, none⟩) 4 4) ∧ Blk w' (w.heap.size + 1) #[.int .i64 x.alo, .int .i64 x.wlo, .int .i64 x.ahi, .int .i64 x.wlo, .int .i64 x.alo, .int .i64 x.whi, .int .i64 x.ahi, .int .i64 x.whi] 85 ∧ Kept w w' := by
  go_enter Try.func82, Try.ntmps82
  go_wp2
  go_ret
  exact ⟨rfl, by (exact blk), by (exact kpt)⟩

def ValueRel (w : World) (m : Limit) (ps : List Put) (s i : Value) (wr : World) : Prop :=
  ∃ k : Nat, k ≤ ps.length ∧ i = .int .i64 k ∧ s = .int .i64 (sumBy (vOf m) (ps.take k)) ∧ Blk wr w.heap.size #[.int .i64 m.a, .int .i64 m.b, .int .i64 m.c] 47 ∧ Kept w wr
theorem r_Value (m : Limit) (a : Option Addr) (n cap : Nat) (ps : List Put) (w : World) (hl : ps.length = n) (hx : Row Put.cells 2 w.heap.size w a ps) (hn : ps.length ≤ 60) (hm : limitB m = true) (hp : ∀ p ∈ ps, putB p) :
    Calls Try.prog 77 #[.slice a n cap, .agg #[.int .i64 m.a, .int .i64 m.b, .int .i64 m.c]] w fun e w' => e = .returned (.int .i64 (value m ps)) ∧ Kept w w' := by
  subst hl
  have HSUM := Lib.hid (fun k => sumBy_take_bd (vOf m) 22000000000000000 1320000000000000000 ps 60 hn (by omega) (by omega) (fun x h => vOf_bd hm (hp x h)) k)
  have HM := Lib.hid hm
  have HP := Lib.hid hp
  clear hm hp
  go_enter Try.func77, Try.ntmps77
  go_wp2
  go_loopw [5, 6] (fun s i wr => ValueRel w m ps s i wr) (fun _ i _ => ps.length - (intOf i).toNat)
  case atStart => exact ⟨0, Nat.zero_le _, rfl, rfl, by (exact blk), by (exact kpt)⟩
  case round =>
    obtain ⟨k, hk, rfl, rfl, q0, hkk⟩ := hrel
    by_cases hlt : k < ps.length
    · obtain ⟨b, off, rfl, hb, h0, h1⟩ := Put.row (hx.later hkk (Nat.le_refl _)) k hlt
      obtain ⟨u1, u2⟩ := HSUM.out k
      obtain ⟨⟨u3, u4⟩, ⟨u5, u6⟩, u7, u8⟩ := put_bd HM.out (HP.out ps[k] (List.getElem_mem hlt))
      have k0 := fun g : Later wr => g.some h0
      have k1 := fun g : Later wr => g.some h1
      go_upto_region 5 with fail
      have q0c0 := fun g : Later wr => (q0.later g).cell 0
      have q0f0 := fun g : Later wr => (q0.later g).free 0
      have q0c1 := fun g : Later wr => (q0.later g).cell 1
      have q0f1 := fun g : Later wr => (q0.later g).free 1
      have q0c2 := fun g : Later wr => (q0.later g).cell 2
      have q0f2 := fun g : Later wr => (q0.later g).free 2
      have q0l := fun g : Later wr => (q0.later g).lt
      simp at q0c0 q0c1 q0c2
      refine Later.region (by kernel_rfl) (by kernel_rfl) ?_
      repeat (first | go_big_quiet_skip | (go_big_quiet_want; go_big_quiet_op; first | go_big_quiet_on | (apply Exists.intro; refine ⟨fun g => ?_, ?_⟩; (focus (first | fail)); go_big_quiet_on)))
      refine wpQuiet_nil ?_
      intro gg
      have hkgg := Kept.drop hkk gg.ok
      have q1 := q0.later gg
      go_wp2
      go_round
      case rel => exact ⟨k + 1, by omega, by go_num, by rw [sumBy_take _ _ _ hlt]; rfl, q1, by (exact kpt)⟩
      case measure => simp [intOf]; omega
    · obtain rfl : k = ps.length := by omega
      go_wp2
      go_ret
      exact ⟨ret_int (by rw [List.take_length]; rfl), hkk⟩

theorem value_one (m : Limit) (p : Put) : value m [p] = vOf m p := by simp [value, sumBy_cons]
theorem r_Value1 (m : Limit) (a : Option Addr) (cap : Nat) (p : Put) (w : World) (hx : Row Put.cells 2 w.heap.size w a [p]) (hm : limitB m = true) (hp : putB p) :
    Calls Try.prog 77 #[.slice a 1 cap, .agg #[.int .i64 m.a, .int .i64 m.b, .int .i64 m.c]] w fun e w' => e = .returned (.int .i64 (vOf m p)) ∧ Kept w w' := by
  have := r_Value m a 1 cap [p] w rfl hx (by simp) hm (by simpa using hp)
  rwa [value_one] at this
theorem r_ValueN (m : Limit) (p : Put) (t : TypeId) (W : World) (n : Nat) (hn : n = W.heap.size) (hm : limitB m = true) (hp : putB p) :
    Calls Try.prog 77 #[.slice (some ⟨n, 0, none⟩) 1 1, .agg #[.int .i64 m.a, .int .i64 m.b, .int .i64 m.c]] (W.alloc (.cells #[.int .i64 p.pos, .int .i64 p.wt] t)) fun e w' => e = .returned (.int .i64 (vOf m p)) ∧ Kept (W.alloc (.cells #[.int .i64 p.pos, .int .i64 p.wt] t)) w' := by
  subst hn
  exact r_Value1 m _ 1 p _ (Row.one Blk.new rfl) hm hp

theorem f_kept (a b : Option Addr) (c d : Nat) (xs : List Load) (w : World) (hx : Row Load.cells 4 w.heap.size w a xs) (hy : Row Load.cells 4 w.heap.size w b xs) (hc : xs.length ≤ c) (hd : xs.length ≤ d) (hM : c ≤ maxLen) (hN : d ≤ maxLen) :
    Calls Try.prog 30 #[.slice a xs.length c, .slice b xs.length d] w fun e w' => e = .returned (.bool true) ∧ Kept w w' := by
  unfold maxLen at hM hN
  go_enter Try.func30, Try.ntmps30
  go_wp2
  go_loopw [8] (fun i wr => ∃ k : Nat, k ≤ xs.length ∧ i = .int .i64 k ∧ Kept w wr) (fun i _ => xs.length - (intOf i).toNat)
  case atStart => exact ⟨0, Nat.zero_le _, rfl, Below.refl _ _⟩
  case round =>
    obtain ⟨k, hk, rfl, hkk⟩ := hrel
    by_cases hlt : k < xs.length
    · obtain ⟨b1, o1, rfl, hb1, h0, h1, h2, h3⟩ := Load.row (hx.later hkk (Nat.le_refl _)) k hlt
      obtain ⟨b2, o2, rfl, hb2, j0, j1, j2, j3⟩ := Load.row (hy.later hkk (Nat.le_refl _)) k hlt
      have x0 := fun g : Later wr => g.some h0
      have y0 := fun g : Later wr => g.some j0
      have x1 := fun g : Later wr => g.some h1
      have y1 := fun g : Later wr => g.some j1
      have x2 := fun g : Later wr => g.some h2
      have y2 := fun g : Later wr => g.some j2
      have x3 := fun g : Later wr => g.some h3
      have y3 := fun g : Later wr => g.some j3
      go_upto_region 4 with fail
      refine Later.region (by kernel_rfl) (by kernel_rfl) ?_
      repeat (first | go_big_quiet_skip | (go_big_quiet_want; go_big_quiet_op; first | go_big_quiet_on | (apply Exists.intro; refine ⟨fun g => ?_, ?_⟩; (focus (first | fail)); go_big_quiet_on)))
      refine wpQuiet_nil ?_
      intro gg
      have hkgg := Kept.drop hkk gg.ok
      go_wp2
      go_round
      case rel => exact ⟨k + 1, by omega, by go_num, by (exact kpt)⟩
      case measure => simp [intOf]; omega
    · obtain rfl : k = xs.length := by omega
      go_wp2
      go_ret
      exact ⟨rfl, hkk⟩

end Go.Proofs.Ytlloijkmpmfapaa

/-
  An empty slice that a call has made, and lists appended to it. No program in sight.
-/
namespace Bal
open Go Go.RowKit
set_option linter.unusedVariables false
theorem owns_made {α : Type} {enc : α → List Value} {base k n : Nat} {e : TypeId} {w : World} (hn : n = w.heap.size) (hb : base ≤ w.heap.size) : (w.alloc (.cells #[] e)).ownsRow base e k (.slice (some ⟨n, 0, none⟩) 0 0) ([] : List α).length (([] : List α).flatMap enc) := by
  subst hn
  refine ⟨by simp, .inr ⟨w.heap.size, 0, #[], rfl, hb, Blk.new, Nat.le_refl _, by simp [maxLen], by simp, by simp⟩⟩
end Bal

/-
  Small functions of the bags.
-/
namespace Go.Proofs.Ytlloijkmpmfapaa
open Go.RowKit Bal Bal.Trim
set_option linter.unusedVariables false
set_option linter.unusedSimpArgs false
set_option maxHeartbeats 800000

set_option maxRecDepth 10000
theorem infoLoad : (Try.prog.info? 88).map (fun i => (i.zero, i.size, i.bytes)) = some (some (.agg #[.int .i64 0, .int .i64 0, .int .i64 0, .int .i64 0]), 4, 32) := by kernel_rfl

theorem f_exact (p : Put) (w : World) :
    Calls Try.prog 93 #[.agg #[.int .i64 p.pos, .int .i64 p.wt]] w fun e w' => e = .returned (.agg #[.int .i64 p.pos, .int .i64 p.pos, .int .i64 p.wt, .int .i64 p.wt]) ∧ Kept w w' := by
  go_enter Try.func93, Try.ntmps93
  go_wp2
  exact bodyPost_ret (v := .agg #[.int .i64 p.pos, .int .i64 p.pos, .int .i64 p.wt, .int .i64 p.wt]) (by simp [results, Try.results93, go_sem]) rfl ⟨rfl, by (exact kpt)⟩

theorem r_exactly (p : Put) (w : World) :
    Calls Try.prog 98 #[.int .i64 p.pos, .int .i64 p.wt] w fun e w' => e = .returned (.agg #[.int .i64 p.pos, .int .i64 p.pos, .int .i64 p.wt, .int .i64 p.wt]) ∧ Kept w w' := by
  go_enter Try.func98, Try.ntmps98
  go_wp2
  exact bodyPost_ret (v := .agg #[.int .i64 p.pos, .int .i64 p.pos, .int .i64 p.wt, .int .i64 p.wt]) (by simp [results, Try.results98, go_sem]) rfl ⟨rfl, by (exact kpt)⟩

theorem s_CloneL (a : Option Addr) (cap : Nat) (xs : List Load) (w : World) (hx : Row Load.cells 4 w.heap.size w a xs) (hn : xs.length ≤ 1000) (hz : a = none → cap = 0) :
    Calls Try.prog 91 #[.slice a xs.length cap] w fun e w' => ∃ v, e = .returned v ∧ w'.ownsRow w.heap.size 88 4 v xs.length (xs.flatMap Load.cells) ∧ Kept w w' := by
  cases a with
  | none =>
    have hl : xs = [] := by
      cases xs with
      | nil => rfl
      | cons y ys => obtain ⟨b, off, ha, _⟩ := hx 0 y rfl; cases ha
    subst hl
    have := hz rfl
    subst this
    have hs0 : ∀ w, (binOp .eql 22 (.slice none 0 0) (.slice none 0 0)).run Try.prog w = .ok (.bool true) w := fun w => Lib.run_eql_slice_nil w _ _ _ _ _ _ _ Try.underlying22
    go_enter Try.func91, Try.ntmps91
    go_wp2
    exact bodyPost_ret (v := .slice none 0 0) (by simp [results, Try.results91, go_sem]) rfl ⟨_, rfl, owns_nil (α := Load) (enc := Load.cells), by (exact kpt)⟩
  | some ad =>
    have HO := Lib.hid (owns_made (α := Load) (enc := Load.cells) (base := w.heap.size) (k := 4) (n := w.heap.size) (e := 88) (w := w) rfl (Nat.le_refl _))
    have hs0 : ∀ w, (binOp .eql 22 (.slice (some ad) xs.length cap) (.slice none 0 0)).run Try.prog w = .ok (.bool false) w := fun w => Lib.run_eql_slice_nil w _ _ _ _ _ _ _ Try.underlying22
    go_enter Try.func91, Try.ntmps91
    go_wp2_with (at_builtin; obtain ⟨i0, hi, hz0, hz1, hz2⟩ := info_parts infoLoad; refine wpList_append_list (enc := Load.cells) rfl _ _ 22 rfl w.heap.size 88 i0 (.agg #[.int .i64 0, .int .i64 0, .int .i64 0, .int .i64 0]) 4 32 Try.underlying22 hi hz0 hz1 hz2 rfl (by decide) (fun _ => rfl) (fun x u hu => by simp [Load.cells] at hu; rcases hu with rfl | rfl | rfl | rfl <;> rfl) _ [] rfl HO.out (some ad) cap xs rfl (by simp) (B := w.heap.size) (hx.keep (by (exact kpt)) (Nat.le_refl _)) (by simp [maxLen]; omega) (by simp; omega) (by simp) ?_; intro v' w9 hown' hgrow; clear hi hz0 hz1 hz2)
    have hk : Kept w w9 := Kept.grown (Kept.alloc (Below.refl _ _) _) HO.out (Nat.le_refl _) hgrow
    rw [List.nil_append] at hown'
    obtain ⟨ad', cp, rfl, _⟩ := owns_row (enc := Load.cells) (k := 4) (fun _ => rfl) hown'
    exact bodyPost_ret (v := .slice ad' xs.length cp) (by simp [results, Try.results91, go_sem]) rfl ⟨_, rfl, hown', hk⟩

end Go.Proofs.Ytlloijkmpmfapaa

/-
  The bits of a number, in the reference.
-/
namespace Go.Proofs.Ytlloijkmpmfapaa
open Go.RowKit Bal Bal.Trim
set_option linter.unusedVariables false
set_option linter.unusedSimpArgs false
set_option maxHeartbeats 800000

set_option maxRecDepth 10000

theorem infoI2 : (Try.prog.info? 3).map (fun i => (i.zero, i.size, i.bytes)) = some (some (.int .i64 0), 1, 8) := by kernel_rfl
end Go.Proofs.Ytlloijkmpmfapaa

/-
  A range over an iterator that keeps its state in cells of its own, and hands over values that show them: its contract, and the law of the caller. No program in sight.
-/
namespace Bal
open Go Go.RowKit
variable {F : Fence} {n : Nat} {P : Program}

/-! ### The marks that the loops have left -/
def marks (Ds : List Nat) : List Deferred := Ds.map fun D => { target := .collected D, args := #[] }
/-- each mark's block is there, with no call -/
def Marked (B : Nat) (Ds : List Nat) (W : World) : Prop := Ds.Nodup ∧ ∀ D ∈ Ds, B ≤ D ∧ W.heap[D]? = some (.deferred (some []))
theorem Marked.keep {B C : Nat} {Ds : List Nat} {W W' : World} (h : Marked B Ds W) (hb : Below C W W') (hC : W.heap.size ≤ C) : Marked B Ds W' :=
  ⟨h.1, fun D hD => ⟨(h.2 D hD).1, (hb.block D (by have := (Array.getElem?_eq_some_iff.1 (h.2 D hD).2).1; omega)).trans (h.2 D hD).2⟩⟩
theorem Marked.from {B C : Nat} {Ds : List Nat} {W W' : World} (h : Marked B Ds W) (hk : KeepsFrom C W W') (hC : C ≤ B) : Marked B Ds W' :=
  ⟨h.1, fun D hD => ⟨(h.2 D hD).1, hk.same D _ (by have := (h.2 D hD).1; omega) (h.2 D hD).2 rfl⟩⟩
end Bal

/-
  The bags' sets, in the program: the iterator.
-/
namespace Go.Proofs.Ytlloijkmpmfapaa
open Go.RowKit Go.Shelf Bal Bal.Trim
set_option linter.unusedVariables false
set_option linter.unusedSimpArgs false
set_option maxHeartbeats 1600000
set_option maxRecDepth 10000
attribute [local go_sem] Oper.semAt_some

def ncells (x : List Nat) : Array Value := (x.map (fun i : Nat => Value.int .i64 (i : Int))).toArray
theorem ncells_at {x : List Nat} {k : Nat} (h : k < x.length) : (ncells x)[k]? = some (.int .i64 (x[k] : Int)) := by simp [ncells, h]
theorem ncells_set (x : List Nat) (k v : Nat) : (ncells x).setIfInBounds k (.int .i64 (v : Int)) = ncells (x.set k v) := by
  simp [ncells, List.map_set]
theorem Blk.below {W W' : World} {b B : Nat} {arr : Array Value} {t : TypeId} (h : Blk W b arr t) (hb : Below B W W') (hB : b < B) : Blk W' b arr t := (hb.block b hB).trans h
theorem run_makeI (s : Nat) (hs : s ≤ 1000) (w : World) : (Instr.makeSlice 63 (.int .i64 s) (.int .i64 s)).run Try.prog w = .ok (.slice (some ⟨w.heap.size, 0, none⟩) s s) (w.alloc (.cells (ncells (List.replicate s 0)) 3)) := by
  obtain ⟨i0, hi, hz0, hz1, hz2⟩ := info_parts infoI2
  have := run_make (P := Try.prog) w 63 3 i0 (.int .i64 0) Try.underlying63 hi hz0 .i64 .i64 s s (by omega) (Int.le_refl _) (by rw [hz2]; omega) (by omega)
  rw [this]
  have hm : madeCells (Value.cells (.int .i64 0)) ((s : Int).toNat * i0.size) = ncells (List.replicate s 0) := by
    rw [hz1]
    apply Array.ext
    · simp [madeCells, ncells]
    · intro i h1 h2
      simp [madeCells, ncells, Value.cells, Nat.mod_one]
  rw [hm]
  simp

end Go.Proofs.Ytlloijkmpmfapaa

/-
  Clone of numbers; a set that is shown.
-/
namespace Go.Proofs.Ytlloijkmpmfapaa
open Go.RowKit Bal Bal.Trim
set_option linter.unusedVariables false
set_option linter.unusedSimpArgs false
set_option maxHeartbeats 1600000
set_option maxRecDepth 10000
theorem s_CloneI (a : Option Addr) (cap : Nat) (xs : List Int) (w : World) (hx : Row icell 1 w.heap.size w a xs) (hn : xs.length ≤ 1000) (hz : a = none → cap = 0) :
    Calls Try.prog 94 #[.slice a xs.length cap] w fun e w' => ∃ v, e = .returned v ∧ w'.ownsRow w.heap.size 3 1 v xs.length (xs.flatMap icell) ∧ Kept w w' := by
  cases a with
  | none =>
    have hl : xs = [] := by
      cases xs with
      | nil => rfl
      | cons y ys => obtain ⟨b, off, ha, _⟩ := hx 0 y rfl; cases ha
    subst hl
    have := hz rfl
    subst this
    have hs0 : ∀ w, (binOp .eql 63 (.slice none 0 0) (.slice none 0 0)).run Try.prog w = .ok (.bool true) w := fun w => Lib.run_eql_slice_nil w _ _ _ _ _ _ _ Try.underlying63
    go_enter Try.func94, Try.ntmps94
    go_wp2
    exact bodyPost_ret (v := .slice none 0 0) (by simp [results, Try.results94, go_sem]) rfl ⟨_, rfl, owns_nil (α := Int) (enc := icell), by (exact kpt)⟩
  | some ad =>
    have HO := Lib.hid (owns_made (α := Int) (enc := icell) (base := w.heap.size) (k := 1) (n := w.heap.size) (e := 3) (w := w) rfl (Nat.le_refl _))
    have hs0 : ∀ w, (binOp .eql 63 (.slice (some ad) xs.length cap) (.slice none 0 0)).run Try.prog w = .ok (.bool false) w := fun w => Lib.run_eql_slice_nil w _ _ _ _ _ _ _ Try.underlying63
    go_enter Try.func94, Try.ntmps94
    go_wp2_with (at_builtin; obtain ⟨i0, hi, hz0, hz1, hz2⟩ := info_parts infoI2; refine wpList_append_list (enc := icell) rfl _ _ 63 rfl w.heap.size 3 i0 (.int .i64 0) 1 8 Try.underlying63 hi hz0 hz1 hz2 rfl (by decide) (fun _ => rfl) (fun x u hu => by simp [icell] at hu; subst hu; rfl) _ [] rfl HO.out (some ad) cap xs rfl (by simp) (B := w.heap.size) (hx.keep (by (exact kpt)) (Nat.le_refl _)) (by simp [maxLen]; omega) (by simp; omega) (by simp) ?_; intro v' w9 hown' hgrow; clear hi hz0 hz1 hz2)
    have hk : Kept w w9 := Kept.grown (Kept.alloc (Below.refl _ _) _) HO.out (Nat.le_refl _) hgrow
    rw [List.nil_append] at hown'
    obtain ⟨ad', cp, rfl, _⟩ := owns_row (enc := icell) (k := 1) (fun _ => rfl) hown'
    exact bodyPost_ret (v := .slice ad' xs.length cp) (by simp [results, Try.results94, go_sem]) rfl ⟨_, rfl, hown', hk⟩


def ints (x : List Nat) : List Int := x.map (fun i : Nat => (i : Int))
theorem ints_len (x : List Nat) : (ints x).length = x.length := by simp [ints]
theorem row_ints {W : World} {b : Nat} {x : List Nat} (h : Blk W b (ncells x) 3) : Row icell 1 W.heap.size W (some ⟨b, 0, none⟩) (ints x) := by
  intro i y hy
  obtain ⟨hi, rfl⟩ := List.getElem?_eq_some_iff.1 hy
  rw [ints_len] at hi
  refine ⟨b, 0, rfl, h.lt, fun j v hj => ?_⟩
  cases j with
  | zero =>
    simp [icell] at hj
    subst hj
    have := h.cell i
    rw [ncells_at hi] at this
    simpa [ints] using this
  | succ j => simp [icell] at hj
end Go.Proofs.Ytlloijkmpmfapaa

/-
  Drop, in the program.
-/
namespace Go.Proofs.Ytlloijkmpmfapaa
open Go.RowKit Bal Bal.Trim
set_option linter.unusedVariables false
set_option linter.unusedSimpArgs false
set_option maxHeartbeats 1600000
set_option maxRecDepth 10000
attribute [local go_sem] Oper.semAt_some

/-- the boxes of the arguments and of the results -/
structure DropW (w W : World) (a d b : Option Addr) (n m l cap cd cb : Nat) : Prop where
  r0 : Blk W w.heap.size #[.slice a n cap] 22
  r1 : Blk W (w.heap.size + 1) #[.slice d m cd] 34
  r2 : Blk W (w.heap.size + 1 + 1) #[.slice b l cb] 23
  r3 : Blk W (w.heap.size + 1 + 1 + 1) #[.slice none 0 0] 63
  r4 : Blk W (w.heap.size + 1 + 1 + 1 + 1) #[.int .i64 0] 26
  kept : Kept w W
end Go.Proofs.Ytlloijkmpmfapaa

/-
  Drop: the loop's act, what its rounds leave alone.
-/
namespace Go.Proofs.Ytlloijkmpmfapaa
open Go.RowKit Go.Shelf Bal Bal.Trim
set_option linter.unusedVariables false
set_option linter.unusedSimpArgs false
set_option maxRecDepth 10000
theorem DropW.keep {w W W' : World} {a d b : Option Addr} {n m l cap cd cb B : Nat} (h : DropW w W a d b n m l cap cd cb) (hb : Below B W W') (hB : W.heap.size ≤ B) : DropW w W' a d b n m l cap cd cb :=
  ⟨Blk.below h.r0 hb (Nat.lt_of_lt_of_le h.r0.lt hB), Blk.below h.r1 hb (Nat.lt_of_lt_of_le h.r1.lt hB), Blk.below h.r2 hb (Nat.lt_of_lt_of_le h.r2.lt hB), Blk.below h.r3 hb (Nat.lt_of_lt_of_le h.r3.lt hB), Blk.below h.r4 hb (Nat.lt_of_lt_of_le h.r4.lt hB), h.kept.trans (hb.mono (Nat.le_trans h.kept.size hB))⟩
theorem DropW.grown {w W W' : World} {a d b : Option Addr} {n m l cap cd cb base k j : Nat} {v : Value} {ys : List Value} (h : DropW w W a d b n m l cap cd cb) (ho : W.ownsRow base 88 k v j ys) (hb : w.heap.size ≤ base) (hg : W.grownBy W' v.ownBlock) : DropW w W' a d b n m l cap cd cb :=
  ⟨h.r0.grown ho (by decide) hg, h.r1.grown ho (by decide) hg, h.r2.grown ho (by decide) hg, h.r3.grown ho (by decide) hg, h.r4.grown ho (by decide) hg, Kept.grown h.kept ho hb hg⟩
theorem cells_four (w : World) (p q r s : Value) (t : TypeId) : ∀ j u, [p, q, r, s][j]? = some u → (w.alloc (.cells #[p, q, r, s] t)).cell? ((⟨w.heap.size, 0, none⟩ : Addr).add j) = some u := by
  intro j u hj
  match j, hj with
  | 0, hj => simp at hj; subst hj; simp [Addr.add]
  | 1, hj => simp at hj; subst hj; simp [Addr.add]
  | 2, hj => simp at hj; subst hj; simp [Addr.add]
  | 3, hj => simp at hj; subst hj; simp [Addr.add]
  | j + 4, hj => simp at hj
end Go.Proofs.Ytlloijkmpmfapaa

/-
  Stowages: whether one is off trim, and the rooms of the holds, in the program.
-/
namespace Go.Proofs.Ytlloijkmpmfapaa
open Go.RowKit Bal Bal.Trim
set_option linter.unusedVariables false
set_option linter.unusedSimpArgs false
set_option maxHeartbeats 4000000
set_option maxRecDepth 10000

theorem f_off (F : Fr) (s : FSpot) (w : World) (hh : FrAt F s w) (ho : FrOk F) (a : Option Addr) (cap : Nat) (x : List Nat) (hx : Row icell 1 w.heap.size w a (ints x)) (hc : x.length ≤ cap) (hM : cap ≤ maxLen) (hl : x.length ≤ F.ps.length) (hs : ∀ k ∈ x, k < F.hs.length) :
    Calls Try.prog 101 #[.agg #[.slice s.ax F.xs.length s.cx, .slice s.ah F.hs.length s.ch, .slice s.ap F.ps.length s.cp, .slice s.ar F.rs.length s.cr, .slice s.am F.ms.length s.cm], .slice a x.length cap] w fun e w' => e = .returned (.bool (offB F x)) ∧ Kept w w' := by
  obtain ⟨RB, hRB⟩ : ∃ RB, RB = offB F x := ⟨_, rfl⟩
  rw [← hRB]
  have HRB := Lib.hid hRB
  clear hRB
  obtain ⟨ax, ah, ap, ar, am, cx, ch, cp, cr, cm⟩ := s
  have hxs := hh.xs
  have hhs := hh.hs
  have hps := hh.ps
  have hms := hh.ms
  have hmc := hh.mc
  have hmM := hh.mM
  have hxz := hh.xz
  dsimp only at hxs hhs hps hms hmc hmM hxz
  have hln := ho.ln
  have hpn := ho.pn
  have hpM := hh.pM
  have hhn := ho.hn
  have hhM := hh.hM
  have hpc := hh.pc
  have hhc := hh.hc
  dsimp only at hpM hhM hpc hhc
  clear hh
  unfold maxLen at hM hpM hhM
  go_enter Try.func101, Try.ntmps101
  go_upto_region 1 with fail
  refine at_world (S := fun W => Blk W w.heap.size #[.slice ax F.xs.length cx, .slice ah F.hs.length ch, .slice ap F.ps.length cp, .slice ar F.rs.length cr, .slice am F.ms.length cm] 149 ∧ Kept w W) ⟨by (exact blk), by (exact kpt)⟩ ?_
  rintro W ⟨r0, hW⟩
  have hzW := hW.size
  have r0c0 := r0.cell 0
  have r0f0 := r0.free 0
  have r0c1 := r0.cell 1
  have r0f1 := r0.free 1
  have r0c2 := r0.cell 2
  have r0f2 := r0.free 2
  have r0c3 := r0.cell 3
  have r0f3 := r0.free 3
  have r0c4 := r0.cell 4
  have r0f4 := r0.free 4
  have r0l := r0.lt
  simp at r0c0 r0c1 r0c2 r0c3 r0c4
  go_wp2_with (go_at_call 91; (with_reducible refine (s_CloneL ax cx F.xs _ (hxs.later (by (exact kpt)) (Nat.le_refl _)) (by omega) hxz).mono ?_); rintro e w1 ⟨v1, rfl, ho1, hb1⟩; refine Blk.thru (b := w.heap.size) (arr := ?_) (t := ?_) ?_ hb1 ?_; rotate_left 2; (focus (exact blk)); intro q0; have q0c0 := q0.cell 0; have q0f0 := q0.free 0; have q0c1 := q0.cell 1; have q0f1 := q0.free 1; have q0c2 := q0.cell 2; have q0f2 := q0.free 2; have q0c3 := q0.cell 3; have q0f3 := q0.free 3; have q0c4 := q0.cell 4; have q0f4 := q0.free 4; have q0l := q0.lt; simp at q0c0 q0c1 q0c2 q0c3 q0c4)
  go_loopw [5, 15] (fun s5 i wr => ∃ j : Nat, j ≤ x.length ∧ i = .int .i64 j ∧ wr.ownsRow W.heap.size 88 4 s5 (F.xs ++ (puts F x).take j).length ((F.xs ++ (puts F x).take j).flatMap Load.cells) ∧ Blk wr w.heap.size #[.slice ax F.xs.length cx, .slice ah F.hs.length ch, .slice ap F.ps.length cp, .slice ar F.rs.length cr, .slice am F.ms.length cm] 149 ∧ Kept W wr) (fun _ i _ => x.length - (intOf i).toNat)
  case atStart => exact ⟨0, Nat.zero_le _, rfl, by simpa using ho1, q0, hb1⟩
  case round =>
    clear ho1 q0 hb1 r0 r0c0 r0f0 r0c1 r0f1 r0c2 r0f2 r0c3 r0f3 r0c4 r0f4 r0l q0c0 q0f0 q0c1 q0f1 q0c2 q0f2 q0c3 q0f3 q0c4 q0f4 q0l
    obtain ⟨j, hj, rfl, hown, r0, hkq⟩ := hrel
    have hkw := Kept.drop hW hkq
    have hzq := hkq.size
    have hlen : (F.xs ++ (puts F x).take j).length ≤ 40 := by rw [List.length_append, List.length_take, puts_len hl]; omega
    have r0l := r0.lt
    by_cases hlt : j < x.length
    · obtain ⟨bs, os, rfl, _, gs⟩ := int_row (hx.later hkw (Nat.le_refl _)) j (by rw [ints_len]; exact hlt)
      have hkj : x[j] < F.hs.length := hs _ (List.getElem_mem hlt)
      have hpj : j < F.ps.length := by omega
      obtain ⟨bh, oh, rfl, hbh, g0, _⟩ := Hold.row (hhs.later hkw (Nat.le_refl _)) x[j] hkj
      obtain ⟨bp, op, rfl, hbp, q0, _⟩ := Parcel.row (hps.later hkw (Nat.le_refl _)) j hpj
      have HP := Lib.hid (puts_take hlt hl)
      have gs2 : wr.cell? ⟨bs, os + j, none⟩ = some (.int .i64 (x[j] : Int)) := by simpa [ints] using gs
      rw [← hsAt_eq hkj] at g0
      rw [← psAt_eq hpj] at q0
      obtain ⟨y, hy⟩ : ∃ y : Put, y = ⟨(hsAt F x[j]).pos, (psAt F j).wt⟩ := ⟨_, rfl⟩
      rw [← hy] at HP
      rw [show (hsAt F x[j]).pos = y.pos by rw [hy]] at g0
      rw [show (psAt F j).wt = y.wt by rw [hy]] at q0
      obtain ⟨k, hk0⟩ : ∃ k, k = x[j] := ⟨_, rfl⟩
      rw [← hk0] at gs2 g0 hkj
      clear hk0 hy gs
      have x0 := fun g : Later wr => g.some g0
      have x1 := fun g : Later wr => g.some q0
      have j0 : (0 : Int) ≤ (j : Int) := by omega
      have j1 : (j : Int) < (F.ps.length : Int) := by omega
      have j2 : (0 : Int) ≤ (k : Int) := by omega
      have j3 : (k : Int) < (F.hs.length : Int) := by omega
      have r0c0 := fun g : Later wr => (r0.later g).cell 0
      have r0f0 := fun g : Later wr => (r0.later g).free 0
      have r0c1 := fun g : Later wr => (r0.later g).cell 1
      have r0f1 := fun g : Later wr => (r0.later g).free 1
      have r0c2 := fun g : Later wr => (r0.later g).cell 2
      have r0f2 := fun g : Later wr => (r0.later g).free 2
      have r0c3 := fun g : Later wr => (r0.later g).cell 3
      have r0f3 := fun g : Later wr => (r0.later g).free 3
      have r0c4 := fun g : Later wr => (r0.later g).cell 4
      have r0f4 := fun g : Later wr => (r0.later g).free 4
      have r0l := fun g : Later wr => (r0.later g).lt
      simp at r0c0 r0c1 r0c2 r0c3 r0c4
      go_upto_region 5 with fail
      refine later_mix [(true, 0), (false, 1), (false, 2), (false, 3), (false, 4), (false, 5), (false, 6), (false, 7), (false, 8), (false, 9), (false, 10), (false, 11), (false, 12), (false, 13), (false, 14)] 15 [16, 17] (by kernel_rfl) (by kernel_rfl) ?_
      simp only [List.filterMap_cons, List.filterMap_nil, List.getElem?_cons_zero, List.getElem?_cons_succ, Option.map_some]
      refine wpSteps_any _ rfl (fun w => rfl) ?_
      simp only [Act.put, List.setIfInBounds_toArray, List.set_cons_zero, List.set_cons_succ]
      repeat (refine wpSteps_quiet ?_; (first | go_big_quiet_skip | (go_big_quiet_want; go_big_quiet_op; first | go_big_quiet_on | (apply Exists.intro; refine ⟨fun g => ?_, ?_⟩; (focus (first | (go_at_call 93; with_reducible exact Later.call (f_exact y _)))); go_big_quiet_on))); refine wpQuiet_nil ?_)
      refine wpSteps_nil ?_
      intro gg
      have hown1 := owns_keep hown gg.ok
      refine wpList_plain rfl fun K1 hK1 => ?_
      go_simp
      refine hK1 _ _ ?_
      (obtain ⟨i0, hi, hz0, hz1, hz2⟩ := info_parts infoLoad; refine wpList_append_own _ rfl _ _ 22 rfl W.heap.size 88 i0 (.agg #[.int .i64 0, .int .i64 0, .int .i64 0, .int .i64 0]) 4 32 Try.underlying22 hi hz0 hz1 hz2 rfl (by decide) _ _ _ rfl (hown1.alloc _) ⟨_, 0, none⟩ 1 1 [.int .i64 y.pos, .int .i64 y.pos, .int .i64 y.wt, .int .i64 y.wt] rfl rfl (cells_four _ _ _ _ _ _) (by intro x hx; simp only [List.mem_cons, List.not_mem_nil, or_false] at hx; rcases hx with rfl | rfl | rfl | rfl <;> rfl) (by unfold maxLen; omega) (by omega) (by have := gg.ok.size; simp only [World.size_alloc] at this ⊢; omega) ?_; intro v9 w9 hown9 hgrow9 hnil9; clear hi hz0 hz1 hz2)
      have hK9 : Kept W w9 := Kept.grown (Kept.alloc (Kept.drop hkq gg.ok) _) (hown1.alloc _) (Nat.le_refl _) hgrow9
      have r09 := (Blk.alloc (r0.keep gg.ok) _).grown (hown1.alloc _) (by decide) hgrow9
      go_wp2
      refine NoPanic.normal ?_
      go_wp2
      go_roundw
      case rel => exact ⟨j + 1, by omega, by go_num, by rw [HP.out, ← List.append_assoc, List.flatMap_append, List.length_append]; exact hown9, r09, hK9⟩
      case measure => simp [intOf]; omega
    · obtain rfl : j = x.length := by omega
      have hT : (puts F x).take x.length = puts F x := List.take_of_length_le (by rw [puts_len hl]; omega)
      rw [hT] at hown
      obtain ⟨L, hL⟩ : ∃ L, L = F.xs ++ puts F x := ⟨_, rfl⟩
      rw [← hL] at hown
      obtain ⟨ad, cpp, rfl, hrow, hcp, hcm⟩ := owns_row (enc := Load.cells) (k := 4) (fun _ => rfl) hown
      have HBr := f_broken ad cpp L am cm F.ms wr hrow hcp hcm (hms.later hkw (Nat.le_refl _)) hmc hmM (by rw [hL]; exact puts_both ho hs hl)
      have hO : offB F x = (broken L F.ms).isSome := by rw [hL]; rfl
      obtain ⟨Ob, hOb⟩ : ∃ Ob, Ob = broken L F.ms := ⟨_, rfl⟩
      rw [← hOb] at HBr hO
      have HO := Lib.hid hO
      clear hOb hO hL hown hrow
      have r0c0 := r0.cell 0
      have r0f0 := r0.free 0
      have r0c1 := r0.cell 1
      have r0f1 := r0.free 1
      have r0c2 := r0.cell 2
      have r0f2 := r0.free 2
      have r0c3 := r0.cell 3
      have r0f3 := r0.free 3
      have r0c4 := r0.cell 4
      have r0f4 := r0.free 4
      have r0l := r0.lt
      simp at r0c0 r0c1 r0c2 r0c3 r0c4
      go_wp2_with (go_at_call 72; (with_reducible refine HBr.mono ?_); rintro e w7 ⟨v7, rfl, ho7, hb7⟩; obtain ⟨ad7, cp7, rfl, hr7, hc7, hm7⟩ := owns_row (enc := Put.cells) (k := 2) (fun _ => rfl) ho7; refine Blk.thru (b := w.heap.size) (arr := ?_) (t := ?_) ?_ hb7 ?_; rotate_left 2; (focus (exact blk)); intro q0; have q0c0 := q0.cell 0; have q0f0 := q0.free 0; have q0c1 := q0.cell 1; have q0f1 := q0.free 1; have q0c2 := q0.cell 2; have q0f2 := q0.free 2; have q0c3 := q0.cell 3; have q0f3 := q0.free 3; have q0c4 := q0.cell 4; have q0f4 := q0.free 4; have q0l := q0.lt; simp at q0c0 q0c1 q0c2 q0c3 q0c4)
      go_ret
      exact ⟨ret_bool (by rw [HRB.out, HO.out]), by (exact kpt)⟩

theorem row_cells {B : Nat} {w : World} {ad : Option Addr} {xs : List Int} (h : Row icell 1 B w ad xs) (hp : 0 < (xs.map fun n => Value.int .i64 n).length) : ∃ a, ad = some a ∧ ∀ j v, (xs.map fun n => Value.int .i64 n)[j]? = some v → w.cell? (a.add j) = some v := by
  have h0 : 0 < xs.length := by simpa using hp
  obtain ⟨b, off, rfl, _, _⟩ := h 0 xs[0] (List.getElem?_eq_getElem h0)
  refine ⟨_, rfl, fun j v hj => ?_⟩
  rw [List.getElem?_map, Option.map_eq_some_iff] at hj
  obtain ⟨n, hn, rfl⟩ := hj
  obtain ⟨b', off', he, _, hc⟩ := h j n hn
  cases he
  have := hc 0 (.int .i64 n) rfl
  have e : (⟨b, off, none⟩ : Addr).add j = ⟨b, off + j, none⟩ := by unfold Addr.add; split <;> simp_all
  rw [e]
  simpa using this
theorem rooms_splice (F : Fr) (hn : F.hs.length ≤ 5) : (splice [.int .i64 0, .int .i64 0, .int .i64 0, .int .i64 0, .int .i64 0] 0 ((F.hs.map Hold.room).map fun n => Value.int .i64 n)).toArray = #[.int .i64 (leftIn F [] 0), .int .i64 (leftIn F [] 1), .int .i64 (leftIn F [] 2), .int .i64 (leftIn F [] 3), .int .i64 (leftIn F [] 4)] := by
  obtain ⟨l, hl⟩ : ∃ l, l = F.hs := ⟨_, rfl⟩
  have e : ∀ k, leftIn F [] k = (l.getD k default).room := fun k => by rw [left_nil, hl]; rfl
  rw [e, e, e, e, e, ← hl]
  rw [← hl] at hn
  have d : (default : Hold).room = 0 := rfl
  rcases l with _ | ⟨h0, _ | ⟨h1, _ | ⟨h2, _ | ⟨h3, _ | ⟨h4, _ | ⟨h5, l⟩⟩⟩⟩⟩⟩
  all_goals first | (simp at hn; done) | (simp [splice, d]; done) | (simp at hn; omega)
theorem f_rooms (F : Fr) (s : FSpot) (w : World) (hh : FrAt F s w) (hn : F.hs.length ≤ 5) :
    Calls Try.prog 103 #[.agg #[.slice s.ax F.xs.length s.cx, .slice s.ah F.hs.length s.ch, .slice s.ap F.ps.length s.cp, .slice s.ar F.rs.length s.cr, .slice s.am F.ms.length s.cm]] w fun e w' => e = .returned (.agg #[.int .i64 (leftIn F [] 0), .int .i64 (leftIn F [] 1), .int .i64 (leftIn F [] 2), .int .i64 (leftIn F [] 3), .int .i64 (leftIn F [] 4)]) ∧ Kept w w' := by
  have HRS := Lib.hid (rooms_splice F hn)
  obtain ⟨p0, hp0⟩ : ∃ p, p = leftIn F [] 0 := ⟨_, rfl⟩
  obtain ⟨p1, hp1⟩ : ∃ p, p = leftIn F [] 1 := ⟨_, rfl⟩
  obtain ⟨p2, hp2⟩ : ∃ p, p = leftIn F [] 2 := ⟨_, rfl⟩
  obtain ⟨p3, hp3⟩ : ∃ p, p = leftIn F [] 3 := ⟨_, rfl⟩
  obtain ⟨p4, hp4⟩ : ∃ p, p = leftIn F [] 4 := ⟨_, rfl⟩
  rw [← hp0, ← hp1, ← hp2, ← hp3, ← hp4] at HRS ⊢
  clear hp0 hp1 hp2 hp3 hp4
  obtain ⟨ax, ah, ap, ar, am, cx, ch, cp, cr, cm⟩ := s
  have hxs := hh.xs
  have hhs := hh.hs
  have hps := hh.ps
  have hms := hh.ms
  have hmc := hh.mc
  have hmM := hh.mM
  have hxz := hh.xz
  dsimp only at hxs hhs hps hms hmc hmM hxz
  have hhM := hh.hM
  have hhc := hh.hc
  dsimp only at hhM hhc
  clear hh
  unfold maxLen at hhM
  go_enter Try.func103, Try.ntmps103
  go_upto_region 1 with fail
  refine at_world (S := fun W => Blk W w.heap.size #[.slice ax F.xs.length cx, .slice ah F.hs.length ch, .slice ap F.ps.length cp, .slice ar F.rs.length cr, .slice am F.ms.length cm] 149 ∧ Blk W (w.heap.size + 1) #[.int .i64 0, .int .i64 0, .int .i64 0, .int .i64 0, .int .i64 0] 152 ∧ Kept w W) ⟨by (exact blk), by (exact blk), by (exact kpt)⟩ ?_
  rintro W ⟨r0, r1, hW⟩
  have hzW := hW.size
  have r0c0 := r0.cell 0
  have r0f0 := r0.free 0
  have r0c1 := r0.cell 1
  have r0f1 := r0.free 1
  have r0c2 := r0.cell 2
  have r0f2 := r0.free 2
  have r0c3 := r0.cell 3
  have r0f3 := r0.free 3
  have r0c4 := r0.cell 4
  have r0f4 := r0.free 4
  have r0l := r0.lt
  simp at r0c0 r0c1 r0c2 r0c3 r0c4
  go_wp2
  go_loopw [3, 10] (fun s3 i wr => ∃ j : Nat, j ≤ F.hs.length ∧ i = .int .i64 j ∧ wr.ownsRow W.heap.size 3 1 s3 ((F.hs.take j).map Hold.room).length (((F.hs.take j).map Hold.room).flatMap icell) ∧ Blk wr w.heap.size #[.slice ax F.xs.length cx, .slice ah F.hs.length ch, .slice ap F.ps.length cp, .slice ar F.rs.length cr, .slice am F.ms.length cm] 149 ∧ Blk wr (w.heap.size + 1) #[.int .i64 0, .int .i64 0, .int .i64 0, .int .i64 0, .int .i64 0] 152 ∧ Kept W wr) (fun _ i _ => F.hs.length - (intOf i).toNat)
  case atStart => exact ⟨0, Nat.zero_le _, rfl, by simpa using owns_nil (α := Int) (enc := icell), r0, r1, Below.refl _ _⟩
  case round =>
    clear r0 r1 r0c0 r0f0 r0c1 r0f1 r0c2 r0f2 r0c3 r0f3 r0c4 r0f4 r0l
    obtain ⟨j, hj, rfl, hown, r0, r1, hkq⟩ := hrel
    have hkw := Kept.drop hW hkq
    have hzq := hkq.size
    have hlen : ((F.hs.take j).map Hold.room).length ≤ 5 := by rw [List.length_map, List.length_take]; omega
    have r0l := r0.lt
    by_cases hlt : j < F.hs.length
    · obtain ⟨bh, oh, rfl, hbh, g0, g1⟩ := Hold.row (hhs.later hkw (Nat.le_refl _)) j hlt
      have HP := Lib.hid (show (F.hs.take (j + 1)).map Hold.room = (F.hs.take j).map Hold.room ++ [F.hs[j].room] by rw [List.take_succ_eq_append_getElem hlt, List.map_append]; rfl)
      obtain ⟨y, hy⟩ : ∃ y, y = F.hs[j] := ⟨_, rfl⟩
      rw [← hy] at HP g0 g1
      clear hy
      have j0 : (0 : Int) ≤ (j : Int) := by omega
      have j1 : (j : Int) < (F.hs.length : Int) := by omega
      go_wp2_with (at_builtin; obtain ⟨i0, hi, hz0, hz1, hz2⟩ := info_parts infoI2; refine wpList_append_own _ rfl _ _ 63 rfl W.heap.size 3 i0 (.int .i64 0) 1 8 Try.underlying63 hi hz0 hz1 hz2 rfl (by decide) _ _ _ rfl ((hown.alloc _).alloc _) ⟨wr.heap.size + 1, 0, none⟩ 1 1 [.int .i64 y.room] rfl rfl (cell_one_at (by simp) _ _) (fun x hx => by simp at hx; subst hx; rfl) (by unfold maxLen; omega) (by omega) (by simp; omega) ?_; intro v' w9 hown' hgrow hnil; clear hi hz0 hz1 hz2)
      go_roundw
      case rel => exact ⟨j + 1, by omega, by go_num, by rw [HP.out, List.flatMap_append, List.length_append]; exact hown', ((r0.alloc _).alloc _).grown ((hown.alloc _).alloc _) (by decide) hgrow, ((r1.alloc _).alloc _).grown ((hown.alloc _).alloc _) (by decide) hgrow, Kept.grown (Kept.alloc (Kept.alloc hkq _) _) ((hown.alloc _).alloc _) (Nat.le_refl _) hgrow⟩
      case measure => simp [intOf]; omega
    · obtain rfl : j = F.hs.length := by omega
      rw [List.take_length] at hown
      obtain ⟨L, hL⟩ : ∃ L, L = F.hs.map Hold.room := ⟨_, rfl⟩
      rw [← hL] at hown HRS
      have hLn : L.length ≤ 5 := by rw [hL, List.length_map]; exact hn
      obtain ⟨ad, cpp, rfl, hrow, hcp, hcm⟩ := owns_row (enc := icell) (k := 1) (fun _ => rfl) hown
      obtain ⟨CS, hCS⟩ : ∃ CS, CS = L.map fun n => Value.int .i64 n := ⟨_, rfl⟩
      have hCSl : CS.length = L.length := by rw [hCS, List.length_map]
      have HCO := Lib.hid (show ∀ V, Kept wr V → 0 < CS.length → ∃ a, ad = some a ∧ ∀ j v, CS[j]? = some v → V.cell? (a.add j) = some v from fun V hV hp => by rw [hCS] at hp ⊢; exact row_cells (hrow.later hV (Nat.le_refl _)) hp)
      have HCL := Lib.hid (show CS.length = Nat.min L.length 5 by rw [hCSl]; exact (Nat.min_eq_left hLn).symm)
      have HCF := Lib.hid (show 0 + CS.length ≤ ([.int .i64 0, .int .i64 0, .int .i64 0, .int .i64 0, .int .i64 0] : List Value).length by simp only [List.length_cons, List.length_nil]; omega)
      have HC1 := Lib.hid (show ∀ v ∈ CS, v.oneCell' = true from fun v hv => by rw [hCS] at hv; obtain ⟨n, _, rfl⟩ := List.mem_map.1 hv; rfl)
      rw [← hCS] at HRS
      have r1c0 := r1.lt
      clear hown hCS hL hrow
      have r1n : w.heap.size + 1 ≠ wr.heap.size := by omega
      have r1m : wr.heap.size ≠ w.heap.size + 1 := by omega
      go_upto_region 8 with fail
      go_wp2_with (refine wpList_copy_splice rfl _ _ 63 63 rfl 3 rfl (by kernel_rfl) _ _ _ _ _ _ rfl rfl wr.heap.size 0 [.int .i64 0, .int .i64 0, .int .i64 0, .int .i64 0, .int .i64 0] 152 (Blk.new (w := wr)) CS HCL.out (fun hp => ⟨rfl, HCO.out _ (Kept.alloc (Below.refl _ _) _) hp⟩) HCF.out HC1.out wr.heap.size _ (Below.refl _ _) (Nat.le_refl _) ?_; intro w9 hg9 hb9; have q9 : Blk w9 wr.heap.size #[.int .i64 p0, .int .i64 p1, .int .i64 p2, .int .i64 p3, .int .i64 p4] 152 := (by have := hg9.out; rw [HRS.out] at this; exact this); have k9 : Kept wr w9 := Below.trans (Kept.alloc (Below.refl _ _) _) hb9; have s1 := r1.keep k9; have q9c0 := q9.cell 0; have q9f0 := q9.free 0; have q9c1 := q9.cell 1; have q9f1 := q9.free 1; have q9c2 := q9.cell 2; have q9f2 := q9.free 2; have q9c3 := q9.cell 3; have q9f3 := q9.free 3; have q9c4 := q9.cell 4; have q9f4 := q9.free 4; have q9l := q9.lt; simp at q9c0 q9c1 q9c2 q9c3 q9c4; have s1c0 := s1.cell 0; have s1f0 := s1.free 0; have s1c1 := s1.cell 1; have s1f1 := s1.free 1; have s1c2 := s1.cell 2; have s1f2 := s1.free 2; have s1c3 := s1.cell 3; have s1f3 := s1.free 3; have s1c4 := s1.cell 4; have s1f4 := s1.free 4; have s1l := s1.lt; simp at s1c0 s1c1 s1c2 s1c3 s1c4)
      exact bodyPost_ret (v := .agg #[.int .i64 p0, .int .i64 p1, .int .i64 p2, .int .i64 p3, .int .i64 p4]) (by simp [results, Try.results103, go_sem, s1c0, s1c1, s1c2, s1c3, s1c4, s1f0, s1f1, s1f2, s1f3, s1f4, s1l, r1n, r1m]) rfl ⟨rfl, by (exact kpt)⟩

end Go.Proofs.Ytlloijkmpmfapaa

/-
  Stowages: whether one has an error, in the program.
-/
namespace Go.Proofs.Ytlloijkmpmfapaa
open Go.RowKit Bal Bal.Trim
set_option linter.unusedVariables false
set_option linter.unusedSimpArgs false
set_option maxHeartbeats 4000000
set_option maxRecDepth 10000

/-- whether a number is none of a hold -/
def outB (H : Nat) (k : Int) : Bool := !inB k 0 (H - 1)
theorem f_CheckStow1 (x : Int) (w : World) (H : Nat) (ah : Option Addr) (ch : Nat) (n1 : Nat) (k1 : Blk w n1 #[.slice ah H ch] 73) (g1 : H ≤ 1000000) (g2 : H ≤ ch) :
    Calls Try.prog 107 #[.int .i64 x, .pointer (some ⟨n1, 0, none⟩)] w fun e w' => e = .returned (.bool (outB H x)) ∧ Kept w w' := by
  have k1c := k1.cell 0
  have k1l := k1.lt
  simp at k1c
  have u1 : wrap64 ((H : Int) - 1) = (H : Int) - 1 := by unfold wrap64; omega
  have u2 : IntKind.i64.wrap ((H : Int) - 1) = (H : Int) - 1 := by rw [IntKind.wrap_i64]; omega
  obtain ⟨V, hV⟩ : ∃ V, V = inB x 0 (H - 1) := ⟨_, rfl⟩
  have HV := Lib.hid hV
  unfold outB
  rw [← hV]
  clear hV
  go_enter Try.func107, Try.ntmps107
  go_wp2_with (go_at_call 68; (with_reducible refine (f_ranged _ _ _ _).mono ?_); rw [← HV.out]; rintro e w1 ⟨rfl, rfl⟩)
  go_ret
  exact ⟨rfl, Below.refl _ _⟩

theorem s_IndexI (a : Option Addr) (cap : Nat) (xs : List Int) (w : World) (hx : Row icell 1 w.heap.size w a xs) (h1 : xs.length ≤ 1000000) (H : Nat) (ah : Option Addr) (ch : Nat) (n1 : Nat) (k1 : Blk w n1 #[.slice ah H ch] 73) (g1 : H ≤ 1000000) (g2 : H ≤ ch) :
    Calls Try.prog 126 #[.slice a xs.length cap, .func (.func 107) #[] #[.pointer (some ⟨n1, 0, none⟩)]] w fun e w' => (∃ r : Int, e = .returned (.int .i64 r) ∧ decide (0 ≤ r) = xs.any (outB H) ∧ -1 ≤ r) ∧ Kept w w' := by
  obtain ⟨R, hR⟩ : ∃ R, R = xs.any (outB H) := ⟨_, rfl⟩
  have HR := Lib.hid hR
  rw [← hR]
  clear hR
  go_enter Try.func126, Try.ntmps126
  go_wp2
  go_loopw [8] (fun i wr => ∃ k : Nat, k ≤ xs.length ∧ i = .int .i64 k ∧ (xs.take k).any (outB H) = false ∧ Kept w wr) (fun i _ => xs.length - (intOf i).toNat)
  case atStart => exact ⟨0, Nat.zero_le _, rfl, by simp, Below.refl _ _⟩
  case round =>
    obtain ⟨k, hk, rfl, ha', hb⟩ := hrel
    have ha := Lib.hid ha'
    clear ha'
    by_cases hlt : k < xs.length
    · obtain ⟨b0, off0, rfl, hbl0, g0⟩ := int_row (hx.later hb (Nat.le_refl _)) k hlt
      have HB := Lib.hid (show (outB H) xs[k] = true → R = true from fun hv => by rw [HR.out]; exact List.any_eq_true.2 ⟨_, List.getElem_mem hlt, hv⟩)
      have HT := Lib.hid (show (outB H) xs[k] = false → (xs.take (k + 1)).any (outB H) = false from fun hv => by rw [List.take_succ_eq_append_getElem hlt, List.any_append, ha.out]; simp [hv])
      obtain ⟨x, hx0⟩ : ∃ x, x = xs[k] := ⟨_, rfl⟩
      rw [← hx0] at HB HT g0
      clear hx0
      have hcall := fun (W : World) (hk : Kept w W) => f_CheckStow1 x W H ah ch n1 (k1.keep hk) g1 g2
      obtain ⟨V, hV⟩ : ∃ V, V = (outB H) x := ⟨_, rfl⟩
      rw [← hV] at hcall HB HT
      clear hV
      cases V with
      | true =>
        have HF := Lib.hid (HB.out rfl)
        clear HB HT
        go_wp2_with (go_at_call 107; refine (hcall _ (by (exact kpt))).mono ?_; rintro e w1 ⟨rfl, hb1⟩)
        go_ret
        refine ⟨⟨k, rfl, ?_, by omega⟩, by (exact kpt)⟩
        rw [HF.out, decide_eq_true_eq]; omega
      | false =>
        have HF := Lib.hid (HT.out rfl)
        clear HB HT
        go_wp2_with (go_at_call 107; refine (hcall _ (by (exact kpt))).mono ?_; rintro e w1 ⟨rfl, hb1⟩)
        go_roundw
        case rel => exact ⟨k + 1, by omega, by go_num, HF.out, by (exact kpt)⟩
        case measure => simp [intOf]; omega
    · obtain rfl : k = xs.length := by omega
      have HF := Lib.hid (show R = false by rw [HR.out, ← ha.out, List.take_length])
      go_wp2
      go_ret
      refine ⟨⟨-1, rfl, ?_, by omega⟩, hb⟩
      rw [HF.out]; rfl
theorem s_ContainsI (a : Option Addr) (cap : Nat) (xs : List Int) (w : World) (hx : Row icell 1 w.heap.size w a xs) (h1 : xs.length ≤ 1000000) (H : Nat) (ah : Option Addr) (ch : Nat) (n1 : Nat) (k1 : Blk w n1 #[.slice ah H ch] 73) (g1 : H ≤ 1000000) (g2 : H ≤ ch) :
    Calls Try.prog 106 #[.slice a xs.length cap, .func (.func 107) #[] #[.pointer (some ⟨n1, 0, none⟩)]] w fun e w' => e = .returned (.bool (xs.any (outB H))) ∧ Kept w w' := by
  obtain ⟨R, hR⟩ : ∃ R, R = xs.any (outB H) := ⟨_, rfl⟩
  have hcall := s_IndexI a cap xs w hx h1 H ah ch n1 k1 g1 g2
  rw [← hR] at hcall ⊢
  clear hR
  go_enter Try.func106, Try.ntmps106
  go_wp2_with (go_at_call 126; refine hcall.mono ?_; rintro e w1 ⟨⟨r, rfl, hr1, hr2⟩, hb1⟩)
  go_ret
  refine ⟨ret_bool ?_, hb1⟩
  rw [← hr1]

theorem rv_set {F : Fr} {s : List Nat} {k : Nat} (hk : k < 5) (hs : s.length < F.ps.length) : (#[.int .i64 (leftIn F s 0), .int .i64 (leftIn F s 1), .int .i64 (leftIn F s 2), .int .i64 (leftIn F s 3), .int .i64 (leftIn F s 4)] : Array Value).setIfInBounds k (.int .i64 (leftIn F s k - (psAt F s.length).wt)) = #[.int .i64 (leftIn F (s ++ [k]) 0), .int .i64 (leftIn F (s ++ [k]) 1), .int .i64 (leftIn F (s ++ [k]) 2), .int .i64 (leftIn F (s ++ [k]) 3), .int .i64 (leftIn F (s ++ [k]) 4)] := by
  rcases (show k = 0 ∨ k = 1 ∨ k = 2 ∨ k = 3 ∨ k = 4 by omega) with rfl | rfl | rfl | rfl | rfl <;> simp [left_snoc _ _ hs]
theorem rv_cell {F : Fr} {s : List Nat} {k : Nat} (hk : k < 5) : (#[.int .i64 (leftIn F s 0), .int .i64 (leftIn F s 1), .int .i64 (leftIn F s 2), .int .i64 (leftIn F s 3), .int .i64 (leftIn F s 4)] : Array Value)[k]? = some (.int .i64 (leftIn F s k)) := by
  rcases (show k = 0 ∨ k = 1 ∨ k = 2 ∨ k = 3 ∨ k = 4 by omega) with rfl | rfl | rfl | rfl | rfl <;> rfl
theorem rooms_min {F : Fr} {x : List Nat} (hn : F.hs.length ≤ 5) (hs : ∀ k ∈ x, k < F.hs.length) : (lmin [leftIn F x 0, leftIn F x 1, leftIn F x 2, leftIn F x 3, leftIn F x 4] < 0 → faultS F x = 44) ∧ (¬ lmin [leftIn F x 0, leftIn F x 1, leftIn F x 2, leftIn F x 3, leftIn F x 4] < 0 → roomsOk F x = true) := by
  have ho := fun j (hj : F.hs.length ≤ j) => left_out (F := F) (s := x) (j := j) hs hj
  have h0 := ho 0
  have h1 := ho 1
  have h2 := ho 2
  have h3 := ho 3
  have h4 := ho 4
  simp only [lmin, List.foldl_cons, List.foldl_nil]
  constructor
  · intro h
    rcases (show leftIn F x 0 < 0 ∨ leftIn F x 1 < 0 ∨ leftIn F x 2 < 0 ∨ leftIn F x 3 < 0 ∨ leftIn F x 4 < 0 by omega) with h | h | h | h | h
    · exact rooms_bad (k := 0) (by omega) h
    · exact rooms_bad (k := 1) (by omega) h
    · exact rooms_bad (k := 2) (by omega) h
    · exact rooms_bad (k := 3) (by omega) h
    · exact rooms_bad (k := 4) (by omega) h
  · intro h
    refine rooms_good fun k hk => ?_
    rcases (show k = 0 ∨ k = 1 ∨ k = 2 ∨ k = 3 ∨ k = 4 by omega) with rfl | rfl | rfl | rfl | rfl <;> omega

theorem f_CheckStow_bad (F : Fr) (s : FSpot) (w : World) (hh : FrAt F s w) (a : Option Addr) (cap : Nat) (t : List Int) (ht : Row icell 1 w.heap.size w a t) (hc : t.length ≤ cap) (hM : cap ≤ maxLen) (he : frE F ≠ 0) :
    Calls Try.prog 46 #[.slice s.ax F.xs.length s.cx, .slice s.ah F.hs.length s.ch, .slice s.ap F.ps.length s.cp, .slice s.ar F.rs.length s.cr, .slice s.am F.ms.length s.cm, .slice a t.length cap] w fun e w' => e = .returned (.int .i64 (frE F)) ∧ Kept w w' := by
  obtain ⟨E, hE⟩ : ∃ E, E = frE F := ⟨_, rfl⟩
  have HE := Lib.hid hE.symm
  rw [← hE] at he ⊢
  have e1 : (E != 0) = true := by simp [he]
  clear hE
  go_enter Try.func46, Try.ntmps46
  go_wp2_with (go_at_call 99; (with_reducible refine (f_frcheck F s _ (hh.later (by (exact kpt)))).mono ?_); rw [HE.out]; rintro e w1 ⟨rfl, hb1⟩; refine Blk.thru (b := w.heap.size) (arr := ?_) (t := ?_) ?_ hb1 ?_; rotate_left 2; (focus (exact blk)); intro q0; have q0c0 := q0.cell 0; have q0f0 := q0.free 0; have q0l := q0.lt; simp at q0c0; refine Blk.thru (b := w.heap.size + 1) (arr := ?_) (t := ?_) ?_ hb1 ?_; rotate_left 2; (focus (exact blk)); intro q1; have q1c0 := q1.cell 0; have q1f0 := q1.free 0; have q1c1 := q1.cell 1; have q1f1 := q1.free 1; have q1c2 := q1.cell 2; have q1f2 := q1.free 2; have q1c3 := q1.cell 3; have q1f3 := q1.free 3; have q1c4 := q1.cell 4; have q1f4 := q1.free 4; have q1l := q1.lt; simp at q1c0 q1c1 q1c2 q1c3 q1c4)
  go_ret
  exact ⟨rfl, by (exact kpt)⟩
theorem f_CheckStow_len (F : Fr) (s : FSpot) (w : World) (hh : FrAt F s w) (a : Option Addr) (cap : Nat) (t : List Int) (ht : Row icell 1 w.heap.size w a t) (hc : t.length ≤ cap) (hM : cap ≤ maxLen) (he : frE F = 0) (hl : t.length ≠ F.ps.length) :
    Calls Try.prog 46 #[.slice s.ax F.xs.length s.cx, .slice s.ah F.hs.length s.ch, .slice s.ap F.ps.length s.cp, .slice s.ar F.rs.length s.cr, .slice s.am F.ms.length s.cm, .slice a t.length cap] w fun e w' => e = .returned (.int .i64 2) ∧ Kept w w' := by
  have HE := Lib.hid he
  have l1 : ((t.length : Int) != (F.ps.length : Int)) = true := by simp; omega
  have l2 : ((t.length : Int) = (F.ps.length : Int)) ↔ False := by simp; omega
  have l3 : ¬ ((t.length : Int) = (F.ps.length : Int)) := by omega
  clear he
  go_enter Try.func46, Try.ntmps46
  go_wp2_with (go_at_call 99; (with_reducible refine (f_frcheck F s _ (hh.later (by (exact kpt)))).mono ?_); rw [HE.out]; rintro e w1 ⟨rfl, hb1⟩; refine Blk.thru (b := w.heap.size) (arr := ?_) (t := ?_) ?_ hb1 ?_; rotate_left 2; (focus (exact blk)); intro q0; have q0c0 := q0.cell 0; have q0f0 := q0.free 0; have q0l := q0.lt; simp at q0c0; refine Blk.thru (b := w.heap.size + 1) (arr := ?_) (t := ?_) ?_ hb1 ?_; rotate_left 2; (focus (exact blk)); intro q1; have q1c0 := q1.cell 0; have q1f0 := q1.free 0; have q1c1 := q1.cell 1; have q1f1 := q1.free 1; have q1c2 := q1.cell 2; have q1f2 := q1.free 2; have q1c3 := q1.cell 3; have q1f3 := q1.free 3; have q1c4 := q1.cell 4; have q1f4 := q1.free 4; have q1l := q1.lt; simp at q1c0 q1c1 q1c2 q1c3 q1c4)
  go_ret
  exact ⟨rfl, by (exact kpt)⟩
theorem f_CheckStow_arg (F : Fr) (s : FSpot) (w : World) (hh : FrAt F s w) (a : Option Addr) (cap : Nat) (t : List Int) (ht : Row icell 1 w.heap.size w a t) (hc : t.length ≤ cap) (hM : cap ≤ maxLen) (he : frE F = 0) (hl : t.length = F.ps.length) (hv : (t.any (outB F.hs.length)) = true) :
    Calls Try.prog 46 #[.slice s.ax F.xs.length s.cx, .slice s.ah F.hs.length s.ch, .slice s.ap F.ps.length s.cp, .slice s.ar F.rs.length s.cr, .slice s.am F.ms.length s.cm, .slice a t.length cap] w fun e w' => e = .returned (.int .i64 2) ∧ Kept w w' := by
  have HE := Lib.hid he
  have HA := Lib.hid hv
  have ho := frE_ok he
  have hn := ho.hn
  have hpn := ho.pn
  have hhc := hh.hc
  have l1 : ((t.length : Int) != (F.ps.length : Int)) = false := by simp [hl]
  have l3 : ((t.length : Int) = (F.ps.length : Int)) = True := by simp [hl]
  have hxl : t.length ≤ 6 := by omega
  clear he hv ho hl
  go_enter Try.func46, Try.ntmps46
  go_wp2_with (first | (go_at_call 99; (with_reducible refine (f_frcheck F s _ (hh.later (by (exact kpt)))).mono ?_); rw [HE.out]; rintro e w1 ⟨rfl, hb1⟩; refine Blk.thru (b := w.heap.size) (arr := ?_) (t := ?_) ?_ hb1 ?_; rotate_left 2; (focus (exact blk)); intro q0; have q0c0 := q0.cell 0; have q0f0 := q0.free 0; have q0l := q0.lt; simp at q0c0; refine Blk.thru (b := w.heap.size + 1) (arr := ?_) (t := ?_) ?_ hb1 ?_; rotate_left 2; (focus (exact blk)); intro q1; have q1c0 := q1.cell 0; have q1f0 := q1.free 0; have q1c1 := q1.cell 1; have q1f1 := q1.free 1; have q1c2 := q1.cell 2; have q1f2 := q1.free 2; have q1c3 := q1.cell 3; have q1f3 := q1.free 3; have q1c4 := q1.cell 4; have q1f4 := q1.free 4; have q1l := q1.lt; simp at q1c0 q1c1 q1c2 q1c3 q1c4) | (go_at_call 106; (with_reducible refine (s_ContainsI a cap t _ (ht.later (by (exact kpt)) (Nat.le_refl _)) (by omega) F.hs.length s.ah s.ch w.heap.size ?_ (by omega) (by omega)).mono ?_); (focus (exact blk)); rw [HA.out]; rintro e w2 ⟨rfl, hb2⟩; refine Blk.thru (b := w.heap.size) (arr := ?_) (t := ?_) ?_ hb2 ?_; rotate_left 2; (focus (exact blk)); intro q0; have q0c0 := q0.cell 0; have q0f0 := q0.free 0; have q0l := q0.lt; simp at q0c0; refine Blk.thru (b := w.heap.size + 1) (arr := ?_) (t := ?_) ?_ hb2 ?_; rotate_left 2; (focus (exact blk)); intro q1; have q1c0 := q1.cell 0; have q1f0 := q1.free 0; have q1c1 := q1.cell 1; have q1f1 := q1.free 1; have q1c2 := q1.cell 2; have q1f2 := q1.free 2; have q1c3 := q1.cell 3; have q1f3 := q1.free 3; have q1c4 := q1.cell 4; have q1f4 := q1.free 4; have q1l := q1.lt; simp at q1c0 q1c1 q1c2 q1c3 q1c4))
  go_ret
  exact ⟨rfl, by (exact kpt)⟩

theorem args_in {H : Nat} {x : List Nat} (hs : ∀ k ∈ x, k < H) : ((ints x).any (outB H)) = false := by
  rw [List.any_eq_false]
  intro y hy
  simp only [ints, List.mem_map] at hy
  obtain ⟨k, hk, rfl⟩ := hy
  have := hs k hk
  simp [outB, inB]
  omega
theorem fr_min (b : Nat) (cs : Array Value) (t : TypeId) (p q r u v : Int) (w : World) (h : Blk w b cs t) (he : cs = #[.int .i64 p, .int .i64 q, .int .i64 r, .int .i64 u, .int .i64 v]) :
    Calls Try.prog 108 #[.slice (some ⟨b, 0, none⟩) 5 5] w fun e w' => e = .returned (.int .i64 (lmin [p, q, r, u, v])) ∧ w = w' := by
  subst he
  exact s_min _ 5 5 [p, q, r, u, v] _ rfl (Row.block (enc := icell) (fun _ => rfl) h rfl) (by decide) (by decide)

theorem f_CheckStow_main (F : Fr) (s : FSpot) (w : World) (hh : FrAt F s w) (a : Option Addr) (cap : Nat) (x : List Nat) (ht : Row icell 1 w.heap.size w a (ints x)) (hc : x.length ≤ cap) (hM : cap ≤ maxLen) (he : frE F = 0) (hl : x.length = F.ps.length) (hs : ∀ k ∈ x, k < F.hs.length) :
    Calls Try.prog 46 #[.slice s.ax F.xs.length s.cx, .slice s.ah F.hs.length s.ch, .slice s.ap F.ps.length s.cp, .slice s.ar F.rs.length s.cr, .slice s.am F.ms.length s.cm, .slice a x.length cap] w fun e w' => e = .returned (.int .i64 (faultS F x)) ∧ Kept w w' := by
  have HE := Lib.hid he
  have ho := frE_ok he
  have HO := Lib.hid ho
  have HS := Lib.hid hs
  have hn := ho.hn
  have hpn := ho.pn
  have hrn := ho.rn
  have hhc := hh.hc
  have hpc := hh.pc
  have hpM := hh.pM
  have hM' := hM
  unfold maxLen at hM' hpM
  have hps := hh.ps
  have HCI := Lib.hid (fun (W : World) (h1 : Kept w W) (h2 : Blk W w.heap.size #[.slice s.ah F.hs.length s.ch] 73) => (by
    have := s_ContainsI a cap (ints x) W (ht.later h1 (Nat.le_refl _)) (by rw [ints_len]; omega) F.hs.length s.ah s.ch w.heap.size h2 (by omega) (by omega)
    rwa [ints_len, args_in hs] at this : Calls Try.prog 106 #[.slice a x.length cap, .func (.func 107) #[] #[.pointer (some ⟨w.heap.size, 0, none⟩)]] W fun e w' => e = .returned (.bool false) ∧ Kept W w'))
  obtain ⟨R, hR⟩ : ∃ R, R = faultS F x := ⟨_, rfl⟩
  have HR := Lib.hid hR
  rw [← hR]
  obtain ⟨OB, hOB⟩ : ∃ OB, OB = offB F x := ⟨_, rfl⟩
  have HOB := Lib.hid hOB
  have l1 : ((x.length : Int) != (F.ps.length : Int)) = false := by simp [hl]
  have l3 : ((x.length : Int) = (F.ps.length : Int)) = True := by simp [hl]
  have HL := Lib.hid hl
  have hxl : x.length ≤ 6 := by omega
  clear he hR hOB ho hs hl
  go_enter Try.func46, Try.ntmps46
  go_upto_region 8 with (first | (go_at_call 99; (with_reducible refine (f_frcheck F s _ (hh.later (by (exact kpt)))).mono ?_); rw [HE.out]; rintro e w1 ⟨rfl, hb1⟩; refine Blk.thru (b := w.heap.size) (arr := ?_) (t := ?_) ?_ hb1 ?_; rotate_left 2; (focus (exact blk)); intro q0; have q0c0 := q0.cell 0; have q0f0 := q0.free 0; have q0l := q0.lt; simp at q0c0; refine Blk.thru (b := w.heap.size + 1) (arr := ?_) (t := ?_) ?_ hb1 ?_; rotate_left 2; (focus (exact blk)); intro q1; have q1c0 := q1.cell 0; have q1f0 := q1.free 0; have q1c1 := q1.cell 1; have q1f1 := q1.free 1; have q1c2 := q1.cell 2; have q1f2 := q1.free 2; have q1c3 := q1.cell 3; have q1f3 := q1.free 3; have q1c4 := q1.cell 4; have q1f4 := q1.free 4; have q1l := q1.lt; simp at q1c0 q1c1 q1c2 q1c3 q1c4) | (go_at_call 106; refine (HCI.out _ (by (exact kpt)) ?_).mono ?_; (focus (exact blk)); rintro e w2 ⟨rfl, hb2⟩; refine Blk.thru (b := w.heap.size) (arr := ?_) (t := ?_) ?_ hb2 ?_; rotate_left 2; (focus (exact blk)); intro q0; have q0c0 := q0.cell 0; have q0f0 := q0.free 0; have q0l := q0.lt; simp at q0c0; refine Blk.thru (b := w.heap.size + 1) (arr := ?_) (t := ?_) ?_ hb2 ?_; rotate_left 2; (focus (exact blk)); intro q1; have q1c0 := q1.cell 0; have q1f0 := q1.free 0; have q1c1 := q1.cell 1; have q1f1 := q1.free 1; have q1c2 := q1.cell 2; have q1f2 := q1.free 2; have q1c3 := q1.cell 3; have q1f3 := q1.free 3; have q1c4 := q1.cell 4; have q1f4 := q1.free 4; have q1l := q1.lt; simp at q1c0 q1c1 q1c2 q1c3 q1c4) | (go_at_call 103; (with_reducible refine (f_rooms F s _ (hh.later (by (exact kpt))) HO.out.hn).mono ?_); rintro e w3 ⟨rfl, hb3⟩; refine Blk.thru (b := w.heap.size) (arr := ?_) (t := ?_) ?_ hb3 ?_; rotate_left 2; (focus (exact blk)); intro q0; have q0c0 := q0.cell 0; have q0f0 := q0.free 0; have q0l := q0.lt; simp at q0c0; refine Blk.thru (b := w.heap.size + 1) (arr := ?_) (t := ?_) ?_ hb3 ?_; rotate_left 2; (focus (exact blk)); intro q1; have q1c0 := q1.cell 0; have q1f0 := q1.free 0; have q1c1 := q1.cell 1; have q1f1 := q1.free 1; have q1c2 := q1.cell 2; have q1f2 := q1.free 2; have q1c3 := q1.cell 3; have q1f3 := q1.free 3; have q1c4 := q1.cell 4; have q1f4 := q1.free 4; have q1l := q1.lt; simp at q1c0 q1c1 q1c2 q1c3 q1c4))
  refine at_world (S := fun W => Blk W w.heap.size #[.slice s.ah F.hs.length s.ch] 73 ∧ Blk W (w.heap.size + 1) #[.slice s.ax F.xs.length s.cx, .slice s.ah F.hs.length s.ch, .slice s.ap F.ps.length s.cp, .slice s.ar F.rs.length s.cr, .slice s.am F.ms.length s.cm] 149 ∧ Blk W w3.heap.size #[.int .i64 (leftIn F [] 0), .int .i64 (leftIn F [] 1), .int .i64 (leftIn F [] 2), .int .i64 (leftIn F [] 3), .int .i64 (leftIn F [] 4)] 152 ∧ Kept w W ∧ w.heap.size + 1 < w3.heap.size) ⟨by (exact blk), by (exact blk), by (exact blk), by (exact kpt), q1l⟩ ?_
  rintro W ⟨r0, r1, r3, hW, hn3⟩
  obtain ⟨n3, hn30⟩ : ∃ n3, n3 = w3.heap.size := ⟨_, rfl⟩
  rw [← hn30] at r3 hn3 ⊢
  clear hn30 q0 q0c0 q0f0 q0l q1 q1c0 q1f0 q1c1 q1f1 q1c2 q1f2 q1c3 q1f3 q1c4 q1f4 q1l
  go_wp2
  go_loopw [45] (fun i wr => ∃ j : Nat, j ≤ x.length ∧ i = .int .i64 j ∧ Blk wr w.heap.size #[.slice s.ah F.hs.length s.ch] 73 ∧ Blk wr (w.heap.size + 1) #[.slice s.ax F.xs.length s.cx, .slice s.ah F.hs.length s.ch, .slice s.ap F.ps.length s.cp, .slice s.ar F.rs.length s.cr, .slice s.am F.ms.length s.cm] 149 ∧ Blk wr n3 #[.int .i64 (leftIn F (x.take j) 0), .int .i64 (leftIn F (x.take j) 1), .int .i64 (leftIn F (x.take j) 2), .int .i64 (leftIn F (x.take j) 3), .int .i64 (leftIn F (x.take j) 4)] 152 ∧ Kept w wr) (fun i _ => x.length - (intOf i).toNat)
  case atStart => exact ⟨0, Nat.zero_le _, rfl, r0, r1, r3, hW⟩
  case round =>
    clear r0 r1 r3
    obtain ⟨j, hj, rfl, r0, r1, r3, hkk⟩ := hrel
    have r3l := r3.lt
    by_cases hlt : j < x.length
    · obtain ⟨bs, os, rfl, _, gs⟩ := int_row (ht.later hkk (Nat.le_refl _)) j (by rw [ints_len]; exact hlt)
      have hkj : x[j] < F.hs.length := HS.out _ (List.getElem_mem hlt)
      have hpj : j < F.ps.length := by have := HL.out; omega
      obtain ⟨bp, op, hpe, hbp, q0, _⟩ := Parcel.row (hps.later hkk (Nat.le_refl _)) j hpj
      have gs2 : wr.cell? ⟨bs, os + j, none⟩ = some (.int .i64 (x[j] : Int)) := by simpa [ints] using gs
      have hsl : (x.take j).length = j := by rw [List.length_take]; omega
      have hset := rv_set (F := F) (s := x.take j) (k := x[j]) (by omega) (by have := HL.out; omega)
      rw [← List.take_succ_eq_append_getElem hlt, hsl] at hset
      have g3 := r3.cell x[j]
      rw [rv_cell (F := F) (s := x.take j) (k := x[j]) (by omega)] at g3
      have g3f := r3.free x[j]
      have hb1 := left_bd HO.out (x.take j) x[j]
      have hb2 := parcel_bd (HO.out.pB _ (List.getElem_mem hpj))
      rw [← psAt_eq hpj] at q0 hb2
      have r3k := fun v => r3.set x[j] v
      obtain ⟨k, hk0⟩ : ∃ k, k = x[j] := ⟨_, rfl⟩
      obtain ⟨L, hL⟩ : ∃ L, L = leftIn F (x.take j) k := ⟨_, rfl⟩
      obtain ⟨P, hP⟩ : ∃ P, P = (psAt F j).wt := ⟨_, rfl⟩
      rw [← hk0] at hset g3 g3f hb1 r3k gs2 hkj
      rw [← hL] at g3 hb1 hset
      rw [← hP] at q0 hb2 hset
      have HSET := Lib.hid hset
      have HK3 := Lib.hid r3k
      have hap : s.ap = some ⟨bp, op, none⟩ := hpe
      have u1 : IntKind.i64.wrap (L - P) = L - P := by rw [IntKind.wrap_i64]; omega
      have u2 : wrap64 (L - P) = L - P := by unfold wrap64; omega
      clear hset hk0 hL hP gs hsl r3k hpe
      have j0 : (0 : Int) ≤ (j : Int) := by omega
      have j1 : (j : Int) < (F.ps.length : Int) := by omega
      have j2 : (0 : Int) ≤ (k : Int) := by omega
      have j3 : (k : Int) < 5 := by omega
      go_upto_region 11 with fail
      rw [hap]
      go_region
      all_goals go_wp2
      all_goals (rw [← hap]; clear hap)
      all_goals go_roundw
      case rel => exact ⟨j + 1, by omega, by go_num, by (exact blk), by (exact blk), by rw [← HSET.out]; exact HK3.out _, by (exact kpt)⟩
      case measure => simp [intOf]; omega
    · obtain rfl : x.length = j := by omega
      rw [List.take_length] at r3
      obtain ⟨hm1, hm2⟩ := rooms_min (F := F) (x := x) hn HS.out
      obtain ⟨p0, hp0⟩ : ∃ p, p = leftIn F x 0 := ⟨_, rfl⟩
      obtain ⟨p1, hp1⟩ : ∃ p, p = leftIn F x 1 := ⟨_, rfl⟩
      obtain ⟨p2, hp2⟩ : ∃ p, p = leftIn F x 2 := ⟨_, rfl⟩
      obtain ⟨p3, hp3⟩ : ∃ p, p = leftIn F x 3 := ⟨_, rfl⟩
      obtain ⟨p4, hp4⟩ : ∃ p, p = leftIn F x 4 := ⟨_, rfl⟩
      rw [← hp0, ← hp1, ← hp2, ← hp3, ← hp4] at r3 hm1 hm2
      obtain ⟨M, hMm⟩ : ∃ M, M = lmin [p0, p1, p2, p3, p4] := ⟨_, rfl⟩
      rw [← hMm] at hm1 hm2
      have HMM := Lib.hid hMm.symm
      have H1 := Lib.hid hm1
      have H2 := Lib.hid hm2
      clear hp0 hp1 hp2 hp3 hp4 hMm hm1 hm2
      have r3n : n3 < wr.heap.size := r3.lt
      have r0c0 := r0.cell 0
      have r0f0 := r0.free 0
      have r0l := r0.lt
      simp at r0c0
      have r1c0 := r1.cell 0
      have r1f0 := r1.free 0
      have r1c1 := r1.cell 1
      have r1f1 := r1.free 1
      have r1c2 := r1.cell 2
      have r1f2 := r1.free 2
      have r1c3 := r1.cell 3
      have r1f3 := r1.free 3
      have r1c4 := r1.cell 4
      have r1f4 := r1.free 4
      have r1l := r1.lt
      simp at r1c0 r1c1 r1c2 r1c3 r1c4
      by_cases hneg : M < 0
      · have HF := Lib.hid (H1.out hneg)
        go_wp2_with (go_at_call 108; (with_reducible refine (fr_min n3 _ _ p0 p1 p2 p3 p4 _ r3 rfl).mono ?_); rw [HMM.out]; rintro e w5 ⟨rfl, rfl⟩)
        go_ret
        exact ⟨ret_int (by rw [HR.out, HF.out]), by (exact kpt)⟩
      · have HRO := Lib.hid (H2.out hneg)
        go_wp2_with (go_at_call 108; (with_reducible refine (fr_min n3 _ _ p0 p1 p2 p3 p4 _ r3 rfl).mono ?_); rw [HMM.out]; rintro e w5 ⟨rfl, rfl⟩)
        refine at_world (S := fun W => Blk W w.heap.size #[.slice s.ah F.hs.length s.ch] 73 ∧ Blk W (w.heap.size + 1) #[.slice s.ax F.xs.length s.cx, .slice s.ah F.hs.length s.ch, .slice s.ap F.ps.length s.cp, .slice s.ar F.rs.length s.cr, .slice s.am F.ms.length s.cm] 149 ∧ Kept w W) ⟨r0, r1, hkk⟩ ?_
        clear r0 r1 r3 hkk r0c0 r0f0 r0l r1c0 r1f0 r1c1 r1f1 r1c2 r1f2 r1c3 r1f3 r1c4 r1f4 r1l r3n r3l H1 H2
        rintro W2 ⟨r0, r1, hW2⟩
        go_loopw [66] (fun i wr => ∃ j : Nat, j ≤ x.length ∧ i = .int .i64 j ∧ (∀ i', i' < j → ∀ j', j' < i' → nearAt F x i' (x.getD i' 0 : Nat) j' = false) ∧ Blk wr w.heap.size #[.slice s.ah F.hs.length s.ch] 73 ∧ Blk wr (w.heap.size + 1) #[.slice s.ax F.xs.length s.cx, .slice s.ah F.hs.length s.ch, .slice s.ap F.ps.length s.cp, .slice s.ar F.rs.length s.cr, .slice s.am F.ms.length s.cm] 149 ∧ Kept w wr) (fun i _ => x.length - (intOf i).toNat)
        case atStart => exact ⟨0, Nat.zero_le _, rfl, by intro i' h; omega, r0, r1, hW2⟩
        case round =>
          clear r0 r1
          obtain ⟨i, hi, rfl, hno', r0, r1, hkk⟩ := hrel
          have HNO := Lib.hid hno'
          clear hno'
          by_cases hlt : i < x.length
          · go_wp2
            go_loopw [70] (fun i2 wr => ∃ j : Nat, j ≤ i ∧ i2 = .int .i64 j ∧ (∀ j', j' < j → nearAt F x i (x.getD i 0 : Nat) j' = false) ∧ Blk wr w.heap.size #[.slice s.ah F.hs.length s.ch] 73 ∧ Blk wr (w.heap.size + 1) #[.slice s.ax F.xs.length s.cx, .slice s.ah F.hs.length s.ch, .slice s.ap F.ps.length s.cp, .slice s.ar F.rs.length s.cr, .slice s.am F.ms.length s.cm] 149 ∧ Kept w wr) (fun i2 _ => i - (intOf i2).toNat)
            case atStart => exact ⟨0, Nat.zero_le _, rfl, by intro j' h; omega, r0, r1, hkk⟩
            case round =>
              clear r0 r1 hkk
              obtain ⟨j, hj, rfl, hno', r0, r1, hkk⟩ := hrel
              have HNJ := Lib.hid hno'
              clear hno'
              by_cases hlt2 : j < i
              · have hjx : j < x.length := by omega
                obtain ⟨bs, os, hae, hbs, gi⟩ := int_row ht i (by rw [ints_len]; exact hlt)
                obtain ⟨bs', os', hae', _, gj⟩ := int_row ht j (by rw [ints_len]; exact hjx)
                obtain ⟨rfl, rfl⟩ : bs = bs' ∧ os = os' := by rw [hae] at hae'; simpa using hae'
                have hki : x[i] < F.hs.length := HS.out _ (List.getElem_mem hlt)
                have hkj : x[j] < F.hs.length := HS.out _ (List.getElem_mem hjx)
                have e1 : x.getD i 0 = x[i] := by simp [List.getD_eq_getElem?_getD, hlt]
                have e2 : x.getD j 0 = x[j] := by simp [List.getD_eq_getElem?_getD, hjx]
                have hne := near_eq (F := F) (s := x) (i := i) (j := j)
                have HS0 := (show nearAt F x i (x.getD i 0 : Nat) j = false → ∀ j', j' < j + 1 → nearAt F x i (x.getD i 0 : Nat) j' = false from fun h j' hj' => by
                  rcases Nat.lt_or_ge j' j with h' | h'
                  · exact HNJ.out j' h'
                  · obtain rfl : j' = j := by omega
                    exact h)
                have HBD := Lib.hid (show nearAt F x i (x.getD i 0 : Nat) j = true → R = 45 from fun h => by rw [HR.out]; exact near_bad HRO.out hlt hlt2 h)
                rw [e1, e2] at hne
                have gi2 : w.cell? ⟨bs, os + i, none⟩ = some (.int .i64 (x[i] : Int)) := by simpa [ints] using gi
                have gj2 : w.cell? ⟨bs, os + j, none⟩ = some (.int .i64 (x[j] : Int)) := by simpa [ints] using gj
                obtain ⟨ti, hti⟩ : ∃ t, t = x[i] := ⟨_, rfl⟩
                obtain ⟨tj, htj⟩ : ∃ t, t = x[j] := ⟨_, rfl⟩
                rw [← hti, ← htj] at hne
                rw [← hti] at gi2 hki
                rw [← htj] at gj2 hkj
                obtain ⟨V, hV⟩ : ∃ V, V = nearB F.rs (psAt F i).cls (psAt F j).cls (gap ti tj) := ⟨_, rfl⟩
                rw [← hV, hti, ← e1] at hne
                rw [hne] at HBD HS0
                have HST := Lib.hid HS0
                clear HS0
                have HN := Lib.hid (fun (g : Later wr) => (by
                  have := f_near F s g.val (hh.later (Kept.drop hkk g.ok)) i j ti tj (by have := HL.out; omega) (by have := HL.out; omega) (by omega) (by omega) (by omega) (by omega) (by omega)
                  rwa [← hV] at this : Calls Try.prog 102 #[.agg #[.slice s.ax F.xs.length s.cx, .slice s.ah F.hs.length s.ch, .slice s.ap F.ps.length s.cp, .slice s.ar F.rs.length s.cr, .slice s.am F.ms.length s.cm], .int .i64 i, .int .i64 j, .int .i64 ti, .int .i64 tj] g.val fun e w' => e = .returned (.bool V) ∧ Kept g.val w'))
                have y0 := fun g : Later wr => ((Kept.drop hkk g.ok).cell (p := ⟨bs, os + i, none⟩) hbs).trans gi2
                have y1 := fun g : Later wr => ((Kept.drop hkk g.ok).cell (p := ⟨bs, os + j, none⟩) hbs).trans gj2
                clear hne e1 e2 gi gj gi2 gj2 hti htj hV hae'
                subst hae
                have j0 : (0 : Int) ≤ (j : Int) := by omega
                have j1 : (j : Int) < (x.length : Int) := by omega
                have j2 : (0 : Int) ≤ (i : Int) := by omega
                have j3 : (i : Int) < (x.length : Int) := by omega
                go_upto_region 21 with fail
                have r1c0 := fun g : Later wr => (r1.later g).cell 0
                have r1f0 := fun g : Later wr => (r1.later g).free 0
                have r1c1 := fun g : Later wr => (r1.later g).cell 1
                have r1f1 := fun g : Later wr => (r1.later g).free 1
                have r1c2 := fun g : Later wr => (r1.later g).cell 2
                have r1f2 := fun g : Later wr => (r1.later g).free 2
                have r1c3 := fun g : Later wr => (r1.later g).cell 3
                have r1f3 := fun g : Later wr => (r1.later g).free 3
                have r1c4 := fun g : Later wr => (r1.later g).cell 4
                have r1f4 := fun g : Later wr => (r1.later g).free 4
                have r1l := fun g : Later wr => (r1.later g).lt
                simp at r1c0 r1c1 r1c2 r1c3 r1c4
                refine Later.region (by kernel_rfl) (by kernel_rfl) ?_
                repeat (first | go_big_quiet_skip | (go_big_quiet_want; go_big_quiet_op; first | go_big_quiet_on | (apply Exists.intro; refine ⟨fun g => ?_, ?_⟩; (focus (first | (go_at_call 102; with_reducible exact Later.call (HN.out g)))); go_big_quiet_on)))
                refine wpQuiet_nil ?_
                intro gg
                have hkgg := Kept.drop hkk gg.ok
                have s0 := r0.later gg
                have s1 := r1.later gg
                cases V with
                | true =>
                  have HB := Lib.hid (HBD.out rfl)
                  go_wp2
                  go_ret
                  exact ⟨ret_int HB.out.symm, by (exact kpt)⟩
                | false =>
                  have HB := Lib.hid (HST.out rfl)
                  go_wp2
                  go_roundw
                  case rel => exact ⟨j + 1, by omega, by go_num, HB.out, s0, s1, by (exact kpt)⟩
                  case measure => simp [intOf]; omega
              · obtain rfl : i = j := by omega
                have HB := Lib.hid (show ∀ i', i' < i + 1 → ∀ j', j' < i' → nearAt F x i' (x.getD i' 0 : Nat) j' = false from fun i' hi' => by
                  rcases Nat.lt_or_ge i' i with h' | h'
                  · exact HNO.out i' h'
                  · obtain rfl : i' = i := by omega
                    exact HNJ.out)
                go_wp2
                go_roundw
                case rel => exact ⟨i + 1, by omega, by go_num, HB.out, r0, r1, hkk⟩
                case measure => simp [intOf]; omega
          · obtain rfl : x.length = i := by omega
            have HNA := Lib.hid (near_good (F := F) (s := x) HNO.out)
            have HRF := Lib.hid (show R = if OB then 46 else 0 by rw [HR.out, HOB.out]; exact fault_last HRO.out HNA.out)
            have r1c0 := r1.cell 0
            have r1f0 := r1.free 0
            have r1c1 := r1.cell 1
            have r1f1 := r1.free 1
            have r1c2 := r1.cell 2
            have r1f2 := r1.free 2
            have r1c3 := r1.cell 3
            have r1f3 := r1.free 3
            have r1c4 := r1.cell 4
            have r1f4 := r1.free 4
            have r1l := r1.lt
            simp at r1c0 r1c1 r1c2 r1c3 r1c4
            cases OB with
            | true =>
              go_wp2_with (go_at_call 101; (with_reducible refine (f_off F s _ (hh.later (by (exact kpt))) HO.out a cap x (ht.later (by (exact kpt)) (Nat.le_refl _)) hc hM (by have := HL.out; omega) HS.out).mono ?_); rw [← HOB.out]; rintro e w6 ⟨rfl, hb6⟩)
              go_ret
              exact ⟨ret_int HRF.out.symm, by (exact kpt)⟩
            | false =>
              go_wp2_with (go_at_call 101; (with_reducible refine (f_off F s _ (hh.later (by (exact kpt))) HO.out a cap x (ht.later (by (exact kpt)) (Nat.le_refl _)) hc hM (by have := HL.out; omega) HS.out).mono ?_); rw [← HOB.out]; rintro e w6 ⟨rfl, hb6⟩)
              go_ret
              exact ⟨ret_int HRF.out.symm, by (exact kpt)⟩

theorem f_CheckStow (F : Fr) (s : FSpot) (w : World) (hh : FrAt F s w) (a : Option Addr) (cap : Nat) (t : List Int) (ht : Row icell 1 w.heap.size w a t) (hc : t.length ≤ cap) (hM : cap ≤ maxLen) :
    Calls Try.prog 46 #[.slice s.ax F.xs.length s.cx, .slice s.ah F.hs.length s.ch, .slice s.ap F.ps.length s.cp, .slice s.ar F.rs.length s.cr, .slice s.am F.ms.length s.cm, .slice a t.length cap] w fun e w' => e = .returned (.int .i64 (checkStowE F t)) ∧ Kept w w' := by
  unfold checkStowE
  by_cases he : frE F = 0
  · rw [if_pos he]
    cases ha : argS F t
    · rw [if_neg (by simp)]
      by_cases hl : t.length = F.ps.length
      · refine f_CheckStow_arg F s w hh a cap t ht hc hM he hl ?_
        rw [List.any_eq_true]
        unfold argS at ha
        rw [decide_eq_true hl, Bool.true_and, List.all_eq_false] at ha
        obtain ⟨k, hk, hv⟩ := ha
        exact ⟨k, hk, by unfold outB; simpa using hv⟩
      · exact f_CheckStow_len F s w hh a cap t ht hc hM he hl
    · rw [if_pos rfl]
      obtain ⟨h1, x, rfl, h2, h3⟩ := argS_ok ha
      rw [h2]
      have := f_CheckStow_main F s w hh a cap x ht (by simpa using hc) hM he (by simpa using h1) h3
      rwa [← List.length_map (f := Int.ofNat)] at this
  · rw [if_neg he]
    exact f_CheckStow_bad F s w hh a cap t ht hc hM he

end Go.Proofs.Ytlloijkmpmfapaa

/-
  A region that draws its order in which a call panics: whatever order is picked, the operations that come up ahead of it only read or call (or make a block), and then it panics. No program in sight.
-/
namespace Bal
open Go Go.RowKit

section
variable {P : Program} {ops : Array Oper} {md : Region.Mode} {C : World → Prop} {Q : Exit → Act → World → Prop}

/-- operation p panics in state a, in every world of the class -/
def DiesAt (P : Program) (ops : Array Oper) (C : World → Prop) (Q : Exit → Act → World → Prop) (p : Nat) (a : Act) : Prop := ∀ w, C w → wpOp P ops Q p (fun _ _ => False) a w
/-- one operation that panics, out of its run -/
theorem DiesAt.of {p : Nat} {o : Oper} {a : Act} (ho : ops[p]? = some o) (hg : o.guard = none) (h : ∀ w, C w → Oper.wp P o a w (fun _ _ => False) Q) : DiesAt P ops C Q p a := fun w hw => by
  unfold wpOp
  simp only [ho]
  have hwt : Region.wanted o (yielded ops a.tmps) = true := by simp [Region.wanted, hg]
  simp only [hwt, if_true]
  exact .inl (h w hw)
end
end Bal

/-
  A region that draws its order, walked once: loads (of cells that the region leaves alone till they are read) and operations that need no world are taken first; what is then left comes up one at a time: a call, a block that is made, a store; it may panic. No program in sight.
-/
namespace Bal
open Go Go.RowKit

section
variable {P : Program} {ops : Array Oper} {md : Region.Mode} {S : World → Prop} {Q : Exit → Act → World → Prop}

/-- what a walk goes on with behind one operation -/
def onward (K : Act → World → Prop) (Q : Exit → Act → World → Prop) : Exit → Act → World → Prop
  | .normal, a, w => K a w
  | .exit i, a, w => Q (.exit i) a w
  | .goto l, a, w => Q (.goto l) a w
  | .ret, a, w => Q .ret a w
  | .panic c, a, w => Q (.panic c) a w
  | .outgrown, a, w => Q .outgrown a w
theorem onward_on {K : Act → World → Prop} {a : Act} {w : World} (h : K a w) : onward K Q .normal a w := h
theorem wpOp_onward {i : Nat} {a : Act} {w : World} {K : Act → World → Prop} (h : wpOp P ops (onward K Q) i K a w) : wpOp P ops Q i K a w := by
  unfold wpOp at *
  split
  · simpa [*] using h
  · rename_i o ho
    simp only [ho] at h
    split
    · rename_i hw
      simp only [hw, if_true] at h
      rcases h with h | ⟨h1, h2⟩
      · refine .inl ?_
        unfold Oper.wp at *
        generalize (execOp a.eval o).run P w = r at *
        cases r with
        | ok n w' =>
          cases n <;> simp only [Oper.upon] at h ⊢
          case enter f args =>
            refine Calls.mono h fun e w'' he => ?_
            cases e with
            | returned u => exact he
            | panicked c => exact he
            | outgrown => exact he
          all_goals exact h
        | halt x w' =>
          cases x <;> simp only [Oper.upon] at h ⊢
          case panic u => exact h
      · exact .inr ⟨h1, h2⟩
    · rename_i hw
      simp only [hw] at h
      exact h

/-- whatever order is picked from here on, and S holds behind every operation but number n -/
def wpAnyE (P : Program) (md : Region.Mode) (ops : Array Oper) (Q : Exit → Act → World → Prop) (S : World → Prop) (n : Nat) : Nat → Array Bool → Act → World → Prop
  | 0, listed, a, w => Region.ready md ops listed = [] ∧ Q .normal a w
  | f + 1, listed, a, w =>
    (Region.ready md ops listed = [] → Q .normal a w) ∧
    ∀ i ∈ Region.ready md ops listed, wpOp P ops Q i (fun a' w' => (i = n ∨ S w') ∧ wpAnyE P md ops Q S n f (listed.setIfInBounds i true) a' w') a w

theorem wpAny_of_E {n : Nat} : ∀ (f : Nat) (listed : Array Bool) (a : Act) (w : World), wpAnyE P md ops Q S n f listed a w → wpAny P md ops Q f listed a w
  | 0, _, _, _, h => h
  | f + 1, _, _, _, h => ⟨h.1, fun i hi => wpOp_mono (fun a' w' h' => wpAny_of_E f _ a' w' h'.2) (h.2 i hi)⟩

/-- number n, if there is one, waits for all others -/
structure LastOk (md : Region.Mode) (ops : Array Oper) (n : Nat) : Prop where
  sink : n < ops.size → Region.sinkB md ops n = true
  chain : n < ops.size → Region.chainB md ops n = true
  last : n < ops.size → n + 1 = ops.size
def LastInv (md : Region.Mode) (ops : Array Oper) (n : Nat) (listed : Array Bool) : Prop := n < ops.size → HeadInv md ops n listed

theorem LastInv.set {n i : Nat} {listed : Array Bool} (hl : LastOk md ops n) (inv : LastInv md ops n listed) (hi : i ∈ Region.ready md ops listed) (hin : i ≠ n) : LastInv md ops n (listed.setIfInBounds i true) := fun hn =>
  (inv hn).set hi (by
    obtain ⟨_, o, ho, _⟩ := mem_ready.1 hi
    have := (Array.getElem?_eq_some_iff.1 ho).1
    have := hl.last hn
    omega)
/-- beside another one that may come up, n may not -/
theorem LastInv.other {n i j : Nat} {listed : Array Bool} (hl : LastOk md ops n) (inv : LastInv md ops n listed) (hi : i ∈ Region.ready md ops listed) (hin : i ≠ n) (hj : j ∈ Region.ready md ops listed) : j ≠ n := by
  rintro rfl
  obtain ⟨_, o, ho, _⟩ := mem_ready.1 hj
  have hn := (Array.getElem?_eq_some_iff.1 ho).1
  obtain ⟨hun, oi, hoi, _⟩ := mem_ready.1 hi
  have h1 := (Array.getElem?_eq_some_iff.1 hoi).1
  have h2 := hl.last hn
  exact tail_waits (hl.sink hn) (hl.chain hn) hn (inv hn) _ i rfl (by omega) hun j (Nat.le_refl _) hj

theorem wpAnyE_first {n i : Nat} {oi : Oper} {v : Value} (hl : LastOk md ops n) (hin : i ≠ n) (hi : ops[i]? = some oi) (hsel : ∀ (j : Nat) (o : Oper) cs b, ops[j]? = some o → o.op ≠ .select cs b)
    (hQ : ∀ c a w, Q (.panic c) (a.put oi.dst v) w → Q (.panic c) a w) :
    ∀ (f : Nat) (listed : Array Bool) (a : Act) (w : World), LastInv md ops n listed →
      (∀ j oj, ops[j]? = some oj → j ≠ i → listed.getD j true = false → (∀ e ∈ oj.after, Region.binds md e = true → e.on ≠ i) → oi.apart ops oj = true) →
      i ∈ Region.ready md ops listed → YieldsIf P ops S oi v a → S w →
      wpAnyE P md ops Q S n f (listed.setIfInBounds i true) (a.put oi.dst v) w → wpAnyE P md ops Q S n (f + 1) listed a w := by
  intro f
  induction f with
  | zero =>
    intro listed a w inv _ hr hy hS H
    refine ⟨fun h => (by rw [h] at hr; cases hr), fun j hj => ?_⟩
    by_cases hji : j = i
    · subst hji; exact hy.wpOp hi hS ⟨.inr hS, H⟩
    · have := ready_mono hj hji
      rw [H.1] at this
      cases this
  | succ f ih =>
    intro listed a w inv hfree hr hy hS H
    refine ⟨fun h => (by rw [h] at hr; cases hr), fun j hj => ?_⟩
    by_cases hji : j = i
    · subst hji; exact hy.wpOp hi hS ⟨.inr hS, H⟩
    · have hjn := inv.other hl hr hin hj
      have h1 := H.2 j (ready_mono hj hji)
      obtain ⟨hjun, oj, hoj, hall⟩ := mem_ready.1 hj
      have hnot : ∀ e ∈ oj.after, Region.binds md e = true → e.on ≠ i := fun e he hb heq => by
        have h1 := hall e he hb
        rw [heq, getD_both (mem_ready.1 hr).1] at h1
        cases h1
      have h2 := wpOp_putIf hoj (hfree j oj hoj hji hjun hnot) (fun cs b => hsel i oi cs b hi) (fun cs b => hsel j oj cs b hoj) hQ hy h1
      have hfree' : ∀ k ok, ops[k]? = some ok → k ≠ i → (listed.setIfInBounds j true).getD k true = false →
          (∀ e ∈ ok.after, Region.binds md e = true → e.on ≠ i) → oi.apart ops ok = true := fun k ok hk hki hun hno => by
        refine hfree k ok hk hki ?_ hno
        by_cases hjk : j = k
        · subst hjk; exact hjun
        · rw [getD_set_ne true hjk] at hun; exact hun
      refine wpOp_mono (fun a' w' h3 => ?_) h2
      have hS' : S w' := h3.2.1.resolve_left hjn
      refine ⟨.inr hS', ih (listed.setIfInBounds j true) a' w' (inv.set hl hj hjn) hfree' (ready_mono hr (Ne.symm hji)) h3.1 hS' ?_⟩
      rw [Array.setIfInBounds_comm _ _ hji]
      exact h3.2.2

/-- THE WALK: 'true' at an operation that yields in every world that meets S; the others come up one at a time -/
def Held (P : Program) (ops : Array Oper) (Q : Exit → Act → World → Prop) (S : World → Prop) : List (Bool × Oper) → Act → World → Prop
  | [], a, w => Q .normal a w
  | (true, o) :: r, a, w => ∃ v, YieldsIf P ops S o v a ∧ Held P ops Q S r (a.put o.dst v) w
  | (false, o) :: r, a, w => wpList P ops (onward (fun a' w' => (r = [] ∨ S w') ∧ Held P ops Q S r a' w') Q) [o] a w
def heldB (md : Region.Mode) (ops : Array Oper) (n : Nat) : List (Bool × Nat) → Array Bool → Bool
  | [], listed => (Region.ready md ops listed).isEmpty
  | (true, i) :: r, listed => (Region.ready md ops listed).contains i && Region.free md ops listed i && decide (i ≠ n) && heldB md ops n r (listed.setIfInBounds i true)
  | (false, i) :: r, listed => decide (Region.ready md ops listed = [i]) && (decide (i = n) == r.isEmpty) && heldB md ops n r (listed.setIfInBounds i true)

theorem wpAnyE_of_held {n : Nat} (hl : LastOk md ops n) (hsel : Region.noSelect ops = true) (hQ : ∀ c a d v w, Q (.panic c) (Act.put a d v) w → Q (.panic c) a w) :
    ∀ (is : List (Bool × Nat)) (l : List (Bool × Oper)) (listed : Array Bool) (a : Act) (w : World), is.map (fun x => (x.1, ops[x.2]?)) = l.map (fun x => (x.1, some x.2)) → LastInv md ops n listed ∨ is = [] → heldB md ops n is listed = true →
    (is = [] ∨ S w) → Held P ops Q S l a w → wpAnyE P md ops Q S n l.length listed a w
  | [], [], listed, a, w, _, _, hB, _, h => ⟨by simpa [heldB] using hB, h⟩
  | [], _ :: _, _, _, _, hm, _, _, _, _ => by simp at hm
  | _ :: _, [], _, _, _, hm, _, _, _, _ => by simp at hm
  | (true, i) :: is, (b, o) :: l, listed, a, w, hm, inv, hB, hS, h => by
    simp only [List.map_cons, List.cons.injEq, Prod.mk.injEq] at hm
    obtain ⟨⟨rfl, h0⟩, hm'⟩ := hm
    simp only [heldB, Bool.and_eq_true, decide_eq_true_eq] at hB
    obtain ⟨⟨⟨hr, hf⟩, hin⟩, hB'⟩ := hB
    obtain ⟨v, hy, hK⟩ := h
    have hr' : i ∈ Region.ready md ops listed := by simpa using hr
    have hS' : S w := hS.resolve_left (by simp)
    have inv' := inv.resolve_right (by simp)
    exact wpAnyE_first hl hin h0 (Region.noSelect_spec hsel) (fun c a w => hQ c a _ _ w) _ listed a w inv' (Region.free_spec h0 hf) hr' hy hS'
      (wpAnyE_of_held hl hsel hQ is l _ _ _ hm' (.inl (inv'.set hl hr' hin)) hB' (.inr hS') hK)
  | (false, i) :: is, (b, o) :: l, listed, a, w, hm, inv, hB, hS, h => by
    simp only [List.map_cons, List.cons.injEq, Prod.mk.injEq] at hm
    obtain ⟨⟨rfl, h0⟩, hm'⟩ := hm
    simp only [heldB, Bool.and_eq_true, decide_eq_true_eq, beq_iff_eq] at hB
    obtain ⟨⟨hr, hlast⟩, hB'⟩ := hB
    have inv' := inv.resolve_right (by simp)
    have hr' : i ∈ Region.ready md ops listed := by rw [hr]; simp
    have hnil : l = [] ↔ is = [] := by
      have := congrArg List.length hm'
      simp only [List.length_map] at this
      rw [← List.length_eq_zero_iff, ← List.length_eq_zero_iff, this]
    refine ⟨fun h1 => (by rw [hr] at h1; cases h1), fun j hj => ?_⟩
    rw [hr] at hj
    have hji : j = i := by simpa using hj
    subst hji
    have hin : j = n ↔ is = [] := by rw [← List.isEmpty_iff, ← hlast]; simp
    refine wpOp_mono (fun a' w' hh => ?_) (wpOp_onward (K := fun a' w' => (l = [] ∨ S w') ∧ Held P ops Q S l a' w') (by
      unfold wpOp
      simp only [h0]
      exact h))
    refine ⟨?_, wpAnyE_of_held hl hsel hQ is l _ _ _ hm' ?_ hB' ?_ hh.2⟩
    · rcases hh.1 with h1 | h1
      · exact .inl (hin.2 (hnil.1 h1))
      · exact .inr h1
    · by_cases hn : j = n
      · exact .inr (hin.1 hn)
      · exact .inl (inv'.set hl hr' hn)
    · rcases hh.1 with h1 | h1
      · exact .inl (hnil.1 h1)
      · exact .inr h1

/-- THE THEOREM: is: the operations as they are walked, 'true' at those that yield under S; n: the one behind which S need not hold, for it waits for all others (or any number beyond the region's). -/
theorem held_walk {P : Program} {id : Nat} {Q : Exit → Act → World → Prop} {a : Act} {w : World} {l : List Oper} (S : World → Prop) (is : List (Bool × Nat)) (n : Nat) (hm : P.follows .mixedOrders = true)
    (hB : (Region.noSelect l.toArray && heldB .any l.toArray n is (Array.replicate l.toArray.size false) && is.all (fun i => decide (i.2 < l.length)) && decide (is.length = l.length) &&
      (decide (l.toArray.size ≤ n) || (Region.sinkB .any l.toArray n && Region.chainB .any l.toArray n && decide (n + 1 = l.toArray.size)))) = true)
    (hQ : ∀ c a d v w, Q (.panic c) (Act.put a d v) w → Q (.panic c) a w) (hS : S w.drew)
    (h : Held P l.toArray Q S (is.filterMap fun x => (l[x.2]?).map fun o => (x.1, o)) a w.drew) : (Code.region id l.toArray true).wp P Q a w := by
  simp only [Bool.and_eq_true, decide_eq_true_eq, List.all_eq_true, Bool.or_eq_true] at hB
  obtain ⟨⟨⟨⟨hsel, hheld⟩, hlt⟩, hlen⟩, hlast⟩ := hB
  obtain ⟨q1, q2⟩ := filterMap_ok2 is hlt
  have hl : LastOk .any l.toArray n := by
    rcases hlast with h1 | ⟨⟨h1, h2⟩, h3⟩
    · exact ⟨fun h => by omega, fun h => by omega, fun h => by omega⟩
    · exact ⟨fun _ => h1, fun _ => h2, fun _ => h3⟩
  have inv0 : LastInv .any l.toArray n (Array.replicate l.toArray.size false) := fun _ =>
    ⟨by simp, fun j oj _ hl => (by rw [getD_replicate_false] at hl; cases hl), fun t _ ht => getD_in (by simpa using ht) (getD_replicate_false _ _)⟩
  refine wp_region_any hm (wpAny_of_E (S := S) (n := n) _ _ _ _ ?_)
  have key := wpAnyE_of_held (P := P) (S := S) (md := .any) (Q := Q) hl hsel hQ is _ _ a w.drew q1 (.inl inv0) hheld (.inr hS) h
  rw [q2, hlen] at key
  simpa using key

/-! ### The moves of a walk -/
theorem held_take {o : Oper} {r : List (Bool × Oper)} {a : Act} {w : World} (v : Value) (hw : Region.wanted o (yielded ops a.tmps) = true) (hy : ∀ w', S w' → (execOp a.eval o).run P w' = .ok (.value v) w') (h : Held P ops Q S r (a.put o.dst v) w) :
    Held P ops Q S ((true, o) :: r) a w := ⟨v, .inl ⟨hw, hy⟩, h⟩
theorem held_one {o : Oper} {r : List (Bool × Oper)} {a : Act} {w : World} (h : wpList P ops (onward (fun a' w' => (r = [] ∨ S w') ∧ Held P ops Q S r a' w') Q) [o] a w) : Held P ops Q S ((false, o) :: r) a w := h
theorem held_on {r : List (Bool × Oper)} {a : Act} {w : World} (hS : S w) (h : Held P ops Q S r a w) : onward (fun a' w' => (r = [] ∨ S w') ∧ Held P ops Q S r a' w') Q .normal a w := ⟨.inr hS, h⟩
theorem held_end {a : Act} {w : World} (h : Q .normal a w) : onward (fun a' w' => (([] : List (Bool × Oper)) = [] ∨ S w') ∧ Held P ops Q S [] a' w') Q .normal a w := ⟨.inl rfl, h⟩
theorem held_nil {a : Act} {w : World} (h : Q .normal a w) : Held P ops Q S [] a w := h
end
end Bal

/-
  A region that draws its order: some operations are taken first, two may then come up in either order, the rest is walked as in XHeld. No program in sight.
-/
namespace Bal
open Go Go.RowKit

section
variable {P : Program} {ops : Array Oper} {md : Region.Mode} {S : World → Prop} {Q : Exit → Act → World → Prop}

/-- operations that are taken first: all yield under S -/
def TakenAll (P : Program) (ops : Array Oper) (S : World → Prop) (K : Act → World → Prop) : List Oper → Act → World → Prop
  | [], a, w => K a w
  | o :: r, a, w => ∃ v, YieldsIf P ops S o v a ∧ TakenAll P ops S K r (a.put o.dst v) w
def marked : List Nat → Array Bool → Array Bool
  | [], listed => listed
  | i :: is, listed => marked is (listed.setIfInBounds i true)
def takenB (md : Region.Mode) (ops : Array Oper) : List Nat → Array Bool → Bool
  | [], _ => true
  | i :: is, listed => (Region.ready md ops listed).contains i && Region.free md ops listed i && decide (i < ops.size) && takenB md ops is (listed.setIfInBounds i true)

theorem lastOk_size : LastOk md ops ops.size := ⟨fun h => absurd h (Nat.lt_irrefl _), fun h => absurd h (Nat.lt_irrefl _), fun h => absurd h (Nat.lt_irrefl _)⟩
theorem lastInv_size (listed : Array Bool) : LastInv md ops ops.size listed := fun h => absurd h (Nat.lt_irrefl _)

theorem wpAnyE_of_taken (hsel : Region.noSelect ops = true) (hQ : ∀ c a d v w, Q (.panic c) (Act.put a d v) w → Q (.panic c) a w) {K : Act → World → Prop} {g : Nat} :
    ∀ (is : List Nat) (l : List Oper) (listed : Array Bool) (a : Act) (w : World), is.map (fun i => ops[i]?) = l.map some → takenB md ops is listed = true → S w →
      (∀ a, K a w → wpAnyE P md ops Q S ops.size g (marked is listed) a w) → TakenAll P ops S K l a w → wpAnyE P md ops Q S ops.size (l.length + g) listed a w
  | [], [], listed, a, w, _, _, _, hK, h => by rw [List.length_nil, Nat.zero_add]; exact hK a h
  | [], _ :: _, _, _, _, hm, _, _, _, _ => by simp at hm
  | _ :: _, [], _, _, _, hm, _, _, _, _ => by simp at hm
  | i :: is, o :: l, listed, a, w, hm, hB, hS, hK, h => by
    simp only [List.map_cons, List.cons.injEq] at hm
    obtain ⟨h0, hm'⟩ := hm
    simp only [takenB, Bool.and_eq_true, decide_eq_true_eq] at hB
    obtain ⟨⟨⟨hr, hf⟩, hlt⟩, hB'⟩ := hB
    obtain ⟨v, hy, hT⟩ := h
    have hr' : i ∈ Region.ready md ops listed := by simpa using hr
    rw [show (o :: l).length + g = (l.length + g) + 1 by simp only [List.length_cons]; omega]
    exact wpAnyE_first lastOk_size (by omega) h0 (Region.noSelect_spec hsel) (fun c a w => hQ c a _ _ w) _ listed a w (lastInv_size _) (Region.free_spec h0 hf) hr' hy hS
      (wpAnyE_of_taken hsel hQ is l _ _ _ hm' hB' hS hK hT)

/-- two operations, each ahead of the other, and what is then known of what they yielded -/
def Fork (P : Program) (ops : Array Oper) (Q : Exit → Act → World → Prop) (S : World → Prop) (R : Value → Value → World → Prop) (oi oj : Oper) (K : Act → World → Prop) (a : Act) (w : World) : Prop :=
  wpList P ops (onward (fun a1 w1 => S w1 ∧ wpList P ops (onward (fun a2 w2 => S w2 ∧ ∃ u v, a2 = (a.put oi.dst u).put oj.dst v ∧ R u v w2) Q) [oj] a1 w1) Q) [oi] a w ∧
  wpList P ops (onward (fun a1 w1 => S w1 ∧ wpList P ops (onward (fun a2 w2 => S w2 ∧ ∃ u v, a2 = (a.put oj.dst v).put oi.dst u ∧ R u v w2) Q) [oi] a1 w1) Q) [oj] a w ∧
  ∀ u v w2, S w2 → R u v w2 → K ((a.put oi.dst u).put oj.dst v) w2

theorem wpAnyE_fork {i j n g : Nat} {oi oj : Oper} {R : Value → Value → World → Prop} {K : Act → World → Prop} {listed : Array Bool} {a : Act} {w : World} (h0 : ops[i]? = some oi) (h0' : ops[j]? = some oj)
    (hd : ∀ d, oi.dst = some d → oj.dst ≠ some d) (hr : Region.ready md ops listed = [i, j]) (hri : Region.ready md ops (listed.setIfInBounds i true) = [j]) (hrj : Region.ready md ops (listed.setIfInBounds j true) = [i])
    (hij : i ≠ j) (h : Fork P ops Q S R oi oj K a w) (hK : ∀ a w, S w → K a w → wpAnyE P md ops Q S n g ((listed.setIfInBounds i true).setIfInBounds j true) a w) : wpAnyE P md ops Q S n (g + 2) listed a w := by
  obtain ⟨h1, h2, h3⟩ := h
  have one : ∀ {k : Nat} {o : Oper} {K : Act → World → Prop} {a : Act} {w : World}, ops[k]? = some o → wpList P ops (onward K Q) [o] a w → wpOp P ops Q k K a w := by
    intro k o K a w hk h
    refine wpOp_onward ?_
    unfold wpOp
    simp only [hk]
    exact h
  refine ⟨fun h => (by rw [hr] at h; cases h), fun k hk => ?_⟩
  rw [hr] at hk
  rcases List.mem_cons.1 hk with rfl | hk
  · refine wpOp_mono (fun a1 w1 hh => ⟨.inr hh.1, fun h => (by rw [hri] at h; cases h), fun k2 hk2 => ?_⟩) (one h0 h1)
    rw [hri] at hk2
    obtain rfl : k2 = j := by simpa using hk2
    refine wpOp_mono (fun a2 w2 hh2 => ⟨.inr hh2.1, ?_⟩) (one h0' hh.2)
    obtain ⟨hS2, u, v, rfl, hR⟩ := hh2
    exact hK _ _ hS2 (h3 u v w2 hS2 hR)
  · obtain rfl : k = j := by simpa using hk
    refine wpOp_mono (fun a1 w1 hh => ⟨.inr hh.1, fun h => (by rw [hrj] at h; cases h), fun k2 hk2 => ?_⟩) (one h0' h2)
    rw [hrj] at hk2
    obtain rfl : k2 = i := by simpa using hk2
    refine wpOp_mono (fun a2 w2 hh2 => ⟨.inr hh2.1, ?_⟩) (one h0 hh.2)
    obtain ⟨hS2, u, v, rfl, hR⟩ := hh2
    rw [← Act.put_comm a u v (fun d hd' => hd d hd'), Array.setIfInBounds_comm _ _ (Ne.symm hij)]
    exact hK _ _ hS2 (h3 u v w2 hS2 hR)

/-- THE THEOREM -/
theorem fork_walk {P : Program} {id : Nat} {Q : Exit → Act → World → Prop} {a : Act} {w : World} {l : List Oper} (S : World → Prop) (R : Value → Value → World → Prop) (is1 : List Nat) (i j : Nat) (is2 : List (Bool × Nat)) (hm : P.follows .mixedOrders = true)
    (hB : (Region.noSelect l.toArray && takenB .any l.toArray is1 (Array.replicate l.toArray.size false) && is1.all (fun i => decide (i < l.length)) && decide (i < l.length) && decide (j < l.length) && decide (i ≠ j) &&
      decide (Region.ready .any l.toArray (marked is1 (Array.replicate l.toArray.size false)) = [i, j]) && decide (Region.ready .any l.toArray ((marked is1 (Array.replicate l.toArray.size false)).setIfInBounds i true) = [j]) &&
      decide (Region.ready .any l.toArray ((marked is1 (Array.replicate l.toArray.size false)).setIfInBounds j true) = [i]) &&
      heldB .any l.toArray l.toArray.size is2 (((marked is1 (Array.replicate l.toArray.size false)).setIfInBounds i true).setIfInBounds j true) && is2.all (fun i => decide (i.2 < l.length)) &&
      decide (is1.length + (is2.length + 2) = l.length) && decide ((l[i]?).map (·.dst) ≠ (l[j]?).map (·.dst))) = true)
    (hQ : ∀ c a d v w, Q (.panic c) (Act.put a d v) w → Q (.panic c) a w) (hS : S w.drew)
    (h : TakenAll P l.toArray S (fun a w => ∀ oi oj, l[i]? = some oi → l[j]? = some oj → Fork P l.toArray Q S R oi oj (fun a w => Held P l.toArray Q S (is2.filterMap fun x => (l[x.2]?).map fun o => (x.1, o)) a w) a w) (is1.filterMap fun i => l[i]?) a w.drew) : (Code.region id l.toArray true).wp P Q a w := by
  simp only [Bool.and_eq_true, decide_eq_true_eq, List.all_eq_true] at hB
  obtain ⟨⟨⟨⟨⟨⟨⟨⟨⟨⟨⟨⟨hsel, htk⟩, hlt1⟩, hi⟩, hj⟩, hij⟩, hr⟩, hri⟩, hrj⟩, hheld⟩, hlt2⟩, hlen⟩, hdst⟩ := hB
  obtain ⟨q1, q2⟩ := filterMap_ok2 is2 hlt2
  have p : ∀ is : List Nat, (∀ x ∈ is, x < l.length) → is.map (fun i => l.toArray[i]?) = (is.filterMap fun i => l[i]?).map some ∧ (is.filterMap fun i => l[i]?).length = is.length := by
    intro is
    induction is with
    | nil => simp
    | cons x is ih =>
      intro hx
      have hx0 := hx x (by simp)
      obtain ⟨e1, e2⟩ := ih fun y hy => hx y (by simp [hy])
      have e0 : l[x]? = some l[x] := List.getElem?_eq_getElem hx0
      rw [List.filterMap_cons, e0]
      simp only [List.map_cons, List.length_cons, e1, e2]
      exact ⟨by simp [hx0], trivial⟩
  obtain ⟨p1, p2⟩ := p is1 hlt1
  have ei : l[i]? = some l[i] := List.getElem?_eq_getElem hi
  have ej : l[j]? = some l[j] := List.getElem?_eq_getElem hj
  refine wp_region_any hm (wpAny_of_E (S := S) (n := l.toArray.size) _ _ _ _ ?_)
  have key := wpAnyE_of_taken (P := P) (S := S) (md := .any) (Q := Q) (g := is2.length + 2) hsel hQ is1 _ _ a w.drew p1 htk hS (fun a' hK => by
    have := wpAnyE_fork (P := P) (md := .any) (n := l.toArray.size) (g := is2.length) (i := i) (j := j) (by simp) (by simp) (by
      intro d hd he
      rw [ei, ej] at hdst
      simp only [Option.map_some, ne_eq, Option.some.injEq] at hdst
      exact hdst (by rw [hd, he])) hr hri hrj hij (hK _ _ ei ej) (fun a2 w2 hS2 hH => by
        have := wpAnyE_of_held (P := P) (S := S) (md := .any) (Q := Q) lastOk_size hsel hQ is2 _ _ a2 w2 q1 (.inl (lastInv_size _)) hheld (.inr hS2) hH
        rwa [q2] at this)
    exact this) h
  rw [p2, hlen] at key
  simpa using key
/-! ### The moves of a walk -/
theorem taken_take {K : Act → World → Prop} {o : Oper} {r : List Oper} {a : Act} {w : World} (v : Value) (hw : Region.wanted o (yielded ops a.tmps) = true) (hy : ∀ w', S w' → (execOp a.eval o).run P w' = .ok (.value v) w') (h : TakenAll P ops S K r (a.put o.dst v) w) :
    TakenAll P ops S K (o :: r) a w := ⟨v, .inl ⟨hw, hy⟩, h⟩
theorem taken_nil {K : Act → World → Prop} {a : Act} {w : World} (h : K a w) : TakenAll P ops S K [] a w := h
theorem fork_first {S : World → Prop} {K : Act → World → Prop} {a : Act} {w : World} (hS : S w) (h : K a w) : onward (fun a w => S w ∧ K a w) Q .normal a w := ⟨hS, h⟩
end
end Bal
