/-
  Facts about memory, lists and numbers that the walks use: no program in sight.
-/
import Derived.WalkKit
import Derived.WalkSpells
import Derived.WalkLawsBesides
import Derived.Lib.Hide
import Derived.ProofKit
import Derived.OpenShut
import Derived.ChangeOld
import Derived.Below
import Derived.Deep.Slices
import Derived.Deep.Fields
import Derived.Deep.Quiet
import Derived.Laws.AppendOwn
import Derived.Laws.AppendOwnNone
import Derived.Test.YtlloijkmpmfapaaProg
import Derived.Deep.QuietTactic
import Derived.BigQuiet
import Derived.StillTail
import Derived.WalkSmall
import Derived.OwnWalk
import Derived.Deep.RegionHeld3
import Derived.Deep.DeepCutAuto
import Derived.RangeFuncNested
import Derived.RangeFuncCalls
import Derived.RangeFuncLeaves
import Derived.RangeFuncBound
import Derived.Shelf.Abstract
import Derived.Shelf.RegionOpen
import Derived.OwnWalkIn
import Derived.TacticsInMore
import Derived.LoopNIn
import Derived.LoopIn
import Derived.Sort.QuietTacIn
import Derived.Scope
import Derived.ControlIn
import Derived.Test.YtlloijkmpmfapaaTrimBaseMA
set_option linter.unusedVariables false
set_option linter.unusedSimpArgs false
/-
  Facts about memory, lists and numbers that the walks use: no program in sight.
-/
namespace Bal
open Go Go.RowKit Go.ChangeShapes Go.WideShapes

theorem ret_int {k : IntKind} {a b : Int} (h : a = b) : Ending.returned (.int k a) = .returned (.int k b) := by rw [h]
theorem ret_bool {a b : Bool} (h : a = b) : Ending.returned (.bool a) = .returned (.bool b) := by rw [h]

/-- What a call leaves alone: nothing that was there has changed. -/
abbrev Kept (w w' : World) : Prop := Below w.heap.size w w'

/-- The elements xs of a slice at address a, each of k cells, lie in blocks below B. -/
def Row {α : Type} (enc : α → List Value) (k B : Nat) (w : World) (a : Option Addr) (xs : List α) : Prop :=
  ∀ (i : Nat) (x : α), xs[i]? = some x → ∃ b off, a = some ⟨b, off, none⟩ ∧ b < B ∧ ∀ (j : Nat) (v : Value), (enc x)[j]? = some v → w.cell? ⟨b, off + i * k + j, none⟩ = some v

theorem Row.nil {α : Type} {enc : α → List Value} {k B : Nat} {w : World} {a : Option Addr} : Row enc k B w a [] := by
  intro i x h; simp at h

theorem Row.keep {α : Type} {enc : α → List Value} {k B C : Nat} {w w' : World} {a : Option Addr} {xs : List α} (h : Row enc k B w a xs) (hb : Below C w w') (hC : B ≤ C) : Row enc k B w' a xs := by
  intro i x hx
  obtain ⟨b, off, ha, hlt, hc⟩ := h i x hx
  exact ⟨b, off, ha, hlt, fun j v hj => by rw [hb.cell (p := ⟨b, off + i * k + j, none⟩) (show b < C by omega)]; exact hc j v hj⟩

theorem Row.up {α : Type} {enc : α → List Value} {k B C : Nat} {w : World} {a : Option Addr} {xs : List α} (h : Row enc k B w a xs) (hC : B ≤ C) : Row enc k C w a xs := by
  intro i x hx
  obtain ⟨b, off, ha, hlt, hc⟩ := h i x hx
  exact ⟨b, off, ha, by omega, hc⟩

/-- a row known below the heap of w, asked for in a later world w' -/
theorem Row.later {α : Type} {enc : α → List Value} {k B : Nat} {w w' : World} {a : Option Addr} {xs : List α} (h : Row enc k B w a xs) (hb : Below B w w') (hB : B ≤ w.heap.size) : Row enc k w'.heap.size w' a xs :=
  (h.keep hb (Nat.le_refl _)).up (Nat.le_trans hB hb.size)

theorem bcell {W w1 : World} (hb : Below W.heap.size W w1) : (∀ b o, b < W.heap.size → w1.cell? ⟨b, o, none⟩ = W.cell? ⟨b, o, none⟩) ∧ (∀ b o, b < W.heap.size → w1.frozen? ⟨b, o, none⟩ = W.frozen? ⟨b, o, none⟩) :=
  ⟨fun b o h => hb.cell (p := ⟨b, o, none⟩) h, fun b o h => hb.frozen (p := ⟨b, o, none⟩) h⟩

theorem Kept.size {w w' : World} (h : Kept w w') : w.heap.size ≤ w'.heap.size := Below.size h
/-- what a walk wants to know behind a contract -/
theorem bcell3 {W w1 : World} (hb : Below W.heap.size W w1) : (∀ b o, b < W.heap.size → w1.cell? ⟨b, o, none⟩ = W.cell? ⟨b, o, none⟩) ∧ (∀ b o, b < W.heap.size → w1.frozen? ⟨b, o, none⟩ = W.frozen? ⟨b, o, none⟩) ∧ ∀ n, n < W.heap.size → n < w1.heap.size :=
  ⟨fun b o h => hb.cell (p := ⟨b, o, none⟩) h, fun b o h => hb.frozen (p := ⟨b, o, none⟩) h, fun _ h => Nat.lt_of_lt_of_le h hb.size⟩

theorem Kept.drop {w w' w'' : World} (h : Below w.heap.size w w') (h' : Kept w' w'') : Kept w w'' := h.trans (h'.mono h.size)

/-- a loop over xs has passed k elements, all of them valid, and left alone what was there -/
def Upto {α : Type} (valid : α → Bool) (xs : List α) (w : World) (i : Value) (wr : World) : Prop :=
  ∃ k : Nat, k ≤ xs.length ∧ i = .int .i64 k ∧ (xs.take k).all valid = true ∧ Kept w wr

theorem Kept.alloc {w w' : World} (h : Kept w w') (o : Obj) : Kept w (w'.alloc o) := Below.alloc h h.size o

/-- a number as a cell -/
def icell (n : Int) : List Value := [.int .i64 n]
theorem int_row {B : Nat} {w : World} {a : Option Addr} {xs : List Int} (h : Row icell 1 B w a xs) (i : Nat) (hi : i < xs.length) :
    ∃ b off, a = some ⟨b, off, none⟩ ∧ b < B ∧ w.cell? ⟨b, off + i, none⟩ = some (.int .i64 xs[i]) := by
  obtain ⟨b, off, ha, hb, hc⟩ := h i xs[i] (by simp [hi])
  exact ⟨b, off, ha, hb, by simpa using hc 0 _ rfl⟩

/-! ### Slices that a call has made itself, element by element -/
theorem flatMap_len {α : Type} {enc : α → List Value} {k : Nat} (he : ∀ x, (enc x).length = k) (xs : List α) : (xs.flatMap enc).length = xs.length * k := by
  induction xs with
  | nil => simp
  | cons x xs ih => simp [List.flatMap_cons, ih, he, Nat.succ_mul, Nat.add_comm]

theorem flatMap_get {α : Type} {enc : α → List Value} {k : Nat} (he : ∀ x, (enc x).length = k) : ∀ (xs : List α) (i : Nat) (x : α), xs[i]? = some x → ∀ j, j < k → (xs.flatMap enc)[i * k + j]? = (enc x)[j]?
  | [], i, x, h, _, _ => by simp at h
  | y :: ys, 0, x, h, j, hj => by
    simp at h
    subst h
    rw [List.flatMap_cons, Nat.zero_mul, Nat.zero_add, List.getElem?_append_left (by rw [he]; exact hj)]
  | y :: ys, i + 1, x, h, j, hj => by
    rw [List.flatMap_cons, List.getElem?_append_right (by rw [he, Nat.succ_mul]; omega), he]
    have := flatMap_get he ys i x (by simpa using h) j hj
    rw [← this]
    congr 1
    rw [Nat.succ_mul]; omega

/-- What the call owns reads as a row. -/
theorem Row.of_owns {α : Type} {enc : α → List Value} {k base : Nat} {e : TypeId} {w : World} {v : Value} {xs : List α} (he : ∀ x, (enc x).length = k) (h : w.ownsRow base e k v xs.length (xs.flatMap enc)) :
    ∃ a cap, v = .slice a xs.length cap ∧ Row enc k w.heap.size w a xs ∧ xs.length ≤ cap ∧ cap ≤ maxLen := by
  obtain ⟨_, ⟨rfl, hn⟩ | ⟨g, cap, cur, rfl, hb, hh, hnc, hcm, hsz, ht⟩⟩ := h
  · have : xs = [] := List.length_eq_zero_iff.1 hn
    subst this
    exact ⟨none, 0, rfl, Row.nil, by simp, by simp [maxLen]⟩
  · refine ⟨some ⟨g, 0, none⟩, cap, rfl, ?_, hnc, hcm⟩
    intro i x hx
    refine ⟨g, 0, rfl, ?_, ?_⟩
    · rcases Nat.lt_or_ge g w.heap.size with h' | h'
      · exact h'
      · rw [Array.getElem?_eq_none h'] at hh; cases hh
    · intro j u hj
      have hjk : j < k := by rw [← he x]; exact (List.getElem?_eq_some_iff.1 hj).1
      have hix : i < xs.length := (List.getElem?_eq_some_iff.1 hx).1
      have h1 := flatMap_get he xs i x hx j hjk
      rw [← ht, List.getElem?_take] at h1
      split at h1
      · rw [hj] at h1
        simp only [World.cell?, hh, Nat.zero_add]
        simpa using h1
      · rw [hj] at h1; cases h1

theorem owns_nil {base : Nat} {e : TypeId} {k : Nat} {w : World} {α : Type} {enc : α → List Value} : w.ownsRow base e k (.slice none 0 0) ([] : List α).length (([] : List α).flatMap enc) :=
  ⟨by simp, .inl ⟨rfl, rfl⟩⟩

theorem owns_keep {base : Nat} {e : TypeId} {k n : Nat} {w w' : World} {v : Value} {xs : List Value} (h : w.ownsRow base e k v n xs) (hb : Below w.heap.size w w') : w'.ownsRow base e k v n xs := by
  obtain ⟨h1, h2 | ⟨g, cap, cur, hv, hg, hh, r⟩⟩ := h
  · exact ⟨h1, .inl h2⟩
  · refine ⟨h1, .inr ⟨g, cap, cur, hv, hg, ?_, r⟩⟩
    rw [hb.block g ?_]
    · exact hh
    · rcases Nat.lt_or_ge g w.heap.size with h' | h'
      · exact h'
      · rw [Array.getElem?_eq_none h'] at hh; cases hh

theorem owns_base {base base' : Nat} {e : TypeId} {k n : Nat} {w : World} {v : Value} {xs : List Value} (h : w.ownsRow base e k v n xs) (hb : base' ≤ base) : w.ownsRow base' e k v n xs := by
  obtain ⟨h1, h2 | ⟨g, cap, cur, hv, hg, hh, r⟩⟩ := h
  · exact ⟨h1, .inl h2⟩
  · exact ⟨h1, .inr ⟨g, cap, cur, hv, Nat.le_trans hb hg, hh, r⟩⟩

theorem flatMap_at {α : Type} {enc : α → List Value} {k : Nat} (hk : 0 < k) (he : ∀ x, (enc x).length = k) (xs : List α) (j : Nat) (u : Value) (h : (xs.flatMap enc)[j]? = some u) :
    ∃ x, xs[j / k]? = some x ∧ (enc x)[j % k]? = some u := by
  have hj : j < xs.length * k := by rw [← flatMap_len he xs]; exact (List.getElem?_eq_some_iff.1 h).1
  have hi : j / k < xs.length := Nat.div_lt_of_lt_mul (by rw [Nat.mul_comm]; exact hj)
  refine ⟨xs[j / k], by simp [hi], ?_⟩
  rw [← flatMap_get he xs (j / k) xs[j / k] (by simp [hi]) (j % k) (Nat.mod_lt _ hk), ← h]
  congr 1
  have := Nat.div_add_mod j k
  rw [Nat.mul_comm] at this
  omega

theorem Row.news {α : Type} {enc : α → List Value} {k B : Nat} {w : World} {ad : Addr} {ys : List α} (hk : 0 < k) (he : ∀ x, (enc x).length = k) (h : Row enc k B w (some ad) ys) :
    ∀ j u, (ys.flatMap enc)[j]? = some u → w.cell? (ad.add j) = some u := by
  intro j u hj
  obtain ⟨x, hx, hu⟩ := flatMap_at hk he ys j u hj
  obtain ⟨b, off, ha, _, hc⟩ := h _ x hx
  simp only [Option.some.injEq] at ha
  subst ha
  have h1 := hc _ u hu
  have e : (⟨b, off, none⟩ : Addr).add j = ⟨b, off + j / k * k + j % k, none⟩ := by
    have h2 : off + j / k * k + j % k = off + j := by
      have := Nat.div_add_mod j k
      rw [Nat.mul_comm] at this
      omega
    unfold Addr.add
    split
    · rename_i h0; rw [h2, h0]; rfl
    · rw [h2]
  rw [e]
  exact h1

/-- APPENDING A LIST to a slice that the call owns, wherever the list lies (nil too). -/
theorem wpList_append_list {α : Type} {enc : α → List Value} {P : Program} {w : World} {ops : Array Oper} {rest : List Oper} {o : Oper} {a : Act} {Q : Exit → Act → World → Prop} (hgd : o.guard = none) (s x : Operand) (t : TypeId)
    (ho : o.op = .call { callee := .builtin .append, args := #[s, x], argTypes := #[t, t] })
    (base : Nat) (e : TypeId) (i : TypeInfo) (z : Value) (size bytes : Nat) (ht : P.underlying t = some (.slice e)) (hi : P.info? e = some i) (hz : i.zero = some z)
    (hsize : i.size = size) (hby : i.bytes = bytes) (hzs : z.cells.size = size) (hsz : 0 < size) (he : ∀ x : α, (enc x).length = size) (h1 : ∀ (x : α), ∀ u ∈ enc x, u.oneCell' = true)
    (v : Value) (xs : List α) (hs : a.eval s = v) (hown : w.ownsRow base e size v xs.length (xs.flatMap enc))
    (ad : Option Addr) (c : Nat) (ys : List α) (hx : a.eval x = .slice ad ys.length c) (hc : ad = none → c = 0) {B : Nat} (hrow : Row enc size B w ad ys)
    (h63 : xs.length + ys.length ≤ maxLen) (hbytes : (xs.length + ys.length) * bytes ≤ 140737488355328) (hbase : base ≤ w.heap.size)
    (h : ∀ v' w', w'.ownsRow base e size v' (xs ++ ys).length ((xs ++ ys).flatMap enc) → w.grownBy w' v.ownBlock → wpList P ops Q rest (a.put o.dst v') w') : wpList P ops Q (o :: rest) a w := by
  cases ad with
  | none =>
    have hys : ys = [] := by
      cases ys with
      | nil => rfl
      | cons y ys => obtain ⟨b, off, ha, _⟩ := hrow 0 y rfl; cases ha
    subst hys
    have := hc rfl
    subst this
    exact wpList_append_own_none hgd s x t ho base e i size ht hi v xs.length _ hs hown hx (h v w (by simpa using hown) ⟨rfl, rfl, rfl, Nat.le_refl _, fun _ _ _ => rfl⟩)
  | some ad =>
    refine wpList_append_own w hgd s x t ho base e i z size bytes ht hi hz hsize hby hzs hsz v xs.length _ hs hown ad ys.length c (ys.flatMap enc) hx (flatMap_len he ys) (hrow.news hsz he) ?_ h63 hbytes hbase ?_
    · intro u hu
      obtain ⟨y, _, hy⟩ := List.mem_flatMap.1 hu
      exact h1 y u hy
    · intro v' w' ho' hg _
      exact h v' w' (by simpa [List.length_append] using ho') hg

/-! ### A block of the call's own, known whole -/
def Blk (w : World) (b : Nat) (arr : Array Value) (t : TypeId) : Prop := w.heap[b]? = some (.cells arr t (0, 0))
theorem Blk.lt {w : World} {b : Nat} {arr : Array Value} {t : TypeId} (h : Blk w b arr t) : b < w.heap.size := by
  rcases Nat.lt_or_ge b w.heap.size with h' | h'
  · exact h'
  · unfold Blk at h; rw [Array.getElem?_eq_none h'] at h; cases h
theorem Blk.cell {w : World} {b : Nat} {arr : Array Value} {t : TypeId} (h : Blk w b arr t) (i : Nat) : w.cell? ⟨b, i, none⟩ = arr[i]? := by
  unfold Blk at h
  simp [World.cell?, h]
theorem Blk.free {w : World} {b : Nat} {arr : Array Value} {t : TypeId} (h : Blk w b arr t) (i : Nat) : w.frozen? ⟨b, i, none⟩ = false := by
  unfold Blk at h
  simp [World.frozen?, h]
theorem Blk.keep {w w' : World} {b : Nat} {arr : Array Value} {t : TypeId} (h : Blk w b arr t) (hb : Kept w w') : Blk w' b arr t := by
  unfold Blk
  rw [hb.block b h.lt]
  exact h
theorem Blk.alloc {w : World} {b : Nat} {arr : Array Value} {t : TypeId} (h : Blk w b arr t) (o : Obj) : Blk (w.alloc o) b arr t :=
  h.keep ((Below.refl _ _).alloc (Nat.le_refl _) o)
theorem Blk.drew {w : World} {b : Nat} {arr : Array Value} {t : TypeId} (h : Blk w b arr t) : Blk w.drew b arr t := h
theorem Blk.new {w : World} {arr : Array Value} {t : TypeId} : Blk (w.alloc (.cells arr t)) w.heap.size arr t := by
  show (w.heap.push _)[w.heap.size]? = _
  simp
theorem Blk.set {w : World} {b : Nat} {arr : Array Value} {t : TypeId} (h : Blk w b arr t) (i : Nat) (v : Value) : Blk (w.setCell ⟨b, i, none⟩ v) b (arr.setIfInBounds i v) t := by
  unfold Blk at *
  simp [World.setCell, Array.getElem?_modify, h]
theorem Blk.other {w : World} {b : Nat} {arr : Array Value} {t : TypeId} (h : Blk w b arr t) {a : Addr} (hne : a.block ≠ b) (v : Value) : Blk (w.setCell a v) b arr t := by
  unfold Blk at *
  rw [Below.heap_setCell _ _ _ _ (Ne.symm hne)]
  exact h

/-- a new block of elements reads as a row -/
theorem Row.fresh {α : Type} {enc : α → List Value} {k : Nat} {w : World} {arr : Array Value} {e : TypeId} {xs : List α} (he : ∀ x, (enc x).length = k) (h : arr.toList = xs.flatMap enc) :
    Row enc k (w.alloc (.cells arr e)).heap.size (w.alloc (.cells arr e)) (some ⟨w.heap.size, 0, none⟩) xs := by
  intro i x hx
  refine ⟨w.heap.size, 0, rfl, by simp, fun j v hj => ?_⟩
  have hjk : j < k := by rw [← he x]; exact (List.getElem?_eq_some_iff.1 hj).1
  rw [(Blk.new (w := w) (arr := arr) (t := e)).cell, Nat.zero_add, ← Array.getElem?_toList, h, flatMap_get he xs i x hx j hjk]
  exact hj

/-! ### Cells that are numbers or bools, whatever structs they lie in -/
inductive Leaf where
  | int (k : IntKind)
  | bool
  deriving DecidableEq

def LeafOk : Leaf → Value → Prop
  | .int k, v => ∃ n, v = .int k n ∧ (Lit.int k n).wf = true
  | .bool, v => ∃ b, v = .bool b

/-- the leaves of a row of fields, each by f, the first of them at off -/
def leavesL (P : Program) (g : TypeId → Option (List Leaf)) : Nat → List Field → Option (List Leaf)
  | _, [] => some []
  | off, f :: fs => if f.offset = off then (g f.type).bind fun m => if m.length = P.cellsOf f.type then (leavesL P g (off + m.length) fs).map (m ++ ·) else none else none

/-- the leaves of a type that is made of integers, bools and structs alone -/
def leaves (P : Program) : Nat → TypeId → Option (List Leaf)
  | 0, _ => none
  | n + 1, t => match P.underlying t with
    | some (.int k) => some [.int k]
    | some .bool => some [.bool]
    | some (.struct fs) => (leavesL P (leaves P n) 0 fs.toList).bind fun l => if l.length = P.cellsOf t then some l else none
    | _ => none

/-- cells that are leaves -/
def LeavesOk (ls : List Leaf) (cs : List Value) : Prop := cs.length = ls.length ∧ ∀ (j : Nat) (f : Leaf), ls[j]? = some f → ∃ v, cs[j]? = some v ∧ LeafOk f v

theorem leavesL_ok {P : Program} {g : TypeId → Option (List Leaf)} {cs : List Value} : ∀ (fs : List Field) (off : Nat) (ls : List Leaf),
    leavesL P g off fs = some ls → (∀ f ∈ fs, ∀ m, g f.type = some m → LeavesOk m ((cs.drop f.offset).take (P.cellsOf f.type))) →
    ∀ (j : Nat) (f : Leaf), ls[j]? = some f → ∃ v, cs[off + j]? = some v ∧ LeafOk f v
  | [], off, ls, h, _, j, f, hj => by simp [leavesL] at h; subst h; simp at hj
  | f :: fs, off, ls, h, hf, j, lf, hj => by
    simp only [leavesL] at h
    split at h
    · rename_i ho
      obtain ⟨m, hm, h⟩ := Option.bind_eq_some_iff.1 h
      split at h
      · rename_i hml
        obtain ⟨rest, hr, rfl⟩ := Option.map_eq_some_iff.1 h
        by_cases hjm : j < m.length
        · rw [List.getElem?_append_left hjm] at hj
          obtain ⟨_, h2⟩ := hf f (by simp) m hm
          obtain ⟨v, hv, hok⟩ := h2 j lf hj
          refine ⟨v, ?_, hok⟩
          rw [List.getElem?_take, List.getElem?_drop] at hv
          split at hv
          · rw [← ho]; exact hv
          · simp at hv
        · rw [List.getElem?_append_right (by omega)] at hj
          obtain ⟨v, hv, hok⟩ := leavesL_ok fs (off + m.length) rest hr (fun f' hf' => hf f' (by simp [hf'])) (j - m.length) lf hj
          exact ⟨v, by rw [← hv]; congr 1; omega, hok⟩
      · simp at h
    · simp at h

section
variable {H : Type} {enc : TypeId × Value → H} {P : Program} {w : World} {base : Nat} {spare : Nat → Bool} {held : Bool}

theorem leaves_ok (n : Nat) : ∀ (t : TypeId) (ls : List Leaf) (fuel : Nat) (cs : List Value) (x : DataW H × List MemPlace), leaves P n t = some ls → DataW.trod enc P w base spare held fuel t cs = some x → LeavesOk ls cs := by
  induction n with
  | zero => intro t ls fuel cs x h; simp [leaves] at h
  | succ n ih =>
    intro t ls fuel cs x h hx
    unfold leaves at h
    split at h
    · rename_i k hk
      simp only [Option.some.injEq] at h
      subst h
      obtain ⟨q, rfl, _, hw⟩ := DataW.trod_int hk hx
      refine ⟨rfl, fun j f hj => ?_⟩
      cases j with
      | zero => simp at hj; subst hj; exact ⟨_, rfl, q, rfl, hw⟩
      | succ j => simp at hj
    · rename_i hk
      simp only [Option.some.injEq] at h
      subst h
      obtain ⟨q, rfl, _⟩ := DataW.trod_bool hk hx
      refine ⟨rfl, fun j f hj => ?_⟩
      cases j with
      | zero => simp at hj; subst hj; exact ⟨_, rfl, q, rfl⟩
      | succ j => simp at hj
    · rename_i fs hk
      obtain ⟨l, hl, h⟩ := Option.bind_eq_some_iff.1 h
      split at h
      · rename_i hlen
        simp only [Option.some.injEq] at h
        subst h
        obtain ⟨xs, m, _, _, hcl, hxl, hg⟩ := DataW.trod_struct hk hx
        refine ⟨by rw [hcl, hlen], fun j f hj => ?_⟩
        have := leavesL_ok (cs := cs) fs.toList 0 l hl (fun f' hf' q hq => by
          obtain ⟨i, hi, rfl⟩ := List.mem_iff_getElem.1 hf'
          have hi' : i < fs.size := by simpa using hi
          have h1 := hg i fs[i] (by simp [hi'])
          have hx1 : xs[i]? = some (xs[i]'(by omega)) := List.getElem?_eq_getElem (by omega)
          rw [hx1] at h1
          simpa using ih _ _ _ _ _ hq h1) j f hj
        simpa using this
      · simp at h
    · simp at h

/-- A SLICE OF SUCH ELEMENTS, OPENED: its elements' cells. -/
theorem open_leaves {t e : TypeId} {n : Nat} {ls : List Leaf} {fuel : Nat} {cs : List Value} {x : DataW H × List MemPlace} (ht : P.underlying t = some (.slice e)) (hls : leaves P n e = some ls) (hk : P.cellsOf e = ls.length) (hne : 0 < ls.length)
    (h : DataW.trod enc P w base spare held fuel t cs = some x) :
    ∃ (a : Option Addr) (cap : Nat) (xs : List (List Value)), cs = [.slice a xs.length cap] ∧ xs.length ≤ cap ∧ cap ≤ maxLen ∧ Row id ls.length w.heap.size w a xs ∧ (∀ x ∈ xs, LeavesOk ls x) ∧ (a = none → cap = 0) := by
  rcases Go.Deep.open_slice ht h with ⟨rfl, _⟩ | ⟨a, len, cap, m, q, D, Pl, rfl, hb, hl, hm, hmm, _, hi⟩
  · exact ⟨none, 0, [], rfl, by simp, by simp [maxLen], Row.nil, by simp, fun _ => rfl⟩
  · have hlm : len ≤ m := by subst hmm; split <;> omega
    obtain ⟨f, hf⟩ := Go.Deep.choose_lt (n := len) (p := fun i cs' => w.cells? base (a.add (i * P.cellsOf e)) (P.cellsOf e) = some cs' ∧ DataW.trod enc P w base spare held q e cs' = some (D i, Pl i)) (fun i hil => hi i (by omega))
    refine ⟨some a, cap, (List.range len).map f, by simp, by simpa using hl, hm, ?_, ?_, by simp⟩
    · intro i y hy
      have hil : i < len := by
        have := (List.getElem?_eq_some_iff.1 hy).1
        simpa using this
      simp [hil] at hy
      subst hy
      have hsp : a.spot = none := by
        obtain ⟨hc, ht'⟩ := hf 0 (by omega)
        obtain ⟨_, hcl, hat⟩ := World.cells?_some hc
        have h1 := hat 0 (by omega)
        have hv : (f 0)[0]? = some ((f 0)[0]'(by omega)) := List.getElem?_eq_getElem (by omega)
        rw [hv] at h1
        have := World.cell?_spot h1
        simpa [Addr.add] using this
      obtain ⟨ab, ao, asp⟩ := a
      simp at hsp
      subst hsp
      obtain ⟨hc, ht'⟩ := hf i hil
      obtain ⟨_, hcl, hat⟩ := World.cells?_some hc
      have hat' : ∀ j, j < ls.length → w.cell? ⟨ab, ao + i * ls.length + j, none⟩ = (f i)[j]? := by
        intro j hj
        have h1 := hat j (by omega)
        rw [Go.Deep.add_add, hk] at h1
        rw [← h1]
        congr 1
        unfold Addr.add
        split
        · rename_i h0
          have h3 : ao + i * ls.length + j = ao := by omega
          rw [h3]
        · simp [Nat.add_assoc]
      refine ⟨ab, ao, rfl, ?_, fun j v hj => ?_⟩
      · have h0 := hat' 0 hne
        have hv : (f i)[0]? = some ((f i)[0]'(by omega)) := List.getElem?_eq_getElem (by omega)
        rw [hv] at h0
        rcases Nat.lt_or_ge ab w.heap.size with h' | h'
        · exact h'
        · simp [World.cell?, Array.getElem?_eq_none h'] at h0
      · have hjl : j < (f i).length := (List.getElem?_eq_some_iff.1 hj).1
        rw [hat' j (by omega)]
        exact hj
    · intro y hy
      simp at hy
      obtain ⟨i, hil, rfl⟩ := hy
      obtain ⟨hc, ht'⟩ := hf i hil
      exact leaves_ok n _ _ _ _ _ hls ht'

theorem Row.of_map {α : Type} {enc : α → List Value} {k B : Nat} {w : World} {a : Option Addr} {ys : List α} (h : Row id k B w a (ys.map enc)) : Row enc k B w a ys := by
  intro i x hx
  exact h i (enc x) (by simp [hx])

theorem decode {α : Type} {enc : α → List Value} {wf : α → Prop} {ls : List Leaf} (hdec : ∀ cs, LeavesOk ls cs → ∃ x : α, cs = enc x ∧ wf x) : ∀ (xs : List (List Value)), (∀ x ∈ xs, LeavesOk ls x) →
    ∃ ys : List α, xs = ys.map enc ∧ ∀ y ∈ ys, wf y
  | [], _ => ⟨[], rfl, by simp⟩
  | c :: cs, h => by
    obtain ⟨y, rfl, hy⟩ := hdec c (h c (by simp))
    obtain ⟨ys, rfl, hys⟩ := decode hdec cs (fun x hx => h x (by simp [hx]))
    exact ⟨y :: ys, rfl, by simpa using ⟨hy, hys⟩⟩

/-- A slice that came in, opened to a list of plain things. -/
theorem open_typed {α : Type} {enc' : α → List Value} {wf : α → Prop} {ls : List Leaf} (hdec : ∀ cs, LeavesOk ls cs → ∃ x : α, cs = enc' x ∧ wf x) {t e : TypeId} {n : Nat} {fuel : Nat} {cs : List Value} {x : DataW H × List MemPlace}
    (ht : P.underlying t = some (.slice e)) (hls : leaves P n e = some ls) (hk : P.cellsOf e = ls.length) (hne : 0 < ls.length) (h : DataW.trod enc P w base spare held fuel t cs = some x) :
    ∃ (a : Option Addr) (cap : Nat) (ys : List α), cs = [.slice a ys.length cap] ∧ ys.length ≤ cap ∧ cap ≤ maxLen ∧ Row enc' ls.length w.heap.size w a ys ∧ (∀ y ∈ ys, wf y) ∧ (a = none → cap = 0) := by
  obtain ⟨a, cap, xs, rfl, h1, h2, h3, h4, h5⟩ := open_leaves ht hls hk hne h
  obtain ⟨ys, rfl, hys⟩ := decode hdec xs h4
  exact ⟨a, cap, ys, by simp, by simpa using h1, h2, h3.of_map, hys, h5⟩
end

/-! ### Regions that draw their order and only read or call: one walk of the text's order -/
/-- a world in which all that was there is as it was -/
structure Later (w : World) where
  val : World
  ok : Below w.heap.size w val
instance {w : World} : Nonempty (Later w) := ⟨⟨w, Below.refl _ _⟩⟩

theorem Later.cell {w : World} (g : Later w) {b o : Nat} (h : b < w.heap.size) : g.val.cell? ⟨b, o, none⟩ = w.cell? ⟨b, o, none⟩ := g.ok.cell (p := ⟨b, o, none⟩) h
theorem Later.some {w : World} (g : Later w) {b o : Nat} {v : Value} (h : w.cell? ⟨b, o, none⟩ = some v) : g.val.cell? ⟨b, o, none⟩ = some v := by
  rw [g.cell, h]
  rcases Nat.lt_or_ge b w.heap.size with h' | h'
  · exact h'
  · simp [World.cell?, Array.getElem?_eq_none h'] at h

theorem Later.region {P : Program} {id : Nat} {Q : Exit → Act → World → Prop} {a : Act} {w : World} {l : List Oper} (hm : P.follows .mixedOrders = true) (hB : Region.lexB .any l.toArray = true)
    (h : wpQuiet P l.toArray (fun w' => ∃ g : Later w, w' = g.val) (fun a' => ∀ g : Later w, Q .normal a' g.val) l a) : (Code.region id l.toArray true).wp P Q a w :=
  wp_region_quiet (C := fun w' => ∃ g : Later w, w' = g.val) hm hB ⟨⟨w.drew, (Below.refl _ _).drew⟩, rfl⟩ (by
    have e : (fun a' => ∀ w', (∃ g : Later w, w' = g.val) → Q .normal a' w') = (fun a' => ∀ g : Later w, Q .normal a' g.val) := by
      funext a'
      exact propext ⟨fun h g => h _ ⟨g, rfl⟩, fun h _ ⟨g, hg⟩ => hg ▸ h g⟩
    rw [e]
    simpa using h)

/-- a contract, met in such a region -/
theorem Later.call {P : Program} {f : FuncId} {args : Array Value} {w : World} {g : Later w} {v : Value}
    (h : Calls P f args g.val fun e w' => e = .returned v ∧ Kept g.val w') : Calls P f args g.val fun e w'' => e = .returned v ∧ ∃ g' : Later w, w'' = g'.val :=
  h.mono fun _ w'' ⟨he, hk⟩ => ⟨he, ⟨w'', Kept.drop g.ok hk⟩, rfl⟩
theorem Later.call_same {P : Program} {f : FuncId} {args : Array Value} {w : World} {g : Later w} {v : Value}
    (h : Calls P f args g.val fun e w' => e = .returned v ∧ g.val = w') : Calls P f args g.val fun e w'' => e = .returned v ∧ ∃ g' : Later w, w'' = g'.val :=
  h.mono fun _ _ ⟨he, hk⟩ => ⟨he, g, hk.symm⟩

end Bal

/-
  The structs of the trim statements as cells of memory. No program in sight.
-/
namespace Bal.Trim
open Go Go.RowKit

def Load.cells (x : Load) : List Value := [.int .i64 x.alo, .int .i64 x.ahi, .int .i64 x.wlo, .int .i64 x.whi]
theorem Load.row {B : Nat} {w : World} {a : Option Addr} {xs : List Load} (h : Row Load.cells 4 B w a xs) (i : Nat) (hi : i < xs.length) :
    ∃ b off, a = some ⟨b, off, none⟩ ∧ b < B ∧ w.cell? ⟨b, off + i * 4, none⟩ = some (.int .i64 xs[i].alo) ∧ w.cell? ⟨b, off + i * 4 + 1, none⟩ = some (.int .i64 xs[i].ahi) ∧ w.cell? ⟨b, off + i * 4 + 2, none⟩ = some (.int .i64 xs[i].wlo) ∧ w.cell? ⟨b, off + i * 4 + 3, none⟩ = some (.int .i64 xs[i].whi) := by
  obtain ⟨b, off, ha, hb, hc⟩ := h i xs[i] (by simp [hi])
  exact ⟨b, off, ha, hb, hc 0 _ rfl, hc 1 _ rfl, hc 2 _ rfl, hc 3 _ rfl⟩
theorem Load.of_leaves {cs : List Value} (h : LeavesOk [.int .i64, .int .i64, .int .i64, .int .i64] cs) : ∃ x : Load, cs = x.cells ∧ (Lit.int .i64 x.alo).wf = true ∧ (Lit.int .i64 x.ahi).wf = true ∧ (Lit.int .i64 x.wlo).wf = true ∧ (Lit.int .i64 x.whi).wf = true := by
  obtain ⟨hl, h⟩ := h
  match cs, hl with
  | [v0, v1, v2, v3], _ =>
    obtain ⟨_, e0, n0, rfl, w0⟩ := h 0 (.int .i64) rfl; simp at e0; subst e0
    obtain ⟨_, e1, n1, rfl, w1⟩ := h 1 (.int .i64) rfl; simp at e1; subst e1
    obtain ⟨_, e2, n2, rfl, w2⟩ := h 2 (.int .i64) rfl; simp at e2; subst e2
    obtain ⟨_, e3, n3, rfl, w3⟩ := h 3 (.int .i64) rfl; simp at e3; subst e3
    exact ⟨⟨n0, n1, n2, n3⟩, rfl, w0, w1, w2, w3⟩

def Limit.cells (x : Limit) : List Value := [.int .i64 x.a, .int .i64 x.b, .int .i64 x.c]
theorem Limit.row {B : Nat} {w : World} {a : Option Addr} {xs : List Limit} (h : Row Limit.cells 3 B w a xs) (i : Nat) (hi : i < xs.length) :
    ∃ b off, a = some ⟨b, off, none⟩ ∧ b < B ∧ w.cell? ⟨b, off + i * 3, none⟩ = some (.int .i64 xs[i].a) ∧ w.cell? ⟨b, off + i * 3 + 1, none⟩ = some (.int .i64 xs[i].b) ∧ w.cell? ⟨b, off + i * 3 + 2, none⟩ = some (.int .i64 xs[i].c) := by
  obtain ⟨b, off, ha, hb, hc⟩ := h i xs[i] (by simp [hi])
  exact ⟨b, off, ha, hb, hc 0 _ rfl, hc 1 _ rfl, hc 2 _ rfl⟩
theorem Limit.of_leaves {cs : List Value} (h : LeavesOk [.int .i64, .int .i64, .int .i64] cs) : ∃ x : Limit, cs = x.cells ∧ (Lit.int .i64 x.a).wf = true ∧ (Lit.int .i64 x.b).wf = true ∧ (Lit.int .i64 x.c).wf = true := by
  obtain ⟨hl, h⟩ := h
  match cs, hl with
  | [v0, v1, v2], _ =>
    obtain ⟨_, e0, n0, rfl, w0⟩ := h 0 (.int .i64) rfl; simp at e0; subst e0
    obtain ⟨_, e1, n1, rfl, w1⟩ := h 1 (.int .i64) rfl; simp at e1; subst e1
    obtain ⟨_, e2, n2, rfl, w2⟩ := h 2 (.int .i64) rfl; simp at e2; subst e2
    exact ⟨⟨n0, n1, n2⟩, rfl, w0, w1, w2⟩

def Frm.cells (x : Frm) : List Value := [.int .i64 x.pos, .int .i64 x.shear, .int .i64 x.bend]
theorem Frm.row {B : Nat} {w : World} {a : Option Addr} {xs : List Frm} (h : Row Frm.cells 3 B w a xs) (i : Nat) (hi : i < xs.length) :
    ∃ b off, a = some ⟨b, off, none⟩ ∧ b < B ∧ w.cell? ⟨b, off + i * 3, none⟩ = some (.int .i64 xs[i].pos) ∧ w.cell? ⟨b, off + i * 3 + 1, none⟩ = some (.int .i64 xs[i].shear) ∧ w.cell? ⟨b, off + i * 3 + 2, none⟩ = some (.int .i64 xs[i].bend) := by
  obtain ⟨b, off, ha, hb, hc⟩ := h i xs[i] (by simp [hi])
  exact ⟨b, off, ha, hb, hc 0 _ rfl, hc 1 _ rfl, hc 2 _ rfl⟩
theorem Frm.of_leaves {cs : List Value} (h : LeavesOk [.int .i64, .int .i64, .int .i64] cs) : ∃ x : Frm, cs = x.cells ∧ (Lit.int .i64 x.pos).wf = true ∧ (Lit.int .i64 x.shear).wf = true ∧ (Lit.int .i64 x.bend).wf = true := by
  obtain ⟨hl, h⟩ := h
  match cs, hl with
  | [v0, v1, v2], _ =>
    obtain ⟨_, e0, n0, rfl, w0⟩ := h 0 (.int .i64) rfl; simp at e0; subst e0
    obtain ⟨_, e1, n1, rfl, w1⟩ := h 1 (.int .i64) rfl; simp at e1; subst e1
    obtain ⟨_, e2, n2, rfl, w2⟩ := h 2 (.int .i64) rfl; simp at e2; subst e2
    exact ⟨⟨n0, n1, n2⟩, rfl, w0, w1, w2⟩

def Put.cells (x : Put) : List Value := [.int .i64 x.pos, .int .i64 x.wt]
theorem Put.row {B : Nat} {w : World} {a : Option Addr} {xs : List Put} (h : Row Put.cells 2 B w a xs) (i : Nat) (hi : i < xs.length) :
    ∃ b off, a = some ⟨b, off, none⟩ ∧ b < B ∧ w.cell? ⟨b, off + i * 2, none⟩ = some (.int .i64 xs[i].pos) ∧ w.cell? ⟨b, off + i * 2 + 1, none⟩ = some (.int .i64 xs[i].wt) := by
  obtain ⟨b, off, ha, hb, hc⟩ := h i xs[i] (by simp [hi])
  exact ⟨b, off, ha, hb, hc 0 _ rfl, hc 1 _ rfl⟩
theorem Put.of_leaves {cs : List Value} (h : LeavesOk [.int .i64, .int .i64] cs) : ∃ x : Put, cs = x.cells ∧ (Lit.int .i64 x.pos).wf = true ∧ (Lit.int .i64 x.wt).wf = true := by
  obtain ⟨hl, h⟩ := h
  match cs, hl with
  | [v0, v1], _ =>
    obtain ⟨_, e0, n0, rfl, w0⟩ := h 0 (.int .i64) rfl; simp at e0; subst e0
    obtain ⟨_, e1, n1, rfl, w1⟩ := h 1 (.int .i64) rfl; simp at e1; subst e1
    exact ⟨⟨n0, n1⟩, rfl, w0, w1⟩

def Hold.cells (x : Hold) : List Value := [.int .i64 x.pos, .int .i64 x.room]
theorem Hold.row {B : Nat} {w : World} {a : Option Addr} {xs : List Hold} (h : Row Hold.cells 2 B w a xs) (i : Nat) (hi : i < xs.length) :
    ∃ b off, a = some ⟨b, off, none⟩ ∧ b < B ∧ w.cell? ⟨b, off + i * 2, none⟩ = some (.int .i64 xs[i].pos) ∧ w.cell? ⟨b, off + i * 2 + 1, none⟩ = some (.int .i64 xs[i].room) := by
  obtain ⟨b, off, ha, hb, hc⟩ := h i xs[i] (by simp [hi])
  exact ⟨b, off, ha, hb, hc 0 _ rfl, hc 1 _ rfl⟩
theorem Hold.of_leaves {cs : List Value} (h : LeavesOk [.int .i64, .int .i64] cs) : ∃ x : Hold, cs = x.cells ∧ (Lit.int .i64 x.pos).wf = true ∧ (Lit.int .i64 x.room).wf = true := by
  obtain ⟨hl, h⟩ := h
  match cs, hl with
  | [v0, v1], _ =>
    obtain ⟨_, e0, n0, rfl, w0⟩ := h 0 (.int .i64) rfl; simp at e0; subst e0
    obtain ⟨_, e1, n1, rfl, w1⟩ := h 1 (.int .i64) rfl; simp at e1; subst e1
    exact ⟨⟨n0, n1⟩, rfl, w0, w1⟩

def Parcel.cells (x : Parcel) : List Value := [.int .i64 x.wt, .int .i64 x.cls]
theorem Parcel.row {B : Nat} {w : World} {a : Option Addr} {xs : List Parcel} (h : Row Parcel.cells 2 B w a xs) (i : Nat) (hi : i < xs.length) :
    ∃ b off, a = some ⟨b, off, none⟩ ∧ b < B ∧ w.cell? ⟨b, off + i * 2, none⟩ = some (.int .i64 xs[i].wt) ∧ w.cell? ⟨b, off + i * 2 + 1, none⟩ = some (.int .i64 xs[i].cls) := by
  obtain ⟨b, off, ha, hb, hc⟩ := h i xs[i] (by simp [hi])
  exact ⟨b, off, ha, hb, hc 0 _ rfl, hc 1 _ rfl⟩
theorem Parcel.of_leaves {cs : List Value} (h : LeavesOk [.int .i64, .int .i64] cs) : ∃ x : Parcel, cs = x.cells ∧ (Lit.int .i64 x.wt).wf = true ∧ (Lit.int .i64 x.cls).wf = true := by
  obtain ⟨hl, h⟩ := h
  match cs, hl with
  | [v0, v1], _ =>
    obtain ⟨_, e0, n0, rfl, w0⟩ := h 0 (.int .i64) rfl; simp at e0; subst e0
    obtain ⟨_, e1, n1, rfl, w1⟩ := h 1 (.int .i64) rfl; simp at e1; subst e1
    exact ⟨⟨n0, n1⟩, rfl, w0, w1⟩

def Rule.cells (x : Rule) : List Value := [.int .i64 x.a, .int .i64 x.b, .int .i64 x.apart]
theorem Rule.row {B : Nat} {w : World} {a : Option Addr} {xs : List Rule} (h : Row Rule.cells 3 B w a xs) (i : Nat) (hi : i < xs.length) :
    ∃ b off, a = some ⟨b, off, none⟩ ∧ b < B ∧ w.cell? ⟨b, off + i * 3, none⟩ = some (.int .i64 xs[i].a) ∧ w.cell? ⟨b, off + i * 3 + 1, none⟩ = some (.int .i64 xs[i].b) ∧ w.cell? ⟨b, off + i * 3 + 2, none⟩ = some (.int .i64 xs[i].apart) := by
  obtain ⟨b, off, ha, hb, hc⟩ := h i xs[i] (by simp [hi])
  exact ⟨b, off, ha, hb, hc 0 _ rfl, hc 1 _ rfl, hc 2 _ rfl⟩
theorem Rule.of_leaves {cs : List Value} (h : LeavesOk [.int .i64, .int .i64, .int .i64] cs) : ∃ x : Rule, cs = x.cells ∧ (Lit.int .i64 x.a).wf = true ∧ (Lit.int .i64 x.b).wf = true ∧ (Lit.int .i64 x.apart).wf = true := by
  obtain ⟨hl, h⟩ := h
  match cs, hl with
  | [v0, v1, v2], _ =>
    obtain ⟨_, e0, n0, rfl, w0⟩ := h 0 (.int .i64) rfl; simp at e0; subst e0
    obtain ⟨_, e1, n1, rfl, w1⟩ := h 1 (.int .i64) rfl; simp at e1; subst e1
    obtain ⟨_, e2, n2, rfl, w2⟩ := h 2 (.int .i64) rfl; simp at e2; subst e2
    exact ⟨⟨n0, n1, n2⟩, rfl, w0, w1, w2⟩

end Bal.Trim

/-
  What the checks of loads, limits and frames compute, in the program and in the reference.
-/
namespace Go.Proofs.Ytlloijkmpmfapaa
open Go.RowKit Bal Bal.Trim
set_option linter.unusedVariables false
set_option linter.unusedSimpArgs false
set_option maxHeartbeats 400000

theorem f_ranged (n lo hi : Int) (w : World) :
    Calls Try.prog 68 #[.int .i64 n, .int .i64 lo, .int .i64 hi] w fun e w' => e = .returned (.bool (inB n lo hi)) ∧ w = w' := by
  go_enter Try.func68, Try.ntmps68
  go_wp2
  all_goals (go_ret; refine ⟨?_, rfl⟩; simp [inB, *])
  all_goals omega

theorem r_within (n lo hi : Int) (w : World) :
    Calls Try.prog 70 #[.int .i64 n, .int .i64 lo, .int .i64 hi] w fun e w' => e = .returned (.bool (inB n lo hi)) ∧ w = w' := by
  go_enter Try.func70, Try.ntmps70
  go_wp2
  all_goals (go_ret; refine ⟨?_, rfl⟩; simp [inB, *])
  all_goals omega

theorem f_place (n : Int) (w : World) :
    Calls Try.prog 67 #[.int .i64 n] w fun e w' => e = .returned (.bool (inB n (-20000) 20000)) ∧ w = w' := by
  go_enter Try.func67, Try.ntmps67
  go_wp2_with (go_at_call 68; refine (f_ranged _ _ _ _).mono ?_; rintro e w1 ⟨rfl, rfl⟩)
  go_ret
  exact ⟨rfl, rfl⟩

theorem r_place (n : Int) (w : World) :
    Calls Try.prog 69 #[.int .i64 n] w fun e w' => e = .returned (.bool (inB n (-20000) 20000)) ∧ w = w' := by
  go_enter Try.func69, Try.ntmps69
  go_wp2_with (go_at_call 70; refine (r_within _ _ _ _).mono ?_; rintro e w1 ⟨rfl, rfl⟩)
  go_ret
  exact ⟨rfl, rfl⟩

theorem f_span (lo hi m : Int) (w : World) (h0 : 0 ≤ m) (h1 : m ≤ 1000000000000000000) :
    Calls Try.prog 60 #[.agg #[.int .i64 lo, .int .i64 hi], .int .i64 m] w fun e w' => e = .returned (.bool (spanB lo hi m)) ∧ Kept w w' := by
  go_enter Try.func60, Try.ntmps60
  go_wp2
  all_goals (go_ret; refine ⟨?_, (Below.refl _ _).alloc (Nat.le_refl _) _⟩; simp [spanB, *])
  all_goals omega

theorem r_spanned (lo hi m : Int) (w : World) (h0 : 0 ≤ m) (h1 : m ≤ 1000000000000000000) :
    Calls Try.prog 61 #[.agg #[.int .i64 lo, .int .i64 hi], .int .i64 m] w fun e w' => e = .returned (.bool (spanB lo hi m)) ∧ Kept w w' := by
  go_enter Try.func61, Try.ntmps61
  go_wp2
  all_goals (go_ret; refine ⟨?_, (Below.refl _ _).alloc (Nat.le_refl _) _⟩; simp [spanB, *])
  all_goals omega

theorem f_load (x : Load) (w : World) :
    Calls Try.prog 59 #[.agg #[.int .i64 x.alo, .int .i64 x.ahi, .int .i64 x.wlo, .int .i64 x.whi]] w fun e w' => e = .returned (.bool (loadB x)) ∧ Kept w w' := by
  go_enter Try.func59, Try.ntmps59
  go_wp2_with (first | (go_at_call 60; refine (f_span _ _ _ _ (by omega) (by omega)).mono ?_; rintro e w1 ⟨rfl, hb1⟩; obtain ⟨hc1, hf1⟩ := bcell hb1))
  all_goals (go_ret; refine ⟨?_, by (repeat (first | exact Below.refl _ _ | assumption | (refine Kept.drop ?_ (by assumption)) | (refine Kept.alloc ?_ _) | (refine Below.setCell ?_ (by first | exact Nat.le_refl _ | (simp; done) | (simp; omega) | exact Below.size (by assumption)) _) | (refine Below.drew ?_)))⟩; simp [loadB, *])

theorem f_limited (x : Limit) (w : World) :
    Calls Try.prog 63 #[.agg #[.int .i64 x.a, .int .i64 x.b, .int .i64 x.c]] w fun e w' => e = .returned (.bool (limitB x)) ∧ Kept w w' := by
  go_enter Try.func63, Try.ntmps63
  go_wp2_with (first | (go_at_call 68; refine (f_ranged _ _ _ _).mono ?_; rintro e w1 ⟨rfl, rfl⟩))
  all_goals (go_ret; refine ⟨?_, by (repeat (first | exact Below.refl _ _ | assumption | (refine Kept.drop ?_ (by assumption)) | (refine Kept.alloc ?_ _) | (refine Below.setCell ?_ (by first | exact Nat.le_refl _ | (simp; done) | (simp; omega) | exact Below.size (by assumption)) _) | (refine Below.drew ?_)))⟩; simp [limitB, *])

theorem f_frame (x : Frm) (w : World) :
    Calls Try.prog 66 #[.agg #[.int .i64 x.pos, .int .i64 x.shear, .int .i64 x.bend]] w fun e w' => e = .returned (.bool (frameB x)) ∧ Kept w w' := by
  go_enter Try.func66, Try.ntmps66
  go_wp2_with (first | (go_at_call 67; refine (f_place _ _).mono ?_; rintro e w1 ⟨rfl, rfl⟩) | (go_at_call 68; refine (f_ranged _ _ _ _).mono ?_; rintro e w1 ⟨rfl, rfl⟩))
  all_goals (go_ret; refine ⟨?_, by (repeat (first | exact Below.refl _ _ | assumption | (refine Kept.drop ?_ (by assumption)) | (refine Kept.alloc ?_ _) | (refine Below.setCell ?_ (by first | exact Nat.le_refl _ | (simp; done) | (simp; omega) | exact Below.size (by assumption)) _) | (refine Below.drew ?_)))⟩; simp [frameB, *])

theorem r_limit (x : Limit) (w : World) :
    Calls Try.prog 64 #[.agg #[.int .i64 x.a, .int .i64 x.b, .int .i64 x.c]] w fun e w' => e = .returned (.bool (limitB x)) ∧ Kept w w' := by
  go_enter Try.func64, Try.ntmps64
  go_wp2_with (first | (go_at_call 70; refine (r_within _ _ _ _).mono ?_; rintro e w1 ⟨rfl, rfl⟩))
  all_goals (go_ret; refine ⟨?_, by (repeat (first | exact Below.refl _ _ | assumption | (refine Kept.drop ?_ (by assumption)) | (refine Kept.alloc ?_ _) | (refine Below.setCell ?_ (by first | exact Nat.le_refl _ | (simp; done) | (simp; omega) | exact Below.size (by assumption)) _) | (refine Below.drew ?_)))⟩; simp [limitB, *])

theorem f_checked_Load (a : Option Addr) (cap : Nat) (xs : List Load) (w : World) (hx : Row Load.cells 4 w.heap.size w a xs) (hc : xs.length ≤ cap) (hM : cap ≤ maxLen) :
    Calls Try.prog 58 #[.slice a xs.length cap, .int .i64 40, .func (.func 59) #[] #[], .int .i64 40] w
      fun e w' => e = .returned (.int .i64 (checkList loadB 40 40 xs)) ∧ Kept w w' := by
  unfold maxLen at hM
  by_cases hm : 40 < xs.length
  · rw [checkList_many hm]
    go_enter Try.func58, Try.ntmps58
    go_wp2
    go_ret
    exact ⟨rfl, Below.refl _ _⟩
  · go_enter Try.func58, Try.ntmps58
    go_wp2
    go_loopw [17] (fun i wr => Upto loadB xs w i wr) (fun i _ => xs.length - (intOf i).toNat)
    case atStart => exact ⟨0, Nat.zero_le _, rfl, by simp, Below.refl _ _⟩
    case round =>
      obtain ⟨k, hk, rfl, ha', hbel⟩ := hrel
      have ha := Lib.hid ha'
      clear ha'
      by_cases hlt : k < xs.length
      · obtain ⟨b, off, rfl, hb, h0, h1, h2, h3⟩ := Load.row (hx.later hbel (Nat.le_refl _)) k hlt
        cases hv : loadB xs[k]
        all_goals
          go_wp2_with (go_at_call 59; refine (f_load xs[k] _).mono ?_; rintro e w1 ⟨rfl, hb1⟩)
        · go_ret
          exact ⟨ret_int (checkList_bad hm k hlt hv).symm, by (repeat (first | exact Below.refl _ _ | assumption | (refine Kept.drop ?_ (by assumption)) | (refine Kept.alloc ?_ _) | (refine Below.setCell ?_ (by first | exact Nat.le_refl _ | (simp; done) | (simp; omega) | exact Below.size (by assumption)) _) | (refine Below.drew ?_)))⟩
        · go_round
          case rel => exact ⟨k + 1, by omega, by go_num, take_all hlt ha.out hv, by (repeat (first | exact Below.refl _ _ | assumption | (refine Kept.drop ?_ (by assumption)) | (refine Kept.alloc ?_ _) | (refine Below.setCell ?_ (by first | exact Nat.le_refl _ | (simp; done) | (simp; omega) | exact Below.size (by assumption)) _) | (refine Below.drew ?_)))⟩
          case measure => simp [intOf]; omega
      · go_wp2
        go_ret
        exact ⟨ret_int (checkList_ok hm (by rw [← ha.out, List.take_of_length_le (by omega)])).symm, hbel⟩

theorem f_checked_Limit (a : Option Addr) (cap : Nat) (xs : List Limit) (w : World) (hx : Row Limit.cells 3 w.heap.size w a xs) (hc : xs.length ≤ cap) (hM : cap ≤ maxLen) :
    Calls Try.prog 62 #[.slice a xs.length cap, .int .i64 12, .func (.func 63) #[] #[], .int .i64 41] w
      fun e w' => e = .returned (.int .i64 (checkList limitB 12 41 xs)) ∧ Kept w w' := by
  unfold maxLen at hM
  by_cases hm : 12 < xs.length
  · rw [checkList_many hm]
    go_enter Try.func62, Try.ntmps62
    go_wp2
    go_ret
    exact ⟨rfl, Below.refl _ _⟩
  · go_enter Try.func62, Try.ntmps62
    go_wp2
    go_loopw [17] (fun i wr => Upto limitB xs w i wr) (fun i _ => xs.length - (intOf i).toNat)
    case atStart => exact ⟨0, Nat.zero_le _, rfl, by simp, Below.refl _ _⟩
    case round =>
      obtain ⟨k, hk, rfl, ha', hbel⟩ := hrel
      have ha := Lib.hid ha'
      clear ha'
      by_cases hlt : k < xs.length
      · obtain ⟨b, off, rfl, hb, h0, h1, h2⟩ := Limit.row (hx.later hbel (Nat.le_refl _)) k hlt
        cases hv : limitB xs[k]
        all_goals
          go_wp2_with (go_at_call 63; refine (f_limited xs[k] _).mono ?_; rintro e w1 ⟨rfl, hb1⟩)
        · go_ret
          exact ⟨ret_int (checkList_bad hm k hlt hv).symm, by (repeat (first | exact Below.refl _ _ | assumption | (refine Kept.drop ?_ (by assumption)) | (refine Kept.alloc ?_ _) | (refine Below.setCell ?_ (by first | exact Nat.le_refl _ | (simp; done) | (simp; omega) | exact Below.size (by assumption)) _) | (refine Below.drew ?_)))⟩
        · go_round
          case rel => exact ⟨k + 1, by omega, by go_num, take_all hlt ha.out hv, by (repeat (first | exact Below.refl _ _ | assumption | (refine Kept.drop ?_ (by assumption)) | (refine Kept.alloc ?_ _) | (refine Below.setCell ?_ (by first | exact Nat.le_refl _ | (simp; done) | (simp; omega) | exact Below.size (by assumption)) _) | (refine Below.drew ?_)))⟩
          case measure => simp [intOf]; omega
      · go_wp2
        go_ret
        exact ⟨ret_int (checkList_ok hm (by rw [← ha.out, List.take_of_length_le (by omega)])).symm, hbel⟩

theorem f_checked_Frm (a : Option Addr) (cap : Nat) (xs : List Frm) (w : World) (hx : Row Frm.cells 3 w.heap.size w a xs) (hc : xs.length ≤ cap) (hM : cap ≤ maxLen) :
    Calls Try.prog 65 #[.slice a xs.length cap, .int .i64 12, .func (.func 66) #[] #[], .int .i64 42] w
      fun e w' => e = .returned (.int .i64 (checkList frameB 12 42 xs)) ∧ Kept w w' := by
  unfold maxLen at hM
  by_cases hm : 12 < xs.length
  · rw [checkList_many hm]
    go_enter Try.func65, Try.ntmps65
    go_wp2
    go_ret
    exact ⟨rfl, Below.refl _ _⟩
  · go_enter Try.func65, Try.ntmps65
    go_wp2
    go_loopw [17] (fun i wr => Upto frameB xs w i wr) (fun i _ => xs.length - (intOf i).toNat)
    case atStart => exact ⟨0, Nat.zero_le _, rfl, by simp, Below.refl _ _⟩
    case round =>
      obtain ⟨k, hk, rfl, ha', hbel⟩ := hrel
      have ha := Lib.hid ha'
      clear ha'
      by_cases hlt : k < xs.length
      · obtain ⟨b, off, rfl, hb, h0, h1, h2⟩ := Frm.row (hx.later hbel (Nat.le_refl _)) k hlt
        cases hv : frameB xs[k]
        all_goals
          go_wp2_with (go_at_call 66; refine (f_frame xs[k] _).mono ?_; rintro e w1 ⟨rfl, hb1⟩)
        · go_ret
          exact ⟨ret_int (checkList_bad hm k hlt hv).symm, by (repeat (first | exact Below.refl _ _ | assumption | (refine Kept.drop ?_ (by assumption)) | (refine Kept.alloc ?_ _) | (refine Below.setCell ?_ (by first | exact Nat.le_refl _ | (simp; done) | (simp; omega) | exact Below.size (by assumption)) _) | (refine Below.drew ?_)))⟩
        · go_round
          case rel => exact ⟨k + 1, by omega, by go_num, take_all hlt ha.out hv, by (repeat (first | exact Below.refl _ _ | assumption | (refine Kept.drop ?_ (by assumption)) | (refine Kept.alloc ?_ _) | (refine Below.setCell ?_ (by first | exact Nat.le_refl _ | (simp; done) | (simp; omega) | exact Below.size (by assumption)) _) | (refine Below.drew ?_)))⟩
          case measure => simp [intOf]; omega
      · go_wp2
        go_ret
        exact ⟨ret_int (checkList_ok hm (by rw [← ha.out, List.take_of_length_le (by omega)])).symm, hbel⟩

theorem f_CheckLoads (a : Option Addr) (cap : Nat) (xs : List Load) (w : World) (hx : Row Load.cells 4 w.heap.size w a xs) (hc : xs.length ≤ cap) (hM : cap ≤ maxLen) :
    Calls Try.prog 19 #[.slice a xs.length cap] w fun e w' => e = .returned (.int .i64 (checkLoads xs)) ∧ Kept w w' := by
  go_enter Try.func19, Try.ntmps19
  go_wp2_with (go_at_call 58; refine (f_checked_Load _ _ _ _ hx hc hM).mono ?_; rintro e w1 ⟨rfl, hb1⟩)
  go_ret
  exact ⟨rfl, hb1⟩

theorem f_CheckLimits (a : Option Addr) (cap : Nat) (xs : List Limit) (w : World) (hx : Row Limit.cells 3 w.heap.size w a xs) (hc : xs.length ≤ cap) (hM : cap ≤ maxLen) :
    Calls Try.prog 21 #[.slice a xs.length cap] w fun e w' => e = .returned (.int .i64 (checkLimits xs)) ∧ Kept w w' := by
  go_enter Try.func21, Try.ntmps21
  go_wp2_with (go_at_call 62; refine (f_checked_Limit _ _ _ _ hx hc hM).mono ?_; rintro e w1 ⟨rfl, hb1⟩)
  go_ret
  exact ⟨rfl, hb1⟩

theorem f_CheckFrames (a : Option Addr) (cap : Nat) (xs : List Frm) (w : World) (hx : Row Frm.cells 3 w.heap.size w a xs) (hc : xs.length ≤ cap) (hM : cap ≤ maxLen) :
    Calls Try.prog 23 #[.slice a xs.length cap] w fun e w' => e = .returned (.int .i64 (checkFrames xs)) ∧ Kept w w' := by
  go_enter Try.func23, Try.ntmps23
  go_wp2_with (go_at_call 65; refine (f_checked_Frm _ _ _ _ hx hc hM).mono ?_; rintro e w1 ⟨rfl, hb1⟩)
  go_ret
  exact ⟨rfl, hb1⟩

theorem r_CheckLoads (a : Option Addr) (cap : Nat) (xs : List Load) (w : World) (hx : Row Load.cells 4 w.heap.size w a xs) (hc : xs.length ≤ cap) (hM : cap ≤ maxLen) :
    Calls Try.prog 20 #[.slice a xs.length cap] w fun e w' => e = .returned (.int .i64 (checkLoads xs)) ∧ Kept w w' := by
  unfold maxLen at hM
  unfold checkLoads
  by_cases hm : 40 < xs.length
  · rw [checkList_many hm]
    go_enter Try.func20, Try.ntmps20
    go_wp2
    go_ret
    exact ⟨rfl, Below.refl _ _⟩
  · go_enter Try.func20, Try.ntmps20
    go_wp2
    go_loopw [3] (fun i wr => Upto loadB xs w i wr) (fun i _ => xs.length - (intOf i).toNat)
    case atStart => exact ⟨0, Nat.zero_le _, rfl, by simp, Below.refl _ _⟩
    case round =>
      obtain ⟨k, hk, rfl, ha', hbel⟩ := hrel
      have ha := Lib.hid ha'
      clear ha'
      by_cases hlt : k < xs.length
      · obtain ⟨b, off, rfl, hb, h0, h1, h2, h3⟩ := Load.row (hx.later hbel (Nat.le_refl _)) k hlt
        cases c1 : spanB xs[k].alo xs[k].ahi 20000 <;> cases c2 : spanB xs[k].wlo xs[k].whi 1073741824
        all_goals
          go_wp2_with (first | (go_at_call 61; refine (r_spanned _ _ _ _ (by omega) (by omega)).mono ?_; rintro e w1 ⟨rfl, hb1⟩; obtain ⟨hc1, hf1⟩ := bcell hb1))
        all_goals first
          | (go_ret; refine ⟨ret_int (checkList_bad hm k hlt ?_).symm, ?_⟩; (focus (simp [loadB, *])); (repeat (first | exact Below.refl _ _ | assumption | (refine Kept.drop ?_ (by assumption)) | (refine Kept.alloc ?_ _) | (refine Below.setCell ?_ (by first | exact Nat.le_refl _ | (simp; done) | (simp; omega) | exact Below.size (by assumption)) _) | (refine Below.drew ?_))))
          | (go_round; (case rel => (refine ⟨k + 1, by omega, by go_num, take_all hlt ha.out ?_, ?_⟩; (focus (simp [loadB, *])); (repeat (first | exact Below.refl _ _ | assumption | (refine Kept.drop ?_ (by assumption)) | (refine Kept.alloc ?_ _) | (refine Below.setCell ?_ (by first | exact Nat.le_refl _ | (simp; done) | (simp; omega) | exact Below.size (by assumption)) _) | (refine Below.drew ?_))))); (case measure => simp [intOf]; omega))
      · go_wp2
        go_ret
        exact ⟨ret_int (checkList_ok hm (by rw [← ha.out, List.take_of_length_le (by omega)])).symm, hbel⟩

theorem r_CheckLimits (a : Option Addr) (cap : Nat) (xs : List Limit) (w : World) (hx : Row Limit.cells 3 w.heap.size w a xs) (hc : xs.length ≤ cap) (hM : cap ≤ maxLen) :
    Calls Try.prog 22 #[.slice a xs.length cap] w fun e w' => e = .returned (.int .i64 (checkLimits xs)) ∧ Kept w w' := by
  unfold maxLen at hM
  unfold checkLimits
  by_cases hm : 12 < xs.length
  · rw [checkList_many hm]
    go_enter Try.func22, Try.ntmps22
    go_wp2
    go_ret
    exact ⟨rfl, Below.refl _ _⟩
  · go_enter Try.func22, Try.ntmps22
    go_wp2
    go_loopw [3] (fun i wr => Upto limitB xs w i wr) (fun i _ => xs.length - (intOf i).toNat)
    case atStart => exact ⟨0, Nat.zero_le _, rfl, by simp, Below.refl _ _⟩
    case round =>
      obtain ⟨k, hk, rfl, ha', hbel⟩ := hrel
      have ha := Lib.hid ha'
      clear ha'
      by_cases hlt : k < xs.length
      · obtain ⟨b, off, rfl, hb, h0, h1, h2⟩ := Limit.row (hx.later hbel (Nat.le_refl _)) k hlt
        cases c1 : limitB xs[k]
        all_goals
          go_wp2_with (first | (go_at_call 64; refine (r_limit xs[k] _).mono ?_; rintro e w1 ⟨rfl, hb1⟩; obtain ⟨hc1, hf1⟩ := bcell hb1))
        all_goals first
          | (go_ret; refine ⟨ret_int (checkList_bad hm k hlt ?_).symm, ?_⟩; (focus (simp [c1, *])); (repeat (first | exact Below.refl _ _ | assumption | (refine Kept.drop ?_ (by assumption)) | (refine Kept.alloc ?_ _) | (refine Below.setCell ?_ (by first | exact Nat.le_refl _ | (simp; done) | (simp; omega) | exact Below.size (by assumption)) _) | (refine Below.drew ?_))))
          | (go_round; (case rel => (refine ⟨k + 1, by omega, by go_num, take_all hlt ha.out ?_, ?_⟩; (focus (simp [c1, *])); (repeat (first | exact Below.refl _ _ | assumption | (refine Kept.drop ?_ (by assumption)) | (refine Kept.alloc ?_ _) | (refine Below.setCell ?_ (by first | exact Nat.le_refl _ | (simp; done) | (simp; omega) | exact Below.size (by assumption)) _) | (refine Below.drew ?_))))); (case measure => simp [intOf]; omega))
      · go_wp2
        go_ret
        exact ⟨ret_int (checkList_ok hm (by rw [← ha.out, List.take_of_length_le (by omega)])).symm, hbel⟩

theorem r_CheckFrames (a : Option Addr) (cap : Nat) (xs : List Frm) (w : World) (hx : Row Frm.cells 3 w.heap.size w a xs) (hc : xs.length ≤ cap) (hM : cap ≤ maxLen) :
    Calls Try.prog 24 #[.slice a xs.length cap] w fun e w' => e = .returned (.int .i64 (checkFrames xs)) ∧ Kept w w' := by
  unfold maxLen at hM
  unfold checkFrames
  by_cases hm : 12 < xs.length
  · rw [checkList_many hm]
    go_enter Try.func24, Try.ntmps24
    go_wp2
    go_ret
    exact ⟨rfl, Below.refl _ _⟩
  · go_enter Try.func24, Try.ntmps24
    go_wp2
    go_loopw [3] (fun i wr => Upto frameB xs w i wr) (fun i _ => xs.length - (intOf i).toNat)
    case atStart => exact ⟨0, Nat.zero_le _, rfl, by simp, Below.refl _ _⟩
    case round =>
      obtain ⟨k, hk, rfl, ha', hbel⟩ := hrel
      have ha := Lib.hid ha'
      clear ha'
      by_cases hlt : k < xs.length
      · obtain ⟨b, off, rfl, hb, h0, h1, h2⟩ := Frm.row (hx.later hbel (Nat.le_refl _)) k hlt
        cases c1 : inB xs[k].pos (-20000) 20000 <;> cases c2 : inB xs[k].shear 0 1000000000000 <;> cases c3 : inB xs[k].bend 0 10000000000000000
        all_goals
          go_wp2_with (first | (go_at_call 69; refine (r_place _ _).mono ?_; rintro e w1 ⟨rfl, rfl⟩) | (go_at_call 70; refine (r_within _ _ _ _).mono ?_; rintro e w1 ⟨rfl, rfl⟩))
        all_goals first
          | (go_ret; refine ⟨ret_int (checkList_bad hm k hlt ?_).symm, ?_⟩; (focus (simp [frameB, *])); (repeat (first | exact Below.refl _ _ | assumption | (refine Kept.drop ?_ (by assumption)) | (refine Kept.alloc ?_ _) | (refine Below.setCell ?_ (by first | exact Nat.le_refl _ | (simp; done) | (simp; omega) | exact Below.size (by assumption)) _) | (refine Below.drew ?_))))
          | (go_round; (case rel => (refine ⟨k + 1, by omega, by go_num, take_all hlt ha.out ?_, ?_⟩; (focus (simp [frameB, *])); (repeat (first | exact Below.refl _ _ | assumption | (refine Kept.drop ?_ (by assumption)) | (refine Kept.alloc ?_ _) | (refine Below.setCell ?_ (by first | exact Nat.le_refl _ | (simp; done) | (simp; omega) | exact Below.size (by assumption)) _) | (refine Below.drew ?_))))); (case measure => simp [intOf]; omega))
      · go_wp2
        go_ret
        exact ⟨ret_int (checkList_ok hm (by rw [← ha.out, List.take_of_length_le (by omega)])).symm, hbel⟩

theorem r_great (a b c d : Int) (w : World) :
    Calls Try.prog 18 #[.int .i64 a, .int .i64 b, .int .i64 c, .int .i64 d] w fun e w' => e = .returned (.bool (great a b c d)) ∧ w = w' := by
  go_enter Try.func18, Try.ntmps18
  go_wp2
  all_goals (go_ret; refine ⟨?_, rfl⟩; simp [great, *])
  all_goals omega

end Go.Proofs.Ytlloijkmpmfapaa

/-
  Regions that draw their order: first operations that only read or call (calls may make memory), then operations in one forced order (stores): one walk in the text's order. No program in sight.
-/
namespace Bal
open Go Go.RowKit

theorem Blk.new' {w : World} {n : Nat} {arr : Array Value} {t : TypeId} (h : n = w.heap.size) : Blk (w.alloc (.cells arr t)) n arr t := h ▸ Blk.new
/-- the world of a walk, by what is known of it alone -/
theorem at_world {P : Program} {c : Code} {Q : Exit → Act → World → Prop} {a : Act} {S : World → Prop} {W : World} (h : S W) (k : ∀ W, S W → c.wp P Q a W) : c.wp P Q a W := k W h
theorem Blk.later {w : World} {b : Nat} {arr : Array Value} {t : TypeId} (h : Blk w b arr t) (g : Later w) : Blk g.val b arr t := h.keep g.ok
theorem Blk.cast {w : World} {b : Nat} {arr arr' : Array Value} {t : TypeId} (h : Blk w b arr t) (e : arr = arr') : Blk w b arr' t := e ▸ h
/-- a block of the call's own, behind a contract -/
theorem Blk.thru {w w' : World} {b : Nat} {arr : Array Value} {t : TypeId} {G : Prop} (h : Blk w b arr t) (hb : Kept w w') (k : Blk w' b arr t → G) : G := k (h.keep hb)

/-! ### Facts on worlds and blocks, each by one tactic that is laid here once -/
theorem kpt {w w' : World} (h : Kept w w' := by (repeat (first | with_reducible exact Below.refl _ _ | with_reducible assumption | with_reducible refine Kept.drop ?_ (by with_reducible assumption) | with_reducible refine Kept.alloc ?_ _ | ((with_reducible refine Below.setCell ?_ ?_ _); rotate_left 1; (focus (first | exact Nat.le_refl _ | (simp; done) | (simp; omega) | exact Below.size (by with_reducible assumption) | (refine Kept.size ?_; (repeat (first | with_reducible exact Below.refl _ _ | with_reducible assumption | with_reducible refine Kept.drop ?_ (by with_reducible assumption) | with_reducible refine Kept.alloc ?_ _ | with_reducible refine Below.drew ?_)))))) | with_reducible refine Below.drew ?_))) : Kept w w' := h
theorem blk {w : World} {b : Nat} {arr : Array Value} {t : TypeId} (h : Blk w b arr t := by (repeat (first | with_reducible assumption | ((with_reducible refine Blk.new' ?_); first | with_reducible rfl | (simp; done) | (simp [World.drew]; done)) | with_reducible refine Blk.alloc ?_ _ | ((with_reducible refine Blk.set (arr := ?_) ?_ _ _); rotate_left 1) | ((with_reducible refine Blk.other ?_ ?_ _); rotate_left 1; (focus (first | (simp; done) | (simp; omega) | (refine Nat.ne_of_gt (Blk.lt (arr := ?_) (t := ?_) ?_); rotate_left 2; focus (repeat (first | with_reducible assumption | ((with_reducible refine Blk.new' ?_); first | with_reducible rfl | (simp; done) | (simp [World.drew]; done)) | with_reducible refine Blk.alloc ?_ _ | with_reducible refine Blk.keep ?_ (by with_reducible assumption) | with_reducible refine Blk.drew ?_))) | (refine Nat.ne_of_lt (Blk.lt (arr := ?_) (t := ?_) ?_); rotate_left 2; focus (repeat (first | with_reducible assumption | ((with_reducible refine Blk.new' ?_); first | with_reducible rfl | (simp; done) | (simp [World.drew]; done)) | with_reducible refine Blk.alloc ?_ _ | with_reducible refine Blk.keep ?_ (by with_reducible assumption) | with_reducible refine Blk.drew ?_)))))) | with_reducible refine Blk.keep ?_ (by with_reducible assumption) | with_reducible refine Blk.drew ?_))) : Blk w b arr t := h
theorem blkc {w : World} {b : Nat} {arr : Array Value} {t : TypeId} (h : Blk w b arr t := by (refine Blk.cast (arr := ?_) ?_ ?_; rotate_left 1; (focus (repeat (first | with_reducible assumption | ((with_reducible refine Blk.new' ?_); first | with_reducible rfl | (simp; done) | (simp [World.drew]; done)) | with_reducible refine Blk.alloc ?_ _ | ((with_reducible refine Blk.set (arr := ?_) ?_ _ _); rotate_left 1) | ((with_reducible refine Blk.other ?_ ?_ _); rotate_left 1; (focus (first | (simp; done) | (simp; omega) | (refine Nat.ne_of_gt (Blk.lt (arr := ?_) (t := ?_) ?_); rotate_left 2; focus (repeat (first | with_reducible assumption | ((with_reducible refine Blk.new' ?_); first | with_reducible rfl | (simp; done) | (simp [World.drew]; done)) | with_reducible refine Blk.alloc ?_ _ | with_reducible refine Blk.keep ?_ (by with_reducible assumption) | with_reducible refine Blk.drew ?_))) | (refine Nat.ne_of_lt (Blk.lt (arr := ?_) (t := ?_) ?_); rotate_left 2; focus (repeat (first | with_reducible assumption | ((with_reducible refine Blk.new' ?_); first | with_reducible rfl | (simp; done) | (simp [World.drew]; done)) | with_reducible refine Blk.alloc ?_ _ | with_reducible refine Blk.keep ?_ (by with_reducible assumption) | with_reducible refine Blk.drew ?_)))))) | with_reducible refine Blk.keep ?_ (by with_reducible assumption) | with_reducible refine Blk.drew ?_))); (first | rfl | (simp; done)))) : Blk w b arr t := h

section
variable {P : Program} {ops : Array Oper} {md : Region.Mode} {C : World → Prop}

/-- whatever order is picked of the first n operations -/
def wpHeadQ (P : Program) (md : Region.Mode) (ops : Array Oper) (C : World → Prop) (n : Nat) (L : Array Bool → Act → Prop) : Nat → Array Bool → Act → Prop
  | 0, listed, a => L listed a
  | f + 1, listed, a =>
    Region.ready md ops listed ≠ [] ∧ ∀ i ∈ Region.ready md ops listed, i < n ∧ qOp P ops C i (wpHeadQ P md ops C n L f (listed.setIfInBounds i true)) a

theorem wpAny_of_headQ {n g : Nat} {L : Array Bool → Act → Prop} {Q' : Exit → Act → World → Prop} (hL : ∀ listed a w, C w → L listed a → wpAny P md ops Q' g listed a w) :
    ∀ (f : Nat) (listed : Array Bool) (a : Act) (w : World), C w → wpHeadQ P md ops C n L f listed a → wpAny P md ops Q' (f + g) listed a w
  | 0, listed, a, w, hw, h => by rw [Nat.zero_add]; exact hL _ _ _ hw h
  | f + 1, listed, a, w, hw, h => by
    rw [show f + 1 + g = (f + g) + 1 by omega]
    exact ⟨fun h0 => absurd h0 h.1, fun i hi => wpOp_of_qOp hw (fun a' w' hw' h' => wpAny_of_headQ hL f _ a' w' hw' h') (h.2 i hi).2⟩

theorem wpHeadQ_first {n i : Nat} {oi : Oper} {v : Value} {L : Array Bool → Act → Prop} (hi : ops[i]? = some oi) (hsel : ∀ (j : Nat) (o : Oper) cs b, ops[j]? = some o → o.op ≠ .select cs b)
    (hs : Region.sinkB md ops n = true) (hc : Region.chainB md ops n = true) (hn : n < ops.size) (hin : i < n)
    (hdone : ∀ listed a, L listed a → ∀ j ∈ Region.ready md ops listed, n ≤ j) :
    ∀ (f : Nat) (listed : Array Bool) (a : Act), HeadInv md ops n listed →
      (∀ j oj, ops[j]? = some oj → j ≠ i → listed.getD j true = false → (∀ e ∈ oj.after, Region.binds md e = true → e.on ≠ i) → oi.apart ops oj = true) →
      i ∈ Region.ready md ops listed → YieldsIn P ops C oi v a →
      wpHeadQ P md ops C n L f (listed.setIfInBounds i true) (a.put oi.dst v) → wpHeadQ P md ops C n L (f + 1) listed a := by
  intro f
  induction f with
  | zero =>
    intro listed a inv _ hr hy H
    have hun := (mem_ready.1 hr).1
    refine ⟨fun h => (by rw [h] at hr; cases hr), fun j hj => ?_⟩
    have hjn : j < n := by
      rcases Nat.lt_or_ge j n with h | h
      · exact h
      · exact absurd hj (tail_waits hs hc hn inv _ i rfl hin hun j h)
    refine ⟨hjn, ?_⟩
    by_cases hji : j = i
    · subst hji; exact hy.qOp hi H
    · have := hdone _ _ H j (ready_mono hj hji)
      omega
  | succ f ih =>
    intro listed a inv hfree hr hy H
    have hun := (mem_ready.1 hr).1
    refine ⟨fun h => (by rw [h] at hr; cases hr), fun j hj => ?_⟩
    have hjn : j < n := by
      rcases Nat.lt_or_ge j n with h | h
      · exact h
      · exact absurd hj (tail_waits hs hc hn inv _ i rfl hin hun j h)
    refine ⟨hjn, ?_⟩
    by_cases hji : j = i
    · subst hji; exact hy.qOp hi H
    · have h1 := (H.2 j (ready_mono hj hji)).2
      obtain ⟨hjun, oj, hoj, hall⟩ := mem_ready.1 hj
      have hnot : ∀ e ∈ oj.after, Region.binds md e = true → e.on ≠ i := fun e he hb heq => by
        have h1 := hall e he hb
        rw [heq, getD_both hun] at h1
        cases h1
      have h2 := qOp_put hoj (hfree j oj hoj hji hjun hnot) (fun cs b => hsel i oi cs b hi) (fun cs b => hsel j oj cs b hoj) hy h1
      have hfree' : ∀ k ok, ops[k]? = some ok → k ≠ i → (listed.setIfInBounds j true).getD k true = false →
          (∀ e ∈ ok.after, Region.binds md e = true → e.on ≠ i) → oi.apart ops ok = true := fun k ok hk hki hun hno => by
        refine hfree k ok hk hki ?_ hno
        by_cases hjk : j = k
        · subst hjk; exact hjun
        · rw [getD_set_ne true hjk] at hun; exact hun
      refine qOp_mono (fun a' h3 => ih (listed.setIfInBounds j true) a' (inv.set hj hjn) hfree' (ready_mono hr (Ne.symm hji)) h3.1 ?_) h2
      rw [Array.setIfInBounds_comm _ _ hji]
      exact h3.2

theorem wpHeadQ_lex {n g : Nat} {Lq : Act → Prop} (hsel : Region.noSelect ops = true) (hs : Region.sinkB md ops n = true) (hc : Region.chainB md ops n = true) (hn : n < ops.size) :
    ∀ (l : List Oper) (k : Nat) (listed : Array Bool) (a : Act), (∀ j, j < l.length → l[j]? = ops[k + j]?) → k + l.length = n → HeadInv md ops n listed →
    Region.lexHead md ops g l.length k listed = true → wpQuiet P ops C Lq l a →
    wpHeadQ P md ops C n (fun listed' a' => Region.seqB md ops g n listed' = true ∧ Lq a') l.length listed a
  | [], k, listed, a, _, hk, _, hB, h => by
    have : k = n := by simpa using hk
    subst this
    exact ⟨by simpa [Region.lexHead] using hB, h⟩
  | o :: l, k, listed, a, hl, hk, inv, hB, h => by
    have h0 : ops[k]? = some o := by simpa using (hl 0 (by simp)).symm
    simp only [List.length_cons, Region.lexHead, Bool.and_eq_true] at hB
    obtain ⟨⟨hr, hf⟩, hB'⟩ := hB
    have hkn : k < n := by simp only [List.length_cons] at hk; omega
    have hr' : k ∈ Region.ready md ops listed := by simpa using hr
    have hst : qOp P ops C k (wpQuiet P ops C Lq l) a := by unfold qOp; simp only [h0]; exact h
    obtain ⟨v, hy, hK⟩ := yieldsIn_of_qOp h0 hst
    exact wpHeadQ_first h0 (Region.noSelect_spec hsel) hs hc hn hkn (fun listed' a' hL => seqB_ready hL.1) l.length listed a inv (Region.free_spec h0 hf) hr' hy
      (wpHeadQ_lex hsel hs hc hn l (k + 1) _ _ (fun j hj => by have := hl (j + 1) (by simp; omega); simpa [Nat.add_assoc, Nat.add_comm 1 j] using this) (by simp only [List.length_cons] at hk; omega) (inv.set hr' hkn) hB' hK)

/-- THE THEOREM: the first n operations quiet in the class, the rest in one forced order, from every world of the class. -/
theorem Later.tail {P : Program} {id : Nat} {Q : Exit → Act → World → Prop} {a : Act} {w : World} {l : List Oper} (n : Nat) (hm : P.follows .mixedOrders = true) (hB : Region.lexTailB .any l.toArray n = true)
    (h : wpQuiet P l.toArray (fun w' => ∃ g : Later w, w' = g.val) (fun a' => ∀ g : Later w, wpList P l.toArray Q (l.drop n) a' g.val) (l.take n) a) : (Code.region id l.toArray true).wp P Q a w := by
  simp only [Region.lexTailB, Bool.and_eq_true, decide_eq_true_eq] at hB
  obtain ⟨⟨⟨⟨hsel, hn⟩, hs⟩, hc⟩, hlex⟩ := hB
  have hn' : n < l.length := by simpa using hn
  have htl : (l.take n).length = n := by simp; omega
  have hdl : (l.drop n).length = l.toArray.size - n := by simp
  have inv0 : HeadInv .any l.toArray n (Array.replicate l.toArray.size false) :=
    ⟨by simp, fun j oj _ hl => (by rw [getD_replicate_false] at hl; cases hl), fun t _ ht => getD_in (by simpa using ht) (getD_replicate_false _ _)⟩
  have H := wpHeadQ_lex (md := .any) (g := l.toArray.size - n) hsel hs hc hn (l.take n) 0 _ a (fun j hj => by
    have hj' : j < n := by rw [htl] at hj; exact hj
    simp [hj']) (by simpa using htl) inv0 (by rw [htl]; exact hlex) h
  refine wp_region_any hm ?_
  have := wpAny_of_headQ (C := fun w' => ∃ g : Later w, w' = g.val) (Q' := Q) (g := l.toArray.size - n) (fun listed a' w' hw' hL => by
    obtain ⟨g, rfl⟩ := hw'
    have := wpAny_of_seq (md := .any) (Q' := Q) (l.drop n) n listed a' g.val (fun j => by simp [List.getElem?_drop]) (by rw [hdl]; exact hL.1) (hL.2 g)
    rwa [hdl] at this) _ _ _ { w with drawn := w.drawn + 1 } ⟨⟨w.drew, (Below.refl _ _).drew⟩, rfl⟩ H
  rw [htl, show n + (l.toArray.size - n) = l.toArray.size by omega] at this
  exact this
end
end Bal

/-
  Heaviness and moment, in the program and in the reference.
-/
namespace Go.Proofs.Ytlloijkmpmfapaa
open Go.RowKit Bal Bal.Trim
set_option linter.unusedVariables false
set_option linter.unusedSimpArgs false
set_option maxHeartbeats 400000

theorem s_min (a : Option Addr) (n cap : Nat) (xs : List Int) (w : World) (hn : xs.length = n) {B : Nat} (hx : Row icell 1 B w a xs) (h0 : 0 < n) (h1 : n ≤ 1000000) :
    Calls Try.prog 108 #[.slice a n cap] w fun e w' => e = .returned (.int .i64 (lmin xs)) ∧ w = w' := by
  subst hn
  obtain ⟨b, off, rfl, hb, c0⟩ := int_row hx 0 h0
  have c00 : w.cell? ⟨b, off, none⟩ = some (.int .i64 xs[0]) := by simpa using c0
  clear c0
  have hlt1 : (0 : Int) < xs.length := by omega
  go_enter Try.func108, Try.ntmps108
  go_wp2
  go_loop [3, 4] (fun m i => ∃ k : Nat, 0 < k ∧ k ≤ xs.length ∧ i = .int .i64 k ∧ m = .int .i64 (lmin (xs.take k))) (fun _ i => xs.length - (intOf i).toNat)
  case atStart => exact ⟨1, by omega, by omega, rfl, by cases xs with | nil => simp at h0 | cons x xs => simp [lmin]⟩
  case round =>
    obtain ⟨k, hk0, hk, rfl, rfl⟩ := hrel
    by_cases hlt : k < xs.length
    · obtain ⟨b', off', hab, _, ck⟩ := int_row hx k hlt
      simp only [Option.some.injEq, Addr.mk.injEq, and_true] at hab
      obtain ⟨rfl, rfl⟩ := hab
      have HT := Lib.hid (lmin_take hk0 hlt)
      go_wp2
      all_goals
        go_round
        case rel => exact ⟨k + 1, by omega, by omega, by go_num, by rw [HT.out, ite_min]⟩
        case measure => simp [intOf]; omega
    · go_wp2
      go_ret
      exact ⟨ret_int (by rw [List.take_of_length_le (by omega)]), rfl⟩

theorem s_max (a : Option Addr) (n cap : Nat) (xs : List Int) (w : World) (hn : xs.length = n) {B : Nat} (hx : Row icell 1 B w a xs) (h0 : 0 < n) (h1 : n ≤ 1000000) :
    Calls Try.prog 109 #[.slice a n cap] w fun e w' => e = .returned (.int .i64 (lmax xs)) ∧ w = w' := by
  subst hn
  obtain ⟨b, off, rfl, hb, c0⟩ := int_row hx 0 h0
  have c00 : w.cell? ⟨b, off, none⟩ = some (.int .i64 xs[0]) := by simpa using c0
  clear c0
  have hlt1 : (0 : Int) < xs.length := by omega
  go_enter Try.func109, Try.ntmps109
  go_wp2
  go_loop [3, 4] (fun m i => ∃ k : Nat, 0 < k ∧ k ≤ xs.length ∧ i = .int .i64 k ∧ m = .int .i64 (lmax (xs.take k))) (fun _ i => xs.length - (intOf i).toNat)
  case atStart => exact ⟨1, by omega, by omega, rfl, by cases xs with | nil => simp at h0 | cons x xs => simp [lmax]⟩
  case round =>
    obtain ⟨k, hk0, hk, rfl, rfl⟩ := hrel
    by_cases hlt : k < xs.length
    · obtain ⟨b', off', hab, _, ck⟩ := int_row hx k hlt
      simp only [Option.some.injEq, Addr.mk.injEq, and_true] at hab
      obtain ⟨rfl, rfl⟩ := hab
      have HT := Lib.hid (lmax_take hk0 hlt)
      go_wp2
      all_goals
        go_round
        case rel => exact ⟨k + 1, by omega, by omega, by go_num, by rw [HT.out, ite_max]⟩
        case measure => simp [intOf]; omega
    · go_wp2
      go_ret
      exact ⟨ret_int (by rw [List.take_of_length_le (by omega)]), rfl⟩

theorem f_bal1 (x : Load) (w : World) :
    Calls Try.prog 79 #[.agg #[.int .i64 x.alo, .int .i64 x.ahi, .int .i64 x.wlo, .int .i64 x.whi]] w fun e w' => e = .returned (.agg #[.int .i64 (x.wlo), .int .i64 (x.whi)]) ∧ Kept w w' := by
  go_enter Try.func79, Try.ntmps79
  go_wp2
  exact bodyPost_ret (v := .agg #[.int .i64 (x.wlo), .int .i64 (x.whi)]) (by simp [results, Try.results79, go_sem]) rfl ⟨rfl, by (exact kpt)⟩

theorem s_min4 (p q r s : Int) (t : TypeId) (W : World) (n : Nat) (hn : n = W.heap.size) :
    Calls Try.prog 108 #[.slice (some ⟨n, 0, none⟩) 4 4] (W.alloc (.cells #[.int .i64 p, .int .i64 q, .int .i64 r, .int .i64 s] t))
      fun e w' => e = .returned (.int .i64 (min (min (min p q) r) s)) ∧ W.alloc (.cells #[.int .i64 p, .int .i64 q, .int .i64 r, .int .i64 s] t) = w' := by
  subst hn
  exact s_min _ 4 4 [p, q, r, s] _ rfl (Row.fresh (enc := icell) (fun _ => rfl) rfl) (by decide) (by decide)

theorem s_max4 (p q r s : Int) (t : TypeId) (W : World) (n : Nat) (hn : n = W.heap.size) :
    Calls Try.prog 109 #[.slice (some ⟨n, 0, none⟩) 4 4] (W.alloc (.cells #[.int .i64 p, .int .i64 q, .int .i64 r, .int .i64 s] t))
      fun e w' => e = .returned (.int .i64 (max (max (max p q) r) s)) ∧ W.alloc (.cells #[.int .i64 p, .int .i64 q, .int .i64 r, .int .i64 s] t) = w' := by
  subst hn
  exact s_max _ 4 4 [p, q, r, s] _ rfl (Row.fresh (enc := icell) (fun _ => rfl) rfl) (by decide) (by decide)

theorem f_times (a b c d : Int) (w : World) (h1 : -40000 ≤ a) (h2 : a ≤ 40000) (h3 : -40000 ≤ b) (h4 : b ≤ 40000) (h5 : -1073741824 ≤ c) (h6 : c ≤ 1073741824) (h7 : -1073741824 ≤ d) (h8 : d ≤ 1073741824) :
    Calls Try.prog 81 #[.agg #[.int .i64 (a), .int .i64 (b)], .agg #[.int .i64 (c), .int .i64 (d)]] w fun e w' => e = .returned (.agg #[.int .i64 (tLo a b c d), .int .i64 (tHi a b c d)]) ∧ Kept w w' := by
  obtain ⟨p1, p2⟩ := mul_bd (A := 40000) (B := 1073741824) h1 h2 h5 h6
  obtain ⟨p3, p4⟩ := mul_bd (A := 40000) (B := 1073741824) h1 h2 h7 h8
  obtain ⟨p5, p6⟩ := mul_bd (A := 40000) (B := 1073741824) h3 h4 h5 h6
  obtain ⟨p7, p8⟩ := mul_bd (A := 40000) (B := 1073741824) h3 h4 h7 h8
  go_enter Try.func81, Try.ntmps81
  go_wp2_with (first | (go_at_call 108; refine (s_min4 _ _ _ _ _ _ _ (by simp)).mono ?_; rintro e w1 ⟨rfl, rfl⟩) | (go_at_call 109; refine (s_max4 _ _ _ _ _ _ _ (by simp)).mono ?_; rintro e w1 ⟨rfl, rfl⟩))
  exact bodyPost_ret (v := .agg #[.int .i64 (tLo a b c d), .int .i64 (tHi a b c d)]) (by simp [results, Try.results81, go_sem, tLo, tHi]) rfl ⟨rfl, by (exact kpt)⟩

theorem f_bal2 (x : Load) (w : World) (hv : loadB x = true) :
    Calls Try.prog 80 #[.agg #[.int .i64 x.alo, .int .i64 x.ahi, .int .i64 x.wlo, .int .i64 x.whi]] w fun e w' => e = .returned (.agg #[.int .i64 (mLo x), .int .i64 (mHi x)]) ∧ Kept w w' := by
  obtain ⟨⟨h1, h2, h3, h4⟩, ⟨h5, h6, h7, h8⟩, _⟩ := loadB_bd hv
  clear hv
  go_enter Try.func80, Try.ntmps80
  go_wp2_with (go_at_call 81; (with_reducible refine (f_times _ _ _ _ _ (by omega) (by omega) (by omega) (by omega) (by omega) (by omega) (by omega) (by omega)).mono ?_); rintro e w1 ⟨rfl, hb1⟩; obtain ⟨hc1, hf1, hl1⟩ := bcell3 hb1)
  exact bodyPost_ret (v := .agg #[.int .i64 (mLo x), .int .i64 (mHi x)]) (by simp [results, Try.results80, go_sem, hc1, hf1, mLo, mHi]) rfl ⟨rfl, by (exact kpt)⟩

/-- added has passed k loads: the sums so far lie in the second block of its own -/
def Added (gLo gHi : Load → Int) (xs : List Load) (w : World) (i : Value) (wr : World) : Prop :=
  ∃ k : Nat, k ≤ xs.length ∧ i = .int .i64 k ∧ Blk wr (w.heap.size + 1) #[.int .i64 (sumBy gLo (xs.take k)), .int .i64 (sumBy gHi (xs.take k))] 49 ∧ Blk wr w.heap.size #[.int .i64 0, .int .i64 0] 49 ∧ Kept w wr

theorem f_added_bal1 (a : Option Addr) (cap : Nat) (xs : List Load) (w : World) (hx : Row Load.cells 4 w.heap.size w a xs) (hc : xs.length ≤ cap) (hM : cap ≤ maxLen) (hn : xs.length ≤ 40) (hv : ∀ x ∈ xs, loadB x = true)
    (hg : ∀ x, loadB x = true → (-50000000000000 ≤ Load.wlo x ∧ Load.wlo x ≤ 50000000000000) ∧ (-50000000000000 ≤ Load.whi x ∧ Load.whi x ≤ 50000000000000)) :
    Calls Try.prog 78 #[.slice a xs.length cap, .func (.func 79) #[] #[]] w fun e w' => e = .returned (.agg #[.int .i64 (sumBy (Load.wlo) xs), .int .i64 (sumBy (Load.whi) xs)]) ∧ Kept w w' := by
  unfold maxLen at hM
  have bLo := fun k => sumBy_take_bd (Load.wlo) 50000000000000 2000000000000000 xs 40 hn (by omega) (by omega) (fun x h => (hg x (hv x h)).1) k
  have bHi := fun k => sumBy_take_bd (Load.whi) 50000000000000 2000000000000000 xs 40 hn (by omega) (by omega) (fun x h => (hg x (hv x h)).2) k
  have HLo := Lib.hid bLo
  have HHi := Lib.hid bHi
  clear bLo bHi
  have HG := Lib.hid hg
  have HV := Lib.hid hv
  clear hg hv
  go_enter Try.func78, Try.ntmps78
  go_wp2
  go_loopw [11] (fun i wr => Added (Load.wlo) (Load.whi) xs w i wr) (fun i _ => xs.length - (intOf i).toNat)
  case atStart => exact ⟨0, Nat.zero_le _, rfl, by simpa using Blk.new (w := w.alloc (.cells #[.int .i64 0, .int .i64 0] 49)), Blk.alloc Blk.new _, by (exact kpt)⟩
  case round =>
    obtain ⟨k, hk, rfl, q1, q0, hbel⟩ := hrel
    have t0 := q1.cell 0
    have t1 := q1.cell 1
    have t2 := q1.free 0
    have t3 := q1.free 1
    have t4 := q0.cell 0
    have t5 := q0.cell 1
    have t6 := q0.free 0
    have t7 := q0.free 1
    have l1 := q1.lt
    have l0 := q0.lt
    simp at t0 t1 t4 t5
    by_cases hlt : k < xs.length
    · obtain ⟨b, off, rfl, hb, h0, h1, h2, h3⟩ := Load.row (hx.later hbel (Nat.le_refl _)) k hlt
      obtain ⟨u1, u2⟩ := HLo.out k
      obtain ⟨u3, u4⟩ := HHi.out k
      obtain ⟨⟨u5, u6⟩, u7, u8⟩ := HG.out xs[k] (HV.out _ (List.getElem_mem hlt))
      go_wp2_with (go_at_call 79; refine (f_bal1 xs[k] _).mono ?_; rintro e w1 ⟨rfl, hb1⟩; have q1' := (q1.alloc _).keep hb1; have q0' := (q0.alloc _).keep hb1; have t0' := q1'.cell 0; have t1' := q1'.cell 1; have t2' := q1'.free 0; have t3' := q1'.free 1; have l1' := q1'.lt; simp at t0' t1')
      go_round
      case rel =>
        refine ⟨k + 1, by omega, by go_num, ?_, ?_, by (exact kpt)⟩
        · rw [sumBy_take _ _ _ hlt, sumBy_take _ _ _ hlt]
          exact Blk.alloc (by simpa using (q1'.set 0 (.int .i64 (sumBy (Load.wlo) (xs.take k) + Load.wlo xs[k]))).set 1 (.int .i64 (sumBy (Load.whi) (xs.take k) + Load.whi xs[k]))) _
        · exact Blk.alloc ((q0'.other (by simp) _).other (by simp) _) _
      case measure => simp [intOf]; omega
    · have hk' : k = xs.length := by omega
      subst hk'
      rw [List.take_length] at t0 t1
      go_wp2
      exact bodyPost_ret (v := .agg #[.int .i64 (sumBy (Load.wlo) xs), .int .i64 (sumBy (Load.whi) xs)]) (by simp [results, Try.results78, go_sem, t4, t5, t6, t7]) rfl ⟨rfl, by (exact kpt)⟩

theorem f_added_bal2 (a : Option Addr) (cap : Nat) (xs : List Load) (w : World) (hx : Row Load.cells 4 w.heap.size w a xs) (hc : xs.length ≤ cap) (hM : cap ≤ maxLen) (hn : xs.length ≤ 40) (hv : ∀ x ∈ xs, loadB x = true)
    (hg : ∀ x, loadB x = true → (-50000000000000 ≤ mLo x ∧ mLo x ≤ 50000000000000) ∧ (-50000000000000 ≤ mHi x ∧ mHi x ≤ 50000000000000)) :
    Calls Try.prog 78 #[.slice a xs.length cap, .func (.func 80) #[] #[]] w fun e w' => e = .returned (.agg #[.int .i64 (sumBy (mLo) xs), .int .i64 (sumBy (mHi) xs)]) ∧ Kept w w' := by
  unfold maxLen at hM
  have bLo := fun k => sumBy_take_bd (mLo) 50000000000000 2000000000000000 xs 40 hn (by omega) (by omega) (fun x h => (hg x (hv x h)).1) k
  have bHi := fun k => sumBy_take_bd (mHi) 50000000000000 2000000000000000 xs 40 hn (by omega) (by omega) (fun x h => (hg x (hv x h)).2) k
  have HLo := Lib.hid bLo
  have HHi := Lib.hid bHi
  clear bLo bHi
  have HG := Lib.hid hg
  have HV := Lib.hid hv
  clear hg hv
  go_enter Try.func78, Try.ntmps78
  go_wp2
  go_loopw [11] (fun i wr => Added (mLo) (mHi) xs w i wr) (fun i _ => xs.length - (intOf i).toNat)
  case atStart => exact ⟨0, Nat.zero_le _, rfl, by simpa using Blk.new (w := w.alloc (.cells #[.int .i64 0, .int .i64 0] 49)), Blk.alloc Blk.new _, by (exact kpt)⟩
  case round =>
    obtain ⟨k, hk, rfl, q1, q0, hbel⟩ := hrel
    have t0 := q1.cell 0
    have t1 := q1.cell 1
    have t2 := q1.free 0
    have t3 := q1.free 1
    have t4 := q0.cell 0
    have t5 := q0.cell 1
    have t6 := q0.free 0
    have t7 := q0.free 1
    have l1 := q1.lt
    have l0 := q0.lt
    simp at t0 t1 t4 t5
    by_cases hlt : k < xs.length
    · obtain ⟨b, off, rfl, hb, h0, h1, h2, h3⟩ := Load.row (hx.later hbel (Nat.le_refl _)) k hlt
      obtain ⟨u1, u2⟩ := HLo.out k
      obtain ⟨u3, u4⟩ := HHi.out k
      obtain ⟨⟨u5, u6⟩, u7, u8⟩ := HG.out xs[k] (HV.out _ (List.getElem_mem hlt))
      go_wp2_with (go_at_call 80; refine (f_bal2 xs[k] _ (HV.out _ (List.getElem_mem hlt))).mono ?_; rintro e w1 ⟨rfl, hb1⟩; have q1' := (q1.alloc _).keep hb1; have q0' := (q0.alloc _).keep hb1; have t0' := q1'.cell 0; have t1' := q1'.cell 1; have t2' := q1'.free 0; have t3' := q1'.free 1; have l1' := q1'.lt; simp at t0' t1')
      go_round
      case rel =>
        refine ⟨k + 1, by omega, by go_num, ?_, ?_, by (exact kpt)⟩
        · rw [sumBy_take _ _ _ hlt, sumBy_take _ _ _ hlt]
          exact Blk.alloc (by simpa using (q1'.set 0 (.int .i64 (sumBy (mLo) (xs.take k) + mLo xs[k]))).set 1 (.int .i64 (sumBy (mHi) (xs.take k) + mHi xs[k]))) _
        · exact Blk.alloc ((q0'.other (by simp) _).other (by simp) _) _
      case measure => simp [intOf]; omega
    · have hk' : k = xs.length := by omega
      subst hk'
      rw [List.take_length] at t0 t1
      go_wp2
      exact bodyPost_ret (v := .agg #[.int .i64 (sumBy (mLo) xs), .int .i64 (sumBy (mHi) xs)]) (by simp [results, Try.results78, go_sem, t4, t5, t6, t7]) rfl ⟨rfl, by (exact kpt)⟩

theorem bal1_bd (x : Load) (h : loadB x = true) : (-50000000000000 ≤ x.wlo ∧ x.wlo ≤ 50000000000000) ∧ (-50000000000000 ≤ x.whi ∧ x.whi ≤ 50000000000000) := by
  have := loadB_bd h
  omega
theorem bal2_bd (x : Load) (h : loadB x = true) : (-50000000000000 ≤ mLo x ∧ mLo x ≤ 50000000000000) ∧ (-50000000000000 ≤ mHi x ∧ mHi x ≤ 50000000000000) := by
  have h1 := loadB_bd h
  have h2 := t_bd (A := 20000) (B := 1073741824) (a := x.alo) (b := x.ahi) (c := x.wlo) (d := x.whi) (by omega) (by omega)
  unfold mLo mHi
  omega

theorem f_Balance (a : Option Addr) (cap : Nat) (xs : List Load) (w : World) (hx : Row Load.cells 4 w.heap.size w a xs) (hc : xs.length ≤ cap) (hM : cap ≤ maxLen) :
    Calls Try.prog 31 #[.slice a xs.length cap] w fun e w' => e = .returned (.tuple #[.agg #[.int .i64 (ifOk (checkLoads xs) (sumBy Load.wlo xs)), .int .i64 (ifOk (checkLoads xs) (sumBy Load.whi xs))], .agg #[.int .i64 (ifOk (checkLoads xs) (sumBy mLo xs)), .int .i64 (ifOk (checkLoads xs) (sumBy mHi xs))], .int .i64 (checkLoads xs)]) ∧ Kept w w' := by
  by_cases he : checkLoads xs = 0
  · obtain ⟨hn, hv⟩ := checkLoads_ok he
    have HE := Lib.hid he
    have hb : (checkLoads xs != 0) = false := by simp [he]
    have HV := Lib.hid hv
    clear hv he
    go_enter Try.func31, Try.ntmps31
    go_wp2_with (first | (go_at_call 19; refine (f_CheckLoads _ _ _ _ (hx.later (by (exact kpt)) (Nat.le_refl _)) hc hM).mono ?_; rintro e w1 ⟨rfl, hb1⟩; refine Blk.thru (b := w.heap.size) (arr := ?_) (t := ?_) ?_ hb1 ?_; rotate_left 2; (focus (exact blk)); intro r0; have r0c0 := r0.cell 0; have r0f0 := r0.free 0; have r0c1 := r0.cell 1; have r0f1 := r0.free 1; have r0l := r0.lt; simp at r0c0 r0c1; refine Blk.thru (b := w.heap.size + 1) (arr := ?_) (t := ?_) ?_ hb1 ?_; rotate_left 2; (focus (exact blk)); intro r1; have r1c0 := r1.cell 0; have r1f0 := r1.free 0; have r1c1 := r1.cell 1; have r1f1 := r1.free 1; have r1l := r1.lt; simp at r1c0 r1c1) | (go_at_call 78; refine (f_added_bal1 _ _ _ _ (hx.later (by (exact kpt)) (Nat.le_refl _)) hc hM hn HV.out bal1_bd).mono ?_; rintro e w1 ⟨rfl, hb1⟩; refine Blk.thru (b := w.heap.size) (arr := ?_) (t := ?_) ?_ hb1 ?_; rotate_left 2; (focus (exact blk)); intro r0; have r0c0 := r0.cell 0; have r0f0 := r0.free 0; have r0c1 := r0.cell 1; have r0f1 := r0.free 1; have r0l := r0.lt; simp at r0c0 r0c1; refine Blk.thru (b := w.heap.size + 1) (arr := ?_) (t := ?_) ?_ hb1 ?_; rotate_left 2; (focus (exact blk)); intro r1; have r1c0 := r1.cell 0; have r1f0 := r1.free 0; have r1c1 := r1.cell 1; have r1f1 := r1.free 1; have r1l := r1.lt; simp at r1c0 r1c1))
    refine at_world (S := fun W => Blk W w.heap.size #[.int .i64 (sumBy Load.wlo xs), .int .i64 (sumBy Load.whi xs)] 49 ∧ Blk W (w.heap.size + 1) #[.int .i64 0, .int .i64 0] 49 ∧ Kept w W) ?_ ?_
    · exact ⟨by simpa using (r0.set 0 (.int .i64 (sumBy Load.wlo xs))).set 1 (.int .i64 (sumBy Load.whi xs)), (r1.other (by simp) _).other (by simp) _, by (exact kpt)⟩
    rintro W ⟨r0, r1, hk⟩
    have r0c0 := fun g : Later W => (r0.later g).cell 0
    have r0f0 := fun g : Later W => (r0.later g).free 0
    have r0c1 := fun g : Later W => (r0.later g).cell 1
    have r0f1 := fun g : Later W => (r0.later g).free 1
    have r0l := fun g : Later W => (r0.later g).lt
    simp at r0c0 r0c1
    have r1c0 := fun g : Later W => (r1.later g).cell 0
    have r1f0 := fun g : Later W => (r1.later g).free 0
    have r1c1 := fun g : Later W => (r1.later g).cell 1
    have r1f1 := fun g : Later W => (r1.later g).free 1
    have r1l := fun g : Later W => (r1.later g).lt
    simp at r1c0 r1c1
    refine Later.tail 3 (by kernel_rfl) (by kernel_rfl) ?_
    simp only [List.take_succ_cons, List.take_zero, List.drop_succ_cons, List.drop_zero]
    repeat (first | go_big_quiet_skip | (go_big_quiet_want; go_big_quiet_op; first | go_big_quiet_on | (apply Exists.intro; refine ⟨fun g => ?_, ?_⟩; (focus (first | (go_at_call 78; exact Later.call (f_added_bal2 _ _ _ _ (hx.later (Kept.drop hk g.ok) (Nat.le_refl _)) hc hM hn HV.out bal2_bd)))); go_big_quiet_on)))
    refine wpQuiet_nil ?_
    intro g
    have hkg := Kept.drop hk g.ok
    go_wp2
    have z : ∀ v, ifOk (checkLoads xs) v = v := fun v => if_pos HE.out
    simp only [z]
    exact bodyPost_ret (v := .tuple #[.agg #[.int .i64 (sumBy Load.wlo xs), .int .i64 (sumBy Load.whi xs)], .agg #[.int .i64 (sumBy mLo xs), .int .i64 (sumBy mHi xs)], .int .i64 0]) (by simp [results, Try.results31, go_sem, r0c0, r0c1, r1c0, r1c1, r0f0, r0f1, r1f0, r1f1]) rfl ⟨by rw [HE.out], by (exact kpt)⟩
  · have hb : (checkLoads xs != 0) = true := by simp [he]
    have HE := Lib.hid he
    clear he
    go_enter Try.func31, Try.ntmps31
    go_wp2_with (first | (go_at_call 19; refine (f_CheckLoads _ _ _ _ (hx.later (by (exact kpt)) (Nat.le_refl _)) hc hM).mono ?_; rintro e w1 ⟨rfl, hb1⟩; refine Blk.thru (b := w.heap.size) (arr := ?_) (t := ?_) ?_ hb1 ?_; rotate_left 2; (focus (exact blk)); intro r0; have r0c0 := r0.cell 0; have r0f0 := r0.free 0; have r0c1 := r0.cell 1; have r0f1 := r0.free 1; have r0l := r0.lt; simp at r0c0 r0c1; refine Blk.thru (b := w.heap.size + 1) (arr := ?_) (t := ?_) ?_ hb1 ?_; rotate_left 2; (focus (exact blk)); intro r1; have r1c0 := r1.cell 0; have r1f0 := r1.free 0; have r1c1 := r1.cell 1; have r1f1 := r1.free 1; have r1l := r1.lt; simp at r1c0 r1c1))
    have z : ∀ v, ifOk (checkLoads xs) v = 0 := fun v => if_neg HE.out
    simp only [z]
    exact bodyPost_ret (v := .tuple #[.agg #[.int .i64 (0), .int .i64 (0)], .agg #[.int .i64 (0), .int .i64 (0)], .int .i64 (checkLoads xs)]) (by simp [results, Try.results31, go_sem, r0c0, r0c1, r1c0, r1c1]) rfl ⟨rfl, by (exact kpt)⟩

end Go.Proofs.Ytlloijkmpmfapaa

/-
  A slice that the call owns, beside blocks of another type. No program in sight.
-/
namespace Bal
open Go Go.RowKit
theorem Blk.grown {w w' : World} {b base k n : Nat} {arr : Array Value} {t e : TypeId} {v : Value} {xs : List Value} (h : Blk w b arr t) (ho : w.ownsRow base e k v n xs) (hne : t ≠ e) (hg : w.grownBy w' v.ownBlock) : Blk w' b arr t := by
  have hl := h.lt
  unfold Blk at *
  rw [hg.block b hl ?_]
  · exact h
  · intro he
    obtain ⟨_, ⟨rfl, _⟩ | ⟨g, cap, cur, rfl, _, hh, _⟩⟩ := ho
    · cases he
    · simp only [Value.ownBlock, Option.some.injEq] at he
      subst he
      rw [h] at hh
      simp only [Option.some.injEq, Obj.cells.injEq] at hh
      exact hne hh.2.1
theorem Kept.grown {w0 w w' : World} {base k n : Nat} {e : TypeId} {v : Value} {xs : List Value} (h : Kept w0 w) (ho : w.ownsRow base e k v n xs) (hb : w0.heap.size ≤ base) (hg : w.grownBy w' v.ownBlock) : Kept w0 w' := by
  refine Below.trans h ⟨hg.os, hg.tape, hg.output, hg.size, fun i hi => hg.block i (Nat.lt_of_lt_of_le hi h.size) fun he => ?_⟩
  obtain ⟨_, ⟨rfl, _⟩ | ⟨g, cap, cur, rfl, hbg, _, _⟩⟩ := ho
  · cases he
  · simp only [Value.ownBlock, Option.some.injEq] at he
    omega
theorem owns_set {w : World} {b base k n i : Nat} {arr : Array Value} {t e : TypeId} {v u : Value} {xs : List Value} (h : Blk w b arr t) (ho : w.ownsRow base e k v n xs) (hne : t ≠ e) : (w.setCell ⟨b, i, none⟩ u).ownsRow base e k v n xs := by
  obtain ⟨h1, h2 | ⟨g, cap, cur, hv, hg, hh, r⟩⟩ := ho
  · exact ⟨h1, .inl h2⟩
  · have hgb : g ≠ b := by
      intro he
      subst he
      unfold Blk at h
      rw [h] at hh
      simp only [Option.some.injEq, Obj.cells.injEq] at hh
      exact hne hh.2.1
    refine ⟨h1, .inr ⟨g, cap, cur, hv, hg, ?_, r⟩⟩
    have := Blk.other (w := w) (b := g) (arr := cur) (t := e) (a := ⟨b, i, none⟩) hh (by simpa using fun h => hgb h.symm) u
    exact this
end Bal

/-
  Rows of elements: parts of them, equal lists, what a call owns. No program in sight.
-/
namespace Bal
open Go Go.RowKit
/-- one element of a row as a row of its own -/
theorem Row.sub {α : Type} {enc : α → List Value} {k B : Nat} {w : World} {b off : Nat} {xs : List α} (h : Row enc k B w (some ⟨b, off, none⟩) xs) (i : Nat) (hi : i < xs.length) :
    Row enc k B w (some ⟨b, off + i * k, none⟩) [xs[i]] := by
  intro j x hx
  have hj : j = 0 := by
    have := (List.getElem?_eq_some_iff.1 hx).1
    simp at this; omega
  subst hj
  simp at hx
  subst hx
  obtain ⟨b', off', ha, hb, hc⟩ := h i xs[i] (by simp [hi])
  simp only [Option.some.injEq, Addr.mk.injEq, and_true] at ha
  obtain ⟨rfl, rfl⟩ := ha
  exact ⟨b, off + i * k, rfl, hb, fun j v hv => by rw [Nat.zero_mul, Nat.add_zero]; exact hc j v hv⟩
/-- the first elements of a row -/
theorem Row.take {α : Type} {enc : α → List Value} {k B : Nat} {w : World} {a : Option Addr} {xs : List α} (h : Row enc k B w a xs) (n : Nat) : Row enc k B w a (xs.take n) := by
  intro i x hx
  rw [List.getElem?_take] at hx
  split at hx
  · exact h i x hx
  · cases hx
theorem Row.one {α : Type} {enc : α → List Value} {k : Nat} {w : World} {b : Nat} {arr : Array Value} {t : TypeId} {x : α} (h : Blk w b arr t) (he : arr.toList = enc x) : Row enc k w.heap.size w (some ⟨b, 0, none⟩) [x] := by
  intro j y hy
  have hj : j = 0 := by
    have := (List.getElem?_eq_some_iff.1 hy).1
    simp at this; omega
  subst hj
  simp at hy
  subst hy
  exact ⟨b, 0, rfl, h.lt, fun j v hv => by simp only [Nat.zero_mul, Nat.zero_add]; rw [h.cell, ← Array.getElem?_toList, he]; exact hv⟩
/-- a block of several elements as a row -/
theorem Row.block {α : Type} {enc : α → List Value} {k : Nat} {w : World} {b : Nat} {arr : Array Value} {t : TypeId} {xs : List α} (he : ∀ x, (enc x).length = k) (h : Blk w b arr t) (ha : arr.toList = xs.flatMap enc) : Row enc k w.heap.size w (some ⟨b, 0, none⟩) xs := by
  intro i x hx
  refine ⟨b, 0, rfl, h.lt, fun j v hj => ?_⟩
  have hjk : j < k := by rw [← he x]; exact (List.getElem?_eq_some_iff.1 hj).1
  rw [h.cell, Nat.zero_add, ← Array.getElem?_toList, ha, flatMap_get he xs i x hx j hjk]
  exact hj
theorem cell_two_at {w : World} {n : Nat} (h : n = w.heap.size) (a b : Value) (t : TypeId) : ∀ j u, [a, b][j]? = some u → (w.alloc (.cells #[a, b] t)).cell? ((⟨n, 0, none⟩ : Addr).add j) = some u := h ▸ cell_two_new w a b t
theorem cell_one_at {w : World} {n : Nat} (h : n = w.heap.size) (a : Value) (t : TypeId) : ∀ j u, [a][j]? = some u → (w.alloc (.cells #[a] t)).cell? ((⟨n, 0, none⟩ : Addr).add j) = some u := by
  subst h
  intro j u hj
  have hj0 : j = 0 := by
    have := (List.getElem?_eq_some_iff.1 hj).1
    simp at this; omega
  subst hj0
  simp at hj
  subst hj
  simp [Addr.add]
/-- a slice that a call owns, as a row at an address; nil if it is empty and unmade -/
theorem owns_row {α : Type} {enc : α → List Value} {k base : Nat} {e : TypeId} {w : World} {v : Value} {xs : List α} (he : ∀ x, (enc x).length = k) (h : w.ownsRow base e k v xs.length (xs.flatMap enc)) :
    ∃ a cap, v = .slice a xs.length cap ∧ Row enc k w.heap.size w a xs ∧ xs.length ≤ cap ∧ cap ≤ maxLen := Row.of_owns he h
end Bal

/-
  Limits at work, in the program: the value of a put, the worst corner of a load, the worst choice.
-/
namespace Go.Proofs.Ytlloijkmpmfapaa
open Go.RowKit Bal Bal.Trim
set_option linter.unusedVariables false
set_option linter.unusedSimpArgs false
set_option maxHeartbeats 800000

set_option maxRecDepth 10000

theorem f_value (m : Limit) (p : Put) (w : World) (hm : limitB m = true) (hp : putB p) :
    Calls Try.prog 76 #[.agg #[.int .i64 m.a, .int .i64 m.b, .int .i64 m.c], .agg #[.int .i64 p.pos, .int .i64 p.wt]] w fun e w' => e = .returned (.int .i64 (vOf m p)) ∧ Kept w w' := by
  obtain ⟨⟨h1, h2⟩, ⟨h3, h4⟩, h5, h6⟩ := put_bd hm hp
  clear hm hp
  go_enter Try.func76, Try.ntmps76
  go_wp2
  go_ret
  exact ⟨rfl, by (exact kpt)⟩

/-- the best corner so far -/
def bestK (m : Limit) (x : Load) : Nat → Put
  | 0 => ⟨x.alo, x.wlo⟩
  | 1 => best1 m x
  | 2 => best2 m x
  | _ => best m x
def nextC (x : Load) : Nat → Put
  | 0 => ⟨x.ahi, x.wlo⟩
  | 1 => ⟨x.alo, x.whi⟩
  | _ => ⟨x.ahi, x.whi⟩
theorem bestK_succ (m : Limit) (x : Load) (k : Nat) (hk : k < 3) : bestK m x (k + 1) = better m (bestK m x k) (nextC x k) := by
  rcases (show k = 0 ∨ k = 1 ∨ k = 2 by omega) with rfl | rfl | rfl <;> rfl
theorem bestK_B {m : Limit} {x : Load} (h : loadB x = true) (k : Nat) : putB (bestK m x k) := by
  match k with
  | 0 => exact corner_B h (by simp [bestK, corners])
  | 1 => exact corner_B h (best1_mem m x)
  | 2 => exact corner_B h (best2_mem m x)
  | (n + 3) => exact corner_B h (best_mem m x)
theorem nextC_B {x : Load} (h : loadB x = true) (k : Nat) : putB (nextC x k) := by
  match k with
  | 0 => exact corner_B h (by simp [nextC, corners])
  | 1 => exact corner_B h (by simp [nextC, corners])
  | (n + 2) => exact corner_B h (by simp [nextC, corners])
theorem better_lt {m : Limit} {b p : Put} (h : vOf m b < vOf m p) : better m b p = p := if_pos h
theorem better_ge {m : Limit} {b p : Put} (h : ¬ vOf m b < vOf m p) : better m b p = b := if_neg h
def CornerW (w w1 : World) (m : Limit) (x : Load) (B : Put) (wr : World) : Prop :=
  Blk wr w.heap.size #[.int .i64 m.a, .int .i64 m.b, .int .i64 m.c] 126 ∧ Blk wr (w.heap.size + 1 + 1) #[.int .i64 0, .int .i64 0] 85 ∧ Blk wr (w.heap.size + 1 + 1 + 1) #[.int .i64 B.pos, .int .i64 B.wt] 85 ∧ Blk wr w1.heap.size #[.int .i64 x.ahi, .int .i64 x.wlo, .int .i64 x.alo, .int .i64 x.whi, .int .i64 x.ahi, .int .i64 x.whi] 85 ∧ Kept w wr
def CornerRel (w w1 : World) (m : Limit) (x : Load) (mo i : Value) (wr : World) : Prop :=
  ∃ (k : Nat) (B : Put), k ≤ 3 ∧ i = .int .i64 k ∧ B = bestK m x k ∧ mo = .int .i64 (vOf m B) ∧ CornerW w w1 m x B wr

theorem f_corner (m : Limit) (x : Load) (w : World) (hm : limitB m = true) (hx : loadB x = true) :
    Calls Try.prog 84 #[.agg #[.int .i64 m.a, .int .i64 m.b, .int .i64 m.c], .agg #[.int .i64 x.alo, .int .i64 x.ahi, .int .i64 x.wlo, .int .i64 x.whi]] w fun e w' => e = .returned (.tuple #[.agg #[.int .i64 (best m x).pos, .int .i64 (best m x).wt], .int .i64 (vOf m (best m x))]) ∧ Kept w w' := by
  have HM := Lib.hid hm
  have HX := Lib.hid hx
  have HB0 := Lib.hid (show putB ⟨x.alo, x.wlo⟩ from corner_B hx (by simp [corners]))
  clear hm hx
  go_enter Try.func84, Try.ntmps84
  go_wp2_with (go_at_call 76; (with_reducible refine (f_value m ⟨x.alo, x.wlo⟩ _ HM.out HB0.out).mono ?_); rintro e w1 ⟨rfl, hb1⟩; obtain ⟨hc1, hf1, hl1⟩ := bcell3 hb1; refine Blk.thru (b := w.heap.size + 1) (arr := ?_) (t := ?_) ?_ hb1 ?_; rotate_left 2; (focus (exact blk)); intro qx; have qxc0 := qx.cell 0; have qxf0 := qx.free 0; have qxc1 := qx.cell 1; have qxf1 := qx.free 1; have qxc2 := qx.cell 2; have qxf2 := qx.free 2; have qxc3 := qx.cell 3; have qxf3 := qx.free 3; have qxl := qx.lt; simp at qxc0 qxc1 qxc2 qxc3; refine Blk.thru (b := w.heap.size) (arr := ?_) (t := ?_) ?_ hb1 ?_; rotate_left 2; (focus (exact blk)); intro qs; have qsc0 := qs.cell 0; have qsf0 := qs.free 0; have qsc1 := qs.cell 1; have qsf1 := qs.free 1; have qsc2 := qs.cell 2; have qsf2 := qs.free 2; have qsl := qs.lt; simp at qsc0 qsc1 qsc2)
  go_loopw [7, 44] (fun mo i wr => CornerRel w w1 m x mo i wr) (fun _ i _ => 3 - (intOf i).toNat)
  case atStart => exact ⟨0, ⟨x.alo, x.wlo⟩, by omega, rfl, rfl, rfl, by (exact blk), by (exact blk), by (exact blkc), by (exact blkc), by (exact kpt)⟩
  case round =>
    clear hc1 hf1 hl1
    obtain ⟨k, Bk, hk3, rfl, hBk, rfl, q0, q2, q3, q4, hk⟩ := hrel
    by_cases hk' : k < 3
    · have HS := Lib.hid (bestK_succ m x k hk')
      have HB := Lib.hid (bestK_B (m := m) HX.out k)
      have HN := Lib.hid (nextC_B HX.out k)
      rw [← hBk] at HS HB
      clear hBk
      by_cases hc : vOf m Bk < vOf m (nextC x k)
      · have HC := Lib.hid (better_lt hc)
        rcases (show k = 0 ∨ k = 1 ∨ k = 2 by omega) with rfl | rfl | rfl
        · simp only [nextC] at hc HC HN HS
          have q0c0 := q0.cell 0
          have q0f0 := q0.free 0
          have q0c1 := q0.cell 1
          have q0f1 := q0.free 1
          have q0c2 := q0.cell 2
          have q0f2 := q0.free 2
          have q0l := q0.lt
          simp at q0c0 q0c1 q0c2
          have q2c0 := q2.cell 0
          have q2f0 := q2.free 0
          have q2c1 := q2.cell 1
          have q2f1 := q2.free 1
          have q2l := q2.lt
          simp at q2c0 q2c1
          have q3c0 := q3.cell 0
          have q3f0 := q3.free 0
          have q3c1 := q3.cell 1
          have q3f1 := q3.free 1
          have q3l := q3.lt
          simp at q3c0 q3c1
          have q4c0 := q4.cell 0
          have q4f0 := q4.free 0
          have q4c1 := q4.cell 1
          have q4f1 := q4.free 1
          have q4c2 := q4.cell 2
          have q4f2 := q4.free 2
          have q4c3 := q4.cell 3
          have q4f3 := q4.free 3
          have q4c4 := q4.cell 4
          have q4f4 := q4.free 4
          have q4c5 := q4.cell 5
          have q4f5 := q4.free 5
          have q4l := q4.lt
          simp at q4c0 q4c1 q4c2 q4c3 q4c4 q4c5
          go_wp2_with (first | (go_at_call 76; (with_reducible refine (f_value m ⟨x.ahi, x.wlo⟩ _ HM.out HN.out).mono ?_); rintro e w1 ⟨rfl, hb1⟩; obtain ⟨hc1, hf1, hl1⟩ := bcell3 hb1; refine Blk.thru (b := wr.heap.size) (arr := ?_) (t := ?_) ?_ hb1 ?_; rotate_left 2; (focus (exact blk)); intro qy; have qyc0 := qy.cell 0; have qyf0 := qy.free 0; have qyc1 := qy.cell 1; have qyf1 := qy.free 1; have qyl := qy.lt; simp at qyc0 qyc1) | (go_at_call 76; (with_reducible refine (f_value m ⟨x.alo, x.whi⟩ _ HM.out HN.out).mono ?_); rintro e w1 ⟨rfl, hb1⟩; obtain ⟨hc1, hf1, hl1⟩ := bcell3 hb1; refine Blk.thru (b := wr.heap.size) (arr := ?_) (t := ?_) ?_ hb1 ?_; rotate_left 2; (focus (exact blk)); intro qy; have qyc0 := qy.cell 0; have qyf0 := qy.free 0; have qyc1 := qy.cell 1; have qyf1 := qy.free 1; have qyl := qy.lt; simp at qyc0 qyc1) | (go_at_call 76; (with_reducible refine (f_value m ⟨x.ahi, x.whi⟩ _ HM.out HN.out).mono ?_); rintro e w1 ⟨rfl, hb1⟩; obtain ⟨hc1, hf1, hl1⟩ := bcell3 hb1; refine Blk.thru (b := wr.heap.size) (arr := ?_) (t := ?_) ?_ hb1 ?_; rotate_left 2; (focus (exact blk)); intro qy; have qyc0 := qy.cell 0; have qyf0 := qy.free 0; have qyc1 := qy.cell 1; have qyf1 := qy.free 1; have qyl := qy.lt; simp at qyc0 qyc1))
          go_round
          case rel => exact ⟨1, ⟨x.ahi, x.wlo⟩, by omega, by go_num, by rw [HS.out, HC.out], rfl, by (exact blk), by (exact blk), by (exact blkc), by (exact blk), by (exact kpt)⟩
          case measure => simp [intOf]
        · simp only [nextC] at hc HC HN HS
          have q0c0 := q0.cell 0
          have q0f0 := q0.free 0
          have q0c1 := q0.cell 1
          have q0f1 := q0.free 1
          have q0c2 := q0.cell 2
          have q0f2 := q0.free 2
          have q0l := q0.lt
          simp at q0c0 q0c1 q0c2
          have q2c0 := q2.cell 0
          have q2f0 := q2.free 0
          have q2c1 := q2.cell 1
          have q2f1 := q2.free 1
          have q2l := q2.lt
          simp at q2c0 q2c1
          have q3c0 := q3.cell 0
          have q3f0 := q3.free 0
          have q3c1 := q3.cell 1
          have q3f1 := q3.free 1
          have q3l := q3.lt
          simp at q3c0 q3c1
          have q4c0 := q4.cell 0
          have q4f0 := q4.free 0
          have q4c1 := q4.cell 1
          have q4f1 := q4.free 1
          have q4c2 := q4.cell 2
          have q4f2 := q4.free 2
          have q4c3 := q4.cell 3
          have q4f3 := q4.free 3
          have q4c4 := q4.cell 4
          have q4f4 := q4.free 4
          have q4c5 := q4.cell 5
          have q4f5 := q4.free 5
          have q4l := q4.lt
          simp at q4c0 q4c1 q4c2 q4c3 q4c4 q4c5
          go_wp2_with (first | (go_at_call 76; (with_reducible refine (f_value m ⟨x.ahi, x.wlo⟩ _ HM.out HN.out).mono ?_); rintro e w1 ⟨rfl, hb1⟩; obtain ⟨hc1, hf1, hl1⟩ := bcell3 hb1; refine Blk.thru (b := wr.heap.size) (arr := ?_) (t := ?_) ?_ hb1 ?_; rotate_left 2; (focus (exact blk)); intro qy; have qyc0 := qy.cell 0; have qyf0 := qy.free 0; have qyc1 := qy.cell 1; have qyf1 := qy.free 1; have qyl := qy.lt; simp at qyc0 qyc1) | (go_at_call 76; (with_reducible refine (f_value m ⟨x.alo, x.whi⟩ _ HM.out HN.out).mono ?_); rintro e w1 ⟨rfl, hb1⟩; obtain ⟨hc1, hf1, hl1⟩ := bcell3 hb1; refine Blk.thru (b := wr.heap.size) (arr := ?_) (t := ?_) ?_ hb1 ?_; rotate_left 2; (focus (exact blk)); intro qy; have qyc0 := qy.cell 0; have qyf0 := qy.free 0; have qyc1 := qy.cell 1; have qyf1 := qy.free 1; have qyl := qy.lt; simp at qyc0 qyc1) | (go_at_call 76; (with_reducible refine (f_value m ⟨x.ahi, x.whi⟩ _ HM.out HN.out).mono ?_); rintro e w1 ⟨rfl, hb1⟩; obtain ⟨hc1, hf1, hl1⟩ := bcell3 hb1; refine Blk.thru (b := wr.heap.size) (arr := ?_) (t := ?_) ?_ hb1 ?_; rotate_left 2; (focus (exact blk)); intro qy; have qyc0 := qy.cell 0; have qyf0 := qy.free 0; have qyc1 := qy.cell 1; have qyf1 := qy.free 1; have qyl := qy.lt; simp at qyc0 qyc1))
          go_round
          case rel => exact ⟨2, ⟨x.alo, x.whi⟩, by omega, by go_num, by rw [HS.out, HC.out], rfl, by (exact blk), by (exact blk), by (exact blkc), by (exact blk), by (exact kpt)⟩
          case measure => simp [intOf]
        · simp only [nextC] at hc HC HN HS
          have q0c0 := q0.cell 0
          have q0f0 := q0.free 0
          have q0c1 := q0.cell 1
          have q0f1 := q0.free 1
          have q0c2 := q0.cell 2
          have q0f2 := q0.free 2
          have q0l := q0.lt
          simp at q0c0 q0c1 q0c2
          have q2c0 := q2.cell 0
          have q2f0 := q2.free 0
          have q2c1 := q2.cell 1
          have q2f1 := q2.free 1
          have q2l := q2.lt
          simp at q2c0 q2c1
          have q3c0 := q3.cell 0
          have q3f0 := q3.free 0
          have q3c1 := q3.cell 1
          have q3f1 := q3.free 1
          have q3l := q3.lt
          simp at q3c0 q3c1
          have q4c0 := q4.cell 0
          have q4f0 := q4.free 0
          have q4c1 := q4.cell 1
          have q4f1 := q4.free 1
          have q4c2 := q4.cell 2
          have q4f2 := q4.free 2
          have q4c3 := q4.cell 3
          have q4f3 := q4.free 3
          have q4c4 := q4.cell 4
          have q4f4 := q4.free 4
          have q4c5 := q4.cell 5
          have q4f5 := q4.free 5
          have q4l := q4.lt
          simp at q4c0 q4c1 q4c2 q4c3 q4c4 q4c5
          go_wp2_with (first | (go_at_call 76; (with_reducible refine (f_value m ⟨x.ahi, x.wlo⟩ _ HM.out HN.out).mono ?_); rintro e w1 ⟨rfl, hb1⟩; obtain ⟨hc1, hf1, hl1⟩ := bcell3 hb1; refine Blk.thru (b := wr.heap.size) (arr := ?_) (t := ?_) ?_ hb1 ?_; rotate_left 2; (focus (exact blk)); intro qy; have qyc0 := qy.cell 0; have qyf0 := qy.free 0; have qyc1 := qy.cell 1; have qyf1 := qy.free 1; have qyl := qy.lt; simp at qyc0 qyc1) | (go_at_call 76; (with_reducible refine (f_value m ⟨x.alo, x.whi⟩ _ HM.out HN.out).mono ?_); rintro e w1 ⟨rfl, hb1⟩; obtain ⟨hc1, hf1, hl1⟩ := bcell3 hb1; refine Blk.thru (b := wr.heap.size) (arr := ?_) (t := ?_) ?_ hb1 ?_; rotate_left 2; (focus (exact blk)); intro qy; have qyc0 := qy.cell 0; have qyf0 := qy.free 0; have qyc1 := qy.cell 1; have qyf1 := qy.free 1; have qyl := qy.lt; simp at qyc0 qyc1) | (go_at_call 76; (with_reducible refine (f_value m ⟨x.ahi, x.whi⟩ _ HM.out HN.out).mono ?_); rintro e w1 ⟨rfl, hb1⟩; obtain ⟨hc1, hf1, hl1⟩ := bcell3 hb1; refine Blk.thru (b := wr.heap.size) (arr := ?_) (t := ?_) ?_ hb1 ?_; rotate_left 2; (focus (exact blk)); intro qy; have qyc0 := qy.cell 0; have qyf0 := qy.free 0; have qyc1 := qy.cell 1; have qyf1 := qy.free 1; have qyl := qy.lt; simp at qyc0 qyc1))
          go_round
          case rel => exact ⟨3, ⟨x.ahi, x.whi⟩, by omega, by go_num, by rw [HS.out, HC.out], rfl, by (exact blk), by (exact blk), by (exact blkc), by (exact blk), by (exact kpt)⟩
          case measure => simp [intOf]
      · have HC := Lib.hid (better_ge hc)
        rcases (show k = 0 ∨ k = 1 ∨ k = 2 by omega) with rfl | rfl | rfl
        · simp only [nextC] at hc HC HN HS
          have q0c0 := q0.cell 0
          have q0f0 := q0.free 0
          have q0c1 := q0.cell 1
          have q0f1 := q0.free 1
          have q0c2 := q0.cell 2
          have q0f2 := q0.free 2
          have q0l := q0.lt
          simp at q0c0 q0c1 q0c2
          have q2c0 := q2.cell 0
          have q2f0 := q2.free 0
          have q2c1 := q2.cell 1
          have q2f1 := q2.free 1
          have q2l := q2.lt
          simp at q2c0 q2c1
          have q3c0 := q3.cell 0
          have q3f0 := q3.free 0
          have q3c1 := q3.cell 1
          have q3f1 := q3.free 1
          have q3l := q3.lt
          simp at q3c0 q3c1
          have q4c0 := q4.cell 0
          have q4f0 := q4.free 0
          have q4c1 := q4.cell 1
          have q4f1 := q4.free 1
          have q4c2 := q4.cell 2
          have q4f2 := q4.free 2
          have q4c3 := q4.cell 3
          have q4f3 := q4.free 3
          have q4c4 := q4.cell 4
          have q4f4 := q4.free 4
          have q4c5 := q4.cell 5
          have q4f5 := q4.free 5
          have q4l := q4.lt
          simp at q4c0 q4c1 q4c2 q4c3 q4c4 q4c5
          go_wp2_with (first | (go_at_call 76; (with_reducible refine (f_value m ⟨x.ahi, x.wlo⟩ _ HM.out HN.out).mono ?_); rintro e w1 ⟨rfl, hb1⟩; obtain ⟨hc1, hf1, hl1⟩ := bcell3 hb1; refine Blk.thru (b := wr.heap.size) (arr := ?_) (t := ?_) ?_ hb1 ?_; rotate_left 2; (focus (exact blk)); intro qy; have qyc0 := qy.cell 0; have qyf0 := qy.free 0; have qyc1 := qy.cell 1; have qyf1 := qy.free 1; have qyl := qy.lt; simp at qyc0 qyc1) | (go_at_call 76; (with_reducible refine (f_value m ⟨x.alo, x.whi⟩ _ HM.out HN.out).mono ?_); rintro e w1 ⟨rfl, hb1⟩; obtain ⟨hc1, hf1, hl1⟩ := bcell3 hb1; refine Blk.thru (b := wr.heap.size) (arr := ?_) (t := ?_) ?_ hb1 ?_; rotate_left 2; (focus (exact blk)); intro qy; have qyc0 := qy.cell 0; have qyf0 := qy.free 0; have qyc1 := qy.cell 1; have qyf1 := qy.free 1; have qyl := qy.lt; simp at qyc0 qyc1) | (go_at_call 76; (with_reducible refine (f_value m ⟨x.ahi, x.whi⟩ _ HM.out HN.out).mono ?_); rintro e w1 ⟨rfl, hb1⟩; obtain ⟨hc1, hf1, hl1⟩ := bcell3 hb1; refine Blk.thru (b := wr.heap.size) (arr := ?_) (t := ?_) ?_ hb1 ?_; rotate_left 2; (focus (exact blk)); intro qy; have qyc0 := qy.cell 0; have qyf0 := qy.free 0; have qyc1 := qy.cell 1; have qyf1 := qy.free 1; have qyl := qy.lt; simp at qyc0 qyc1))
          go_round
          case rel => exact ⟨1, Bk, by omega, by go_num, by rw [HS.out, HC.out], rfl, by (exact blk), by (exact blk), by (exact blk), by (exact blk), by (exact kpt)⟩
          case measure => simp [intOf]
        · simp only [nextC] at hc HC HN HS
          have q0c0 := q0.cell 0
          have q0f0 := q0.free 0
          have q0c1 := q0.cell 1
          have q0f1 := q0.free 1
          have q0c2 := q0.cell 2
          have q0f2 := q0.free 2
          have q0l := q0.lt
          simp at q0c0 q0c1 q0c2
          have q2c0 := q2.cell 0
          have q2f0 := q2.free 0
          have q2c1 := q2.cell 1
          have q2f1 := q2.free 1
          have q2l := q2.lt
          simp at q2c0 q2c1
          have q3c0 := q3.cell 0
          have q3f0 := q3.free 0
          have q3c1 := q3.cell 1
          have q3f1 := q3.free 1
          have q3l := q3.lt
          simp at q3c0 q3c1
          have q4c0 := q4.cell 0
          have q4f0 := q4.free 0
          have q4c1 := q4.cell 1
          have q4f1 := q4.free 1
          have q4c2 := q4.cell 2
          have q4f2 := q4.free 2
          have q4c3 := q4.cell 3
          have q4f3 := q4.free 3
          have q4c4 := q4.cell 4
          have q4f4 := q4.free 4
          have q4c5 := q4.cell 5
          have q4f5 := q4.free 5
          have q4l := q4.lt
          simp at q4c0 q4c1 q4c2 q4c3 q4c4 q4c5
          go_wp2_with (first | (go_at_call 76; (with_reducible refine (f_value m ⟨x.ahi, x.wlo⟩ _ HM.out HN.out).mono ?_); rintro e w1 ⟨rfl, hb1⟩; obtain ⟨hc1, hf1, hl1⟩ := bcell3 hb1; refine Blk.thru (b := wr.heap.size) (arr := ?_) (t := ?_) ?_ hb1 ?_; rotate_left 2; (focus (exact blk)); intro qy; have qyc0 := qy.cell 0; have qyf0 := qy.free 0; have qyc1 := qy.cell 1; have qyf1 := qy.free 1; have qyl := qy.lt; simp at qyc0 qyc1) | (go_at_call 76; (with_reducible refine (f_value m ⟨x.alo, x.whi⟩ _ HM.out HN.out).mono ?_); rintro e w1 ⟨rfl, hb1⟩; obtain ⟨hc1, hf1, hl1⟩ := bcell3 hb1; refine Blk.thru (b := wr.heap.size) (arr := ?_) (t := ?_) ?_ hb1 ?_; rotate_left 2; (focus (exact blk)); intro qy; have qyc0 := qy.cell 0; have qyf0 := qy.free 0; have qyc1 := qy.cell 1; have qyf1 := qy.free 1; have qyl := qy.lt; simp at qyc0 qyc1) | (go_at_call 76; (with_reducible refine (f_value m ⟨x.ahi, x.whi⟩ _ HM.out HN.out).mono ?_); rintro e w1 ⟨rfl, hb1⟩; obtain ⟨hc1, hf1, hl1⟩ := bcell3 hb1; refine Blk.thru (b := wr.heap.size) (arr := ?_) (t := ?_) ?_ hb1 ?_; rotate_left 2; (focus (exact blk)); intro qy; have qyc0 := qy.cell 0; have qyf0 := qy.free 0; have qyc1 := qy.cell 1; have qyf1 := qy.free 1; have qyl := qy.lt; simp at qyc0 qyc1))
          go_round
          case rel => exact ⟨2, Bk, by omega, by go_num, by rw [HS.out, HC.out], rfl, by (exact blk), by (exact blk), by (exact blk), by (exact blk), by (exact kpt)⟩
          case measure => simp [intOf]
        · simp only [nextC] at hc HC HN HS
          have q0c0 := q0.cell 0
          have q0f0 := q0.free 0
          have q0c1 := q0.cell 1
          have q0f1 := q0.free 1
          have q0c2 := q0.cell 2
          have q0f2 := q0.free 2
          have q0l := q0.lt
          simp at q0c0 q0c1 q0c2
          have q2c0 := q2.cell 0
          have q2f0 := q2.free 0
          have q2c1 := q2.cell 1
          have q2f1 := q2.free 1
          have q2l := q2.lt
          simp at q2c0 q2c1
          have q3c0 := q3.cell 0
          have q3f0 := q3.free 0
          have q3c1 := q3.cell 1
          have q3f1 := q3.free 1
          have q3l := q3.lt
          simp at q3c0 q3c1
          have q4c0 := q4.cell 0
          have q4f0 := q4.free 0
          have q4c1 := q4.cell 1
          have q4f1 := q4.free 1
          have q4c2 := q4.cell 2
          have q4f2 := q4.free 2
          have q4c3 := q4.cell 3
          have q4f3 := q4.free 3
          have q4c4 := q4.cell 4
          have q4f4 := q4.free 4
          have q4c5 := q4.cell 5
          have q4f5 := q4.free 5
          have q4l := q4.lt
          simp at q4c0 q4c1 q4c2 q4c3 q4c4 q4c5
          go_wp2_with (first | (go_at_call 76; (with_reducible refine (f_value m ⟨x.ahi, x.wlo⟩ _ HM.out HN.out).mono ?_); rintro e w1 ⟨rfl, hb1⟩; obtain ⟨hc1, hf1, hl1⟩ := bcell3 hb1; refine Blk.thru (b := wr.heap.size) (arr := ?_) (t := ?_) ?_ hb1 ?_; rotate_left 2; (focus (exact blk)); intro qy; have qyc0 := qy.cell 0; have qyf0 := qy.free 0; have qyc1 := qy.cell 1; have qyf1 := qy.free 1; have qyl := qy.lt; simp at qyc0 qyc1) | (go_at_call 76; (with_reducible refine (f_value m ⟨x.alo, x.whi⟩ _ HM.out HN.out).mono ?_); rintro e w1 ⟨rfl, hb1⟩; obtain ⟨hc1, hf1, hl1⟩ := bcell3 hb1; refine Blk.thru (b := wr.heap.size) (arr := ?_) (t := ?_) ?_ hb1 ?_; rotate_left 2; (focus (exact blk)); intro qy; have qyc0 := qy.cell 0; have qyf0 := qy.free 0; have qyc1 := qy.cell 1; have qyf1 := qy.free 1; have qyl := qy.lt; simp at qyc0 qyc1) | (go_at_call 76; (with_reducible refine (f_value m ⟨x.ahi, x.whi⟩ _ HM.out HN.out).mono ?_); rintro e w1 ⟨rfl, hb1⟩; obtain ⟨hc1, hf1, hl1⟩ := bcell3 hb1; refine Blk.thru (b := wr.heap.size) (arr := ?_) (t := ?_) ?_ hb1 ?_; rotate_left 2; (focus (exact blk)); intro qy; have qyc0 := qy.cell 0; have qyf0 := qy.free 0; have qyc1 := qy.cell 1; have qyf1 := qy.free 1; have qyl := qy.lt; simp at qyc0 qyc1))
          go_round
          case rel => exact ⟨3, Bk, by omega, by go_num, by rw [HS.out, HC.out], rfl, by (exact blk), by (exact blk), by (exact blk), by (exact blk), by (exact kpt)⟩
          case measure => simp [intOf]
    · obtain rfl : k = 3 := by omega
      have q2c0 := q2.cell 0
      have q2f0 := q2.free 0
      have q2c1 := q2.cell 1
      have q2f1 := q2.free 1
      have q2l := q2.lt
      simp at q2c0 q2c1
      have q3c0 := q3.cell 0
      have q3f0 := q3.free 0
      have q3c1 := q3.cell 1
      have q3f1 := q3.free 1
      have q3l := q3.lt
      simp at q3c0 q3c1
      obtain rfl : Bk = best m x := hBk
      go_wp2
      exact bodyPost_ret (v := .tuple #[.agg #[.int .i64 (best m x).pos, .int .i64 (best m x).wt], .int .i64 (vOf m (best m x))]) (by simp [results, Try.results84, go_sem, q2c0, q2c1, q2f0, q2f1, q3c0, q3c1, q2l, q3l]) rfl ⟨rfl, by (exact kpt)⟩

theorem infoP : (Try.prog.info? 85).map (fun i => (i.zero, i.size, i.bytes)) = some (some (.agg #[.int .i64 0, .int .i64 0]), 2, 16) := by kernel_rfl
def WorstRel (w : World) (m : Limit) (xs : List Load) (s cv i : Value) (wr : World) : Prop :=
  ∃ k : Nat, k ≤ xs.length ∧ i = .int .i64 k ∧ s = .int .i64 (sumBy (fun x => vOf m (best m x)) (xs.take k)) ∧ wr.ownsRow w.heap.size 85 2 cv k ((choice m (xs.take k)).flatMap Put.cells) ∧ Kept w wr
theorem choice_snoc (m : Limit) (xs : List Load) (k : Nat) (hk : k < xs.length) : (choice m (xs.take (k + 1))).flatMap Put.cells = (choice m (xs.take k)).flatMap Put.cells ++ [.int .i64 (best m xs[k]).pos, .int .i64 (best m xs[k]).wt] := by
  rw [List.take_succ_eq_append_getElem hk]
  simp only [choice, List.map_append, List.map_cons, List.map_nil, List.flatMap_append, List.flatMap_cons, List.flatMap_nil, List.append_nil]
  rfl

theorem f_worst (m : Limit) (a : Option Addr) (cap : Nat) (xs : List Load) (w : World) (hx : Row Load.cells 4 w.heap.size w a xs) (hc : xs.length ≤ cap) (hM : cap ≤ maxLen) (hn : xs.length ≤ 40) (hm : limitB m = true) (hv : ∀ x ∈ xs, loadB x = true) :
    Calls Try.prog 83 #[.slice a xs.length cap, .func (.func 84) #[.agg #[.int .i64 m.a, .int .i64 m.b, .int .i64 m.c]] #[]] w fun e w' =>
      ∃ v, e = .returned (.tuple #[.int .i64 (worstV m xs), v]) ∧ w'.ownsRow w.heap.size 85 2 v (choice m xs).length ((choice m xs).flatMap Put.cells) ∧ Kept w w' := by
  unfold maxLen at hM
  have HSUM := Lib.hid (fun k => sumBy_take_bd (fun x => vOf m (best m x)) 22000000000000000 880000000000000000 xs 40 hn (by omega) (by omega) (fun x h => best_bd hm (hv x h)) k)
  have HW := Lib.hid (worstV_eq m xs)
  have HM := Lib.hid hm
  have HV := Lib.hid hv
  clear hm hv
  go_enter Try.func83, Try.ntmps83
  go_wp2
  go_loopw [6, 7, 14] (fun s cv i wr => WorstRel w m xs s cv i wr) (fun _ _ i _ => xs.length - (intOf i).toNat)
  case atStart => exact ⟨0, Nat.zero_le _, rfl, rfl, owns_nil (α := Put) (enc := Put.cells), Below.refl _ _⟩
  case round =>
    obtain ⟨k, hk, rfl, rfl, hown, hkk⟩ := hrel
    by_cases hlt : k < xs.length
    · obtain ⟨b, off, rfl, hb, h0, h1, h2, h3⟩ := Load.row (hx.later hkk (Nat.le_refl _)) k hlt
      obtain ⟨u1, u2⟩ := HSUM.out k
      have HX := Lib.hid (HV.out xs[k] (List.getElem_mem hlt))
      obtain ⟨u3, u4⟩ := best_bd HM.out HX.out
      have hks := hkk.size
      go_wp2_with (first | (go_at_call 84; (with_reducible refine (f_corner m xs[k] _ HM.out HX.out).mono ?_); rintro e w1 ⟨rfl, hb1⟩; obtain ⟨hc1, hf1, hl1⟩ := bcell3 hb1; have hs1 := hb1.size; simp at hs1) | (at_builtin; obtain ⟨i0, hi, hz0, hz1, hz2⟩ := info_parts infoP; refine wpList_append_own _ rfl _ _ 34 rfl w.heap.size 85 i0 (.agg #[.int .i64 0, .int .i64 0]) 2 16 Try.underlying34 hi hz0 hz1 hz2 rfl (by decide) _ _ _ rfl (((owns_keep (hown.alloc _) hb1).alloc _).alloc _) ⟨w1.heap.size + 1, 0, none⟩ 1 1 [.int .i64 (best m xs[k]).pos, .int .i64 (best m xs[k]).wt] rfl rfl (cell_two_at (by simp) _ _ _) (fun x hx => by simp at hx; rcases hx with rfl | rfl <;> rfl) (by unfold maxLen; omega) (by omega) (by simp; omega) ?_; intro v' w3 hown' hgrow hnil; clear hi hz0 hz1 hz2))
      have hk3 : Kept w w3 := Kept.grown (Kept.alloc (Kept.alloc (Kept.drop (Kept.alloc hkk _) hb1) _) _) (((owns_keep (hown.alloc _) hb1).alloc _).alloc _) (Nat.le_refl _) hgrow
      go_roundw
      case rel =>
        have hown2 : w3.ownsRow w.heap.size 85 2 v' (k + 1) ((choice m (xs.take (k + 1))).flatMap Put.cells) := by rw [choice_snoc m xs k hlt]; exact hown'
        first
        | exact ⟨k + 1, by omega, by go_num, by rw [sumBy_take _ _ _ hlt], hown2, hk3⟩
        | (apply Exists.intro; repeat (apply Exists.intro); refine ⟨?_, rfl⟩; exact ⟨k + 1, by omega, by go_num, by rw [sumBy_take _ _ _ hlt], hown2, hk3⟩)
      case measure => simp [intOf]; omega
    · obtain rfl : k = xs.length := by omega
      rw [List.take_length] at hown
      have hown2 := hown
      rw [show xs.length = (choice m xs).length from (choice_len m xs).symm] at hown2
      obtain ⟨ad, cp, rfl, _⟩ := owns_row (enc := Put.cells) (k := 2) (fun _ => rfl) hown2
      go_wp2
      exact bodyPost_ret (v := .tuple #[.int .i64 (sumBy (fun x => vOf m (best m x)) (xs.take xs.length)), .slice ad (choice m xs).length cp]) (by simp [results, Try.results83, go_sem]) rfl ⟨_, by rw [HW.out, List.take_length], hown2, hkk⟩

def worstE (m : Limit) (xs : List Load) : Int := if checkLoads xs = 0 then (if limitB m = true then 0 else 41) else checkLoads xs
def worstP (m : Limit) (xs : List Load) : List Put := if worstE m xs = 0 then choice m xs else []
def WorstPost (w : World) (m : Limit) (xs : List Load) (e : Ending) (w' : World) : Prop :=
  ∃ v, e = .returned (.tuple #[.int .i64 (ifOk (worstE m xs) (worstV m xs)), v, .int .i64 (worstE m xs)]) ∧ w'.ownsRow w.heap.size 85 2 v (worstP m xs).length ((worstP m xs).flatMap Put.cells) ∧ Kept w w'
theorem f_Worst (m : Limit) (a : Option Addr) (cap : Nat) (xs : List Load) (w : World) (hx : Row Load.cells 4 w.heap.size w a xs) (hc : xs.length ≤ cap) (hM : cap ≤ maxLen) :
    Calls Try.prog 33 #[.slice a xs.length cap, .agg #[.int .i64 m.a, .int .i64 m.b, .int .i64 m.c]] w fun e w' => WorstPost w m xs e w' := by
  unfold WorstPost worstP
  by_cases he : checkLoads xs = 0
  · cases hl : limitB m
    · have hE : worstE m xs = 41 := by unfold worstE; rw [if_pos he, hl]; rfl
      rw [hE, show ifOk 41 (worstV m xs) = 0 from rfl]
      have HE := Lib.hid he
      have HL := Lib.hid hl
      clear he hl hE
      go_enter Try.func33, Try.ntmps33
      go_wp2_with (first | (go_at_call 19; (with_reducible refine (f_CheckLoads _ _ _ _ (hx.later (by (exact kpt)) (Nat.le_refl _)) hc hM).mono ?_); rw [HE.out]; rintro e w1 ⟨rfl, hb1⟩; obtain ⟨hc1, hf1, hl1⟩ := bcell3 hb1; refine Blk.thru (b := w.heap.size) (arr := ?_) (t := ?_) ?_ hb1 ?_; rotate_left 2; (focus (exact blk)); intro qm; have qmc0 := qm.cell 0; have qmf0 := qm.free 0; have qmc1 := qm.cell 1; have qmf1 := qm.free 1; have qmc2 := qm.cell 2; have qmf2 := qm.free 2; have qml := qm.lt; simp at qmc0 qmc1 qmc2) | (go_at_call 63; (with_reducible refine (f_limited m _).mono ?_); rw [HL.out]; rintro e w1 ⟨rfl, hb1⟩; obtain ⟨hc1, hf1, hl1⟩ := bcell3 hb1; refine Blk.thru (b := w.heap.size) (arr := ?_) (t := ?_) ?_ hb1 ?_; rotate_left 2; (focus (exact blk)); intro qm; have qmc0 := qm.cell 0; have qmf0 := qm.free 0; have qmc1 := qm.cell 1; have qmf1 := qm.free 1; have qmc2 := qm.cell 2; have qmf2 := qm.free 2; have qml := qm.lt; simp at qmc0 qmc1 qmc2))
      exact bodyPost_ret (by simp [results, Try.results33, go_sem]) rfl ⟨_, rfl, owns_nil (α := Put) (enc := Put.cells), by (exact kpt)⟩
    · have hE : worstE m xs = 0 := by unfold worstE; rw [if_pos he, if_pos hl]
      rw [hE, show ifOk 0 (worstV m xs) = worstV m xs from rfl]
      obtain ⟨hn, hv⟩ := checkLoads_ok he
      have HN := Lib.hid hn
      have HV := Lib.hid hv
      have HE := Lib.hid he
      have HL := Lib.hid hl
      clear he hl hE hv hn
      go_enter Try.func33, Try.ntmps33
      go_wp2_with (first | (go_at_call 19; (with_reducible refine (f_CheckLoads _ _ _ _ (hx.later (by (exact kpt)) (Nat.le_refl _)) hc hM).mono ?_); rw [HE.out]; rintro e w1 ⟨rfl, hb1⟩; obtain ⟨hc1, hf1, hl1⟩ := bcell3 hb1; refine Blk.thru (b := w.heap.size) (arr := ?_) (t := ?_) ?_ hb1 ?_; rotate_left 2; (focus (exact blk)); intro qm; have qmc0 := qm.cell 0; have qmf0 := qm.free 0; have qmc1 := qm.cell 1; have qmf1 := qm.free 1; have qmc2 := qm.cell 2; have qmf2 := qm.free 2; have qml := qm.lt; simp at qmc0 qmc1 qmc2) | (go_at_call 63; (with_reducible refine (f_limited m _).mono ?_); rw [HL.out]; rintro e w1 ⟨rfl, hb1⟩; obtain ⟨hc1, hf1, hl1⟩ := bcell3 hb1; refine Blk.thru (b := w.heap.size) (arr := ?_) (t := ?_) ?_ hb1 ?_; rotate_left 2; (focus (exact blk)); intro qm; have qmc0 := qm.cell 0; have qmf0 := qm.free 0; have qmc1 := qm.cell 1; have qmf1 := qm.free 1; have qmc2 := qm.cell 2; have qmf2 := qm.free 2; have qml := qm.lt; simp at qmc0 qmc1 qmc2) | (go_at_call 83; (with_reducible refine (f_worst m _ _ xs _ (hx.later (by (exact kpt)) (Nat.le_refl _)) hc hM HN.out HL.out HV.out).mono ?_); rintro e w2 ⟨v, rfl, ho, hb2⟩))
      exact bodyPost_ret (by simp [results, Try.results33, go_sem]) rfl ⟨v, rfl, owns_base ho (Below.size (by (exact kpt))), by (exact kpt)⟩
  · have hE : worstE m xs = checkLoads xs := if_neg he
    rw [hE, if_neg he]
    have hb : (checkLoads xs != 0) = true := by simp [he]
    have HI := Lib.hid (show ifOk (checkLoads xs) (worstV m xs) = 0 from if_neg he)
    obtain ⟨E, hEE⟩ : ∃ E, E = checkLoads xs := ⟨_, rfl⟩
    have HE := Lib.hid hEE.symm
    rw [HI.out]
    rw [← hEE] at he hb ⊢
    clear hEE hE
    go_enter Try.func33, Try.ntmps33
    go_wp2_with (go_at_call 19; (with_reducible refine (f_CheckLoads _ _ _ _ (hx.later (by (exact kpt)) (Nat.le_refl _)) hc hM).mono ?_); rw [HE.out]; rintro e w1 ⟨rfl, hb1⟩; obtain ⟨hc1, hf1, hl1⟩ := bcell3 hb1; refine Blk.thru (b := w.heap.size) (arr := ?_) (t := ?_) ?_ hb1 ?_; rotate_left 2; (focus (exact blk)); intro qm; have qmc0 := qm.cell 0; have qmf0 := qm.free 0; have qmc1 := qm.cell 1; have qmf1 := qm.free 1; have qmc2 := qm.cell 2; have qmf2 := qm.free 2; have qml := qm.lt; simp at qmc0 qmc1 qmc2)
    exact bodyPost_ret (by simp [results, Try.results33, go_sem]) rfl ⟨_, rfl, owns_nil (α := Put) (enc := Put.cells), by (exact kpt)⟩

end Go.Proofs.Ytlloijkmpmfapaa

/-
  A region that draws its order, walked once in an order that is told: first operations that need no world, then operations that only read or call (calls may make memory), then the rest in one forced order. No program in sight.
-/
namespace Bal
open Go Go.RowKit

section
variable {P : Program} {ops : Array Oper} {md : Region.Mode} {C : World → Prop}

def ordTail (md : Region.Mode) (ops : Array Oper) : List Nat → Array Bool → Bool
  | [], listed => (Region.ready md ops listed).isEmpty
  | k :: r, listed => decide (Region.ready md ops listed = [k]) && ordTail md ops r (listed.setIfInBounds k true)
def sinkOrd (md : Region.Mode) (ops : Array Oper) (t0 : Nat) : List Nat → Bool
  | [] => true
  | i :: r => ((r ++ [t0]).any fun j => Region.waitsFor md ops j i) && sinkOrd md ops t0 r
def chainOrd (md : Region.Mode) (ops : Array Oper) : Nat → List Nat → Bool
  | _, [] => true
  | a, b :: r => Region.waitsFor md ops b a && chainOrd md ops b r
structure OrdInv (md : Region.Mode) (ops : Array Oper) (hd tl : List Nat) (listed : Array Bool) : Prop where
  size : listed.size = ops.size
  closed : ∀ j oj, ops[j]? = some oj → listed.getD j false = true → ∀ e ∈ oj.after, Region.binds md e = true → listed.getD e.on false = true
  tail : ∀ t, t ∈ tl → listed.getD t true = false
  cover : ∀ j, listed.getD j true = false → j ∈ hd ∨ j ∈ tl

theorem OrdInv.set {hd tl : List Nat} {listed : Array Bool} {i : Nat} (inv : OrdInv md ops hd tl listed) (hi : i ∈ Region.ready md ops listed) (hn : i ∉ tl) : OrdInv md ops hd tl (listed.setIfInBounds i true) := by
  obtain ⟨_, oi, hoi, hall⟩ := mem_ready.1 hi
  refine ⟨by simp [inv.size], fun j oj hj hl e he hb => ?_, fun t ht => ?_, fun j hj => ?_⟩
  · by_cases hij : i = j
    · subst hij
      have : oj = oi := Option.some.inj (hj.symm.trans hoi)
      subst this
      exact getD_set_true (hall e he hb)
    · rw [getD_set_ne false hij] at hl
      exact getD_set_true (inv.closed j oj hj hl e he hb)
  · rw [getD_set_ne true (fun e => hn (by rw [e]; exact ht))]; exact inv.tail t ht
  · by_cases hij : i = j
    · subst hij
      exfalso
      rcases Nat.lt_or_ge i listed.size with h' | h'
      · simp [h'] at hj
      · simp [Array.getElem?_eq_none (by simpa using h' : (listed.setIfInBounds i true).size ≤ i)] at hj
    · rw [getD_set_ne true hij] at hj
      exact inv.cover j hj

theorem sink_waits {hd tl : List Nat} {t0 : Nat} {listed : Array Bool} (inv : OrdInv md ops hd (t0 :: tl) listed) :
    ∀ (s : List Nat), sinkOrd md ops t0 s = true → ∀ i ∈ s, listed.getD i true = false → t0 ∉ Region.ready md ops listed
  | [], _, _, hi, _ => by cases hi
  | x :: r, hs, i, hi, hun => by
    simp only [sinkOrd, Bool.and_eq_true] at hs
    obtain ⟨h1, h2⟩ := hs
    rcases List.mem_cons.1 hi with rfl | hi
    · obtain ⟨j, hj, hw⟩ := List.any_eq_true.1 h1
      obtain ⟨oj, hoj, e, he, hb, hon⟩ := Region.waitsFor_spec hw
      rcases List.mem_append.1 hj with hj | hj
      · cases hl : listed.getD j false with
        | true =>
          have h3 := inv.closed j oj hoj hl e he hb
          rw [hon, getD_both hun] at h3
          cases h3
        | false =>
          have hjs : j < listed.size := by rw [inv.size]; exact (Array.getElem?_eq_some_iff.1 hoj).1
          exact sink_waits inv r h2 j hj (getD_in hjs hl)
      · have : j = t0 := by simpa using hj
        subst this
        intro hr
        obtain ⟨_, o', ho', hall⟩ := mem_ready.1 hr
        have : oj = o' := Option.some.inj (hoj.symm.trans ho')
        subst this
        have h3 := hall e he hb
        rw [hon, getD_both hun] at h3
        cases h3
    · exact sink_waits inv r h2 i hi hun

theorem chain_mem : ∀ (tl : List Nat) (t0 : Nat), chainOrd md ops t0 tl = true → ∀ t ∈ tl, ∃ t' ∈ t0 :: tl, Region.waitsFor md ops t t' = true
  | [], _, _, t, ht => by cases ht
  | b :: r, t0, hc, t, ht => by
    simp only [chainOrd, Bool.and_eq_true] at hc
    rcases List.mem_cons.1 ht with rfl | ht
    · exact ⟨t0, by simp, hc.1⟩
    · obtain ⟨t', h1, h2⟩ := chain_mem r b hc.2 t ht
      exact ⟨t', List.mem_cons_of_mem _ h1, h2⟩

theorem wpAny_of_ordTail {Q' : Exit → Act → World → Prop} : ∀ (tl : List Nat) (l : List Oper) (listed : Array Bool) (a : Act) (w : World), tl.map (ops[·]?) = l.map some →
    ordTail md ops tl listed = true → wpList P ops Q' l a w → wpAny P md ops Q' l.length listed a w
  | [], [], _, _, _, _, hB, h => ⟨by simpa [ordTail] using hB, h⟩
  | [], _ :: _, _, _, _, hm, _, _ => by simp at hm
  | _ :: _, [], _, _, _, hm, _, _ => by simp at hm
  | k :: tl, o :: l, listed, a, w, hm, hB, h => by
    simp only [List.map_cons, List.cons.injEq] at hm
    obtain ⟨h0, hm'⟩ := hm
    simp only [ordTail, Bool.and_eq_true, decide_eq_true_eq] at hB
    refine ⟨fun h1 => (by rw [hB.1] at h1; cases h1), fun i hi => ?_⟩
    rw [hB.1] at hi
    have hik : i = k := by simpa using hi
    subst hik
    have hw : wpOp P ops Q' i (wpList P ops Q' l) a w := by unfold wpOp; simp only [h0]; exact h
    exact wpOp_mono (fun a' w' h' => wpAny_of_ordTail tl l _ a' w' hm' hB.2 h') hw

theorem filterMap_ok {l : List Oper} : ∀ (is : List Nat), (∀ i ∈ is, i < l.length) → is.map (l.toArray[·]?) = (is.filterMap (l[·]?)).map some ∧ (is.filterMap (l[·]?)).length = is.length
  | [], _ => ⟨rfl, rfl⟩
  | i :: is, h => by
    have hi := h i (by simp)
    obtain ⟨h1, h2⟩ := filterMap_ok is (fun j hj => h j (by simp [hj]))
    have e : l[i]? = some l[i] := by simp [hi]
    refine ⟨?_, ?_⟩
    · rw [List.map_cons, h1, List.filterMap_cons, e]
      simp [hi]
    · rw [List.filterMap_cons, e]
      simp [h2]

/-! ### The same, with operations that need no world among the others -/

/-- is one of hd yet to come? -/
def pendB (hd : List Nat) (listed : Array Bool) : Bool := hd.any fun i => !(listed.getD i true)

theorem pendB_false {hd : List Nat} {listed : Array Bool} (h : pendB hd listed = false) : ∀ i ∈ hd, listed.getD i true = true := fun i hi => by
  unfold pendB at h
  have := List.any_eq_false.1 h i hi
  simpa using this
theorem pendB_true {hd : List Nat} {listed : Array Bool} (h : pendB hd listed = true) : ∃ i ∈ hd, listed.getD i true = false := by
  unfold pendB at h
  obtain ⟨i, hi, h'⟩ := List.any_eq_true.1 h
  exact ⟨i, hi, by simpa using h'⟩

/-- whatever order is picked: while one of hd is yet to come only operations of hd and of wl may come up; then it is as the worlds of the class have it -/
def wpMix (P : Program) (md : Region.Mode) (ops : Array Oper) (C : World → Prop) (Q : Exit → Act → World → Prop) (hd wl : List Nat) : Nat → Array Bool → Act → Prop
  | 0, listed, a => ∀ w, C w → wpAny P md ops Q 0 listed a w
  | f + 1, listed, a =>
    (pendB hd listed = true → Region.ready md ops listed ≠ [] ∧ ∀ i ∈ Region.ready md ops listed, (i ∈ hd ∨ i ∈ wl) ∧ qOp P ops C i (wpMix P md ops C Q hd wl f (listed.setIfInBounds i true)) a) ∧
    (pendB hd listed = false → (∀ w, C w → wpAny P md ops Q (f + 1) listed a w) ∧ ∀ i ∈ Region.ready md ops listed, i ∈ wl → qOp P ops C i (wpMix P md ops C Q hd wl f (listed.setIfInBounds i true)) a)

theorem wpAny_of_mix {hd wl : List Nat} {Q : Exit → Act → World → Prop} : ∀ (f : Nat) (listed : Array Bool) (a : Act), wpMix P md ops C Q hd wl f listed a → ∀ w, C w → wpAny P md ops Q f listed a w
  | 0, _, _, h, w, hw => h w hw
  | f + 1, listed, a, h, w, hw => by
    cases hp : pendB hd listed with
    | true =>
      obtain ⟨h1, h2⟩ := h.1 hp
      exact ⟨fun h0 => absurd h0 h1, fun i hi => wpOp_of_qOp hw (fun a' w' hw' h' => wpAny_of_mix f _ a' h' w' hw') (h2 i hi).2⟩
    | false => exact (h.2 hp).1 w hw

/-- what is known of an operation that is taken: its value in the class; if it is one of wl, in whatever world -/
def Taken (P : Program) (ops : Array Oper) (C : World → Prop) (wl : List Nat) (i : Nat) (o : Oper) (v : Value) (a : Act) : Prop := YieldsIn P ops C o v a ∧ (i ∈ wl → Yields P ops o v a)

theorem Yields.inClass {o : Oper} {v : Value} {a : Act} (h : Yields P ops o v a) : YieldsIn P ops C o v a := by
  rcases h with ⟨h1, h2⟩ | h
  · exact .inl ⟨h1, fun w _ => by unfold Oper.quietAt; rw [h2 w]; exact ⟨rfl, rfl⟩⟩
  · exact .inr h

theorem qOp_put_taken {wl : List Nat} {i j : Nat} {oi oj : Oper} {v : Value} (hj : ops[j]? = some oj) (hap : oi.apart ops oj = true)
    (hsi : ∀ cs b, oi.op ≠ .select cs b) (hsj : ∀ cs b, oj.op ≠ .select cs b) {K : Act → Prop} {a : Act}
    (hy : Taken P ops C wl i oi v a) (h : qOp P ops C j K (a.put oi.dst v)) :
    qOp P ops C j (fun a' => Taken P ops C wl i oi v a' ∧ K (a'.put oi.dst v)) a := by
  obtain ⟨h1, h2, h3⟩ := Oper.apart_spec hap
  have keep : ∀ (a : Act), Taken P ops C wl i oi v a → ∀ u, Taken P ops C wl i oi v (a.put oj.dst u) := fun a hy u =>
    ⟨hy.1.of_same (execOp_put oi hsi a oj.dst u h3) (wanted_put oi a oj.dst u h3), fun hw => (hy.2 hw).of_same (execOp_put oi hsi a oj.dst u h3) (wanted_put oi a oj.dst u h3)⟩
  unfold qOp at *
  simp only [hj] at *
  rw [wanted_put oj a oi.dst v h1] at h
  split
  · rename_i hw
    simp only [hw, if_true] at h
    obtain ⟨u, hu, hn⟩ := h
    refine ⟨u, fun w hw' => ?_, keep a hy u, by rw [← Act.put_comm a v u h2]; exact hn⟩
    have := hu w hw'
    unfold Oper.quietAt at *
    rwa [execOp_put oj hsj a oi.dst v h1] at this
  · rename_i hw
    simp only [hw] at h
    exact ⟨keep a hy _, by rw [← Act.put_comm a v undef h2]; exact h⟩

/-- the invariant, hd and wl together -/
theorem wpMix_first {hd wl tl : List Nat} {t0 i : Nat} {oi : Oper} {v : Value} {Q : Exit → Act → World → Prop} (hne : ∃ w, C w) (hQ : ∀ c a w, ¬ Q (.panic c) a w) (hi : ops[i]? = some oi) (hsel : ∀ (j : Nat) (o : Oper) cs b, ops[j]? = some o → o.op ≠ .select cs b)
    (hs : sinkOrd md ops t0 hd = true) (hc : chainOrd md ops t0 tl = true) (hdis : ∀ j, j ∈ hd ∨ j ∈ wl → j ∉ t0 :: tl) (hin : i ∈ hd ∨ i ∈ wl) :
    ∀ (f : Nat) (listed : Array Bool) (a : Act), OrdInv md ops (hd ++ wl) (t0 :: tl) listed →
      (∀ j oj, ops[j]? = some oj → j ≠ i → listed.getD j true = false → (∀ e ∈ oj.after, Region.binds md e = true → e.on ≠ i) → oi.apart ops oj = true) →
      i ∈ Region.ready md ops listed → Taken P ops C wl i oi v a →
      wpMix P md ops C Q hd wl f (listed.setIfInBounds i true) (a.put oi.dst v) → wpMix P md ops C Q hd wl (f + 1) listed a := by
  have sinkR : ∀ listed, OrdInv md ops (hd ++ wl) (t0 :: tl) listed → pendB hd listed = true → ∀ j ∈ Region.ready md ops listed, j ∈ hd ∨ j ∈ wl := by
    intro listed inv hp j hj
    obtain ⟨x, hx, hxu⟩ := pendB_true hp
    rcases inv.cover j (mem_ready.1 hj).1 with h | h
    · exact List.mem_append.1 h
    · exfalso
      rcases List.mem_cons.1 h with rfl | h
      · exact sink_waits inv hd hs x hx hxu hj
      · obtain ⟨t', ht', hw⟩ := chain_mem tl t0 hc j h
        obtain ⟨oj, hoj, e, he, hb, hon⟩ := Region.waitsFor_spec hw
        obtain ⟨_, o', ho', hall⟩ := mem_ready.1 hj
        have : oj = o' := Option.some.inj (hoj.symm.trans ho')
        subst this
        have h3 := hall e he hb
        rw [hon, getD_both (inv.tail t' ht')] at h3
        cases h3
  have inW : ∀ listed, pendB hd listed = false → i ∈ Region.ready md ops listed → i ∈ wl := by
    intro listed hp hr
    rcases hin with h | h
    · have h1 := pendB_false hp i h
      rw [(mem_ready.1 hr).1] at h1
      cases h1
    · exact h
  intro f
  induction f with
  | zero =>
    intro listed a inv hfree hr hy H
    have none : ∀ j, j ∈ Region.ready md ops listed → j ≠ i → False := fun j hj hji => by
      obtain ⟨w, hw⟩ := hne
      have h1 := ready_mono hj hji
      rw [(H w hw).1] at h1
      cases h1
    have one : ∀ j, j ∈ Region.ready md ops listed → qOp P ops C j (wpMix P md ops C Q hd wl 0 (listed.setIfInBounds j true)) a := fun j hj => by
      by_cases hji : j = i
      · subst hji; exact hy.1.qOp hi H
      · exact (none j hj hji).elim
    exact ⟨fun hp => ⟨fun h => (by rw [h] at hr; cases hr), fun j hj => ⟨sinkR listed inv hp j hj, one j hj⟩⟩,
      fun hp => ⟨fun w hw => wpAny_first hi hsel (fun c a w hq => absurd hq (hQ _ _ _)) 0 listed a w hfree hr (hy.2 (inW listed hp hr)) (H w hw), fun j hj _ => one j hj⟩⟩
  | succ f ih =>
    intro listed a inv hfree hr hy H
    have step : ∀ j, j ∈ Region.ready md ops listed → j ≠ i → (j ∈ hd ∨ j ∈ wl) → qOp P ops C j (wpMix P md ops C Q hd wl f ((listed.setIfInBounds i true).setIfInBounds j true)) (a.put oi.dst v) →
        qOp P ops C j (wpMix P md ops C Q hd wl (f + 1) (listed.setIfInBounds j true)) a := fun j hj hji hjn h1 => by
      obtain ⟨hjun, oj, hoj, hall⟩ := mem_ready.1 hj
      have hun := (mem_ready.1 hr).1
      have hnot : ∀ e ∈ oj.after, Region.binds md e = true → e.on ≠ i := fun e he hb heq => by
        have h1 := hall e he hb
        rw [heq, getD_both hun] at h1
        cases h1
      have h2 := qOp_put_taken hoj (hfree j oj hoj hji hjun hnot) (fun cs b => hsel i oi cs b hi) (fun cs b => hsel j oj cs b hoj) hy h1
      have hfree' : ∀ k ok, ops[k]? = some ok → k ≠ i → (listed.setIfInBounds j true).getD k true = false →
          (∀ e ∈ ok.after, Region.binds md e = true → e.on ≠ i) → oi.apart ops ok = true := fun k ok hk hki hun hno => by
        refine hfree k ok hk hki ?_ hno
        by_cases hjk : j = k
        · subst hjk; exact hjun
        · rw [getD_set_ne true hjk] at hun; exact hun
      refine qOp_mono (fun a' h3 => ih (listed.setIfInBounds j true) a' (inv.set hj (hdis j hjn)) hfree' (ready_mono hr (Ne.symm hji)) h3.1 ?_) h2
      rw [Array.setIfInBounds_comm _ _ hji]
      exact h3.2
    have pend_set : ∀ j ∈ hd, j ≠ i → listed.getD j true = false → pendB hd (listed.setIfInBounds i true) = true := fun j hj hji hju => by
      unfold pendB
      exact List.any_eq_true.2 ⟨j, hj, by rw [getD_set_ne true (Ne.symm hji), hju]; rfl⟩
    refine ⟨fun hp => ⟨fun h => (by rw [h] at hr; cases hr), fun j hj => ⟨sinkR listed inv hp j hj, ?_⟩⟩, fun hp => ⟨fun w hw => ?_, fun j hj hjw => ?_⟩⟩
    · by_cases hji : j = i
      · subst hji; exact hy.1.qOp hi H
      · have hjn := sinkR listed inv hp j hj
        have hjr := ready_mono hj hji
        cases hp' : pendB hd (listed.setIfInBounds i true) with
        | true => exact step j hj hji hjn ((H.1 hp').2 j hjr).2
        | false =>
          rcases hjn with h | h
          · rw [pend_set j h hji (mem_ready.1 hj).1] at hp'
            cases hp'
          · exact step j hj hji (.inr h) ((H.2 hp').2 j hjr h)
    · exact wpAny_first hi hsel (fun c a w hq => absurd hq (hQ _ _ _)) (f + 1) listed a w hfree hr (hy.2 (inW listed hp hr)) (wpAny_of_mix (f + 1) _ _ H w hw)
    · by_cases hji : j = i
      · subst hji; exact hy.1.qOp hi H
      · have hjr := ready_mono hj hji
        cases hp' : pendB hd (listed.setIfInBounds i true) with
        | true => exact step j hj hji (.inr hjw) ((H.1 hp').2 j hjr).2
        | false => exact step j hj hji (.inr hjw) ((H.2 hp').2 j hjr hjw)

/-- steps: an operation that needs no world, or a quiet one -/
def wpSteps (P : Program) (ops : Array Oper) (C : World → Prop) (K : Act → Prop) : List (Bool × Oper) → Act → Prop
  | [], a => K a
  | (true, o) :: r, a => ∃ v, Yields P ops o v a ∧ wpSteps P ops C K r (a.put o.dst v)
  | (false, o) :: r, a => wpQuiet P ops C (fun a' => wpSteps P ops C K r a') [o] a

theorem wpSteps_nil {K : Act → Prop} {a : Act} (h : K a) : wpSteps P ops C K [] a := h
theorem wpSteps_any {K : Act → Prop} {a : Act} {o : Oper} {r : List (Bool × Oper)} (v : Value) (hg : o.guard = none) (hy : ∀ w, (execOp a.eval o).run P w = .ok (.value v) w) (h : wpSteps P ops C K r (a.put o.dst v)) : wpSteps P ops C K ((true, o) :: r) a :=
  ⟨v, .inl ⟨by simp [Region.wanted, hg], hy⟩, h⟩
theorem wpSteps_quiet {K : Act → Prop} {a : Act} {o : Oper} {r : List (Bool × Oper)} (h : wpQuiet P ops C (fun a' => wpSteps P ops C K r a') [o] a) : wpSteps P ops C K ((false, o) :: r) a := h

def ordMixB (md : Region.Mode) (ops : Array Oper) (hd wl tl : List Nat) : List (Bool × Nat) → Array Bool → Bool
  | [], listed => !pendB hd listed && wl.all (fun i => listed.getD i true) && ordTail md ops tl listed
  | (_, i) :: r, listed => (Region.ready md ops listed).contains i && Region.free md ops listed i && ordMixB md ops hd wl tl r (listed.setIfInBounds i true)

theorem wpMix_lex {hd wl tl : List Nat} {t0 : Nat} {Q : Exit → Act → World → Prop} (hne : ∃ w, C w) (hQ : ∀ c a w, ¬ Q (.panic c) a w) (hsel : Region.noSelect ops = true) (hs : sinkOrd md ops t0 hd = true) (hc : chainOrd md ops t0 tl = true) (hdis : ∀ j, j ∈ hd ∨ j ∈ wl → j ∉ t0 :: tl)
    (hw1 : ∀ j ∈ hd, j ∉ wl) (lt : List Oper) (ht : (t0 :: tl).map (ops[·]?) = lt.map some) {K : Act → Prop} (hK : ∀ a w, C w → K a → wpList P ops Q lt a w) :
    ∀ (is : List (Bool × Nat)) (l : List (Bool × Oper)) (listed : Array Bool) (a : Act), is.map (fun x => (x.1, ops[x.2]?)) = l.map (fun x => (x.1, some x.2)) → (∀ x ∈ is, (x.1 = true → x.2 ∈ wl) ∧ (x.1 = false → x.2 ∈ hd)) → OrdInv md ops (hd ++ wl) (t0 :: tl) listed →
    ordMixB md ops hd wl (t0 :: tl) is listed = true → wpSteps P ops C K l a → wpMix P md ops C Q hd wl (l.length + lt.length) listed a
  | [], [], listed, a, _, _, _, hB, h => by
    simp only [ordMixB, Bool.and_eq_true, Bool.not_eq_true'] at hB
    obtain ⟨⟨h1, h2⟩, h3⟩ := hB
    have fin : ∀ w, C w → wpAny P md ops Q lt.length listed a w := fun w hw => wpAny_of_ordTail (t0 :: tl) lt listed a w ht h3 (hK a w hw h)
    simp only [List.length_nil, Nat.zero_add]
    cases hl : lt.length with
    | zero => intro w hw; rw [← hl]; exact fin w hw
    | succ n =>
      refine ⟨fun hp => (by rw [h1] at hp; cases hp), fun _ => ⟨fun w hw => (by rw [← hl]; exact fin w hw), fun i hi hiw => ?_⟩⟩
      have := List.all_eq_true.1 h2 i hiw
      rw [(mem_ready.1 hi).1] at this
      cases this
  | [], _ :: _, _, _, hm, _, _, _, _ => by simp at hm
  | _ :: _, [], _, _, hm, _, _, _, _ => by simp at hm
  | (b, i) :: is, (b', o) :: l, listed, a, hm, hin, inv, hB, h => by
    simp only [List.map_cons, List.cons.injEq, Prod.mk.injEq] at hm
    obtain ⟨⟨rfl, h0⟩, hm'⟩ := hm
    simp only [ordMixB, Bool.and_eq_true] at hB
    obtain ⟨⟨hr, hf⟩, hB'⟩ := hB
    have hr' : i ∈ Region.ready md ops listed := by simpa using hr
    have hmem : i ∈ hd ∨ i ∈ wl := by
      have := hin (b, i) (by simp)
      cases b with
      | true => exact .inr (this.1 rfl)
      | false => exact .inl (this.2 rfl)
    have inv' := inv.set hr' (hdis i hmem)
    rw [show ((b, o) :: l).length + lt.length = (l.length + lt.length) + 1 by simp only [List.length_cons]; omega]
    obtain ⟨v, hy, hK'⟩ : ∃ v, Taken P ops C wl i o v a ∧ wpSteps P ops C K l (a.put o.dst v) := by
      cases b with
      | true =>
        obtain ⟨v, hy, h'⟩ := h
        exact ⟨v, ⟨Yields.inClass hy, fun _ => hy⟩, h'⟩
      | false =>
        have hst : qOp P ops C i (fun a' => wpSteps P ops C K l a') a := by
          have h' : wpQuiet P ops C (fun a' => wpSteps P ops C K l a') [o] a := h
          unfold qOp; simp only [h0]; exact h'
        obtain ⟨v, hy, h'⟩ := yieldsIn_of_qOp h0 hst
        exact ⟨v, ⟨hy, fun hw => absurd hw (hw1 i ((hin (false, i) (by simp)).2 rfl))⟩, h'⟩
    exact wpMix_first hne hQ h0 (Region.noSelect_spec hsel) hs hc hdis hmem _ listed a inv (Region.free_spec h0 hf) hr' hy
      (wpMix_lex hne hQ hsel hs hc hdis hw1 lt ht hK is l _ _ hm' (fun x hx => hin x (by simp [hx])) inv' hB' hK')

def mixB (md : Region.Mode) (ops : Array Oper) (is : List (Bool × Nat)) (t0 : Nat) (tl : List Nat) : Bool :=
  let hd := (is.filter (fun x => !x.1)).map (·.2)
  let wl := (is.filter (·.1)).map (·.2)
  Region.noSelect ops && sinkOrd md ops t0 hd && chainOrd md ops t0 tl && ((List.range ops.size).all fun i => hd.contains i || wl.contains i || (t0 :: tl).contains i) &&
    ((t0 :: tl).all fun t => !hd.contains t && !wl.contains t) && (hd.all fun i => !wl.contains i) && ordMixB md ops hd wl (t0 :: tl) is (Array.replicate ops.size false)

theorem filterMap_ok2 {l : List Oper} : ∀ (is : List (Bool × Nat)), (∀ x ∈ is, x.2 < l.length) →
    is.map (fun x => (x.1, l.toArray[x.2]?)) = (is.filterMap fun x => (l[x.2]?).map fun o => (x.1, o)).map (fun x => (x.1, some x.2)) ∧ (is.filterMap fun x => (l[x.2]?).map fun o => (x.1, o)).length = is.length
  | [], _ => ⟨rfl, rfl⟩
  | (b, i) :: is, h => by
    have hi := h (b, i) (by simp)
    obtain ⟨h1, h2⟩ := filterMap_ok2 is (fun j hj => h j (by simp [hj]))
    have e : l[i]? = some l[i] := by simp [hi]
    refine ⟨?_, ?_⟩
    · rw [List.map_cons, h1, List.filterMap_cons]
      simp only [e, Option.map_some, List.map_cons]
      simp [hi]
    · rw [List.filterMap_cons]
      simp only [e, Option.map_some, List.length_cons]
      simp [h2]

/-- THE THEOREM: is: the operations in the order in which they are walked, 'true' at one that needs no world; t0, tl: the rest, in one forced order. -/
theorem later_mix {P : Program} {id : Nat} {Q : Exit → Act → World → Prop} {a : Act} {w : World} {l : List Oper} (is : List (Bool × Nat)) (t0 : Nat) (tl : List Nat) (hm : P.follows .mixedOrders = true)
    (hB : (mixB .any l.toArray is t0 tl && (is.map (·.2) ++ t0 :: tl).all (fun i => decide (i < l.length)) && decide (is.length + (t0 :: tl).length = l.length)) = true)
    (h : wpSteps P l.toArray (fun w' => ∃ g : Later w, w' = g.val) (fun a' => ∀ g : Later w, wpList P l.toArray (NoPanic Q) ((t0 :: tl).filterMap (l[·]?)) a' g.val) (is.filterMap fun x => (l[x.2]?).map fun o => (x.1, o)) a) :
    (Code.region id l.toArray true).wp P Q a w := by
  simp only [mixB, Bool.and_eq_true, decide_eq_true_eq, List.all_eq_true, List.mem_append] at hB
  obtain ⟨⟨⟨⟨⟨⟨⟨⟨hsel, hs⟩, hc⟩, hcov⟩, hdis⟩, hwd⟩, hord⟩, hlt⟩, hlen⟩ := hB
  obtain ⟨q1, q2⟩ := filterMap_ok2 is (fun x hx => hlt x.2 (.inl (List.mem_map.2 ⟨x, hx, rfl⟩)))
  obtain ⟨r1, r2⟩ := filterMap_ok (t0 :: tl) (fun i hi => hlt i (.inr hi))
  have hdis' : ∀ t ∈ t0 :: tl, t ∉ (is.filter (fun x => !x.1)).map (·.2) ∧ t ∉ (is.filter (·.1)).map (·.2) := fun t ht => by
    have := hdis t ht
    simpa only [Bool.and_eq_true, Bool.not_eq_true', List.contains_eq_mem, decide_eq_false_iff_not] using this
  refine wp_region_noPanic (wp_region_any hm ?_)
  have inv0 : OrdInv .any l.toArray ((is.filter (fun x => !x.1)).map (·.2) ++ (is.filter (·.1)).map (·.2)) (t0 :: tl) (Array.replicate l.toArray.size false) := by
    refine ⟨by simp, fun j oj _ hl => (by rw [getD_replicate_false] at hl; cases hl), fun t ht' => ?_, fun j hj => ?_⟩
    · exact getD_in (by have := hlt t (.inr ht'); simpa using this) (getD_replicate_false _ _)
    · have hjl : j < l.toArray.size := by
        rcases Nat.lt_or_ge j l.toArray.size with h' | h'
        · exact h'
        · have hsz : (Array.replicate l.toArray.size false).size ≤ j := by simpa using h'
          have h1 : (Array.replicate l.toArray.size false).getD j true = true := by unfold Array.getD; rw [dif_neg (by omega)]
          rw [h1] at hj
          cases hj
      have := hcov j (List.mem_range.2 hjl)
      simp only [Bool.or_eq_true, List.contains_iff_mem] at this
      rcases this with (h' | h') | h'
      · exact .inl (List.mem_append.2 (.inl h'))
      · exact .inl (List.mem_append.2 (.inr h'))
      · exact .inr h'
  have key := wpMix_lex (P := P) (md := .any) (C := fun w' => ∃ g : Later w, w' = g.val) (Q := NoPanic Q) ⟨w, ⟨w, Below.refl _ _⟩, rfl⟩ (fun c a w hq => hq) hsel hs hc (fun j hj hj' => by
      rcases hj with h' | h'
      · exact (hdis' j hj').1 h'
      · exact (hdis' j hj').2 h') (fun j hj hj' => by
      have := hwd j hj
      simp only [Bool.not_eq_true', List.contains_eq_mem, decide_eq_false_iff_not] at this
      exact this hj') _ r1 (fun a' w' hw' hg => by obtain ⟨g, rfl⟩ := hw'; exact hg g) is _ _ a q1 (fun x hx => ⟨fun hb => List.mem_map.2 ⟨x, List.mem_filter.2 ⟨hx, hb⟩, rfl⟩, fun hb => List.mem_map.2 ⟨x, List.mem_filter.2 ⟨hx, by simp [hb]⟩, rfl⟩⟩) inv0 hord h
  have := wpAny_of_mix _ _ _ key { w with drawn := w.drawn + 1 } ⟨⟨w.drew, (Below.refl _ _).drew⟩, rfl⟩
  rw [q2, r2, hlen] at this
  simpa using this
end
end Bal

/-
  Breaches, in the program.
-/
namespace Go.Proofs.Ytlloijkmpmfapaa
open Go.RowKit Bal Bal.Trim
set_option linter.unusedVariables false
set_option linter.unusedSimpArgs false
set_option maxHeartbeats 800000

set_option maxRecDepth 10000

theorem inB_iff {n lo hi : Int} : inB n lo hi = true ↔ lo ≤ n ∧ n ≤ hi := by simp [inB]

theorem f_both (a : Option Addr) (cap : Nat) (xs : List Load) (b : Option Addr) (cb : Nat) (ms : List Limit) (w : World) (hx : Row Load.cells 4 w.heap.size w a xs) (hc : xs.length ≤ cap) (hM : cap ≤ maxLen) (hy : Row Limit.cells 3 w.heap.size w b ms) (hd : ms.length ≤ cb) (hN : cb ≤ maxLen) :
    Calls Try.prog 71 #[.slice a xs.length cap, .slice b ms.length cb] w fun e w' => e = .returned (.int .i64 (both xs ms)) ∧ Kept w w' := by
  unfold both
  by_cases he : checkLoads xs = 0
  · rw [if_pos he]
    have HE := Lib.hid he
    clear he
    go_enter Try.func71, Try.ntmps71
    go_wp2_with (first | (go_at_call 19; (with_reducible refine (f_CheckLoads _ _ _ _ (hx.later (by (exact kpt)) (Nat.le_refl _)) hc hM).mono ?_); rw [HE.out]; rintro e w1 ⟨rfl, hb1⟩; obtain ⟨hc1, hf1, hl1⟩ := bcell3 hb1) | (go_at_call 21; (with_reducible refine (f_CheckLimits _ _ _ _ (hy.later (by (exact kpt)) (Nat.le_refl _)) hd hN).mono ?_); rintro e w2 ⟨rfl, hb2⟩; obtain ⟨hc2, hf2, hl2⟩ := bcell3 hb2))
    go_ret
    exact ⟨rfl, by (exact kpt)⟩
  · rw [if_neg he]
    have hb : (checkLoads xs != 0) = true := by simp [he]
    obtain ⟨E, hEE⟩ : ∃ E, E = checkLoads xs := ⟨_, rfl⟩
    have HE := Lib.hid hEE.symm
    rw [← hEE] at he hb ⊢
    clear hEE
    go_enter Try.func71, Try.ntmps71
    go_wp2_with (go_at_call 19; (with_reducible refine (f_CheckLoads _ _ _ _ (hx.later (by (exact kpt)) (Nat.le_refl _)) hc hM).mono ?_); rw [HE.out]; rintro e w1 ⟨rfl, hb1⟩; obtain ⟨hc1, hf1, hl1⟩ := bcell3 hb1)
    go_ret
    exact ⟨rfl, by (exact kpt)⟩

def BrokenRel (w : World) (xs : List Load) (ms : List Limit) (i : Value) (wr : World) : Prop :=
  ∃ k : Nat, k ≤ ms.length ∧ i = .int .i64 k ∧ (∀ j, j < k → brk xs ms j = false) ∧ Blk wr w.heap.size #[.int .i64 0, .slice none 0 0] 36 ∧ Kept w wr
theorem f_broken (a : Option Addr) (cap : Nat) (xs : List Load) (b : Option Addr) (cb : Nat) (ms : List Limit) (w : World) (hx : Row Load.cells 4 w.heap.size w a xs) (hc : xs.length ≤ cap) (hM : cap ≤ maxLen) (hy : Row Limit.cells 3 w.heap.size w b ms) (hd : ms.length ≤ cb) (hN : cb ≤ maxLen) (he : both xs ms = 0) :
    Calls Try.prog 72 #[.slice a xs.length cap, .slice b ms.length cb] w fun e w' => ∃ v, e = .returned (.tuple #[.agg #[.int .i64 (optN (broken xs ms)), v], .bool (broken xs ms).isSome]) ∧
      w'.ownsRow w.heap.size 85 2 v (brP xs ms (broken xs ms)).length ((brP xs ms (broken xs ms)).flatMap Put.cells) ∧ Kept w w' := by
  obtain ⟨he1, he2⟩ := both_ok he
  obtain ⟨hn, hv⟩ := checkLoads_ok he1
  obtain ⟨hn2, hv2⟩ := checkLimits_ok he2
  obtain ⟨Ob, hOb⟩ : ∃ O, O = broken xs ms := ⟨_, rfl⟩
  have HSOME := Lib.hid (fun (k : Nat) (hk : k < ms.length) hb hh => @broken_some xs ms k hk hb hh)
  have HNONE := Lib.hid (fun hb => @broken_none xs ms hb)
  rw [← hOb] at HSOME HNONE ⊢
  clear hOb
  have HN := Lib.hid hn
  have HV := Lib.hid hv
  have HV2 := Lib.hid hv2
  have hNN := hN
  unfold maxLen at hNN
  clear he he1 he2 hv hv2
  go_enter Try.func72, Try.ntmps72
  go_wp2
  go_loopw [12] (fun i wr => BrokenRel w xs ms i wr) (fun i _ => ms.length - (intOf i).toNat)
  case atStart => exact ⟨0, Nat.zero_le _, rfl, fun j hj => by omega, by (exact blk), by (exact kpt)⟩
  case round =>
    obtain ⟨k, hk, rfl, hno, q0, hkk⟩ := hrel
    have HNO := Lib.hid hno
    clear hno
    by_cases hlt : k < ms.length
    · obtain ⟨bm, om, rfl, hbm, l0, l1, l2⟩ := Limit.row (hy.later hkk (Nat.le_refl _)) k hlt
      have HM := Lib.hid (HV2.out ms[k] (List.getElem_mem hlt))
      have HSK := Lib.hid (HSOME.out k hlt HNO.out)
      have HBF := Lib.hid (fun h => @brk_false xs ms k hlt h)
      have HBP := Lib.hid (brP_at (xs := xs) hlt)
      obtain ⟨m, hm0⟩ : ∃ m, m = ms[k] := ⟨_, rfl⟩
      rw [← hm0] at HM HSK HBF HBP l0 l1 l2
      clear hm0
      have q0lt := q0.lt
      by_cases hgt : m.c < worstV m xs
      · have HS := Lib.hid (HSK.out hgt)
        go_wp2_with (go_at_call 83; (with_reducible refine (f_worst m _ _ xs _ (hx.later (by (exact kpt)) (Nat.le_refl _)) hc hM HN.out HM.out HV.out).mono ?_); rintro e w2 ⟨v, rfl, ho, hb2⟩; obtain ⟨ad, cp, rfl, hrow, hcp, hcm⟩ := owns_row (enc := Put.cells) (k := 2) (fun _ => rfl) ho; refine Blk.thru (b := w.heap.size) (arr := ?_) (t := ?_) ?_ hb2 ?_; rotate_left 2; (focus (exact blk)); intro z0; have z0c0 := z0.cell 0; have z0f0 := z0.free 0; have z0c1 := z0.cell 1; have z0f1 := z0.free 1; have z0l := z0.lt; simp at z0c0 z0c1; refine Blk.thru (b := wr.heap.size) (arr := ?_) (t := ?_) ?_ hb2 ?_; rotate_left 2; (focus (exact blk)); intro qm; have qmc0 := qm.cell 0; have qmf0 := qm.free 0; have qmc1 := qm.cell 1; have qmf1 := qm.free 1; have qmc2 := qm.cell 2; have qmf2 := qm.free 2; have qml := qm.lt; simp at qmc0 qmc1 qmc2)
        have HP := HBP.out
        rw [← HS.out] at HP
        exact bodyPost_ret (v := .tuple #[.agg #[.int .i64 k, .slice ad (choice m xs).length cp], .bool true]) (by simp [results, Try.results72, go_sem, z0l, z0c0, z0c1, z0f0, z0f1]) rfl ⟨_, by rw [HS.out]; rfl, by rw [HP]; exact owns_base (owns_set (z0.set 0 _) (owns_set z0 ho (by decide)) (by decide)) (by have := hkk.size; simp; omega), by (exact kpt)⟩
      · have HF := Lib.hid (HBF.out hgt)
        go_wp2_with (go_at_call 83; (with_reducible refine (f_worst m _ _ xs _ (hx.later (by (exact kpt)) (Nat.le_refl _)) hc hM HN.out HM.out HV.out).mono ?_); rintro e w2 ⟨v, rfl, ho, hb2⟩; obtain ⟨ad, cp, rfl, hrow, hcp, hcm⟩ := owns_row (enc := Put.cells) (k := 2) (fun _ => rfl) ho; refine Blk.thru (b := w.heap.size) (arr := ?_) (t := ?_) ?_ hb2 ?_; rotate_left 2; (focus (exact blk)); intro z0; have z0c0 := z0.cell 0; have z0f0 := z0.free 0; have z0c1 := z0.cell 1; have z0f1 := z0.free 1; have z0l := z0.lt; simp at z0c0 z0c1; refine Blk.thru (b := wr.heap.size) (arr := ?_) (t := ?_) ?_ hb2 ?_; rotate_left 2; (focus (exact blk)); intro qm; have qmc0 := qm.cell 0; have qmf0 := qm.free 0; have qmc1 := qm.cell 1; have qmf1 := qm.free 1; have qmc2 := qm.cell 2; have qmf2 := qm.free 2; have qml := qm.lt; simp at qmc0 qmc1 qmc2)
        go_round
        case rel =>
          refine ⟨k + 1, by omega, by go_num, ?_, by (exact blk), by (exact kpt)⟩
          intro j hj
          by_cases hjk : j < k
          · exact HNO.out j hjk
          · obtain rfl : j = k := by omega
            exact HF.out
        case measure => simp [intOf]; omega
    · obtain rfl : k = ms.length := by omega
      have HS := Lib.hid (HNONE.out HNO.out)
      have q0c0 := q0.cell 0
      have q0f0 := q0.free 0
      have q0c1 := q0.cell 1
      have q0f1 := q0.free 1
      have q0l := q0.lt
      simp at q0c0 q0c1
      go_wp2
      obtain rfl := HS.out
      exact bodyPost_ret (v := .tuple #[.agg #[.int .i64 0, .slice none 0 0], .bool false]) (by simp [results, Try.results72, go_sem, q0c0, q0c1, q0f0, q0f1]) rfl ⟨_, rfl, owns_nil (α := Put) (enc := Put.cells), by (exact kpt)⟩

def BreachPost (w : World) (xs : List Load) (ms : List Limit) (e : Ending) (w' : World) : Prop :=
  ∃ v, e = .returned (.tuple #[.agg #[.int .i64 (breachN xs ms), v], .int .i64 (breachE xs ms)]) ∧ w'.ownsRow w.heap.size 85 2 v (breachP xs ms).length ((breachP xs ms).flatMap Put.cells) ∧ Kept w w'
theorem f_Breach (a : Option Addr) (cap : Nat) (xs : List Load) (b : Option Addr) (cb : Nat) (ms : List Limit) (w : World) (hx : Row Load.cells 4 w.heap.size w a xs) (hc : xs.length ≤ cap) (hM : cap ≤ maxLen) (hy : Row Limit.cells 3 w.heap.size w b ms) (hd : ms.length ≤ cb) (hN : cb ≤ maxLen) :
    Calls Try.prog 25 #[.slice a xs.length cap, .slice b ms.length cb] w fun e w' => BreachPost w xs ms e w' := by
  unfold BreachPost breachN breachE breachP
  by_cases he : both xs ms = 0
  · rw [if_pos he, if_pos he, if_pos he]
    have HE := Lib.hid he
    clear he
    cases hb : broken xs ms with
    | none =>
      have HB := Lib.hid hb
      clear hb
      go_enter Try.func25, Try.ntmps25
      go_wp2_with (first | (go_at_call 71; (with_reducible refine (f_both a cap xs b cb ms _ (hx.later (by (exact kpt)) (Nat.le_refl _)) hc hM (hy.later (by (exact kpt)) (Nat.le_refl _)) hd hN).mono ?_); rw [HE.out]; rintro e w1 ⟨rfl, hb1⟩; refine Blk.thru (b := w.heap.size) (arr := ?_) (t := ?_) ?_ hb1 ?_; rotate_left 2; (focus (exact blk)); intro z0; have z0c0 := z0.cell 0; have z0f0 := z0.free 0; have z0c1 := z0.cell 1; have z0f1 := z0.free 1; have z0l := z0.lt; simp at z0c0 z0c1) | (go_at_call 72; (with_reducible refine (f_broken a cap xs b cb ms _ (hx.later (by (exact kpt)) (Nat.le_refl _)) hc hM (hy.later (by (exact kpt)) (Nat.le_refl _)) hd hN HE.out).mono ?_); simp only [HB.out, optN, Option.isSome]; rintro e w2 ⟨v, rfl, ho, hb2⟩; obtain ⟨ad, cp, rfl, hrow, hcp, hcm⟩ := owns_row (enc := Put.cells) (k := 2) (fun _ => rfl) ho; refine Blk.thru (b := w.heap.size) (arr := ?_) (t := ?_) ?_ hb2 ?_; rotate_left 2; (focus (exact blk)); intro z0; have z0c0 := z0.cell 0; have z0f0 := z0.free 0; have z0c1 := z0.cell 1; have z0f1 := z0.free 1; have z0l := z0.lt; simp at z0c0 z0c1))
      exact bodyPost_ret (v := .tuple #[.agg #[.int .i64 0, .slice none 0 0], .int .i64 6]) (by simp [results, Try.results25, go_sem, z0c0, z0c1, z0f0, z0f1, z0l]) rfl ⟨_, rfl, owns_nil (α := Put) (enc := Put.cells), by (exact kpt)⟩
    | some k =>
      have HB := Lib.hid hb
      clear hb
      go_enter Try.func25, Try.ntmps25
      go_wp2_with (first | (go_at_call 71; (with_reducible refine (f_both a cap xs b cb ms _ (hx.later (by (exact kpt)) (Nat.le_refl _)) hc hM (hy.later (by (exact kpt)) (Nat.le_refl _)) hd hN).mono ?_); rw [HE.out]; rintro e w1 ⟨rfl, hb1⟩; refine Blk.thru (b := w.heap.size) (arr := ?_) (t := ?_) ?_ hb1 ?_; rotate_left 2; (focus (exact blk)); intro z0; have z0c0 := z0.cell 0; have z0f0 := z0.free 0; have z0c1 := z0.cell 1; have z0f1 := z0.free 1; have z0l := z0.lt; simp at z0c0 z0c1) | (go_at_call 72; (with_reducible refine (f_broken a cap xs b cb ms _ (hx.later (by (exact kpt)) (Nat.le_refl _)) hc hM (hy.later (by (exact kpt)) (Nat.le_refl _)) hd hN HE.out).mono ?_); simp only [HB.out, optN, Option.isSome]; rintro e w2 ⟨v, rfl, ho, hb2⟩; obtain ⟨ad, cp, rfl, hrow, hcp, hcm⟩ := owns_row (enc := Put.cells) (k := 2) (fun _ => rfl) ho; refine Blk.thru (b := w.heap.size) (arr := ?_) (t := ?_) ?_ hb2 ?_; rotate_left 2; (focus (exact blk)); intro z0; have z0c0 := z0.cell 0; have z0f0 := z0.free 0; have z0c1 := z0.cell 1; have z0f1 := z0.free 1; have z0l := z0.lt; simp at z0c0 z0c1))
      exact bodyPost_ret (v := .tuple #[.agg #[.int .i64 k, .slice ad (brP xs ms (some k)).length cp], .int .i64 0]) (by simp [results, Try.results25, go_sem, z0c0, z0c1, z0f0, z0f1, z0l]) rfl ⟨_, rfl, owns_base ((owns_set (z0.set 0 _) (owns_set z0 ho (by decide)) (by decide)).alloc _) (by have := hb1.size; simp at this; omega), by (exact kpt)⟩
  · rw [if_neg he, if_neg he, if_neg he]
    have hb : (both xs ms != 0) = true := by simp [he]
    obtain ⟨E, hEE⟩ : ∃ E, E = both xs ms := ⟨_, rfl⟩
    have HE := Lib.hid hEE.symm
    rw [← hEE] at he hb ⊢
    clear hEE
    go_enter Try.func25, Try.ntmps25
    go_wp2_with (go_at_call 71; (with_reducible refine (f_both a cap xs b cb ms _ (hx.later (by (exact kpt)) (Nat.le_refl _)) hc hM (hy.later (by (exact kpt)) (Nat.le_refl _)) hd hN).mono ?_); rw [HE.out]; rintro e w1 ⟨rfl, hb1⟩; refine Blk.thru (b := w.heap.size) (arr := ?_) (t := ?_) ?_ hb1 ?_; rotate_left 2; (focus (exact blk)); intro z0; have z0c0 := z0.cell 0; have z0f0 := z0.free 0; have z0c1 := z0.cell 1; have z0f1 := z0.free 1; have z0l := z0.lt; simp at z0c0 z0c1)
    exact bodyPost_ret (v := .tuple #[.agg #[.int .i64 0, .slice none 0 0], .int .i64 E]) (by simp [results, Try.results25, go_sem, z0c0, z0c1, z0f0, z0f1, z0l]) rfl ⟨_, rfl, owns_nil (α := Put) (enc := Put.cells), by (exact kpt)⟩

def CheckRel (w : World) (sb : Nat) (m : Limit) (xs : List Load) (ps : List Put) (s i : Value) (wr : World) : Prop :=
  ∃ (k : Nat) (v : Int), k ≤ xs.length ∧ i = .int .i64 k ∧ s = .int .i64 v ∧ v = sumBy (vOf m) (ps.take k) ∧ (∀ j, j < k → badAt xs ps j = false) ∧ Blk wr sb #[.int .i64 m.a, .int .i64 m.b, .int .i64 m.c] 126 ∧ Kept w wr

theorem f_CheckBreach (a : Option Addr) (cap : Nat) (xs : List Load) (b : Option Addr) (cb : Nat) (ms : List Limit) (w : World) (hx : Row Load.cells 4 w.heap.size w a xs) (hc : xs.length ≤ cap) (hM : cap ≤ maxLen) (hy : Row Limit.cells 3 w.heap.size w b ms) (hd : ms.length ≤ cb) (hN : cb ≤ maxLen) (n : Int) (ab : Option Addr) (cp : Nat) (ps : List Put) (hp : Row Put.cells 2 w.heap.size w ab ps) (hpc : ps.length ≤ cp) (hpM : cp ≤ maxLen) :
    Calls Try.prog 28 #[.slice a xs.length cap, .slice b ms.length cb, .agg #[.int .i64 n, .slice ab ps.length cp]] w fun e w' => e = .returned (.int .i64 (proofE xs ms n ps)) ∧ Kept w w' := by
  unfold proofE
  by_cases he : both xs ms = 0
  · rw [if_pos he]
    obtain ⟨he1, he2⟩ := both_ok he
    obtain ⟨hn, hv⟩ := checkLoads_ok he1
    obtain ⟨hn2, hv2⟩ := checkLimits_ok he2
    have HE := Lib.hid he
    clear he he1 he2
    unfold maxLen at hpM
    have hMM := hM
    have hNN := hN
    unfold maxLen at hMM hNN
    cases hr : inB n 0 (ms.length - 1)
    · have HR := Lib.hid hr
      simp only [Bool.false_and, Bool.false_eq_true, if_false]
      clear hr
      go_enter Try.func28, Try.ntmps28
      go_wp2_with (first | (go_at_call 71; (with_reducible refine (f_both _ _ _ _ _ _ _ (hx.later (by (exact kpt)) (Nat.le_refl _)) hc hM (hy.later (by (exact kpt)) (Nat.le_refl _)) hd hN).mono ?_); rw [HE.out]; rintro e w1 ⟨rfl, hb1⟩; obtain ⟨hc1, hf1, hl1⟩ := bcell3 hb1; refine Blk.thru (b := w.heap.size) (arr := ?_) (t := ?_) ?_ hb1 ?_; rotate_left 2; (focus (exact blk)); intro qb; have qbc0 := qb.cell 0; have qbf0 := qb.free 0; have qbc1 := qb.cell 1; have qbf1 := qb.free 1; have qbl := qb.lt; simp at qbc0 qbc1) | (go_at_call 68; (with_reducible refine (f_ranged _ _ _ _).mono ?_); rw [HR.out]; rintro e w2 ⟨rfl, rfl⟩))
      go_ret
      exact ⟨rfl, by (exact kpt)⟩
    · by_cases hl : ps.length = xs.length
      · have hr' := inB_iff.1 hr
        obtain ⟨i, rfl⟩ : ∃ i : Nat, n = i := ⟨n.toNat, by omega⟩
        have hi : i < ms.length := by omega
        simp only [hl, Int.toNat_natCast, List.getElem?_eq_getElem hi, decide_true, Bool.and_true, if_true]
        have HM := Lib.hid (hv2 ms[i] (List.getElem_mem hi))
        obtain ⟨bm, om, rfl, hbm, l0, l1, l2⟩ := Limit.row hy i hi
        obtain ⟨m, hm0⟩ : ∃ m, m = ms[i] := ⟨_, rfl⟩
        rw [← hm0] at HM l0 l1 l2 ⊢
        clear hm0
        have HR := Lib.hid hr
        have HV := Lib.hid hv
        have L0 : ∀ V, Kept w V → _ := fun V (h : Kept w V) => (h.cell (p := ⟨bm, om + i * 3, none⟩) hbm).trans l0
        have L1 : ∀ V, Kept w V → _ := fun V (h : Kept w V) => (h.cell (p := ⟨bm, om + i * 3 + 1, none⟩) hbm).trans l1
        have L2 : ∀ V, Kept w V → _ := fun V (h : Kept w V) => (h.cell (p := ⟨bm, om + i * 3 + 2, none⟩) hbm).trans l2
        clear hr hv hv2
        go_enter Try.func28, Try.ntmps28
        go_wp2_with (first | (go_at_call 71; (with_reducible refine (f_both _ _ _ _ _ _ _ (hx.later (by (exact kpt)) (Nat.le_refl _)) hc hM (hy.later (by (exact kpt)) (Nat.le_refl _)) hd hN).mono ?_); rw [HE.out]; rintro e w1 ⟨rfl, hb1⟩; obtain ⟨hc1, hf1, hl1⟩ := bcell3 hb1; refine Blk.thru (b := w.heap.size) (arr := ?_) (t := ?_) ?_ hb1 ?_; rotate_left 2; (focus (exact blk)); intro qb; have qbc0 := qb.cell 0; have qbf0 := qb.free 0; have qbc1 := qb.cell 1; have qbf1 := qb.free 1; have qbl := qb.lt; simp at qbc0 qbc1) | (go_at_call 68; (with_reducible refine (f_ranged _ _ _ _).mono ?_); rw [HR.out]; rintro e w2 ⟨rfl, rfl⟩))
        go_loopw [9, 42] (fun s i wr => CheckRel w w1.heap.size m xs ps s i wr) (fun _ i _ => xs.length - (intOf i).toNat)
        case atStart => exact ⟨0, 0, Nat.zero_le _, rfl, rfl, rfl, fun j hj => by omega, by (exact blk), by (exact kpt)⟩
        case round =>
          clear hc1 hf1 hl1 qbc0 qbc1 qbf0 qbf1 qbl qb
          obtain ⟨k, v, hk, rfl, rfl, hvv, hno, q0, hkk⟩ := hrel
          have HNO := Lib.hid hno
          have HVV := Lib.hid hvv
          have hvb := sum_take_B HM.out (show ps.length ≤ 40 by omega) (take_B hl HV.out hk hno)
          rw [← hvv] at hvb
          clear hno hvv
          by_cases hlt : k < xs.length
          · have hlp : k < ps.length := by omega
            obtain ⟨bx, ox, rfl, hbx, x0, x1, x2, x3⟩ := Load.row hx k hlt
            obtain ⟨bp, op, rfl, hbp, p0, p1⟩ := Put.row hp k hlp
            have HXB := Lib.hid (HV.out xs[k] (List.getElem_mem hlt))
            have HBA := Lib.hid (badAt_at hlt hlp)
            have HT := Lib.hid (sumBy_take (vOf m) ps k hlp)
            have HBADK := Lib.hid (fun hb => @proof_bad xs m ps k hlt HNO.out hb)
            obtain ⟨x, hx0⟩ : ∃ x, x = xs[k] := ⟨_, rfl⟩
            obtain ⟨p, hp0⟩ : ∃ p, p = ps[k] := ⟨_, rfl⟩
            rw [← hx0] at HXB HBA x0 x1 x2 x3
            rw [← hp0] at HBA HT p0 p1
            clear hx0 hp0
            have X0 : ∀ V, Kept w V → _ := fun V (h : Kept w V) => (h.cell (p := ⟨bx, ox + k * 4, none⟩) hbx).trans x0
            have X1 : ∀ V, Kept w V → _ := fun V (h : Kept w V) => (h.cell (p := ⟨bx, ox + k * 4 + 1, none⟩) hbx).trans x1
            have X2 : ∀ V, Kept w V → _ := fun V (h : Kept w V) => (h.cell (p := ⟨bx, ox + k * 4 + 2, none⟩) hbx).trans x2
            have X3 : ∀ V, Kept w V → _ := fun V (h : Kept w V) => (h.cell (p := ⟨bx, ox + k * 4 + 3, none⟩) hbx).trans x3
            have P0 : wr.cell? _ = _ := (hkk.cell (p := ⟨bp, op + k * 2, none⟩) hbp).trans p0
            have P1 : wr.cell? _ = _ := (hkk.cell (p := ⟨bp, op + k * 2 + 1, none⟩) hbp).trans p1
            clear x0 x1 x2 x3 p0 p1
            cases h1 : inB p.pos x.alo x.ahi
            · have R1 := Lib.hid (fun w => (by have := f_ranged p.pos x.alo x.ahi w; rwa [h1] at this : Calls Try.prog 68 #[.int .i64 p.pos, .int .i64 x.alo, .int .i64 x.ahi] w fun e w' => e = .returned (.bool false) ∧ w = w'))
              have HB := Lib.hid (HBADK.out (by rw [HBA.out]; simp [putIn, h1]))
              clear h1
              go_upto_region 10 with fail
              refine at_world (S := fun W => Blk W w1.heap.size #[.int .i64 m.a, .int .i64 m.b, .int .i64 m.c] 126 ∧ Blk W wr.heap.size #[.int .i64 p.pos, .int .i64 p.wt] 85 ∧ Kept w W) ⟨by (exact blk), by (exact blk), by (exact kpt)⟩ ?_
              rintro V ⟨qs, qp, hkV⟩
              have y0 := fun g : Later V => X0 _ (Kept.drop hkV g.ok)
              have y1 := fun g : Later V => X1 _ (Kept.drop hkV g.ok)
              have y2 := fun g : Later V => X2 _ (Kept.drop hkV g.ok)
              have y3 := fun g : Later V => X3 _ (Kept.drop hkV g.ok)
              have qpc0 := fun g : Later V => (qp.later g).cell 0
              have qpf0 := fun g : Later V => (qp.later g).free 0
              have qpc1 := fun g : Later V => (qp.later g).cell 1
              have qpf1 := fun g : Later V => (qp.later g).free 1
              have qpl := fun g : Later V => (qp.later g).lt
              simp at qpc0 qpc1
              refine Later.region (by kernel_rfl) (by kernel_rfl) ?_
              repeat (first | go_big_quiet_skip | (go_big_quiet_want; go_big_quiet_op; first | go_big_quiet_on | (apply Exists.intro; refine ⟨fun g => ?_, ?_⟩; (focus (first | (go_at_call 68; with_reducible exact Later.call_same (R1.out _)))); go_big_quiet_on)))
              refine wpQuiet_nil ?_
              intro gg
              have hkgg := Kept.drop hkV gg.ok
              go_wp2
              go_ret
              exact ⟨ret_int HB.out.symm, by (exact kpt)⟩
            · cases h2 : inB p.wt x.wlo x.whi
              · have R1 := Lib.hid (fun w => (by have := f_ranged p.pos x.alo x.ahi w; rwa [h1] at this : Calls Try.prog 68 #[.int .i64 p.pos, .int .i64 x.alo, .int .i64 x.ahi] w fun e w' => e = .returned (.bool true) ∧ w = w'))
                have R2 := Lib.hid (fun w => (by have := f_ranged p.wt x.wlo x.whi w; rwa [h2] at this : Calls Try.prog 68 #[.int .i64 p.wt, .int .i64 x.wlo, .int .i64 x.whi] w fun e w' => e = .returned (.bool false) ∧ w = w'))
                have HB := Lib.hid (HBADK.out (by rw [HBA.out]; simp [putIn, h1, h2]))
                clear h1 h2
                go_upto_region 10 with fail
                refine at_world (S := fun W => Blk W w1.heap.size #[.int .i64 m.a, .int .i64 m.b, .int .i64 m.c] 126 ∧ Blk W wr.heap.size #[.int .i64 p.pos, .int .i64 p.wt] 85 ∧ Kept w W) ⟨by (exact blk), by (exact blk), by (exact kpt)⟩ ?_
                rintro V ⟨qs, qp, hkV⟩
                have y0 := fun g : Later V => X0 _ (Kept.drop hkV g.ok)
                have y1 := fun g : Later V => X1 _ (Kept.drop hkV g.ok)
                have y2 := fun g : Later V => X2 _ (Kept.drop hkV g.ok)
                have y3 := fun g : Later V => X3 _ (Kept.drop hkV g.ok)
                have qpc0 := fun g : Later V => (qp.later g).cell 0
                have qpf0 := fun g : Later V => (qp.later g).free 0
                have qpc1 := fun g : Later V => (qp.later g).cell 1
                have qpf1 := fun g : Later V => (qp.later g).free 1
                have qpl := fun g : Later V => (qp.later g).lt
                simp at qpc0 qpc1
                refine Later.region (by kernel_rfl) (by kernel_rfl) ?_
                repeat (first | go_big_quiet_skip | (go_big_quiet_want; go_big_quiet_op; first | go_big_quiet_on | (apply Exists.intro; refine ⟨fun g => ?_, ?_⟩; (focus (first | (go_at_call 68; with_reducible exact Later.call_same (R1.out _)) | (go_at_call 68; with_reducible exact Later.call_same (R2.out _)))); go_big_quiet_on)))
                refine wpQuiet_nil ?_
                intro gg
                have hkgg := Kept.drop hkV gg.ok
                go_wp2
                go_ret
                exact ⟨ret_int HB.out.symm, by (exact kpt)⟩
              · have R1 := Lib.hid (fun w => (by have := f_ranged p.pos x.alo x.ahi w; rwa [h1] at this : Calls Try.prog 68 #[.int .i64 p.pos, .int .i64 x.alo, .int .i64 x.ahi] w fun e w' => e = .returned (.bool true) ∧ w = w'))
                have R2 := Lib.hid (fun w => (by have := f_ranged p.wt x.wlo x.whi w; rwa [h2] at this : Calls Try.prog 68 #[.int .i64 p.wt, .int .i64 x.wlo, .int .i64 x.whi] w fun e w' => e = .returned (.bool true) ∧ w = w'))
                have HGOOD := Lib.hid (show badAt xs ps k = false by rw [HBA.out]; simp [putIn, h1, h2])
                have HPB := Lib.hid (putIn_B HXB.out (show putIn x p = true by simp [putIn, h1, h2]))
                obtain ⟨w1b, w2b, w3b⟩ := put_bd HM.out HPB.out
                have w4b := vOf_bd HM.out HPB.out
                clear h1 h2
                go_upto_region 10 with fail
                refine at_world (S := fun W => Blk W w1.heap.size #[.int .i64 m.a, .int .i64 m.b, .int .i64 m.c] 126 ∧ Blk W wr.heap.size #[.int .i64 p.pos, .int .i64 p.wt] 85 ∧ Kept w W) ⟨by (exact blk), by (exact blk), by (exact kpt)⟩ ?_
                rintro V ⟨qs, qp, hkV⟩
                have y0 := fun g : Later V => X0 _ (Kept.drop hkV g.ok)
                have y1 := fun g : Later V => X1 _ (Kept.drop hkV g.ok)
                have y2 := fun g : Later V => X2 _ (Kept.drop hkV g.ok)
                have y3 := fun g : Later V => X3 _ (Kept.drop hkV g.ok)
                have qpc0 := fun g : Later V => (qp.later g).cell 0
                have qpf0 := fun g : Later V => (qp.later g).free 0
                have qpc1 := fun g : Later V => (qp.later g).cell 1
                have qpf1 := fun g : Later V => (qp.later g).free 1
                have qpl := fun g : Later V => (qp.later g).lt
                simp at qpc0 qpc1
                refine Later.region (by kernel_rfl) (by kernel_rfl) ?_
                repeat (first | go_big_quiet_skip | (go_big_quiet_want; go_big_quiet_op; first | go_big_quiet_on | (apply Exists.intro; refine ⟨fun g => ?_, ?_⟩; (focus (first | (go_at_call 68; with_reducible exact Later.call_same (R1.out _)) | (go_at_call 68; with_reducible exact Later.call_same (R2.out _)))); go_big_quiet_on)))
                refine wpQuiet_nil ?_
                intro gg
                have hkgg := Kept.drop hkV gg.ok
                have s0 := qs.later gg
                have s1 := qp.later gg
                clear qpc0 qpc1 qpf0 qpf1 qpl
                have s0c0 := s0.cell 0
                have s0f0 := s0.free 0
                have s0c1 := s0.cell 1
                have s0f1 := s0.free 1
                have s0c2 := s0.cell 2
                have s0f2 := s0.free 2
                have s0l := s0.lt
                simp at s0c0 s0c1 s0c2
                have s1c0 := s1.cell 0
                have s1f0 := s1.free 0
                have s1c1 := s1.cell 1
                have s1f1 := s1.free 1
                have s1l := s1.lt
                simp at s1c0 s1c1
                go_wp2_with (go_at_call 76; (with_reducible refine (f_value m p _ HM.out HPB.out).mono ?_); rintro e w3 ⟨rfl, hb3⟩)
                go_round
                case rel =>
                  refine ⟨k + 1, v + vOf m p, by omega, by go_num, rfl, by rw [HT.out, HVV.out], ?_, s0.keep hb3, by (exact kpt)⟩
                  intro j hj
                  by_cases hjk : j < k
                  · exact HNO.out j hjk
                  · obtain rfl : j = k := by omega
                    exact HGOOD.out
                case measure => simp [intOf]; omega
          · obtain rfl : k = xs.length := by omega
            have HG := Lib.hid (@proof_good xs m ps HNO.out)
            have hvl : v = value m ps := by rw [HVV.out, List.take_of_length_le (by omega)]; rfl
            have HG2 := Lib.hid (show proofIn xs m ps = if v ≤ m.c then 47 else 0 by rw [HG.out, ← hvl])
            clear hvl HG
            have q0c0 := q0.cell 0
            have q0f0 := q0.free 0
            have q0c1 := q0.cell 1
            have q0f1 := q0.free 1
            have q0c2 := q0.cell 2
            have q0f2 := q0.free 2
            have q0l := q0.lt
            simp at q0c0 q0c1 q0c2
            by_cases hcv : v ≤ m.c
            · have HR2 := Lib.hid (show proofIn xs m ps = 47 by rw [HG2.out, if_pos hcv])
              go_wp2
              go_ret
              exact ⟨ret_int HR2.out.symm, by (exact kpt)⟩
            · have HR2 := Lib.hid (show proofIn xs m ps = 0 by rw [HG2.out, if_neg hcv])
              go_wp2
              go_ret
              exact ⟨ret_int HR2.out.symm, by (exact kpt)⟩
      · simp only [hl, decide_false, Bool.and_false, Bool.false_eq_true, if_false]
        have HR := Lib.hid hr
        have hl' : (ps.length : Int) ≠ xs.length := by omega
        clear hr
        go_enter Try.func28, Try.ntmps28
        go_wp2_with (first | (go_at_call 71; (with_reducible refine (f_both _ _ _ _ _ _ _ (hx.later (by (exact kpt)) (Nat.le_refl _)) hc hM (hy.later (by (exact kpt)) (Nat.le_refl _)) hd hN).mono ?_); rw [HE.out]; rintro e w1 ⟨rfl, hb1⟩; obtain ⟨hc1, hf1, hl1⟩ := bcell3 hb1; refine Blk.thru (b := w.heap.size) (arr := ?_) (t := ?_) ?_ hb1 ?_; rotate_left 2; (focus (exact blk)); intro qb; have qbc0 := qb.cell 0; have qbf0 := qb.free 0; have qbc1 := qb.cell 1; have qbf1 := qb.free 1; have qbl := qb.lt; simp at qbc0 qbc1) | (go_at_call 68; (with_reducible refine (f_ranged _ _ _ _).mono ?_); rw [HR.out]; rintro e w2 ⟨rfl, rfl⟩))
        go_ret
        exact ⟨rfl, by (exact kpt)⟩
  · rw [if_neg he]
    have hb : (both xs ms != 0) = true := by simp [he]
    obtain ⟨E, hEE⟩ : ∃ E, E = both xs ms := ⟨_, rfl⟩
    have HE := Lib.hid hEE.symm
    rw [← hEE] at he hb ⊢
    clear hEE
    go_enter Try.func28, Try.ntmps28
    go_wp2_with (go_at_call 71; (with_reducible refine (f_both _ _ _ _ _ _ _ (hx.later (by (exact kpt)) (Nat.le_refl _)) hc hM (hy.later (by (exact kpt)) (Nat.le_refl _)) hd hN).mono ?_); rw [HE.out]; rintro e w1 ⟨rfl, hb1⟩; obtain ⟨hc1, hf1, hl1⟩ := bcell3 hb1; refine Blk.thru (b := w.heap.size) (arr := ?_) (t := ?_) ?_ hb1 ?_; rotate_left 2; (focus (exact blk)); intro qb; have qbc0 := qb.cell 0; have qbf0 := qb.free 0; have qbc1 := qb.cell 1; have qbf1 := qb.free 1; have qbl := qb.lt; simp at qbc0 qbc1)
    go_ret
    exact ⟨rfl, by (exact kpt)⟩

end Go.Proofs.Ytlloijkmpmfapaa

/-
  What is to be stowed, as it lies in memory.
-/
namespace Bal.Trim
open Go Go.RowKit
/-- where the lists of a freight lie -/
structure FSpot where
  ax : Option Addr
  ah : Option Addr
  ap : Option Addr
  ar : Option Addr
  am : Option Addr
  cx : Nat
  ch : Nat
  cp : Nat
  cr : Nat
  cm : Nat
structure FrAt (F : Fr) (s : FSpot) (w : World) : Prop where
  xs : Row Load.cells 4 w.heap.size w s.ax F.xs
  hs : Row Hold.cells 2 w.heap.size w s.ah F.hs
  ps : Row Parcel.cells 2 w.heap.size w s.ap F.ps
  rs : Row Rule.cells 3 w.heap.size w s.ar F.rs
  ms : Row Limit.cells 3 w.heap.size w s.am F.ms
  xc : F.xs.length ≤ s.cx
  hc : F.hs.length ≤ s.ch
  pc : F.ps.length ≤ s.cp
  rc : F.rs.length ≤ s.cr
  mc : F.ms.length ≤ s.cm
  xM : s.cx ≤ maxLen
  hM : s.ch ≤ maxLen
  pM : s.cp ≤ maxLen
  rM : s.cr ≤ maxLen
  mM : s.cm ≤ maxLen
  xz : s.ax = none → s.cx = 0
theorem FrAt.later {F : Fr} {s : FSpot} {w w' : World} (k : FrAt F s w) (h : Kept w w') : FrAt F s w' :=
  ⟨k.xs.later h (Nat.le_refl _), k.hs.later h (Nat.le_refl _), k.ps.later h (Nat.le_refl _), k.rs.later h (Nat.le_refl _), k.ms.later h (Nat.le_refl _), k.xc, k.hc, k.pc, k.rc, k.mc, k.xM, k.hM, k.pM, k.rM, k.mM, k.xz⟩
end Bal.Trim

/-
  Stowages: holds, parcels and rules in the program.
-/
namespace Go.Proofs.Ytlloijkmpmfapaa
open Go.RowKit Bal Bal.Trim
set_option linter.unusedVariables false
set_option linter.unusedSimpArgs false
set_option maxHeartbeats 800000
set_option maxRecDepth 10000

theorem f_class (n : Int) (w : World) : Calls Try.prog 120 #[.int .i64 n] w fun e w' => e = .returned (.bool (inB n 0 9)) ∧ w = w' := by
  go_enter Try.func120, Try.ntmps120
  go_wp2_with (go_at_call 68; refine (f_ranged _ _ _ _).mono ?_; rintro e w1 ⟨rfl, rfl⟩)
  go_ret
  exact ⟨rfl, rfl⟩

theorem f_hold (x : Hold) (w : World) :
    Calls Try.prog 117 #[.agg #[.int .i64 x.pos, .int .i64 x.room]] w fun e w' => e = .returned (.bool (holdB x)) ∧ Kept w w' := by
  go_enter Try.func117, Try.ntmps117
  go_wp2_with (first | (go_at_call 67; refine (f_place _ _).mono ?_; rintro e w1 ⟨rfl, rfl⟩) | (go_at_call 68; refine (f_ranged _ _ _ _).mono ?_; rintro e w1 ⟨rfl, rfl⟩))
  all_goals (go_ret; refine ⟨?_, by (repeat (first | exact Below.refl _ _ | assumption | (refine Kept.drop ?_ (by assumption)) | (refine Kept.alloc ?_ _) | (refine Below.setCell ?_ (by first | exact Nat.le_refl _ | (simp; done) | (simp; omega) | exact Below.size (by assumption)) _) | (refine Below.drew ?_)))⟩; simp [holdB, *])

theorem f_parcel (x : Parcel) (w : World) :
    Calls Try.prog 119 #[.agg #[.int .i64 x.wt, .int .i64 x.cls]] w fun e w' => e = .returned (.bool (parcelB x)) ∧ Kept w w' := by
  go_enter Try.func119, Try.ntmps119
  go_wp2_with (first | (go_at_call 120; refine (f_class _ _).mono ?_; rintro e w1 ⟨rfl, rfl⟩) | (go_at_call 68; refine (f_ranged _ _ _ _).mono ?_; rintro e w1 ⟨rfl, rfl⟩))
  all_goals (go_ret; refine ⟨?_, by (repeat (first | exact Below.refl _ _ | assumption | (refine Kept.drop ?_ (by assumption)) | (refine Kept.alloc ?_ _) | (refine Below.setCell ?_ (by first | exact Nat.le_refl _ | (simp; done) | (simp; omega) | exact Below.size (by assumption)) _) | (refine Below.drew ?_)))⟩; simp [parcelB, *])

theorem f_rule (x : Rule) (w : World) :
    Calls Try.prog 122 #[.agg #[.int .i64 x.a, .int .i64 x.b, .int .i64 x.apart]] w fun e w' => e = .returned (.bool (ruleB x)) ∧ Kept w w' := by
  go_enter Try.func122, Try.ntmps122
  go_wp2_with (first | (go_at_call 120; refine (f_class _ _).mono ?_; rintro e w1 ⟨rfl, rfl⟩) | (go_at_call 68; refine (f_ranged _ _ _ _).mono ?_; rintro e w1 ⟨rfl, rfl⟩))
  all_goals (go_ret; refine ⟨?_, by (repeat (first | exact Below.refl _ _ | assumption | (refine Kept.drop ?_ (by assumption)) | (refine Kept.alloc ?_ _) | (refine Below.setCell ?_ (by first | exact Nat.le_refl _ | (simp; done) | (simp; omega) | exact Below.size (by assumption)) _) | (refine Below.drew ?_)))⟩; simp [ruleB, *])

theorem f_checked_Hold (a : Option Addr) (cap : Nat) (xs : List Hold) (w : World) (hx : Row Hold.cells 2 w.heap.size w a xs) (hc : xs.length ≤ cap) (hM : cap ≤ maxLen) :
    Calls Try.prog 116 #[.slice a xs.length cap, .int .i64 5, .func (.func 117) #[] #[], .int .i64 43] w
      fun e w' => e = .returned (.int .i64 (checkList holdB 5 43 xs)) ∧ Kept w w' := by
  unfold maxLen at hM
  by_cases hm : 5 < xs.length
  · rw [checkList_many hm]
    go_enter Try.func116, Try.ntmps116
    go_wp2
    go_ret
    exact ⟨rfl, Below.refl _ _⟩
  · go_enter Try.func116, Try.ntmps116
    go_wp2
    go_loopw [17] (fun i wr => Upto holdB xs w i wr) (fun i _ => xs.length - (intOf i).toNat)
    case atStart => exact ⟨0, Nat.zero_le _, rfl, by simp, Below.refl _ _⟩
    case round =>
      obtain ⟨k, hk, rfl, ha', hbel⟩ := hrel
      have ha := Lib.hid ha'
      clear ha'
      by_cases hlt : k < xs.length
      · obtain ⟨b, off, rfl, hb, h0, h1⟩ := Hold.row (hx.later hbel (Nat.le_refl _)) k hlt
        cases hv : holdB xs[k]
        all_goals
          go_wp2_with (go_at_call 117; refine (f_hold xs[k] _).mono ?_; rintro e w1 ⟨rfl, hb1⟩)
        · go_ret
          exact ⟨ret_int (checkList_bad hm k hlt hv).symm, by (repeat (first | exact Below.refl _ _ | assumption | (refine Kept.drop ?_ (by assumption)) | (refine Kept.alloc ?_ _) | (refine Below.setCell ?_ (by first | exact Nat.le_refl _ | (simp; done) | (simp; omega) | exact Below.size (by assumption)) _) | (refine Below.drew ?_)))⟩
        · go_round
          case rel => exact ⟨k + 1, by omega, by go_num, take_all hlt ha.out hv, by (repeat (first | exact Below.refl _ _ | assumption | (refine Kept.drop ?_ (by assumption)) | (refine Kept.alloc ?_ _) | (refine Below.setCell ?_ (by first | exact Nat.le_refl _ | (simp; done) | (simp; omega) | exact Below.size (by assumption)) _) | (refine Below.drew ?_)))⟩
          case measure => simp [intOf]; omega
      · go_wp2
        go_ret
        exact ⟨ret_int (checkList_ok hm (by rw [← ha.out, List.take_of_length_le (by omega)])).symm, hbel⟩

theorem f_checked_Parcel (a : Option Addr) (cap : Nat) (xs : List Parcel) (w : World) (hx : Row Parcel.cells 2 w.heap.size w a xs) (hc : xs.length ≤ cap) (hM : cap ≤ maxLen) :
    Calls Try.prog 118 #[.slice a xs.length cap, .int .i64 6, .func (.func 119) #[] #[], .int .i64 43] w
      fun e w' => e = .returned (.int .i64 (checkList parcelB 6 43 xs)) ∧ Kept w w' := by
  unfold maxLen at hM
  by_cases hm : 6 < xs.length
  · rw [checkList_many hm]
    go_enter Try.func118, Try.ntmps118
    go_wp2
    go_ret
    exact ⟨rfl, Below.refl _ _⟩
  · go_enter Try.func118, Try.ntmps118
    go_wp2
    go_loopw [17] (fun i wr => Upto parcelB xs w i wr) (fun i _ => xs.length - (intOf i).toNat)
    case atStart => exact ⟨0, Nat.zero_le _, rfl, by simp, Below.refl _ _⟩
    case round =>
      obtain ⟨k, hk, rfl, ha', hbel⟩ := hrel
      have ha := Lib.hid ha'
      clear ha'
      by_cases hlt : k < xs.length
      · obtain ⟨b, off, rfl, hb, h0, h1⟩ := Parcel.row (hx.later hbel (Nat.le_refl _)) k hlt
        cases hv : parcelB xs[k]
        all_goals
          go_wp2_with (go_at_call 119; refine (f_parcel xs[k] _).mono ?_; rintro e w1 ⟨rfl, hb1⟩)
        · go_ret
          exact ⟨ret_int (checkList_bad hm k hlt hv).symm, by (repeat (first | exact Below.refl _ _ | assumption | (refine Kept.drop ?_ (by assumption)) | (refine Kept.alloc ?_ _) | (refine Below.setCell ?_ (by first | exact Nat.le_refl _ | (simp; done) | (simp; omega) | exact Below.size (by assumption)) _) | (refine Below.drew ?_)))⟩
        · go_round
          case rel => exact ⟨k + 1, by omega, by go_num, take_all hlt ha.out hv, by (repeat (first | exact Below.refl _ _ | assumption | (refine Kept.drop ?_ (by assumption)) | (refine Kept.alloc ?_ _) | (refine Below.setCell ?_ (by first | exact Nat.le_refl _ | (simp; done) | (simp; omega) | exact Below.size (by assumption)) _) | (refine Below.drew ?_)))⟩
          case measure => simp [intOf]; omega
      · go_wp2
        go_ret
        exact ⟨ret_int (checkList_ok hm (by rw [← ha.out, List.take_of_length_le (by omega)])).symm, hbel⟩

theorem f_checked_Rule (a : Option Addr) (cap : Nat) (xs : List Rule) (w : World) (hx : Row Rule.cells 3 w.heap.size w a xs) (hc : xs.length ≤ cap) (hM : cap ≤ maxLen) :
    Calls Try.prog 121 #[.slice a xs.length cap, .int .i64 20, .func (.func 122) #[] #[], .int .i64 43] w
      fun e w' => e = .returned (.int .i64 (checkList ruleB 20 43 xs)) ∧ Kept w w' := by
  unfold maxLen at hM
  by_cases hm : 20 < xs.length
  · rw [checkList_many hm]
    go_enter Try.func121, Try.ntmps121
    go_wp2
    go_ret
    exact ⟨rfl, Below.refl _ _⟩
  · go_enter Try.func121, Try.ntmps121
    go_wp2
    go_loopw [17] (fun i wr => Upto ruleB xs w i wr) (fun i _ => xs.length - (intOf i).toNat)
    case atStart => exact ⟨0, Nat.zero_le _, rfl, by simp, Below.refl _ _⟩
    case round =>
      obtain ⟨k, hk, rfl, ha', hbel⟩ := hrel
      have ha := Lib.hid ha'
      clear ha'
      by_cases hlt : k < xs.length
      · obtain ⟨b, off, rfl, hb, h0, h1, h2⟩ := Rule.row (hx.later hbel (Nat.le_refl _)) k hlt
        cases hv : ruleB xs[k]
        all_goals
          go_wp2_with (go_at_call 122; refine (f_rule xs[k] _).mono ?_; rintro e w1 ⟨rfl, hb1⟩)
        · go_ret
          exact ⟨ret_int (checkList_bad hm k hlt hv).symm, by (repeat (first | exact Below.refl _ _ | assumption | (refine Kept.drop ?_ (by assumption)) | (refine Kept.alloc ?_ _) | (refine Below.setCell ?_ (by first | exact Nat.le_refl _ | (simp; done) | (simp; omega) | exact Below.size (by assumption)) _) | (refine Below.drew ?_)))⟩
        · go_round
          case rel => exact ⟨k + 1, by omega, by go_num, take_all hlt ha.out hv, by (repeat (first | exact Below.refl _ _ | assumption | (refine Kept.drop ?_ (by assumption)) | (refine Kept.alloc ?_ _) | (refine Below.setCell ?_ (by first | exact Nat.le_refl _ | (simp; done) | (simp; omega) | exact Below.size (by assumption)) _) | (refine Below.drew ?_)))⟩
          case measure => simp [intOf]; omega
      · go_wp2
        go_ret
        exact ⟨ret_int (checkList_ok hm (by rw [← ha.out, List.take_of_length_le (by omega)])).symm, hbel⟩

theorem frE_both {F : Fr} (h : both F.xs F.ms ≠ 0) : frE F = both F.xs F.ms := by unfold frE; rw [if_neg h]
theorem chk_cases {α : Type} (valid : α → Bool) (most : Nat) (xs : List α) : (checkList valid most 43 xs = 4 ∧ most < xs.length) ∨ (checkList valid most 43 xs = 0 ∧ ¬ most < xs.length ∧ xs.all valid = true) ∨ (checkList valid most 43 xs = 43 ∧ ¬ most < xs.length ∧ xs.all valid = false) := by
  unfold checkList
  by_cases h : most < xs.length
  · exact .inl ⟨if_pos h, h⟩
  · cases hv : xs.all valid
    · exact .inr (.inr ⟨by rw [if_neg h, if_neg (by simp)], h, rfl⟩)
    · exact .inr (.inl ⟨by rw [if_neg h, if_pos rfl], h, rfl⟩)
theorem f_frcheck_both (F : Fr) (s : FSpot) (w : World) (hh : FrAt F s w) (hb : both F.xs F.ms ≠ 0) :
    Calls Try.prog 99 #[.agg #[.slice s.ax F.xs.length s.cx, .slice s.ah F.hs.length s.ch, .slice s.ap F.ps.length s.cp, .slice s.ar F.rs.length s.cr, .slice s.am F.ms.length s.cm]] w fun e w' => e = .returned (.int .i64 (frE F)) ∧ Kept w w' := by
  rw [frE_both hb]
  obtain ⟨E, hE⟩ : ∃ E, E = both F.xs F.ms := ⟨_, rfl⟩
  have KB := Lib.hid hE.symm
  rw [← hE] at hb ⊢
  have e1 : (E != 0) = true := by simp [hb]
  clear hE hb
  go_enter Try.func99, Try.ntmps99
  go_wp2_with (go_at_call 71; (with_reducible refine (f_both _ _ _ _ _ _ _ (hh.xs.later (by exact kpt) (Nat.le_refl _)) hh.xc hh.xM (hh.ms.later (by exact kpt) (Nat.le_refl _)) hh.mc hh.mM).mono ?_); rw [KB.out]; rintro e w0 ⟨rfl, hb0⟩; refine Blk.thru (b := w.heap.size) (arr := ?_) (t := ?_) ?_ hb0 ?_; rotate_left 2; (focus (exact blk)); intro ob; have obc0 := ob.cell 0; have obf0 := ob.free 0; have obc1 := ob.cell 1; have obf1 := ob.free 1; have obc2 := ob.cell 2; have obf2 := ob.free 2; have obc3 := ob.cell 3; have obf3 := ob.free 3; have obc4 := ob.cell 4; have obf4 := ob.free 4; have obl := ob.lt; simp at obc0 obc1 obc2 obc3 obc4)
  go_ret
  exact ⟨rfl, by exact kpt⟩
theorem f_frcheck_ok (F : Fr) (s : FSpot) (w : World) (hh : FrAt F s w) (hb : both F.xs F.ms = 0) :
    Calls Try.prog 99 #[.agg #[.slice s.ax F.xs.length s.cx, .slice s.ah F.hs.length s.ch, .slice s.ap F.ps.length s.cp, .slice s.ar F.rs.length s.cr, .slice s.am F.ms.length s.cm]] w fun e w' => e = .returned (.int .i64 (frE F)) ∧ Kept w w' := by
  have KB := Lib.hid hb
  have hxn : F.xs.length ≤ 40 := (checkLoads_ok (both_ok hb).1).1
  have hpM := hh.pM
  have hpc := hh.pc
  unfold maxLen at hpM
  obtain ⟨x1, hx1⟩ : ∃ n, checkList holdB 5 43 F.hs = n := ⟨_, rfl⟩
  obtain ⟨x2, hx2⟩ : ∃ n, checkList parcelB 6 43 F.ps = n := ⟨_, rfl⟩
  obtain ⟨x3, hx3⟩ : ∃ n, checkList ruleB 20 43 F.rs = n := ⟨_, rfl⟩
  have Kh := Lib.hid hx1
  have Kp := Lib.hid hx2
  have Kr := Lib.hid hx3
  have hE : frE F = if x1 = 4 ∨ x2 = 4 ∨ x3 = 4 ∨ 40 < F.xs.length + F.ps.length then 4 else max (max x1 x2) x3 := by
    have c1 := chk_cases holdB 5 F.hs
    have c2 := chk_cases parcelB 6 F.ps
    have c3 := chk_cases ruleB 20 F.rs
    rw [hx1] at c1
    rw [hx2] at c2
    rw [hx3] at c3
    unfold frE frMany frB
    rw [if_pos hb]
    clear hx1 hx2 hx3 Kh Kp Kr hh KB hb
    by_cases h4 : 40 < F.xs.length + F.ps.length
    · rw [if_pos (by simp [h4]), if_pos (by omega)]
    · rcases c1 with ⟨rfl, d1⟩ | ⟨rfl, d1, v1⟩ | ⟨rfl, d1, v1⟩ <;> rcases c2 with ⟨rfl, d2⟩ | ⟨rfl, d2, v2⟩ | ⟨rfl, d2, v2⟩ <;> rcases c3 with ⟨rfl, d3⟩ | ⟨rfl, d3, v3⟩ | ⟨rfl, d3, v3⟩ <;> simp [*] <;> omega
  have hcs : (x1 = 4 ∨ x1 = 0 ∨ x1 = 43) ∧ (x2 = 4 ∨ x2 = 0 ∨ x2 = 43) ∧ (x3 = 4 ∨ x3 = 0 ∨ x3 = 43) := by
    have c1 := chk_cases holdB 5 F.hs
    have c2 := chk_cases parcelB 6 F.ps
    have c3 := chk_cases ruleB 20 F.rs
    rw [hx1] at c1
    rw [hx2] at c2
    rw [hx3] at c3
    omega
  have hp6 : x2 ≠ 4 → F.ps.length ≤ 6 := fun h => by
    rcases chk_cases parcelB 6 F.ps with c | c | c <;> omega
  rw [hE]
  clear hx1 hx2 hx3 hb hE
  obtain ⟨h1, h2, h3⟩ := hcs
  by_cases hm : x1 = 4 ∨ x2 = 4 ∨ x3 = 4 ∨ 40 < F.xs.length + F.ps.length
  · rw [if_pos hm]
    by_cases k1 : x1 = 4
    · subst k1
      clear hm h1 h2 h3
      go_enter Try.func99, Try.ntmps99
      go_wp2_with (first | (go_at_call 71; (with_reducible refine (f_both _ _ _ _ _ _ _ (hh.xs.later (by exact kpt) (Nat.le_refl _)) hh.xc hh.xM (hh.ms.later (by exact kpt) (Nat.le_refl _)) hh.mc hh.mM).mono ?_); rw [KB.out]; rintro e w0 ⟨rfl, hb0⟩; refine Blk.thru (b := w.heap.size) (arr := ?_) (t := ?_) ?_ hb0 ?_; rotate_left 2; (focus (exact blk)); intro ob; have obc0 := ob.cell 0; have obf0 := ob.free 0; have obc1 := ob.cell 1; have obf1 := ob.free 1; have obc2 := ob.cell 2; have obf2 := ob.free 2; have obc3 := ob.cell 3; have obf3 := ob.free 3; have obc4 := ob.cell 4; have obf4 := ob.free 4; have obl := ob.lt; simp at obc0 obc1 obc2 obc3 obc4) | (go_at_call 116; (with_reducible refine (f_checked_Hold _ _ _ _ (hh.hs.later (by exact kpt) (Nat.le_refl _)) hh.hc hh.hM).mono ?_); rw [Kh.out]; rintro e wh ⟨rfl, hbh⟩; refine Blk.thru (b := w.heap.size) (arr := ?_) (t := ?_) ?_ hbh ?_; rotate_left 2; (focus (exact blk)); intro oh; have ohc0 := oh.cell 0; have ohf0 := oh.free 0; have ohc1 := oh.cell 1; have ohf1 := oh.free 1; have ohc2 := oh.cell 2; have ohf2 := oh.free 2; have ohc3 := oh.cell 3; have ohf3 := oh.free 3; have ohc4 := oh.cell 4; have ohf4 := oh.free 4; have ohl := oh.lt; simp at ohc0 ohc1 ohc2 ohc3 ohc4) | (go_at_call 118; (with_reducible refine (f_checked_Parcel _ _ _ _ (hh.ps.later (by exact kpt) (Nat.le_refl _)) hh.pc hh.pM).mono ?_); rw [Kp.out]; rintro e wp ⟨rfl, hbp⟩; refine Blk.thru (b := w.heap.size) (arr := ?_) (t := ?_) ?_ hbp ?_; rotate_left 2; (focus (exact blk)); intro op; have opc0 := op.cell 0; have opf0 := op.free 0; have opc1 := op.cell 1; have opf1 := op.free 1; have opc2 := op.cell 2; have opf2 := op.free 2; have opc3 := op.cell 3; have opf3 := op.free 3; have opc4 := op.cell 4; have opf4 := op.free 4; have opl := op.lt; simp at opc0 opc1 opc2 opc3 opc4) | (go_at_call 121; (with_reducible refine (f_checked_Rule _ _ _ _ (hh.rs.later (by exact kpt) (Nat.le_refl _)) hh.rc hh.rM).mono ?_); rw [Kr.out]; rintro e wr ⟨rfl, hbr⟩; refine Blk.thru (b := w.heap.size) (arr := ?_) (t := ?_) ?_ hbr ?_; rotate_left 2; (focus (exact blk)); intro or; have orc0 := or.cell 0; have orf0 := or.free 0; have orc1 := or.cell 1; have orf1 := or.free 1; have orc2 := or.cell 2; have orf2 := or.free 2; have orc3 := or.cell 3; have orf3 := or.free 3; have orc4 := or.cell 4; have orf4 := or.free 4; have orl := or.lt; simp at orc0 orc1 orc2 orc3 orc4))
      go_ret
      exact ⟨rfl, by exact kpt⟩
    · have e1 : (x1 == 4) = false := by simp [k1]
      by_cases k2 : x2 = 4
      · subst k2
        clear hm h1 h2 h3 k1
        go_enter Try.func99, Try.ntmps99
        go_wp2_with (first | (go_at_call 71; (with_reducible refine (f_both _ _ _ _ _ _ _ (hh.xs.later (by exact kpt) (Nat.le_refl _)) hh.xc hh.xM (hh.ms.later (by exact kpt) (Nat.le_refl _)) hh.mc hh.mM).mono ?_); rw [KB.out]; rintro e w0 ⟨rfl, hb0⟩; refine Blk.thru (b := w.heap.size) (arr := ?_) (t := ?_) ?_ hb0 ?_; rotate_left 2; (focus (exact blk)); intro ob; have obc0 := ob.cell 0; have obf0 := ob.free 0; have obc1 := ob.cell 1; have obf1 := ob.free 1; have obc2 := ob.cell 2; have obf2 := ob.free 2; have obc3 := ob.cell 3; have obf3 := ob.free 3; have obc4 := ob.cell 4; have obf4 := ob.free 4; have obl := ob.lt; simp at obc0 obc1 obc2 obc3 obc4) | (go_at_call 116; (with_reducible refine (f_checked_Hold _ _ _ _ (hh.hs.later (by exact kpt) (Nat.le_refl _)) hh.hc hh.hM).mono ?_); rw [Kh.out]; rintro e wh ⟨rfl, hbh⟩; refine Blk.thru (b := w.heap.size) (arr := ?_) (t := ?_) ?_ hbh ?_; rotate_left 2; (focus (exact blk)); intro oh; have ohc0 := oh.cell 0; have ohf0 := oh.free 0; have ohc1 := oh.cell 1; have ohf1 := oh.free 1; have ohc2 := oh.cell 2; have ohf2 := oh.free 2; have ohc3 := oh.cell 3; have ohf3 := oh.free 3; have ohc4 := oh.cell 4; have ohf4 := oh.free 4; have ohl := oh.lt; simp at ohc0 ohc1 ohc2 ohc3 ohc4) | (go_at_call 118; (with_reducible refine (f_checked_Parcel _ _ _ _ (hh.ps.later (by exact kpt) (Nat.le_refl _)) hh.pc hh.pM).mono ?_); rw [Kp.out]; rintro e wp ⟨rfl, hbp⟩; refine Blk.thru (b := w.heap.size) (arr := ?_) (t := ?_) ?_ hbp ?_; rotate_left 2; (focus (exact blk)); intro op; have opc0 := op.cell 0; have opf0 := op.free 0; have opc1 := op.cell 1; have opf1 := op.free 1; have opc2 := op.cell 2; have opf2 := op.free 2; have opc3 := op.cell 3; have opf3 := op.free 3; have opc4 := op.cell 4; have opf4 := op.free 4; have opl := op.lt; simp at opc0 opc1 opc2 opc3 opc4) | (go_at_call 121; (with_reducible refine (f_checked_Rule _ _ _ _ (hh.rs.later (by exact kpt) (Nat.le_refl _)) hh.rc hh.rM).mono ?_); rw [Kr.out]; rintro e wr ⟨rfl, hbr⟩; refine Blk.thru (b := w.heap.size) (arr := ?_) (t := ?_) ?_ hbr ?_; rotate_left 2; (focus (exact blk)); intro or; have orc0 := or.cell 0; have orf0 := or.free 0; have orc1 := or.cell 1; have orf1 := or.free 1; have orc2 := or.cell 2; have orf2 := or.free 2; have orc3 := or.cell 3; have orf3 := or.free 3; have orc4 := or.cell 4; have orf4 := or.free 4; have orl := or.lt; simp at orc0 orc1 orc2 orc3 orc4))
        go_ret
        exact ⟨rfl, by exact kpt⟩
      · have e2 : (x2 == 4) = false := by simp [k2]
        by_cases k3 : x3 = 4
        · subst k3
          clear hm h1 h2 h3 k1 k2
          go_enter Try.func99, Try.ntmps99
          go_wp2_with (first | (go_at_call 71; (with_reducible refine (f_both _ _ _ _ _ _ _ (hh.xs.later (by exact kpt) (Nat.le_refl _)) hh.xc hh.xM (hh.ms.later (by exact kpt) (Nat.le_refl _)) hh.mc hh.mM).mono ?_); rw [KB.out]; rintro e w0 ⟨rfl, hb0⟩; refine Blk.thru (b := w.heap.size) (arr := ?_) (t := ?_) ?_ hb0 ?_; rotate_left 2; (focus (exact blk)); intro ob; have obc0 := ob.cell 0; have obf0 := ob.free 0; have obc1 := ob.cell 1; have obf1 := ob.free 1; have obc2 := ob.cell 2; have obf2 := ob.free 2; have obc3 := ob.cell 3; have obf3 := ob.free 3; have obc4 := ob.cell 4; have obf4 := ob.free 4; have obl := ob.lt; simp at obc0 obc1 obc2 obc3 obc4) | (go_at_call 116; (with_reducible refine (f_checked_Hold _ _ _ _ (hh.hs.later (by exact kpt) (Nat.le_refl _)) hh.hc hh.hM).mono ?_); rw [Kh.out]; rintro e wh ⟨rfl, hbh⟩; refine Blk.thru (b := w.heap.size) (arr := ?_) (t := ?_) ?_ hbh ?_; rotate_left 2; (focus (exact blk)); intro oh; have ohc0 := oh.cell 0; have ohf0 := oh.free 0; have ohc1 := oh.cell 1; have ohf1 := oh.free 1; have ohc2 := oh.cell 2; have ohf2 := oh.free 2; have ohc3 := oh.cell 3; have ohf3 := oh.free 3; have ohc4 := oh.cell 4; have ohf4 := oh.free 4; have ohl := oh.lt; simp at ohc0 ohc1 ohc2 ohc3 ohc4) | (go_at_call 118; (with_reducible refine (f_checked_Parcel _ _ _ _ (hh.ps.later (by exact kpt) (Nat.le_refl _)) hh.pc hh.pM).mono ?_); rw [Kp.out]; rintro e wp ⟨rfl, hbp⟩; refine Blk.thru (b := w.heap.size) (arr := ?_) (t := ?_) ?_ hbp ?_; rotate_left 2; (focus (exact blk)); intro op; have opc0 := op.cell 0; have opf0 := op.free 0; have opc1 := op.cell 1; have opf1 := op.free 1; have opc2 := op.cell 2; have opf2 := op.free 2; have opc3 := op.cell 3; have opf3 := op.free 3; have opc4 := op.cell 4; have opf4 := op.free 4; have opl := op.lt; simp at opc0 opc1 opc2 opc3 opc4) | (go_at_call 121; (with_reducible refine (f_checked_Rule _ _ _ _ (hh.rs.later (by exact kpt) (Nat.le_refl _)) hh.rc hh.rM).mono ?_); rw [Kr.out]; rintro e wr ⟨rfl, hbr⟩; refine Blk.thru (b := w.heap.size) (arr := ?_) (t := ?_) ?_ hbr ?_; rotate_left 2; (focus (exact blk)); intro or; have orc0 := or.cell 0; have orf0 := or.free 0; have orc1 := or.cell 1; have orf1 := or.free 1; have orc2 := or.cell 2; have orf2 := or.free 2; have orc3 := or.cell 3; have orf3 := or.free 3; have orc4 := or.cell 4; have orf4 := or.free 4; have orl := or.lt; simp at orc0 orc1 orc2 orc3 orc4))
          go_ret
          exact ⟨rfl, by exact kpt⟩
        · have e3 : (x3 == 4) = false := by simp [k3]
          have d4 : decide (40 < (F.xs.length : Int) + (F.ps.length : Int)) = true := by simp; omega
          have w64 : wrap64 ((F.xs.length : Int) + (F.ps.length : Int)) = (F.xs.length : Int) + (F.ps.length : Int) := by have h6 := hp6 (by omega); unfold wrap64; omega
          have d5 : decide (40 < F.xs.length + F.ps.length) = true := by simp; omega
          have d6 : (40 : Int) < (F.xs.length : Int) + (F.ps.length : Int) := by omega
          clear hm h1 h2 h3 k1 k2 k3
          go_enter Try.func99, Try.ntmps99
          go_wp2_with (first | (go_at_call 71; (with_reducible refine (f_both _ _ _ _ _ _ _ (hh.xs.later (by exact kpt) (Nat.le_refl _)) hh.xc hh.xM (hh.ms.later (by exact kpt) (Nat.le_refl _)) hh.mc hh.mM).mono ?_); rw [KB.out]; rintro e w0 ⟨rfl, hb0⟩; refine Blk.thru (b := w.heap.size) (arr := ?_) (t := ?_) ?_ hb0 ?_; rotate_left 2; (focus (exact blk)); intro ob; have obc0 := ob.cell 0; have obf0 := ob.free 0; have obc1 := ob.cell 1; have obf1 := ob.free 1; have obc2 := ob.cell 2; have obf2 := ob.free 2; have obc3 := ob.cell 3; have obf3 := ob.free 3; have obc4 := ob.cell 4; have obf4 := ob.free 4; have obl := ob.lt; simp at obc0 obc1 obc2 obc3 obc4) | (go_at_call 116; (with_reducible refine (f_checked_Hold _ _ _ _ (hh.hs.later (by exact kpt) (Nat.le_refl _)) hh.hc hh.hM).mono ?_); rw [Kh.out]; rintro e wh ⟨rfl, hbh⟩; refine Blk.thru (b := w.heap.size) (arr := ?_) (t := ?_) ?_ hbh ?_; rotate_left 2; (focus (exact blk)); intro oh; have ohc0 := oh.cell 0; have ohf0 := oh.free 0; have ohc1 := oh.cell 1; have ohf1 := oh.free 1; have ohc2 := oh.cell 2; have ohf2 := oh.free 2; have ohc3 := oh.cell 3; have ohf3 := oh.free 3; have ohc4 := oh.cell 4; have ohf4 := oh.free 4; have ohl := oh.lt; simp at ohc0 ohc1 ohc2 ohc3 ohc4) | (go_at_call 118; (with_reducible refine (f_checked_Parcel _ _ _ _ (hh.ps.later (by exact kpt) (Nat.le_refl _)) hh.pc hh.pM).mono ?_); rw [Kp.out]; rintro e wp ⟨rfl, hbp⟩; refine Blk.thru (b := w.heap.size) (arr := ?_) (t := ?_) ?_ hbp ?_; rotate_left 2; (focus (exact blk)); intro op; have opc0 := op.cell 0; have opf0 := op.free 0; have opc1 := op.cell 1; have opf1 := op.free 1; have opc2 := op.cell 2; have opf2 := op.free 2; have opc3 := op.cell 3; have opf3 := op.free 3; have opc4 := op.cell 4; have opf4 := op.free 4; have opl := op.lt; simp at opc0 opc1 opc2 opc3 opc4) | (go_at_call 121; (with_reducible refine (f_checked_Rule _ _ _ _ (hh.rs.later (by exact kpt) (Nat.le_refl _)) hh.rc hh.rM).mono ?_); rw [Kr.out]; rintro e wr ⟨rfl, hbr⟩; refine Blk.thru (b := w.heap.size) (arr := ?_) (t := ?_) ?_ hbr ?_; rotate_left 2; (focus (exact blk)); intro or; have orc0 := or.cell 0; have orf0 := or.free 0; have orc1 := or.cell 1; have orf1 := or.free 1; have orc2 := or.cell 2; have orf2 := or.free 2; have orc3 := or.cell 3; have orf3 := or.free 3; have orc4 := or.cell 4; have orf4 := or.free 4; have orl := or.lt; simp at orc0 orc1 orc2 orc3 orc4))
          all_goals first | (go_ret; exact ⟨rfl, by exact kpt⟩) | (exfalso; omega) | (exfalso; simp_all; omega)
  · rw [if_neg hm]
    have d4 : decide (40 < (F.xs.length : Int) + (F.ps.length : Int)) = false := by simp; omega
    have w64 : wrap64 ((F.xs.length : Int) + (F.ps.length : Int)) = (F.xs.length : Int) + (F.ps.length : Int) := by have h6 := hp6 (by omega); unfold wrap64; omega
    have d5 : decide (40 < F.xs.length + F.ps.length) = false := by simp; omega
    have d6 : ¬ (40 : Int) < (F.xs.length : Int) + (F.ps.length : Int) := by omega
    have g1 : x1 = 0 ∨ x1 = 43 := by omega
    have g2 : x2 = 0 ∨ x2 = 43 := by omega
    have g3 : x3 = 0 ∨ x3 = 43 := by omega
    clear hm h1 h2 h3
    rcases g1 with rfl | rfl <;> rcases g2 with rfl | rfl <;> rcases g3 with rfl | rfl
    all_goals
      go_enter Try.func99, Try.ntmps99
      go_wp2_with (first | (go_at_call 71; (with_reducible refine (f_both _ _ _ _ _ _ _ (hh.xs.later (by exact kpt) (Nat.le_refl _)) hh.xc hh.xM (hh.ms.later (by exact kpt) (Nat.le_refl _)) hh.mc hh.mM).mono ?_); rw [KB.out]; rintro e w0 ⟨rfl, hb0⟩; refine Blk.thru (b := w.heap.size) (arr := ?_) (t := ?_) ?_ hb0 ?_; rotate_left 2; (focus (exact blk)); intro ob; have obc0 := ob.cell 0; have obf0 := ob.free 0; have obc1 := ob.cell 1; have obf1 := ob.free 1; have obc2 := ob.cell 2; have obf2 := ob.free 2; have obc3 := ob.cell 3; have obf3 := ob.free 3; have obc4 := ob.cell 4; have obf4 := ob.free 4; have obl := ob.lt; simp at obc0 obc1 obc2 obc3 obc4) | (go_at_call 116; (with_reducible refine (f_checked_Hold _ _ _ _ (hh.hs.later (by exact kpt) (Nat.le_refl _)) hh.hc hh.hM).mono ?_); rw [Kh.out]; rintro e wh ⟨rfl, hbh⟩; refine Blk.thru (b := w.heap.size) (arr := ?_) (t := ?_) ?_ hbh ?_; rotate_left 2; (focus (exact blk)); intro oh; have ohc0 := oh.cell 0; have ohf0 := oh.free 0; have ohc1 := oh.cell 1; have ohf1 := oh.free 1; have ohc2 := oh.cell 2; have ohf2 := oh.free 2; have ohc3 := oh.cell 3; have ohf3 := oh.free 3; have ohc4 := oh.cell 4; have ohf4 := oh.free 4; have ohl := oh.lt; simp at ohc0 ohc1 ohc2 ohc3 ohc4) | (go_at_call 118; (with_reducible refine (f_checked_Parcel _ _ _ _ (hh.ps.later (by exact kpt) (Nat.le_refl _)) hh.pc hh.pM).mono ?_); rw [Kp.out]; rintro e wp ⟨rfl, hbp⟩; refine Blk.thru (b := w.heap.size) (arr := ?_) (t := ?_) ?_ hbp ?_; rotate_left 2; (focus (exact blk)); intro op; have opc0 := op.cell 0; have opf0 := op.free 0; have opc1 := op.cell 1; have opf1 := op.free 1; have opc2 := op.cell 2; have opf2 := op.free 2; have opc3 := op.cell 3; have opf3 := op.free 3; have opc4 := op.cell 4; have opf4 := op.free 4; have opl := op.lt; simp at opc0 opc1 opc2 opc3 opc4) | (go_at_call 121; (with_reducible refine (f_checked_Rule _ _ _ _ (hh.rs.later (by exact kpt) (Nat.le_refl _)) hh.rc hh.rM).mono ?_); rw [Kr.out]; rintro e wr ⟨rfl, hbr⟩; refine Blk.thru (b := w.heap.size) (arr := ?_) (t := ?_) ?_ hbr ?_; rotate_left 2; (focus (exact blk)); intro or; have orc0 := or.cell 0; have orf0 := or.free 0; have orc1 := or.cell 1; have orf1 := or.free 1; have orc2 := or.cell 2; have orf2 := or.free 2; have orc3 := or.cell 3; have orf3 := or.free 3; have orc4 := or.cell 4; have orf4 := or.free 4; have orl := or.lt; simp at orc0 orc1 orc2 orc3 orc4))
      go_ret
      first | exact ⟨rfl, by exact kpt⟩ | exact ⟨ret_int (by decide), by exact kpt⟩ | exact ⟨ret_int (by simp), by exact kpt⟩
theorem f_frcheck (F : Fr) (s : FSpot) (w : World) (hh : FrAt F s w) :
    Calls Try.prog 99 #[.agg #[.slice s.ax F.xs.length s.cx, .slice s.ah F.hs.length s.ch, .slice s.ap F.ps.length s.cp, .slice s.ar F.rs.length s.cr, .slice s.am F.ms.length s.cm]] w fun e w' => e = .returned (.int .i64 (frE F)) ∧ Kept w w' := by
  by_cases hb : both F.xs F.ms = 0
  · exact f_frcheck_ok F s w hh hb
  · exact f_frcheck_both F s w hh hb

end Go.Proofs.Ytlloijkmpmfapaa

/-
  Stowages: whether two parcels are too near, in the program.
-/
namespace Go.Proofs.Ytlloijkmpmfapaa
open Go.RowKit Bal Bal.Trim
set_option linter.unusedVariables false
set_option linter.unusedSimpArgs false
set_option maxHeartbeats 1600000
set_option maxRecDepth 10000

theorem f_near1 (x : Rule) (w : World) (d ca cb : Int) (n1 n2 n3 : Nat) (k1 : Blk w n1 #[.int .i64 d] 3) (k2 : Blk w n2 #[.int .i64 ca] 3) (k3 : Blk w n3 #[.int .i64 cb] 3) :
    Calls Try.prog 124 #[.agg #[.int .i64 x.a, .int .i64 x.b, .int .i64 x.apart], .pointer (some ⟨n1, 0, none⟩), .pointer (some ⟨n2, 0, none⟩), .pointer (some ⟨n3, 0, none⟩)] w fun e w' => e = .returned (.bool (ruleHit ca cb d x)) ∧ Kept w w' := by
  have k1c := k1.cell 0
  have k1l := k1.lt
  have k2c := k2.cell 0
  have k2l := k2.lt
  have k3c := k3.cell 0
  have k3l := k3.lt
  simp at k1c k2c k3c
  have q1 : n1 ≠ w.heap.size := by omega
  have q2 : n2 ≠ w.heap.size := by omega
  have q3 : n3 ≠ w.heap.size := by omega
  obtain ⟨R, hR⟩ : ∃ R, R = ruleHit ca cb d x := ⟨_, rfl⟩
  rw [← hR]
  have hR2 : R = (decide (d < x.apart) && (((x.a == ca) && (x.b == cb)) || ((x.a == cb) && (x.b == ca)))) := hR
  clear hR
  obtain ⟨B1, h1⟩ : ∃ B, decide (d < x.apart) = B := ⟨_, rfl⟩
  obtain ⟨B2, h2⟩ : ∃ B, (x.a == ca) = B := ⟨_, rfl⟩
  obtain ⟨B3, h3⟩ : ∃ B, (x.b == cb) = B := ⟨_, rfl⟩
  obtain ⟨B4, h4⟩ : ∃ B, (x.a == cb) = B := ⟨_, rfl⟩
  obtain ⟨B5, h5⟩ : ∃ B, (x.b == ca) = B := ⟨_, rfl⟩
  rw [h1, h2, h3, h4, h5] at hR2
  have HR := Lib.hid hR2
  clear hR2
  go_enter Try.func124, Try.ntmps124
  cases B1 <;> cases B2 <;> cases B3 <;> cases B4 <;> cases B5
  all_goals
    obtain rfl := HR.out
    clear HR
    go_wp2
    go_ret
    exact ⟨rfl, by (exact kpt)⟩

theorem s_IndexR (a : Option Addr) (cap : Nat) (xs : List Rule) (w : World) (hx : Row Rule.cells 3 w.heap.size w a xs) (h1 : xs.length ≤ 1000000) (d ca cb : Int) (n1 n2 n3 : Nat) (k1 : Blk w n1 #[.int .i64 d] 3) (k2 : Blk w n2 #[.int .i64 ca] 3) (k3 : Blk w n3 #[.int .i64 cb] 3) :
    Calls Try.prog 127 #[.slice a xs.length cap, .func (.func 124) #[] #[.pointer (some ⟨n1, 0, none⟩), .pointer (some ⟨n2, 0, none⟩), .pointer (some ⟨n3, 0, none⟩)]] w fun e w' => (∃ r : Int, e = .returned (.int .i64 r) ∧ decide (0 ≤ r) = xs.any (ruleHit ca cb d) ∧ -1 ≤ r) ∧ Kept w w' := by
  obtain ⟨R, hR⟩ : ∃ R, R = xs.any (ruleHit ca cb d) := ⟨_, rfl⟩
  have HR := Lib.hid hR
  rw [← hR]
  clear hR
  go_enter Try.func127, Try.ntmps127
  go_wp2
  go_loopw [8] (fun i wr => ∃ k : Nat, k ≤ xs.length ∧ i = .int .i64 k ∧ (xs.take k).any (ruleHit ca cb d) = false ∧ Kept w wr) (fun i _ => xs.length - (intOf i).toNat)
  case atStart => exact ⟨0, Nat.zero_le _, rfl, by simp, Below.refl _ _⟩
  case round =>
    obtain ⟨k, hk, rfl, ha', hb⟩ := hrel
    have ha := Lib.hid ha'
    clear ha'
    by_cases hlt : k < xs.length
    · obtain ⟨b0, off0, rfl, hbl0, g0, g1, g2⟩ := Rule.row (hx.later hb (Nat.le_refl _)) k hlt
      have HB := Lib.hid (show (ruleHit ca cb d) xs[k] = true → R = true from fun hv => by rw [HR.out]; exact List.any_eq_true.2 ⟨_, List.getElem_mem hlt, hv⟩)
      have HT := Lib.hid (show (ruleHit ca cb d) xs[k] = false → (xs.take (k + 1)).any (ruleHit ca cb d) = false from fun hv => by rw [List.take_succ_eq_append_getElem hlt, List.any_append, ha.out]; simp [hv])
      obtain ⟨x, hx0⟩ : ∃ x, x = xs[k] := ⟨_, rfl⟩
      rw [← hx0] at HB HT g0 g1 g2
      clear hx0
      have hcall := fun (W : World) (hk : Kept w W) => f_near1 x W d ca cb n1 n2 n3 (k1.keep hk) (k2.keep hk) (k3.keep hk)
      obtain ⟨V, hV⟩ : ∃ V, V = (ruleHit ca cb d) x := ⟨_, rfl⟩
      rw [← hV] at hcall HB HT
      clear hV
      cases V with
      | true =>
        have HF := Lib.hid (HB.out rfl)
        clear HB HT
        go_wp2_with (go_at_call 124; refine (hcall _ (by (exact kpt))).mono ?_; rintro e w1 ⟨rfl, hb1⟩)
        go_ret
        refine ⟨⟨k, rfl, ?_, by omega⟩, by (exact kpt)⟩
        rw [HF.out, decide_eq_true_eq]; omega
      | false =>
        have HF := Lib.hid (HT.out rfl)
        clear HB HT
        go_wp2_with (go_at_call 124; refine (hcall _ (by (exact kpt))).mono ?_; rintro e w1 ⟨rfl, hb1⟩)
        go_roundw
        case rel => exact ⟨k + 1, by omega, by go_num, HF.out, by (exact kpt)⟩
        case measure => simp [intOf]; omega
    · obtain rfl : k = xs.length := by omega
      have HF := Lib.hid (show R = false by rw [HR.out, ← ha.out, List.take_length])
      go_wp2
      go_ret
      refine ⟨⟨-1, rfl, ?_, by omega⟩, hb⟩
      rw [HF.out]; rfl
theorem s_ContainsR (a : Option Addr) (cap : Nat) (xs : List Rule) (w : World) (hx : Row Rule.cells 3 w.heap.size w a xs) (h1 : xs.length ≤ 1000000) (d ca cb : Int) (n1 n2 n3 : Nat) (k1 : Blk w n1 #[.int .i64 d] 3) (k2 : Blk w n2 #[.int .i64 ca] 3) (k3 : Blk w n3 #[.int .i64 cb] 3) :
    Calls Try.prog 123 #[.slice a xs.length cap, .func (.func 124) #[] #[.pointer (some ⟨n1, 0, none⟩), .pointer (some ⟨n2, 0, none⟩), .pointer (some ⟨n3, 0, none⟩)]] w fun e w' => e = .returned (.bool (xs.any (ruleHit ca cb d))) ∧ Kept w w' := by
  obtain ⟨R, hR⟩ : ∃ R, R = xs.any (ruleHit ca cb d) := ⟨_, rfl⟩
  have hcall := s_IndexR a cap xs w hx h1 d ca cb n1 n2 n3 k1 k2 k3
  rw [← hR] at hcall ⊢
  clear hR
  go_enter Try.func123, Try.ntmps123
  go_wp2_with (go_at_call 127; refine hcall.mono ?_; rintro e w1 ⟨⟨r, rfl, hr1, hr2⟩, hb1⟩)
  go_ret
  refine ⟨ret_bool ?_, hb1⟩
  rw [← hr1]

theorem f_near (F : Fr) (s : FSpot) (w : World) (hh : FrAt F s w) (i k : Nat) (ti tk : Int) (hi : i < F.ps.length) (hk : k < F.ps.length) (b1 : -1000 ≤ ti) (b2 : ti ≤ 1000) (b3 : -1000 ≤ tk) (b4 : tk ≤ 1000) (hr : F.rs.length ≤ 1000) :
    Calls Try.prog 102 #[.agg #[.slice s.ax F.xs.length s.cx, .slice s.ah F.hs.length s.ch, .slice s.ap F.ps.length s.cp, .slice s.ar F.rs.length s.cr, .slice s.am F.ms.length s.cm], .int .i64 i, .int .i64 k, .int .i64 ti, .int .i64 tk] w fun e w' => e = .returned (.bool (nearB F.rs (psAt F i).cls (psAt F k).cls (gap ti tk))) ∧ Kept w w' := by
  obtain ⟨ax, ah, ap, ar, am, cx, ch, cp, cr, cm⟩ := s
  have hps := hh.ps
  have hrs := hh.rs
  have hrc := hh.rc
  have hrM := hh.rM
  dsimp only at hps hrs hrc hrM
  clear hh
  obtain ⟨bi, oi, rfl, hbi, _, gi⟩ := Parcel.row hps i hi
  obtain ⟨bk, ok, hpk, hbk, _, gk⟩ := Parcel.row hps k hk
  obtain ⟨rfl, rfl⟩ : bi = bk ∧ oi = ok := by simpa using hpk
  rw [← psAt_eq hi] at gi
  rw [← psAt_eq hk] at gk
  obtain ⟨ca, hca⟩ : ∃ ca, ca = (psAt F i).cls := ⟨_, rfl⟩
  obtain ⟨cb, hcb⟩ : ∃ cb, cb = (psAt F k).cls := ⟨_, rfl⟩
  obtain ⟨d, hd⟩ : ∃ d, d = gap ti tk := ⟨_, rfl⟩
  have HN := Lib.hid (show ∀ v, v = F.rs.any (ruleHit ca cb d) → v = nearB F.rs ca cb d from fun v h => h)
  rw [← hca] at gi
  rw [← hcb] at gk
  rw [← hca, ← hcb, ← hd]
  have HD := Lib.hid hd
  clear hca hcb hd
  have j0 : (0 : Int) ≤ (i : Int) := by omega
  have j1 : (i : Int) < (F.ps.length : Int) := by omega
  have j2 : (0 : Int) ≤ (k : Int) := by omega
  have j3 : (k : Int) < (F.ps.length : Int) := by omega
  have u1 : IntKind.i64.wrap (ti - tk) = ti - tk := by rw [IntKind.wrap_i64]; omega
  have u2 : IntKind.i64.wrap (tk - ti) = tk - ti := by rw [IntKind.wrap_i64]; omega
  have gik : ∀ w', Kept w w' → w'.cell? ⟨bi, oi + i * 2 + 1, none⟩ = _ := fun w' h => (h.cell (p := ⟨bi, oi + i * 2 + 1, none⟩) hbi).trans gi
  have gkk : ∀ w', Kept w w' → w'.cell? ⟨bi, oi + k * 2 + 1, none⟩ = _ := fun w' h => (h.cell (p := ⟨bi, oi + k * 2 + 1, none⟩) hbk).trans gk
  clear gi gk
  go_enter Try.func102, Try.ntmps102
  go_upto_region 1 with fail
  refine at_world (S := fun W => Blk W w.heap.size #[.slice ax F.xs.length cx, .slice ah F.hs.length ch, .slice (some ⟨bi, oi, none⟩) F.ps.length cp, .slice ar F.rs.length cr, .slice am F.ms.length cm] 149 ∧ Kept w W) ⟨by (exact blk), by (exact kpt)⟩ ?_
  rintro W ⟨r0, hW⟩
  have gik2 : ∀ w', Kept W w' → w'.cell? ⟨bi, oi + i * 2 + 1, none⟩ = _ := fun w' h => gik w' (Kept.drop hW h)
  have gkk2 : ∀ w', Kept W w' → w'.cell? ⟨bi, oi + k * 2 + 1, none⟩ = _ := fun w' h => gkk w' (Kept.drop hW h)
  clear gik gkk
  have r0k0 : ∀ w', Kept W w' → w'.cell? ⟨w.heap.size, 0, none⟩ = _ := fun w' h => (r0.keep h).cell 0
  have r0k1 : ∀ w', Kept W w' → w'.cell? ⟨w.heap.size, 1, none⟩ = _ := fun w' h => (r0.keep h).cell 1
  have r0k2 : ∀ w', Kept W w' → w'.cell? ⟨w.heap.size, 2, none⟩ = _ := fun w' h => (r0.keep h).cell 2
  have r0k3 : ∀ w', Kept W w' → w'.cell? ⟨w.heap.size, 3, none⟩ = _ := fun w' h => (r0.keep h).cell 3
  have r0k4 : ∀ w', Kept W w' → w'.cell? ⟨w.heap.size, 4, none⟩ = _ := fun w' h => (r0.keep h).cell 4
  simp at r0k0 r0k1 r0k2 r0k3 r0k4
  have r0l := r0.lt
  go_cut [11, 12, 13] (fun s11 s12 s13 wx => ∃ np nq nr, s11 = .pointer (some ⟨np, 0, none⟩) ∧ s12 = .pointer (some ⟨nq, 0, none⟩) ∧ s13 = .pointer (some ⟨nr, 0, none⟩) ∧ Blk wx np #[.int .i64 ca] 3 ∧ Blk wx nq #[.int .i64 cb] 3 ∧ Blk wx nr #[.int .i64 d] 3 ∧ Blk wx w.heap.size #[.slice ax F.xs.length cx, .slice ah F.hs.length ch, .slice (some ⟨bi, oi, none⟩) F.ps.length cp, .slice ar F.rs.length cr, .slice am F.ms.length cm] 149 ∧ Kept w wx)
  case first => as_aux_lemma =>
    go_region_held3 (fun w' => Kept W w') (exact kpt) (fail)
    all_goals go_wp2_with fail
    all_goals go_meet
    all_goals
      refine ⟨_, _, _, rfl, rfl, rfl, ?_, ?_, ?_, ?_, ?_⟩
      · exact blkc
      · exact blkc
      · refine Blk.cast (arr := ?_) ?_ ?_
        rotate_left 1
        focus (exact blk)
        exact congrArg (fun z => #[Value.int IntKind.i64 z]) (by have e := HD.out; unfold gap at e; omega)
      · exact blkc
      · exact kpt
  obtain ⟨np, nq, nr, rfl, rfl, rfl, b1, b2, b3, r0, hk⟩ := hcut
  have r0c0 := r0.cell 0
  have r0f0 := r0.free 0
  have r0c1 := r0.cell 1
  have r0f1 := r0.free 1
  have r0c2 := r0.cell 2
  have r0f2 := r0.free 2
  have r0c3 := r0.cell 3
  have r0f3 := r0.free 3
  have r0c4 := r0.cell 4
  have r0f4 := r0.free 4
  have r0l := r0.lt
  simp at r0c0 r0c1 r0c2 r0c3 r0c4
  go_wp2_with (go_at_call 123; (with_reducible refine (s_ContainsR ar cr F.rs _ (hrs.later (by (exact kpt)) (Nat.le_refl _)) (by omega) d ca cb nr np nq ?_ ?_ ?_).mono ?_); (focus (exact blk)); (focus (exact blk)); (focus (exact blk)); rintro e w1 ⟨rfl, hb1⟩)
  go_ret
  exact ⟨ret_bool (HN.out _ rfl).symm, by (exact kpt)⟩

end Go.Proofs.Ytlloijkmpmfapaa

/-
  Limits at work, in the reference: corners, values, the worst choice; lists that are the same.
-/
namespace Go.Proofs.Ytlloijkmpmfapaa
open Go.RowKit Bal Bal.Trim
set_option linter.unusedVariables false
set_option linter.unusedSimpArgs false
set_option maxHeartbeats 800000

set_option maxRecDepth 10000

theorem r_SamePuts (a b : Option Addr) (c d : Nat) (xs : List Put) (w : World) (hx : Row Put.cells 2 w.heap.size w a xs) (hy : Row Put.cells 2 w.heap.size w b xs) (hc : xs.length ≤ c) (hd : xs.length ≤ d) (hM : c ≤ maxLen) (hN : d ≤ maxLen) :
    Calls Try.prog 27 #[.slice a xs.length c, .slice b xs.length d] w fun e w' => e = .returned (.bool true) ∧ Kept w w' := by
  unfold maxLen at hM hN
  go_enter Try.func27, Try.ntmps27
  go_wp2
  go_loopw [5] (fun i wr => ∃ k : Nat, k ≤ xs.length ∧ i = .int .i64 k ∧ Kept w wr) (fun i _ => xs.length - (intOf i).toNat)
  case atStart => exact ⟨0, Nat.zero_le _, rfl, Below.refl _ _⟩
  case round =>
    obtain ⟨k, hk, rfl, hkk⟩ := hrel
    by_cases hlt : k < xs.length
    · obtain ⟨b1, o1, rfl, hb1, h0, h1⟩ := Put.row (hx.later hkk (Nat.le_refl _)) k hlt
      obtain ⟨b2, o2, rfl, hb2, j0, j1⟩ := Put.row (hy.later hkk (Nat.le_refl _)) k hlt
      have x0 := fun g : Later wr => g.some h0
      have y0 := fun g : Later wr => g.some j0
      have x1 := fun g : Later wr => g.some h1
      have y1 := fun g : Later wr => g.some j1
      go_upto_region 6 with fail
      refine Later.region (by kernel_rfl) (by kernel_rfl) ?_
      repeat (first | go_big_quiet_skip | (go_big_quiet_want; go_big_quiet_op; first | go_big_quiet_on | (apply Exists.intro; refine ⟨fun g => ?_, ?_⟩; (focus (first | fail)); go_big_quiet_on)))
      refine wpQuiet_nil ?_
      intro gg
      have hkgg := Kept.drop hkk gg.ok
      go_wp2
      go_round
      case rel => exact ⟨k + 1, by omega, by go_num, by (exact kpt)⟩
      case measure => simp [intOf]; omega
    · obtain rfl : k = xs.length := by omega
      go_wp2
      go_ret
      exact ⟨rfl, hkk⟩

end Go.Proofs.Ytlloijkmpmfapaa

/-
  An empty slice that a call has made, and lists appended to it. No program in sight.
-/
namespace Bal
open Go Go.RowKit
set_option linter.unusedVariables false
theorem owns_made {α : Type} {enc : α → List Value} {base k n : Nat} {e : TypeId} {w : World} (hn : n = w.heap.size) (hb : base ≤ w.heap.size) : (w.alloc (.cells #[] e)).ownsRow base e k (.slice (some ⟨n, 0, none⟩) 0 0) ([] : List α).length (([] : List α).flatMap enc) := by
  subst hn
  refine ⟨by simp, .inr ⟨w.heap.size, 0, #[], rfl, hb, Blk.new, Nat.le_refl _, by simp [maxLen], by simp, by simp⟩⟩
/-- THE COPY OF A LIST: append to an empty slice of the call's own -/
theorem wpList_copy {α : Type} {enc : α → List Value} {P : Program} {w0 w : World} {ops : Array Oper} {rest : List Oper} {o : Oper} {a : Act} {Q : Exit → Act → World → Prop} (hgd : o.guard = none) (s x : Operand) (t : TypeId)
    (ho : o.op = .call { callee := .builtin .append, args := #[s, x], argTypes := #[t, t] })
    (base : Nat) (e : TypeId) (z : Value) (size bytes : Nat) (ht : P.underlying t = some (.slice e)) (hinfo : (P.info? e).map (fun i => (i.zero, i.size, i.bytes)) = some (some z, size, bytes))
    (hzs : z.cells.size = size) (hsz : 0 < size) (he : ∀ x : α, (enc x).length = size) (h1 : ∀ (x : α), ∀ u ∈ enc x, u.oneCell' = true)
    (n : Nat) (hn : n = w.heap.size) (hs : a.eval s = .slice (some ⟨n, 0, none⟩) 0 0)
    (ad : Option Addr) (c : Nat) (ys : List α) (hx : a.eval x = .slice ad ys.length c) (hc : ad = none → c = 0) (hrow : Row enc size w0.heap.size w0 ad ys) (hk : Kept w0 w) (hbase : base = w0.heap.size)
    (h63 : ys.length ≤ 1000000) (hbytes : bytes ≤ 100000)
    (h : ∀ ad' cp w', Row enc size w'.heap.size w' ad' ys → ys.length ≤ cp → cp ≤ maxLen → Kept w0 w' → Kept w w' → wpList P ops Q rest (a.put o.dst (.slice ad' ys.length cp)) w') :
    wpList P ops Q (o :: rest) a (w.alloc (.cells #[] e)) := by
  subst hbase
  obtain ⟨i, hi, hz, hsize, hby⟩ := info_parts hinfo
  have hsz0 := hk.size
  have hown0 : (w.alloc (.cells #[] e)).ownsRow w0.heap.size e size (.slice (some ⟨n, 0, none⟩) 0 0) ([] : List α).length (([] : List α).flatMap enc) := owns_made hn hsz0
  have hm : ys.length * bytes ≤ 1000000 * 100000 := Nat.mul_le_mul h63 hbytes
  refine wpList_append_list hgd s x t ho w0.heap.size e i z size bytes ht hi hz hsize hby hzs hsz he h1 _ [] hs hown0 ad c ys hx hc (hrow.keep (Kept.alloc hk _) (Nat.le_refl _)) (by simp [maxLen]; omega) (by simp; omega) (by show w0.heap.size ≤ (w.heap.push _).size; simp; omega) ?_
  intro v' w' hown hgrow
  have hk' : Kept w0 w' := Kept.grown (Kept.alloc hk _) hown0 (Nat.le_refl _) hgrow
  have hk2 : Kept w w' := by
    have hown1 : (w.alloc (.cells #[] e)).ownsRow w.heap.size e size (.slice (some ⟨n, 0, none⟩) 0 0) ([] : List α).length (([] : List α).flatMap enc) := owns_made hn (Nat.le_refl _)
    exact Kept.grown (Kept.alloc (Below.refl _ _) _) hown1 (Nat.le_refl _) hgrow
  rw [List.nil_append] at hown
  obtain ⟨ad', cp', rfl, hrow', h5, h6⟩ := Row.of_owns he hown
  exact h ad' cp' w' hrow' h5 h6 hk' hk2
end Bal

/-
  Small functions of the bags.
-/
namespace Go.Proofs.Ytlloijkmpmfapaa
open Go.RowKit Bal Bal.Trim
set_option linter.unusedVariables false
set_option linter.unusedSimpArgs false
set_option maxHeartbeats 800000

set_option maxRecDepth 10000
theorem infoLoad : (Try.prog.info? 88).map (fun i => (i.zero, i.size, i.bytes)) = some (some (.agg #[.int .i64 0, .int .i64 0, .int .i64 0, .int .i64 0]), 4, 32) := by kernel_rfl

theorem f_exact (p : Put) (w : World) :
    Calls Try.prog 93 #[.agg #[.int .i64 p.pos, .int .i64 p.wt]] w fun e w' => e = .returned (.agg #[.int .i64 p.pos, .int .i64 p.pos, .int .i64 p.wt, .int .i64 p.wt]) ∧ Kept w w' := by
  go_enter Try.func93, Try.ntmps93
  go_wp2
  exact bodyPost_ret (v := .agg #[.int .i64 p.pos, .int .i64 p.pos, .int .i64 p.wt, .int .i64 p.wt]) (by simp [results, Try.results93, go_sem]) rfl ⟨rfl, by (exact kpt)⟩

theorem s_Index (a : Option Addr) (cap : Nat) (xs : List Int) (n : Int) (w : World) (hx : Row icell 1 w.heap.size w a xs) (hc : xs.length ≤ cap) (hM : cap ≤ maxLen) :
    Calls Try.prog 115 #[.slice a xs.length cap, .int .i64 n] w fun e w' => (∃ r : Int, e = .returned (.int .i64 r) ∧ (0 ≤ r ↔ n ∈ xs) ∧ -1 ≤ r) ∧ w = w' := by
  unfold maxLen at hM
  go_enter Try.func115, Try.ntmps115
  go_wp2
  go_loop [8] (fun i => ∃ k : Nat, k ≤ xs.length ∧ i = .int .i64 k ∧ ∀ x ∈ xs.take k, x ≠ n) (fun i => xs.length - (intOf i).toNat)
  case atStart => exact ⟨0, Nat.zero_le _, rfl, by simp⟩
  case round =>
    obtain ⟨k, hk, rfl, hno⟩ := hrel
    have HNO := Lib.hid hno
    clear hno
    by_cases hlt : k < xs.length
    · obtain ⟨b, off, rfl, _, ck⟩ := int_row hx k hlt
      have HME := Lib.hid (List.getElem_mem hlt)
      have HTK := Lib.hid (List.take_succ_eq_append_getElem hlt)
      obtain ⟨x, hx0⟩ : ∃ x, x = xs[k] := ⟨_, rfl⟩
      rw [← hx0] at HME HTK ck
      clear hx0
      by_cases he : n = x
      · have HI := Lib.hid (show n ∈ xs from he ▸ HME.out)
        go_wp2
        go_ret
        exact ⟨⟨k, rfl, ⟨fun _ => by first | exact HI.out | exact HME.out, fun _ => by omega⟩, by omega⟩, rfl⟩
      · have HE := Lib.hid (show x ≠ n from fun e => he e.symm)
        go_wp2
        go_round
        case rel =>
          refine ⟨k + 1, by omega, by go_num, ?_⟩
          rw [HTK.out]
          intro y hy
          rcases List.mem_append.1 hy with hy | hy
          · exact HNO.out y hy
          · simp at hy; subst hy; exact HE.out
        case measure => simp [intOf]; omega
    · obtain rfl : k = xs.length := by omega
      go_wp2
      go_ret
      refine ⟨⟨-1, rfl, ⟨fun h => by omega, fun h => ?_⟩, by omega⟩, rfl⟩
      exact absurd rfl (HNO.out n (by rw [List.take_length]; exact h))

theorem s_Contains (a : Option Addr) (cap : Nat) (xs : List Int) (n : Int) (w : World) (hx : Row icell 1 w.heap.size w a xs) (hc : xs.length ≤ cap) (hM : cap ≤ maxLen) :
    Calls Try.prog 92 #[.slice a xs.length cap, .int .i64 n] w fun e w' => e = .returned (.bool (decide (n ∈ xs))) ∧ w = w' := by
  go_enter Try.func92, Try.ntmps92
  go_wp2_with (go_at_call 115; (with_reducible refine (s_Index _ _ xs n _ hx hc hM).mono ?_); rintro e w1 ⟨⟨r, rfl, hr1, hr2⟩, rfl⟩)
  go_ret
  refine ⟨ret_bool ?_, rfl⟩
  first | exact decide_eq_decide.2 hr1 | simp [hr1]

theorem s_CloneL (a : Option Addr) (cap : Nat) (xs : List Load) (w : World) (hx : Row Load.cells 4 w.heap.size w a xs) (hn : xs.length ≤ 1000) (hz : a = none → cap = 0) :
    Calls Try.prog 91 #[.slice a xs.length cap] w fun e w' => ∃ v, e = .returned v ∧ w'.ownsRow w.heap.size 88 4 v xs.length (xs.flatMap Load.cells) ∧ Kept w w' := by
  cases a with
  | none =>
    have hl : xs = [] := by
      cases xs with
      | nil => rfl
      | cons y ys => obtain ⟨b, off, ha, _⟩ := hx 0 y rfl; cases ha
    subst hl
    have := hz rfl
    subst this
    have hs0 : ∀ w, (binOp .eql 22 (.slice none 0 0) (.slice none 0 0)).run Try.prog w = .ok (.bool true) w := fun w => Lib.run_eql_slice_nil w _ _ _ _ _ _ _ Try.underlying22
    go_enter Try.func91, Try.ntmps91
    go_wp2
    exact bodyPost_ret (v := .slice none 0 0) (by simp [results, Try.results91, go_sem]) rfl ⟨_, rfl, owns_nil (α := Load) (enc := Load.cells), by (exact kpt)⟩
  | some ad =>
    have HO := Lib.hid (owns_made (α := Load) (enc := Load.cells) (base := w.heap.size) (k := 4) (n := w.heap.size) (e := 88) (w := w) rfl (Nat.le_refl _))
    have hs0 : ∀ w, (binOp .eql 22 (.slice (some ad) xs.length cap) (.slice none 0 0)).run Try.prog w = .ok (.bool false) w := fun w => Lib.run_eql_slice_nil w _ _ _ _ _ _ _ Try.underlying22
    go_enter Try.func91, Try.ntmps91
    go_wp2_with (at_builtin; obtain ⟨i0, hi, hz0, hz1, hz2⟩ := info_parts infoLoad; refine wpList_append_list (enc := Load.cells) rfl _ _ 22 rfl w.heap.size 88 i0 (.agg #[.int .i64 0, .int .i64 0, .int .i64 0, .int .i64 0]) 4 32 Try.underlying22 hi hz0 hz1 hz2 rfl (by decide) (fun _ => rfl) (fun x u hu => by simp [Load.cells] at hu; rcases hu with rfl | rfl | rfl | rfl <;> rfl) _ [] rfl HO.out (some ad) cap xs rfl (by simp) (B := w.heap.size) (hx.keep (by (exact kpt)) (Nat.le_refl _)) (by simp [maxLen]; omega) (by simp; omega) (by simp) ?_; intro v' w9 hown' hgrow; clear hi hz0 hz1 hz2)
    have hk : Kept w w9 := Kept.grown (Kept.alloc (Below.refl _ _) _) HO.out (Nat.le_refl _) hgrow
    rw [List.nil_append] at hown'
    obtain ⟨ad', cp, rfl, _⟩ := owns_row (enc := Load.cells) (k := 4) (fun _ => rfl) hown'
    exact bodyPost_ret (v := .slice ad' xs.length cp) (by simp [results, Try.results91, go_sem]) rfl ⟨_, rfl, hown', hk⟩

end Go.Proofs.Ytlloijkmpmfapaa

/-
  The bits of a number, in the reference.
-/
namespace Go.Proofs.Ytlloijkmpmfapaa
open Go.RowKit Bal Bal.Trim
set_option linter.unusedVariables false
set_option linter.unusedSimpArgs false
set_option maxHeartbeats 800000

set_option maxRecDepth 10000

theorem infoI2 : (Try.prog.info? 3).map (fun i => (i.zero, i.size, i.bytes)) = some (some (.int .i64 0), 1, 8) := by kernel_rfl
end Go.Proofs.Ytlloijkmpmfapaa

/-
  A range over an iterator that keeps its state in cells of its own, and hands over values that show them: its contract, and the law of the caller. No program in sight.
-/
namespace Bal
open Go Go.RowKit
variable {F : Fence} {n : Nat} {P : Program}

/-- whatever lay lies as it lay, but block l -/
structure Spares (l : Nat) (W W' : World) : Prop where
  size : W.heap.size ≤ W'.heap.size
  block : ∀ k, k < W.heap.size → k ≠ l → W'.heap[k]? = W.heap[k]?

/-- an iterator with memory of its own: its values show the lists of L, one behind the other -/
def SeqOf {α : Type} (F : Fence) (n : Nat) (P : Program) (g : Nat) (lb : Array Value) (V : α → Value → World → Prop) (L : List α) (w : World) : Prop :=
  ∀ (l : Nat) (J Jx : List α → World → Prop) (W : World), Below w.heap.size w W → (∀ s A B, J s A → Below W.heap.size A B → J s B) → w.heap.size ≤ l → l < W.heap.size →
    (∀ pre x v A, J pre A → V x v A → pre ++ [x] <+: L → YieldAt F (n - 1) P l #[v] A fun e W' =>
      (e = .returned (.bool true) ∧ J (pre ++ [x]) W' ∧ Spares l A W') ∨ (e = .returned (.bool false) ∧ Jx (pre ++ [x]) W')) →
    J [] W →
    CallsIn F n P g (#[.func (.yield l) #[] #[]] ++ lb) W fun e W' => (∃ v, e = .returned v) ∧ (J L W' ∨ (∃ pre, pre <+: L ∧ Jx pre W'))

/-- how a round's body may be left -/
def postP {α : Type} (B : Nat) (I : List α → World → Prop) (Ix : Code → List α → World → Prop) (xs : List α) (W : World) : Exit → Act → World → Prop
  | .normal, _, W' => Kept W W' ∧ I xs W'
  | .ret, _, W' => KeepsFrom B W W' ∧ Ix .ret xs W'
  | .exit id, _, W' => KeepsFrom B W W' ∧ Ix (.exit id) xs W'
  | .goto t, _, W' => KeepsFrom B W W' ∧ Ix (.goto t) xs W'
  | .panic _, _, _ => False
  | .outgrown, _, _ => False

theorem below_putObj {B l : Nat} {W : World} (o : Obj) (hB : B ≤ W.heap.size) (h : B ≤ l) : Below B W (W.putObj l o) :=
  (Below.refl B W).grown (grownBy_putObj' W l o) hB (fun k e => by cases e; exact h)

theorem wpIn_rangeFunc_P {α : Type} {g : Operand} {ps : Array Tmp} {assign body : Code} {Q : Exit → Act → World → Prop} {a : Act} {w : World}
    (hro : F.round = none) (h1 : 1 ≤ n) {gf : Nat} {lb : Array Value} (hg : a.eval g = .func (.func gf) #[] lb) (hFg : F.fn gf) (eg : ∀ args w, (callFunc gf args).run P w = .ok (.enter gf args) w)
    {V : α → Value → World → Prop} {L : List α} {w0 : World} (hseq : SeqOf F (n - 1) P gf lb V L w0) (hb0 : Below w0.heap.size w0 w) (hps : ps.size = 1)
    (I : List α → World → Prop) (Ix : Code → List α → World → Prop) (hI : ∀ s A B, I s A → Below w.heap.size A B → I s B) (hIx : ∀ c, OwnFrom w.heap.size (Ix c)) (hV : ∀ x v, OwnFrom w.heap.size (fun (_ : Unit) W => V x v W)) (h0 : I [] w) (a₁ : Value → Act)
    (hassign : ∀ (l : Nat) (v : Value) (W : World) (K : Act → World → Prop), K (a₁ v) W →
      assign.wpIn (F.inRound l) (n - 1 - 1) P (Exit.then K (fun _ _ _ => False)) { tmps := (ps.zip #[v]).foldl (fun t (p, v) => t.setIfInBounds p v) a.tmps, defers := [] } W)
    (hbody : ∀ (l : Nat) (pre : List α) (x : α) (v : Value) (W : World), w.heap.size ≤ W.heap.size → I pre W → V x v W → pre ++ [x] <+: L → body.wpIn (F.inRound l) (n - 1 - 1) P (postP w.heap.size I Ix (pre ++ [x]) W) (a₁ v) W)
    (hdone : ∀ (D : Nat) (W : World), w.heap.size ≤ D → I L W → W.heap[D]? = some (.deferred (some [])) → Q .normal { a with defers := { target := .collected D, args := #[] } :: a.defers } W)
    (hstop : ∀ (D : Nat) (c : Code) (pre : List α) (W : World), w.heap.size ≤ D → pre <+: L → Ix c pre W → W.heap[D]? = some (.deferred (some [])) → c.wpIn F n P Q { a with defers := { target := .collected D, args := #[] } :: a.defers } W) :
    (Code.rangeFunc g ps assign body).wpIn F n P Q a w := by
  refine wpIn_rangeFunc ?_
  intro fn hfn
  rw [hro]
  obtain ⟨rec, hrec⟩ : ∃ rec : LoopState → Option Code → Loop, rec = fun st pe => { state := st, pending := pe, fn, tmps := a.tmps, params := ps, assign, body, defers := w.heap.size } := ⟨_, rfl⟩
  obtain ⟨W1, hW1⟩ : ∃ W1, (w.alloc (.deferred (some []))).alloc (.loop (rec .ready none)) = W1 := ⟨_, rfl⟩
  have hs1 : W1.heap.size = w.heap.size + 1 + 1 := by rw [← hW1]; simp
  have hL1 : W1.heap[w.heap.size + 1]? = some (.loop (rec .ready none)) := by
    rw [← hW1]; have := World.alloc_heap_new (w.alloc (.deferred (some []))) (.loop (rec .ready none)); rwa [World.size_alloc] at this
  have hK1 : W1.heap[w.heap.size]? = some (.deferred (some [])) := by
    rw [← hW1]; exact (Below.heap_alloc _ _ _ (by simp)).trans (World.alloc_heap_new w _)
  have hw1 : Below w.heap.size w W1 := by
    rw [← hW1]; exact (((Below.refl _ w).alloc (Nat.le_refl _) _).alloc (by simp) _)
  have hI1 : I [] W1 := hI _ _ _ h0 hw1
  have hb1 : Below w0.heap.size w0 W1 := hb0.trans (hw1.mono hb0.size)
  refine ⟨w.heap.size + 1, [{ target := .collected w.heap.size, args := #[] }], W1, { target := .fn (.func gf) lb, args := #[.func (.yield (w.heap.size + 1)) #[] #[]] }, W1, gf,
    #[.func (.yield (w.heap.size + 1)) #[] #[]] ++ lb, W1, ?_, ?_, ?_, ?_, fun _ => h1, ?_⟩
  · rw [← hW1, hrec]; exact run_enterLoop_outer _ _ _ _ _
  · simp only [resolve, hg]
    simp [go_sem]
  · intro f' hf'; simp [Target.leads] at hf'; subst hf'; exact hFg
  · simp [invoke, go_sem, eg]
  · refine (hseq (w.heap.size + 1)
      (fun pre W => I pre W ∧ W.heap[w.heap.size + 1]? = some (.loop (rec .ready none)) ∧ W.heap[w.heap.size]? = some (.deferred (some [])))
      (fun pre W => ∃ c, Ix c pre W ∧ W.heap[w.heap.size + 1]? = some (.loop (rec .done (some c))) ∧ W.heap[w.heap.size]? = some (.deferred (some [])))
      W1 hb1
      (fun s A B hs hB => ⟨hI s A B hs.1 (hB.mono (by omega)), (hB.block _ (by omega)).trans hs.2.1, (hB.block _ (by omega)).trans hs.2.2⟩)
      (by have := hb0.size; omega) (by omega)
      ?_ ⟨hI1, hL1, hK1⟩).mono ?_
    · rintro pre x v W ⟨hi, hl, hk⟩ hv hpre
      have hlt : w.heap.size + 1 < W.heap.size := (Array.getElem?_eq_some_iff.1 hl).1
      have hy := run_yield (P := P) (args := #[v]) hl (by rw [hrec]; exact hps.symm)
      rw [hrec] at hy
      refine ⟨fn, _, assign, body, hy, roundIn_of_wpIn hfn (hassign _ v W _ ?_)⟩
      clear hy
      refine ⟨_, run_beginRound hl (by rw [hrec]), ?_⟩
      have hl2 : (W.putObj (w.heap.size + 1) (.loop { rec .ready none with state := .busy })).heap[w.heap.size + 1]? = some (.loop { rec .ready none with state := .busy }) := World.putObj_heap_same hlt
      have hk2 : (W.putObj (w.heap.size + 1) (.loop { rec .ready none with state := .busy })).heap[w.heap.size]? = some (.deferred (some [])) := (World.putObj_heap_other (by omega)).trans hk
      have hz2 : (W.putObj (w.heap.size + 1) (.loop { rec .ready none with state := .busy })).heap.size = W.heap.size := World.putObj_size
      have ho2 : ∀ k, k ≠ w.heap.size + 1 → (W.putObj (w.heap.size + 1) (.loop { rec .ready none with state := .busy })).heap[k]? = W.heap[k]? := fun k hk => World.putObj_heap_other hk
      obtain ⟨Wb, hWb⟩ : ∃ Wb, Wb = W.putObj (w.heap.size + 1) (.loop { rec .ready none with state := .busy }) := ⟨_, rfl⟩
      have hIb : I pre Wb := by rw [hWb]; exact hI _ _ _ hi (below_putObj _ (by omega) (by omega))
      have hVb : V x v Wb := by rw [hWb]; exact (hV x v).putObj (s := ()) _ hv (by omega) hl rfl
      rw [← hWb] at hl2 hk2 hz2 ho2 ⊢
      refine wpIn_mono (hbody _ pre x v Wb (by omega) hIb hVb hpre) ?_
      have fin : ∀ (jump : Option Code) (W3 : World), W3.heap[w.heap.size + 1]? = some (.loop { rec .ready none with state := .busy }) → W3.heap[w.heap.size]? = some (.deferred (some [])) →
          (Instr.endRound (w.heap.size + 1) jump).run P W3 = .ok (.bool jump.isNone) (W3.putObj (w.heap.size + 1) (.loop (rec (if jump.isNone then .ready else .done) jump))) ∧
          (W3.putObj (w.heap.size + 1) (.loop (rec (if jump.isNone then .ready else .done) jump))).heap[w.heap.size + 1]? = some (.loop (rec (if jump.isNone then .ready else .done) jump)) ∧
          (W3.putObj (w.heap.size + 1) (.loop (rec (if jump.isNone then .ready else .done) jump))).heap[w.heap.size]? = some (.deferred (some [])) := fun jump W3 hl3 hk3 => by
        have := run_endRound (P := P) jump hl3
        rw [hrec] at this ⊢
        exact ⟨this, World.putObj_heap_same (Array.getElem?_eq_some_iff.1 hl3).1, (World.putObj_heap_other (by omega)).trans hk3⟩
      rintro e a3 W3 hp
      cases e with
      | normal =>
        obtain ⟨hkp3, hi3⟩ := hp
        have hl3 := (hkp3.block (w.heap.size + 1) (by omega)).trans hl2
        obtain ⟨hr, hl4, hk4⟩ := fin none W3 hl3 ((hkp3.block w.heap.size (by omega)).trans hk2)
        have hz3 := hkp3.size
        refine ⟨_, _, hr, .inl ⟨rfl, ⟨hI _ _ _ hi3 (below_putObj _ (by omega) (by omega)), hl4, hk4⟩, ⟨by rw [World.putObj_size]; omega, fun k hk hne => ?_⟩⟩⟩
        rw [World.putObj_heap_other hne, hkp3.block k (by omega), ho2 k hne]
      | ret =>
        obtain ⟨hk3, hi3⟩ := hp
        have hl3 := hk3.same _ _ (by omega) hl2 rfl
        obtain ⟨hr, hl4, hk4⟩ := fin (some .ret) W3 hl3 (hk3.same _ _ (Nat.le_refl _) hk2 rfl)
        exact ⟨_, _, hr, .inr ⟨rfl, .ret, (hIx _).putObj _ hi3 (by omega) hl3 rfl, hl4, hk4⟩⟩
      | exit id =>
        obtain ⟨hk3, hi3⟩ := hp
        have hl3 := hk3.same _ _ (by omega) hl2 rfl
        obtain ⟨hr, hl4, hk4⟩ := fin (some (.exit id)) W3 hl3 (hk3.same _ _ (Nat.le_refl _) hk2 rfl)
        exact ⟨_, _, hr, .inr ⟨rfl, .exit id, (hIx _).putObj _ hi3 (by omega) hl3 rfl, hl4, hk4⟩⟩
      | goto t =>
        obtain ⟨hk3, hi3⟩ := hp
        have hl3 := hk3.same _ _ (by omega) hl2 rfl
        obtain ⟨hr, hl4, hk4⟩ := fin (some (.goto t)) W3 hl3 (hk3.same _ _ (Nat.le_refl _) hk2 rfl)
        exact ⟨_, _, hr, .inr ⟨rfl, .goto t, (hIx _).putObj _ hi3 (by omega) hl3 rfl, hl4, hk4⟩⟩
      | panic ch => exact hp.elim
      | outgrown => exact hp.elim
    · rintro e W2 ⟨⟨v, rfl⟩, (⟨hi, hl, hk⟩ | ⟨pre, hSp, c, hi, hl, hk⟩)⟩
      · have hlt : w.heap.size + 1 < W2.heap.size := (Array.getElem?_eq_some_iff.1 hl).1
        exact ⟨none, _, by have := run_endLoop (P := P) hl (by rw [hrec]; simp); rw [hrec] at this; exact this, hdone _ _ (Nat.le_refl _) (hI _ _ _ hi (below_putObj _ (by omega) (by omega))) ((World.putObj_heap_other (by omega)).trans hk)⟩
      · exact ⟨some c, _, by have := run_endLoop (P := P) hl (by rw [hrec]; simp); rw [hrec] at this; exact this, hstop _ c pre _ (Nat.le_refl _) hSp ((hIx c).putObj _ hi (by omega) hl rfl) ((World.putObj_heap_other (by omega)).trans hk)⟩

/-! ### The marks that the loops have left -/
def marks (Ds : List Nat) : List Deferred := Ds.map fun D => { target := .collected D, args := #[] }
/-- each mark's block is there, with no call -/
def Marked (B : Nat) (Ds : List Nat) (W : World) : Prop := Ds.Nodup ∧ ∀ D ∈ Ds, B ≤ D ∧ W.heap[D]? = some (.deferred (some []))
theorem Marked.keep {B C : Nat} {Ds : List Nat} {W W' : World} (h : Marked B Ds W) (hb : Below C W W') (hC : W.heap.size ≤ C) : Marked B Ds W' :=
  ⟨h.1, fun D hD => ⟨(h.2 D hD).1, (hb.block D (by have := (Array.getElem?_eq_some_iff.1 (h.2 D hD).2).1; omega)).trans (h.2 D hD).2⟩⟩
theorem Marked.from {B C : Nat} {Ds : List Nat} {W W' : World} (h : Marked B Ds W) (hk : KeepsFrom C W W') (hC : C ≤ B) : Marked B Ds W' :=
  ⟨h.1, fun D hD => ⟨(h.2 D hD).1, hk.same D _ (by have := (h.2 D hD).1; omega) (h.2 D hD).2 rfl⟩⟩
/-- a function leaves through its marks: what its ending says must abide their turn -/
theorem leaves_marks {fn : Func} {tmps : Array Value} {R : Ending → World → Prop} {B : Nat} (S : World → Prop) (hS : OwnFrom B (fun (_ : Unit) W => S W)) (hend : ∀ W, S W → LeavesIn F n P fn tmps R [] .returning W) :
    ∀ (Ds : List Nat) (W : World), Marked B Ds W → S W → LeavesInM F n P fn tmps R (marks Ds) .returning W
  | [], W, _, h => hend W h
  | D :: Ds, W, hm, h => by
    obtain ⟨hnd, hm⟩ := hm
    obtain ⟨hB, hD⟩ := hm D (by simp)
    refine ⟨by simp, .inl ⟨D, _, rfl, run_takeDeferred hD, leaves_marks S hS hend Ds _ ⟨(List.nodup_cons.1 hnd).2, fun E hE => ?_⟩ (hS.putObj (s := ()) _ h hB hD rfl)⟩⟩
    have hne : E ≠ D := fun e => (List.nodup_cons.1 hnd).1 (e ▸ hE)
    exact ⟨(hm E (by simp [hE])).1, (World.putObj_heap_other hne).trans (hm E (by simp [hE])).2⟩
end Bal

/-
  The bags' sets, in the program: the iterator.
-/
namespace Go.Proofs.Ytlloijkmpmfapaa
open Go.RowKit Go.Shelf Bal Bal.Trim
set_option linter.unusedVariables false
set_option linter.unusedSimpArgs false
set_option maxHeartbeats 1600000
set_option maxRecDepth 10000
attribute [local go_sem] Oper.semAt_some

def ncells (x : List Nat) : Array Value := (x.map (fun i : Nat => Value.int .i64 (i : Int))).toArray
theorem ncells_at {x : List Nat} {k : Nat} (h : k < x.length) : (ncells x)[k]? = some (.int .i64 (x[k] : Int)) := by simp [ncells, h]
theorem ncells_set (x : List Nat) (k v : Nat) : (ncells x).setIfInBounds k (.int .i64 (v : Int)) = ncells (x.set k v) := by
  simp [ncells, List.map_set]
/-- a set as the loop is handed it -/
def Shows (x : List Nat) (v : Value) (W : World) : Prop := ∃ b, v = .slice (some ⟨b, 0, none⟩) x.length x.length ∧ Blk W b (ncells x) 3
theorem shows_own (B : Nat) (x : List Nat) (v : Value) : OwnFrom B (fun (_ : Unit) W => Shows x v W) := by
  rintro _ X Y row ⟨b, hv, hb⟩ hg hr
  refine ⟨b, hv, ?_⟩
  refine (hg.block b (Blk.lt hb) (fun e => ?_)).trans hb
  obtain ⟨_, o, ho, hc⟩ := hr b e.symm
  rw [show X.heap[b]? = some _ from hb] at ho
  cases ho
  cases hc
def natsAt (W : World) (b : Nat) : List Nat := match W.heap[b]? with | some (.cells arr _ _) => arr.toList.map (fun v => (intOf v).toNat) | _ => []
theorem natsAt_of {W : World} {b : Nat} {x : List Nat} {t : TypeId} (h : Blk W b (ncells x) t) : natsAt W b = x := by
  have h' : W.heap[b]? = some (.cells (ncells x) t (0, 0)) := h
  simp only [natsAt, h', ncells, List.toList_toArray, List.map_map]
  conv => rhs; rw [← List.map_id x]
  apply List.map_congr_left
  intro i _
  simp [intOf]
theorem Blk.below {W W' : World} {b B : Nat} {arr : Array Value} {t : TypeId} (h : Blk W b arr t) (hb : Below B W W') (hB : b < B) : Blk W' b arr t := (hb.block b hB).trans h
theorem Blk.spares {W W' : World} {b l : Nat} {arr : Array Value} {t : TypeId} (h : Blk W b arr t) (hb : Spares l W W') (hB : b ≠ l) : Blk W' b arr t := (hb.block b h.lt hB).trans h

theorem belowN {B : Nat} {a w : World} (h : Below B a w) (n : Nat) : Below B a (w.drewN n) := h.trans ⟨rfl, rfl, rfl, Nat.le_refl _, fun _ _ => rfl⟩
theorem Blk.drewN {w : World} {b : Nat} {arr : Array Value} {t : TypeId} (h : Blk w b arr t) (n : Nat) : Blk (w.drewN n) b arr t := h
theorem i64_inI {n : Int} (h : -9223372036854775808 ≤ n ∧ n ≤ 9223372036854775807) : IntKind.i64.wrap n = n := by rw [IntKind.wrap_i64]; first | omega | (unfold wrap64; omega)
theorem run_makeI (s : Nat) (hs : s ≤ 1000) (w : World) : (Instr.makeSlice 63 (.int .i64 s) (.int .i64 s)).run Try.prog w = .ok (.slice (some ⟨w.heap.size, 0, none⟩) s s) (w.alloc (.cells (ncells (List.replicate s 0)) 3)) := by
  obtain ⟨i0, hi, hz0, hz1, hz2⟩ := info_parts infoI2
  have := run_make (P := Try.prog) w 63 3 i0 (.int .i64 0) Try.underlying63 hi hz0 .i64 .i64 s s (by omega) (Int.le_refl _) (by rw [hz2]; omega) (by omega)
  rw [this]
  have hm : madeCells (Value.cells (.int .i64 0)) ((s : Int).toNat * i0.size) = ncells (List.replicate s 0) := by
    rw [hz1]
    apply Array.ext
    · simp [madeCells, ncells]
    · intro i h1 h2
      simp [madeCells, ncells, Value.cells, Nat.mod_one]
  rw [hm]
  simp

theorem f_subsets (n s : Int) (w : World) :
    Calls Try.prog 90 #[.int .i64 n, .int .i64 s] w fun e w' =>
      e = .returned (.func (.func 114) #[] #[.pointer (some ⟨w.heap.size + 1, 0, none⟩), .pointer (some ⟨w.heap.size, 0, none⟩)]) ∧ w' = (w.alloc (.cells #[.int .i64 n] 3)).alloc (.cells #[.int .i64 s] 3) := by
  go_enter Try.func90, Try.ntmps90
  go_wp2
  go_ret
  exact ⟨rfl, rfl⟩

/-- the iterator's list and its captured variables -/
def SubW (W : World) (b s n : Nat) (x : List Nat) (bs bn : Nat) : Prop := Blk W b (ncells x) 3 ∧ Blk W bs #[.int .i64 s] 3 ∧ Blk W bn #[.int .i64 n] 3

theorem f_subsets1 (n s : Nat) (hn : n ≤ 10) (hs : s ≤ n) (w : World) (bs bn : Nat) (hcs : Blk w bs #[.int .i64 s] 3) (hcn : Blk w bn #[.int .i64 n] 3) (m : Nat) (hm : 1 ≤ m) :
    SeqOf Fence.wide m Try.prog 114 #[.pointer (some ⟨bs, 0, none⟩), .pointer (some ⟨bn, 0, none⟩)] Shows (combs n s 0) w := by
  intro l J Jx W hW hJ hwl hlW hY h0
  have hbs := hcs.lt
  have hbn := hcn.lt
  have hB1 := Blk.below hcs hW hbs
  have hB2 := Blk.below hcn hW hbn
  clear hcs hcn
  have hmk := run_makeI s (by omega)
  obtain ⟨L, hL⟩ : ∃ L, L = combs n s 0 := ⟨_, rfl⟩
  have HL := Lib.hid hL
  rw [← hL] at hY ⊢
  clear hL
  have hWw := hW.size
  have hz := Nat.lt_of_lt_of_le hbs hWw
  have hz2 := Nat.lt_of_lt_of_le hbn hWw
  refine callsIn_of_wp Try.func114 rfl trivial ?_ rfl
  simp only [Try.ntmps114, List.size_toArray, List.length_cons, List.length_nil, Nat.reduceAdd, Nat.reduceSub, Array.replicate_succ, Array.replicate_zero, List.push_toArray, List.append_toArray, List.nil_append, List.cons_append]
  have c1 := hB1.cell 0
  have c2 := hB2.cell 0
  have g1 := hB1.free 0
  have g2 := hB2.free 0
  simp at c1 c2
  gi_wp2
  gi_loopw [12] (fun i wr => ∃ k : Nat, k ≤ s ∧ i = .int .i64 k ∧ Blk wr W.heap.size (ncells (List.range k ++ List.replicate (s - k) 0)) 3 ∧ Below W.heap.size W wr) (fun i _ => s - (intOf i).toNat)
  case atStart => exact ⟨0, Nat.zero_le _, rfl, Blk.new, (Below.refl _ _).alloc (Nat.le_refl _) _⟩
  case round =>
    clear c1 c2 g1 g2
    obtain ⟨k, hk, rfl, hq, hb⟩ := hrel
    by_cases hlt : k < s
    · have q1 : wr.cell? ⟨W.heap.size, k, none⟩ = some (.int .i64 0) := by
        rw [hq.cell, ncells_at (by simp; omega)]
        rw [List.getElem_append_right (by simp)]
        simp
      have q2 := hq.free k
      have HQ := Lib.hid hq
      have HB := Lib.hid hb
      clear hq hb
      gi_wp2
      go_roundw
      case rel =>
        refine ⟨k + 1, by omega, by go_num, ?_, HB.out.setCell (p := ⟨W.heap.size, k, none⟩) (Nat.le_refl _) _⟩
        refine (HQ.out.set k _).cast ?_
        rw [ncells_set]
        congr 1
        apply List.ext_getElem
        · simp; omega
        · intro i h1 h2
          rw [List.getElem_set]
          split
          · rename_i e; subst e
            rw [List.getElem_append_left (by simp)]
            simp
          · rename_i hne
            by_cases hi : i < k
            · rw [List.getElem_append_left (by simpa using hi), List.getElem_append_left (by simp; omega)]
              simp
            · rw [List.getElem_append_right (by simp; omega), List.getElem_append_right (by simp; omega)]
              simp
      case measure => simp [intOf]; omega
    · obtain rfl : s = k := by omega
      rw [Nat.sub_self, List.replicate_zero, List.append_nil] at hq
      have hB1 := Blk.below hB1 hb hz
      have hB2 := Blk.below hB2 hb hz2
      have HS : SubW wr W.heap.size s n (List.range s) bs bn := ⟨hq, hB1, hB2⟩
      have HJ0 := Lib.hid (hJ _ _ _ h0 hb)
      clear hq hB1 hB2 h0 hb
      gi_wp2
      gi_loopw [] (fun wq => ∃ pre x rest, L = pre ++ x :: rest ∧ J pre wq ∧ SubW wq W.heap.size s n x bs bn) (fun wq => Bal.Trim.leftOf L (natsAt wq W.heap.size))
      case atStart =>
        obtain ⟨r, hr⟩ := combs_first hs
        exact ⟨[], List.range s, r, HL.out.trans hr, HJ0.out, HS⟩
      case round =>
        clear HS HJ0
        obtain ⟨pre, x, rest, hLe, hJp, hX, hb1, hb2⟩ := hrel
        have hc : combs n s 0 = pre ++ x :: rest := HL.out ▸ hLe
        obtain ⟨hxl, hxi⟩ := comb_mem hc
        obtain ⟨fn, tmps, assign, body, hy, hR⟩ := hY pre x (.slice (some ⟨W.heap.size, 0, none⟩) s s) _ hJp ⟨W.heap.size, by rw [hxl], hX⟩ ⟨rest, by rw [hLe]; simp⟩
        have d1 := hb1.cell 0
        have d2 := hb2.cell 0
        have f1 := hb1.free 0
        have f2 := hb2.free 0
        simp at d1 d2
        have HN0 := Lib.hid (natsAt_of hX)
        have HLe := Lib.hid hLe
        have Hc := Lib.hid hc
        clear hLe hc hY
        gi_wp2
        refine hR.mono ?_
        clear hR hy
        rintro e W3 (⟨rfl, hJ3, hk3⟩ | ⟨rfl, hJx3⟩)
        · have hX3 := Blk.spares hX hk3 (by omega)
          have hb13 := Blk.spares hb1 hk3 (by omega)
          have hb23 := Blk.spares hb2 hk3 (by omega)
          clear hX hb1 hb2 d1 d2 f1 f2 hJp hk3
          have d1 := hb13.cell 0
          simp at d1
          have HS3 : SubW W3 W.heap.size s n x bs bn := ⟨hX3, hb13, hb23⟩
          have HJ3 := Lib.hid hJ3
          clear hJ3 hX3 hb13 hb23
          gi_wp2
          gi_loopw [6] (fun i wq => ∃ j : Nat, j ≤ s ∧ i = .int .i64 ((j : Int) - 1) ∧ (∀ (t : Nat) (h : t < x.length), j ≤ t → x[t] = n - x.length + t) ∧ J (pre ++ [x]) wq ∧ SubW wq W.heap.size s n x bs bn) (fun i _ => (intOf i + 1).toNat)
          case atStart => exact ⟨s, Nat.le_refl _, by simp, fun t h ht => by omega, HJ3.out, HS3⟩
          case round =>
            clear HJ3 HS3 d1
            obtain ⟨j, hj, rfl, hend, hJ4, hX, hb1, hb2⟩ := hrel
            have HEnd := Lib.hid hend
            have HJ4 := Lib.hid hJ4
            clear hend hJ4
            have d1 := hb1.cell 0
            have d2 := hb2.cell 0
            simp at d1 d2
            cases j with
            | zero =>
              gi_wp2
              gi_quiet_th (fail)
              have hd1 := (d1 : wr.cell? ⟨bs, 0, none⟩ = some (.int .i64 s))
              gi_wp2
              have hnn : next n x = none := next_none 0 x hxi (fun t h => HEnd.out t h (Nat.zero_le _))
              have hrest : rest = [] := by
                have := combs_next hs Hc.out
                rw [hnn] at this
                cases rest with
                | nil => rfl
                | cons y r => simp at this
              refine bodyPost_ret (results_none rfl _ _ _) rfl ⟨⟨_, rfl⟩, .inl ?_⟩
              rw [HLe.out, hrest]
              exact hJ _ _ _ HJ4.out (by repeat (first | exact Below.refl _ _ | refine belowN ?_ _ | refine Below.drew ?_))
            | succ p =>
              have hps : p < x.length := by omega
              have e0' : wr.cell? ⟨W.heap.size, p, none⟩ = some (.int .i64 (x[p] : Int)) := by rw [hX.cell, ncells_at hps]
              have hxn := incr_lt 0 x hxi x[p] (List.getElem_mem hps)
              have W1 : IntKind.i64.wrap ((n : Int) - (s : Int)) = (n : Int) - s := i64_inI (by omega)
              have W2 : IntKind.i64.wrap ((n : Int) - (s : Int) + (p : Int)) = (n : Int) - s + p := i64_inI (by omega)
              have ep : ((p + 1 : Nat) : Int) - 1 = (p : Int) := by omega
              rw [ep]
              have p0 : (0 : Int) ≤ (p : Int) := by omega
              have p1 : (p : Int) < (s : Int) := by omega
              by_cases he : x[p] = n - x.length + p
              · have e0 : wr.cell? ⟨W.heap.size, p, none⟩ = some (.int .i64 ((n : Int) - (s : Int) + (p : Int))) := by rw [e0']; congr 2; omega
                have HE := Lib.hid he
                have HX := Lib.hid hX
                have HB1 := Lib.hid hb1
                have HB2 := Lib.hid hb2
                clear e0' he hX hb1 hb2
                gi_wp2
                gi_quiet_th (fail)
                gi_wp2
                go_roundw
                case rel =>
                  refine ⟨p, by omega, rfl, ?_, hJ _ _ _ HJ4.out (belowN (Below.refl _ _) _), Blk.drewN HX.out _, Blk.drewN HB1.out _, Blk.drewN HB2.out _⟩
                  intro t ht hpt
                  rcases Nat.lt_or_ge p t with h | h
                  · exact HEnd.out t ht (by omega)
                  · obtain rfl : t = p := by omega
                    exact HE.out
                case measure => first | (simp [intOf]; done) | (simp [intOf]; omega)
              · obtain ⟨q, hq⟩ : ∃ q, q = x[p] := ⟨_, rfl⟩
                have e0 : wr.cell? ⟨W.heap.size, p, none⟩ = some (.int .i64 (q : Int)) := by rw [e0', ← hq]
                have hdd : ((q : Int) == (n : Int) - (s : Int) + (p : Int)) = false := by rw [hq]; first | (simp; done) | (simp; omega)
                have HE := Lib.hid he
                have HQ := Lib.hid hq
                have HX := Lib.hid hX
                have HB1 := Lib.hid hb1
                have HB2 := Lib.hid hb2
                have hqn : q < n := by omega
                have e1 := hX.free p
                have hXL := hX
                have HXQ := Lib.hid (show x[p] = q from hq.symm)
                clear e0' he hX hb1 hb2 hq hXL
                gi_wp2
                gi_quiet_th (fail)
                gi_wp2
                gi_loopw [7] (fun i wq => ∃ k : Nat, p < k ∧ k ≤ s ∧ i = .int .i64 k ∧ J (pre ++ [x]) wq ∧ SubW wq W.heap.size s n (mid x p q k) bs bn) (fun i _ => s - (intOf i).toNat)
                case atStart =>
                  have h0 : Blk (wr.drewN nq) W.heap.size (ncells x) 3 := HX.out
                  refine ⟨p + 1, by omega, by omega, by go_num, hJ _ _ _ HJ4.out ((belowN (Below.refl _ _) _).setCell (p := ⟨W.heap.size, p, none⟩) (Nat.le_refl _) _), ?_, ?_, ?_⟩
                  · refine (h0.set p _).cast ?_
                    rw [← mid_start (by omega)]
                    exact ncells_set x p (q + 1)
                  · exact Blk.other (show Blk (wr.drewN nq) bs _ _ from HB1.out) (by simp; omega) _
                  · exact Blk.other (show Blk (wr.drewN nq) bn _ _ from HB2.out) (by simp; omega) _
                case round =>
                  clear e0 e1 d1 d2 W1 W2 hdd
                  obtain ⟨k, hpk, hks, rfl, hJ5, hX5, hb5, hc5⟩ := hrel
                  have d1 := hb5.cell 0
                  simp at d1
                  have hml := mid_len (x := x) (p := p) (q := q) (k := k) (by omega) (by omega)
                  by_cases hlt : k < s
                  · have m0 : wr.cell? ⟨W.heap.size, k - 1, none⟩ = some (.int .i64 ((q + (k - p) : Nat) : Int)) := by
                      rw [hX5.cell, ncells_at (by omega), mid_at hpk (by omega)]
                    have m1 := hX5.free k
                    obtain ⟨u, m2⟩ : ∃ u, wr.cell? ⟨W.heap.size, k, none⟩ = some (.int .i64 u) := ⟨_, by rw [hX5.cell, ncells_at (by omega)]⟩
                    have ek : ((k : Int) - 1).toNat = k - 1 := by omega
                    have k0 : (0 : Int) ≤ (k : Int) - 1 := by omega
                    have k1 : (k : Int) - 1 < (s : Int) := by omega
                    have k2 : (k : Int) < (s : Int) := by omega
                    have HX5 := Lib.hid hX5
                    have HB5 := Lib.hid hb5
                    have HC5 := Lib.hid hc5
                    have HJ5 := Lib.hid hJ5
                    obtain ⟨v, hv⟩ : ∃ v, v = q + (k - p) := ⟨_, rfl⟩
                    have hvb : v ≤ 30 := by omega
                    rw [← hv] at m0
                    have HV := Lib.hid hv
                    clear hv hX5 hb5 hc5 hJ5
                    gi_wp2
                    go_roundw
                    case rel =>
                      refine ⟨k + 1, by omega, by omega, by go_num, hJ _ _ _ HJ5.out ((Below.refl _ _).setCell (p := ⟨W.heap.size, k, none⟩) (Nat.le_refl _) _), ?_, Blk.other HB5.out (by simp; omega) _, Blk.other HC5.out (by simp; omega) _⟩
                      refine (HX5.out.set k _).cast ?_
                      rw [← mid_set hpk (by omega), ← HV.out]
                      exact ncells_set _ k (v + 1)
                    case measure => simp [intOf]; omega
                  · obtain rfl : s = k := by omega
                    have hnx : next n x = some (mid x p q s) := by
                      have h1 := next_some 0 x hxi p hps HE.out (fun t ht h => HEnd.out t ht (by omega))
                      have h2 := mid_end (x := x) (p := p) (q := q)
                      rw [hxl] at h2
                      rw [h1, h2, hxl, HXQ.out]
                    obtain ⟨r, hr⟩ : ∃ r, rest = mid x p q s :: r := by
                      have := combs_next hs Hc.out
                      rw [hnx] at this
                      cases rest with
                      | nil => simp at this
                      | cons y r => simp at this; exact ⟨r, by rw [this]⟩
                    have HR := Lib.hid hr
                    have HX5 := Lib.hid hX5
                    have HB5 := Lib.hid hb5
                    have HC5 := Lib.hid hc5
                    have HJ5 := Lib.hid hJ5
                    clear hr hnx hX5 hb5 hc5 hJ5
                    gi_wp2
                    go_roundw
                    case rel => exact ⟨pre ++ [x], mid x p q s, r, by rw [HLe.out, HR.out]; simp, HJ5.out, HX5.out, HB5.out, HC5.out⟩
                    case measure =>
                      rw [natsAt_of HX5.out, HN0.out]
                      have hd := combs_nodup n s
                      rw [HL.out, leftOf_at hd Hc.out, leftOf_at (pre := pre ++ [x]) (rest := r) hd (by rw [Hc.out, HR.out]; simp), HR.out]
                      simp
        · gi_wp2
          refine bodyPost_ret (results_none rfl _ _ _) rfl ⟨⟨_, rfl⟩, .inr ⟨pre ++ [x], ⟨rest, by rw [HLe.out]; simp⟩, hJx3⟩⟩
end Go.Proofs.Ytlloijkmpmfapaa

/-
  Clone of numbers; a set that is shown.
-/
namespace Go.Proofs.Ytlloijkmpmfapaa
open Go.RowKit Bal Bal.Trim
set_option linter.unusedVariables false
set_option linter.unusedSimpArgs false
set_option maxHeartbeats 1600000
set_option maxRecDepth 10000
theorem s_CloneI (a : Option Addr) (cap : Nat) (xs : List Int) (w : World) (hx : Row icell 1 w.heap.size w a xs) (hn : xs.length ≤ 1000) (hz : a = none → cap = 0) :
    Calls Try.prog 94 #[.slice a xs.length cap] w fun e w' => ∃ v, e = .returned v ∧ w'.ownsRow w.heap.size 3 1 v xs.length (xs.flatMap icell) ∧ Kept w w' := by
  cases a with
  | none =>
    have hl : xs = [] := by
      cases xs with
      | nil => rfl
      | cons y ys => obtain ⟨b, off, ha, _⟩ := hx 0 y rfl; cases ha
    subst hl
    have := hz rfl
    subst this
    have hs0 : ∀ w, (binOp .eql 63 (.slice none 0 0) (.slice none 0 0)).run Try.prog w = .ok (.bool true) w := fun w => Lib.run_eql_slice_nil w _ _ _ _ _ _ _ Try.underlying63
    go_enter Try.func94, Try.ntmps94
    go_wp2
    exact bodyPost_ret (v := .slice none 0 0) (by simp [results, Try.results94, go_sem]) rfl ⟨_, rfl, owns_nil (α := Int) (enc := icell), by (exact kpt)⟩
  | some ad =>
    have HO := Lib.hid (owns_made (α := Int) (enc := icell) (base := w.heap.size) (k := 1) (n := w.heap.size) (e := 3) (w := w) rfl (Nat.le_refl _))
    have hs0 : ∀ w, (binOp .eql 63 (.slice (some ad) xs.length cap) (.slice none 0 0)).run Try.prog w = .ok (.bool false) w := fun w => Lib.run_eql_slice_nil w _ _ _ _ _ _ _ Try.underlying63
    go_enter Try.func94, Try.ntmps94
    go_wp2_with (at_builtin; obtain ⟨i0, hi, hz0, hz1, hz2⟩ := info_parts infoI2; refine wpList_append_list (enc := icell) rfl _ _ 63 rfl w.heap.size 3 i0 (.int .i64 0) 1 8 Try.underlying63 hi hz0 hz1 hz2 rfl (by decide) (fun _ => rfl) (fun x u hu => by simp [icell] at hu; subst hu; rfl) _ [] rfl HO.out (some ad) cap xs rfl (by simp) (B := w.heap.size) (hx.keep (by (exact kpt)) (Nat.le_refl _)) (by simp [maxLen]; omega) (by simp; omega) (by simp) ?_; intro v' w9 hown' hgrow; clear hi hz0 hz1 hz2)
    have hk : Kept w w9 := Kept.grown (Kept.alloc (Below.refl _ _) _) HO.out (Nat.le_refl _) hgrow
    rw [List.nil_append] at hown'
    obtain ⟨ad', cp, rfl, _⟩ := owns_row (enc := icell) (k := 1) (fun _ => rfl) hown'
    exact bodyPost_ret (v := .slice ad' xs.length cp) (by simp [results, Try.results94, go_sem]) rfl ⟨_, rfl, hown', hk⟩


def ints (x : List Nat) : List Int := x.map (fun i : Nat => (i : Int))
theorem ints_len (x : List Nat) : (ints x).length = x.length := by simp [ints]
theorem mem_ints {x : List Nat} {i : Nat} : (i : Int) ∈ ints x ↔ i ∈ x := by
  simp only [ints, List.mem_map]
  exact ⟨fun ⟨a, h, e⟩ => (show a = i by omega) ▸ h, fun h => ⟨i, h, rfl⟩⟩
theorem row_ints {W : World} {b : Nat} {x : List Nat} (h : Blk W b (ncells x) 3) : Row icell 1 W.heap.size W (some ⟨b, 0, none⟩) (ints x) := by
  intro i y hy
  obtain ⟨hi, rfl⟩ := List.getElem?_eq_some_iff.1 hy
  rw [ints_len] at hi
  refine ⟨b, 0, rfl, h.lt, fun j v hj => ?_⟩
  cases j with
  | zero =>
    simp [icell] at hj
    subst hj
    have := h.cell i
    rw [ncells_at hi] at this
    simpa [ints] using this
  | succ j => simp [icell] at hj
end Go.Proofs.Ytlloijkmpmfapaa

/-
  Drop, in the program.
-/
namespace Go.Proofs.Ytlloijkmpmfapaa
open Go.RowKit Bal Bal.Trim
set_option linter.unusedVariables false
set_option linter.unusedSimpArgs false
set_option maxHeartbeats 1600000
set_option maxRecDepth 10000
attribute [local go_sem] Oper.semAt_some

theorem f_Drop_bad (a : Option Addr) (cap : Nat) (xs : List Load) (d : Option Addr) (cd : Nat) (bs : List Put) (b : Option Addr) (cb : Nat) (ms : List Limit) (w : World) (hx : Row Load.cells 4 w.heap.size w a xs) (hc : xs.length ≤ cap) (hM : cap ≤ maxLen) (hp : Row Put.cells 2 w.heap.size w d bs) (hpc : bs.length ≤ cd) (hpM : cd ≤ maxLen) (hy : Row Limit.cells 3 w.heap.size w b ms) (hd : ms.length ≤ cb) (hN : cb ≤ maxLen) (he : both xs ms ≠ 0) :
    Calls Try.prog 42 #[.slice a xs.length cap, .slice d bs.length cd, .slice b ms.length cb] w fun e w' => e = .returned (.tuple #[.slice none 0 0, .int .i64 (both xs ms)]) ∧ Kept w w' := by
  have hb : (both xs ms != 0) = true := by simp [he]
  obtain ⟨E, hEE⟩ : ∃ E, E = both xs ms := ⟨_, rfl⟩
  have HE := Lib.hid hEE.symm
  rw [← hEE] at he hb ⊢
  clear hEE
  go_enter Try.func42, Try.ntmps42
  go_wp2_with (go_at_call 71; (with_reducible refine (f_both _ _ _ _ _ _ _ (hx.later (by (exact kpt)) (Nat.le_refl _)) hc hM (hy.later (by (exact kpt)) (Nat.le_refl _)) hd hN).mono ?_); rw [HE.out]; rintro e w1 ⟨rfl, hb1⟩; refine Blk.thru (b := w.heap.size) (arr := ?_) (t := ?_) ?_ hb1 ?_; rotate_left 2; (focus (exact blk)); intro r0; have r0c0 := r0.cell 0; have r0f0 := r0.free 0; have r0l := r0.lt; simp at r0c0; refine Blk.thru (b := w.heap.size + 1) (arr := ?_) (t := ?_) ?_ hb1 ?_; rotate_left 2; (focus (exact blk)); intro r1; have r1c0 := r1.cell 0; have r1f0 := r1.free 0; have r1l := r1.lt; simp at r1c0; refine Blk.thru (b := w.heap.size + 1 + 1) (arr := ?_) (t := ?_) ?_ hb1 ?_; rotate_left 2; (focus (exact blk)); intro r2; have r2c0 := r2.cell 0; have r2f0 := r2.free 0; have r2l := r2.lt; simp at r2c0; refine Blk.thru (b := w.heap.size + 1 + 1 + 1) (arr := ?_) (t := ?_) ?_ hb1 ?_; rotate_left 2; (focus (exact blk)); intro r3; have r3c0 := r3.cell 0; have r3f0 := r3.free 0; have r3l := r3.lt; simp at r3c0; refine Blk.thru (b := w.heap.size + 1 + 1 + 1 + 1) (arr := ?_) (t := ?_) ?_ hb1 ?_; rotate_left 2; (focus (exact blk)); intro r4; have r4c0 := r4.cell 0; have r4f0 := r4.free 0; have r4l := r4.lt; simp at r4c0)
  exact bodyPost_ret (v := .tuple #[.slice none 0 0, .int .i64 E]) (by simp [results, Try.results42, go_sem, r3c0, r3f0, r3l, r4c0, r4f0, r4l]) rfl ⟨rfl, by (exact kpt)⟩

theorem f_Drop_many (a : Option Addr) (cap : Nat) (xs : List Load) (d : Option Addr) (cd : Nat) (bs : List Put) (b : Option Addr) (cb : Nat) (ms : List Limit) (w : World) (hx : Row Load.cells 4 w.heap.size w a xs) (hc : xs.length ≤ cap) (hM : cap ≤ maxLen) (hp : Row Put.cells 2 w.heap.size w d bs) (hpc : bs.length ≤ cd) (hpM : cd ≤ maxLen) (hy : Row Limit.cells 3 w.heap.size w b ms) (hd : ms.length ≤ cb) (hN : cb ≤ maxLen) (he : both xs ms = 0) (hm : many xs bs = true) :
    Calls Try.prog 42 #[.slice a xs.length cap, .slice d bs.length cd, .slice b ms.length cb] w fun e w' => e = .returned (.tuple #[.slice none 0 0, .int .i64 4]) ∧ Kept w w' := by
  obtain ⟨he1, _⟩ := both_ok he
  obtain ⟨hn, _⟩ := checkLoads_ok he1
  simp only [many, Bool.or_eq_true, decide_eq_true_eq] at hm
  have HE := Lib.hid he
  clear he he1
  unfold maxLen at hM hpM hN
  by_cases h1 : 10 < bs.length
  · clear hm
    go_enter Try.func42, Try.ntmps42
    go_wp2_with (go_at_call 71; (with_reducible refine (f_both _ _ _ _ _ _ _ (hx.later (by (exact kpt)) (Nat.le_refl _)) hc (by unfold maxLen; omega) (hy.later (by (exact kpt)) (Nat.le_refl _)) hd (by unfold maxLen; omega)).mono ?_); rw [HE.out]; rintro e w1 ⟨rfl, hb1⟩; refine Blk.thru (b := w.heap.size) (arr := ?_) (t := ?_) ?_ hb1 ?_; rotate_left 2; (focus (exact blk)); intro r0; have r0c0 := r0.cell 0; have r0f0 := r0.free 0; have r0l := r0.lt; simp at r0c0; refine Blk.thru (b := w.heap.size + 1) (arr := ?_) (t := ?_) ?_ hb1 ?_; rotate_left 2; (focus (exact blk)); intro r1; have r1c0 := r1.cell 0; have r1f0 := r1.free 0; have r1l := r1.lt; simp at r1c0; refine Blk.thru (b := w.heap.size + 1 + 1) (arr := ?_) (t := ?_) ?_ hb1 ?_; rotate_left 2; (focus (exact blk)); intro r2; have r2c0 := r2.cell 0; have r2f0 := r2.free 0; have r2l := r2.lt; simp at r2c0; refine Blk.thru (b := w.heap.size + 1 + 1 + 1) (arr := ?_) (t := ?_) ?_ hb1 ?_; rotate_left 2; (focus (exact blk)); intro r3; have r3c0 := r3.cell 0; have r3f0 := r3.free 0; have r3l := r3.lt; simp at r3c0; refine Blk.thru (b := w.heap.size + 1 + 1 + 1 + 1) (arr := ?_) (t := ?_) ?_ hb1 ?_; rotate_left 2; (focus (exact blk)); intro r4; have r4c0 := r4.cell 0; have r4f0 := r4.free 0; have r4l := r4.lt; simp at r4c0)
    exact bodyPost_ret (v := .tuple #[.slice none 0 0, .int .i64 4]) (by simp [results, Try.results42, go_sem, r3c0, r3f0, r3l, r4c0, r4f0, r4l]) rfl ⟨rfl, by (exact kpt)⟩
  · have h2 : 40 < xs.length + bs.length := by omega
    clear hm
    go_enter Try.func42, Try.ntmps42
    go_wp2_with (go_at_call 71; (with_reducible refine (f_both _ _ _ _ _ _ _ (hx.later (by (exact kpt)) (Nat.le_refl _)) hc (by unfold maxLen; omega) (hy.later (by (exact kpt)) (Nat.le_refl _)) hd (by unfold maxLen; omega)).mono ?_); rw [HE.out]; rintro e w1 ⟨rfl, hb1⟩; refine Blk.thru (b := w.heap.size) (arr := ?_) (t := ?_) ?_ hb1 ?_; rotate_left 2; (focus (exact blk)); intro r0; have r0c0 := r0.cell 0; have r0f0 := r0.free 0; have r0l := r0.lt; simp at r0c0; refine Blk.thru (b := w.heap.size + 1) (arr := ?_) (t := ?_) ?_ hb1 ?_; rotate_left 2; (focus (exact blk)); intro r1; have r1c0 := r1.cell 0; have r1f0 := r1.free 0; have r1l := r1.lt; simp at r1c0; refine Blk.thru (b := w.heap.size + 1 + 1) (arr := ?_) (t := ?_) ?_ hb1 ?_; rotate_left 2; (focus (exact blk)); intro r2; have r2c0 := r2.cell 0; have r2f0 := r2.free 0; have r2l := r2.lt; simp at r2c0; refine Blk.thru (b := w.heap.size + 1 + 1 + 1) (arr := ?_) (t := ?_) ?_ hb1 ?_; rotate_left 2; (focus (exact blk)); intro r3; have r3c0 := r3.cell 0; have r3f0 := r3.free 0; have r3l := r3.lt; simp at r3c0; refine Blk.thru (b := w.heap.size + 1 + 1 + 1 + 1) (arr := ?_) (t := ?_) ?_ hb1 ?_; rotate_left 2; (focus (exact blk)); intro r4; have r4c0 := r4.cell 0; have r4f0 := r4.free 0; have r4l := r4.lt; simp at r4c0)
    exact bodyPost_ret (v := .tuple #[.slice none 0 0, .int .i64 4]) (by simp [results, Try.results42, go_sem, r3c0, r3f0, r3l, r4c0, r4f0, r4l]) rfl ⟨rfl, by (exact kpt)⟩

/-- the boxes of the arguments and of the results -/
structure DropW (w W : World) (a d b : Option Addr) (n m l cap cd cb : Nat) : Prop where
  r0 : Blk W w.heap.size #[.slice a n cap] 22
  r1 : Blk W (w.heap.size + 1) #[.slice d m cd] 34
  r2 : Blk W (w.heap.size + 1 + 1) #[.slice b l cb] 23
  r3 : Blk W (w.heap.size + 1 + 1 + 1) #[.slice none 0 0] 63
  r4 : Blk W (w.heap.size + 1 + 1 + 1 + 1) #[.int .i64 0] 26
  kept : Kept w W
theorem f_Drop_bags (a : Option Addr) (cap : Nat) (xs : List Load) (d : Option Addr) (cd : Nat) (bs : List Put) (b : Option Addr) (cb : Nat) (ms : List Limit) (w : World) (hx : Row Load.cells 4 w.heap.size w a xs) (hc : xs.length ≤ cap) (hM : cap ≤ maxLen) (hp : Row Put.cells 2 w.heap.size w d bs) (hpc : bs.length ≤ cd) (hpM : cd ≤ maxLen) (hy : Row Limit.cells 3 w.heap.size w b ms) (hd : ms.length ≤ cb) (hN : cb ≤ maxLen) (he : both xs ms = 0) (hm : many xs bs = false) (hb : bs.all bagB = false) :
    Calls Try.prog 42 #[.slice a xs.length cap, .slice d bs.length cd, .slice b ms.length cb] w fun e w' => e = .returned (.tuple #[.slice none 0 0, .int .i64 40]) ∧ Kept w w' := by
  obtain ⟨he1, _⟩ := both_ok he
  obtain ⟨hn, _⟩ := checkLoads_ok he1
  simp only [many, Bool.or_eq_false_iff, decide_eq_false_iff_not] at hm
  obtain ⟨hm1, hm2⟩ := hm
  have HE := Lib.hid he
  have HB := Lib.hid hb
  clear he he1 hb
  have hpM' := hpM
  unfold maxLen at hM hpM hN
  go_enter Try.func42, Try.ntmps42
  go_wp2_with (go_at_call 71; (with_reducible refine (f_both _ _ _ _ _ _ _ (hx.later (by (exact kpt)) (Nat.le_refl _)) hc (by unfold maxLen; omega) (hy.later (by (exact kpt)) (Nat.le_refl _)) hd (by unfold maxLen; omega)).mono ?_); rw [HE.out]; rintro e w1 ⟨rfl, hb1⟩; refine Blk.thru (b := w.heap.size) (arr := ?_) (t := ?_) ?_ hb1 ?_; rotate_left 2; (focus (exact blk)); intro r0; have r0c0 := r0.cell 0; have r0f0 := r0.free 0; have r0l := r0.lt; simp at r0c0; refine Blk.thru (b := w.heap.size + 1) (arr := ?_) (t := ?_) ?_ hb1 ?_; rotate_left 2; (focus (exact blk)); intro r1; have r1c0 := r1.cell 0; have r1f0 := r1.free 0; have r1l := r1.lt; simp at r1c0; refine Blk.thru (b := w.heap.size + 1 + 1) (arr := ?_) (t := ?_) ?_ hb1 ?_; rotate_left 2; (focus (exact blk)); intro r2; have r2c0 := r2.cell 0; have r2f0 := r2.free 0; have r2l := r2.lt; simp at r2c0; refine Blk.thru (b := w.heap.size + 1 + 1 + 1) (arr := ?_) (t := ?_) ?_ hb1 ?_; rotate_left 2; (focus (exact blk)); intro r3; have r3c0 := r3.cell 0; have r3f0 := r3.free 0; have r3l := r3.lt; simp at r3c0; refine Blk.thru (b := w.heap.size + 1 + 1 + 1 + 1) (arr := ?_) (t := ?_) ?_ hb1 ?_; rotate_left 2; (focus (exact blk)); intro r4; have r4c0 := r4.cell 0; have r4f0 := r4.free 0; have r4l := r4.lt; simp at r4c0)
  go_loopw [39] (fun i wr => ∃ k : Nat, k ≤ bs.length ∧ i = .int .i64 k ∧ (bs.take k).all bagB = true ∧ DropW w wr a d b xs.length bs.length ms.length cap cd cb) (fun i _ => bs.length - (intOf i).toNat)
  case atStart => exact ⟨0, Nat.zero_le _, rfl, by simp, ⟨by (exact blkc), by (exact blkc), by (exact blkc), by (exact blkc), by (exact blkc), by (exact kpt)⟩⟩
  case round =>
    clear r0 r0c0 r0f0 r0l r1 r1c0 r1f0 r1l r2 r2c0 r2f0 r2l r3 r3c0 r3f0 r3l r4 r4c0 r4f0 r4l
    obtain ⟨k, hk, rfl, ha', ⟨r0, r1, r2, r3, r4, hkk⟩⟩ := hrel
    have ha := Lib.hid ha'
    clear ha'
    by_cases hlt : k < bs.length
    · obtain ⟨bb, off, rfl, hbl, h0, h1⟩ := Put.row (hp.later hkk (Nat.le_refl _)) k hlt
      have HT := Lib.hid (fun h => take_all (valid := bagB) hlt ha.out h)
      obtain ⟨x, hx0⟩ : ∃ x, x = bs[k] := ⟨_, rfl⟩
      rw [← hx0] at HT h0 h1
      clear hx0
      have r0c0 := r0.cell 0
      have r0f0 := r0.free 0
      have r0l := r0.lt
      simp at r0c0
      have r1c0 := r1.cell 0
      have r1f0 := r1.free 0
      have r1l := r1.lt
      simp at r1c0
      have r2c0 := r2.cell 0
      have r2f0 := r2.free 0
      have r2l := r2.lt
      simp at r2c0
      have r3c0 := r3.cell 0
      have r3f0 := r3.free 0
      have r3l := r3.lt
      simp at r3c0
      have r4c0 := r4.cell 0
      have r4f0 := r4.free 0
      have r4l := r4.lt
      simp at r4c0
      cases c1 : inB x.pos (-20000) 20000
      · have HB1 := Lib.hid c1
        clear c1
        go_wp2_with (go_at_call 67; refine (f_place _ _).mono ?_; rw [HB1.out]; rintro e w2 ⟨rfl, rfl⟩)
        exact bodyPost_ret (v := .tuple #[.slice none 0 0, .int .i64 40]) (by simp [results, Try.results42, go_sem, r3c0, r3f0, r3l, r4c0, r4f0, r4l]) rfl ⟨rfl, by (exact kpt)⟩
      · cases c2 : inB x.wt 1 1000000
        · have HB1 := Lib.hid c1
          have HB2 := Lib.hid c2
          clear c1 c2
          go_wp2_with (first | (go_at_call 67; refine (f_place _ _).mono ?_; rw [HB1.out]; rintro e w2 ⟨rfl, rfl⟩) | (go_at_call 68; refine (f_ranged _ _ _ _).mono ?_; rw [HB2.out]; rintro e w2 ⟨rfl, rfl⟩))
          exact bodyPost_ret (v := .tuple #[.slice none 0 0, .int .i64 40]) (by simp [results, Try.results42, go_sem, r3c0, r3f0, r3l, r4c0, r4f0, r4l]) rfl ⟨rfl, by (exact kpt)⟩
        · have HB1 := Lib.hid c1
          have HB2 := Lib.hid c2
          have HF := Lib.hid (HT.out (by unfold bagB; rw [c1, c2]; rfl))
          clear c1 c2 HT
          go_wp2_with (first | (go_at_call 67; refine (f_place _ _).mono ?_; rw [HB1.out]; rintro e w2 ⟨rfl, rfl⟩) | (go_at_call 68; refine (f_ranged _ _ _ _).mono ?_; rw [HB2.out]; rintro e w2 ⟨rfl, rfl⟩))
          go_roundw
          case rel => exact ⟨k + 1, by omega, by go_num, HF.out, ⟨by (exact blkc), by (exact blkc), by (exact blkc), by (exact blkc), by (exact blkc), by (exact kpt)⟩⟩
          case measure => simp [intOf]; omega
    · exfalso
      have h1 := ha.out
      rw [List.take_of_length_le (by omega), HB.out] at h1
      cases h1

end Go.Proofs.Ytlloijkmpmfapaa

/-
  Drop: the loop's act, what its rounds leave alone.
-/
namespace Go.Proofs.Ytlloijkmpmfapaa
open Go.RowKit Go.Shelf Bal Bal.Trim
set_option linter.unusedVariables false
set_option linter.unusedSimpArgs false
set_option maxRecDepth 10000
theorem at_worldIn {F : Fence} {n : Nat} {P : Program} {c : Code} {Q : Exit → Act → World → Prop} {a : Act} {S : World → Prop} {W : World} (h : S W) (k : ∀ W, S W → c.wpIn F n P Q a W) : c.wpIn F n P Q a W := k W h
theorem wpIn_scope {n : Nat} {P : Program} {c : Code} {Q : Exit → Act → World → Prop} {a : Act} {W : World} (h : c.wpIn Fence.wide n P (Exit.noGoto Q) a W) : (Code.scope c).wpIn Fence.wide n P Q a W := wpIn_wide.2 (wp_scope_straight (wpIn_wide.1 h))
theorem list106 (f : Nat → Value) : ((List.range 106).map f).toArray = #[f 0, f 1, f 2, f 3, f 4, f 5, f 6, f 7, f 8, f 9, f 10, f 11, f 12, f 13, f 14, f 15, f 16, f 17, f 18, f 19, f 20, f 21, f 22, f 23, f 24, f 25, f 26, f 27, f 28, f 29, f 30, f 31, f 32, f 33, f 34, f 35, f 36, f 37, f 38, f 39, f 40, f 41, f 42, f 43, f 44, f 45, f 46, f 47, f 48, f 49, f 50, f 51, f 52, f 53, f 54, f 55, f 56, f 57, f 58, f 59, f 60, f 61, f 62, f 63, f 64, f 65, f 66, f 67, f 68, f 69, f 70, f 71, f 72, f 73, f 74, f 75, f 76, f 77, f 78, f 79, f 80, f 81, f 82, f 83, f 84, f 85, f 86, f 87, f 88, f 89, f 90, f 91, f 92, f 93, f 94, f 95, f 96, f 97, f 98, f 99, f 100, f 101, f 102, f 103, f 104, f 105] := by rfl
theorem drop_act (A : Array Value) {v0 v1 v2 v3 v4 v5 v6 v7 v56 v57 : Value} (hs : A.size = 106) (h0 : A[0]? = some v0) (h1 : A[1]? = some v1) (h2 : A[2]? = some v2) (h3 : A[3]? = some v3) (h4 : A[4]? = some v4) (h5 : A[5]? = some v5) (h6 : A[6]? = some v6) (h7 : A[7]? = some v7) (h56 : A[56]? = some v56) (h57 : A[57]? = some v57) :
    ∃ u : Nat → Value, A = #[v0, v1, v2, v3, v4, v5, v6, v7, u 8, u 9, u 10, u 11, u 12, u 13, u 14, u 15, u 16, u 17, u 18, u 19, u 20, u 21, u 22, u 23, u 24, u 25, u 26, u 27, u 28, u 29, u 30, u 31, u 32, u 33, u 34, u 35, u 36, u 37, u 38, u 39, u 40, u 41, u 42, u 43, u 44, u 45, u 46, u 47, u 48, u 49, u 50, u 51, u 52, u 53, u 54, u 55, v56, v57, u 58, u 59, u 60, u 61, u 62, u 63, u 64, u 65, u 66, u 67, u 68, u 69, u 70, u 71, u 72, u 73, u 74, u 75, u 76, u 77, u 78, u 79, u 80, u 81, u 82, u 83, u 84, u 85, u 86, u 87, u 88, u 89, u 90, u 91, u 92, u 93, u 94, u 95, u 96, u 97, u 98, u 99, u 100, u 101, u 102, u 103, u 104, u 105] := by
  obtain ⟨f, hf⟩ : ∃ f : Nat → Value, f = fun i => A.getD i undef := ⟨_, rfl⟩
  have key : A = ((List.range 106).map f).toArray := by
    apply Array.ext
    · simp [hs]
    · intro i h1 h2
      simp [hf, Array.getD, h1]
  have g : ∀ (i : Nat) (v : Value), A[i]? = some v → f i = v := by
    intro i v h
    rw [hf]
    simp [Array.getD_eq_getD_getElem?, h]
  refine ⟨f, ?_⟩
  rw [key, list106, g 0 _ h0, g 1 _ h1, g 2 _ h2, g 3 _ h3, g 4 _ h4, g 5 _ h5, g 6 _ h6, g 7 _ h7, g 56 _ h56, g 57 _ h57]
theorem DropW.keep {w W W' : World} {a d b : Option Addr} {n m l cap cd cb B : Nat} (h : DropW w W a d b n m l cap cd cb) (hb : Below B W W') (hB : W.heap.size ≤ B) : DropW w W' a d b n m l cap cd cb :=
  ⟨Blk.below h.r0 hb (Nat.lt_of_lt_of_le h.r0.lt hB), Blk.below h.r1 hb (Nat.lt_of_lt_of_le h.r1.lt hB), Blk.below h.r2 hb (Nat.lt_of_lt_of_le h.r2.lt hB), Blk.below h.r3 hb (Nat.lt_of_lt_of_le h.r3.lt hB), Blk.below h.r4 hb (Nat.lt_of_lt_of_le h.r4.lt hB), h.kept.trans (hb.mono (Nat.le_trans h.kept.size hB))⟩
theorem DropW.grown {w W W' : World} {a d b : Option Addr} {n m l cap cd cb base k j : Nat} {v : Value} {ys : List Value} (h : DropW w W a d b n m l cap cd cb) (ho : W.ownsRow base 88 k v j ys) (hb : w.heap.size ≤ base) (hg : W.grownBy W' v.ownBlock) : DropW w W' a d b n m l cap cd cb :=
  ⟨h.r0.grown ho (by decide) hg, h.r1.grown ho (by decide) hg, h.r2.grown ho (by decide) hg, h.r3.grown ho (by decide) hg, h.r4.grown ho (by decide) hg, Kept.grown h.kept ho hb hg⟩
theorem blk_own {β : Type} (B b : Nat) (arr : Array Value) (t : TypeId) : OwnFrom B (fun (_ : β) W => Blk W b arr t) := by
  intro _ X Y row hb hg hr
  refine (hg.block b (Blk.lt hb) (fun e => ?_)).trans hb
  obtain ⟨_, o, ho, hc⟩ := hr b e.symm
  rw [show X.heap[b]? = some _ from hb] at ho
  cases ho
  cases hc
theorem row_own {β : Type} (B base : Nat) (e : TypeId) (k : Nat) (v : Value) (n : Nat) (xs : List Value) : OwnFrom B (fun (_ : β) W => W.ownsRow base e k v n xs) := by
  intro _ X Y row hb hg hr
  obtain ⟨h1, h2 | ⟨g, cap, cur, hv, hgb, hh, r⟩⟩ := hb
  · exact ⟨h1, .inl h2⟩
  · refine ⟨h1, .inr ⟨g, cap, cur, hv, hgb, ?_, r⟩⟩
    exact blk_own (β := Unit) B g cur e () X Y row hh hg hr
theorem mark_own {β : Type} {B C : Nat} {Ds : List Nat} {W1 : World} (hM : Marked C Ds W1) (hB : W1.heap.size ≤ B) : OwnFrom B (fun (_ : β) W => Marked C Ds W) := by
  intro _ X Y row hb hg hr
  refine ⟨hb.1, fun D hD => ⟨(hb.2 D hD).1, ?_⟩⟩
  refine (hg.block D (Array.getElem?_eq_some_iff.1 (hb.2 D hD).2).1 (fun e => ?_)).trans (hb.2 D hD).2
  have h1 := (hr D e.symm).1
  have h2 := (Array.getElem?_eq_some_iff.1 (hM.2 D hD).2).1
  omega
theorem keepsFrom_of_kept {W W' : World} (h : Kept W W') (B : Nat) : KeepsFrom B W W' :=
  ⟨h.size, fun k o _ hk _ => (h.block k (Array.getElem?_eq_some_iff.1 hk).1).trans hk⟩
/-- how a round is left for good: the set, its copy in the result's cell -/
def DropEnd (w : World) (S : Option (List Nat)) (Ds : List Nat) (W : World) : Prop :=
  ∃ x vv, S = some x ∧ Blk W (w.heap.size + 1 + 1 + 1) #[vv] 63 ∧ Blk W (w.heap.size + 1 + 1 + 1 + 1) #[.int .i64 0] 26 ∧ W.ownsRow w.heap.size 3 1 vv (ints x).length ((ints x).flatMap icell) ∧ Kept w W ∧ Marked w.heap.size Ds W
theorem dropEnd_own {β : Type} {w W1 : World} {S : Option (List Nat)} {Ds : List Nat} {B : Nat} (hM : Marked w.heap.size Ds W1) (hB : W1.heap.size ≤ B) (hw : w.heap.size ≤ B) : OwnFrom B (fun (_ : β) W => DropEnd w S Ds W) := by
  intro s X Y row ⟨x, vv, h1, h2, h3, h4, h5, h6⟩ hg hr
  exact ⟨x, vv, h1, blk_own (β := Unit) B _ _ _ () X Y row h2 hg hr, blk_own (β := Unit) B _ _ _ () X Y row h3 hg hr, row_own (β := Unit) B _ _ _ _ _ _ () X Y row h4 hg hr, ownFrom_below (β := Unit) (Nat.le_refl _) hw () X Y row h5 hg hr, mark_own (β := Unit) hM hB () X Y row h6 hg hr⟩
theorem cells_four (w : World) (p q r s : Value) (t : TypeId) : ∀ j u, [p, q, r, s][j]? = some u → (w.alloc (.cells #[p, q, r, s] t)).cell? ((⟨w.heap.size, 0, none⟩ : Addr).add j) = some u := by
  intro j u hj
  match j, hj with
  | 0, hj => simp at hj; subst hj; simp [Addr.add]
  | 1, hj => simp at hj; subst hj; simp [Addr.add]
  | 2, hj => simp at hj; subst hj; simp [Addr.add]
  | 3, hj => simp at hj; subst hj; simp [Addr.add]
  | j + 4, hj => simp at hj
theorem okSet_some {xs : List Load} {bs : List Put} {ms : List Limit} {x : List Nat} {L : List Load} (hL : left xs bs x = L) {k : Nat} (hk : k < ms.length) (hb : ∀ j, j < k → brk L ms j = false) (h : brk L ms k = true) : okSet xs bs ms x = false := by
  unfold okSet
  rw [hL, show broken L ms = some k from Bal.Trim.firstOf_some hk hb h]
  rfl
theorem okSet_none {xs : List Load} {bs : List Put} {ms : List Limit} {x : List Nat} {L : List Load} (hL : left xs bs x = L) (hb : ∀ j, j < ms.length → brk L ms j = false) : okSet xs bs ms x = true := by
  unfold okSet
  rw [hL, show broken L ms = none from Bal.Trim.firstOf_none hb]
  rfl
theorem left_len {xs : List Load} {bs : List Put} {x : List Nat} : (left xs bs x).length ≤ xs.length + bs.length := by
  have := stay_len bs (fun i => decide (i ∈ x)) bs.length
  unfold left
  simp
  omega
theorem left_B {xs : List Load} {bs : List Put} {x : List Nat} (h1 : ∀ y ∈ xs, loadB y = true) (h2 : ∀ p ∈ bs, bagB p = true) : ∀ y ∈ left xs bs x, loadB y = true := by
  intro y hy
  rcases List.mem_append.1 hy with hy | hy
  · exact h1 y hy
  · exact stay_B h2 _ y hy
end Go.Proofs.Ytlloijkmpmfapaa
