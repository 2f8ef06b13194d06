/-
  Facts about memory, lists and numbers that the walks use: no program in sight.
-/
import Derived.WalkKit
import Derived.WalkSpells
import Derived.WalkLawsBesides
import Derived.Lib.Hide
import Derived.ProofKit
import Derived.OpenShut
import Derived.ChangeOld
import Derived.Below
import Derived.Deep.Slices
import Derived.Deep.Fields
import Derived.Deep.Quiet
import Derived.Laws.AppendOwn
import Derived.Laws.AppendOwnNone
import Derived.StillTail
import Derived.Test.YtacbkbilbmkjnaaProg
import Derived.Deep.QuietTactic
import Derived.BigQuiet
import Derived.Lib.SlicesCompact
import Derived.WalkSmall
import Derived.OwnWalk
import Derived.Deep.RegionHeld3
import Derived.OrdersHeld
import Derived.Deep.CutBlock
import Derived.Laws.MakeOwn
import Derived.RangeFuncNested
import Derived.RangeFuncCalls
import Derived.OrdersIn
import Derived.RangeFuncLeaves
import Derived.RangeFuncBound
import Derived.Shelf.Abstract
import Derived.Shelf.RegionOpen
import Derived.OwnWalkIn
import Derived.TacticsInMore
import Derived.LoopNIn
import Derived.LoopIn
import Derived.Scope
import Derived.RangeFuncBox
import Derived.Ground.NamesProg
import Derived.Ground.Names2Prog
import Derived.Shelf.Sort.Plain
import Derived.Shelf.Slices.CompactI
import Derived.Lib.OwnBridge
import Derived.Sort.OwnSortedInts
import Derived.Maps.OwnSet
import Derived.Laws.EntriesVeiled
import Derived.Deep.DeepCutAuto
import Derived.Test.YtacbkbilbmkjnaaMastDecidesMA
set_option linter.unusedVariables false
set_option linter.unusedSimpArgs false
/-
  Facts about memory, lists and numbers that the walks use: no program in sight.
-/
namespace Bal
open Go Go.RowKit Go.ChangeShapes Go.WideShapes

theorem ret_bool {a b : Bool} (h : a = b) : Ending.returned (.bool a) = .returned (.bool b) := by rw [h]

/-- What a call leaves alone: nothing that was there has changed. -/
abbrev Kept (w w' : World) : Prop := Below w.heap.size w w'

/-- The elements xs of a slice at address a, each of k cells, lie in blocks below B. -/
def Row {α : Type} (enc : α → List Value) (k B : Nat) (w : World) (a : Option Addr) (xs : List α) : Prop :=
  ∀ (i : Nat) (x : α), xs[i]? = some x → ∃ b off, a = some ⟨b, off, none⟩ ∧ b < B ∧ ∀ (j : Nat) (v : Value), (enc x)[j]? = some v → w.cell? ⟨b, off + i * k + j, none⟩ = some v

theorem Row.nil {α : Type} {enc : α → List Value} {k B : Nat} {w : World} {a : Option Addr} : Row enc k B w a [] := by
  intro i x h; simp at h

theorem Row.keep {α : Type} {enc : α → List Value} {k B C : Nat} {w w' : World} {a : Option Addr} {xs : List α} (h : Row enc k B w a xs) (hb : Below C w w') (hC : B ≤ C) : Row enc k B w' a xs := by
  intro i x hx
  obtain ⟨b, off, ha, hlt, hc⟩ := h i x hx
  exact ⟨b, off, ha, hlt, fun j v hj => by rw [hb.cell (p := ⟨b, off + i * k + j, none⟩) (show b < C by omega)]; exact hc j v hj⟩

theorem Row.up {α : Type} {enc : α → List Value} {k B C : Nat} {w : World} {a : Option Addr} {xs : List α} (h : Row enc k B w a xs) (hC : B ≤ C) : Row enc k C w a xs := by
  intro i x hx
  obtain ⟨b, off, ha, hlt, hc⟩ := h i x hx
  exact ⟨b, off, ha, by omega, hc⟩

/-- a row known below the heap of w, asked for in a later world w' -/
theorem Row.later {α : Type} {enc : α → List Value} {k B : Nat} {w w' : World} {a : Option Addr} {xs : List α} (h : Row enc k B w a xs) (hb : Below B w w') (hB : B ≤ w.heap.size) : Row enc k w'.heap.size w' a xs :=
  (h.keep hb (Nat.le_refl _)).up (Nat.le_trans hB hb.size)

theorem Kept.size {w w' : World} (h : Kept w w') : w.heap.size ≤ w'.heap.size := Below.size h
/-- what a walk wants to know behind a contract -/
theorem bcell3 {W w1 : World} (hb : Below W.heap.size W w1) : (∀ b o, b < W.heap.size → w1.cell? ⟨b, o, none⟩ = W.cell? ⟨b, o, none⟩) ∧ (∀ b o, b < W.heap.size → w1.frozen? ⟨b, o, none⟩ = W.frozen? ⟨b, o, none⟩) ∧ ∀ n, n < W.heap.size → n < w1.heap.size :=
  ⟨fun b o h => hb.cell (p := ⟨b, o, none⟩) h, fun b o h => hb.frozen (p := ⟨b, o, none⟩) h, fun _ h => Nat.lt_of_lt_of_le h hb.size⟩

theorem Kept.drop {w w' w'' : World} (h : Below w.heap.size w w') (h' : Kept w' w'') : Kept w w'' := h.trans (h'.mono h.size)

/-- a loop over xs has passed k elements, all of them valid, and left alone what was there -/
def Upto {α : Type} (valid : α → Bool) (xs : List α) (w : World) (i : Value) (wr : World) : Prop :=
  ∃ k : Nat, k ≤ xs.length ∧ i = .int .i64 k ∧ (xs.take k).all valid = true ∧ Kept w wr

theorem Kept.alloc {w w' : World} (h : Kept w w') (o : Obj) : Kept w (w'.alloc o) := Below.alloc h h.size o

/-- a number as a cell -/
def icell (n : Int) : List Value := [.int .i64 n]
theorem int_row {B : Nat} {w : World} {a : Option Addr} {xs : List Int} (h : Row icell 1 B w a xs) (i : Nat) (hi : i < xs.length) :
    ∃ b off, a = some ⟨b, off, none⟩ ∧ b < B ∧ w.cell? ⟨b, off + i, none⟩ = some (.int .i64 xs[i]) := by
  obtain ⟨b, off, ha, hb, hc⟩ := h i xs[i] (by simp [hi])
  exact ⟨b, off, ha, hb, by simpa using hc 0 _ rfl⟩

/-! ### Slices that a call has made itself, element by element -/
theorem flatMap_len {α : Type} {enc : α → List Value} {k : Nat} (he : ∀ x, (enc x).length = k) (xs : List α) : (xs.flatMap enc).length = xs.length * k := by
  induction xs with
  | nil => simp
  | cons x xs ih => simp [List.flatMap_cons, ih, he, Nat.succ_mul, Nat.add_comm]

theorem flatMap_get {α : Type} {enc : α → List Value} {k : Nat} (he : ∀ x, (enc x).length = k) : ∀ (xs : List α) (i : Nat) (x : α), xs[i]? = some x → ∀ j, j < k → (xs.flatMap enc)[i * k + j]? = (enc x)[j]?
  | [], i, x, h, _, _ => by simp at h
  | y :: ys, 0, x, h, j, hj => by
    simp at h
    subst h
    rw [List.flatMap_cons, Nat.zero_mul, Nat.zero_add, List.getElem?_append_left (by rw [he]; exact hj)]
  | y :: ys, i + 1, x, h, j, hj => by
    rw [List.flatMap_cons, List.getElem?_append_right (by rw [he, Nat.succ_mul]; omega), he]
    have := flatMap_get he ys i x (by simpa using h) j hj
    rw [← this]
    congr 1
    rw [Nat.succ_mul]; omega

/-- What the call owns reads as a row. -/
theorem Row.of_owns {α : Type} {enc : α → List Value} {k base : Nat} {e : TypeId} {w : World} {v : Value} {xs : List α} (he : ∀ x, (enc x).length = k) (h : w.ownsRow base e k v xs.length (xs.flatMap enc)) :
    ∃ a cap, v = .slice a xs.length cap ∧ Row enc k w.heap.size w a xs ∧ xs.length ≤ cap ∧ cap ≤ maxLen := by
  obtain ⟨_, ⟨rfl, hn⟩ | ⟨g, cap, cur, rfl, hb, hh, hnc, hcm, hsz, ht⟩⟩ := h
  · have : xs = [] := List.length_eq_zero_iff.1 hn
    subst this
    exact ⟨none, 0, rfl, Row.nil, by simp, by simp [maxLen]⟩
  · refine ⟨some ⟨g, 0, none⟩, cap, rfl, ?_, hnc, hcm⟩
    intro i x hx
    refine ⟨g, 0, rfl, ?_, ?_⟩
    · rcases Nat.lt_or_ge g w.heap.size with h' | h'
      · exact h'
      · rw [Array.getElem?_eq_none h'] at hh; cases hh
    · intro j u hj
      have hjk : j < k := by rw [← he x]; exact (List.getElem?_eq_some_iff.1 hj).1
      have hix : i < xs.length := (List.getElem?_eq_some_iff.1 hx).1
      have h1 := flatMap_get he xs i x hx j hjk
      rw [← ht, List.getElem?_take] at h1
      split at h1
      · rw [hj] at h1
        simp only [World.cell?, hh, Nat.zero_add]
        simpa using h1
      · rw [hj] at h1; cases h1

theorem owns_nil {base : Nat} {e : TypeId} {k : Nat} {w : World} {α : Type} {enc : α → List Value} : w.ownsRow base e k (.slice none 0 0) ([] : List α).length (([] : List α).flatMap enc) :=
  ⟨by simp, .inl ⟨rfl, rfl⟩⟩

theorem owns_keep {base : Nat} {e : TypeId} {k n : Nat} {w w' : World} {v : Value} {xs : List Value} (h : w.ownsRow base e k v n xs) (hb : Below w.heap.size w w') : w'.ownsRow base e k v n xs := by
  obtain ⟨h1, h2 | ⟨g, cap, cur, hv, hg, hh, r⟩⟩ := h
  · exact ⟨h1, .inl h2⟩
  · refine ⟨h1, .inr ⟨g, cap, cur, hv, hg, ?_, r⟩⟩
    rw [hb.block g ?_]
    · exact hh
    · rcases Nat.lt_or_ge g w.heap.size with h' | h'
      · exact h'
      · rw [Array.getElem?_eq_none h'] at hh; cases hh

theorem owns_base {base base' : Nat} {e : TypeId} {k n : Nat} {w : World} {v : Value} {xs : List Value} (h : w.ownsRow base e k v n xs) (hb : base' ≤ base) : w.ownsRow base' e k v n xs := by
  obtain ⟨h1, h2 | ⟨g, cap, cur, hv, hg, hh, r⟩⟩ := h
  · exact ⟨h1, .inl h2⟩
  · exact ⟨h1, .inr ⟨g, cap, cur, hv, Nat.le_trans hb hg, hh, r⟩⟩

theorem flatMap_at {α : Type} {enc : α → List Value} {k : Nat} (hk : 0 < k) (he : ∀ x, (enc x).length = k) (xs : List α) (j : Nat) (u : Value) (h : (xs.flatMap enc)[j]? = some u) :
    ∃ x, xs[j / k]? = some x ∧ (enc x)[j % k]? = some u := by
  have hj : j < xs.length * k := by rw [← flatMap_len he xs]; exact (List.getElem?_eq_some_iff.1 h).1
  have hi : j / k < xs.length := Nat.div_lt_of_lt_mul (by rw [Nat.mul_comm]; exact hj)
  refine ⟨xs[j / k], by simp [hi], ?_⟩
  rw [← flatMap_get he xs (j / k) xs[j / k] (by simp [hi]) (j % k) (Nat.mod_lt _ hk), ← h]
  congr 1
  have := Nat.div_add_mod j k
  rw [Nat.mul_comm] at this
  omega

theorem Row.news {α : Type} {enc : α → List Value} {k B : Nat} {w : World} {ad : Addr} {ys : List α} (hk : 0 < k) (he : ∀ x, (enc x).length = k) (h : Row enc k B w (some ad) ys) :
    ∀ j u, (ys.flatMap enc)[j]? = some u → w.cell? (ad.add j) = some u := by
  intro j u hj
  obtain ⟨x, hx, hu⟩ := flatMap_at hk he ys j u hj
  obtain ⟨b, off, ha, _, hc⟩ := h _ x hx
  simp only [Option.some.injEq] at ha
  subst ha
  have h1 := hc _ u hu
  have e : (⟨b, off, none⟩ : Addr).add j = ⟨b, off + j / k * k + j % k, none⟩ := by
    have h2 : off + j / k * k + j % k = off + j := by
      have := Nat.div_add_mod j k
      rw [Nat.mul_comm] at this
      omega
    unfold Addr.add
    split
    · rename_i h0; rw [h2, h0]; rfl
    · rw [h2]
  rw [e]
  exact h1

/-- APPENDING A LIST to a slice that the call owns, wherever the list lies (nil too). -/
theorem wpList_append_list {α : Type} {enc : α → List Value} {P : Program} {w : World} {ops : Array Oper} {rest : List Oper} {o : Oper} {a : Act} {Q : Exit → Act → World → Prop} (hgd : o.guard = none) (s x : Operand) (t : TypeId)
    (ho : o.op = .call { callee := .builtin .append, args := #[s, x], argTypes := #[t, t] })
    (base : Nat) (e : TypeId) (i : TypeInfo) (z : Value) (size bytes : Nat) (ht : P.underlying t = some (.slice e)) (hi : P.info? e = some i) (hz : i.zero = some z)
    (hsize : i.size = size) (hby : i.bytes = bytes) (hzs : z.cells.size = size) (hsz : 0 < size) (he : ∀ x : α, (enc x).length = size) (h1 : ∀ (x : α), ∀ u ∈ enc x, u.oneCell' = true)
    (v : Value) (xs : List α) (hs : a.eval s = v) (hown : w.ownsRow base e size v xs.length (xs.flatMap enc))
    (ad : Option Addr) (c : Nat) (ys : List α) (hx : a.eval x = .slice ad ys.length c) (hc : ad = none → c = 0) {B : Nat} (hrow : Row enc size B w ad ys)
    (h63 : xs.length + ys.length ≤ maxLen) (hbytes : (xs.length + ys.length) * bytes ≤ 140737488355328) (hbase : base ≤ w.heap.size)
    (h : ∀ v' w', w'.ownsRow base e size v' (xs ++ ys).length ((xs ++ ys).flatMap enc) → w.grownBy w' v.ownBlock → wpList P ops Q rest (a.put o.dst v') w') : wpList P ops Q (o :: rest) a w := by
  cases ad with
  | none =>
    have hys : ys = [] := by
      cases ys with
      | nil => rfl
      | cons y ys => obtain ⟨b, off, ha, _⟩ := hrow 0 y rfl; cases ha
    subst hys
    have := hc rfl
    subst this
    exact wpList_append_own_none hgd s x t ho base e i size ht hi v xs.length _ hs hown hx (h v w (by simpa using hown) ⟨rfl, rfl, rfl, Nat.le_refl _, fun _ _ _ => rfl⟩)
  | some ad =>
    refine wpList_append_own w hgd s x t ho base e i z size bytes ht hi hz hsize hby hzs hsz v xs.length _ hs hown ad ys.length c (ys.flatMap enc) hx (flatMap_len he ys) (hrow.news hsz he) ?_ h63 hbytes hbase ?_
    · intro u hu
      obtain ⟨y, _, hy⟩ := List.mem_flatMap.1 hu
      exact h1 y u hy
    · intro v' w' ho' hg _
      exact h v' w' (by simpa [List.length_append] using ho') hg

/-! ### A block of the call's own, known whole -/
def Blk (w : World) (b : Nat) (arr : Array Value) (t : TypeId) : Prop := w.heap[b]? = some (.cells arr t (0, 0))
theorem Blk.lt {w : World} {b : Nat} {arr : Array Value} {t : TypeId} (h : Blk w b arr t) : b < w.heap.size := by
  rcases Nat.lt_or_ge b w.heap.size with h' | h'
  · exact h'
  · unfold Blk at h; rw [Array.getElem?_eq_none h'] at h; cases h
theorem Blk.cell {w : World} {b : Nat} {arr : Array Value} {t : TypeId} (h : Blk w b arr t) (i : Nat) : w.cell? ⟨b, i, none⟩ = arr[i]? := by
  unfold Blk at h
  simp [World.cell?, h]
theorem Blk.free {w : World} {b : Nat} {arr : Array Value} {t : TypeId} (h : Blk w b arr t) (i : Nat) : w.frozen? ⟨b, i, none⟩ = false := by
  unfold Blk at h
  simp [World.frozen?, h]
theorem Blk.keep {w w' : World} {b : Nat} {arr : Array Value} {t : TypeId} (h : Blk w b arr t) (hb : Kept w w') : Blk w' b arr t := by
  unfold Blk
  rw [hb.block b h.lt]
  exact h
theorem Blk.alloc {w : World} {b : Nat} {arr : Array Value} {t : TypeId} (h : Blk w b arr t) (o : Obj) : Blk (w.alloc o) b arr t :=
  h.keep ((Below.refl _ _).alloc (Nat.le_refl _) o)
theorem Blk.drew {w : World} {b : Nat} {arr : Array Value} {t : TypeId} (h : Blk w b arr t) : Blk w.drew b arr t := h
theorem Blk.new {w : World} {arr : Array Value} {t : TypeId} : Blk (w.alloc (.cells arr t)) w.heap.size arr t := by
  show (w.heap.push _)[w.heap.size]? = _
  simp
theorem Blk.set {w : World} {b : Nat} {arr : Array Value} {t : TypeId} (h : Blk w b arr t) (i : Nat) (v : Value) : Blk (w.setCell ⟨b, i, none⟩ v) b (arr.setIfInBounds i v) t := by
  unfold Blk at *
  simp [World.setCell, Array.getElem?_modify, h]
theorem Blk.other {w : World} {b : Nat} {arr : Array Value} {t : TypeId} (h : Blk w b arr t) {a : Addr} (hne : a.block ≠ b) (v : Value) : Blk (w.setCell a v) b arr t := by
  unfold Blk at *
  rw [Below.heap_setCell _ _ _ _ (Ne.symm hne)]
  exact h

/-- a new block of elements reads as a row -/
theorem Row.fresh {α : Type} {enc : α → List Value} {k : Nat} {w : World} {arr : Array Value} {e : TypeId} {xs : List α} (he : ∀ x, (enc x).length = k) (h : arr.toList = xs.flatMap enc) :
    Row enc k (w.alloc (.cells arr e)).heap.size (w.alloc (.cells arr e)) (some ⟨w.heap.size, 0, none⟩) xs := by
  intro i x hx
  refine ⟨w.heap.size, 0, rfl, by simp, fun j v hj => ?_⟩
  have hjk : j < k := by rw [← he x]; exact (List.getElem?_eq_some_iff.1 hj).1
  rw [(Blk.new (w := w) (arr := arr) (t := e)).cell, Nat.zero_add, ← Array.getElem?_toList, h, flatMap_get he xs i x hx j hjk]
  exact hj

/-! ### Cells that are numbers or bools, whatever structs they lie in -/
inductive Leaf where
  | int (k : IntKind)
  | bool
  deriving DecidableEq

def LeafOk : Leaf → Value → Prop
  | .int k, v => ∃ n, v = .int k n ∧ (Lit.int k n).wf = true
  | .bool, v => ∃ b, v = .bool b

/-- the leaves of a row of fields, each by f, the first of them at off -/
def leavesL (P : Program) (g : TypeId → Option (List Leaf)) : Nat → List Field → Option (List Leaf)
  | _, [] => some []
  | off, f :: fs => if f.offset = off then (g f.type).bind fun m => if m.length = P.cellsOf f.type then (leavesL P g (off + m.length) fs).map (m ++ ·) else none else none

/-- the leaves of a type that is made of integers, bools and structs alone -/
def leaves (P : Program) : Nat → TypeId → Option (List Leaf)
  | 0, _ => none
  | n + 1, t => match P.underlying t with
    | some (.int k) => some [.int k]
    | some .bool => some [.bool]
    | some (.struct fs) => (leavesL P (leaves P n) 0 fs.toList).bind fun l => if l.length = P.cellsOf t then some l else none
    | _ => none

/-- cells that are leaves -/
def LeavesOk (ls : List Leaf) (cs : List Value) : Prop := cs.length = ls.length ∧ ∀ (j : Nat) (f : Leaf), ls[j]? = some f → ∃ v, cs[j]? = some v ∧ LeafOk f v

theorem leavesL_ok {P : Program} {g : TypeId → Option (List Leaf)} {cs : List Value} : ∀ (fs : List Field) (off : Nat) (ls : List Leaf),
    leavesL P g off fs = some ls → (∀ f ∈ fs, ∀ m, g f.type = some m → LeavesOk m ((cs.drop f.offset).take (P.cellsOf f.type))) →
    ∀ (j : Nat) (f : Leaf), ls[j]? = some f → ∃ v, cs[off + j]? = some v ∧ LeafOk f v
  | [], off, ls, h, _, j, f, hj => by simp [leavesL] at h; subst h; simp at hj
  | f :: fs, off, ls, h, hf, j, lf, hj => by
    simp only [leavesL] at h
    split at h
    · rename_i ho
      obtain ⟨m, hm, h⟩ := Option.bind_eq_some_iff.1 h
      split at h
      · rename_i hml
        obtain ⟨rest, hr, rfl⟩ := Option.map_eq_some_iff.1 h
        by_cases hjm : j < m.length
        · rw [List.getElem?_append_left hjm] at hj
          obtain ⟨_, h2⟩ := hf f (by simp) m hm
          obtain ⟨v, hv, hok⟩ := h2 j lf hj
          refine ⟨v, ?_, hok⟩
          rw [List.getElem?_take, List.getElem?_drop] at hv
          split at hv
          · rw [← ho]; exact hv
          · simp at hv
        · rw [List.getElem?_append_right (by omega)] at hj
          obtain ⟨v, hv, hok⟩ := leavesL_ok fs (off + m.length) rest hr (fun f' hf' => hf f' (by simp [hf'])) (j - m.length) lf hj
          exact ⟨v, by rw [← hv]; congr 1; omega, hok⟩
      · simp at h
    · simp at h

section
variable {H : Type} {enc : TypeId × Value → H} {P : Program} {w : World} {base : Nat} {spare : Nat → Bool} {held : Bool}

theorem leaves_ok (n : Nat) : ∀ (t : TypeId) (ls : List Leaf) (fuel : Nat) (cs : List Value) (x : DataW H × List MemPlace), leaves P n t = some ls → DataW.trod enc P w base spare held fuel t cs = some x → LeavesOk ls cs := by
  induction n with
  | zero => intro t ls fuel cs x h; simp [leaves] at h
  | succ n ih =>
    intro t ls fuel cs x h hx
    unfold leaves at h
    split at h
    · rename_i k hk
      simp only [Option.some.injEq] at h
      subst h
      obtain ⟨q, rfl, _, hw⟩ := DataW.trod_int hk hx
      refine ⟨rfl, fun j f hj => ?_⟩
      cases j with
      | zero => simp at hj; subst hj; exact ⟨_, rfl, q, rfl, hw⟩
      | succ j => simp at hj
    · rename_i hk
      simp only [Option.some.injEq] at h
      subst h
      obtain ⟨q, rfl, _⟩ := DataW.trod_bool hk hx
      refine ⟨rfl, fun j f hj => ?_⟩
      cases j with
      | zero => simp at hj; subst hj; exact ⟨_, rfl, q, rfl⟩
      | succ j => simp at hj
    · rename_i fs hk
      obtain ⟨l, hl, h⟩ := Option.bind_eq_some_iff.1 h
      split at h
      · rename_i hlen
        simp only [Option.some.injEq] at h
        subst h
        obtain ⟨xs, m, _, _, hcl, hxl, hg⟩ := DataW.trod_struct hk hx
        refine ⟨by rw [hcl, hlen], fun j f hj => ?_⟩
        have := leavesL_ok (cs := cs) fs.toList 0 l hl (fun f' hf' q hq => by
          obtain ⟨i, hi, rfl⟩ := List.mem_iff_getElem.1 hf'
          have hi' : i < fs.size := by simpa using hi
          have h1 := hg i fs[i] (by simp [hi'])
          have hx1 : xs[i]? = some (xs[i]'(by omega)) := List.getElem?_eq_getElem (by omega)
          rw [hx1] at h1
          simpa using ih _ _ _ _ _ hq h1) j f hj
        simpa using this
      · simp at h
    · simp at h

/-- A SLICE OF SUCH ELEMENTS, OPENED: its elements' cells. -/
theorem open_leaves {t e : TypeId} {n : Nat} {ls : List Leaf} {fuel : Nat} {cs : List Value} {x : DataW H × List MemPlace} (ht : P.underlying t = some (.slice e)) (hls : leaves P n e = some ls) (hk : P.cellsOf e = ls.length) (hne : 0 < ls.length)
    (h : DataW.trod enc P w base spare held fuel t cs = some x) :
    ∃ (a : Option Addr) (cap : Nat) (xs : List (List Value)), cs = [.slice a xs.length cap] ∧ xs.length ≤ cap ∧ cap ≤ maxLen ∧ Row id ls.length w.heap.size w a xs ∧ (∀ x ∈ xs, LeavesOk ls x) ∧ (a = none → cap = 0) := by
  rcases Go.Deep.open_slice ht h with ⟨rfl, _⟩ | ⟨a, len, cap, m, q, D, Pl, rfl, hb, hl, hm, hmm, _, hi⟩
  · exact ⟨none, 0, [], rfl, by simp, by simp [maxLen], Row.nil, by simp, fun _ => rfl⟩
  · have hlm : len ≤ m := by subst hmm; split <;> omega
    obtain ⟨f, hf⟩ := Go.Deep.choose_lt (n := len) (p := fun i cs' => w.cells? base (a.add (i * P.cellsOf e)) (P.cellsOf e) = some cs' ∧ DataW.trod enc P w base spare held q e cs' = some (D i, Pl i)) (fun i hil => hi i (by omega))
    refine ⟨some a, cap, (List.range len).map f, by simp, by simpa using hl, hm, ?_, ?_, by simp⟩
    · intro i y hy
      have hil : i < len := by
        have := (List.getElem?_eq_some_iff.1 hy).1
        simpa using this
      simp [hil] at hy
      subst hy
      have hsp : a.spot = none := by
        obtain ⟨hc, ht'⟩ := hf 0 (by omega)
        obtain ⟨_, hcl, hat⟩ := World.cells?_some hc
        have h1 := hat 0 (by omega)
        have hv : (f 0)[0]? = some ((f 0)[0]'(by omega)) := List.getElem?_eq_getElem (by omega)
        rw [hv] at h1
        have := World.cell?_spot h1
        simpa [Addr.add] using this
      obtain ⟨ab, ao, asp⟩ := a
      simp at hsp
      subst hsp
      obtain ⟨hc, ht'⟩ := hf i hil
      obtain ⟨_, hcl, hat⟩ := World.cells?_some hc
      have hat' : ∀ j, j < ls.length → w.cell? ⟨ab, ao + i * ls.length + j, none⟩ = (f i)[j]? := by
        intro j hj
        have h1 := hat j (by omega)
        rw [Go.Deep.add_add, hk] at h1
        rw [← h1]
        congr 1
        unfold Addr.add
        split
        · rename_i h0
          have h3 : ao + i * ls.length + j = ao := by omega
          rw [h3]
        · simp [Nat.add_assoc]
      refine ⟨ab, ao, rfl, ?_, fun j v hj => ?_⟩
      · have h0 := hat' 0 hne
        have hv : (f i)[0]? = some ((f i)[0]'(by omega)) := List.getElem?_eq_getElem (by omega)
        rw [hv] at h0
        rcases Nat.lt_or_ge ab w.heap.size with h' | h'
        · exact h'
        · simp [World.cell?, Array.getElem?_eq_none h'] at h0
      · have hjl : j < (f i).length := (List.getElem?_eq_some_iff.1 hj).1
        rw [hat' j (by omega)]
        exact hj
    · intro y hy
      simp at hy
      obtain ⟨i, hil, rfl⟩ := hy
      obtain ⟨hc, ht'⟩ := hf i hil
      exact leaves_ok n _ _ _ _ _ hls ht'

theorem Row.of_map {α : Type} {enc : α → List Value} {k B : Nat} {w : World} {a : Option Addr} {ys : List α} (h : Row id k B w a (ys.map enc)) : Row enc k B w a ys := by
  intro i x hx
  exact h i (enc x) (by simp [hx])

theorem decode {α : Type} {enc : α → List Value} {wf : α → Prop} {ls : List Leaf} (hdec : ∀ cs, LeavesOk ls cs → ∃ x : α, cs = enc x ∧ wf x) : ∀ (xs : List (List Value)), (∀ x ∈ xs, LeavesOk ls x) →
    ∃ ys : List α, xs = ys.map enc ∧ ∀ y ∈ ys, wf y
  | [], _ => ⟨[], rfl, by simp⟩
  | c :: cs, h => by
    obtain ⟨y, rfl, hy⟩ := hdec c (h c (by simp))
    obtain ⟨ys, rfl, hys⟩ := decode hdec cs (fun x hx => h x (by simp [hx]))
    exact ⟨y :: ys, rfl, by simpa using ⟨hy, hys⟩⟩

/-- A slice that came in, opened to a list of plain things. -/
theorem open_typed {α : Type} {enc' : α → List Value} {wf : α → Prop} {ls : List Leaf} (hdec : ∀ cs, LeavesOk ls cs → ∃ x : α, cs = enc' x ∧ wf x) {t e : TypeId} {n : Nat} {fuel : Nat} {cs : List Value} {x : DataW H × List MemPlace}
    (ht : P.underlying t = some (.slice e)) (hls : leaves P n e = some ls) (hk : P.cellsOf e = ls.length) (hne : 0 < ls.length) (h : DataW.trod enc P w base spare held fuel t cs = some x) :
    ∃ (a : Option Addr) (cap : Nat) (ys : List α), cs = [.slice a ys.length cap] ∧ ys.length ≤ cap ∧ cap ≤ maxLen ∧ Row enc' ls.length w.heap.size w a ys ∧ (∀ y ∈ ys, wf y) ∧ (a = none → cap = 0) := by
  obtain ⟨a, cap, xs, rfl, h1, h2, h3, h4, h5⟩ := open_leaves ht hls hk hne h
  obtain ⟨ys, rfl, hys⟩ := decode hdec xs h4
  exact ⟨a, cap, ys, by simp, by simpa using h1, h2, h3.of_map, hys, h5⟩
end

/-! ### Regions that draw their order and only read or call: one walk of the text's order -/
/-- a world in which all that was there is as it was -/
structure Later (w : World) where
  val : World
  ok : Below w.heap.size w val
instance {w : World} : Nonempty (Later w) := ⟨⟨w, Below.refl _ _⟩⟩

theorem Later.cell {w : World} (g : Later w) {b o : Nat} (h : b < w.heap.size) : g.val.cell? ⟨b, o, none⟩ = w.cell? ⟨b, o, none⟩ := g.ok.cell (p := ⟨b, o, none⟩) h
theorem Later.some {w : World} (g : Later w) {b o : Nat} {v : Value} (h : w.cell? ⟨b, o, none⟩ = some v) : g.val.cell? ⟨b, o, none⟩ = some v := by
  rw [g.cell, h]
  rcases Nat.lt_or_ge b w.heap.size with h' | h'
  · exact h'
  · simp [World.cell?, Array.getElem?_eq_none h'] at h

theorem Later.region {P : Program} {id : Nat} {Q : Exit → Act → World → Prop} {a : Act} {w : World} {l : List Oper} (hm : P.follows .mixedOrders = true) (hB : Region.lexB .any l.toArray = true)
    (h : wpQuiet P l.toArray (fun w' => ∃ g : Later w, w' = g.val) (fun a' => ∀ g : Later w, Q .normal a' g.val) l a) : (Code.region id l.toArray true).wp P Q a w :=
  wp_region_quiet (C := fun w' => ∃ g : Later w, w' = g.val) hm hB ⟨⟨w.drew, (Below.refl _ _).drew⟩, rfl⟩ (by
    have e : (fun a' => ∀ w', (∃ g : Later w, w' = g.val) → Q .normal a' w') = (fun a' => ∀ g : Later w, Q .normal a' g.val) := by
      funext a'
      exact propext ⟨fun h g => h _ ⟨g, rfl⟩, fun h _ ⟨g, hg⟩ => hg ▸ h g⟩
    rw [e]
    simpa using h)

/-- a contract, met in such a region -/
theorem Later.call {P : Program} {f : FuncId} {args : Array Value} {w : World} {g : Later w} {v : Value}
    (h : Calls P f args g.val fun e w' => e = .returned v ∧ Kept g.val w') : Calls P f args g.val fun e w'' => e = .returned v ∧ ∃ g' : Later w, w'' = g'.val :=
  h.mono fun _ w'' ⟨he, hk⟩ => ⟨he, ⟨w'', Kept.drop g.ok hk⟩, rfl⟩
end Bal

/-
  Structs as cells of memory. No program in sight.
-/
namespace Bal.Mast
open Go Go.RowKit Bal

def Wind.cells (x : Wind) : List Value := [.int .i64 x.xlo, .int .i64 x.xhi, .int .i64 x.ylo, .int .i64 x.yhi]
theorem Wind.row {B : Nat} {w : World} {a : Option Addr} {xs : List Wind} (h : Row Wind.cells 4 B w a xs) (i : Nat) (hi : i < xs.length) :
    ∃ b off, a = some ⟨b, off, none⟩ ∧ b < B ∧ w.cell? ⟨b, off + i * 4, none⟩ = some (.int .i64 xs[i].xlo) ∧ w.cell? ⟨b, off + i * 4 + 1, none⟩ = some (.int .i64 xs[i].xhi) ∧ w.cell? ⟨b, off + i * 4 + 2, none⟩ = some (.int .i64 xs[i].ylo) ∧ w.cell? ⟨b, off + i * 4 + 3, none⟩ = some (.int .i64 xs[i].yhi) := by
  obtain ⟨b, off, ha, hb, hc⟩ := h i xs[i] (by simp [hi])
  exact ⟨b, off, ha, hb, hc 0 _ rfl, hc 1 _ rfl, hc 2 _ rfl, hc 3 _ rfl⟩
theorem Wind.of_leaves {cs : List Value} (h : LeavesOk [.int .i64, .int .i64, .int .i64, .int .i64] cs) : ∃ x : Wind, cs = x.cells ∧ (Lit.int .i64 x.xlo).wf = true ∧ (Lit.int .i64 x.xhi).wf = true ∧ (Lit.int .i64 x.ylo).wf = true ∧ (Lit.int .i64 x.yhi).wf = true := by
  obtain ⟨hl, h⟩ := h
  match cs, hl with
  | [v0, v1, v2, v3], _ =>
    obtain ⟨_, e0, n0, rfl, w0⟩ := h 0 (.int .i64) rfl; simp at e0; subst e0
    obtain ⟨_, e1, n1, rfl, w1⟩ := h 1 (.int .i64) rfl; simp at e1; subst e1
    obtain ⟨_, e2, n2, rfl, w2⟩ := h 2 (.int .i64) rfl; simp at e2; subst e2
    obtain ⟨_, e3, n3, rfl, w3⟩ := h 3 (.int .i64) rfl; simp at e3; subst e3
    exact ⟨⟨n0, n1, n2, n3⟩, rfl, w0, w1, w2, w3⟩

def Axis.cells (x : Axis) : List Value := [.int .i64 x.x, .int .i64 x.y]
theorem Axis.row {B : Nat} {w : World} {a : Option Addr} {xs : List Axis} (h : Row Axis.cells 2 B w a xs) (i : Nat) (hi : i < xs.length) :
    ∃ b off, a = some ⟨b, off, none⟩ ∧ b < B ∧ w.cell? ⟨b, off + i * 2, none⟩ = some (.int .i64 xs[i].x) ∧ w.cell? ⟨b, off + i * 2 + 1, none⟩ = some (.int .i64 xs[i].y) := by
  obtain ⟨b, off, ha, hb, hc⟩ := h i xs[i] (by simp [hi])
  exact ⟨b, off, ha, hb, hc 0 _ rfl, hc 1 _ rfl⟩
theorem Axis.of_leaves {cs : List Value} (h : LeavesOk [.int .i64, .int .i64] cs) : ∃ x : Axis, cs = x.cells ∧ (Lit.int .i64 x.x).wf = true ∧ (Lit.int .i64 x.y).wf = true := by
  obtain ⟨hl, h⟩ := h
  match cs, hl with
  | [v0, v1], _ =>
    obtain ⟨_, e0, n0, rfl, w0⟩ := h 0 (.int .i64) rfl; simp at e0; subst e0
    obtain ⟨_, e1, n1, rfl, w1⟩ := h 1 (.int .i64) rfl; simp at e1; subst e1
    exact ⟨⟨n0, n1⟩, rfl, w0, w1⟩

def Span.cells (x : Span) : List Value := [.int .i64 x.lo, .int .i64 x.hi]
theorem Span.row {B : Nat} {w : World} {a : Option Addr} {xs : List Span} (h : Row Span.cells 2 B w a xs) (i : Nat) (hi : i < xs.length) :
    ∃ b off, a = some ⟨b, off, none⟩ ∧ b < B ∧ w.cell? ⟨b, off + i * 2, none⟩ = some (.int .i64 xs[i].lo) ∧ w.cell? ⟨b, off + i * 2 + 1, none⟩ = some (.int .i64 xs[i].hi) := by
  obtain ⟨b, off, ha, hb, hc⟩ := h i xs[i] (by simp [hi])
  exact ⟨b, off, ha, hb, hc 0 _ rfl, hc 1 _ rfl⟩
theorem Span.of_leaves {cs : List Value} (h : LeavesOk [.int .i64, .int .i64] cs) : ∃ x : Span, cs = x.cells ∧ (Lit.int .i64 x.lo).wf = true ∧ (Lit.int .i64 x.hi).wf = true := by
  obtain ⟨hl, h⟩ := h
  match cs, hl with
  | [v0, v1], _ =>
    obtain ⟨_, e0, n0, rfl, w0⟩ := h 0 (.int .i64) rfl; simp at e0; subst e0
    obtain ⟨_, e1, n1, rfl, w1⟩ := h 1 (.int .i64) rfl; simp at e1; subst e1
    exact ⟨⟨n0, n1⟩, rfl, w0, w1⟩

end Bal.Mast

/-
  Regions that draw their order: first operations that only read or call (calls may make memory), then operations in one forced order (stores): one walk in the text's order. No program in sight.
-/
namespace Bal
open Go Go.RowKit

theorem Blk.new' {w : World} {n : Nat} {arr : Array Value} {t : TypeId} (h : n = w.heap.size) : Blk (w.alloc (.cells arr t)) n arr t := h ▸ Blk.new
/-- the world of a walk, by what is known of it alone -/
theorem at_world {P : Program} {c : Code} {Q : Exit → Act → World → Prop} {a : Act} {S : World → Prop} {W : World} (h : S W) (k : ∀ W, S W → c.wp P Q a W) : c.wp P Q a W := k W h
theorem Blk.later {w : World} {b : Nat} {arr : Array Value} {t : TypeId} (h : Blk w b arr t) (g : Later w) : Blk g.val b arr t := h.keep g.ok
/-- a block of the call's own, behind a contract -/
theorem Blk.thru {w w' : World} {b : Nat} {arr : Array Value} {t : TypeId} {G : Prop} (h : Blk w b arr t) (hb : Kept w w') (k : Blk w' b arr t → G) : G := k (h.keep hb)

/-! ### Facts on worlds and blocks, each by one tactic that is laid here once -/
theorem kpt {w w' : World} (h : Kept w w' := by (repeat (first | with_reducible exact Below.refl _ _ | with_reducible assumption | with_reducible refine Kept.drop ?_ (by with_reducible assumption) | with_reducible refine Kept.alloc ?_ _ | ((with_reducible refine Below.setCell ?_ ?_ _); rotate_left 1; (focus (first | exact Nat.le_refl _ | (simp; done) | (simp; omega) | exact Below.size (by with_reducible assumption) | (refine Kept.size ?_; (repeat (first | with_reducible exact Below.refl _ _ | with_reducible assumption | with_reducible refine Kept.drop ?_ (by with_reducible assumption) | with_reducible refine Kept.alloc ?_ _ | with_reducible refine Below.drew ?_)))))) | with_reducible refine Below.drew ?_))) : Kept w w' := h
theorem blk {w : World} {b : Nat} {arr : Array Value} {t : TypeId} (h : Blk w b arr t := by (repeat (first | with_reducible assumption | ((with_reducible refine Blk.new' ?_); first | with_reducible rfl | (simp; done) | (simp [World.drew]; done)) | with_reducible refine Blk.alloc ?_ _ | ((with_reducible refine Blk.set (arr := ?_) ?_ _ _); rotate_left 1) | ((with_reducible refine Blk.other ?_ ?_ _); rotate_left 1; (focus (first | (simp; done) | (simp; omega) | (refine Nat.ne_of_gt (Blk.lt (arr := ?_) (t := ?_) ?_); rotate_left 2; focus (repeat (first | with_reducible assumption | ((with_reducible refine Blk.new' ?_); first | with_reducible rfl | (simp; done) | (simp [World.drew]; done)) | with_reducible refine Blk.alloc ?_ _ | with_reducible refine Blk.keep ?_ (by with_reducible assumption) | with_reducible refine Blk.drew ?_))) | (refine Nat.ne_of_lt (Blk.lt (arr := ?_) (t := ?_) ?_); rotate_left 2; focus (repeat (first | with_reducible assumption | ((with_reducible refine Blk.new' ?_); first | with_reducible rfl | (simp; done) | (simp [World.drew]; done)) | with_reducible refine Blk.alloc ?_ _ | with_reducible refine Blk.keep ?_ (by with_reducible assumption) | with_reducible refine Blk.drew ?_)))))) | with_reducible refine Blk.keep ?_ (by with_reducible assumption) | with_reducible refine Blk.drew ?_))) : Blk w b arr t := h
section
variable {P : Program} {ops : Array Oper} {md : Region.Mode} {C : World → Prop}

/-- whatever order is picked of the first n operations -/
def wpHeadQ (P : Program) (md : Region.Mode) (ops : Array Oper) (C : World → Prop) (n : Nat) (L : Array Bool → Act → Prop) : Nat → Array Bool → Act → Prop
  | 0, listed, a => L listed a
  | f + 1, listed, a =>
    Region.ready md ops listed ≠ [] ∧ ∀ i ∈ Region.ready md ops listed, i < n ∧ qOp P ops C i (wpHeadQ P md ops C n L f (listed.setIfInBounds i true)) a

theorem wpAny_of_headQ {n g : Nat} {L : Array Bool → Act → Prop} {Q' : Exit → Act → World → Prop} (hL : ∀ listed a w, C w → L listed a → wpAny P md ops Q' g listed a w) :
    ∀ (f : Nat) (listed : Array Bool) (a : Act) (w : World), C w → wpHeadQ P md ops C n L f listed a → wpAny P md ops Q' (f + g) listed a w
  | 0, listed, a, w, hw, h => by rw [Nat.zero_add]; exact hL _ _ _ hw h
  | f + 1, listed, a, w, hw, h => by
    rw [show f + 1 + g = (f + g) + 1 by omega]
    exact ⟨fun h0 => absurd h0 h.1, fun i hi => wpOp_of_qOp hw (fun a' w' hw' h' => wpAny_of_headQ hL f _ a' w' hw' h') (h.2 i hi).2⟩

theorem wpHeadQ_first {n i : Nat} {oi : Oper} {v : Value} {L : Array Bool → Act → Prop} (hi : ops[i]? = some oi) (hsel : ∀ (j : Nat) (o : Oper) cs b, ops[j]? = some o → o.op ≠ .select cs b)
    (hs : Region.sinkB md ops n = true) (hc : Region.chainB md ops n = true) (hn : n < ops.size) (hin : i < n)
    (hdone : ∀ listed a, L listed a → ∀ j ∈ Region.ready md ops listed, n ≤ j) :
    ∀ (f : Nat) (listed : Array Bool) (a : Act), HeadInv md ops n listed →
      (∀ j oj, ops[j]? = some oj → j ≠ i → listed.getD j true = false → (∀ e ∈ oj.after, Region.binds md e = true → e.on ≠ i) → oi.apart ops oj = true) →
      i ∈ Region.ready md ops listed → YieldsIn P ops C oi v a →
      wpHeadQ P md ops C n L f (listed.setIfInBounds i true) (a.put oi.dst v) → wpHeadQ P md ops C n L (f + 1) listed a := by
  intro f
  induction f with
  | zero =>
    intro listed a inv _ hr hy H
    have hun := (mem_ready.1 hr).1
    refine ⟨fun h => (by rw [h] at hr; cases hr), fun j hj => ?_⟩
    have hjn : j < n := by
      rcases Nat.lt_or_ge j n with h | h
      · exact h
      · exact absurd hj (tail_waits hs hc hn inv _ i rfl hin hun j h)
    refine ⟨hjn, ?_⟩
    by_cases hji : j = i
    · subst hji; exact hy.qOp hi H
    · have := hdone _ _ H j (ready_mono hj hji)
      omega
  | succ f ih =>
    intro listed a inv hfree hr hy H
    have hun := (mem_ready.1 hr).1
    refine ⟨fun h => (by rw [h] at hr; cases hr), fun j hj => ?_⟩
    have hjn : j < n := by
      rcases Nat.lt_or_ge j n with h | h
      · exact h
      · exact absurd hj (tail_waits hs hc hn inv _ i rfl hin hun j h)
    refine ⟨hjn, ?_⟩
    by_cases hji : j = i
    · subst hji; exact hy.qOp hi H
    · have h1 := (H.2 j (ready_mono hj hji)).2
      obtain ⟨hjun, oj, hoj, hall⟩ := mem_ready.1 hj
      have hnot : ∀ e ∈ oj.after, Region.binds md e = true → e.on ≠ i := fun e he hb heq => by
        have h1 := hall e he hb
        rw [heq, getD_both hun] at h1
        cases h1
      have h2 := qOp_put hoj (hfree j oj hoj hji hjun hnot) (fun cs b => hsel i oi cs b hi) (fun cs b => hsel j oj cs b hoj) hy h1
      have hfree' : ∀ k ok, ops[k]? = some ok → k ≠ i → (listed.setIfInBounds j true).getD k true = false →
          (∀ e ∈ ok.after, Region.binds md e = true → e.on ≠ i) → oi.apart ops ok = true := fun k ok hk hki hun hno => by
        refine hfree k ok hk hki ?_ hno
        by_cases hjk : j = k
        · subst hjk; exact hjun
        · rw [getD_set_ne true hjk] at hun; exact hun
      refine qOp_mono (fun a' h3 => ih (listed.setIfInBounds j true) a' (inv.set hj hjn) hfree' (ready_mono hr (Ne.symm hji)) h3.1 ?_) h2
      rw [Array.setIfInBounds_comm _ _ hji]
      exact h3.2

theorem wpHeadQ_lex {n g : Nat} {Lq : Act → Prop} (hsel : Region.noSelect ops = true) (hs : Region.sinkB md ops n = true) (hc : Region.chainB md ops n = true) (hn : n < ops.size) :
    ∀ (l : List Oper) (k : Nat) (listed : Array Bool) (a : Act), (∀ j, j < l.length → l[j]? = ops[k + j]?) → k + l.length = n → HeadInv md ops n listed →
    Region.lexHead md ops g l.length k listed = true → wpQuiet P ops C Lq l a →
    wpHeadQ P md ops C n (fun listed' a' => Region.seqB md ops g n listed' = true ∧ Lq a') l.length listed a
  | [], k, listed, a, _, hk, _, hB, h => by
    have : k = n := by simpa using hk
    subst this
    exact ⟨by simpa [Region.lexHead] using hB, h⟩
  | o :: l, k, listed, a, hl, hk, inv, hB, h => by
    have h0 : ops[k]? = some o := by simpa using (hl 0 (by simp)).symm
    simp only [List.length_cons, Region.lexHead, Bool.and_eq_true] at hB
    obtain ⟨⟨hr, hf⟩, hB'⟩ := hB
    have hkn : k < n := by simp only [List.length_cons] at hk; omega
    have hr' : k ∈ Region.ready md ops listed := by simpa using hr
    have hst : qOp P ops C k (wpQuiet P ops C Lq l) a := by unfold qOp; simp only [h0]; exact h
    obtain ⟨v, hy, hK⟩ := yieldsIn_of_qOp h0 hst
    exact wpHeadQ_first h0 (Region.noSelect_spec hsel) hs hc hn hkn (fun listed' a' hL => seqB_ready hL.1) l.length listed a inv (Region.free_spec h0 hf) hr' hy
      (wpHeadQ_lex hsel hs hc hn l (k + 1) _ _ (fun j hj => by have := hl (j + 1) (by simp; omega); simpa [Nat.add_assoc, Nat.add_comm 1 j] using this) (by simp only [List.length_cons] at hk; omega) (inv.set hr' hkn) hB' hK)

/-- THE THEOREM: the first n operations quiet in the class, the rest in one forced order, from every world of the class. -/
theorem Later.tail {P : Program} {id : Nat} {Q : Exit → Act → World → Prop} {a : Act} {w : World} {l : List Oper} (n : Nat) (hm : P.follows .mixedOrders = true) (hB : Region.lexTailB .any l.toArray n = true)
    (h : wpQuiet P l.toArray (fun w' => ∃ g : Later w, w' = g.val) (fun a' => ∀ g : Later w, wpList P l.toArray Q (l.drop n) a' g.val) (l.take n) a) : (Code.region id l.toArray true).wp P Q a w := by
  simp only [Region.lexTailB, Bool.and_eq_true, decide_eq_true_eq] at hB
  obtain ⟨⟨⟨⟨hsel, hn⟩, hs⟩, hc⟩, hlex⟩ := hB
  have hn' : n < l.length := by simpa using hn
  have htl : (l.take n).length = n := by simp; omega
  have hdl : (l.drop n).length = l.toArray.size - n := by simp
  have inv0 : HeadInv .any l.toArray n (Array.replicate l.toArray.size false) :=
    ⟨by simp, fun j oj _ hl => (by rw [getD_replicate_false] at hl; cases hl), fun t _ ht => getD_in (by simpa using ht) (getD_replicate_false _ _)⟩
  have H := wpHeadQ_lex (md := .any) (g := l.toArray.size - n) hsel hs hc hn (l.take n) 0 _ a (fun j hj => by
    have hj' : j < n := by rw [htl] at hj; exact hj
    simp [hj']) (by simpa using htl) inv0 (by rw [htl]; exact hlex) h
  refine wp_region_any hm ?_
  have := wpAny_of_headQ (C := fun w' => ∃ g : Later w, w' = g.val) (Q' := Q) (g := l.toArray.size - n) (fun listed a' w' hw' hL => by
    obtain ⟨g, rfl⟩ := hw'
    have := wpAny_of_seq (md := .any) (Q' := Q) (l.drop n) n listed a' g.val (fun j => by simp [List.getElem?_drop]) (by rw [hdl]; exact hL.1) (hL.2 g)
    rwa [hdl] at this) _ _ _ { w with drawn := w.drawn + 1 } ⟨⟨w.drew, (Below.refl _ _).drew⟩, rfl⟩ H
  rw [htl, show n + (l.toArray.size - n) = l.toArray.size by omega] at this
  exact this
end
end Bal

/-
  Ranges, axes, winds and roots, in the program and in the reference.
-/
namespace Go.Proofs.Ytacbkbilbmkjnaa
open Go.RowKit Bal Bal.Trim Bal.Mast
set_option linter.unusedVariables false
set_option linter.unusedSimpArgs false
set_option maxHeartbeats 800000
set_option maxRecDepth 10000

theorem f_ranged1 (lo hi n : Int) (w : World) (bl bh : Nat) (hl : w.cell? ⟨bl, 0, none⟩ = some (.int .i64 lo)) (hh : w.cell? ⟨bh, 0, none⟩ = some (.int .i64 hi)) :
    Calls Try.prog 95 #[.int .i64 n, .pointer (some ⟨bl, 0, none⟩), .pointer (some ⟨bh, 0, none⟩)] w fun e w' => e = .returned (.bool (!inB n lo hi)) ∧ w = w' := by
  have he : (!inB n lo hi) = (decide (n < lo) || decide (hi < n)) := by
    rw [Bool.eq_iff_iff]; first | (simp [inB]; done) | (simp [inB]; omega)
  rw [he]
  by_cases h1 : n < lo <;> by_cases h2 : hi < n
  all_goals
    go_enter Try.func95, Try.ntmps95
    go_wp2
    go_ret
    exact ⟨ret_bool (by simp [*]), rfl⟩

theorem s_IndexR (lo hi : Int) (bl bh : Nat) (a : Option Addr) (cap : Nat) (xs : List Int) (w : World) (hl : w.cell? ⟨bl, 0, none⟩ = some (.int .i64 lo)) (hh : w.cell? ⟨bh, 0, none⟩ = some (.int .i64 hi)) {B : Nat} (hx : Row icell 1 B w a xs) (h1 : xs.length ≤ 1000000) :
    Calls Try.prog 125 #[.slice a xs.length cap, .func (.func 95) #[] #[.pointer (some ⟨bl, 0, none⟩), .pointer (some ⟨bh, 0, none⟩)]] w fun e w' => (∃ r : Int, e = .returned (.int .i64 r) ∧ decide (r < 0) = rng xs lo hi ∧ -1 ≤ r) ∧ w = w' := by
  obtain ⟨R, hR⟩ : ∃ R, R = rng xs lo hi := ⟨_, rfl⟩
  have HR := Lib.hid hR
  rw [← hR]
  clear hR
  go_enter Try.func125, Try.ntmps125
  go_wp2
  go_loop [8] (fun i => ∃ k : Nat, k ≤ xs.length ∧ i = .int .i64 k ∧ (xs.take k).all (fun n => inB n lo hi) = true) (fun i => xs.length - (intOf i).toNat)
  case atStart => exact ⟨0, Nat.zero_le _, rfl, by simp⟩
  case round =>
    obtain ⟨k, hk, rfl, ha'⟩ := hrel
    have ha := Lib.hid ha'
    clear ha'
    by_cases hlt : k < xs.length
    · obtain ⟨b, off, rfl, _, ck⟩ := int_row hx k hlt
      have hbad : inB xs[k] lo hi = false → R = false := fun hv => by
        rw [HR.out]
        unfold rng
        rw [Bool.eq_false_iff]
        intro h
        rw [List.all_eq_true.1 h _ (List.getElem_mem hlt)] at hv
        cases hv
      have HB := Lib.hid hbad
      clear hbad
      have HT := Lib.hid (fun h => take_all (valid := fun n => inB n lo hi) hlt ha.out h)
      have hcall := f_ranged1 lo hi xs[k] w bl bh hl hh
      obtain ⟨x, hx0⟩ : ∃ x, x = xs[k] := ⟨_, rfl⟩
      rw [← hx0] at HB HT ck hcall
      clear hx0
      cases hq : inB x lo hi with
      | false =>
        rw [hq] at hcall
        have HF := Lib.hid (HB.out hq)
        clear hq HB
        go_wp2_with (go_at_call 95; refine hcall.mono ?_; rintro e w1 ⟨rfl, rfl⟩)
        go_ret
        refine ⟨⟨k, rfl, ?_, by omega⟩, rfl⟩
        rw [HF.out, decide_eq_false_iff_not]; omega
      | true =>
        rw [hq] at hcall
        have HF := Lib.hid (HT.out hq)
        clear hq HT
        go_wp2_with (go_at_call 95; refine hcall.mono ?_; rintro e w1 ⟨rfl, rfl⟩)
        go_round
        case rel => exact ⟨k + 1, by omega, by go_num, HF.out⟩
        case measure => simp [intOf]; omega
    · obtain rfl : k = xs.length := by omega
      have HF := Lib.hid (show R = true by rw [HR.out]; unfold rng; rw [← ha.out, List.take_length])
      go_wp2
      go_ret
      refine ⟨⟨-1, rfl, ?_, by omega⟩, rfl⟩
      rw [HF.out]; rfl

theorem s_ContainsR (lo hi : Int) (bl bh : Nat) (a : Option Addr) (cap : Nat) (xs : List Int) (w : World) (hl : w.cell? ⟨bl, 0, none⟩ = some (.int .i64 lo)) (hh : w.cell? ⟨bh, 0, none⟩ = some (.int .i64 hi)) {B : Nat} (hx : Row icell 1 B w a xs) (h1 : xs.length ≤ 1000000) :
    Calls Try.prog 94 #[.slice a xs.length cap, .func (.func 95) #[] #[.pointer (some ⟨bl, 0, none⟩), .pointer (some ⟨bh, 0, none⟩)]] w fun e w' => e = .returned (.bool (!rng xs lo hi)) ∧ w = w' := by
  obtain ⟨R, hR⟩ : ∃ R, R = rng xs lo hi := ⟨_, rfl⟩
  have hcall := s_IndexR lo hi bl bh a cap xs w hl hh hx h1
  rw [← hR] at hcall ⊢
  clear hR
  go_enter Try.func94, Try.ntmps94
  go_wp2_with (go_at_call 125; refine hcall.mono ?_; rintro e w1 ⟨⟨r, rfl, hr1, hr2⟩, rfl⟩)
  go_ret
  refine ⟨ret_bool ?_, rfl⟩
  rw [← hr1, ← decide_not]
  exact decide_eq_decide.2 (by omega)

theorem f_ranged (lo hi : Int) (a : Option Addr) (n cap : Nat) (xs : List Int) (w : World) (hn : xs.length = n) (hx : Row icell 1 w.heap.size w a xs) (h1 : n ≤ 1000000) :
    Calls Try.prog 51 #[.int .i64 lo, .int .i64 hi, .slice a n cap] w fun e w' => e = .returned (.bool (rng xs lo hi)) ∧ Kept w w' := by
  subst hn
  obtain ⟨R, hR⟩ : ∃ R, R = rng xs lo hi := ⟨_, rfl⟩
  have hcall := fun (W : World) (hl : W.cell? ⟨w.heap.size, 0, none⟩ = some (.int .i64 lo)) (hh : W.cell? ⟨w.heap.size + 1, 0, none⟩ = some (.int .i64 hi)) (hx : Row icell 1 W.heap.size W a xs) => s_ContainsR lo hi w.heap.size (w.heap.size + 1) a cap xs W hl hh hx h1
  rw [← hR] at hcall ⊢
  clear hR
  go_enter Try.func51, Try.ntmps51
  go_wp2_with (go_at_call 94; refine (hcall _ (by simp [*]) (by simp [*]) (hx.later (by (exact kpt)) (Nat.le_refl _))).mono ?_; rintro e w1 ⟨rfl, rfl⟩)
  go_ret
  exact ⟨ret_bool (by simp), by (exact kpt)⟩

theorem f_ranged_2 (lo hi p q : Int) (t : TypeId) (W : World) (m : Nat) (hm : m = W.heap.size) :
    Calls Try.prog 51 #[.int .i64 lo, .int .i64 hi, .slice (some ⟨m, 0, none⟩) 2 2] (W.alloc (.cells #[.int .i64 p, .int .i64 q] t))
      fun e w' => e = .returned (.bool (rng [p, q] lo hi)) ∧ Kept (W.alloc (.cells #[.int .i64 p, .int .i64 q] t)) w' := by
  subst hm
  exact f_ranged lo hi _ 2 2 [p, q] _ rfl ((Row.fresh (enc := icell) (fun _ => rfl) rfl).up (by simp)) (by decide)

theorem f_span (x y lo hi : Int) (w : World) :
    Calls Try.prog 55 #[.agg #[.int .i64 x, .int .i64 y], .int .i64 lo, .int .i64 hi] w fun e w' => e = .returned (.bool (spanIn x y lo hi)) ∧ Kept w w' := by
  go_enter Try.func55, Try.ntmps55
  go_wp2_with (go_at_call 51; (with_reducible refine (f_ranged_2 _ _ _ _  _ _ _ (by simp)).mono ?_); rintro e w1 ⟨rfl, hb1⟩; obtain ⟨hc1, hf1, hl1⟩ := bcell3 hb1)
  all_goals (go_ret; refine ⟨ret_bool ?_, by (exact kpt)⟩; simp [spanIn, *])
  all_goals omega

theorem r_within (n lo hi : Int) (w : World) :
    Calls Try.prog 53 #[.int .i64 n, .int .i64 lo, .int .i64 hi] w fun e w' => e = .returned (.bool (inB n lo hi)) ∧ w = w' := by
  go_enter Try.func53, Try.ntmps53
  go_wp2
  all_goals (go_ret; exact ⟨ret_bool (by first | (simp_all [inB]; done) | (simp_all [inB]; omega)), rfl⟩)

theorem r_spanned (x y lo hi : Int) (w : World) :
    Calls Try.prog 91 #[.agg #[.int .i64 x, .int .i64 y], .int .i64 lo, .int .i64 hi] w fun e w' => e = .returned (.bool (spanIn x y lo hi)) ∧ Kept w w' := by
  have he : spanIn x y lo hi = (decide (lo ≤ x) && decide (x ≤ y) && decide (y ≤ hi)) := by
    simp only [spanIn, rng, inB, List.all_cons, List.all_nil, Bool.and_true]
    rw [Bool.eq_iff_iff]
    simp
    omega
  rw [he]
  by_cases h1 : lo ≤ x <;> by_cases h2 : x ≤ y <;> by_cases h3 : y ≤ hi
  all_goals
    go_enter Try.func91, Try.ntmps91
    go_wp2
    all_goals (go_ret; exact ⟨ret_bool (by simp [*]), by (exact kpt)⟩)

end Go.Proofs.Ytacbkbilbmkjnaa

/-
  Decision tables: the values that are tried, the program's search and the reference's. No program in sight.
-/
namespace Bal.Mast
open Bal.Trim
set_option linter.unusedVariables false
/-! ### A sorted list, each number once -/
def once (l : List Int) : List Int := Go.Lib.compact (l.mergeSort fun x y => decide (x ≤ y))
theorem compact_sub {l : List Int} (h : l.Pairwise (· ≤ ·)) : (Go.Lib.compact l).Pairwise (· ≤ ·) := by
  unfold Go.Lib.compact Go.Lib.compactUpTo
  rw [List.pairwise_map]
  refine List.Pairwise.imp_of_mem (fun {i j} hi hj hij => ?_) ((List.pairwise_lt_range (n := l.length)).filter _)
  have h1 := List.mem_range.1 (List.mem_filter.1 hi).1
  have h2 := List.mem_range.1 (List.mem_filter.1 hj).1
  have := List.pairwise_iff_getElem.1 h i j h1 h2 hij
  simpa [h1, h2] using this
theorem mem_compact {l : List Int} {x : Int} : x ∈ Go.Lib.compact l ↔ x ∈ l := by
  unfold Go.Lib.compact Go.Lib.compactUpTo
  simp only [List.mem_map, List.mem_filter, List.mem_range]
  constructor
  · rintro ⟨i, ⟨h1, _⟩, rfl⟩
    simp [h1]
  · intro hx
    obtain ⟨j, hj, e⟩ := List.mem_iff_getElem.1 hx
    clear hx
    induction j with
    | zero => exact ⟨0, ⟨hj, by simp [Go.Lib.keeps]⟩, by simp [hj, e]⟩
    | succ j ih =>
      by_cases h2 : l[j] = x
      · exact ih (by omega) h2
      · refine ⟨j + 1, ⟨hj, ?_⟩, by simp [hj, e]⟩
        have h3 : j < l.length := by omega
        simp [Go.Lib.keeps, hj, h3, e]
        exact fun h => h2 h.symm
theorem sort_le (l : List Int) : (l.mergeSort fun x y => decide (x ≤ y)).Pairwise (· ≤ ·) := by
  have := List.pairwise_mergeSort (le := fun x y : Int => decide (x ≤ y)) (fun a b c h1 h2 => by simp at *; omega) (fun a b => by simp; omega) l
  exact this.imp (fun h => by simpa using h)
theorem once_le (l : List Int) : (once l).Pairwise (· ≤ ·) := compact_sub (sort_le l)
theorem mem_once {l : List Int} {x : Int} : x ∈ once l ↔ x ∈ l := by unfold once; rw [mem_compact, List.mem_mergeSort]
/-! ### The program's search -/
def rowVals (d : Tb) (k : Nat) (i : Nat) : List Int :=
  match d.vars[k]?, (d.rows[i]?).bind (fun r => r.conds[k]?) with
  | some v, some c => [c.lo, c.hi + 1].filter fun n => inB n v.lo v.hi
  | _, _ => []
def valsP (d : Tb) (pre : List Int) : List Int := (match d.vars[pre.length]? with | some v => [v.lo] | none => []) ++ (matchL d pre).flatMap (rowVals d pre.length)
def firstP (d : Tb) (W : List Nat → Bool) : Nat → List Int → Option (List Int)
  | 0, pre => if W (matchL d pre) then some pre else none
  | m + 1, pre => (once (valsP d pre)).findSome? fun n => firstP d W m (pre ++ [n])
theorem mem_valsP {d : Tb} {pre : List Int} {n : Int} (hv : ∀ v ∈ d.vars, v.lo ≤ v.hi) : n ∈ valsP d pre ↔ Turns d pre n := by
  unfold valsP Turns
  by_cases hk : pre.length < d.vars.length
  · rw [List.getElem?_eq_getElem hk]
    simp only [List.mem_append, List.mem_singleton, List.mem_flatMap]
    have hle := hv _ (List.getElem_mem hk)
    constructor
    · rintro (rfl | ⟨i, hi, hn⟩)
      · exact ⟨hk, inB_iff.2 ⟨Int.le_refl _, hle⟩, .inl rfl⟩
      · unfold rowVals at hn
        rw [List.getElem?_eq_getElem hk] at hn
        cases hr : d.rows[i]? with
        | none => simp [hr] at hn
        | some r =>
          rw [hr] at hn
          simp only [Option.bind_some] at hn
          cases hc : r.conds[pre.length]? with
          | none => simp [hc] at hn
          | some c =>
            rw [hc] at hn
            simp only [List.mem_filter] at hn
            refine ⟨hk, hn.2, .inr ⟨i, hi, r, hr, c, hc, ?_⟩⟩
            simpa using hn.1
    · rintro ⟨_, h1, rfl | ⟨i, hi, r, hr, c, hc, hn⟩⟩
      · exact .inl rfl
      · refine .inr ⟨i, hi, ?_⟩
        unfold rowVals
        rw [List.getElem?_eq_getElem hk, hr]
        simp only [Option.bind_some, hc, List.mem_filter]
        exact ⟨by simpa using hn, h1⟩
  · rw [List.getElem?_eq_none (by omega)]
    simp only [List.nil_append, List.mem_flatMap]
    constructor
    · rintro ⟨i, _, hn⟩
      unfold rowVals at hn
      rw [List.getElem?_eq_none (by omega)] at hn
      simp at hn
    · rintro ⟨h, _⟩
      exact absurd h hk
theorem hits_snoc {cs : List Span} {pre : List Int} {n : Int} (h : pre.length < cs.length) : hits cs (pre ++ [n]) = (hits cs pre && inB n cs[pre.length].lo cs[pre.length].hi) := by
  rw [hits_mid h]
  cases hc : cs.drop (pre.length + 1) <;> simp [hits]
theorem firstP_ext {d : Tb} (hE : Even d) (hv : ∀ v ∈ d.vars, v.lo ≤ v.hi) (W : List Nat → Bool) : ∀ (m : Nat) (pre : List Int), pre.length + m = d.vars.length → hits d.vars pre = true → FirstExt d W pre (firstP d W m pre)
  | 0, pre, h1, h2 => FirstExt.whole ⟨by omega, h2⟩
  | m + 1, pre, h1, h2 => by
    have hk : pre.length < d.vars.length := by omega
    refine FirstExt.step hE hk (once_le _) (fun n hn => mem_once.2 ((mem_valsP hv).2 hn)) (fun n hn => ?_)
    obtain ⟨_, hb, _⟩ := (mem_valsP hv).1 (mem_once.1 hn)
    exact firstP_ext hE hv W m (pre ++ [n]) (by simp; omega) (by rw [hits_snoc hk, h2, hb]; rfl)
/-! ### The reference's -/
def isStart (d : Tb) (k : Nat) (n : Int) : Bool := match d.vars[k]? with | some v => decide (n = v.lo) || d.rows.any (fun r => match r.conds[k]? with | some c => decide (c.lo = n) || decide (c.hi + 1 = n) | none => false) | none => false
def startsTo (d : Tb) (k : Nat) (m : Nat) : List Int := match d.vars[k]? with | some v => ((List.range m).map fun i : Nat => v.lo + (i : Int)).filter (isStart d k) | none => []
def starts (d : Tb) (k : Nat) : List Int := match d.vars[k]? with | some v => startsTo d k (v.hi - v.lo + 1).toNat | none => []
theorem mem_starts {d : Tb} {k : Nat} {n : Int} (h : k < d.vars.length) : n ∈ starts d k ↔ inB n d.vars[k].lo d.vars[k].hi = true ∧ isStart d k n = true := by
  unfold starts startsTo
  rw [List.getElem?_eq_getElem h]
  simp only [List.mem_filter, List.mem_map, List.mem_range, inB_iff]
  constructor
  · rintro ⟨⟨i, hi, rfl⟩, h2⟩
    exact ⟨by omega, h2⟩
  · rintro ⟨h1, h2⟩
    exact ⟨⟨(n - d.vars[k].lo).toNat, by omega, by omega⟩, h2⟩
theorem starts_le (d : Tb) (k : Nat) : (starts d k).Pairwise (· ≤ ·) := by
  unfold starts startsTo
  split
  · apply List.Pairwise.filter
    rw [List.pairwise_map]
    exact List.pairwise_lt_range.imp (fun h => by omega)
  · exact List.Pairwise.nil
theorem turns_start {d : Tb} {pre : List Int} {n : Int} (h : Turns d pre n) : n ∈ starts d pre.length := by
  obtain ⟨hk, hb, hn⟩ := h
  refine (mem_starts hk).2 ⟨hb, ?_⟩
  unfold isStart
  rw [List.getElem?_eq_getElem hk]
  simp only [Bool.or_eq_true, decide_eq_true_eq, List.any_eq_true]
  rcases hn with h | ⟨i, _, r, hr, c, hc, h⟩
  · exact .inl h
  · refine .inr ⟨r, List.mem_of_getElem? hr, ?_⟩
    rw [hc]
    simp only [Bool.or_eq_true, decide_eq_true_eq]
    rcases h with h | h
    · exact .inl h.symm
    · exact .inr h.symm
def tuples : List (List Int) → List (List Int)
  | [] => [[]]
  | l :: ls => l.flatMap fun x => (tuples ls).map fun t => x :: t
def sizeL : List (List Int) → Nat
  | [] => 1
  | l :: ls => l.length * sizeL ls
theorem tuples_len : ∀ ls : List (List Int), (tuples ls).length = sizeL ls
  | [] => rfl
  | l :: ls => by
    simp only [tuples, sizeL]
    induction l with
    | nil => simp
    | cons x l ih => rw [List.flatMap_cons, List.length_append, ih, List.length_map, tuples_len ls, List.length_cons, Nat.add_mul, Nat.one_mul]; omega
/-- the state of a number -/
def digs : List (List Int) → Nat → List Int
  | [], _ => []
  | l :: ls, n => (l[(n / sizeL ls) % l.length]?.getD 0) :: digs ls n
theorem digs_mod : ∀ (ls : List (List Int)) (q n : Nat), digs ls (n % (q * sizeL ls)) = digs ls n
  | [], q, n => rfl
  | l :: ls, q, n => by
    simp only [digs, sizeL]
    have e1 : n % (q * (l.length * sizeL ls)) / sizeL ls % l.length = n / sizeL ls % l.length := by
      rw [show q * (l.length * sizeL ls) = sizeL ls * (l.length * q) by rw [Nat.mul_comm q, Nat.mul_comm l.length, Nat.mul_assoc], Nat.mod_mul_right_div_self, Nat.mod_mul_right_mod]
    rw [e1, show q * (l.length * sizeL ls) = (q * l.length) * sizeL ls by rw [Nat.mul_assoc], digs_mod ls]
theorem tuples_get : ∀ (ls : List (List Int)) (n : Nat), n < sizeL ls → (tuples ls)[n]? = some (digs ls n)
  | [], n, h => by simp [sizeL] at h; subst h; rfl
  | l :: ls, n, h => by
    have key : ∀ (l : List Int) (n : Nat), n < l.length * sizeL ls → (l.flatMap fun x => (tuples ls).map fun t => x :: t)[n]? = some ((l[n / sizeL ls]?.getD 0) :: digs ls (n % sizeL ls)) := by
      intro l
      induction l with
      | nil => intro n h; simp at h
      | cons x l ih =>
        intro n h
        have hpos : 0 < sizeL ls := by
          rcases Nat.eq_zero_or_pos (sizeL ls) with h0 | h0
          · rw [h0] at h; simp at h
          · exact h0
        rw [List.flatMap_cons]
        by_cases hn : n < sizeL ls
        · rw [List.getElem?_append_left (by rw [List.length_map, tuples_len]; exact hn), List.getElem?_map, tuples_get ls n hn, Nat.div_eq_of_lt hn, Nat.mod_eq_of_lt hn]
          rfl
        · have hn' : sizeL ls ≤ n := by omega
          rw [List.getElem?_append_right (by rw [List.length_map, tuples_len]; exact hn'), List.length_map, tuples_len, ih (n - sizeL ls) (by rw [List.length_cons, Nat.add_mul, Nat.one_mul] at h; omega)]
          have e1 : n / sizeL ls = (n - sizeL ls) / sizeL ls + 1 := Nat.div_eq_sub_div hpos hn'
          rw [e1, List.getElem?_cons_succ, Nat.mod_eq_sub_mod hn']
    simp only [tuples, digs, sizeL] at h ⊢
    rw [key l n h]
    have hpos : 0 < sizeL ls := by
      rcases Nat.eq_zero_or_pos (sizeL ls) with h0 | h0
      · rw [h0] at h; simp at h
      · exact h0
    have hq : n / sizeL ls < l.length := (Nat.div_lt_iff_lt_mul hpos).2 h
    have hm := digs_mod ls 1 n
    rw [Nat.one_mul] at hm
    rw [Nat.mod_eq_of_lt hq, hm]
def firstL (d : Tb) (W : List Nat → Bool) : List (List Int) → List Int → Option (List Int)
  | [], pre => if W (matchL d pre) then some pre else none
  | l :: ls, pre => l.findSome? fun x => firstL d W ls (pre ++ [x])
theorem firstL_find (d : Tb) (W : List Nat → Bool) : ∀ (ls : List (List Int)) (pre : List Int), firstL d W ls pre = ((tuples ls).map fun t => pre ++ t).find? fun s => W (matchL d s)
  | [], pre => by
    simp only [firstL, tuples, List.map_cons, List.map_nil, List.append_nil, List.find?_cons, List.find?_nil]
    cases W (matchL d pre) <;> rfl
  | l :: ls, pre => by
    simp only [firstL, tuples, List.map_flatMap, List.find?_flatMap]
    congr 1
    funext x
    rw [firstL_find d W ls (pre ++ [x]), List.map_map]
    congr 1
    apply List.map_congr_left
    intro t _
    simp
theorem firstL_ext {d : Tb} (hE : Even d) (W : List Nat → Bool) : ∀ (m k : Nat) (pre : List Int), pre.length = k → k + m = d.vars.length → hits d.vars pre = true → FirstExt d W pre (firstL d W ((List.range' k m).map (starts d)) pre)
  | 0, k, pre, h0, h1, h2 => FirstExt.whole ⟨by omega, h2⟩
  | m + 1, k, pre, h0, h1, h2 => by
    subst h0
    have hk : pre.length < d.vars.length := by omega
    rw [List.range'_succ, List.map_cons]
    refine FirstExt.step hE hk (starts_le _ _) (fun n hn => turns_start hn) (fun n hn => ?_)
    exact firstL_ext hE W m (pre.length + 1) (pre ++ [n]) (by simp) (by omega) (by rw [hits_snoc hk, h2, ((mem_starts hk).1 hn).1]; rfl)
def startsL (d : Tb) : List (List Int) := (List.range' 0 d.vars.length).map (starts d)
/-- the first number whose state is wanted -/
theorem first_number {d : Tb} (hE : Even d) {W : List Nat → Bool} {n : Nat} (h : n < sizeL (startsL d)) (hw : W (matchL d (digs (startsL d) n)) = true) (hno : ∀ m, m < n → W (matchL d (digs (startsL d) m)) = false) : FirstExt d W [] (some (digs (startsL d) n)) := by
  have h1 := firstL_ext hE W d.vars.length 0 [] rfl (by omega) (by cases d.vars <;> rfl)
  have e : firstL d W ((List.range' 0 d.vars.length).map (starts d)) [] = some (digs (startsL d) n) := by
    rw [firstL_find]
    simp only [List.nil_append, List.map_id']
    have hg := tuples_get _ n h
    obtain ⟨hl, hv⟩ := List.getElem?_eq_some_iff.1 hg
    rw [List.find?_eq_some_iff_getElem]
    refine ⟨hw, n, hl, hv, fun j hj => ?_⟩
    have hj' := tuples_get _ j (Nat.lt_trans hj h)
    obtain ⟨hl', hv'⟩ := List.getElem?_eq_some_iff.1 hj'
    rw [show (tuples ((List.range' 0 d.vars.length).map (starts d)))[j] = digs (startsL d) j from hv', hno j hj]
    rfl
  rw [e] at h1
  exact h1
theorem no_number {d : Tb} (hE : Even d) {W : List Nat → Bool} (hno : ∀ m, m < sizeL (startsL d) → W (matchL d (digs (startsL d) m)) = false) : FirstExt d W [] none := by
  have h1 := firstL_ext hE W d.vars.length 0 [] rfl (by omega) (by cases d.vars <;> rfl)
  have e : firstL d W ((List.range' 0 d.vars.length).map (starts d)) [] = none := by
    rw [firstL_find]
    simp only [List.nil_append, List.map_id']
    rw [List.find?_eq_none]
    intro t ht
    obtain ⟨j, hj, e⟩ := List.mem_iff_getElem.1 ht
    have hs : j < sizeL (startsL d) := by rw [← tuples_len]; exact hj
    have hj' := tuples_get _ j hs
    obtain ⟨hl', hv'⟩ := List.getElem?_eq_some_iff.1 hj'
    rw [← e, show (tuples ((List.range' 0 d.vars.length).map (starts d)))[j] = digs (startsL d) j from hv', hno j hs]
    simp
  rw [e] at h1
  exact h1
end Bal.Mast

/-
  A slice that the call owns, beside blocks of another type. No program in sight.
-/
namespace Bal
open Go Go.RowKit
theorem Blk.grown {w w' : World} {b base k n : Nat} {arr : Array Value} {t e : TypeId} {v : Value} {xs : List Value} (h : Blk w b arr t) (ho : w.ownsRow base e k v n xs) (hne : t ≠ e) (hg : w.grownBy w' v.ownBlock) : Blk w' b arr t := by
  have hl := h.lt
  unfold Blk at *
  rw [hg.block b hl ?_]
  · exact h
  · intro he
    obtain ⟨_, ⟨rfl, _⟩ | ⟨g, cap, cur, rfl, _, hh, _⟩⟩ := ho
    · cases he
    · simp only [Value.ownBlock, Option.some.injEq] at he
      subst he
      rw [h] at hh
      simp only [Option.some.injEq, Obj.cells.injEq] at hh
      exact hne hh.2.1
theorem Kept.grown {w0 w w' : World} {base k n : Nat} {e : TypeId} {v : Value} {xs : List Value} (h : Kept w0 w) (ho : w.ownsRow base e k v n xs) (hb : w0.heap.size ≤ base) (hg : w.grownBy w' v.ownBlock) : Kept w0 w' := by
  refine Below.trans h ⟨hg.os, hg.tape, hg.output, hg.size, fun i hi => hg.block i (Nat.lt_of_lt_of_le hi h.size) fun he => ?_⟩
  obtain ⟨_, ⟨rfl, _⟩ | ⟨g, cap, cur, rfl, hbg, _, _⟩⟩ := ho
  · cases he
  · simp only [Value.ownBlock, Option.some.injEq] at he
    omega
end Bal

/-
  Rows of elements: parts of them, equal lists, what a call owns. No program in sight.
-/
namespace Bal
open Go Go.RowKit
/-- the first elements of a row -/
theorem Row.take {α : Type} {enc : α → List Value} {k B : Nat} {w : World} {a : Option Addr} {xs : List α} (h : Row enc k B w a xs) (n : Nat) : Row enc k B w a (xs.take n) := by
  intro i x hx
  rw [List.getElem?_take] at hx
  split at hx
  · exact h i x hx
  · cases hx
theorem Row.one {α : Type} {enc : α → List Value} {k : Nat} {w : World} {b : Nat} {arr : Array Value} {t : TypeId} {x : α} (h : Blk w b arr t) (he : arr.toList = enc x) : Row enc k w.heap.size w (some ⟨b, 0, none⟩) [x] := by
  intro j y hy
  have hj : j = 0 := by
    have := (List.getElem?_eq_some_iff.1 hy).1
    simp at this; omega
  subst hj
  simp at hy
  subst hy
  exact ⟨b, 0, rfl, h.lt, fun j v hv => by simp only [Nat.zero_mul, Nat.zero_add]; rw [h.cell, ← Array.getElem?_toList, he]; exact hv⟩
/-- a block of several elements as a row -/
theorem Row.block {α : Type} {enc : α → List Value} {k : Nat} {w : World} {b : Nat} {arr : Array Value} {t : TypeId} {xs : List α} (he : ∀ x, (enc x).length = k) (h : Blk w b arr t) (ha : arr.toList = xs.flatMap enc) : Row enc k w.heap.size w (some ⟨b, 0, none⟩) xs := by
  intro i x hx
  refine ⟨b, 0, rfl, h.lt, fun j v hj => ?_⟩
  have hjk : j < k := by rw [← he x]; exact (List.getElem?_eq_some_iff.1 hj).1
  rw [h.cell, Nat.zero_add, ← Array.getElem?_toList, ha, flatMap_get he xs i x hx j hjk]
  exact hj
theorem cell_one_at {w : World} {n : Nat} (h : n = w.heap.size) (a : Value) (t : TypeId) : ∀ j u, [a][j]? = some u → (w.alloc (.cells #[a] t)).cell? ((⟨n, 0, none⟩ : Addr).add j) = some u := by
  subst h
  intro j u hj
  have hj0 : j = 0 := by
    have := (List.getElem?_eq_some_iff.1 hj).1
    simp at this; omega
  subst hj0
  simp at hj
  subst hj
  simp [Addr.add]
/-- a slice that a call owns, as a row at an address; nil if it is empty and unmade -/
theorem owns_row {α : Type} {enc : α → List Value} {k base : Nat} {e : TypeId} {w : World} {v : Value} {xs : List α} (he : ∀ x, (enc x).length = k) (h : w.ownsRow base e k v xs.length (xs.flatMap enc)) :
    ∃ a cap, v = .slice a xs.length cap ∧ Row enc k w.heap.size w a xs ∧ xs.length ≤ cap ∧ cap ≤ maxLen := Row.of_owns he h
end Bal

/-
  An empty slice that a call has made, and lists appended to it. No program in sight.
-/
namespace Bal
open Go Go.RowKit
set_option linter.unusedVariables false
theorem owns_made {α : Type} {enc : α → List Value} {base k n : Nat} {e : TypeId} {w : World} (hn : n = w.heap.size) (hb : base ≤ w.heap.size) : (w.alloc (.cells #[] e)).ownsRow base e k (.slice (some ⟨n, 0, none⟩) 0 0) ([] : List α).length (([] : List α).flatMap enc) := by
  subst hn
  refine ⟨by simp, .inr ⟨w.heap.size, 0, #[], rfl, hb, Blk.new, Nat.le_refl _, by simp [maxLen], by simp, by simp⟩⟩
end Bal

/-
  A region that draws its order, walked once in an order that is told: first operations that need no world, then operations that only read or call (calls may make memory), then the rest in one forced order. No program in sight.
-/
namespace Bal
open Go Go.RowKit

section
variable {P : Program} {ops : Array Oper} {md : Region.Mode} {C : World → Prop}

structure OrdInv (md : Region.Mode) (ops : Array Oper) (hd tl : List Nat) (listed : Array Bool) : Prop where
  size : listed.size = ops.size
  closed : ∀ j oj, ops[j]? = some oj → listed.getD j false = true → ∀ e ∈ oj.after, Region.binds md e = true → listed.getD e.on false = true
  tail : ∀ t, t ∈ tl → listed.getD t true = false
  cover : ∀ j, listed.getD j true = false → j ∈ hd ∨ j ∈ tl

theorem OrdInv.set {hd tl : List Nat} {listed : Array Bool} {i : Nat} (inv : OrdInv md ops hd tl listed) (hi : i ∈ Region.ready md ops listed) (hn : i ∉ tl) : OrdInv md ops hd tl (listed.setIfInBounds i true) := by
  obtain ⟨_, oi, hoi, hall⟩ := mem_ready.1 hi
  refine ⟨by simp [inv.size], fun j oj hj hl e he hb => ?_, fun t ht => ?_, fun j hj => ?_⟩
  · by_cases hij : i = j
    · subst hij
      have : oj = oi := Option.some.inj (hj.symm.trans hoi)
      subst this
      exact getD_set_true (hall e he hb)
    · rw [getD_set_ne false hij] at hl
      exact getD_set_true (inv.closed j oj hj hl e he hb)
  · rw [getD_set_ne true (fun e => hn (by rw [e]; exact ht))]; exact inv.tail t ht
  · by_cases hij : i = j
    · subst hij
      exfalso
      rcases Nat.lt_or_ge i listed.size with h' | h'
      · simp [h'] at hj
      · simp [Array.getElem?_eq_none (by simpa using h' : (listed.setIfInBounds i true).size ≤ i)] at hj
    · rw [getD_set_ne true hij] at hj
      exact inv.cover j hj

/-! ### The same, with operations that need no world among the others -/

theorem filterMap_ok2 {l : List Oper} : ∀ (is : List (Bool × Nat)), (∀ x ∈ is, x.2 < l.length) →
    is.map (fun x => (x.1, l.toArray[x.2]?)) = (is.filterMap fun x => (l[x.2]?).map fun o => (x.1, o)).map (fun x => (x.1, some x.2)) ∧ (is.filterMap fun x => (l[x.2]?).map fun o => (x.1, o)).length = is.length
  | [], _ => ⟨rfl, rfl⟩
  | (b, i) :: is, h => by
    have hi := h (b, i) (by simp)
    obtain ⟨h1, h2⟩ := filterMap_ok2 is (fun j hj => h j (by simp [hj]))
    have e : l[i]? = some l[i] := by simp [hi]
    refine ⟨?_, ?_⟩
    · rw [List.map_cons, h1, List.filterMap_cons]
      simp only [e, Option.map_some, List.map_cons]
      simp [hi]
    · rw [List.filterMap_cons]
      simp only [e, Option.map_some, List.length_cons]
      simp [h2]

end
end Bal

/-
  A region that draws its order in which a call panics: whatever order is picked, the operations that come up ahead of it only read or call (or make a block), and then it panics. No program in sight.
-/
namespace Bal
open Go Go.RowKit

section
variable {P : Program} {ops : Array Oper} {md : Region.Mode} {C : World → Prop} {Q : Exit → Act → World → Prop}

/-- operation p panics in state a, in every world of the class -/
def DiesAt (P : Program) (ops : Array Oper) (C : World → Prop) (Q : Exit → Act → World → Prop) (p : Nat) (a : Act) : Prop := ∀ w, C w → wpOp P ops Q p (fun _ _ => False) a w
/-- one operation that panics, out of its run -/
theorem DiesAt.of {p : Nat} {o : Oper} {a : Act} (ho : ops[p]? = some o) (hg : o.guard = none) (h : ∀ w, C w → Oper.wp P o a w (fun _ _ => False) Q) : DiesAt P ops C Q p a := fun w hw => by
  unfold wpOp
  simp only [ho]
  have hwt : Region.wanted o (yielded ops a.tmps) = true := by simp [Region.wanted, hg]
  simp only [hwt, if_true]
  exact .inl (h w hw)
end
end Bal

/-
  A region that draws its order, walked once: loads (of cells that the region leaves alone till they are read) and operations that need no world are taken first; what is then left comes up one at a time: a call, a block that is made, a store; it may panic. No program in sight.
-/
namespace Bal
open Go Go.RowKit

section
variable {P : Program} {ops : Array Oper} {md : Region.Mode} {S : World → Prop} {Q : Exit → Act → World → Prop}

/-- what a walk goes on with behind one operation -/
def onward (K : Act → World → Prop) (Q : Exit → Act → World → Prop) : Exit → Act → World → Prop
  | .normal, a, w => K a w
  | .exit i, a, w => Q (.exit i) a w
  | .goto l, a, w => Q (.goto l) a w
  | .ret, a, w => Q .ret a w
  | .panic c, a, w => Q (.panic c) a w
  | .outgrown, a, w => Q .outgrown a w
theorem wpOp_onward {i : Nat} {a : Act} {w : World} {K : Act → World → Prop} (h : wpOp P ops (onward K Q) i K a w) : wpOp P ops Q i K a w := by
  unfold wpOp at *
  split
  · simpa [*] using h
  · rename_i o ho
    simp only [ho] at h
    split
    · rename_i hw
      simp only [hw, if_true] at h
      rcases h with h | ⟨h1, h2⟩
      · refine .inl ?_
        unfold Oper.wp at *
        generalize (execOp a.eval o).run P w = r at *
        cases r with
        | ok n w' =>
          cases n <;> simp only [Oper.upon] at h ⊢
          case enter f args =>
            refine Calls.mono h fun e w'' he => ?_
            cases e with
            | returned u => exact he
            | panicked c => exact he
            | outgrown => exact he
          all_goals exact h
        | halt x w' =>
          cases x <;> simp only [Oper.upon] at h ⊢
          case panic u => exact h
      · exact .inr ⟨h1, h2⟩
    · rename_i hw
      simp only [hw] at h
      exact h

/-- whatever order is picked from here on, and S holds behind every operation but number n -/
def wpAnyE (P : Program) (md : Region.Mode) (ops : Array Oper) (Q : Exit → Act → World → Prop) (S : World → Prop) (n : Nat) : Nat → Array Bool → Act → World → Prop
  | 0, listed, a, w => Region.ready md ops listed = [] ∧ Q .normal a w
  | f + 1, listed, a, w =>
    (Region.ready md ops listed = [] → Q .normal a w) ∧
    ∀ i ∈ Region.ready md ops listed, wpOp P ops Q i (fun a' w' => (i = n ∨ S w') ∧ wpAnyE P md ops Q S n f (listed.setIfInBounds i true) a' w') a w

theorem wpAny_of_E {n : Nat} : ∀ (f : Nat) (listed : Array Bool) (a : Act) (w : World), wpAnyE P md ops Q S n f listed a w → wpAny P md ops Q f listed a w
  | 0, _, _, _, h => h
  | f + 1, _, _, _, h => ⟨h.1, fun i hi => wpOp_mono (fun a' w' h' => wpAny_of_E f _ a' w' h'.2) (h.2 i hi)⟩

/-- number n, if there is one, waits for all others -/
structure LastOk (md : Region.Mode) (ops : Array Oper) (n : Nat) : Prop where
  sink : n < ops.size → Region.sinkB md ops n = true
  chain : n < ops.size → Region.chainB md ops n = true
  last : n < ops.size → n + 1 = ops.size
def LastInv (md : Region.Mode) (ops : Array Oper) (n : Nat) (listed : Array Bool) : Prop := n < ops.size → HeadInv md ops n listed

theorem LastInv.set {n i : Nat} {listed : Array Bool} (hl : LastOk md ops n) (inv : LastInv md ops n listed) (hi : i ∈ Region.ready md ops listed) (hin : i ≠ n) : LastInv md ops n (listed.setIfInBounds i true) := fun hn =>
  (inv hn).set hi (by
    obtain ⟨_, o, ho, _⟩ := mem_ready.1 hi
    have := (Array.getElem?_eq_some_iff.1 ho).1
    have := hl.last hn
    omega)
/-- beside another one that may come up, n may not -/
theorem LastInv.other {n i j : Nat} {listed : Array Bool} (hl : LastOk md ops n) (inv : LastInv md ops n listed) (hi : i ∈ Region.ready md ops listed) (hin : i ≠ n) (hj : j ∈ Region.ready md ops listed) : j ≠ n := by
  rintro rfl
  obtain ⟨_, o, ho, _⟩ := mem_ready.1 hj
  have hn := (Array.getElem?_eq_some_iff.1 ho).1
  obtain ⟨hun, oi, hoi, _⟩ := mem_ready.1 hi
  have h1 := (Array.getElem?_eq_some_iff.1 hoi).1
  have h2 := hl.last hn
  exact tail_waits (hl.sink hn) (hl.chain hn) hn (inv hn) _ i rfl (by omega) hun j (Nat.le_refl _) hj

theorem wpAnyE_first {n i : Nat} {oi : Oper} {v : Value} (hl : LastOk md ops n) (hin : i ≠ n) (hi : ops[i]? = some oi) (hsel : ∀ (j : Nat) (o : Oper) cs b, ops[j]? = some o → o.op ≠ .select cs b)
    (hQ : ∀ c a w, Q (.panic c) (a.put oi.dst v) w → Q (.panic c) a w) :
    ∀ (f : Nat) (listed : Array Bool) (a : Act) (w : World), LastInv md ops n listed →
      (∀ j oj, ops[j]? = some oj → j ≠ i → listed.getD j true = false → (∀ e ∈ oj.after, Region.binds md e = true → e.on ≠ i) → oi.apart ops oj = true) →
      i ∈ Region.ready md ops listed → YieldsIf P ops S oi v a → S w →
      wpAnyE P md ops Q S n f (listed.setIfInBounds i true) (a.put oi.dst v) w → wpAnyE P md ops Q S n (f + 1) listed a w := by
  intro f
  induction f with
  | zero =>
    intro listed a w inv _ hr hy hS H
    refine ⟨fun h => (by rw [h] at hr; cases hr), fun j hj => ?_⟩
    by_cases hji : j = i
    · subst hji; exact hy.wpOp hi hS ⟨.inr hS, H⟩
    · have := ready_mono hj hji
      rw [H.1] at this
      cases this
  | succ f ih =>
    intro listed a w inv hfree hr hy hS H
    refine ⟨fun h => (by rw [h] at hr; cases hr), fun j hj => ?_⟩
    by_cases hji : j = i
    · subst hji; exact hy.wpOp hi hS ⟨.inr hS, H⟩
    · have hjn := inv.other hl hr hin hj
      have h1 := H.2 j (ready_mono hj hji)
      obtain ⟨hjun, oj, hoj, hall⟩ := mem_ready.1 hj
      have hnot : ∀ e ∈ oj.after, Region.binds md e = true → e.on ≠ i := fun e he hb heq => by
        have h1 := hall e he hb
        rw [heq, getD_both (mem_ready.1 hr).1] at h1
        cases h1
      have h2 := wpOp_putIf hoj (hfree j oj hoj hji hjun hnot) (fun cs b => hsel i oi cs b hi) (fun cs b => hsel j oj cs b hoj) hQ hy h1
      have hfree' : ∀ k ok, ops[k]? = some ok → k ≠ i → (listed.setIfInBounds j true).getD k true = false →
          (∀ e ∈ ok.after, Region.binds md e = true → e.on ≠ i) → oi.apart ops ok = true := fun k ok hk hki hun hno => by
        refine hfree k ok hk hki ?_ hno
        by_cases hjk : j = k
        · subst hjk; exact hjun
        · rw [getD_set_ne true hjk] at hun; exact hun
      refine wpOp_mono (fun a' w' h3 => ?_) h2
      have hS' : S w' := h3.2.1.resolve_left hjn
      refine ⟨.inr hS', ih (listed.setIfInBounds j true) a' w' (inv.set hl hj hjn) hfree' (ready_mono hr (Ne.symm hji)) h3.1 hS' ?_⟩
      rw [Array.setIfInBounds_comm _ _ hji]
      exact h3.2.2

/-- THE WALK: 'true' at an operation that yields in every world that meets S; the others come up one at a time -/
def Held (P : Program) (ops : Array Oper) (Q : Exit → Act → World → Prop) (S : World → Prop) : List (Bool × Oper) → Act → World → Prop
  | [], a, w => Q .normal a w
  | (true, o) :: r, a, w => ∃ v, YieldsIf P ops S o v a ∧ Held P ops Q S r (a.put o.dst v) w
  | (false, o) :: r, a, w => wpList P ops (onward (fun a' w' => (r = [] ∨ S w') ∧ Held P ops Q S r a' w') Q) [o] a w
def heldB (md : Region.Mode) (ops : Array Oper) (n : Nat) : List (Bool × Nat) → Array Bool → Bool
  | [], listed => (Region.ready md ops listed).isEmpty
  | (true, i) :: r, listed => (Region.ready md ops listed).contains i && Region.free md ops listed i && decide (i ≠ n) && heldB md ops n r (listed.setIfInBounds i true)
  | (false, i) :: r, listed => decide (Region.ready md ops listed = [i]) && (decide (i = n) == r.isEmpty) && heldB md ops n r (listed.setIfInBounds i true)

theorem wpAnyE_of_held {n : Nat} (hl : LastOk md ops n) (hsel : Region.noSelect ops = true) (hQ : ∀ c a d v w, Q (.panic c) (Act.put a d v) w → Q (.panic c) a w) :
    ∀ (is : List (Bool × Nat)) (l : List (Bool × Oper)) (listed : Array Bool) (a : Act) (w : World), is.map (fun x => (x.1, ops[x.2]?)) = l.map (fun x => (x.1, some x.2)) → LastInv md ops n listed ∨ is = [] → heldB md ops n is listed = true →
    (is = [] ∨ S w) → Held P ops Q S l a w → wpAnyE P md ops Q S n l.length listed a w
  | [], [], listed, a, w, _, _, hB, _, h => ⟨by simpa [heldB] using hB, h⟩
  | [], _ :: _, _, _, _, hm, _, _, _, _ => by simp at hm
  | _ :: _, [], _, _, _, hm, _, _, _, _ => by simp at hm
  | (true, i) :: is, (b, o) :: l, listed, a, w, hm, inv, hB, hS, h => by
    simp only [List.map_cons, List.cons.injEq, Prod.mk.injEq] at hm
    obtain ⟨⟨rfl, h0⟩, hm'⟩ := hm
    simp only [heldB, Bool.and_eq_true, decide_eq_true_eq] at hB
    obtain ⟨⟨⟨hr, hf⟩, hin⟩, hB'⟩ := hB
    obtain ⟨v, hy, hK⟩ := h
    have hr' : i ∈ Region.ready md ops listed := by simpa using hr
    have hS' : S w := hS.resolve_left (by simp)
    have inv' := inv.resolve_right (by simp)
    exact wpAnyE_first hl hin h0 (Region.noSelect_spec hsel) (fun c a w => hQ c a _ _ w) _ listed a w inv' (Region.free_spec h0 hf) hr' hy hS'
      (wpAnyE_of_held hl hsel hQ is l _ _ _ hm' (.inl (inv'.set hl hr' hin)) hB' (.inr hS') hK)
  | (false, i) :: is, (b, o) :: l, listed, a, w, hm, inv, hB, hS, h => by
    simp only [List.map_cons, List.cons.injEq, Prod.mk.injEq] at hm
    obtain ⟨⟨rfl, h0⟩, hm'⟩ := hm
    simp only [heldB, Bool.and_eq_true, decide_eq_true_eq, beq_iff_eq] at hB
    obtain ⟨⟨hr, hlast⟩, hB'⟩ := hB
    have inv' := inv.resolve_right (by simp)
    have hr' : i ∈ Region.ready md ops listed := by rw [hr]; simp
    have hnil : l = [] ↔ is = [] := by
      have := congrArg List.length hm'
      simp only [List.length_map] at this
      rw [← List.length_eq_zero_iff, ← List.length_eq_zero_iff, this]
    refine ⟨fun h1 => (by rw [hr] at h1; cases h1), fun j hj => ?_⟩
    rw [hr] at hj
    have hji : j = i := by simpa using hj
    subst hji
    have hin : j = n ↔ is = [] := by rw [← List.isEmpty_iff, ← hlast]; simp
    refine wpOp_mono (fun a' w' hh => ?_) (wpOp_onward (K := fun a' w' => (l = [] ∨ S w') ∧ Held P ops Q S l a' w') (by
      unfold wpOp
      simp only [h0]
      exact h))
    refine ⟨?_, wpAnyE_of_held hl hsel hQ is l _ _ _ hm' ?_ hB' ?_ hh.2⟩
    · rcases hh.1 with h1 | h1
      · exact .inl (hin.2 (hnil.1 h1))
      · exact .inr h1
    · by_cases hn : j = n
      · exact .inr (hin.1 hn)
      · exact .inl (inv'.set hl hr' hn)
    · rcases hh.1 with h1 | h1
      · exact .inl (hnil.1 h1)
      · exact .inr h1

/-! ### The moves of a walk -/
theorem held_take {o : Oper} {r : List (Bool × Oper)} {a : Act} {w : World} (v : Value) (hw : Region.wanted o (yielded ops a.tmps) = true) (hy : ∀ w', S w' → (execOp a.eval o).run P w' = .ok (.value v) w') (h : Held P ops Q S r (a.put o.dst v) w) :
    Held P ops Q S ((true, o) :: r) a w := ⟨v, .inl ⟨hw, hy⟩, h⟩
theorem held_one {o : Oper} {r : List (Bool × Oper)} {a : Act} {w : World} (h : wpList P ops (onward (fun a' w' => (r = [] ∨ S w') ∧ Held P ops Q S r a' w') Q) [o] a w) : Held P ops Q S ((false, o) :: r) a w := h
theorem held_on {r : List (Bool × Oper)} {a : Act} {w : World} (hS : S w) (h : Held P ops Q S r a w) : onward (fun a' w' => (r = [] ∨ S w') ∧ Held P ops Q S r a' w') Q .normal a w := ⟨.inr hS, h⟩
theorem held_nil {a : Act} {w : World} (h : Q .normal a w) : Held P ops Q S [] a w := h
end
end Bal

/-
  Decision tables in memory; the rows that match, in the reference.
-/
namespace Go.Proofs.Ytacbkbilbmkjnaa
open Go.RowKit Bal Bal.Trim Bal.Mast
set_option linter.unusedVariables false
set_option linter.unusedSimpArgs false
set_option maxHeartbeats 2000000
set_option maxRecDepth 20000

theorem infoIntM : (Try.prog.info? 3).map (fun i => (i.zero, i.size, i.bytes)) = some (some (.int .i64 0), 1, 8) := by kernel_rfl
/-- a row, and where its conditions lie -/
structure RowM where
  r : Rw
  ad : Option Addr
  cap : Nat
def RowM.cells (x : RowM) : List Value := [.slice x.ad x.r.conds.length x.cap, .int .i64 x.r.action]
structure TabM where
  vars : List Span
  va : Option Addr
  vc : Nat
  rows : List RowM
  ra : Option Addr
  rc : Nat
def tbOf (vs : List Span) (rs : List RowM) : Tb := ⟨vs, rs.map RowM.r⟩
def TabM.tb (t : TabM) : Tb := tbOf t.vars t.rows
structure TabAt (t : TabM) (w : World) : Prop where
  vars : Row Span.cells 2 w.heap.size w t.va t.vars
  rows : Row RowM.cells 2 w.heap.size w t.ra t.rows
  conds : ∀ x ∈ t.rows, Row Span.cells 2 w.heap.size w x.ad x.r.conds
  vl : t.vars.length ≤ t.vc
  vm : t.vc ≤ maxLen
  rl : t.rows.length ≤ t.rc
  rm : t.rc ≤ maxLen
  cl : ∀ x ∈ t.rows, x.r.conds.length ≤ x.cap ∧ x.cap ≤ maxLen
theorem TabAt.later {t : TabM} {w w' : World} (k : TabAt t w) (hb : Kept w w') : TabAt t w' :=
  ⟨k.vars.later hb (Nat.le_refl _), k.rows.later hb (Nat.le_refl _), fun x hx => (k.conds x hx).later hb (Nat.le_refl _), k.vl, k.vm, k.rl, k.rm, k.cl⟩
theorem RowM.row {B : Nat} {w : World} {a : Option Addr} {xs : List RowM} (h : Row RowM.cells 2 B w a xs) (i : Nat) (hi : i < xs.length) :
    ∃ b off, a = some ⟨b, off, none⟩ ∧ b < B ∧ w.cell? ⟨b, off + i * 2, none⟩ = some (.slice xs[i].ad xs[i].r.conds.length xs[i].cap) ∧ w.cell? ⟨b, off + i * 2 + 1, none⟩ = some (.int .i64 xs[i].r.action) := by
  obtain ⟨b, off, ha, hb, hc⟩ := h i xs[i] (by simp [hi])
  exact ⟨b, off, ha, hb, hc 0 _ rfl, hc 1 _ rfl⟩
def natsI (l : List Nat) : List Int := l.map fun i : Nat => (i : Int)
theorem natsI_len (l : List Nat) : (natsI l).length = l.length := by simp [natsI]
theorem natsI_snoc (l : List Nat) (k : Nat) : natsI (l ++ [k]) = natsI l ++ [(k : Int)] := by simp [natsI]
theorem TabM.rows_len (t : TabM) : t.tb.rows.length = t.rows.length := by simp [TabM.tb, tbOf]
theorem TabM.row_get (t : TabM) {i : Nat} (hi : i < t.rows.length) : t.tb.rows[i]? = some t.rows[i].r := by simp [TabM.tb, tbOf, hi]
theorem TabM.matchP_at (t : TabM) (st : List Int) {i : Nat} (hi : i < t.rows.length) : matchP t.tb st i = hits t.rows[i].r.conds st := by unfold matchP; rw [t.row_get hi]
theorem matchTo_len (d : Tb) (st : List Int) (k : Nat) : (matchTo d st k).length ≤ k := by
  unfold matchTo
  have := List.length_filter_le (matchP d st) (List.range k)
  simpa using this

theorem r_Matching (t : TabM) (w : World) (ht : TabAt t w) (sa : Option Addr) (sc : Nat) (st : List Int) (hs : Row icell 1 w.heap.size w sa st) (hsl : st.length ≤ sc) (hsm : sc ≤ maxLen) (hr : t.rows.length ≤ 1000) (hE : ∀ x ∈ t.rows, st.length ≤ x.r.conds.length) :
    Calls Try.prog 83 #[.agg #[.slice t.va t.vars.length t.vc, .slice t.ra t.rows.length t.rc], .slice sa st.length sc] w fun z w' => ∃ v, z = .returned v ∧ w'.ownsRow w.heap.size 3 1 v (matchL t.tb st).length ((natsI (matchL t.tb st)).flatMap icell) ∧ Kept w w' := by
  have hvm := ht.vm
  have hrm := ht.rm
  have hrl := ht.rl
  unfold maxLen at hvm hrm hsm
  go_enter Try.func83, Try.ntmps83
  go_wp2
  go_loopw [5, 6] (fun s5 s6 wr => ∃ i : Nat, i ≤ t.rows.length ∧ s6 = .int .i64 (i : Int) ∧ wr.ownsRow w.heap.size 3 1 s5 (matchTo t.tb st i).length ((natsI (matchTo t.tb st i)).flatMap icell) ∧ Blk wr w.heap.size #[.slice t.va t.vars.length t.vc, .slice t.ra t.rows.length t.rc] 88 ∧ Kept w wr) (fun _ s6 _ => t.rows.length - (intOf s6).toNat)
  case atStart => exact ⟨0, Nat.zero_le _, rfl, by exact owns_nil (α := Int) (enc := icell), by (exact blk), by (exact kpt)⟩
  case round =>
    obtain ⟨i, hi, rfl, hown, r0, hkk⟩ := hrel
    have hsz := hkk.size
    have hml := matchTo_len t.tb st i
    obtain ⟨ad, cp, rfl, -⟩ := owns_row (enc := icell) (k := 1) (xs := natsI (matchTo t.tb st i)) (fun _ => rfl) (by rw [natsI_len]; exact hown)
    simp only [natsI_len] at hown ⊢
    by_cases hlt : i < t.rows.length
    · obtain ⟨rb, ro, hra, hrb, g0, g1⟩ := RowM.row (ht.rows.later hkk (Nat.le_refl _)) i hlt
      have hcnd := (ht.conds _ (List.getElem_mem hlt))
      have hcl := (ht.cl _ (List.getElem_mem hlt))
      have hel := hE _ (List.getElem_mem hlt)
      have HMS := Lib.hid (show matchTo t.tb st (i + 1) = matchTo t.tb st i ++ if hits t.rows[i].r.conds st then [i] else [] by rw [matchTo_succ, t.matchP_at st hlt])
      obtain ⟨X, hX⟩ : ∃ X, X = t.rows[i] := ⟨_, rfl⟩
      rw [← hX] at g0 g1 hcnd hcl hel HMS
      obtain ⟨⟨cs, ac⟩, ca, cc⟩ := X
      have HX := Lib.hid hX.symm
      clear hX
      simp only at g0 g1 hcnd hcl hel HMS
      have hcm := hcl.2
      unfold maxLen at hcm
      have r0c0 := r0.cell 0
      have r0f0 := r0.free 0
      have r0c1 := r0.cell 1
      have r0f1 := r0.free 1
      have r0l := r0.lt
      simp at r0c0 r0c1
      go_wp2
      go_loopw [7, 8] (fun s7 s8 wq => ∃ k : Nat, k ≤ st.length ∧ s8 = .int .i64 (k : Int) ∧ s7 = .bool (hits cs (st.take k)) ∧ wq.ownsRow w.heap.size 3 1 (.slice ad (matchTo t.tb st i).length cp) (matchTo t.tb st i).length ((natsI (matchTo t.tb st i)).flatMap icell) ∧ Blk wq w.heap.size #[.slice t.va t.vars.length t.vc, .slice t.ra t.rows.length t.rc] 88 ∧ Kept w wq) (fun _ s8 _ => st.length - (intOf s8).toNat)
      case atStart => exact ⟨0, Nat.zero_le _, rfl, by simp [hits], hown, by (exact blk), by (exact kpt)⟩
      case round =>
        clear hown r0 hsz r0c0 r0f0 r0c1 r0f1 r0l
        have hra0 := hra
        obtain ⟨k, hk, rfl, rfl, hown, r0, hkk2⟩ := hrel
        have hsz := hkk2.size
        by_cases hkt : k < st.length
        · obtain ⟨sb, so, rfl, hsb, q0⟩ := int_row (hs.later hkk2 (Nat.le_refl _)) k hkt
          obtain ⟨cb, co, rfl, hcb, c0, c1⟩ := Span.row (hcnd.later hkk2 (Nat.le_refl _)) k (by omega)
          obtain ⟨rb2, ro2, hra2, hrb2, g02, g12⟩ := RowM.row (ht.rows.later hkk2 (Nat.le_refl _)) i hlt
          rw [hra] at hra2
          simp only [Option.some.injEq, Addr.mk.injEq, and_true] at hra2
          obtain ⟨rfl, rfl⟩ := hra2
          rw [HX.out] at g02 g12
          simp only at g02 g12
          have HTK := Lib.hid (show hits cs (st.take (k + 1)) = (hits cs (st.take k) && inB st[k] (cs[k]'(by omega)).lo (cs[k]'(by omega)).hi) by
            rw [List.take_succ_eq_append_getElem hkt, hits_snoc (by rw [List.length_take]; omega)]
            simp only [List.length_take, Nat.min_eq_left (Nat.le_of_lt hkt)])
          obtain ⟨bv, hbv⟩ : ∃ x, x = hits cs (st.take k) := ⟨_, rfl⟩
          obtain ⟨y, hy⟩ : ∃ x, x = st[k] := ⟨_, rfl⟩
          obtain ⟨c, hc⟩ : ∃ x, x = cs[k]'(by omega) := ⟨_, rfl⟩
          rw [← hbv, ← hy, ← hc] at HTK
          rw [← hy] at q0
          rw [← hc] at c0 c1
          rw [← hbv]
          clear hbv hy hc g0 g1 hrb hrb2 hcnd hcl
          rw [hra]
          have x0 := fun g_ : Later wr => g_.some q0
          have x1 := fun g_ : Later wr => g_.some c0
          have x2 := fun g_ : Later wr => g_.some c1
          have x3 := fun g_ : Later wr => g_.some g02
          have x4 := fun g_ : Later wr => g_.some g12
          clear q0 c0 c1 g02 g12
          have r0c0 := fun g : Later wr => (r0.later g).cell 0
          have r0f0 := fun g : Later wr => (r0.later g).free 0
          have r0c1 := fun g : Later wr => (r0.later g).cell 1
          have r0f1 := fun g : Later wr => (r0.later g).free 1
          have r0l := fun g : Later wr => (r0.later g).lt
          simp at r0c0 r0c1
          have i0 : (0 : Int) ≤ (k : Int) := by omega
          have i1 : (k : Int) < (st.length : Int) := by omega
          have i2 : (0 : Int) ≤ (i : Int) := by omega
          have i3 : (i : Int) < (t.rows.length : Int) := by omega
          have i4 : (k : Int) < (cs.length : Int) := by omega
          cases bv
          · go_upto_region 9 with fail
            refine Later.region (by kernel_rfl) (by kernel_rfl) ?_
            repeat (first | go_big_quiet_skip | (go_big_quiet_want; go_big_quiet_op; first | go_big_quiet_on | (apply Exists.intro; refine ⟨fun g_ => ?_, ?_⟩; (focus (first | (go_at_call 53; with_reducible exact Later.call ((r_within _ _ _ _).mono fun e w' h => ⟨h.1, h.2 ▸ Below.refl _ _⟩)))); go_big_quiet_on)))
            refine wpQuiet_nil ?_
            intro gg
            have hkgg := Kept.drop hkk2 gg.ok
            go_wp2
            go_roundw
            case rel => exact ⟨k + 1, by omega, by go_num, by rw [HTK.out]; simp, owns_keep hown gg.ok, (by have := r0.later gg; rw [hra] at this; exact this), hkgg⟩
            case measure => simp [intOf]; omega
          · go_upto_region 9 with fail
            refine Later.region (by kernel_rfl) (by kernel_rfl) ?_
            repeat (first | go_big_quiet_skip | (go_big_quiet_want; go_big_quiet_op; first | go_big_quiet_on | (apply Exists.intro; refine ⟨fun g_ => ?_, ?_⟩; (focus (first | (go_at_call 53; with_reducible exact Later.call ((r_within _ _ _ _).mono fun e w' h => ⟨h.1, h.2 ▸ Below.refl _ _⟩)))); go_big_quiet_on)))
            refine wpQuiet_nil ?_
            intro gg
            have hkgg := Kept.drop hkk2 gg.ok
            go_wp2
            go_roundw
            case rel => exact ⟨k + 1, by omega, by go_num, by rw [HTK.out]; simp, owns_keep hown gg.ok, (by have := r0.later gg; rw [hra] at this; exact this), hkgg⟩
            case measure => simp [intOf]; omega
        · obtain rfl : st.length = k := by omega
          have HTK := Lib.hid (show hits cs (st.take st.length) = hits cs st by rw [List.take_length])
          obtain ⟨bv, hbv⟩ : ∃ x, x = hits cs st := ⟨_, rfl⟩
          rw [HTK.out, ← hbv]
          rw [← hbv] at HMS
          clear hbv HTK
          have r0c0 := r0.cell 0
          have r0f0 := r0.free 0
          have r0c1 := r0.cell 1
          have r0f1 := r0.free 1
          have r0l := r0.lt
          simp at r0c0 r0c1
          cases bv
          · go_wp2
            go_roundw
            case rel => exact ⟨i + 1, by omega, by go_num, by rw [HMS.out]; simpa using hown, by (exact blk), by (exact kpt)⟩
            case measure => simp [intOf]; omega
          · go_wp2_with (at_builtin; obtain ⟨i0, hi, hz0, hz1, hz2⟩ := info_parts infoIntM; refine wpList_append_own _ rfl _ _ 51 rfl (w.heap.size) 3 i0 (.int .i64 0) 1 8 Try.underlying51 hi hz0 hz1 hz2 rfl (by decide) _ _ _ rfl (hown.alloc _) ⟨_, 0, none⟩ 1 1 [.int .i64 (i : Int)] rfl rfl (cell_one_at (by simp) _ _) (fun x hx => by simp at hx; subst hx; rfl) (by unfold maxLen; omega) (by omega) (by simp only [World.size_alloc]; omega) ?_; intro v9 w9 hown9 hgrow9 hnil9; clear hi hz0 hz1 hz2)
            have hK9 : Kept w w9 := Kept.grown (by (exact kpt)) (hown.alloc _) (Nat.le_refl _) hgrow9
            have hB9 := Blk.grown (r0.alloc _) (hown.alloc _) (by decide) hgrow9
            go_roundw
            case rel => exact ⟨i + 1, by omega, by go_num, by rw [HMS.out]; simp only [if_true, natsI_snoc, List.flatMap_append, List.length_append]; exact hown9, (by first | exact hB9 | (have := hB9; rw [hra] at this; exact this)), hK9⟩
            case measure => simp [intOf]; omega
    · obtain rfl : t.rows.length = i := by omega
      have HM : matchTo t.tb st t.rows.length = matchL t.tb st := by unfold matchL; rw [t.rows_len]
      simp only [HM] at hown ⊢
      clear HM
      have r0c0 := r0.cell 0
      have r0f0 := r0.free 0
      have r0c1 := r0.cell 1
      have r0f1 := r0.free 1
      have r0l := r0.lt
      simp at r0c0 r0c1
      go_wp2
      exact bodyPost_ret (v := .slice ad (matchL t.tb st).length cp) (by simp [results, Try.results83, go_sem]) rfl ⟨_, rfl, hown, by (exact kpt)⟩

end Go.Proofs.Ytacbkbilbmkjnaa

/-
  Decision tables, checked, in the reference; tables that are great.
-/
namespace Go.Proofs.Ytacbkbilbmkjnaa
open Go.RowKit Bal Bal.Trim Bal.Mast
set_option linter.unusedVariables false
set_option linter.unusedSimpArgs false
set_option maxHeartbeats 2000000
set_option maxRecDepth 20000

def spanOk (s : Span) : Bool := spanIn s.lo s.hi (-1000) 1000
def rowOk (n : Nat) (r : Rw) : Bool := (decide (r.conds.length = n) && inB r.action 0 99) && r.conds.all spanOk
def validB (d : Tb) : Bool := ((inB (d.vars.length : Int) 1 3 && decide (d.rows.length ≤ 30)) && d.vars.all spanOk) && d.rows.all (rowOk d.vars.length)
def checkRows (d : Tb) : Int := if validB d then 0 else 76
theorem bad_check {d : Tb} (h : validB d = false) : checkRows d = 76 := by unfold checkRows; rw [h]; rfl
theorem good_check {d : Tb} (h : validB d = true) : checkRows d = 0 := by unfold checkRows; rw [h]; rfl
theorem valid_parts {d : Tb} : validB d = true ↔ inB (d.vars.length : Int) 1 3 = true ∧ d.rows.length ≤ 30 ∧ (∀ v ∈ d.vars, spanOk v = true) ∧ ∀ r ∈ d.rows, r.conds.length = d.vars.length ∧ inB r.action 0 99 = true ∧ ∀ c ∈ r.conds, spanOk c = true := by
  simp only [validB, rowOk, Bool.and_eq_true, decide_eq_true_eq, List.all_eq_true]
  constructor
  · rintro ⟨⟨⟨h1, h2⟩, h3⟩, h4⟩
    exact ⟨h1, h2, h3, fun r hr => ⟨(h4 r hr).1.1, (h4 r hr).1.2, (h4 r hr).2⟩⟩
  · rintro ⟨h1, h2, h3, h4⟩
    exact ⟨⟨⟨h1, h2⟩, h3⟩, fun r hr => ⟨⟨(h4 r hr).1, (h4 r hr).2.1⟩, (h4 r hr).2.2⟩⟩
theorem not_valid {d : Tb} (h : ¬ (validB d = true)) : checkRows d = 76 := bad_check (by simpa using h)
theorem spanOk_le {s : Span} (h : spanOk s = true) : (-1000 ≤ s.lo ∧ s.lo ≤ 1000) ∧ (-1000 ≤ s.hi ∧ s.hi ≤ 1000) ∧ s.lo ≤ s.hi := by
  unfold spanOk spanIn rng at h
  simp only [List.all_cons, List.all_nil, Bool.and_true, Bool.and_eq_true, decide_eq_true_eq, inB_iff] at h
  omega
theorem valid_even {d : Tb} (h : validB d = true) : Even d := fun r hr => ((valid_parts.1 h).2.2.2 r hr).1
theorem valid_le {d : Tb} (h : validB d = true) : ∀ v ∈ d.vars, v.lo ≤ v.hi := fun v hv => (spanOk_le ((valid_parts.1 h).2.2.1 v hv)).2.2
theorem rows_len {vs : List Span} {rs : List RowM} : (tbOf vs rs).rows.length = rs.length := by simp [tbOf]
theorem mem_rowsT {vs : List Span} {rs : List RowM} {x : RowM} (h : x ∈ rs) : x.r ∈ (tbOf vs rs).rows := List.mem_map.2 ⟨x, h, rfl⟩

theorem r_CheckRows (vs : List Span) (va : Option Addr) (vc : Nat) (rs : List RowM) (ra : Option Addr) (rc : Nat) (w : World) (ht : TabAt ⟨vs, va, vc, rs, ra, rc⟩ w) (hv : vs.length ≤ 1000000) (hr : rs.length ≤ 1000000) (hcl : ∀ x ∈ rs, x.r.conds.length ≤ 1000000) :
    Calls Try.prog 43 #[.agg #[.slice va vs.length vc, .slice ra rs.length rc]] w fun z w' => z = .returned (.int .i64 (checkRows (tbOf vs rs))) ∧ Kept w w' := by
  have htv : Row Span.cells 2 w.heap.size w va vs := ht.vars
  have htr : Row RowM.cells 2 w.heap.size w ra rs := ht.rows
  have hvm : vc ≤ maxLen := ht.vm
  have hrm : rc ≤ maxLen := ht.rm
  unfold maxLen at hvm hrm
  cases h1 : inB (vs.length : Int) 1 3
  · have H1 := Lib.hid h1
    have HB := Lib.hid (not_valid (d := (tbOf vs rs)) fun h => by have := (valid_parts.1 h).1; rw [show (tbOf vs rs).vars = vs from rfl, h1] at this; cases this)
    clear h1
    go_enter Try.func43, Try.ntmps43
    go_wp2_with (go_at_call 53; (with_reducible refine (r_within _ _ _ _).mono ?_); rw [H1.out]; rintro z w1 ⟨rfl, rfl⟩)
    exact bodyPost_ret (v := .int .i64 76) (by simp [results, Try.results43, go_sem]) rfl ⟨by rw [HB.out], by (exact kpt)⟩
  · have H1 := Lib.hid h1
    have h1b := inB_iff.1 h1
    by_cases h2 : rs.length ≤ 30
    · have l2 : ¬ (30 : Int) < (rs.length : Int) := by omega
      have HV := Lib.hid (fun (h3 : ∀ v ∈ vs, spanOk v = true) (h4 : ∀ x ∈ rs, x.r.conds.length = vs.length ∧ inB x.r.action 0 99 = true ∧ ∀ c ∈ x.r.conds, spanOk c = true) => good_check (d := (tbOf vs rs)) (valid_parts.2 ⟨h1, by rw [rows_len]; exact h2, h3, fun r hr => by obtain ⟨x, hx, rfl⟩ := List.mem_map.1 hr; exact h4 x hx⟩))
      have HNV := Lib.hid (fun (v : Span) (hv : v ∈ vs) (hb : spanOk v = false) => not_valid (d := (tbOf vs rs)) fun h => by have := (valid_parts.1 h).2.2.1 v hv; rw [hb] at this; cases this)
      have HNR := Lib.hid (fun (x : RowM) (hx : x ∈ rs) (hb : ¬ (x.r.conds.length = vs.length ∧ inB x.r.action 0 99 = true ∧ ∀ c ∈ x.r.conds, spanOk c = true)) => not_valid (d := (tbOf vs rs)) fun h => hb ((valid_parts.1 h).2.2.2 x.r (mem_rowsT hx)))
      clear h1
      go_enter Try.func43, Try.ntmps43
      go_wp2_with (go_at_call 53; (with_reducible refine (r_within _ _ _ _).mono ?_); rw [H1.out]; rintro z w1 ⟨rfl, rfl⟩)
      go_loopw [4] (fun s4 wr => ∃ i : Nat, i ≤ vs.length ∧ s4 = .int .i64 (i : Int) ∧ (∀ j (hj : j < vs.length), j < i → spanOk vs[j] = true) ∧ Blk wr w.heap.size #[.slice va vs.length vc, .slice ra rs.length rc] 88 ∧ Kept w wr) (fun s4 _ => vs.length - (intOf s4).toNat)
      case atStart => exact ⟨0, Nat.zero_le _, rfl, fun j hj h => absurd h (Nat.not_lt_zero _), by (exact blk), by (exact kpt)⟩
      case round =>
        obtain ⟨i, hi, rfl, hok, r0, hkk⟩ := hrel
        by_cases hlt : i < vs.length
        · obtain ⟨vb, vo, rfl, hvb, c0, c1⟩ := Span.row (htv.later hkk (Nat.le_refl _)) i hlt
          have HI := Lib.hid hok
          have HBD := Lib.hid (HNV.out _ (List.getElem_mem hlt))
          have HNX := Lib.hid (fun (h : spanOk vs[i] = true) => (fun j hj hj2 => by
            rcases Nat.lt_or_ge j i with h3 | h3
            · exact HI.out j hj h3
            · obtain rfl : j = i := by omega
              exact h : ∀ j (hj : j < vs.length), j < i + 1 → spanOk vs[j] = true))
          obtain ⟨c, hc⟩ : ∃ c, c = vs[i] := ⟨_, rfl⟩
          rw [← hc] at c0 c1 HBD HNX
          clear hc hok
          have i0 : (0 : Int) ≤ (i : Int) := by omega
          have i1 : (i : Int) < (vs.length : Int) := by omega
          have r0c0 := r0.cell 0
          have r0f0 := r0.free 0
          have r0c1 := r0.cell 1
          have r0f1 := r0.free 1
          have r0l := r0.lt
          simp at r0c0 r0c1
          cases hs : spanOk c
          · have HS := Lib.hid (show spanIn c.lo c.hi (-1000) 1000 = false from hs)
            have HB := Lib.hid (HBD.out hs)
            clear HBD HNX hs
            go_wp2_with (go_at_call 91; (with_reducible refine (r_spanned _ _ _ _ _).mono ?_); rw [HS.out]; rintro z w1 ⟨rfl, hb1⟩; refine Blk.thru (b := w.heap.size) (arr := ?_) (t := ?_) ?_ hb1 ?_; rotate_left 2; (focus (exact blk)); intro r0; have r0c0 := r0.cell 0; have r0f0 := r0.free 0; have r0c1 := r0.cell 1; have r0f1 := r0.free 1; have r0l := r0.lt; simp at r0c0 r0c1)
            exact bodyPost_ret (v := .int .i64 76) (by simp [results, Try.results43, go_sem]) rfl ⟨by rw [HB.out], by (exact kpt)⟩
          · have HS := Lib.hid (show spanIn c.lo c.hi (-1000) 1000 = true from hs)
            have HB := Lib.hid (HNX.out hs)
            clear HBD HNX hs
            go_wp2_with (go_at_call 91; (with_reducible refine (r_spanned _ _ _ _ _).mono ?_); rw [HS.out]; rintro z w1 ⟨rfl, hb1⟩; refine Blk.thru (b := w.heap.size) (arr := ?_) (t := ?_) ?_ hb1 ?_; rotate_left 2; (focus (exact blk)); intro r0; have r0c0 := r0.cell 0; have r0f0 := r0.free 0; have r0c1 := r0.cell 1; have r0f1 := r0.free 1; have r0l := r0.lt; simp at r0c0 r0c1)
            go_roundw
            case rel => exact ⟨i + 1, by omega, by go_num, HB.out, r0, by (exact kpt)⟩
            case measure => simp [intOf]; omega
        · obtain rfl : vs.length = i := by omega
          have HI := Lib.hid (fun v hv => by obtain ⟨j, hj, rfl⟩ := List.mem_iff_getElem.1 hv; exact hok j hj hj : ∀ v ∈ vs, spanOk v = true)
          have HV2 := Lib.hid (HV.out HI.out)
          clear hok HV
          have r0c0 := r0.cell 0
          have r0f0 := r0.free 0
          have r0c1 := r0.cell 1
          have r0f1 := r0.free 1
          have r0l := r0.lt
          simp at r0c0 r0c1
          go_wp2
          go_loopw [5] (fun s5 wq => ∃ i : Nat, i ≤ rs.length ∧ s5 = .int .i64 (i : Int) ∧ (∀ j (hj : j < rs.length), j < i → rs[j].r.conds.length = vs.length ∧ inB rs[j].r.action 0 99 = true ∧ ∀ c ∈ rs[j].r.conds, spanOk c = true) ∧ Blk wq w.heap.size #[.slice va vs.length vc, .slice ra rs.length rc] 88 ∧ Kept w wq) (fun s5 _ => rs.length - (intOf s5).toNat)
          case atStart => exact ⟨0, Nat.zero_le _, rfl, fun j hj h => absurd h (Nat.not_lt_zero _), by (exact blk), by (exact kpt)⟩
          case round =>
            clear r0 hkk r0c0 r0f0 r0c1 r0f1 r0l
            obtain ⟨i, hi, rfl, hok, r0, hkk⟩ := hrel
            have r0c0 := r0.cell 0
            have r0f0 := r0.free 0
            have r0c1 := r0.cell 1
            have r0f1 := r0.free 1
            have r0l := r0.lt
            simp at r0c0 r0c1
            by_cases hlt : i < rs.length
            · obtain ⟨rb, ro, rfl, hrb, g0, g1⟩ := RowM.row (htr.later hkk (Nat.le_refl _)) i hlt
              have hcnd : Row Span.cells 2 w.heap.size w rs[i].ad rs[i].r.conds := ht.conds _ (List.getElem_mem hlt)
              have hcl1 : rs[i].r.conds.length ≤ rs[i].cap := (ht.cl _ (List.getElem_mem hlt)).1
              have hcl2 : rs[i].cap ≤ maxLen := (ht.cl _ (List.getElem_mem hlt)).2
              have hcl3 := hcl _ (List.getElem_mem hlt)
              have HI := Lib.hid hok
              have HBD := Lib.hid (HNR.out _ (List.getElem_mem hlt))
              have HNX := Lib.hid (fun (h : rs[i].r.conds.length = vs.length ∧ inB rs[i].r.action 0 99 = true ∧ ∀ c ∈ rs[i].r.conds, spanOk c = true) => (fun j hj hj2 => by
                rcases Nat.lt_or_ge j i with h3 | h3
                · exact HI.out j hj h3
                · obtain rfl : j = i := by omega
                  exact h : ∀ j (hj : j < rs.length), j < i + 1 → rs[j].r.conds.length = vs.length ∧ inB rs[j].r.action 0 99 = true ∧ ∀ c ∈ rs[j].r.conds, spanOk c = true))
              have HGT := Lib.hid (fun (W : World) (hW : Kept w W) => RowM.row (htr.later hW (Nat.le_refl _)) i hlt)
              obtain ⟨X, hX⟩ : ∃ X, X = rs[i] := ⟨_, rfl⟩
              rw [← hX] at g0 g1 hcnd hcl1 hcl2 hcl3 HBD HNX HGT
              clear hX hok
              obtain ⟨⟨cs, ac⟩, ca, cc⟩ := X
              simp only at g0 g1 hcnd hcl1 hcl2 hcl3 HBD HNX HGT
              unfold maxLen at hcl2
              have i0 : (0 : Int) ≤ (i : Int) := by omega
              have i1 : (i : Int) < (rs.length : Int) := by omega
              by_cases hn : cs.length = vs.length
              · have e1 : ((cs.length : Int) != (vs.length : Int)) = false := by simp [hn]
                cases ha : inB ac 0 99
                · have HA := Lib.hid ha
                  have HB := Lib.hid (HBD.out (fun h => by rw [ha] at h; cases h.2.1))
                  clear HBD HNX ha hn
                  go_wp2_with (go_at_call 53; (with_reducible refine (r_within _ _ _ _).mono ?_); rw [HA.out]; rintro z w1 ⟨rfl, rfl⟩)
                  exact bodyPost_ret (v := .int .i64 76) (by simp [results, Try.results43, go_sem]) rfl ⟨by rw [HB.out], by (exact kpt)⟩
                · have HA := Lib.hid ha
                  have HN := Lib.hid hn
                  clear ha hn
                  go_wp2_with (go_at_call 53; (with_reducible refine (r_within _ _ _ _).mono ?_); rw [HA.out]; rintro z w1 ⟨rfl, rfl⟩)
                  go_loopw [6] (fun s6 wq => ∃ k : Nat, k ≤ vs.length ∧ s6 = .int .i64 (k : Int) ∧ (∀ j (hj : j < cs.length), j < k → spanOk cs[j] = true) ∧ Blk wq w.heap.size #[.slice va vs.length vc, .slice (some ⟨rb, ro, none⟩) rs.length rc] 88 ∧ Kept w wq) (fun s6 _ => vs.length - (intOf s6).toNat)
                  case atStart => exact ⟨0, Nat.zero_le _, rfl, fun j hj h => absurd h (Nat.not_lt_zero _), by (exact blk), by (exact kpt)⟩
                  case round =>
                    clear r0 hkk g0 g1 r0c0 r0f0 r0c1 r0f1 r0l
                    obtain ⟨k, hk, rfl, hok3, r0, hkk⟩ := hrel
                    have r0c0 := r0.cell 0
                    have r0f0 := r0.free 0
                    have r0c1 := r0.cell 1
                    have r0f1 := r0.free 1
                    have r0l := r0.lt
                    simp at r0c0 r0c1
                    by_cases hkt : k < vs.length
                    · have hkc : k < cs.length := by rw [HN.out]; exact hkt
                      obtain ⟨cb, co, rfl, hcb, c0, c1⟩ := Span.row (hcnd.later hkk (Nat.le_refl _)) k hkc
                      obtain ⟨rb2, ro2, hra2, hrb2, g02, g12⟩ := HGT.out _ hkk
                      simp only [Option.some.injEq, Addr.mk.injEq, and_true] at hra2
                      obtain ⟨rfl, rfl⟩ := hra2
                      have HI3 := Lib.hid hok3
                      have HMC := Lib.hid (List.getElem_mem hkc)
                      have HN3 := Lib.hid (fun (h : spanOk cs[k] = true) => (fun j hj hj2 => by
                        rcases Nat.lt_or_ge j k with h3 | h3
                        · exact HI3.out j hj h3
                        · obtain rfl : j = k := by omega
                          exact h : ∀ j (hj : j < cs.length), j < k + 1 → spanOk cs[j] = true))
                      obtain ⟨c, hc⟩ : ∃ c, c = cs[k] := ⟨_, rfl⟩
                      rw [← hc] at c0 c1 HN3 HMC
                      clear hc hok3
                      have i2 : (0 : Int) ≤ (k : Int) := by omega
                      have i3 : (k : Int) < (cs.length : Int) := by omega
                      cases hs : spanOk c
                      · have HS := Lib.hid (show spanIn c.lo c.hi (-1000) 1000 = false from hs)
                        have HB := Lib.hid (HBD.out (fun h => by rw [h.2.2 c HMC.out] at hs; cases hs))
                        clear HBD HNX hs
                        go_wp2_with (go_at_call 91; (with_reducible refine (r_spanned _ _ _ _ _).mono ?_); rw [HS.out]; rintro z w1 ⟨rfl, hb1⟩; refine Blk.thru (b := w.heap.size) (arr := ?_) (t := ?_) ?_ hb1 ?_; rotate_left 2; (focus (exact blk)); intro r0; have r0c0 := r0.cell 0; have r0f0 := r0.free 0; have r0c1 := r0.cell 1; have r0f1 := r0.free 1; have r0l := r0.lt; simp at r0c0 r0c1)
                        exact bodyPost_ret (v := .int .i64 76) (by simp [results, Try.results43, go_sem]) rfl ⟨by rw [HB.out], by (exact kpt)⟩
                      · have HS := Lib.hid (show spanIn c.lo c.hi (-1000) 1000 = true from hs)
                        have HB := Lib.hid (HN3.out hs)
                        clear HBD HNX hs
                        go_wp2_with (go_at_call 91; (with_reducible refine (r_spanned _ _ _ _ _).mono ?_); rw [HS.out]; rintro z w1 ⟨rfl, hb1⟩; refine Blk.thru (b := w.heap.size) (arr := ?_) (t := ?_) ?_ hb1 ?_; rotate_left 2; (focus (exact blk)); intro r0; have r0c0 := r0.cell 0; have r0f0 := r0.free 0; have r0c1 := r0.cell 1; have r0f1 := r0.free 1; have r0l := r0.lt; simp at r0c0 r0c1)
                        go_roundw
                        case rel => exact ⟨k + 1, by omega, by go_num, HB.out, r0, by (exact kpt)⟩
                        case measure => simp [intOf]; omega
                    · obtain rfl : vs.length = k := by omega
                      have HB := Lib.hid (HNX.out ⟨HN.out, HA.out, fun c hc => by obtain ⟨j, hj, rfl⟩ := List.mem_iff_getElem.1 hc; exact hok3 j hj (by rw [← HN.out]; exact hj)⟩)
                      clear HBD HNX hok3
                      go_wp2
                      go_roundw
                      case rel => exact ⟨i + 1, by omega, by go_num, HB.out, r0, by (exact kpt)⟩
                      case measure => simp [intOf]; omega
              · have e1 : ((cs.length : Int) != (vs.length : Int)) = true := by simp; omega
                have HB := Lib.hid (HBD.out (fun h => hn h.1))
                clear HBD HNX hn
                go_wp2
                exact bodyPost_ret (v := .int .i64 76) (by simp [results, Try.results43, go_sem]) rfl ⟨by rw [HB.out], by (exact kpt)⟩
            · obtain rfl : rs.length = i := by omega
              have HB := Lib.hid (HV2.out (fun x hx => by obtain ⟨j, hj, rfl⟩ := List.mem_iff_getElem.1 hx; exact hok j hj hj))
              clear hok
              go_wp2
              exact bodyPost_ret (v := .int .i64 0) (by simp [results, Try.results43, go_sem]) rfl ⟨by rw [HB.out], by (exact kpt)⟩
    · have l2 : (30 : Int) < (rs.length : Int) := by omega
      have HB := Lib.hid (not_valid (d := (tbOf vs rs)) fun h => by have := (valid_parts.1 h).2.1; rw [rows_len] at this; omega)
      clear h1
      go_enter Try.func43, Try.ntmps43
      go_wp2_with (go_at_call 53; (with_reducible refine (r_within _ _ _ _).mono ?_); rw [H1.out]; rintro z w1 ⟨rfl, rfl⟩)
      exact bodyPost_ret (v := .int .i64 76) (by simp [results, Try.results43, go_sem]) rfl ⟨by rw [HB.out], by (exact kpt)⟩

def greatR (d : Tb) : Bool := (decide (5 < d.vars.length) || decide (35 < d.rows.length)) || (d.rows.any (fun r => decide (10 < r.conds.length)) || (decide (d.vars.length = 3) && inB (d.rows.length : Int) 13 30))
theorem r_GreatRows (vs : List Span) (va : Option Addr) (vc : Nat) (rs : List RowM) (ra : Option Addr) (rc : Nat) (w : World) (ht : TabAt ⟨vs, va, vc, rs, ra, rc⟩ w) :
    Calls Try.prog 35 #[.agg #[.slice va vs.length vc, .slice ra rs.length rc]] w fun z w' => z = .returned (.bool (greatR (tbOf vs rs))) ∧ Kept w w' := by
  have htr : Row RowM.cells 2 w.heap.size w ra rs := ht.rows
  have hvm : vc ≤ maxLen := ht.vm
  have hrm : rc ≤ maxLen := ht.rm
  have hvl : vs.length ≤ vc := ht.vl
  have hrl : rs.length ≤ rc := ht.rl
  unfold maxLen at hvm hrm
  by_cases h1 : 5 < vs.length
  · have l1 : (5 : Int) < (vs.length : Int) := by omega
    have HB := Lib.hid (show greatR (tbOf vs rs) = true by unfold greatR; rw [show (tbOf vs rs).vars = vs from rfl]; simp [h1])
    clear h1
    go_enter Try.func35, Try.ntmps35
    go_wp2
    exact bodyPost_ret (v := .bool true) (by simp [results, Try.results35, go_sem]) rfl ⟨by rw [HB.out], by (exact kpt)⟩
  by_cases h2 : 35 < rs.length
  · have l1 : ¬ (5 : Int) < (vs.length : Int) := by omega
    have l2 : (35 : Int) < (rs.length : Int) := by omega
    have HB := Lib.hid (show greatR (tbOf vs rs) = true by unfold greatR; rw [rows_len]; simp [h2])
    clear h1 h2
    go_enter Try.func35, Try.ntmps35
    go_wp2
    exact bodyPost_ret (v := .bool true) (by simp [results, Try.results35, go_sem]) rfl ⟨by rw [HB.out], by (exact kpt)⟩
  have l1 : ¬ (5 : Int) < (vs.length : Int) := by omega
  have l2 : ¬ (35 : Int) < (rs.length : Int) := by omega
  have HBT := Lib.hid (fun (x : RowM) (hx : x ∈ rs) (h : 10 < x.r.conds.length) => (by
    unfold greatR
    rw [show (tbOf vs rs).rows.any (fun r => decide (10 < r.conds.length)) = true from List.any_eq_true.2 ⟨x.r, mem_rowsT hx, decide_eq_true h⟩]
    simp : greatR (tbOf vs rs) = true))
  have HBF := Lib.hid (fun (h : ∀ x ∈ rs, ¬ 10 < x.r.conds.length) => (by
    unfold greatR
    rw [show (tbOf vs rs).rows.any (fun r => decide (10 < r.conds.length)) = false from by
      rw [List.any_eq_false]; intro r hr; obtain ⟨x, hx, rfl⟩ := List.mem_map.1 hr; simpa using h x hx, rows_len, show (tbOf vs rs).vars = vs from rfl, decide_eq_false h1, decide_eq_false h2]
    simp : greatR (tbOf vs rs) = (decide (vs.length = 3) && inB (rs.length : Int) 13 30)))
  clear h1 h2
  go_enter Try.func35, Try.ntmps35
  go_wp2
  go_loopw [3] (fun s3 wr => ∃ i : Nat, i ≤ rs.length ∧ s3 = .int .i64 (i : Int) ∧ (∀ j (hj : j < rs.length), j < i → ¬ 10 < rs[j].r.conds.length) ∧ Blk wr w.heap.size #[.slice va vs.length vc, .slice ra rs.length rc] 88 ∧ Kept w wr) (fun s3 _ => rs.length - (intOf s3).toNat)
  case atStart => exact ⟨0, Nat.zero_le _, rfl, fun j hj h => absurd h (Nat.not_lt_zero _), by (exact blk), by (exact kpt)⟩
  case round =>
    obtain ⟨i, hi, rfl, hok, r0, hkk⟩ := hrel
    have r0c0 := r0.cell 0
    have r0f0 := r0.free 0
    have r0c1 := r0.cell 1
    have r0f1 := r0.free 1
    have r0l := r0.lt
    simp at r0c0 r0c1
    by_cases hlt : i < rs.length
    · obtain ⟨rb, ro, rfl, hrb, g0, g1⟩ := RowM.row (htr.later hkk (Nat.le_refl _)) i hlt
      have HI := Lib.hid hok
      have HBD := Lib.hid (HBT.out _ (List.getElem_mem hlt))
      have HNX := Lib.hid (fun (h : ¬ 10 < rs[i].r.conds.length) => (fun j hj hj2 => by
        rcases Nat.lt_or_ge j i with h3 | h3
        · exact HI.out j hj h3
        · obtain rfl : j = i := by omega
          exact h : ∀ j (hj : j < rs.length), j < i + 1 → ¬ 10 < rs[j].r.conds.length))
      have hcl1 : rs[i].r.conds.length ≤ rs[i].cap := (ht.cl _ (List.getElem_mem hlt)).1
      have hcl2 : rs[i].cap ≤ maxLen := (ht.cl _ (List.getElem_mem hlt)).2
      obtain ⟨X, hX⟩ : ∃ X, X = rs[i] := ⟨_, rfl⟩
      rw [← hX] at g0 g1 HBD HNX hcl1 hcl2
      clear hX hok
      obtain ⟨⟨cs, ac⟩, ca, cc⟩ := X
      simp only at g0 g1 HBD HNX hcl1 hcl2
      unfold maxLen at hcl2
      have i0 : (0 : Int) ≤ (i : Int) := by omega
      have i1 : (i : Int) < (rs.length : Int) := by omega
      by_cases hn : 10 < cs.length
      · have l3 : (10 : Int) < (cs.length : Int) := by omega
        have HB := Lib.hid (HBD.out hn)
        clear HBD HNX hn
        go_wp2
        exact bodyPost_ret (v := .bool true) (by simp [results, Try.results35, go_sem]) rfl ⟨by rw [HB.out], by (exact kpt)⟩
      · have l3 : ¬ (10 : Int) < (cs.length : Int) := by omega
        have HB := Lib.hid (HNX.out hn)
        clear HBD HNX hn
        go_wp2
        go_roundw
        case rel => exact ⟨i + 1, by omega, by go_num, HB.out, r0, by (exact kpt)⟩
        case measure => simp [intOf]; omega
    · obtain rfl : rs.length = i := by omega
      have HB := Lib.hid (HBF.out (fun x hx => by obtain ⟨j, hj, rfl⟩ := List.mem_iff_getElem.1 hx; exact hok j hj hj))
      clear hok
      by_cases h3 : vs.length = 3
      · have e1 : ((vs.length : Int) == 3) = true := by simp; omega
        obtain ⟨z, hz⟩ : ∃ z, z = inB (rs.length : Int) 13 30 := ⟨_, rfl⟩
        have HZ := Lib.hid hz.symm
        have HB2 := Lib.hid (show greatR (tbOf vs rs) = z by rw [HB.out, hz, decide_eq_true h3]; rfl)
        clear h3 hz
        go_wp2_with (go_at_call 53; (with_reducible refine (r_within _ _ _ _).mono ?_); rw [HZ.out]; rintro z w1 ⟨rfl, rfl⟩)
        exact bodyPost_ret (v := .bool z) (by simp [results, Try.results35, go_sem]) rfl ⟨by rw [HB2.out], by (exact kpt)⟩
      · have e1 : ((vs.length : Int) == 3) = false := by simp; omega
        have HB2 := Lib.hid (show greatR (tbOf vs rs) = false by rw [HB.out, decide_eq_false h3]; rfl)
        clear h3
        go_wp2
        exact bodyPost_ret (v := .bool false) (by simp [results, Try.results35, go_sem]) rfl ⟨by rw [HB2.out], by (exact kpt)⟩

end Go.Proofs.Ytacbkbilbmkjnaa

/-
  The values that the reference tries.
-/
namespace Go.Proofs.Ytacbkbilbmkjnaa
open Go.RowKit Bal Bal.Trim Bal.Mast
set_option linter.unusedVariables false
set_option linter.unusedSimpArgs false
set_option maxHeartbeats 2000000
set_option maxRecDepth 20000

theorem i64_inM {n : Int} (h : -9223372036854775808 ≤ n ∧ n ≤ 9223372036854775807) : IntKind.i64.wrap n = n := by rw [IntKind.wrap_i64]; first | omega | (unfold wrap64; omega)
def hitRow (k : Nat) (n : Int) (r : Rw) : Bool := match r.conds[k]? with | some c => decide (c.lo = n) || decide (c.hi + 1 = n) | none => false
theorem isStart_rows {vs : List Span} {rs : List RowM} {k : Nat} {n : Int} (hk : k < vs.length) : isStart (tbOf vs rs) k n = (decide (n = vs[k].lo) || rs.any (fun x => hitRow k n x.r)) := by
  unfold isStart
  rw [show (tbOf vs rs).vars = vs from rfl, List.getElem?_eq_getElem hk, show (tbOf vs rs).rows = rs.map RowM.r from rfl, List.any_map]
  rfl
theorem startsTo_succ {d : Tb} {k : Nat} (hk : k < d.vars.length) (m : Nat) : startsTo d k (m + 1) = startsTo d k m ++ if isStart d k (d.vars[k].lo + (m : Int)) then [d.vars[k].lo + (m : Int)] else [] := by
  unfold startsTo
  rw [List.getElem?_eq_getElem hk]
  simp only [List.range_succ, List.map_append, List.filter_append, List.map_cons, List.map_nil]
  congr 1
  cases h : isStart d k (d.vars[k].lo + (m : Int)) <;> simp [h]
theorem startsTo_len (d : Tb) (k m : Nat) : (startsTo d k m).length ≤ m := by
  unfold startsTo
  split
  · refine Nat.le_trans (List.length_filter_le _ _) ?_
    simp
  · simp
theorem any_take_succ {α : Type} {l : List α} {f : α → Bool} {j : Nat} (h : j < l.length) : (l.take (j + 1)).any f = ((l.take j).any f || f l[j]) := by
  rw [List.take_succ_eq_append_getElem h, List.any_append]; simp

theorem r_starts (vs : List Span) (va : Option Addr) (vc : Nat) (rs : List RowM) (ra : Option Addr) (rc : Nat) (w : World) (ht : TabAt ⟨vs, va, vc, rs, ra, rc⟩ w) (hr : rs.length ≤ 1000) (k : Nat) (hk : k < vs.length) (hcl : ∀ x ∈ rs, k < x.r.conds.length) (hbv : (-1000 ≤ vs[k].lo ∧ vs[k].lo ≤ 1000) ∧ -1000 ≤ vs[k].hi ∧ vs[k].hi ≤ 1000) (hbc : ∀ x ∈ rs, ∀ c ∈ x.r.conds, -1000 ≤ c.hi ∧ c.hi ≤ 1000) :
    Calls Try.prog 123 #[.agg #[.slice va vs.length vc, .slice ra rs.length rc], .int .i64 (k : Int)] w fun z w' => ∃ v, z = .returned v ∧ w'.ownsRow w.heap.size 3 1 v (starts (tbOf vs rs) k).length ((starts (tbOf vs rs) k).flatMap icell) ∧ Kept w w' := by
  have htv : Row Span.cells 2 w.heap.size w va vs := ht.vars
  have htr : Row RowM.cells 2 w.heap.size w ra rs := ht.rows
  have hvm : vc ≤ maxLen := ht.vm
  have hrm : rc ≤ maxLen := ht.rm
  have hvl : vs.length ≤ vc := ht.vl
  have hrl : rs.length ≤ rc := ht.rl
  unfold maxLen at hvm hrm
  have HSS := Lib.hid (fun m => by have := startsTo_succ (d := tbOf vs rs) hk m; rw [isStart_rows hk] at this; exact this : ∀ m, startsTo (tbOf vs rs) k (m + 1) = startsTo (tbOf vs rs) k m ++ if (decide (vs[k].lo + (m : Int) = vs[k].lo) || rs.any (fun x => hitRow k (vs[k].lo + (m : Int)) x.r)) then [vs[k].lo + (m : Int)] else [])
  have HSA := Lib.hid (show startsTo (tbOf vs rs) k (vs[k].hi - vs[k].lo + 1).toNat = starts (tbOf vs rs) k by unfold starts; rw [show (tbOf vs rs).vars = vs from rfl, List.getElem?_eq_getElem hk])
  have HVR := Lib.hid (fun (W : World) (hW : Kept w W) => Span.row (htv.later hW (Nat.le_refl _)) k hk)
  obtain ⟨vb, vo, rfl, hvb, -, -⟩ := Span.row htv k hk
  have HVC := Lib.hid (fun (W : World) (hW : Kept w W) => (by
    obtain ⟨b, o, e, _, q0, q1⟩ := HVR.out W hW
    simp only [Option.some.injEq, Addr.mk.injEq, and_true] at e
    obtain ⟨rfl, rfl⟩ := e
    exact ⟨q0, q1⟩ : W.cell? ⟨vb, vo + k * 2, none⟩ = some (.int .i64 vs[k].lo) ∧ W.cell? ⟨vb, vo + k * 2 + 1, none⟩ = some (.int .i64 vs[k].hi)))
  clear HVR
  obtain ⟨lo, hlo⟩ : ∃ x, x = vs[k].lo := ⟨_, rfl⟩
  obtain ⟨hi, hhi⟩ : ∃ x, x = vs[k].hi := ⟨_, rfl⟩
  rw [← hlo, ← hhi] at hbv HVC HSA
  simp only [← hlo] at HSS
  clear hlo hhi
  obtain ⟨N, hN⟩ : ∃ N, N = (hi - lo + 1).toNat := ⟨_, rfl⟩
  rw [← hN] at HSA
  have hN1 : N ≤ 2001 := by omega
  have HN := Lib.hid (fun m : Nat => (show m < N ↔ lo + (m : Int) ≤ hi by omega))
  clear hN
  have k0 : (0 : Int) ≤ (k : Int) := by omega
  have k1 : (k : Int) < (vs.length : Int) := by omega
  obtain ⟨v0, v1⟩ := HVC.out w (Below.refl _ _)
  have v0f := fun (W : World) (hW : Kept w W) => (HVC.out W hW).1
  go_enter Try.func123, Try.ntmps123
  go_wp2
  clear v0 v1
  go_loopw [5, 6] (fun s5 s6 wr => ∃ m : Nat, m ≤ N ∧ s6 = .int .i64 (lo + (m : Int)) ∧ wr.ownsRow w.heap.size 3 1 s5 (startsTo (tbOf vs rs) k m).length ((startsTo (tbOf vs rs) k m).flatMap icell) ∧ Blk wr w.heap.size #[.slice (some ⟨vb, vo, none⟩) vs.length vc, .slice ra rs.length rc] 88 ∧ Kept w wr) (fun _ s6 _ => (hi + 1 - intOf s6).toNat)
  case atStart => exact ⟨0, Nat.zero_le _, by simp, by rw [show startsTo (tbOf vs rs) k 0 = [] by unfold startsTo; split <;> rfl]; exact owns_nil (α := Int) (enc := icell), by (exact blk), by (exact kpt)⟩
  case round =>
    clear v0f
    obtain ⟨m, hm, rfl, hown, r0, hkk⟩ := hrel
    have hsz := hkk.size
    have hml := startsTo_len (tbOf vs rs) k m
    obtain ⟨ad, cp, rfl, -⟩ := owns_row (enc := icell) (k := 1) (xs := startsTo (tbOf vs rs) k m) (fun _ => rfl) hown
    obtain ⟨v0, v1⟩ := HVC.out wr hkk
    have r0c0 := r0.cell 0
    have r0f0 := r0.free 0
    have r0c1 := r0.cell 1
    have r0f1 := r0.free 1
    have r0l := r0.lt
    simp at r0c0 r0c1
    by_cases hmt : m < N
    · have u1 : lo + (m : Int) ≤ hi := (HN.out m).1 hmt
      have HS1 := Lib.hid (HSS.out m)
      have hm1 : m + 1 ≤ N := by omega
      obtain ⟨x, hx⟩ : ∃ x : Int, x = lo + (m : Int) := ⟨_, rfl⟩
      rw [← hx] at HS1 u1 ⊢
      have HX := Lib.hid hx
      have hxb : -1000 ≤ x ∧ x ≤ 1000 := by omega
      clear hx hmt
      go_wp2
      go_loopw [7, 8] (fun s7 s8 wq => ∃ j : Nat, j ≤ rs.length ∧ s8 = .int .i64 (j : Int) ∧ s7 = .bool (decide (x = lo) || (rs.take j).any (fun y => hitRow k x y.r)) ∧ wq.ownsRow w.heap.size 3 1 (.slice ad (startsTo (tbOf vs rs) k m).length cp) (startsTo (tbOf vs rs) k m).length ((startsTo (tbOf vs rs) k m).flatMap icell) ∧ Blk wq w.heap.size #[.slice (some ⟨vb, vo, none⟩) vs.length vc, .slice ra rs.length rc] 88 ∧ Kept w wq) (fun _ s8 _ => rs.length - (intOf s8).toNat)
      case atStart => exact ⟨0, Nat.zero_le _, rfl, (by first | (simp; done) | (simp; rfl) | rfl), hown, by (exact blk), by (exact kpt)⟩
      case round =>
        clear hown r0 hsz v0 v1 hkk r0c0 r0f0 r0c1 r0f1 r0l
        obtain ⟨j, hj, rfl, rfl, hown, r0, hkk⟩ := hrel
        have hsz := hkk.size
        have r0c0 := r0.cell 0
        have r0f0 := r0.free 0
        have r0c1 := r0.cell 1
        have r0f1 := r0.free 1
        have r0l := r0.lt
        simp at r0c0 r0c1
        by_cases hjt : j < rs.length
        · obtain ⟨rb, ro, rfl, hrb, g0, g1⟩ := RowM.row (htr.later hkk (Nat.le_refl _)) j hjt
          have hcnd : Row Span.cells 2 w.heap.size w rs[j].ad rs[j].r.conds := ht.conds _ (List.getElem_mem hjt)
          have hc1 : k < rs[j].r.conds.length := hcl _ (List.getElem_mem hjt)
          have hc2 := hbc _ (List.getElem_mem hjt)
          have hc3 : rs[j].r.conds.length ≤ rs[j].cap := (ht.cl _ (List.getElem_mem hjt)).1
          have hc4 : rs[j].cap ≤ maxLen := (ht.cl _ (List.getElem_mem hjt)).2
          have HTK := Lib.hid (any_take_succ (f := fun y : RowM => hitRow k x y.r) hjt)
          obtain ⟨X, hX⟩ : ∃ X, X = rs[j] := ⟨_, rfl⟩
          rw [← hX] at g0 g1 hcnd hc1 hc2 hc3 hc4 HTK
          clear hX
          obtain ⟨⟨cs, ac⟩, ca, cc⟩ := X
          simp only at g0 g1 hcnd hc1 hc2 hc3 hc4 HTK
          unfold maxLen at hc4
          obtain ⟨cb, co, rfl, hcb, c0, c1⟩ := Span.row (hcnd.later hkk (Nat.le_refl _)) k hc1
          have hch := hc2 _ (List.getElem_mem hc1)
          have HHR := Lib.hid (show hitRow k x ⟨cs, ac⟩ = (decide (cs[k].lo = x) || decide (cs[k].hi + 1 = x)) by unfold hitRow; rw [List.getElem?_eq_getElem hc1])
          obtain ⟨c, hc⟩ : ∃ c, c = cs[k] := ⟨_, rfl⟩
          rw [← hc] at c0 c1 hch HHR
          obtain ⟨bv, hbv0⟩ : ∃ b, b = (rs.take j).any (fun y => hitRow k x y.r) := ⟨_, rfl⟩
          rw [← hbv0] at HTK ⊢
          have HC := Lib.hid (show (decide (x = lo) || (rs.take (j + 1)).any (fun y => hitRow k x y.r)) = ((decide (x = lo) || bv) || (decide (c.lo = x) || decide (c.hi + 1 = x))) by rw [HTK.out, HHR.out]; cases bv <;> cases decide (x = lo) <;> rfl)
          clear hbv0 hc HTK HHR hc2
          obtain ⟨b, hb⟩ : ∃ b, b = (decide (x = lo) || bv) := ⟨_, rfl⟩
          rw [← hb] at HC ⊢
          clear hb
          have i0 : (0 : Int) ≤ (j : Int) := by omega
          have i1 : (j : Int) < (rs.length : Int) := by omega
          have i2 : (k : Int) < (cs.length : Int) := by omega
          have w1 := i64_inM (n := c.hi + 1) (by omega)
          cases b
          · by_cases e1 : c.lo = x
            · have e2 : (c.lo == x) = true := by simp [e1]
              have HC2 := Lib.hid (show (decide (x = lo) || (rs.take (j + 1)).any (fun y => hitRow k x y.r)) = true by rw [HC.out, decide_eq_true e1]; rfl)
              clear e1 HC
              go_wp2
              go_roundw
              case rel => exact ⟨j + 1, by omega, by go_num, by rw [HC2.out], hown, r0, hkk⟩
              case measure => simp [intOf]; omega
            · have e2 : (c.lo == x) = false := by simp [e1]
              by_cases e3 : c.hi + 1 = x
              · have e4 : (c.hi + 1 == x) = true := by simp [e3]
                have HC2 := Lib.hid (show (decide (x = lo) || (rs.take (j + 1)).any (fun y => hitRow k x y.r)) = true by rw [HC.out, decide_eq_true e3]; simp)
                clear e1 e3 HC
                go_wp2
                go_roundw
                case rel => exact ⟨j + 1, by omega, by go_num, by rw [HC2.out], hown, r0, hkk⟩
                case measure => simp [intOf]; omega
              · have e4 : (c.hi + 1 == x) = false := by simp [e3]
                have HC2 := Lib.hid (show (decide (x = lo) || (rs.take (j + 1)).any (fun y => hitRow k x y.r)) = false by rw [HC.out, decide_eq_false e1, decide_eq_false e3]; rfl)
                clear e1 e3 HC
                go_wp2
                go_roundw
                case rel => exact ⟨j + 1, by omega, by go_num, by rw [HC2.out], hown, r0, hkk⟩
                case measure => simp [intOf]; omega
          · have HC2 := Lib.hid (show (decide (x = lo) || (rs.take (j + 1)).any (fun y => hitRow k x y.r)) = true by rw [HC.out]; rfl)
            clear HC
            go_wp2
            go_roundw
            case rel => exact ⟨j + 1, by omega, by go_num, by rw [HC2.out], hown, r0, hkk⟩
            case measure => simp [intOf]; omega
        · obtain rfl : rs.length = j := by omega
          rw [List.take_length]
          obtain ⟨b, hb⟩ : ∃ b, b = (decide (x = lo) || rs.any (fun y => hitRow k x y.r)) := ⟨_, rfl⟩
          rw [← hb] at HS1 ⊢
          clear hb
          cases b
          · go_wp2
            go_roundw
            case rel => exact ⟨m + 1, hm1, by rw [HX.out]; go_num, by rw [HS1.out]; simpa using hown, r0, hkk⟩
            case measure => have := HX.out; simp [intOf]; omega
          · go_wp2_with (at_builtin; obtain ⟨i0, hi, hz0, hz1, hz2⟩ := info_parts infoIntM; refine wpList_append_own _ rfl _ _ 51 rfl (w.heap.size) 3 i0 (.int .i64 0) 1 8 Try.underlying51 hi hz0 hz1 hz2 rfl (by decide) _ _ _ rfl (hown.alloc _) ⟨_, 0, none⟩ 1 1 [.int .i64 x] rfl rfl (cell_one_at (by simp) _ _) (fun x hx => by simp at hx; subst hx; rfl) (by unfold maxLen; omega) (by omega) (by simp only [World.size_alloc]; omega) ?_; intro v9 w9 hown9 hgrow9 hnil9; clear hi hz0 hz1 hz2)
            have hK9 : Kept w w9 := Kept.grown (by (exact kpt)) (hown.alloc _) (Nat.le_refl _) hgrow9
            have hB9 := Blk.grown (r0.alloc _) (hown.alloc _) (by decide) hgrow9
            go_roundw
            case rel => exact ⟨m + 1, hm1, by rw [HX.out]; go_num, by rw [HS1.out]; simp only [if_true, List.flatMap_append, List.length_append]; exact hown9, hB9, hK9⟩
            case measure => have := HX.out; simp [intOf]; omega
    · obtain rfl : N = m := by omega
      have u1 : ¬ lo + (N : Int) ≤ hi := fun h => absurd ((HN.out N).2 h) (Nat.lt_irrefl _)
      have HM : startsTo (tbOf vs rs) k N = starts (tbOf vs rs) k := HSA.out
      simp only [HM] at hown ⊢
      clear HM HSA
      go_wp2
      exact bodyPost_ret (v := .slice ad (starts (tbOf vs rs) k).length cp) (by simp [results, Try.results123, go_sem]) rfl ⟨_, rfl, hown, by (exact kpt)⟩

end Go.Proofs.Ytacbkbilbmkjnaa

/-
  The first state, in the reference.
-/
namespace Go.Proofs.Ytacbkbilbmkjnaa
open Go.RowKit Bal Bal.Trim Bal.Mast
set_option linter.unusedVariables false
set_option linter.unusedSimpArgs false
set_option maxHeartbeats 2000000
set_option maxRecDepth 20000

theorem infoLL : (Try.prog.info? 51).map (fun i => (i.zero, i.size, i.bytes)) = some (some (.slice none 0 0), 1, 24) := by kernel_rfl
def vcellI (v : Value) : List Value := [v]
def outS (r : Option (List Int)) : List Int := r.getD []
def LL (d : Tb) (k : Nat) : List (List Int) := (List.range' 0 k).map (starts d)
theorem LL_len (d : Tb) (k : Nat) : (LL d k).length = k := by simp [LL]
theorem LL_succ (d : Tb) (k : Nat) : LL d (k + 1) = LL d k ++ [starts d k] := by
  unfold LL
  rw [List.range'_concat, List.map_append]
  simp
theorem LL_get (d : Tb) {k n : Nat} (h : k < n) : (LL d n)[k]'(by rw [LL_len]; exact h) = starts d k := by simp [LL]
theorem sizeL_app : ∀ (ls : List (List Int)) (l : List Int), sizeL (ls ++ [l]) = sizeL ls * l.length
  | [], l => by simp [sizeL]
  | x :: ls, l => by simp only [List.cons_append, sizeL, sizeL_app ls l, Nat.mul_assoc]
/-- lists that were found, each the call's own -/
structure Lists (B : Nat) (w : World) (L : List (List Int)) (Ps : List Value) : Prop where
  len : Ps.length = L.length
  at_ : ∀ (i : Nat) (hi : i < L.length) (hp : i < Ps.length), w.ownsRow B 3 1 Ps[i] L[i].length (L[i].flatMap icell)
theorem Lists.keep {B : Nat} {w w' : World} {L : List (List Int)} {Ps : List Value} (h : Lists B w L Ps) (hk : Below w.heap.size w w') : Lists B w' L Ps := ⟨h.len, fun i hi hp => owns_keep (h.at_ i hi hp) hk⟩
theorem owns_grownI {B base k k' n n' : Nat} {w w' : World} {e e' : TypeId} {v v' : Value} {xs ys : List Value} (h : w.ownsRow B e' k' v' n' ys) (ho : w.ownsRow base e k v n xs) (hne : e' ≠ e) (hg : w.grownBy w' v.ownBlock) : w'.ownsRow B e' k' v' n' ys := by
  obtain ⟨q1, q2 | ⟨g, cap, cur, hv, hgb, hh, r⟩⟩ := h
  · exact ⟨q1, .inl q2⟩
  · exact ⟨q1, .inr ⟨g, cap, cur, hv, hgb, Blk.grown hh ho hne hg, r⟩⟩
theorem Lists.grown {B base k n : Nat} {w w' : World} {L : List (List Int)} {Ps : List Value} {e : TypeId} {v : Value} {xs : List Value} (h : Lists B w L Ps) (ho : w.ownsRow base e k v n xs) (hne : 3 ≠ e) (hg : w.grownBy w' v.ownBlock) : Lists B w' L Ps :=
  ⟨h.len, fun i hi hp => owns_grownI (h.at_ i hi hp) ho hne hg⟩
theorem Lists.push {B : Nat} {w : World} {L : List (List Int)} {Ps : List Value} (h : Lists B w L Ps) {l : List Int} {v : Value} (hv : w.ownsRow B 3 1 v l.length (l.flatMap icell)) : Lists B w (L ++ [l]) (Ps ++ [v]) :=
  ⟨by simp [h.len], fun i hi hp => by
    by_cases hl : i < L.length
    · have hl' : i < Ps.length := by rw [h.len]; exact hl
      rw [List.getElem_append_left hl', List.getElem_append_left hl]
      exact h.at_ i hl hl'
    · have he : i = L.length := by simp at hi; omega
      subst he
      have hq := h.len
      simp only [List.getElem_append_right (Nat.le_refl L.length), List.getElem_append_right (Nat.le_of_eq hq), hq, Nat.sub_self, List.getElem_cons_zero]
      exact hv⟩
def cellsI (l : List Int) : Array Value := (l.map fun y => Value.int .i64 y).toArray
theorem cellsI_set (l : List Int) (p : Nat) (x : Int) : (cellsI l).setIfInBounds p (.int .i64 x) = cellsI (l.set p x) := by
  apply Array.ext'
  simp [cellsI, List.map_set]
theorem run_makeI2 (s : Nat) (hs : s ≤ 1000) (w : World) : (Instr.makeSlice 51 (.int .i64 s) (.int .i64 s)).run Try.prog w = .ok (.slice (some ⟨w.heap.size, 0, none⟩) s s) (w.alloc (.cells (cellsI (List.replicate s 0)) 3)) := by
  obtain ⟨i0, hi, hz0, hz1, hz2⟩ := info_parts infoIntM
  have := run_make (P := Try.prog) w 51 3 i0 (.int .i64 0) Try.underlying51 hi hz0 .i64 .i64 s s (by omega) (Int.le_refl _) (by rw [hz2]; omega) (by omega)
  rw [this]
  have hm : madeCells (Value.cells (.int .i64 0)) ((s : Int).toNat * i0.size) = cellsI (List.replicate s 0) := by
    rw [hz1]
    apply Array.ext
    · simp [madeCells, cellsI]
    · intro i h1 h2
      simp [madeCells, cellsI, Value.cells, Nat.mod_one]
  rw [hm]
  simp
theorem flat_icell (l : List Int) : l.flatMap icell = l.map fun y => Value.int .i64 y := by
  induction l with
  | nil => rfl
  | cons x l ih => simp [icell, List.flatMap_cons, ih]
theorem row_cellsI {w : World} {b : Nat} {l : List Int} {t : TypeId} (h : Blk w b (cellsI l) t) : Row icell 1 w.heap.size w (some ⟨b, 0, none⟩) l := by
  refine Row.block (fun _ => rfl) h ?_
  rw [flat_icell]
  simp [cellsI]
theorem owns_cellsI {w : World} {b base : Nat} {l : List Int} (h : Blk w b (cellsI l) 3) (hb : base ≤ b) (hm : l.length ≤ 1000) : w.ownsRow base 3 1 (.slice (some ⟨b, 0, none⟩) l.length l.length) l.length (l.flatMap icell) := by
  refine ⟨by rw [flat_icell]; simp, .inr ⟨b, l.length, cellsI l, rfl, hb, h, Nat.le_refl _, by unfold maxLen; omega, by simp [cellsI], ?_⟩⟩
  rw [flat_icell]
  simp [cellsI]
  exact List.take_of_length_le (by simp)
theorem starts_len {d : Tb} {k : Nat} (hk : k < d.vars.length) (h : (-1000 ≤ d.vars[k].lo ∧ d.vars[k].lo ≤ 1000) ∧ -1000 ≤ d.vars[k].hi ∧ d.vars[k].hi ≤ 1000) : (starts d k).length ≤ 2001 := by
  unfold starts
  rw [List.getElem?_eq_getElem hk]
  refine Nat.le_trans (startsTo_len d k _) ?_
  omega
theorem digs_len : ∀ (ls : List (List Int)) (n : Nat), (digs ls n).length = ls.length
  | [], n => rfl
  | l :: ls, n => by simp [digs, digs_len ls n]
/-- the state as it is laid from its end on: c are left -/
def laidC (ls : List (List Int)) (n c : Nat) : List Int := List.replicate c 0 ++ digs (ls.drop c) n
theorem laidC_all (ls : List (List Int)) (n : Nat) : laidC ls n ls.length = List.replicate ls.length 0 := by unfold laidC; rw [List.drop_length]; simp [digs]
theorem laidC_zero (ls : List (List Int)) (n : Nat) : laidC ls n 0 = digs ls n := by unfold laidC; simp
theorem laidC_len {ls : List (List Int)} {n c : Nat} (h : c ≤ ls.length) : (laidC ls n c).length = ls.length := by
  unfold laidC
  rw [List.length_append, List.length_replicate, digs_len, List.length_drop]; omega
theorem laidC_step {ls : List (List Int)} {n p : Nat} (h : p < ls.length) : (laidC ls n (p + 1)).set p (ls[p][(n / sizeL (ls.drop (p + 1))) % ls[p].length]?.getD 0) = laidC ls n p := by
  unfold laidC
  rw [List.drop_eq_getElem_cons h, List.replicate_succ', List.append_assoc, List.set_append_right _ _ (by simp), List.length_replicate, Nat.sub_self]
  rfl
theorem rest_step {ls : List (List Int)} {n p : Nat} (h : p < ls.length) : n / sizeL (ls.drop (p + 1)) / ls[p].length = n / sizeL (ls.drop p) := by
  rw [List.drop_eq_getElem_cons h, Nat.div_div_eq_div_mul, show sizeL (ls[p] :: ls.drop (p + 1)) = ls[p].length * sizeL (ls.drop (p + 1)) from rfl, Nat.mul_comm]
theorem sizeL_pos : ∀ {ls : List (List Int)}, 0 < sizeL ls → ∀ l ∈ ls, 0 < l.length
  | [], _, _, h => by cases h
  | x :: ls, h, l, hl => by
    have h1 : 0 < x.length * sizeL ls := h
    have h2 : 0 < x.length := Nat.pos_of_mul_pos_right h1
    have h3 : 0 < sizeL ls := Nat.pos_of_mul_pos_left h1
    rcases List.mem_cons.1 hl with rfl | hl
    · exact h2
    · exact sizeL_pos h3 l hl
theorem sizeL_drop0 (ls : List (List Int)) (n : Nat) : n / sizeL (ls.drop ls.length) = n := by rw [List.drop_length]; simp [sizeL]
theorem cellsI_at {l : List Int} {p : Nat} (h : p < l.length) : (cellsI l)[p]? = some (.int .i64 l[p]) := by simp [cellsI, h]

end Go.Proofs.Ytacbkbilbmkjnaa

/-
  The first state, in the reference: the walk.
-/
namespace Go.Proofs.Ytacbkbilbmkjnaa
open Go.RowKit Bal Bal.Trim Bal.Mast
set_option linter.unusedVariables false
set_option linter.unusedSimpArgs false
set_option maxHeartbeats 2000000
set_option maxRecDepth 20000

theorem r_first (vs : List Span) (va : Option Addr) (vc : Nat) (rs : List RowM) (ra : Option Addr) (rc : Nat) (w : World) (ht : TabAt ⟨vs, va, vc, rs, ra, rc⟩ w) (hv : validB (tbOf vs rs) = true) (least most : Int) :
    Calls Try.prog 86 #[.agg #[.slice va vs.length vc, .slice ra rs.length rc], .int .i64 least, .int .i64 most] w fun z w' => ∃ v r, FirstExt (tbOf vs rs) (fun l => inB (l.length : Int) least most) [] r ∧ z = .returned v ∧ w'.ownsRow w.heap.size 3 1 v (outS r).length ((outS r).flatMap icell) ∧ Kept w w' := by
  have htv : Row Span.cells 2 w.heap.size w va vs := ht.vars
  have hvm : vc ≤ maxLen := ht.vm
  have hrm : rc ≤ maxLen := ht.rm
  have hvl : vs.length ≤ vc := ht.vl
  have hrl : rs.length ≤ rc := ht.rl
  unfold maxLen at hvm hrm
  obtain ⟨q1, q2, q3, q4⟩ := valid_parts.1 hv
  have hn := inB_iff.1 q1
  rw [show (tbOf vs rs).vars = vs from rfl] at hn
  rw [rows_len] at q2
  have hr : rs.length ≤ 1000 := by omega
  have hn3 : 1 ≤ vs.length ∧ vs.length ≤ 3 := by omega
  have HVL := Lib.hid (fun (k : Nat) (hk : k < vs.length) => (by
    have := spanOk_le (q3 vs[k] (List.getElem_mem hk)); omega : (-1000 ≤ vs[k].lo ∧ vs[k].lo ≤ 1000) ∧ -1000 ≤ vs[k].hi ∧ vs[k].hi ≤ 1000))
  have HCE := Lib.hid (fun x hx => by have := (q4 x.r (mem_rowsT hx)).1; exact this : ∀ x ∈ rs, x.r.conds.length = vs.length)
  have HBC := Lib.hid (fun x hx c hc => by have := spanOk_le ((q4 x.r (mem_rowsT hx)).2.2 c hc); omega : ∀ x ∈ rs, ∀ c ∈ x.r.conds, -1000 ≤ c.hi ∧ c.hi ≤ 1000)
  have HE := Lib.hid (valid_even hv)
  clear q1 q2 q3 q4 hv hn
  go_enter Try.func86, Try.ntmps86
  go_wp2
  go_loopw [7, 8, 9] (fun s7 s8 s9 wr => ∃ (k : Nat) (Ps : List Value), k ≤ vs.length ∧ s9 = .int .i64 (k : Int) ∧ s8 = .int .i64 (sizeL (LL (tbOf vs rs) k) : Int) ∧ sizeL (LL (tbOf vs rs) k) ≤ 2001 ^ k ∧ Lists w.heap.size wr (LL (tbOf vs rs) k) Ps ∧ wr.ownsRow w.heap.size 51 1 s7 k (Ps.flatMap vcellI) ∧ Blk wr w.heap.size #[.slice va vs.length vc, .slice ra rs.length rc] 88 ∧ Kept w wr) (fun _ _ s9 _ => vs.length - (intOf s9).toNat)
  case atStart => exact ⟨0, [], Nat.zero_le _, rfl, rfl, Nat.le_refl _, ⟨rfl, fun i hi => absurd hi (by simp [LL])⟩, by exact owns_nil (α := Value) (enc := vcellI), by (exact blk), by (exact kpt)⟩
  case round =>
    obtain ⟨k, Ps, hk, rfl, rfl, hsl, hls, hown, r0, hkk⟩ := hrel
    have hsz := hkk.size
    have hlen : Ps.length = k := by rw [hls.len, LL_len]
    have r0c0 := r0.cell 0
    have r0f0 := r0.free 0
    have r0c1 := r0.cell 1
    have r0f1 := r0.free 1
    have r0l := r0.lt
    simp at r0c0 r0c1
    obtain ⟨ad7, cp7, rfl, hrow7, hc7, hm7⟩ := owns_row (enc := vcellI) (k := 1) (xs := Ps) (fun _ => rfl) (by rw [hlen]; exact hown)
    simp only [hlen] at hc7 hown ⊢
    by_cases hlt : k < vs.length
    · have HBV := HVL.out k hlt
      have HCL := Lib.hid (fun x hx => by rw [HCE.out x hx]; exact hlt : ∀ x ∈ rs, k < x.r.conds.length)
      have hst := starts_len (d := tbOf vs rs) (k := k) hlt HBV
      have hp2 : 2001 ^ k ≤ 2001 ^ 2 := Nat.pow_le_pow_right (by omega) (by omega)
      have hmul : sizeL (LL (tbOf vs rs) k) * (starts (tbOf vs rs) k).length ≤ 2001 ^ k * 2001 := Nat.mul_le_mul hsl hst
      have HSZ := Lib.hid (show sizeL (LL (tbOf vs rs) (k + 1)) = sizeL (LL (tbOf vs rs) k) * (starts (tbOf vs rs) k).length by rw [LL_succ, sizeL_app])
      have HSL := Lib.hid (show sizeL (LL (tbOf vs rs) (k + 1)) ≤ 2001 ^ (k + 1) by rw [HSZ.out, Nat.pow_succ]; exact hmul)
      have w1 : IntKind.i64.wrap ((sizeL (LL (tbOf vs rs) k) : Int) * ((starts (tbOf vs rs) k).length : Int)) = (sizeL (LL (tbOf vs rs) k) : Int) * ((starts (tbOf vs rs) k).length : Int) := i64_inM (by
        have e : ((sizeL (LL (tbOf vs rs) k) : Int) * ((starts (tbOf vs rs) k).length : Int)) = ((sizeL (LL (tbOf vs rs) k) * (starts (tbOf vs rs) k).length : Nat) : Int) := by simp
        rw [e]
        have : 2001 ^ k * 2001 ≤ 2001 ^ 2 * 2001 := Nat.mul_le_mul_right _ hp2
        omega)
      have i0 : (0 : Int) ≤ (k : Int) := by omega
      have i1 : (k : Int) < (k : Int) + 1 := by omega
      clear hsl hmul hp2
      go_wp2_with (first | (go_at_call 123; (with_reducible refine (r_starts vs va vc rs ra rc _ (ht.later (by (exact kpt))) hr k hlt HCL.out HBV HBC.out).mono ?_); rintro z w1 ⟨v1, rfl, ho1, hb1⟩; obtain ⟨ad1, cp1, rfl, -⟩ := owns_row (enc := icell) (k := 1) (fun _ => rfl) ho1; refine Blk.thru (b := w.heap.size) (arr := ?_) (t := ?_) ?_ hb1 ?_; rotate_left 2; (focus (exact blk)); intro r0; have r0c0 := r0.cell 0; have r0f0 := r0.free 0; have r0c1 := r0.cell 1; have r0f1 := r0.free 1; have r0l := r0.lt; simp at r0c0 r0c1) | (at_builtin; obtain ⟨i0, hi, hz0, hz1, hz2⟩ := info_parts infoLL; have ho7 := (owns_keep hown hb1).alloc (.cells #[.slice ad1 (starts (tbOf vs rs) k).length cp1] 51); have hls7 := (hls.keep hb1).keep (Kept.alloc (Below.refl _ _) (.cells #[.slice ad1 (starts (tbOf vs rs) k).length cp1] 51)); have ho17 := (owns_base ho1 hsz).alloc (.cells #[.slice ad1 (starts (tbOf vs rs) k).length cp1] 51); refine wpList_append_own _ rfl _ _ 163 rfl w.heap.size 51 i0 (.slice none 0 0) 1 24 Try.underlying163 hi hz0 hz1 hz2 rfl (by decide) _ _ _ rfl ho7 ⟨_, 0, none⟩ 1 1 [.slice ad1 (starts (tbOf vs rs) k).length cp1] rfl rfl (cell_one_at (by simp) _ _) (fun x hx => by simp at hx; subst hx; rfl) (by unfold maxLen; omega) (by omega) (by simp only [World.size_alloc]; have := hb1.size; omega) ?_; intro v9 w9 hown9 hgrow9 hnil9; clear hi hz0 hz1 hz2; have hK9 : Kept w w9 := Kept.grown (by (exact kpt)) ho7 (Nat.le_refl _) hgrow9; have hB9 := Blk.grown (r0.alloc _) ho7 (by decide) hgrow9; have hls9 := hls7.grown ho7 (by decide) hgrow9; have ho19 := owns_grownI ho17 ho7 (by decide) hgrow9; have hl9 : (Ps ++ [Value.slice ad1 (starts (tbOf vs rs) k).length cp1]).length = k + 1 := (by simp [hlen]); have hown9b : w9.ownsRow w.heap.size 51 1 v9 (Ps ++ [Value.slice ad1 (starts (tbOf vs rs) k).length cp1]).length ((Ps ++ [Value.slice ad1 (starts (tbOf vs rs) k).length cp1]).flatMap vcellI) := (by rw [hl9, List.flatMap_append]; exact hown9); obtain ⟨ad9, cp9, hv9, hrow9, hc9, hm9⟩ := owns_row (enc := vcellI) (k := 1) (fun _ => rfl) hown9b; rw [hl9] at hv9 hc9; subst hv9; obtain ⟨b9, o9, rfl, hb9, hcell9⟩ := hrow9 k (Value.slice ad1 (starts (tbOf vs rs) k).length cp1) (by rw [List.getElem?_append_right (by omega)]; simp [hlen]); have p9 := hcell9 0 _ rfl; simp at p9; clear hcell9 hrow9 ho7 hls7 ho17 hgrow9))
      go_roundw
      case rel => exact ⟨k + 1, Ps ++ [.slice ad1 (starts (tbOf vs rs) k).length cp1], by omega, by go_num, by rw [HSZ.out]; simp, HSL.out, by rw [LL_succ]; exact Lists.push hls9 ho19, (by have q := hown9b; rw [hl9] at q; exact q), hB9, hK9⟩
      case measure => simp [intOf]; omega
    · obtain rfl : vs.length = k := by omega
      obtain ⟨ls, hls0⟩ : ∃ ls, ls = LL (tbOf vs rs) vs.length := ⟨_, rfl⟩
      have hlsl : ls.length = vs.length := by rw [hls0, LL_len]
      have HNO0 := Lib.hid (fun (n : Nat) (h : n < sizeL ls) (hw : (fun l : List Nat => inB (l.length : Int) least most) (matchL (tbOf vs rs) (digs ls n)) = true) (hno : ∀ m, m < n → (fun l : List Nat => inB (l.length : Int) least most) (matchL (tbOf vs rs) (digs ls m)) = false) => (by subst hls0; exact first_number (W := fun l : List Nat => inB (l.length : Int) least most) HE.out h hw hno : FirstExt (tbOf vs rs) (fun l => inB (l.length : Int) least most) [] (some (digs ls n))))
      have HNO1 := Lib.hid (fun (hno : ∀ m, m < sizeL ls → (fun l : List Nat => inB (l.length : Int) least most) (matchL (tbOf vs rs) (digs ls m)) = false) => (by subst hls0; exact no_number (W := fun l : List Nat => inB (l.length : Int) least most) HE.out hno : FirstExt (tbOf vs rs) (fun l => inB (l.length : Int) least most) [] none))
      rw [← hls0] at hls hsl ⊢
      have hll : ∀ p (hp : p < ls.length), ls[p].length ≤ 2001 := fun p hp => by
        subst hls0
        rw [LL_get (tbOf vs rs) (by rw [LL_len] at hp; exact hp)]
        exact starts_len (by rw [LL_len] at hp; exact hp) (HVL.out p (by rw [LL_len] at hp; exact hp))
      have hp3 : 2001 ^ vs.length ≤ 2001 ^ 3 := Nat.pow_le_pow_right (by omega) (by omega)
      have hsz3 : sizeL ls ≤ 8012006001 := Nat.le_trans hsl hp3
      have HLP := Lib.hid (fun (W : World) (hW : Kept wr W) (p : Nat) (hp : p < ls.length) => (by
        obtain ⟨b7, o7, e7, hb7, hc7⟩ := (hrow7.later hW (Nat.le_refl _)) p (Ps[p]'(by rw [hlen]; omega)) (by simp [hlen, hlsl ▸ hp])
        obtain ⟨adp, cpp, ep, hrp, hcp, hmp⟩ := owns_row (enc := icell) (k := 1) (fun _ => rfl) (owns_keep (hls.at_ p hp (by rw [hlen]; omega)) hW)
        have := hc7 0 _ rfl
        rw [ep] at this
        exact ⟨b7, o7, adp, cpp, e7, by simpa using this, hrp, hcp, hmp⟩ : ∃ b7 o7 adp cpp, ad7 = some ⟨b7, o7, none⟩ ∧ W.cell? ⟨b7, o7 + p, none⟩ = some (.slice adp ls[p].length cpp) ∧ Row icell 1 W.heap.size W adp ls[p] ∧ ls[p].length ≤ cpp ∧ cpp ≤ maxLen))
      obtain ⟨b7, o7, -, -, e7, -⟩ := HLP.out wr (Below.refl _ _) 0 (by omega)
      subst e7
      clear hls0 hls hsl hown hrow7 hp3 HBC HVL
      obtain ⟨Z, rfl⟩ : ∃ Z : World, Z = wr := ⟨_, rfl⟩
      go_wp2
      go_loopw [10] (fun s10 wq => ∃ n : Nat, n ≤ sizeL ls ∧ s10 = .int .i64 (n : Int) ∧ (∀ m, m < n → (fun l : List Nat => inB (l.length : Int) least most) (matchL (tbOf vs rs) (digs ls m)) = false) ∧ Blk wq w.heap.size #[.slice va vs.length vc, .slice ra rs.length rc] 88 ∧ Kept Z wq) (fun s10 _ => sizeL ls - (intOf s10).toNat)
      case atStart => exact ⟨0, Nat.zero_le _, rfl, fun m h => absurd h (Nat.not_lt_zero _), by (exact blk), by (exact kpt)⟩
      case round =>
        clear r0 r0c0 r0f0 r0c1 r0f1 r0l
        obtain ⟨n, hn, rfl, hno, r0, hkz⟩ := hrel
        have hkw := Kept.drop hkk hkz
        have hzs := hkz.size
        have hwY := r0.lt
        by_cases hlt : n < sizeL ls
        · have HNO := Lib.hid hno
          have HPOS := Lib.hid (fun p (hp : p < ls.length) => sizeL_pos (ls := ls) (by omega) ls[p] (List.getElem_mem hp))
          have mk1 := run_makeI2 vs.length (by omega)
          clear hno
          go_upto_region 14 with fail
          refine at_world (S := fun V => Blk V wr.heap.size (cellsI (laidC ls n ls.length)) 3 ∧ Blk V w.heap.size #[.slice va vs.length vc, .slice ra rs.length rc] 88 ∧ Kept wr V) ⟨by rw [laidC_all, hlsl]; (exact blk), by (exact blk), by (exact kpt)⟩ ?_
          obtain ⟨Y, rfl⟩ : ∃ Y : World, Y = wr := ⟨_, rfl⟩
          clear r0 mk1
          rintro V ⟨r1, r0, hkv⟩
          go_loopw [12, 13] (fun s12 s13 wz => ∃ (c : Nat) (z : Int), c ≤ ls.length ∧ z = (c : Int) - 1 ∧ s13 = .int .i64 z ∧ s12 = .int .i64 ((n / sizeL (ls.drop c) : Nat) : Int) ∧ Blk wz Y.heap.size (cellsI (laidC ls n c)) 3 ∧ Blk wz w.heap.size #[.slice va vs.length vc, .slice ra rs.length rc] 88 ∧ Kept Y wz) (fun _ s13 _ => (intOf s13 + 1).toNat)
          case atStart => exact ⟨ls.length, (vs.length : Int) - 1, Nat.le_refl _, by rw [hlsl], by go_num, by rw [sizeL_drop0], r1, r0, hkv⟩
          case round =>
            clear r1 r0 hkv
            obtain ⟨c, z, hc, hz, rfl, rfl, r1, r0, hkv⟩ := hrel
            by_cases hz0 : 0 ≤ z
            · obtain ⟨p, rfl⟩ : ∃ p : Nat, z = (p : Int) := ⟨z.toNat, by omega⟩
              obtain rfl : c = p + 1 := by omega
              have hp : p < ls.length := by omega
              have hset := laidC_step (n := n) hp
              have hrs := rest_step (n := n) hp
              have hRb : n / sizeL (ls.drop (p + 1)) ≤ n := Nat.div_le_self _ _
              obtain ⟨R, hR⟩ : ∃ R, R = n / sizeL (ls.drop (p + 1)) := ⟨_, rfl⟩
              rw [← hR] at hset hrs hRb ⊢
              have hHp := HPOS.out p hp
              have hH2 := hll p hp
              obtain ⟨b72, o72, adp, cpp, e72, p7, hrp, hcp, hmp⟩ := HLP.out wr (Kept.drop hkz hkv) p hp
              simp only [Option.some.injEq, Addr.mk.injEq, and_true] at e72
              obtain ⟨rfl, rfl⟩ := e72
              obtain ⟨H, hH⟩ : ∃ H, H = ls[p].length := ⟨_, rfl⟩
              have HH := Lib.hid hH.symm
              have hne : Y.heap.size ≠ w.heap.size := by omega
              have hHz : ¬ ((H : Int) = 0) := by omega
              rw [← hH] at hset hrs hHp hH2 hcp
              have p7b : wr.cell? ⟨b7, o7 + p, none⟩ = some (.slice adp H cpp) := by rw [hH]; exact p7
              have d1 : (R : Int).tmod (H : Int) = ((R % H : Nat) : Int) := by rw [Int.tmod_eq_emod_of_nonneg (by omega)]; simp
              have d2 : (R : Int).tdiv (H : Int) = ((R / H : Nat) : Int) := by rw [Int.tdiv_eq_ediv_of_nonneg (by omega)]; simp
              have d3 : (R : Int) % (H : Int) = ((R % H : Nat) : Int) := by simp
              have d4 : (R : Int) / (H : Int) = ((R / H : Nat) : Int) := by simp
              have hd := Nat.mod_lt R hHp
              have hd2 := Nat.div_le_self R H
              obtain ⟨Dg, hD⟩ : ∃ D, D = R % H := ⟨_, rfl⟩
              obtain ⟨Q, hQ⟩ : ∃ Q, Q = R / H := ⟨_, rfl⟩
              rw [← hD] at d1 d3 hd hset
              rw [← hQ] at d2 d4 hd2 hrs
              obtain ⟨bl, ol, rfl, hbl, q0⟩ := int_row hrp Dg (by omega)
              rw [List.getElem?_eq_getElem (by omega)] at hset
              simp only [Option.getD_some] at hset
              obtain ⟨X, hX⟩ : ∃ X, X = (ls[p])[Dg]'(by omega) := ⟨_, rfl⟩
              rw [← hX] at q0 hset
              have hlen := laidC_len (n := n) (c := p + 1) hc
              have HR0 := Lib.hid (show ∀ W, Blk W Y.heap.size ((cellsI (laidC ls n (p + 1))).setIfInBounds p (.int .i64 X)) 3 → Blk W Y.heap.size (cellsI (laidC ls n p)) 3 from fun W h => by rw [cellsI_set, hset] at h; exact h)
              have HPW := Lib.hid hrs
              have hQb : Q ≤ 8012006001 := by omega
              obtain ⟨y0, s0⟩ : ∃ y : Int, ∀ g_ : Later wr, g_.val.cell? ⟨Y.heap.size, p, none⟩ = some (.int .i64 y) := ⟨(laidC ls n (p + 1))[p]'(by rw [hlen]; exact hp), fun g_ => by rw [(r1.later g_).cell p, cellsI_at (by rw [hlen]; exact hp)]⟩
              have sf := fun g_ : Later wr => (r1.later g_).free p
              have sl := fun g_ : Later wr => (r1.later g_).lt
              have x0 := fun g_ : Later wr => g_.some q0
              have x7 := fun g_ : Later wr => g_.some p7b
              have j0 : (0 : Int) ≤ (p : Int) := by omega
              have j1 : (p : Int) < (vs.length : Int) := by omega
              have j2 : (0 : Int) ≤ (Dg : Int) := by omega
              have j3 : (Dg : Int) < (H : Int) := by omega
              clear hset hR hD hQ hz hrs hX hH q0 p7 p7b hrp hlen hd hd2
              go_upto_region 16 with fail
              refine Later.tail 16 (by kernel_rfl) (by kernel_rfl) ?_
              simp only [List.take_succ_cons, List.take_zero, List.drop_succ_cons, List.drop_zero]
              repeat (first | go_big_quiet_skip | (go_big_quiet_want; go_big_quiet_op; first | go_big_quiet_on | (apply Exists.intro; refine ⟨fun g_ => ?_, ?_⟩; (focus (first | fail)); go_big_quiet_on)))
              refine wpQuiet_nil ?_
              intro gg
              have s1 := s0 gg
              have s2 := sf gg
              have s3 := sl gg
              have n1 := r1.later gg
              have n0 := r0.later gg
              have hkg := Kept.drop hkv gg.ok
              have m1 := HR0.out _ (n1.set p (.int .i64 X))
              have m0 := Blk.other n0 (a := ⟨Y.heap.size, p, none⟩) hne (.int .i64 X)
              have hk1 : Kept Y (gg.val.setCell ⟨Y.heap.size, p, none⟩ (.int .i64 X)) := by (exact kpt)
              clear s0 sf sl x0 x7 r1 r0 HR0
              refine wpList_plain rfl fun K1 hK1 => ?_
              go_simp
              refine hK1 _ _ ?_
              go_upto_region 17 with fail
              refine at_world (S := fun V2 => Blk V2 Y.heap.size (cellsI (laidC ls n p)) 3 ∧ Blk V2 w.heap.size #[.slice va vs.length vc, .slice ra rs.length rc] 88 ∧ Kept Y V2) ⟨m1, m0, hk1⟩ ?_
              clear m1 m0 hk1 n1 n0 s1 s2 s3 hkg hkv
              rintro V2 ⟨r1, r0, hkv⟩
              obtain ⟨b73, o73, adp, cp3, e73, p7, hrp, hcp3, hmp3⟩ := HLP.out V2 (Kept.drop hkz hkv) p hp
              simp only [Option.some.injEq, Addr.mk.injEq, and_true] at e73
              obtain ⟨rfl, rfl⟩ := e73
              rw [HH.out] at p7
              clear hrp
              go_wp2
              go_roundw
              case rel => exact ⟨p, (p : Int) - 1, by omega, rfl, by go_num, by rw [← HPW.out], r1, r0, hkv⟩
              case measure => first | (simp [intOf]; done) | (simp [intOf]; omega)
            · obtain rfl : c = 0 := by omega
              rw [laidC_zero] at r1
              have hdl : (digs ls n).length = vs.length := by rw [digs_len, hlsl]
              have HSN := Lib.hid (fun (bw : Bool) (hb : bw = inB ((matchL (tbOf vs rs) (digs ls n)).length : Int) least most) (hf : bw = false) => (fun m (hm : m < n + 1) => by
                rcases Nat.lt_or_ge m n with h | h
                · exact HNO.out m h
                · obtain rfl : m = n := by omega
                  show inB ((matchL (tbOf vs rs) (digs ls m)).length : Int) least most = false
                  rw [← hb]; exact hf : ∀ m, m < n + 1 → (fun l : List Nat => inB (l.length : Int) least most) (matchL (tbOf vs rs) (digs ls m)) = false))
              have HST := Lib.hid (fun (h : inB ((matchL (tbOf vs rs) (digs ls n)).length : Int) least most = true) => HNO0.out n hlt h HNO.out)
              have hml : (matchL (tbOf vs rs) (digs ls n)).length ≤ 1000 := by
                have := matchTo_len (tbOf vs rs) (digs ls n) (tbOf vs rs).rows.length
                rw [rows_len] at this
                unfold matchL
                rw [rows_len]
                omega
              obtain ⟨st, hst⟩ : ∃ st, st = digs ls n := ⟨_, rfl⟩
              rw [← hst] at r1 hdl HSN HST hml
              have HMT := Lib.hid (fun (W : World) (hW : Kept w W) (hb : Blk W Y.heap.size (cellsI st) 3) => (by
                have := r_Matching ⟨vs, va, vc, rs, ra, rc⟩ W (ht.later hW) (some ⟨Y.heap.size, 0, none⟩) vs.length st (row_cellsI hb) (by omega) (by unfold maxLen; omega) hr (fun x hx => by rw [hdl, HCE.out x hx]; exact Nat.le_refl _)
                rw [hdl] at this
                exact this : Calls Try.prog 83 #[.agg #[.slice va vs.length vc, .slice ra rs.length rc], .slice (some ⟨Y.heap.size, 0, none⟩) vs.length vs.length] W fun z w' => ∃ v, z = .returned v ∧ w'.ownsRow W.heap.size 3 1 v (matchL (tbOf vs rs) st).length ((natsI (matchL (tbOf vs rs) st)).flatMap icell) ∧ Kept W w'))
              obtain ⟨bw, hbw⟩ : ∃ b, b = inB ((matchL (tbOf vs rs) st).length : Int) least most := ⟨_, rfl⟩
              have HBW := Lib.hid hbw.symm
              have HSN2 := Lib.hid (fun hf => HSN.out bw hbw hf)
              have HST2 := Lib.hid (fun (hf : bw = true) => HST.out (by rw [← hbw]; exact hf))
              have HHD := Lib.hid hdl
              clear hst HSN HST hbw hdl
              have r0c0 := r0.cell 0
              have r0f0 := r0.free 0
              have r0c1 := r0.cell 1
              have r0f1 := r0.free 1
              have r0l := r0.lt
              simp at r0c0 r0c1
              cases bw
              · have HN2 := Lib.hid (HSN2.out rfl)
                go_wp2_with (first | (go_at_call 83; (with_reducible refine (HMT.out _ (by (exact kpt)) (by (exact blk))).mono ?_); rintro z w5 ⟨v5, rfl, ho5, hb5⟩; obtain ⟨ad5, cp5, rfl, -⟩ := owns_row (enc := icell) (k := 1) (xs := natsI (matchL (tbOf vs rs) st)) (fun _ => rfl) (by rw [natsI_len]; exact ho5); simp only [natsI_len]) | (go_at_call 53; (with_reducible refine (r_within _ _ _ _).mono ?_); rw [HBW.out]; rintro z w1 ⟨rfl, rfl⟩))
                go_roundw
                case rel => exact ⟨n + 1, by omega, by go_num, HN2.out, by (exact blk), by (exact kpt)⟩
                case measure => simp [intOf]; omega
              · have HS2 := Lib.hid (HST2.out rfl)
                go_wp2_with (first | (go_at_call 83; (with_reducible refine (HMT.out _ (by (exact kpt)) (by (exact blk))).mono ?_); rintro z w5 ⟨v5, rfl, ho5, hb5⟩; obtain ⟨ad5, cp5, rfl, -⟩ := owns_row (enc := icell) (k := 1) (xs := natsI (matchL (tbOf vs rs) st)) (fun _ => rfl) (by rw [natsI_len]; exact ho5); simp only [natsI_len]) | (go_at_call 53; (with_reducible refine (r_within _ _ _ _).mono ?_); rw [HBW.out]; rintro z w1 ⟨rfl, rfl⟩))
                exact bodyPost_ret (v := .slice (some ⟨Y.heap.size, 0, none⟩) vs.length vs.length) (by simp [results, Try.results86, go_sem]) rfl ⟨_, some st, HS2.out, rfl, (by have q := owns_cellsI (base := w.heap.size) (show Blk w5 Y.heap.size (cellsI st) 3 by (exact blk)) hkw.size (by rw [HHD.out]; omega); rw [HHD.out] at q; simpa [outS, HHD.out] using q), by (exact kpt)⟩
        · obtain rfl : sizeL ls = n := by omega
          have HF := Lib.hid (HNO1.out hno)
          clear hno
          go_wp2
          exact bodyPost_ret (v := .slice none 0 0) (by simp [results, Try.results86, go_sem]) rfl ⟨_, none, HF.out, rfl, owns_nil (α := Int) (enc := icell), by (exact kpt)⟩

end Go.Proofs.Ytacbkbilbmkjnaa

/-
  Decide, Gap and Twice, in the reference.
-/
namespace Go.Proofs.Ytacbkbilbmkjnaa
open Go.RowKit Bal Bal.Trim Bal.Mast
set_option linter.unusedVariables false
set_option linter.unusedSimpArgs false
set_option maxHeartbeats 2000000
set_option maxRecDepth 20000

def W0 (l : List Nat) : Bool := decide (l.length = 0)
def W2 (l : List Nat) : Bool := decide (1 < l.length)
def decR (d : Tb) (st : List Int) : Int × Int := if validB d then (if st.length = d.vars.length then (if hits d.vars st then (match matchL d st with | [] => (0, 6) | [i] => ((i : Int), 0) | _ => (0, 77)) else (0, 2)) else (0, 2)) else (0, 76)
def GapRes (d : Tb) (E : Int) (s : List Int) : Prop := (validB d = false ∧ E = 76 ∧ s = []) ∨ (validB d = true ∧ ∃ r, FirstExt d W0 [] r ∧ E = (match r with | some _ => 0 | none => 6) ∧ s = outS r)
def TwRes (d : Tb) (E : Int) (s : List Int) (i k : Int) : Prop := (validB d = false ∧ E = 76 ∧ s = [] ∧ i = 0 ∧ k = 0) ∨ (validB d = true ∧ ∃ r, FirstExt d W2 [] r ∧ E = (match r with | some _ => 0 | none => 6) ∧ s = outS r ∧ i = (match r with | some x => (natsI (matchL d x))[0]?.getD 0 | none => 0) ∧ k = (match r with | some x => (natsI (matchL d x))[1]?.getD 0 | none => 0))
theorem gap_one {d : Tb} {E E' : Int} {s s' : List Int} (h : GapRes d E s) (h' : GapRes d E' s') : E = E' ∧ s = s' := by
  rcases h with ⟨h1, rfl, rfl⟩ | ⟨h1, r, hr, rfl, rfl⟩
  · rcases h' with ⟨_, rfl, rfl⟩ | ⟨h2, _⟩
    · exact ⟨rfl, rfl⟩
    · rw [h1] at h2; cases h2
  · rcases h' with ⟨h2, _⟩ | ⟨_, r', hr', rfl, rfl⟩
    · rw [h1] at h2; cases h2
    · obtain rfl := FirstExt.unique hr hr'
      exact ⟨rfl, rfl⟩
theorem tw_one {d : Tb} {E E' i i' k k' : Int} {s s' : List Int} (h : TwRes d E s i k) (h' : TwRes d E' s' i' k') : E = E' ∧ s = s' ∧ i = i' ∧ k = k' := by
  rcases h with ⟨h1, rfl, rfl, rfl, rfl⟩ | ⟨h1, r, hr, rfl, rfl, rfl, rfl⟩
  · rcases h' with ⟨_, rfl, rfl, rfl, rfl⟩ | ⟨h2, _⟩
    · exact ⟨rfl, rfl, rfl, rfl⟩
    · rw [h1] at h2; cases h2
  · rcases h' with ⟨h2, _⟩ | ⟨_, r', hr', rfl, rfl, rfl, rfl⟩
    · rw [h1] at h2; cases h2
    · obtain rfl := FirstExt.unique hr hr'
      exact ⟨rfl, rfl, rfl, rfl⟩
theorem FirstExt.congr {d : Tb} {W W' : List Nat → Bool} {pre : List Int} {r : Option (List Int)} (hw : ∀ t, W (matchL d t) = W' (matchL d t)) (h : FirstExt d W pre r) : FirstExt d W' pre r := by
  cases r with
  | none => exact fun t h1 h2 => by rw [← hw]; exact h t h1 h2
  | some s => exact ⟨h.1, h.2.1, by rw [← hw]; exact h.2.2.1, fun t h1 h2 h3 => h.2.2.2 t h1 h2 (by rw [hw]; exact h3)⟩
theorem match_few {d : Tb} (t : List Int) : (matchL d t).length ≤ d.rows.length := matchTo_len d t _
theorem W0_in (d : Tb) (t : List Int) : inB ((matchL d t).length : Int) 0 0 = W0 (matchL d t) := by
  unfold W0
  rw [Bool.eq_iff_iff, inB_iff, decide_eq_true_iff]; omega
theorem W2_in {d : Tb} (h : d.rows.length ≤ 30) (t : List Int) : inB ((matchL d t).length : Int) 2 30 = W2 (matchL d t) := by
  have := match_few (d := d) t
  unfold W2
  rw [Bool.eq_iff_iff, inB_iff, decide_eq_true_iff]; omega
theorem hits_fail {cs : List Span} {st : List Int} {k : Nat} (h : hits cs (st.take k) = false) : hits cs st = false := by
  rw [← List.take_append_drop k st, hits_app, h]; rfl

theorem r_Decide (vs : List Span) (va : Option Addr) (vc : Nat) (rs : List RowM) (ra : Option Addr) (rc : Nat) (w : World) (ht : TabAt ⟨vs, va, vc, rs, ra, rc⟩ w) (sa : Option Addr) (sc : Nat) (st : List Int) (hs : Row icell 1 w.heap.size w sa st) (hsl : st.length ≤ sc) (hsm : sc ≤ maxLen) (hvl5 : vs.length ≤ 1000000) (hrl5 : rs.length ≤ 1000000) (hcl5 : ∀ x ∈ rs, x.r.conds.length ≤ 1000000) (hst5 : st.length ≤ 1000) :
    Calls Try.prog 37 #[.agg #[.slice va vs.length vc, .slice ra rs.length rc], .slice sa st.length sc] w fun z w' => z = .returned (.tuple #[.int .i64 (decR (tbOf vs rs) st).1, .int .i64 (decR (tbOf vs rs) st).2]) ∧ Kept w w' := by
  have htv : Row Span.cells 2 w.heap.size w va vs := ht.vars
  have hvm : vc ≤ maxLen := ht.vm
  have hrm : rc ≤ maxLen := ht.rm
  have hvl : vs.length ≤ vc := ht.vl
  have hrl : rs.length ≤ rc := ht.rl
  unfold maxLen at hvm hrm
  have hsm' := hsm
  unfold maxLen at hsm'
  cases hv : validB (tbOf vs rs)
  · have HCK := Lib.hid (bad_check hv)
    have HD := Lib.hid (show decR (tbOf vs rs) st = (0, 76) by unfold decR; rw [hv]; rfl)
    clear hv
    go_enter Try.func37, Try.ntmps37
    go_wp2_with (go_at_call 43; (with_reducible refine (r_CheckRows vs va vc rs ra rc _ (ht.later (by (exact kpt))) hvl5 hrl5 hcl5).mono ?_); rw [HCK.out]; rintro z w1 ⟨rfl, hb1⟩; refine Blk.thru (b := w.heap.size) (arr := ?_) (t := ?_) ?_ hb1 ?_; rotate_left 2; (focus (exact blk)); intro r0; have r0c0 := r0.cell 0; have r0f0 := r0.free 0; have r0c1 := r0.cell 1; have r0f1 := r0.free 1; have r0l := r0.lt; simp at r0c0 r0c1)
    exact bodyPost_ret (v := .tuple #[.int .i64 0, .int .i64 76]) (by simp [results, Try.results37, go_sem]) rfl ⟨by rw [HD.out], by (exact kpt)⟩
  · have HCK := Lib.hid (good_check hv)
    obtain ⟨q1, q2, q3, q4⟩ := valid_parts.1 hv
    have hn := inB_iff.1 q1
    rw [show (tbOf vs rs).vars = vs from rfl] at hn
    rw [rows_len] at q2
    have hr : rs.length ≤ 1000 := by omega
    have hn3 : 1 ≤ vs.length ∧ vs.length ≤ 3 := by omega
    have hce : ∀ x ∈ rs, x.r.conds.length = vs.length := fun x hx => (q4 x.r (mem_rowsT hx)).1
    have HV := Lib.hid hv
    by_cases hl : st.length = vs.length
    · have e1 : ((st.length : Int) != (vs.length : Int)) = false := by simp [hl]
      have hST : st.length ≤ vs.length := by omega
      have HD2 := Lib.hid (fun (h : hits vs st = false) => (show decR (tbOf vs rs) st = (0, 2) by unfold decR; rw [hv, show (tbOf vs rs).vars = vs from rfl, if_pos rfl, if_pos hl, h]; rfl))
      have HD3 := Lib.hid (fun (h : hits vs st = true) => (show decR (tbOf vs rs) st = (match matchL (tbOf vs rs) st with | [] => (0, 6) | [i] => ((i : Int), 0) | _ => (0, 77)) by unfold decR; rw [hv, show (tbOf vs rs).vars = vs from rfl, if_pos rfl, if_pos hl, if_pos h]))
      have HMT := Lib.hid (fun (W : World) (hW : Kept w W) => (r_Matching ⟨vs, va, vc, rs, ra, rc⟩ W (ht.later hW) sa sc st (hs.later hW (Nat.le_refl _)) hsl hsm hr (fun x hx => by rw [hce x hx]; exact hST) : Calls Try.prog 83 #[.agg #[.slice va vs.length vc, .slice ra rs.length rc], .slice sa st.length sc] W fun z w' => ∃ v, z = .returned v ∧ w'.ownsRow W.heap.size 3 1 v (matchL (tbOf vs rs) st).length ((natsI (matchL (tbOf vs rs) st)).flatMap icell) ∧ Kept W w'))
      have HL := Lib.hid hl
      clear q1 q2 q3 q4 hn hv hce hl
      go_enter Try.func37, Try.ntmps37
      go_wp2_with (go_at_call 43; (with_reducible refine (r_CheckRows vs va vc rs ra rc _ (ht.later (by (exact kpt))) hvl5 hrl5 hcl5).mono ?_); rw [HCK.out]; rintro z w1 ⟨rfl, hb1⟩; refine Blk.thru (b := w.heap.size) (arr := ?_) (t := ?_) ?_ hb1 ?_; rotate_left 2; (focus (exact blk)); intro r0; have r0c0 := r0.cell 0; have r0f0 := r0.free 0; have r0c1 := r0.cell 1; have r0f1 := r0.free 1; have r0l := r0.lt; simp at r0c0 r0c1)
      go_loopw [7] (fun s7 wr => ∃ k : Nat, k ≤ st.length ∧ s7 = .int .i64 (k : Int) ∧ hits vs (st.take k) = true ∧ Blk wr w.heap.size #[.slice va vs.length vc, .slice ra rs.length rc] 88 ∧ Kept w wr) (fun s7 _ => st.length - (intOf s7).toNat)
      case atStart => exact ⟨0, Nat.zero_le _, rfl, by cases vs <;> rfl, by (exact blk), by (exact kpt)⟩
      case round =>
        clear r0 r0c0 r0f0 r0c1 r0f1 r0l
        obtain ⟨k, hk, rfl, hh, r0, hkk⟩ := hrel
        by_cases hkt : k < st.length
        · have hkv : k < vs.length := by omega
          obtain ⟨sb, so, rfl, hsb, x0⟩ := int_row (hs.later hkk (Nat.le_refl _)) k hkt
          obtain ⟨vb, vo, rfl, hvb, c0, c1⟩ := Span.row (htv.later hkk (Nat.le_refl _)) k hkv
          have HTK := Lib.hid (show hits vs (st.take (k + 1)) = inB st[k] vs[k].lo vs[k].hi by
            rw [List.take_succ_eq_append_getElem hkt, hits_snoc (by rw [List.length_take]; omega), hh]
            simp only [List.length_take, Nat.min_eq_left (Nat.le_of_lt hkt), Bool.true_and])
          obtain ⟨y, hy⟩ : ∃ x, x = st[k] := ⟨_, rfl⟩
          obtain ⟨c, hc⟩ : ∃ x, x = vs[k] := ⟨_, rfl⟩
          rw [← hy, ← hc] at HTK
          rw [← hy] at x0
          rw [← hc] at c0 c1
          clear hy hc hh
          have i0 : (0 : Int) ≤ (k : Int) := by omega
          have i1 : (k : Int) < (st.length : Int) := by omega
          have i2 : (k : Int) < (vs.length : Int) := by omega
          have y0 := fun g_ : Later wr => g_.some x0
          have y1 := fun g_ : Later wr => g_.some c0
          have y2 := fun g_ : Later wr => g_.some c1
          have r0c0 := fun g : Later wr => (r0.later g).cell 0
          have r0f0 := fun g : Later wr => (r0.later g).free 0
          have r0c1 := fun g : Later wr => (r0.later g).cell 1
          have r0f1 := fun g : Later wr => (r0.later g).free 1
          have r0l := fun g : Later wr => (r0.later g).lt
          simp at r0c0 r0c1
          clear x0 c0 c1
          cases hb : inB y c.lo c.hi
          · have HB := Lib.hid (show inB y c.lo c.hi = false from hb)
            have HDD := Lib.hid (HD2.out (hits_fail (k := k + 1) (by rw [HTK.out]; exact hb)))
            clear hb HTK
            go_upto_region 9 with fail
            refine Later.region (by kernel_rfl) (by kernel_rfl) ?_
            repeat (first | go_big_quiet_skip | (go_big_quiet_want; go_big_quiet_op; first | go_big_quiet_on | (apply Exists.intro; refine ⟨fun g_ => ?_, ?_⟩; (focus (first | (go_at_call 53; with_reducible exact Later.call ((r_within _ _ _ _).mono fun e w' h => ⟨h.1, h.2 ▸ Below.refl _ _⟩)))); go_big_quiet_on)))
            refine wpQuiet_nil ?_
            intro gg
            have hkgg := Kept.drop hkk gg.ok
            rw [HB.out]
            go_wp2
            exact bodyPost_ret (v := .tuple #[.int .i64 0, .int .i64 2]) (by simp [results, Try.results37, go_sem]) rfl ⟨by rw [HDD.out], by (exact kpt)⟩
          · have HB := Lib.hid (show inB y c.lo c.hi = true from hb)
            have HN := Lib.hid (show hits vs (st.take (k + 1)) = true by rw [HTK.out]; exact hb)
            clear hb HTK
            go_upto_region 9 with fail
            refine Later.region (by kernel_rfl) (by kernel_rfl) ?_
            repeat (first | go_big_quiet_skip | (go_big_quiet_want; go_big_quiet_op; first | go_big_quiet_on | (apply Exists.intro; refine ⟨fun g_ => ?_, ?_⟩; (focus (first | (go_at_call 53; with_reducible exact Later.call ((r_within _ _ _ _).mono fun e w' h => ⟨h.1, h.2 ▸ Below.refl _ _⟩)))); go_big_quiet_on)))
            refine wpQuiet_nil ?_
            intro gg
            have hkgg := Kept.drop hkk gg.ok
            rw [HB.out]
            go_wp2
            go_roundw
            case rel => exact ⟨k + 1, by omega, by go_num, HN.out, r0.later gg, hkgg⟩
            case measure => simp [intOf]; omega
        · obtain rfl : st.length = k := by omega
          rw [List.take_length] at hh
          have HDD := Lib.hid (HD3.out hh)
          have hmf := match_few (d := tbOf vs rs) st
          rw [rows_len] at hmf
          clear HD2 HD3 hh
          have r0c0 := r0.cell 0
          have r0f0 := r0.free 0
          have r0c1 := r0.cell 1
          have r0f1 := r0.free 1
          have r0l := r0.lt
          simp at r0c0 r0c1
          match hM : matchL (tbOf vs rs) st with
          | [] =>
            have HD4 := Lib.hid (show decR (tbOf vs rs) st = (0, 6) by rw [HDD.out, hM])
            have l0 : (((matchL (tbOf vs rs) st).length : Int) == 0) = true := by rw [hM]; rfl
            clear hM
            go_wp2_with (go_at_call 83; (with_reducible refine (HMT.out _ (by (exact kpt))).mono ?_); rintro z w5 ⟨v5, rfl, ho5, hb5⟩; obtain ⟨ad5, cp5, rfl, hrw5, hcp5, hcm5⟩ := owns_row (enc := icell) (k := 1) (xs := natsI (matchL (tbOf vs rs) st)) (fun _ => rfl) (by rw [natsI_len]; exact ho5); simp only [natsI_len] at hcp5 ⊢)
            exact bodyPost_ret (v := .tuple #[.int .i64 0, .int .i64 6]) (by simp [results, Try.results37, go_sem]) rfl ⟨by rw [HD4.out], by (exact kpt)⟩
          | [i] =>
            have HD4 := Lib.hid (show decR (tbOf vs rs) st = ((i : Int), 0) by rw [HDD.out, hM])
            have hlen1 : (matchL (tbOf vs rs) st).length = 1 := by rw [hM]; rfl
            obtain ⟨i, hi⟩ : ∃ z : Int, z = (i : Int) := ⟨_, rfl⟩
            rw [← hi] at HD4
            have HI0 := Lib.hid (show ∀ h, (natsI (matchL (tbOf vs rs) st))[0]'h = i from fun h => by simp only [hM]; rw [hi]; rfl)
            clear hM hi
            have l0 : (((matchL (tbOf vs rs) st).length : Int) == 0) = false := by rw [hlen1]; rfl
            have l1 : ¬ (1 : Int) < ((matchL (tbOf vs rs) st).length : Int) := by omega
            have l2 : (0 : Int) < ((matchL (tbOf vs rs) st).length : Int) := by omega
            have HLN := Lib.hid hlen1
            clear hlen1
            go_wp2_with (go_at_call 83; (with_reducible refine (HMT.out _ (by (exact kpt))).mono ?_); rintro z w5 ⟨v5, rfl, ho5, hb5⟩; obtain ⟨ad5, cp5, rfl, hrw5, hcp5, hcm5⟩ := owns_row (enc := icell) (k := 1) (xs := natsI (matchL (tbOf vs rs) st)) (fun _ => rfl) (by rw [natsI_len]; exact ho5); simp only [natsI_len] at hcp5 ⊢; obtain ⟨b5, o5, rfl, hbl5, x5⟩ := int_row hrw5 0 (by rw [natsI_len, HLN.out]; omega); simp only [Nat.add_zero] at x5; rw [show (natsI (matchL (tbOf vs rs) st))[0]'(by rw [natsI_len, HLN.out]; omega) = i from HI0.out _] at x5)
            exact bodyPost_ret (v := .tuple #[.int .i64 i, .int .i64 0]) (by simp [results, Try.results37, go_sem]) rfl ⟨by rw [HD4.out], by (exact kpt)⟩
          | i :: j :: l =>
            have HD4 := Lib.hid (show decR (tbOf vs rs) st = (0, 77) by rw [HDD.out, hM])
            have l0 : (((matchL (tbOf vs rs) st).length : Int) == 0) = false := by rw [hM]; simp; omega
            have l1 : (1 : Int) < ((matchL (tbOf vs rs) st).length : Int) := by rw [hM]; simp; omega
            clear hM
            go_wp2_with (go_at_call 83; (with_reducible refine (HMT.out _ (by (exact kpt))).mono ?_); rintro z w5 ⟨v5, rfl, ho5, hb5⟩; obtain ⟨ad5, cp5, rfl, hrw5, hcp5, hcm5⟩ := owns_row (enc := icell) (k := 1) (xs := natsI (matchL (tbOf vs rs) st)) (fun _ => rfl) (by rw [natsI_len]; exact ho5); simp only [natsI_len] at hcp5 ⊢)
            exact bodyPost_ret (v := .tuple #[.int .i64 0, .int .i64 77]) (by simp [results, Try.results37, go_sem]) rfl ⟨by rw [HD4.out], by (exact kpt)⟩
    · have e1 : ((st.length : Int) != (vs.length : Int)) = true := by simp; omega
      have HD := Lib.hid (show decR (tbOf vs rs) st = (0, 2) by unfold decR; rw [hv, show (tbOf vs rs).vars = vs from rfl, if_pos rfl, if_neg hl])
      clear q1 q2 q3 q4 hn hv hce hl
      go_enter Try.func37, Try.ntmps37
      go_wp2_with (go_at_call 43; (with_reducible refine (r_CheckRows vs va vc rs ra rc _ (ht.later (by (exact kpt))) hvl5 hrl5 hcl5).mono ?_); rw [HCK.out]; rintro z w1 ⟨rfl, hb1⟩; refine Blk.thru (b := w.heap.size) (arr := ?_) (t := ?_) ?_ hb1 ?_; rotate_left 2; (focus (exact blk)); intro r0; have r0c0 := r0.cell 0; have r0f0 := r0.free 0; have r0c1 := r0.cell 1; have r0f1 := r0.free 1; have r0l := r0.lt; simp at r0c0 r0c1)
      exact bodyPost_ret (v := .tuple #[.int .i64 0, .int .i64 2]) (by simp [results, Try.results37, go_sem]) rfl ⟨by rw [HD.out], by (exact kpt)⟩

theorem r_Gap (vs : List Span) (va : Option Addr) (vc : Nat) (rs : List RowM) (ra : Option Addr) (rc : Nat) (w : World) (ht : TabAt ⟨vs, va, vc, rs, ra, rc⟩ w) (hvl5 : vs.length ≤ 1000000) (hrl5 : rs.length ≤ 1000000) (hcl5 : ∀ x ∈ rs, x.r.conds.length ≤ 1000000) :
    Calls Try.prog 39 #[.agg #[.slice va vs.length vc, .slice ra rs.length rc]] w fun z w' => ∃ v s E, GapRes (tbOf vs rs) E s ∧ z = .returned (.tuple #[v, .int .i64 E]) ∧ w'.ownsRow w.heap.size 3 1 v (s).length ((s).flatMap icell) ∧ Kept w w' := by
  have htv : Row Span.cells 2 w.heap.size w va vs := ht.vars
  have hvm : vc ≤ maxLen := ht.vm
  have hrm : rc ≤ maxLen := ht.rm
  have hvl : vs.length ≤ vc := ht.vl
  have hrl : rs.length ≤ rc := ht.rl
  unfold maxLen at hvm hrm
  cases hv : validB (tbOf vs rs)
  · have HCK := Lib.hid (bad_check hv)
    have HV := Lib.hid hv
    clear hv
    go_enter Try.func39, Try.ntmps39
    go_wp2_with (go_at_call 43; (with_reducible refine (r_CheckRows vs va vc rs ra rc _ (ht.later (by (exact kpt))) hvl5 hrl5 hcl5).mono ?_); rw [HCK.out]; rintro z w1 ⟨rfl, hb1⟩; refine Blk.thru (b := w.heap.size) (arr := ?_) (t := ?_) ?_ hb1 ?_; rotate_left 2; (focus (exact blk)); intro r0; have r0c0 := r0.cell 0; have r0f0 := r0.free 0; have r0c1 := r0.cell 1; have r0f1 := r0.free 1; have r0l := r0.lt; simp at r0c0 r0c1)
    exact bodyPost_ret (v := .tuple #[.slice none 0 0, .int .i64 76]) (by simp [results, Try.results39, go_sem]) rfl ⟨_, [], 76, .inl ⟨HV.out, rfl, rfl⟩, rfl, owns_nil (α := Int) (enc := icell), by (exact kpt)⟩
  · have HCK := Lib.hid (good_check hv)
    obtain ⟨q1, q2, q3, q4⟩ := valid_parts.1 hv
    have hn := inB_iff.1 q1
    rw [show (tbOf vs rs).vars = vs from rfl] at hn
    rw [rows_len] at q2
    have hr : rs.length ≤ 1000 := by omega
    have hn3 : 1 ≤ vs.length ∧ vs.length ≤ 3 := by omega
    have hce : ∀ x ∈ rs, x.r.conds.length = vs.length := fun x hx => (q4 x.r (mem_rowsT hx)).1
    have HV := Lib.hid hv
    clear q1 q2 q3 q4 hn hv hce
    go_enter Try.func39, Try.ntmps39
    go_upto_region 5 with (first | (go_at_call 43; (with_reducible refine (r_CheckRows vs va vc rs ra rc _ (ht.later (by (exact kpt))) hvl5 hrl5 hcl5).mono ?_); rw [HCK.out]; rintro z w1 ⟨rfl, hb1⟩; refine Blk.thru (b := w.heap.size) (arr := ?_) (t := ?_) ?_ hb1 ?_; rotate_left 2; (focus (exact blk)); intro r0; have r0c0 := r0.cell 0; have r0f0 := r0.free 0; have r0c1 := r0.cell 1; have r0f1 := r0.free 1; have r0l := r0.lt; simp at r0c0 r0c1) | (go_at_call 86; (with_reducible refine (r_first vs va vc rs ra rc _ (ht.later (by (exact kpt))) HV.out 0 0).mono ?_); rintro z w2 ⟨v2, r, hfr, rfl, ho2, hb2⟩; refine Blk.thru (b := w.heap.size) (arr := ?_) (t := ?_) ?_ hb2 ?_; rotate_left 2; (focus (exact blk)); intro r0; have r0c0 := r0.cell 0; have r0f0 := r0.free 0; have r0c1 := r0.cell 1; have r0f1 := r0.free 1; have r0l := r0.lt; simp at r0c0 r0c1; obtain ⟨ad2, cp2, rfl, hrw2, hcp2, hcm2⟩ := owns_row (enc := icell) (k := 1) (xs := outS r) (fun _ => rfl) ho2))
    have hf2 := FirstExt.congr (W' := W0) (fun t => W0_in _ t) hfr
    clear hfr
    cases r with
    | none =>
      have HF := Lib.hid hf2
      have l0 : ((([] : List Int).length : Int) == 0) = true := rfl
      simp only [outS, Option.getD_none]
      clear hf2
      go_wp2
      exact bodyPost_ret (v := .tuple #[.slice none 0 0, .int .i64 6]) (by simp [results, Try.results39, go_sem]) rfl ⟨_, [], 6, .inr ⟨HV.out, none, HF.out, rfl, rfl⟩, rfl, owns_nil (α := Int) (enc := icell), by (exact kpt)⟩
    | some s =>
      have HL := Lib.hid (show s.length = vs.length from hf2.1.1)
      have HF := Lib.hid hf2
      simp only [outS, Option.getD_some] at ho2 hrw2 hcp2 ⊢
      have l0 : ((s.length : Int) == 0) = false := by have := HL.out; exact beq_eq_false_iff_ne.2 (by omega)
      clear hf2
      go_wp2
      exact bodyPost_ret (v := .tuple #[.slice ad2 s.length cp2, .int .i64 0]) (by simp [results, Try.results39, go_sem]) rfl ⟨_, s, 0, .inr ⟨HV.out, some s, HF.out, rfl, rfl⟩, rfl, owns_base ho2 (Kept.size (by (exact kpt))), by (exact kpt)⟩

theorem r_Twice (vs : List Span) (va : Option Addr) (vc : Nat) (rs : List RowM) (ra : Option Addr) (rc : Nat) (w : World) (ht : TabAt ⟨vs, va, vc, rs, ra, rc⟩ w) (hvl5 : vs.length ≤ 1000000) (hrl5 : rs.length ≤ 1000000) (hcl5 : ∀ x ∈ rs, x.r.conds.length ≤ 1000000) :
    Calls Try.prog 41 #[.agg #[.slice va vs.length vc, .slice ra rs.length rc]] w fun z w' => ∃ v s E i k, TwRes (tbOf vs rs) E s i k ∧ z = .returned (.tuple #[v, .int .i64 i, .int .i64 k, .int .i64 E]) ∧ w'.ownsRow w.heap.size 3 1 v (s).length ((s).flatMap icell) ∧ Kept w w' := by
  have htv : Row Span.cells 2 w.heap.size w va vs := ht.vars
  have hvm : vc ≤ maxLen := ht.vm
  have hrm : rc ≤ maxLen := ht.rm
  have hvl : vs.length ≤ vc := ht.vl
  have hrl : rs.length ≤ rc := ht.rl
  unfold maxLen at hvm hrm
  cases hv : validB (tbOf vs rs)
  · have HCK := Lib.hid (bad_check hv)
    have HV := Lib.hid hv
    clear hv
    go_enter Try.func41, Try.ntmps41
    go_wp2_with (go_at_call 43; (with_reducible refine (r_CheckRows vs va vc rs ra rc _ (ht.later (by (exact kpt))) hvl5 hrl5 hcl5).mono ?_); rw [HCK.out]; rintro z w1 ⟨rfl, hb1⟩; refine Blk.thru (b := w.heap.size) (arr := ?_) (t := ?_) ?_ hb1 ?_; rotate_left 2; (focus (exact blk)); intro r0; have r0c0 := r0.cell 0; have r0f0 := r0.free 0; have r0c1 := r0.cell 1; have r0f1 := r0.free 1; have r0l := r0.lt; simp at r0c0 r0c1)
    exact bodyPost_ret (v := .tuple #[.slice none 0 0, .int .i64 0, .int .i64 0, .int .i64 76]) (by simp [results, Try.results41, go_sem]) rfl ⟨_, [], 76, 0, 0, .inl ⟨HV.out, rfl, rfl, rfl, rfl⟩, rfl, owns_nil (α := Int) (enc := icell), by (exact kpt)⟩
  · have HCK := Lib.hid (good_check hv)
    obtain ⟨q1, q2, q3, q4⟩ := valid_parts.1 hv
    have hn := inB_iff.1 q1
    rw [show (tbOf vs rs).vars = vs from rfl] at hn
    rw [rows_len] at q2
    have hr : rs.length ≤ 1000 := by omega
    have hn3 : 1 ≤ vs.length ∧ vs.length ≤ 3 := by omega
    have hce : ∀ x ∈ rs, x.r.conds.length = vs.length := fun x hx => (q4 x.r (mem_rowsT hx)).1
    have HV := Lib.hid hv
    have hrw : (tbOf vs rs).rows.length ≤ 30 := by rw [rows_len]; exact q2
    clear q1 q3 q4 hn hv
    go_enter Try.func41, Try.ntmps41
    go_upto_region 5 with (first | (go_at_call 43; (with_reducible refine (r_CheckRows vs va vc rs ra rc _ (ht.later (by (exact kpt))) hvl5 hrl5 hcl5).mono ?_); rw [HCK.out]; rintro z w1 ⟨rfl, hb1⟩; refine Blk.thru (b := w.heap.size) (arr := ?_) (t := ?_) ?_ hb1 ?_; rotate_left 2; (focus (exact blk)); intro r0; have r0c0 := r0.cell 0; have r0f0 := r0.free 0; have r0c1 := r0.cell 1; have r0f1 := r0.free 1; have r0l := r0.lt; simp at r0c0 r0c1) | (go_at_call 86; (with_reducible refine (r_first vs va vc rs ra rc _ (ht.later (by (exact kpt))) HV.out 2 30).mono ?_); rintro z w2 ⟨v2, r, hfr, rfl, ho2, hb2⟩; refine Blk.thru (b := w.heap.size) (arr := ?_) (t := ?_) ?_ hb2 ?_; rotate_left 2; (focus (exact blk)); intro r0; have r0c0 := r0.cell 0; have r0f0 := r0.free 0; have r0c1 := r0.cell 1; have r0f1 := r0.free 1; have r0l := r0.lt; simp at r0c0 r0c1; obtain ⟨ad2, cp2, rfl, hrw2, hcp2, hcm2⟩ := owns_row (enc := icell) (k := 1) (xs := outS r) (fun _ => rfl) ho2))
    have hf2 := FirstExt.congr (W' := W2) (fun t => W2_in hrw t) hfr
    clear hfr
    cases r with
    | none =>
      have HF := Lib.hid hf2
      have l0 : ((([] : List Int).length : Int) == 0) = true := rfl
      simp only [outS, Option.getD_none]
      clear hf2
      go_wp2
      exact bodyPost_ret (v := .tuple #[.slice none 0 0, .int .i64 0, .int .i64 0, .int .i64 6]) (by simp [results, Try.results41, go_sem]) rfl ⟨_, [], 6, 0, 0, .inr ⟨HV.out, none, HF.out, rfl, rfl, rfl, rfl⟩, rfl, owns_nil (α := Int) (enc := icell), by (exact kpt)⟩
    | some s =>
      have hsl : s.length = vs.length := hf2.1.1
      have HL := Lib.hid hsl
      have HF := Lib.hid hf2
      have hw2 : 1 < (matchL (tbOf vs rs) s).length := of_decide_eq_true hf2.2.2.1
      have hmf := match_few (d := tbOf vs rs) s
      simp only [outS, Option.getD_some] at ho2 hrw2 hcp2 ⊢
      have l0 : ((s.length : Int) == 0) = false := beq_eq_false_iff_ne.2 (by omega)
      have HMT := Lib.hid (fun (W : World) (hW : Kept w2 W) => (r_Matching ⟨vs, va, vc, rs, ra, rc⟩ W (ht.later (Kept.drop (by (exact kpt)) hW)) ad2 cp2 s (hrw2.later hW (Nat.le_refl _)) hcp2 hcm2 hr (fun x hx => by rw [hce x hx, hsl]; exact Nat.le_refl _) : Calls Try.prog 83 #[.agg #[.slice va vs.length vc, .slice ra rs.length rc], .slice ad2 s.length cp2] W fun z w' => ∃ v, z = .returned v ∧ w'.ownsRow W.heap.size 3 1 v (matchL (tbOf vs rs) s).length ((natsI (matchL (tbOf vs rs) s)).flatMap icell) ∧ Kept W w'))
      obtain ⟨i, hi⟩ : ∃ z, z = (natsI (matchL (tbOf vs rs) s))[0]'(by rw [natsI_len]; omega) := ⟨_, rfl⟩
      obtain ⟨k, hk⟩ : ∃ z, z = (natsI (matchL (tbOf vs rs) s))[1]'(by rw [natsI_len]; omega) := ⟨_, rfl⟩
      have HTW := Lib.hid (show TwRes (tbOf vs rs) 0 s i k from .inr ⟨HV.out, some s, hf2, rfl, rfl, by rw [hi]; simp [natsI_len, show 0 < (matchL (tbOf vs rs) s).length by omega], by rw [hk]; simp [natsI_len, hw2]⟩)
      have HI := Lib.hid hi
      have HK := Lib.hid hk
      clear hf2 hi hk hsl hce hrw q2
      go_upto_region 8 with (go_at_call 83; (with_reducible refine (HMT.out _ (by (exact kpt))).mono ?_); rintro z w5 ⟨v5, rfl, ho5, hb5⟩; obtain ⟨ad5, cp5, rfl, hrw5, hcp5, hcm5⟩ := owns_row (enc := icell) (k := 1) (xs := natsI (matchL (tbOf vs rs) s)) (fun _ => rfl) (by rw [natsI_len]; exact ho5); simp only [natsI_len] at hcp5 ⊢)
      obtain ⟨b5, o5, rfl, hbl5, x0⟩ := int_row hrw5 0 (by rw [natsI_len]; omega)
      obtain ⟨b6, o6, e6, hbl6, x1⟩ := int_row hrw5 1 (by rw [natsI_len]; omega)
      simp only [Option.some.injEq, Addr.mk.injEq, and_true] at e6
      obtain ⟨rfl, rfl⟩ := e6
      rw [← HI.out] at x0
      rw [← HK.out] at x1
      simp only [Nat.add_zero] at x0
      have y0 := fun g_ : Later w5 => g_.some x0
      have y1 := fun g_ : Later w5 => g_.some x1
      have l1 : (0 : Int) < ((matchL (tbOf vs rs) s).length : Int) := by omega
      have l2 : (1 : Int) < ((matchL (tbOf vs rs) s).length : Int) := by omega
      clear x0 x1 hrw5
      refine Later.region (by kernel_rfl) (by kernel_rfl) ?_
      repeat (first | go_big_quiet_skip | (go_big_quiet_want; go_big_quiet_op; first | go_big_quiet_on | (apply Exists.intro; refine ⟨fun g_ => ?_, ?_⟩; (focus (first | fail)); go_big_quiet_on)))
      refine wpQuiet_nil ?_
      intro gg
      have hkg := gg.ok
      go_wp2
      exact bodyPost_ret (v := .tuple #[.slice ad2 s.length cp2, .int .i64 i, .int .i64 k, .int .i64 0]) (by simp [results, Try.results41, go_sem]) rfl ⟨_, s, 0, i, k, HTW.out, rfl, owns_base (owns_keep (owns_keep ho2 hb5) hkg) (Kept.size (by (exact kpt))), by (exact kpt)⟩

end Go.Proofs.Ytacbkbilbmkjnaa

/-
  Rules of acts at the mast that read the port; what acts do.
-/
namespace Go.Proofs.Ytacbkbilbmkjnaa
open Go.RowKit Bal Bal.Trim Bal.Mast
set_option linter.unusedVariables false
set_option linter.unusedSimpArgs false
set_option maxHeartbeats 1000000
set_option maxRecDepth 10000

theorem rng_one (x lo hi : Int) : rng [x] lo hi = inB x lo hi := by simp [rng]
theorem f_rangedB (lo hi x : Int) (b : Nat) (t : TypeId) (w : World) (hb : Blk w b #[.int .i64 x] t) :
    Calls Try.prog 51 #[.int .i64 lo, .int .i64 hi, .slice (some ⟨b, 0, none⟩) 1 1] w fun e w' => e = .returned (.bool (inB x lo hi)) ∧ Kept w w' := by
  have := f_ranged lo hi (some ⟨b, 0, none⟩) 1 1 [x] w rfl (Row.one (enc := icell) hb rfl) (by decide)
  rw [rng_one] at this
  exact this
end Go.Proofs.Ytacbkbilbmkjnaa

/-
  Regions that draw their order within a round of a loop over an iterator (at the wide fence): what is shown of them outside holds there too. No program in sight.
-/
namespace Bal
open Go Go.RowKit
section
variable {P : Program} {Q : Exit → Act → World → Prop} {md : Region.Mode} {ops : Array Oper} {l : Nat} {n : Nat}

end

/-! ### A region without guards whose operations come in any order: one look at each operation -/
section
variable {P : Program} {Q : Exit → Act → World → Prop} {md : Region.Mode} {ops : Array Oper}
end

/-- what is kept is grown by nothing -/
theorem grown_of_kept {A B : World} (h : Kept A B) : A.grownBy B none := ⟨h.os, h.tape, h.output, h.size, fun k hk _ => h.block k hk⟩
theorem abides_kept {β : Type} {C : Nat} {J : β → World → Prop} (hJ : AbidesFrom C J) {s : β} {A B : World} (hs : J s A) (h : Kept A B) : J s B := hJ s A B none hs (grown_of_kept h) (fun r e => by cases e)
theorem keepsFrom_kept {W W' : World} (h : Kept W W') (B : Nat) : KeepsFrom B W W' :=
  ⟨h.size, fun k _ _ hk _ => (h.block k (Array.getElem?_eq_some_iff.1 hk).1).trans hk⟩
theorem Blk.belowR {W W' : World} {b B : Nat} {arr : Array Value} {t : TypeId} (h : Blk W b arr t) (hb : Below B W W') (hB : b < B) : Blk W' b arr t := (hb.block b hB).trans h
theorem blk_from {β : Type} (B b : Nat) (arr : Array Value) (t : TypeId) : OwnFrom B (fun (_ : β) W => Blk W b arr t) := by
  intro _ X Y row hb hg hr
  refine (hg.block b (Array.getElem?_eq_some_iff.1 hb).1 (fun e => ?_)).trans hb
  obtain ⟨_, _, ho, hc⟩ := hr b e.symm
  rw [show X.heap[b]? = _ from hb] at ho
  cases ho
  cases hc
end Bal

/-
  A range over an iterator that keeps its state in cells of its own, and hands over values that show them: its contract, and the law of the caller. No program in sight.
-/
namespace Bal
open Go Go.RowKit
variable {F : Fence} {n : Nat} {P : Program}

/-! ### The marks that the loops have left -/
def marks (Ds : List Nat) : List Deferred := Ds.map fun D => { target := .collected D, args := #[] }
/-- each mark's block is there, with no call -/
def Marked (B : Nat) (Ds : List Nat) (W : World) : Prop := Ds.Nodup ∧ ∀ D ∈ Ds, B ≤ D ∧ W.heap[D]? = some (.deferred (some []))
theorem Marked.keep {B C : Nat} {Ds : List Nat} {W W' : World} (h : Marked B Ds W) (hb : Below C W W') (hC : W.heap.size ≤ C) : Marked B Ds W' :=
  ⟨h.1, fun D hD => ⟨(h.2 D hD).1, (hb.block D (by have := (Array.getElem?_eq_some_iff.1 (h.2 D hD).2).1; omega)).trans (h.2 D hD).2⟩⟩
theorem Marked.from {B C : Nat} {Ds : List Nat} {W W' : World} (h : Marked B Ds W) (hk : KeepsFrom C W W') (hC : C ≤ B) : Marked B Ds W' :=
  ⟨h.1, fun D hD => ⟨(h.2 D hD).1, hk.same D _ (by have := (h.2 D hD).1; omega) (h.2 D hD).2 rfl⟩⟩
/-- a function leaves through its marks: what its ending says must abide their turn -/
theorem leaves_marks {fn : Func} {tmps : Array Value} {R : Ending → World → Prop} {B : Nat} (S : World → Prop) (hS : OwnFrom B (fun (_ : Unit) W => S W)) (hend : ∀ W, S W → LeavesIn F n P fn tmps R [] .returning W) :
    ∀ (Ds : List Nat) (W : World), Marked B Ds W → S W → LeavesInM F n P fn tmps R (marks Ds) .returning W
  | [], W, _, h => hend W h
  | D :: Ds, W, hm, h => by
    obtain ⟨hnd, hm⟩ := hm
    obtain ⟨hB, hD⟩ := hm D (by simp)
    refine ⟨by simp, .inl ⟨D, _, rfl, run_takeDeferred hD, leaves_marks S hS hend Ds _ ⟨(List.nodup_cons.1 hnd).2, fun E hE => ?_⟩ (hS.putObj (s := ()) _ h hB hD rfl)⟩⟩
    have hne : E ≠ D := fun e => (List.nodup_cons.1 hnd).1 (e ▸ hE)
    exact ⟨(hm E (by simp [hE])).1, (World.putObj_heap_other hne).trans (hm E (by simp [hE])).2⟩
end Bal

/-
  A region that draws its order: some operations are taken first, two may then come up in either order, the rest is walked as in XHeld. No program in sight.
-/
namespace Bal
open Go Go.RowKit

section
variable {P : Program} {ops : Array Oper} {md : Region.Mode} {S : World → Prop} {Q : Exit → Act → World → Prop}

/-- operations that are taken first: all yield under S -/
def TakenAll (P : Program) (ops : Array Oper) (S : World → Prop) (K : Act → World → Prop) : List Oper → Act → World → Prop
  | [], a, w => K a w
  | o :: r, a, w => ∃ v, YieldsIf P ops S o v a ∧ TakenAll P ops S K r (a.put o.dst v) w
def marked : List Nat → Array Bool → Array Bool
  | [], listed => listed
  | i :: is, listed => marked is (listed.setIfInBounds i true)
def takenB (md : Region.Mode) (ops : Array Oper) : List Nat → Array Bool → Bool
  | [], _ => true
  | i :: is, listed => (Region.ready md ops listed).contains i && Region.free md ops listed i && decide (i < ops.size) && takenB md ops is (listed.setIfInBounds i true)

theorem lastOk_size : LastOk md ops ops.size := ⟨fun h => absurd h (Nat.lt_irrefl _), fun h => absurd h (Nat.lt_irrefl _), fun h => absurd h (Nat.lt_irrefl _)⟩
theorem lastInv_size (listed : Array Bool) : LastInv md ops ops.size listed := fun h => absurd h (Nat.lt_irrefl _)

theorem wpAnyE_of_taken (hsel : Region.noSelect ops = true) (hQ : ∀ c a d v w, Q (.panic c) (Act.put a d v) w → Q (.panic c) a w) {K : Act → World → Prop} {g : Nat} :
    ∀ (is : List Nat) (l : List Oper) (listed : Array Bool) (a : Act) (w : World), is.map (fun i => ops[i]?) = l.map some → takenB md ops is listed = true → S w →
      (∀ a, K a w → wpAnyE P md ops Q S ops.size g (marked is listed) a w) → TakenAll P ops S K l a w → wpAnyE P md ops Q S ops.size (l.length + g) listed a w
  | [], [], listed, a, w, _, _, _, hK, h => by rw [List.length_nil, Nat.zero_add]; exact hK a h
  | [], _ :: _, _, _, _, hm, _, _, _, _ => by simp at hm
  | _ :: _, [], _, _, _, hm, _, _, _, _ => by simp at hm
  | i :: is, o :: l, listed, a, w, hm, hB, hS, hK, h => by
    simp only [List.map_cons, List.cons.injEq] at hm
    obtain ⟨h0, hm'⟩ := hm
    simp only [takenB, Bool.and_eq_true, decide_eq_true_eq] at hB
    obtain ⟨⟨⟨hr, hf⟩, hlt⟩, hB'⟩ := hB
    obtain ⟨v, hy, hT⟩ := h
    have hr' : i ∈ Region.ready md ops listed := by simpa using hr
    rw [show (o :: l).length + g = (l.length + g) + 1 by simp only [List.length_cons]; omega]
    exact wpAnyE_first lastOk_size (by omega) h0 (Region.noSelect_spec hsel) (fun c a w => hQ c a _ _ w) _ listed a w (lastInv_size _) (Region.free_spec h0 hf) hr' hy hS
      (wpAnyE_of_taken hsel hQ is l _ _ _ hm' hB' hS hK hT)

/-- two operations, each ahead of the other, and what is then known of what they yielded -/
def Fork (P : Program) (ops : Array Oper) (Q : Exit → Act → World → Prop) (S : World → Prop) (R : Value → Value → World → Prop) (oi oj : Oper) (K : Act → World → Prop) (a : Act) (w : World) : Prop :=
  wpList P ops (onward (fun a1 w1 => S w1 ∧ wpList P ops (onward (fun a2 w2 => S w2 ∧ ∃ u v, a2 = (a.put oi.dst u).put oj.dst v ∧ R u v w2) Q) [oj] a1 w1) Q) [oi] a w ∧
  wpList P ops (onward (fun a1 w1 => S w1 ∧ wpList P ops (onward (fun a2 w2 => S w2 ∧ ∃ u v, a2 = (a.put oj.dst v).put oi.dst u ∧ R u v w2) Q) [oi] a1 w1) Q) [oj] a w ∧
  ∀ u v w2, S w2 → R u v w2 → K ((a.put oi.dst u).put oj.dst v) w2

theorem wpAnyE_fork {i j n g : Nat} {oi oj : Oper} {R : Value → Value → World → Prop} {K : Act → World → Prop} {listed : Array Bool} {a : Act} {w : World} (h0 : ops[i]? = some oi) (h0' : ops[j]? = some oj)
    (hd : ∀ d, oi.dst = some d → oj.dst ≠ some d) (hr : Region.ready md ops listed = [i, j]) (hri : Region.ready md ops (listed.setIfInBounds i true) = [j]) (hrj : Region.ready md ops (listed.setIfInBounds j true) = [i])
    (hij : i ≠ j) (h : Fork P ops Q S R oi oj K a w) (hK : ∀ a w, S w → K a w → wpAnyE P md ops Q S n g ((listed.setIfInBounds i true).setIfInBounds j true) a w) : wpAnyE P md ops Q S n (g + 2) listed a w := by
  obtain ⟨h1, h2, h3⟩ := h
  have one : ∀ {k : Nat} {o : Oper} {K : Act → World → Prop} {a : Act} {w : World}, ops[k]? = some o → wpList P ops (onward K Q) [o] a w → wpOp P ops Q k K a w := by
    intro k o K a w hk h
    refine wpOp_onward ?_
    unfold wpOp
    simp only [hk]
    exact h
  refine ⟨fun h => (by rw [hr] at h; cases h), fun k hk => ?_⟩
  rw [hr] at hk
  rcases List.mem_cons.1 hk with rfl | hk
  · refine wpOp_mono (fun a1 w1 hh => ⟨.inr hh.1, fun h => (by rw [hri] at h; cases h), fun k2 hk2 => ?_⟩) (one h0 h1)
    rw [hri] at hk2
    obtain rfl : k2 = j := by simpa using hk2
    refine wpOp_mono (fun a2 w2 hh2 => ⟨.inr hh2.1, ?_⟩) (one h0' hh.2)
    obtain ⟨hS2, u, v, rfl, hR⟩ := hh2
    exact hK _ _ hS2 (h3 u v w2 hS2 hR)
  · obtain rfl : k = j := by simpa using hk
    refine wpOp_mono (fun a1 w1 hh => ⟨.inr hh.1, fun h => (by rw [hrj] at h; cases h), fun k2 hk2 => ?_⟩) (one h0' h2)
    rw [hrj] at hk2
    obtain rfl : k2 = i := by simpa using hk2
    refine wpOp_mono (fun a2 w2 hh2 => ⟨.inr hh2.1, ?_⟩) (one h0 hh.2)
    obtain ⟨hS2, u, v, rfl, hR⟩ := hh2
    rw [← Act.put_comm a u v (fun d hd' => hd d hd'), Array.setIfInBounds_comm _ _ (Ne.symm hij)]
    exact hK _ _ hS2 (h3 u v w2 hS2 hR)

/-- THE THEOREM -/
theorem fork_walk {P : Program} {id : Nat} {Q : Exit → Act → World → Prop} {a : Act} {w : World} {l : List Oper} (S : World → Prop) (R : Value → Value → World → Prop) (is1 : List Nat) (i j : Nat) (is2 : List (Bool × Nat)) (hm : P.follows .mixedOrders = true)
    (hB : (Region.noSelect l.toArray && takenB .any l.toArray is1 (Array.replicate l.toArray.size false) && is1.all (fun i => decide (i < l.length)) && decide (i < l.length) && decide (j < l.length) && decide (i ≠ j) &&
      decide (Region.ready .any l.toArray (marked is1 (Array.replicate l.toArray.size false)) = [i, j]) && decide (Region.ready .any l.toArray ((marked is1 (Array.replicate l.toArray.size false)).setIfInBounds i true) = [j]) &&
      decide (Region.ready .any l.toArray ((marked is1 (Array.replicate l.toArray.size false)).setIfInBounds j true) = [i]) &&
      heldB .any l.toArray l.toArray.size is2 (((marked is1 (Array.replicate l.toArray.size false)).setIfInBounds i true).setIfInBounds j true) && is2.all (fun i => decide (i.2 < l.length)) &&
      decide (is1.length + (is2.length + 2) = l.length) && decide ((l[i]?).map (·.dst) ≠ (l[j]?).map (·.dst))) = true)
    (hQ : ∀ c a d v w, Q (.panic c) (Act.put a d v) w → Q (.panic c) a w) (hS : S w.drew)
    (h : TakenAll P l.toArray S (fun a w => ∀ oi oj, l[i]? = some oi → l[j]? = some oj → Fork P l.toArray Q S R oi oj (fun a w => Held P l.toArray Q S (is2.filterMap fun x => (l[x.2]?).map fun o => (x.1, o)) a w) a w) (is1.filterMap fun i => l[i]?) a w.drew) : (Code.region id l.toArray true).wp P Q a w := by
  simp only [Bool.and_eq_true, decide_eq_true_eq, List.all_eq_true] at hB
  obtain ⟨⟨⟨⟨⟨⟨⟨⟨⟨⟨⟨⟨hsel, htk⟩, hlt1⟩, hi⟩, hj⟩, hij⟩, hr⟩, hri⟩, hrj⟩, hheld⟩, hlt2⟩, hlen⟩, hdst⟩ := hB
  obtain ⟨q1, q2⟩ := filterMap_ok2 is2 hlt2
  have p : ∀ is : List Nat, (∀ x ∈ is, x < l.length) → is.map (fun i => l.toArray[i]?) = (is.filterMap fun i => l[i]?).map some ∧ (is.filterMap fun i => l[i]?).length = is.length := by
    intro is
    induction is with
    | nil => simp
    | cons x is ih =>
      intro hx
      have hx0 := hx x (by simp)
      obtain ⟨e1, e2⟩ := ih fun y hy => hx y (by simp [hy])
      have e0 : l[x]? = some l[x] := List.getElem?_eq_getElem hx0
      rw [List.filterMap_cons, e0]
      simp only [List.map_cons, List.length_cons, e1, e2]
      exact ⟨by simp [hx0], trivial⟩
  obtain ⟨p1, p2⟩ := p is1 hlt1
  have ei : l[i]? = some l[i] := List.getElem?_eq_getElem hi
  have ej : l[j]? = some l[j] := List.getElem?_eq_getElem hj
  refine wp_region_any hm (wpAny_of_E (S := S) (n := l.toArray.size) _ _ _ _ ?_)
  have key := wpAnyE_of_taken (P := P) (S := S) (md := .any) (Q := Q) (g := is2.length + 2) hsel hQ is1 _ _ a w.drew p1 htk hS (fun a' hK => by
    have := wpAnyE_fork (P := P) (md := .any) (n := l.toArray.size) (g := is2.length) (i := i) (j := j) (by simp) (by simp) (by
      intro d hd he
      rw [ei, ej] at hdst
      simp only [Option.map_some, ne_eq, Option.some.injEq] at hdst
      exact hdst (by rw [hd, he])) hr hri hrj hij (hK _ _ ei ej) (fun a2 w2 hS2 hH => by
        have := wpAnyE_of_held (P := P) (S := S) (md := .any) (Q := Q) lastOk_size hsel hQ is2 _ _ a2 w2 q1 (.inl (lastInv_size _)) hheld (.inr hS2) hH
        rwa [q2] at this)
    exact this) h
  rw [p2, hlen] at key
  simpa using key
/-! ### The moves of a walk -/
theorem taken_take {K : Act → World → Prop} {o : Oper} {r : List Oper} {a : Act} {w : World} (v : Value) (hw : Region.wanted o (yielded ops a.tmps) = true) (hy : ∀ w', S w' → (execOp a.eval o).run P w' = .ok (.value v) w') (h : TakenAll P ops S K r (a.put o.dst v) w) :
    TakenAll P ops S K (o :: r) a w := ⟨v, .inl ⟨hw, hy⟩, h⟩
theorem taken_nil {K : Act → World → Prop} {a : Act} {w : World} (h : K a w) : TakenAll P ops S K [] a w := h
theorem fork_first {S : World → Prop} {K : Act → World → Prop} {a : Act} {w : World} (hS : S w) (h : K a w) : onward (fun a w => S w ∧ K a w) Q .normal a w := ⟨hS, h⟩
end
end Bal

/-
  The rows that match, in the program: the iterator.
-/
namespace Go.Proofs.Ytacbkbilbmkjnaa
open Go.RowKit Go.Shelf Bal Bal.Trim Bal.Mast
set_option linter.unusedVariables false
set_option linter.unusedSimpArgs false
set_option maxHeartbeats 4000000
set_option maxRecDepth 100000
attribute [local go_sem] Oper.semAt_some

theorem wpIn_scopeM {n : Nat} {P : Program} {c : Code} {Q : Exit → Act → World → Prop} {a : Act} {W : World} (h : c.wpIn Fence.wide n P (Exit.noGoto Q) a W) : (Code.scope c).wpIn Fence.wide n P Q a W := wpIn_wide.2 (wp_scope_straight (wpIn_wide.1 h))
theorem at_worldR {F : Fence} {n : Nat} {P : Program} {c : Code} {Q : Exit → Act → World → Prop} {a : Act} {S : World → Prop} {W : World} (h : S W) (k : ∀ W, S W → c.wpIn F n P Q a W) : c.wpIn F n P Q a W := k W h
theorem matchTo_mono (d : Tb) (st : List Int) (k : Nat) : ∀ j, (matchTo d st k).length ≤ (matchTo d st (k + j)).length
  | 0 => Nat.le_refl _
  | j + 1 => by
    rw [← Nat.add_assoc, matchTo_succ, List.length_append]
    exact Nat.le_trans (matchTo_mono d st k j) (Nat.le_add_right _ _)
theorem matchTo_lt {d : Tb} {st : List Int} {k : Nat} (hk : k < d.rows.length) (h : matchP d st k = true) : (matchTo d st k).length < (matchL d st).length := by
  have h1 := matchTo_mono d st (k + 1) (d.rows.length - (k + 1))
  rw [show k + 1 + (d.rows.length - (k + 1)) = d.rows.length by omega, matchTo_succ, h, List.length_append] at h1
  unfold matchL
  simp at h1
  omega
theorem f_matching (vs : List Span) (va : Option Addr) (vc : Nat) (rs : List RowM) (ra : Option Addr) (rc : Nat) (w : World) (ht : TabAt ⟨vs, va, vc, rs, ra, rc⟩ w) (sa : Option Addr) (sc : Nat) (st : List Int) :
    Calls Try.prog 82 #[.agg #[.slice va vs.length vc, .slice ra rs.length rc], .slice sa st.length sc] w fun e w' =>
      e = .returned (.func (.func 119) #[] #[.pointer (some ⟨w.heap.size, 0, none⟩), .pointer (some ⟨w.heap.size + 1, 0, none⟩)]) ∧ w' = (w.alloc (.cells #[.slice va vs.length vc, .slice ra rs.length rc] 88)).alloc (.cells #[.slice sa st.length sc] 51) := by
  go_enter Try.func82, Try.ntmps82
  go_wp2
  go_ret
  exact ⟨rfl, rfl⟩

theorem f_match1 (vs : List Span) (va : Option Addr) (vc : Nat) (rs : List RowM) (ra : Option Addr) (rc : Nat) (w : World) (ht : TabAt ⟨vs, va, vc, rs, ra, rc⟩ w) (sa : Option Addr) (sc : Nat) (st : List Int) (hs : Row icell 1 w.heap.size w sa st) (hsl : st.length ≤ sc) (hsm : sc ≤ maxLen) (hr : rs.length ≤ 1000) (hE : ∀ x ∈ rs, st.length ≤ x.r.conds.length) (w' : World) (hk0 : Kept w w') (b0 b1 : Nat) (hq0 : Blk w' b0 #[.slice va vs.length vc, .slice ra rs.length rc] 88) (hq1 : Blk w' b1 #[.slice sa st.length sc] 51) (n0 : Nat) (hn0 : b0 < n0) (hn1 : b1 < n0) (hnw : w.heap.size ≤ n0) (m : Nat) (hm : 2 ≤ m) :
    SeqStopsK Fence.wide m Try.prog 119 #[.pointer (some ⟨b0, 0, none⟩), .pointer (some ⟨b1, 0, none⟩)] (fun x : Nat => #[.int .i64 (x : Int)]) (Below n0) (fun xs => xs = matchL (tbOf vs rs) st) (fun _ => True) (matchL (tbOf vs rs) st).length w' := by
  intro l J Jx W hWW hJ hJx hY h0
  have hl0 := hq0.lt
  have hl1 := hq1.lt
  have htr : Row RowM.cells 2 w.heap.size w ra rs := ht.rows
  have htv : Row Span.cells 2 w.heap.size w va vs := ht.vars
  have hvm : vc ≤ maxLen := ht.vm
  have hrm : rc ≤ maxLen := ht.rm
  have hvl : vs.length ≤ vc := ht.vl
  have hrl : rs.length ≤ rc := ht.rl
  unfold maxLen at hvm hrm
  unfold maxLen at hsm
  have hA0 := hq0.belowR hWW hl0
  have hA1 := hq1.belowR hWW hl1
  have hW : Kept w W := hk0.trans (hWW.mono hk0.size)
  have hWs := hWW.size
  have hws := hk0.size
  clear hWW hk0 hq0 hq1
  refine callsIn_of_wp Try.func119 rfl trivial ?_ rfl
  simp only [Try.ntmps119, List.size_toArray, List.length_cons, List.length_nil, Nat.reduceAdd, Nat.reduceSub, Array.replicate_succ, Array.replicate_zero, List.push_toArray, List.append_toArray, List.nil_append, List.cons_append]
  refine wpIn_scopeM ?_
  have hA0c0 := hA0.cell 0
  have hA0f0 := hA0.free 0
  have hA0c1 := hA0.cell 1
  have hA0f1 := hA0.free 1
  have hA0l := hA0.lt
  simp at hA0c0 hA0c1
  have hA1c0 := hA1.cell 0
  have hA1f0 := hA1.free 0
  have hA1l := hA1.lt
  simp at hA1c0
  gi_wp2
  refine wpIn_wide.2 (wp_label ?_)
  gi_wp2
  gi_loopw [11] (fun i wr => ∃ k : Nat, k ≤ rs.length ∧ i = .int .i64 k ∧ J (matchTo (tbOf vs rs) st k) wr ∧ Blk wr b0 #[.slice va vs.length vc, .slice ra rs.length rc] 88 ∧ Blk wr b1 #[.slice sa st.length sc] 51 ∧ Kept w wr ∧ W.heap.size ≤ wr.heap.size) (fun i _ => rs.length - (intOf i).toNat)
  case atStart => exact ⟨0, Nat.zero_le _, rfl, h0, hA0, hA1, hW, Nat.le_refl _⟩
  case round =>
    clear hA0 hA1 h0 hW hA0c0 hA0f0 hA0c1 hA0f1 hA0l hA1c0 hA1f0 hA1l
    obtain ⟨k, hk, rfl, hJ0, q0, q1, hkr, hzr⟩ := hrel
    have HJ0 := Lib.hid hJ0
    clear hJ0
    have q0c0 := q0.cell 0
    have q0f0 := q0.free 0
    have q0c1 := q0.cell 1
    have q0f1 := q0.free 1
    have q0l := q0.lt
    simp at q0c0 q0c1
    have q1c0 := q1.cell 0
    have q1f0 := q1.free 0
    have q1l := q1.lt
    simp at q1c0
    by_cases hlt : k < rs.length
    · obtain ⟨rb, ro, rfl, hrb, g0, g1⟩ := RowM.row (htr.later hkr (Nat.le_refl _)) k hlt
      have hcnd : Row Span.cells 2 w.heap.size w rs[k].ad rs[k].r.conds := ht.conds _ (List.getElem_mem hlt)
      have hce : st.length ≤ rs[k].r.conds.length := hE _ (List.getElem_mem hlt)
      have hc3 : rs[k].r.conds.length ≤ rs[k].cap := (ht.cl _ (List.getElem_mem hlt)).1
      have hc4 : rs[k].cap ≤ maxLen := (ht.cl _ (List.getElem_mem hlt)).2
      have HMS := Lib.hid (show matchTo (tbOf vs rs) st (k + 1) = matchTo (tbOf vs rs) st k ++ if hits rs[k].r.conds st then [k] else [] by rw [matchTo_succ, show matchP (tbOf vs rs) st k = hits rs[k].r.conds st by unfold matchP; simp [tbOf, hlt]])
      have HMT := Lib.hid (fun (h : hits rs[k].r.conds st = true) => matchTo_lt (d := tbOf vs rs) (st := st) (k := k) (by rw [rows_len]; exact hlt) (by rw [show matchP (tbOf vs rs) st k = hits rs[k].r.conds st by unfold matchP; simp [tbOf, hlt]]; exact h))
      obtain ⟨X, hX⟩ : ∃ X, X = rs[k] := ⟨_, rfl⟩
      rw [← hX] at g0 g1 hcnd hce hc3 hc4 HMS HMT
      clear hX
      obtain ⟨⟨cs, ac⟩, ca, cc⟩ := X
      simp only at g0 g1 hcnd hce hc3 hc4 HMS HMT
      unfold maxLen at hc4
      obtain ⟨Z, rfl⟩ : ∃ Z : World, Z = wr := ⟨_, rfl⟩
      have hb0 := q0.lt
      have hb1 := q1.lt
      gi_wp2
      gi_loopw [18] (fun s wq => ∃ j : Nat, j ≤ st.length ∧ s = .int .i64 j ∧ hits cs (st.take j) = true ∧ Blk wq Z.heap.size #[.slice ca cs.length cc, .int .i64 ac] 143 ∧ Kept Z wq) (fun s _ => st.length - (intOf s).toNat)
      case atStart => exact ⟨0, Nat.zero_le _, rfl, by cases cs <;> rfl, by (exact blk), by (exact kpt)⟩
      case round =>
        obtain ⟨j, hj, rfl, hh, rx, hkz⟩ := hrel
        have hkw := Kept.drop hkr hkz
        have rxc0 := rx.cell 0
        have rxf0 := rx.free 0
        have rxc1 := rx.cell 1
        have rxf1 := rx.free 1
        have rxl := rx.lt
        simp at rxc0 rxc1
        by_cases hjt : j < st.length
        · obtain ⟨sb, so, rfl, hsb, x0⟩ := int_row (hs.later hkw (Nat.le_refl _)) j hjt
          obtain ⟨cb, co, rfl, hcb, c0, c1⟩ := Span.row (hcnd.later hkw (Nat.le_refl _)) j (by omega)
          have HTK := Lib.hid (show hits cs (st.take (j + 1)) = inB st[j] (cs[j]'(by omega)).lo (cs[j]'(by omega)).hi by
            rw [List.take_succ_eq_append_getElem hjt, hits_snoc (by rw [List.length_take]; omega), hh]
            simp only [List.length_take, Nat.min_eq_left (Nat.le_of_lt hjt), Bool.true_and])
          obtain ⟨y, hy⟩ : ∃ x, x = st[j] := ⟨_, rfl⟩
          obtain ⟨c, hc⟩ : ∃ x, x = cs[j]'(by omega) := ⟨_, rfl⟩
          rw [← hy, ← hc] at HTK
          rw [← hy] at x0
          rw [← hc] at c0 c1
          clear hy hc hh
          have i0 : (0 : Int) ≤ (j : Int) := by omega
          have i1 : (j : Int) < (st.length : Int) := by omega
          have i2 : (j : Int) < (cs.length : Int) := by omega
          have k0 : ∀ w2, Kept wr w2 → w2.cell? ⟨Z.heap.size, 0, none⟩ = some (.slice (some ⟨cb, co, none⟩) cs.length cc) := fun w2 h => by simpa using (rx.keep h).cell 0
          have k1 : ∀ w2, Kept wr w2 → w2.cell? ⟨Z.heap.size, 1, none⟩ = some (.int .i64 ac) := fun w2 h => by simpa using (rx.keep h).cell 1
          have k2 : ∀ w2, Kept wr w2 → w2.cell? ⟨cb, co + j * 2, none⟩ = some (.int .i64 c.lo) := fun w2 h => by rw [h.cell (p := ⟨cb, co + j * 2, none⟩) hcb]; exact c0
          have k3 : ∀ w2, Kept wr w2 → w2.cell? ⟨cb, co + j * 2 + 1, none⟩ = some (.int .i64 c.hi) := fun w2 h => by rw [h.cell (p := ⟨cb, co + j * 2 + 1, none⟩) hcb]; exact c1
          have lx := rx.lt
          have hzw := hkz.size
          gi_wp2
          clear x0 c0 c1 rxc0 rxf0 rxc1 rxf1 rxl
          refine wpIn_wide.2 ?_
          cases hb : inB y c.lo c.hi
          · have HB := Lib.hid (show inB y c.lo c.hi = false from hb)
            have HF := Lib.hid (hits_fail (k := j + 1) (by rw [HTK.out]; exact hb))
            clear hb HTK
            go_region_held3 (fun w2 => Kept wr w2) (exact kpt) (first | (go_at_call 51; (with_reducible refine (f_rangedB c.lo c.hi y _ 3 _ ?_).mono ?_); (focus (first | (with_reducible refine Blk.drew (Blk.new' ?_); (first | rfl | (simp; done))) | (with_reducible refine Blk.new' ?_; (first | rfl | (simp; done))) | (exact blk))); rw [HB.out]; rintro z w2 ⟨rfl, hb2⟩) | fail)
            all_goals
              gi_wp2
              go_roundw
              case rel =>
                have hkf : Kept wr w2 := by (exact kpt)
                have hkZ : Kept Z w2 := Kept.drop hkz hkf
                exact ⟨k + 1, by omega, by go_num, by rw [HMS.out, HF.out]; simpa using abides_kept hJ HJ0.out hkZ, q0.keep hkZ, q1.keep hkZ, Kept.drop hkr hkZ, Nat.le_trans hzr hkZ.size⟩
              case measure => simp [intOf]; omega
          · have HB := Lib.hid (show inB y c.lo c.hi = true from hb)
            have HT := Lib.hid (show hits cs (st.take (j + 1)) = true by rw [HTK.out]; exact hb)
            clear hb HTK
            go_region_held3 (fun w2 => Kept wr w2) (exact kpt) (first | (go_at_call 51; (with_reducible refine (f_rangedB c.lo c.hi y _ 3 _ ?_).mono ?_); (focus (first | (with_reducible refine Blk.drew (Blk.new' ?_); (first | rfl | (simp; done))) | (with_reducible refine Blk.new' ?_; (first | rfl | (simp; done))) | (exact blk))); rw [HB.out]; rintro z w2 ⟨rfl, hb2⟩) | fail)
            all_goals
              gi_wp2
              go_roundw
              case rel =>
                have hkf : Kept wr w2 := by (exact kpt)
                exact ⟨j + 1, by omega, by go_num, HT.out, rx.keep hkf, Kept.drop hkz hkf⟩
              case measure => simp [intOf]; omega
        · obtain rfl : st.length = j := by omega
          rw [List.take_length] at hh
          obtain ⟨fn, tmps, assign, body, hy, hR⟩ := hY (matchTo (tbOf vs rs) st k) k wr (abides_kept hJ HJ0.out hkz) (HMT.out hh)
          have HR := Lib.hid hR
          have HH := Lib.hid hh
          have q0z := q0.keep hkz
          have q1z := q1.keep hkz
          clear hR hh
          gi_wp2
          first | refine HR.out.mono ?_ | refine ⟨fun _ => by omega, HR.out.mono ?_⟩
          clear hy
          rintro e W3 (⟨rfl, hJ3, hk3⟩ | ⟨rfl, hJx3⟩)
          · gi_wp2
            go_roundw
            case rel => exact ⟨k + 1, by omega, by go_num, by rw [HMS.out, HH.out]; exact hJ3, q0z.belowR hk3 hn0, q1z.belowR hk3 hn1, hkw.trans (hk3.mono hnw), Nat.le_trans hzr (Nat.le_trans hkz.size hk3.size)⟩
            case measure => simp [intOf]; omega
          · gi_wp2
            simp only [Exit.noGoto]
            refine bodyPost_ret (results_none rfl _ _ _) rfl ⟨⟨_, rfl⟩, .inr ⟨_, trivial, hJx3⟩⟩
    · obtain rfl : rs.length = k := by omega
      gi_wp2
      simp only [Exit.noGoto]
      go_end0
      exact ⟨⟨_, rfl⟩, .inl ⟨_, rfl, by have := HJ0.out; unfold matchL; rw [rows_len]; exact this⟩⟩

end Go.Proofs.Ytacbkbilbmkjnaa

/-
  The rows that match, collected, in the program.
-/
namespace Go.Proofs.Ytacbkbilbmkjnaa
open Go.RowKit Go.Shelf Bal Bal.Trim Bal.Mast
set_option linter.unusedVariables false
set_option linter.unusedSimpArgs false
set_option maxHeartbeats 4000000
set_option maxRecDepth 100000
attribute [local go_sem] Oper.semAt_some

theorem f_AppendSeq (vs : List Span) (va : Option Addr) (vc : Nat) (rs : List RowM) (ra : Option Addr) (rc : Nat) (w : World) (ht : TabAt ⟨vs, va, vc, rs, ra, rc⟩ w) (sa : Option Addr) (sc : Nat) (st : List Int) (hs : Row icell 1 w.heap.size w sa st) (hsl : st.length ≤ sc) (hsm : sc ≤ maxLen) (hr : rs.length ≤ 1000) (hE : ∀ x ∈ rs, st.length ≤ x.r.conds.length) (w' : World) (hk0 : Kept w w') (b0 b1 : Nat) (hq0 : Blk w' b0 #[.slice va vs.length vc, .slice ra rs.length rc] 88) (hq1 : Blk w' b1 #[.slice sa st.length sc] 51) :
    Calls Try.prog 118 #[.slice none 0 0, .func (.func 119) #[] #[.pointer (some ⟨b0, 0, none⟩), .pointer (some ⟨b1, 0, none⟩)]] w' fun e W' => ∃ v, e = .returned v ∧ W'.ownsRow w'.heap.size 3 1 v (matchL (tbOf vs rs) st).length ((natsI (matchL (tbOf vs rs) st)).flatMap icell) ∧ Kept w' W' := by
  have hml : (matchL (tbOf vs rs) st).length ≤ 1000 := by
    have := match_few (d := tbOf vs rs) st
    rw [rows_len] at this; omega
  refine (callsIn_wide (n := 6)).1 ?_
  refine callsIn_of_wp_marks Try.func118 rfl trivial ?_ rfl
  simp only [Try.ntmps118, List.size_toArray, List.length_cons, List.length_nil, Nat.reduceAdd, Nat.reduceSub, Array.replicate_succ, Array.replicate_zero, List.push_toArray, List.append_toArray, List.nil_append, List.cons_append]
  gi_wp2
  refine at_worldR (S := fun V => Boxed V w'.heap.size 51 (.slice none 0 0) ∧ Kept w' V) ⟨Boxed.new _ _ _, by (exact kpt)⟩ ?_
  rintro V ⟨hbV, hkV⟩
  have hVs := hkV.size
  have q0 := hq0.keep hkV
  have q1 := hq1.keep hkV
  refine wpIn_rangeFunc_ownH (gf := 119) (lb := #[.pointer (some ⟨b0, 0, none⟩), .pointer (some ⟨b1, 0, none⟩)]) rfl (by omega) rfl trivial (enters_of Try.func119 (by kernel_rfl) rfl)
    (f_match1 vs va vc rs ra rc w ht sa sc st hs hsl hsm hr hE V (Kept.drop hk0 hkV) b0 b1 q0 q1 w'.heap.size hq0.lt hq1.lt hk0.size 5 (by omega)) belowK_t (belowK_b hVs) (Below.refl _ _) (fun _ => rfl)
    (fun pre W => (∃ v, Boxed W w'.heap.size 51 v ∧ W.ownsRow w'.heap.size 3 1 v (pre).length ((natsI (pre)).flatMap icell) ∧ True) ∧ Kept w' W ∧ V.heap.size ≤ W.heap.size)
    (fun _ _ _ => False)
    (OwnFrom.and ((holdsRow_own _ _ _ _ _ _ _ _).from _) (OwnFrom.and (ownFrom_below (Nat.le_refl _) hkV.size) (fun _ _ _ _ hs hg _ => Nat.le_trans hs hg.size)))
    (fun _ _ _ _ _ hs _ _ => hs)
    ⟨⟨_, hbV, owns_nil (α := Int) (enc := icell), trivial⟩, hkV, Nat.le_refl _⟩
    (fun x a' W => a' = { tmps := #[.slice none 0 0, .func (.func 119) #[] #[.pointer (some ⟨b0, 0, none⟩), .pointer (some ⟨b1, 0, none⟩)], .pointer (some ⟨w'.heap.size, 0, none⟩), undef, .slice none 0 0, .int .i64 (x : Int), .func (.func 119) #[] #[.pointer (some ⟨b0, 0, none⟩), .pointer (some ⟨b1, 0, none⟩)], .int .i64 (x : Int), undef, undef, undef, undef, undef], defers := [] })
    (fun x a' _ X Y row hs hg hr => hs)
    ?assign ?body ?done ?stop
  case assign =>
    rintro l pre x W K ⟨hL, hkw, hsz⟩ hK
    gi_wp2
    exact hK _ _ (keepsFrom_kept (Below.refl _ _) _) (Below.refl _ _) ⟨hL, hkw, hsz⟩ rfl
  case body =>
    rintro l pre x a' W hl _ ⟨⟨v, hbx, hown, -⟩, hkw, hsz⟩ rfl hlen
    have hsW := hkw.size
    have hpl : pre.length ≤ 1000 := by omega
    have x0 := hbx.cell
    have x1 := hbx.frozen
    have x2 := hbx.lt
    have hown : W.ownsRow w'.heap.size 3 1 v pre.length ((natsI pre).flatMap icell) := hown
    gi_wp2_with (gi_at_builtin; obtain ⟨i0, hi, hz0, hz1, hz2⟩ := info_parts infoIntM; refine wpListIn_append_own _ rfl _ _ 51 rfl (w'.heap.size) 3 i0 (.int .i64 0) 1 8 Try.underlying51 hi hz0 hz1 hz2 rfl (by decide) _ _ _ rfl (hown.alloc _) ⟨_, 0, none⟩ 1 1 [.int .i64 (x : Int)] rfl rfl (cell_one_at (by simp) _ _) (fun x hx => by simp at hx; subst hx; rfl) (by unfold maxLen; omega) (by omega) (by simp only [World.size_alloc]; omega) ?_; intro v9 w9 hown9 hgrow9 hnil9; clear hi hz0 hz1 hz2; obtain ⟨g9, c9, rfl⟩ := ownsRow_succ hown9; obtain ⟨B1, B2, B3, B4, B5⟩ := Boxed.appended (n₀ := w'.heap.size) hbx (by decide) hown hsW (Nat.le_refl _) hown9 hgrow9; have y0 := B1.cell; have y1 := B1.frozen; have y2 := B1.lt)
    refine ⟨B4.from _, B5, ⟨_, B2, ?_, trivial⟩, hkw.trans B5, ?_⟩
    · rw [natsI_snoc, List.flatMap_append, List.length_append]; exact B3
    · have h9 := hgrow9.size
      simp only [World.size_alloc] at h9
      have e9 : ∀ (a : Addr) (u : Value), (w9.setCell a u).heap.size = w9.heap.size := fun a u => by simp [World.setCell]
      rw [e9]
      omega
  case done =>
    rintro Dd ys X hD rfl ⟨⟨v, hbx, hown, -⟩, hkw, hsz⟩ hK
    have x0 := hbx.cell
    have x1 := hbx.frozen
    have x2 := hbx.lt
    have HK := Lib.hid hK
    clear hK
    gi_wp2
    refine leaves_marks (B := w'.heap.size) (fun W => (∃ u, Boxed W w'.heap.size 51 u ∧ W.ownsRow w'.heap.size 3 1 u (matchL (tbOf vs rs) st).length ((natsI (matchL (tbOf vs rs) st)).flatMap icell) ∧ u = v) ∧ Kept w' W) (OwnFrom.and ((holdsRow_own (β := Unit) _ _ _ _ _ (fun _ => (matchL (tbOf vs rs) st).length) (fun _ => (natsI (matchL (tbOf vs rs) st)).flatMap icell) (fun _ u => u = v)).from _) (ownFrom_below (Nat.le_refl _) (Nat.le_refl _))) ?_ [Dd] _ ⟨by simp, fun E hE => ?_⟩ ⟨⟨v, hbx, hown, rfl⟩, hkw⟩
    · rintro W5 ⟨⟨u, hb5, ho5, rfl⟩, hk5⟩
      exact ⟨u, by simp [results, Try.results118, go_sem], u, rfl, ho5, hk5⟩
    · obtain rfl : E = Dd := by simpa using hE
      exact ⟨by omega, HK.out⟩
  case stop =>
    rintro D c pre W _ _ h _
    exact h.elim

theorem f_Collect (vs : List Span) (va : Option Addr) (vc : Nat) (rs : List RowM) (ra : Option Addr) (rc : Nat) (w : World) (ht : TabAt ⟨vs, va, vc, rs, ra, rc⟩ w) (sa : Option Addr) (sc : Nat) (st : List Int) (hs : Row icell 1 w.heap.size w sa st) (hsl : st.length ≤ sc) (hsm : sc ≤ maxLen) (hr : rs.length ≤ 1000) (hE : ∀ x ∈ rs, st.length ≤ x.r.conds.length) (w' : World) (hk0 : Kept w w') (b0 b1 : Nat) (hq0 : Blk w' b0 #[.slice va vs.length vc, .slice ra rs.length rc] 88) (hq1 : Blk w' b1 #[.slice sa st.length sc] 51) :
    Calls Try.prog 81 #[.func (.func 119) #[] #[.pointer (some ⟨b0, 0, none⟩), .pointer (some ⟨b1, 0, none⟩)]] w' fun e W' => ∃ v, e = .returned v ∧ W'.ownsRow w'.heap.size 3 1 v (matchL (tbOf vs rs) st).length ((natsI (matchL (tbOf vs rs) st)).flatMap icell) ∧ Kept w' W' := by
  go_enter Try.func81, Try.ntmps81
  go_wp2_with (go_at_call 118; (with_reducible refine (f_AppendSeq vs va vc rs ra rc w ht sa sc st hs hsl hsm hr hE _ (Kept.drop hk0 (by (exact kpt))) b0 b1 (hq0.keep (by (exact kpt))) (hq1.keep (by (exact kpt)))).mono ?_); rintro z w1 ⟨v1, rfl, ho1, hb1⟩)
  exact bodyPost_ret (v := v1) (by simp [results, Try.results81, go_sem]) rfl ⟨v1, rfl, ho1, by (exact kpt)⟩

end Go.Proofs.Ytacbkbilbmkjnaa

/-
  The contracts of the library's sort and compact, laid at this seat by the kit's own tool.
-/
namespace Go.Proofs
open Go.Shelf
def Try.lays189_ren : Go.Shelf.Ren := ⟨fun | 189 => 120 | 125 => 129 | 257 => 128 | 128 => 139 | 129 => 140 | 294 => 130 | 295 => 131 | 296 => 132 | 297 => 133 | 298 => 134 | 299 => 135 | 216 => 136 | 300 => 137 | 301 => 138 | 328 => 141 | 329 => 142 | 330 => 143 | 331 => 144 | 332 => 145 | 215 => 146 | 343 => 147 | n => n, fun | 28 => 51 | 3 => 3 | 46 => 170 | 0 => 0 | 51 => 181 | 53 => 183 | 4 => 4 | 183 => 173 | 182 => 172 | 131 => 178 | 5 => 5 | 9 => 9 | 218 => 184 | 222 => 188 | 228 => 190 | 229 => 92 | n => n, fun | n => n⟩
theorem Try.lays189 : Go.Proofs.Lays.n189 Try.prog Try.lays189_ren := {
  mixed := by kernel_rfl
  f125 := Try.func129.trans (congrArg some (by kernel_rfl))
  f128 := Try.func139.trans (congrArg some (by kernel_rfl))
  f129 := Try.func140.trans (congrArg some (by kernel_rfl))
  f189 := Try.func120.trans (congrArg some (by kernel_rfl))
  f215 := Try.func146.trans (congrArg some (by kernel_rfl))
  f216 := Try.func136.trans (congrArg some (by kernel_rfl))
  f257 := Try.func128.trans (congrArg some (by kernel_rfl))
  f294 := Try.func130.trans (congrArg some (by kernel_rfl))
  f295 := Try.func131.trans (congrArg some (by kernel_rfl))
  f296 := Try.func132.trans (congrArg some (by kernel_rfl))
  f297 := Try.func133.trans (congrArg some (by kernel_rfl))
  f298 := Try.func134.trans (congrArg some (by kernel_rfl))
  f299 := Try.func135.trans (congrArg some (by kernel_rfl))
  f300 := Try.func137.trans (congrArg some (by kernel_rfl))
  f301 := Try.func138.trans (congrArg some (by kernel_rfl))
  f328 := Try.func141.trans (congrArg some (by kernel_rfl))
  f329 := Try.func142.trans (congrArg some (by kernel_rfl))
  f330 := Try.func143.trans (congrArg some (by kernel_rfl))
  f331 := Try.func144.trans (congrArg some (by kernel_rfl))
  f332 := Try.func145.trans (congrArg some (by kernel_rfl))
  f343 := Try.func147.trans (congrArg some (by kernel_rfl))
  t0 := Try.underlying0
  a0 := Try.isAgg0
  z0 := Try.sizeOf0
  v0 := Try.zeroValue0
  t3 := Try.underlying3
  a3 := Try.isAgg3
  z3 := Try.sizeOf3
  v3 := Try.zeroValue3
  t4 := Try.underlying4
  a4 := Try.isAgg4
  z4 := Try.sizeOf4
  v4 := Try.zeroValue4
  t5 := Try.underlying5
  a5 := Try.isAgg5
  z5 := Try.sizeOf5
  v5 := Try.zeroValue5
  t9 := Try.underlying9
  a9 := Try.isAgg9
  z9 := Try.sizeOf9
  v9 := Try.zeroValue9
  t28 := Try.underlying51
  a28 := Try.isAgg51
  z28 := Try.sizeOf51
  v28 := Try.zeroValue51
  t46 := Try.underlying170
  a46 := Try.isAgg170
  z46 := Try.sizeOf170
  v46 := Try.zeroValue170
  t51 := Try.underlying181
  a51 := Try.isAgg181
  z51 := Try.sizeOf181
  v51 := Try.zeroValue181
  t53 := Try.underlying183
  a53 := Try.isAgg183
  z53 := Try.sizeOf183
  v53 := Try.zeroValue183
  t131 := Try.underlying178
  a131 := Try.isAgg178
  z131 := Try.sizeOf178
  v131 := Try.zeroValue178
  t182 := Try.underlying172
  a182 := Try.isAgg172
  z182 := Try.sizeOf172
  v182 := Try.zeroValue172
  t183 := Try.underlying173
  a183 := Try.isAgg173
  z183 := Try.sizeOf173
  v183 := Try.zeroValue173
  t218 := Try.underlying184
  a218 := Try.isAgg184
  z218 := Try.sizeOf184
  v218 := Try.zeroValue184
  t222 := Try.underlying188
  a222 := Try.isAgg188
  z222 := Try.sizeOf188
  v222 := Try.zeroValue188
  t228 := Try.underlying190
  a228 := Try.isAgg190
  z228 := Try.sizeOf190
  v228 := Try.zeroValue190
  t229 := Try.underlying92
  a229 := Try.isAgg92
  z229 := Try.sizeOf92
  v229 := Try.zeroValue92 }
def Try.lays20_ren : Go.Shelf.Ren := ⟨fun | 20 => 121 | n => n, fun | 22 => 51 | 3 => 3 | 4 => 4 | 0 => 0 | n => n, fun | n => n⟩
theorem Try.lays20 : Go.Proofs.Lays2.n20 Try.prog Try.lays20_ren := {
  mixed := by kernel_rfl
  f20 := Try.func121.trans (congrArg some (by kernel_rfl))
  t0 := Try.underlying0
  a0 := Try.isAgg0
  z0 := Try.sizeOf0
  v0 := Try.zeroValue0
  t3 := Try.underlying3
  a3 := Try.isAgg3
  z3 := Try.sizeOf3
  v3 := Try.zeroValue3
  t4 := Try.underlying4
  a4 := Try.isAgg4
  z4 := Try.sizeOf4
  v4 := Try.zeroValue4
  t22 := Try.underlying51
  a22 := Try.isAgg51
  z22 := Try.sizeOf51
  v22 := Try.zeroValue51
  i3 := by kernel_rfl }
end Go.Proofs

/-
  Sort, Compact and Clone at numbers; what Gap and Twice ask of the rows.
-/
namespace Go.Proofs.Ytacbkbilbmkjnaa
open Go.RowKit Go.Sort Bal Bal.Trim Bal.Mast
set_option linter.unusedVariables false
set_option linter.unusedSimpArgs false
set_option maxHeartbeats 2000000
set_option maxRecDepth 20000

theorem s_CloneI (a : Option Addr) (cap : Nat) (xs : List Int) (w : World) (hx : Row icell 1 w.heap.size w a xs) (hn : xs.length ≤ 1000) (hz : a = none → cap = 0) :
    Calls Try.prog 122 #[.slice a xs.length cap] w fun e w' => ∃ v, e = .returned v ∧ w'.ownsRow w.heap.size 3 1 v xs.length (xs.flatMap icell) ∧ Kept w w' := by
  cases a with
  | none =>
    have hl : xs = [] := by
      cases xs with
      | nil => rfl
      | cons y ys => obtain ⟨b, off, ha, _⟩ := hx 0 y rfl; cases ha
    subst hl
    have := hz rfl
    subst this
    have hs0 : ∀ w, (binOp .eql 51 (.slice none 0 0) (.slice none 0 0)).run Try.prog w = .ok (.bool true) w := fun w => Lib.run_eql_slice_nil w _ _ _ _ _ _ _ Try.underlying51
    go_enter Try.func122, Try.ntmps122
    go_wp2
    exact bodyPost_ret (v := .slice none 0 0) (by simp [results, Try.results122, go_sem]) rfl ⟨_, rfl, owns_nil (α := Int) (enc := icell), by (exact kpt)⟩
  | some ad =>
    have HO := Lib.hid (owns_made (α := Int) (enc := icell) (base := w.heap.size) (k := 1) (n := w.heap.size) (e := 3) (w := w) rfl (Nat.le_refl _))
    have hs0 : ∀ w, (binOp .eql 51 (.slice (some ad) xs.length cap) (.slice none 0 0)).run Try.prog w = .ok (.bool false) w := fun w => Lib.run_eql_slice_nil w _ _ _ _ _ _ _ Try.underlying51
    go_enter Try.func122, Try.ntmps122
    go_wp2_with (at_builtin; obtain ⟨i0, hi, hz0, hz1, hz2⟩ := info_parts infoIntM; refine wpList_append_list (enc := icell) rfl _ _ 51 rfl w.heap.size 3 i0 (.int .i64 0) 1 8 Try.underlying51 hi hz0 hz1 hz2 rfl (by decide) (fun _ => rfl) (fun x u hu => by simp [icell] at hu; subst hu; rfl) _ [] rfl HO.out (some ad) cap xs rfl (by simp) (B := w.heap.size) (hx.keep (by (exact kpt)) (Nat.le_refl _)) (by simp [maxLen]; omega) (by simp; omega) (by simp) ?_; intro v' w9 hown' hgrow; clear hi hz0 hz1 hz2)
    have hk : Kept w w9 := Kept.grown (Kept.alloc (Below.refl _ _) _) HO.out (Nat.le_refl _) hgrow
    rw [List.nil_append] at hown'
    obtain ⟨ad', cp, rfl, _⟩ := owns_row (enc := icell) (k := 1) (fun _ => rfl) hown'
    exact bodyPost_ret (v := .slice ad' xs.length cp) (by simp [results, Try.results122, go_sem]) rfl ⟨_, rfl, hown', hk⟩

theorem s_SortI {base : Nat} (g cap : Nat) (xs : List Int) (w : World) (hx : xs.length ≤ 1000000) (ho : w.ownsRow base 3 1 (.slice (some ⟨g, 0, none⟩) xs.length cap) xs.length (xs.flatMap icell)) :
    Calls Try.prog 120 #[.slice (some ⟨g, 0, none⟩) xs.length cap] w fun e w' => e = .returned (.tuple #[]) ∧ w'.ownsRow base 3 1 (.slice (some ⟨g, 0, none⟩) xs.length cap) xs.length ((xs.mergeSort fun x y => decide (x ≤ y)).flatMap icell) ∧ Below base w w' := by
  rw [flat_icell] at ho ⊢
  obtain ⟨g', cap', e0, hb, hlt, hn, hm, -, hH⟩ := Lib.holds_of_ownsRow ho (by simp)
  cases e0
  unfold maxLen at hm
  have h := Any.slices_Sort_int Try.lays189 g 0 cap xs w hH hlt (by omega)
  refine Calls.mono h ?_
  rintro e w' ⟨rfl, n, os, rfl⟩
  refine ⟨rfl, ?_, ?_⟩
  · rcases ho.2 with ⟨e0, _⟩ | ⟨g', cap', cur, e0, hb', hg, hn', hm', hs, ht⟩
    · cases e0
    · cases e0
      exact ownsRow_sortedI (List.length_mergeSort xs) hb hg hn hm' hs
  · have hG := grownBy_sortedI (w := w) (g := g) (n := n) (os := os) (xs.mergeSort fun x y => decide (x ≤ y)).toArray
    exact ⟨hG.os, hG.tape, hG.output, hG.size, fun i hi => hG.block i (by omega) (fun he => by cases he; omega)⟩
theorem s_CompactI {base : Nat} (g cap : Nat) (xs : List Int) (w : World) (ho : w.ownsRow base 3 1 (.slice (some ⟨g, 0, none⟩) xs.length cap) xs.length (xs.flatMap icell)) :
    Calls Try.prog 121 #[.slice (some ⟨g, 0, none⟩) xs.length cap] w fun e w' => e = .returned (.slice (some ⟨g, 0, none⟩) (Lib.compact xs).length cap) ∧ w'.ownsRow base 3 1 (.slice (some ⟨g, 0, none⟩) (Lib.compact xs).length cap) (Lib.compact xs).length ((Lib.compact xs).flatMap icell) ∧ Below base w w' := by
  rw [flat_icell] at ho ⊢
  obtain ⟨g', cap', e0, hb, hlt, hn, hm, -, hH⟩ := Lib.holds_of_ownsRow ho (by simp)
  cases e0
  unfold maxLen at hm
  have h := Any.slices_Compact_int Try.lays20 g 0 cap xs w hH (by omega) hn
  refine Calls.mono h ?_
  rintro e w' ⟨rfl, q, rfl⟩
  have hle := Lib.compact_length_le xs
  refine ⟨rfl, ?_, Lib.below_putRow (Below.refl _ _) hb⟩
  have := Lib.ownsRow_putRow (q := q) (k := (Lib.compact xs).length) (ys := Lib.compact xs ++ List.replicate (xs.length - (Lib.compact xs).length) 0) ho (by simp; omega) hle
  simpa [List.take_append_of_le_length (Nat.le_refl _)] using this
theorem s_CompactN {base n : Nat} (g cap : Nat) (xs : List Int) (w : World) (hn : xs.length = n) (ho : w.ownsRow base 3 1 (.slice (some ⟨g, 0, none⟩) n cap) n (xs.flatMap icell)) :
    Calls Try.prog 121 #[.slice (some ⟨g, 0, none⟩) n cap] w fun e w' => e = .returned (.slice (some ⟨g, 0, none⟩) (Lib.compact xs).length cap) ∧ w'.ownsRow base 3 1 (.slice (some ⟨g, 0, none⟩) (Lib.compact xs).length cap) (Lib.compact xs).length ((Lib.compact xs).flatMap icell) ∧ Below base w w' := by
  subst hn
  exact s_CompactI g cap xs w ho
theorem f_w0 (v : Option Addr) (n c : Nat) (w : World) : Calls Try.prog 85 #[.slice v n c] w fun e w' => e = .returned (.bool (decide (n = 0))) ∧ Kept w w' := by
  go_enter Try.func85, Try.ntmps85
  go_wp2
  refine bodyPost_ret (v := .bool (decide (n = 0))) (by simp [results, Try.results85, go_sem]; by_cases h : n = 0 <;> simp [h]) rfl ⟨rfl, by (exact kpt)⟩
theorem f_w2 (v : Option Addr) (n c : Nat) (w : World) : Calls Try.prog 87 #[.slice v n c] w fun e w' => e = .returned (.bool (decide (1 < n))) ∧ Kept w w' := by
  go_enter Try.func87, Try.ntmps87
  go_wp2
  refine bodyPost_ret (v := .bool (decide (1 < n))) (by simp [results, Try.results87, go_sem]; try omega) rfl ⟨rfl, by (exact kpt)⟩

end Go.Proofs.Ytacbkbilbmkjnaa

/-
  A map of bools that a call has made itself, by what its look-ups answer. No program in sight.
-/
namespace Bal
open Go Go.RowKit Go.Maps
set_option linter.unusedVariables false
/-- block b is a map of bools of at most n entries, whose look-ups answer f -/
def InSet (P : Program) (k e : TypeId) (w : World) (b n : Nat) (f : Lit → Bool) : Prop :=
  ∃ D : DataW Unit, w.ownsMap P k (plainElem P e) b n D ∧ IsMap D ∧ ∀ kl, D.atKey kl (.lit (.bool false)) = .lit (.bool (f kl))
theorem InSet.made {P : Program} {k e : TypeId} {w : World} {b : Nat} (hb : b = w.heap.size) : InSet P k e (w.alloc (.map #[] 0)) b 0 (fun _ => false) := by
  subst hb
  exact ⟨.map [], World.ownsMap_made w P k _, isMap_empty, fun kl => rfl⟩
theorem InSet.lt {P : Program} {k e : TypeId} {w : World} {b n : Nat} {f : Lit → Bool} (h : InSet P k e w b n f) : b < w.heap.size := by
  obtain ⟨D, h, _⟩ := h
  exact h.lt
theorem InSet.keep {P : Program} {k e : TypeId} {w w' : World} {b n : Nat} {f : Lit → Bool} (h : InSet P k e w b n f) (hb : Kept w w') : InSet P k e w' b n f := by
  have hl := h.lt
  obtain ⟨D, ⟨es, clock, hh, r⟩, h2⟩ := h
  exact ⟨D, ⟨es, clock, by rw [hb.block b hl]; exact hh, r⟩, h2⟩
theorem InSet.put {P : Program} {k e : TypeId} {w' : World} {b n : Nat} {f g : Lit → Bool} {D : DataW Unit} {kl : Lit} {v : Bool} (hD : IsMap D) (hf : ∀ kl, D.atKey kl (.lit (.bool false)) = .lit (.bool (f kl))) (hk : WideAt.IsKeyLit kl) (hg1 : g kl = v) (hg2 : ∀ x, x ≠ kl → g x = f x)
    (h : w'.ownsMap P k (plainElem P e) b n (D.put kl (.lit (.bool v)))) : InSet P k e w' b n g := by
  refine ⟨_, h, hD.put _ _, fun x => ?_⟩
  by_cases hx : x = kl
  · subst hx
    rw [atKey_put_same hD hk, hg1]
  · rw [atKey_put_other hx, hf, hg2 x hx]
theorem Kept.turned {w0 w w' : World} {b : Nat} (h : Kept w0 w) (hb : w0.heap.size ≤ b) (hg : w.grownBy w' (some b)) : Kept w0 w' := by
  refine Below.trans h ⟨hg.os, hg.tape, hg.output, hg.size, fun i hi => hg.block i (Nat.lt_of_lt_of_le hi h.size) fun he => ?_⟩
  simp only [Option.some.injEq] at he
  omega
theorem Blk.turned {w w' : World} {b m : Nat} {arr : Array Value} {t : TypeId} (h : Blk w m arr t) (hne : m ≠ b) (hg : w.grownBy w' (some b)) : Blk w' m arr t := by
  have hl := h.lt
  unfold Blk at *
  rw [hg.block m hl (fun he => hne (by simpa using he))]
  exact h
end Bal

/-
  A map that a call has made itself, by what its look-ups answer: its values are held as they are. No program in sight.
-/
namespace Bal
open Go Go.RowKit Go.Maps
set_option linter.unusedVariables false
def tokR (v : Value) : Option (DataW Value × List MemPlace) := some (.held v, [])
/-- block b is a map of at most n entries, in which f lies -/
def InMap (P : Program) (k : TypeId) (w : World) (b n : Nat) (f : Lit → Option Value) : Prop :=
  ∃ D : DataW Value, w.ownsMap P k tokR b n D ∧ IsMap D ∧ ∀ kl z, D.atKey kl z = match f kl with | some v => .held v | none => z
theorem InMap.made {P : Program} {k : TypeId} {w : World} {b : Nat} (hb : b = w.heap.size) : InMap P k (w.alloc (.map #[] 0)) b 0 (fun _ => none) := by
  subst hb
  exact ⟨.map [], World.ownsMap_made w P k _, isMap_empty, fun kl z => rfl⟩
theorem InMap.lt {P : Program} {k : TypeId} {w : World} {b n : Nat} {f : Lit → Option Value} (h : InMap P k w b n f) : b < w.heap.size := by
  obtain ⟨D, h, _⟩ := h
  exact h.lt
theorem InMap.below {P : Program} {k : TypeId} {B : Nat} {w w' : World} {b n : Nat} {f : Lit → Option Value} (h : InMap P k w b n f) (hb : Below B w w') (hB : b < B) : InMap P k w' b n f := by
  obtain ⟨D, ⟨es, clock, hh, r⟩, h2⟩ := h
  exact ⟨D, ⟨es, clock, by rw [hb.block b hB]; exact hh, r⟩, h2⟩
theorem InMap.keep {P : Program} {k : TypeId} {w w' : World} {b n : Nat} {f : Lit → Option Value} (h : InMap P k w b n f) (hb : Kept w w') : InMap P k w' b n f := h.below hb h.lt
theorem InMap.put {P : Program} {k : TypeId} {w' : World} {b n : Nat} {f g : Lit → Option Value} {D : DataW Value} {kl : Lit} {v : Value} (hD : IsMap D) (hf : ∀ kl z, D.atKey kl z = match f kl with | some v => .held v | none => z) (hk : WideAt.IsKeyLit kl) (hg1 : g kl = some v) (hg2 : ∀ x, x ≠ kl → g x = f x)
    (h : w'.ownsMap P k tokR b n (D.put kl (.held v))) : InMap P k w' b n g := by
  refine ⟨_, h, hD.put _ _, fun x z => ?_⟩
  by_cases hx : x = kl
  · subst hx
    rw [atKey_put_same hD hk, hg1]
  · rw [atKey_put_other hx, hf, hg2 x hx]
theorem InMap.run {P : Program} {w : World} {t k e : TypeId} (K : Keyed P k) (ht : P.underlying t = some (.map k e)) {b n : Nat} {f g : Lit → Option Value} (hset : InMap P k w b n f) (hn : n < maxLen) {key y : Value} {kl : Lit} (hkey : keyOf P k key = some kl)
    (hkl : WideAt.IsKeyLit kl) (hg1 : g kl = some y) (hg2 : ∀ z, z ≠ kl → g z = f z) : ∃ w', (Instr.mapUpdate t (.map (some b)) key y).run P w = .ok () w' ∧ InMap P k w' b (n + 1) g ∧ w.grownBy w' (some b) := by
  obtain ⟨D, hown, hD, hf⟩ := hset
  obtain ⟨w', hrun, r1, r2⟩ := hown.update K ht hn (val := y) (d := .held y) (ps := []) hkey rfl
  exact ⟨w', hrun, InMap.put hD hf hkl hg1 hg2 r1, r2⟩
/-- blocks beside a map -/
def Beside (b : Nat) (w : World) (l : List (Nat × Array Value × TypeId)) : Prop := ∀ x ∈ l, x.1 ≠ b ∧ Blk w x.1 x.2.1 x.2.2
theorem Beside.nil {b : Nat} {w : World} : Beside b w [] := fun x hx => by cases hx
theorem Beside.keep {b : Nat} {w w' : World} {l : List (Nat × Array Value × TypeId)} (h : Beside b w l) (hk : Kept w w') : Beside b w' l := fun x hx => ⟨(h x hx).1, (h x hx).2.keep hk⟩
theorem Beside.cons {b : Nat} {w : World} {l : List (Nat × Array Value × TypeId)} (h : Beside b w l) {n : Nat} {arr : Array Value} {t : TypeId} (hn : n ≠ b) (hb : Blk w n arr t) : Beside b w ((n, arr, t) :: l) := by
  intro x hx
  rcases List.mem_cons.1 hx with rfl | hx
  · exact ⟨hn, hb⟩
  · exact h x hx
theorem Beside.turned {b : Nat} {w w' : World} {l : List (Nat × Array Value × TypeId)} (h : Beside b w l) (hg : w.grownBy w' (some b)) : Beside b w' l := fun x hx => ⟨(h x hx).1, (h x hx).2.turned (h x hx).1 hg⟩
theorem Beside.at {b : Nat} {w : World} {l : List (Nat × Array Value × TypeId)} (h : Beside b w l) (i : Nat) (hi : i < l.length) : Blk w l[i].1 l[i].2.1 l[i].2.2 := (h _ (List.getElem_mem hi)).2
theorem Blk.lower {B : Nat} {w w' : World} {b : Nat} {arr : Array Value} {t : TypeId} (h : Blk w b arr t) (hb : Below B w w') (hl : b < B) : Blk w' b arr t := by
  unfold Blk at *
  rw [hb.block b hl]
  exact h
end Bal

/-
  The table of acts.
-/
namespace Go.Proofs.Ytacbkbilbmkjnaa
open Go.RowKit Bal Bal.Trim Bal.Mast
set_option linter.unusedVariables false
set_option linter.unusedSimpArgs false
set_option maxHeartbeats 2000000
set_option maxRecDepth 10000

def litF (g : Int → Option Value) : Lit → Option Value
  | .int .u8 n => g n
  | _ => none
/-- the rules of an act, as a table holds them -/
def rulesArr : Int → Array Value
  | 1 => #[.func (.func 100) #[] #[]]
  | 2 => #[.func (.func 102) #[] #[], .func (.func 69) #[] #[], .func (.func 103) #[] #[]]
  | 3 => #[.func (.func 74) #[] #[], .func (.func 106) #[] #[], .func (.func 107) #[] #[]]
  | 4 => #[.func (.func 71) #[] #[], .func (.func 106) #[] #[]]
  | 5 => #[.func (.func 71) #[] #[], .func (.func 70) #[] #[]]
  | 6 => #[.func (.func 110) #[] #[], .func (.func 69) #[] #[]]
  | 7 => #[.func (.func 73) #[] #[]]
  | 8 => #[.func (.func 112) #[] #[], .func (.func 75) #[] #[]]
  | 9 => #[.func (.func 114) #[] #[], .func (.func 73) #[] #[]]
  | 10 => #[.func (.func 110) #[] #[], .func (.func 107) #[] #[], .func (.func 112) #[] #[], .func (.func 116) #[] #[]]
  | 11 => #[.func (.func 72) #[] #[], .func (.func 116) #[] #[]]
  | 12 => #[.func (.func 117) #[] #[], .func (.func 107) #[] #[], .func (.func 112) #[] #[], .func (.func 116) #[] #[]]
  | 13 => #[.func (.func 72) #[] #[]]
  | _ => #[]
/-- an act, as a table holds it -/
def deedV (b s : Nat) : Int → Value
  | 1 => .agg #[.slice (some ⟨b, 0, none⟩) 1 1, .func (.func 127) #[] #[.pointer (some ⟨s, 0, none⟩)]]
  | 2 => .agg #[.slice (some ⟨b, 0, none⟩) 3 3, .func (.func 104) #[] #[]]
  | 3 => .agg #[.slice (some ⟨b, 0, none⟩) 3 3, .func (.func 108) #[] #[]]
  | 4 => .agg #[.slice (some ⟨b, 0, none⟩) 2 2, .func (.func 109) #[] #[]]
  | 5 => .agg #[.slice (some ⟨b, 0, none⟩) 2 2, .func (.func 127) #[] #[.pointer (some ⟨s, 0, none⟩)]]
  | 6 => .agg #[.slice (some ⟨b, 0, none⟩) 2 2, .func (.func 127) #[] #[.pointer (some ⟨s, 0, none⟩)]]
  | 7 => .agg #[.slice (some ⟨b, 0, none⟩) 1 1, .func (.func 111) #[] #[]]
  | 8 => .agg #[.slice (some ⟨b, 0, none⟩) 2 2, .func (.func 113) #[] #[]]
  | 9 => .agg #[.slice (some ⟨b, 0, none⟩) 2 2, .func (.func 115) #[] #[]]
  | 10 => .agg #[.slice (some ⟨b, 0, none⟩) 4 4, .func (.func 127) #[] #[.pointer (some ⟨s, 0, none⟩)]]
  | 11 => .agg #[.slice (some ⟨b, 0, none⟩) 2 2, .func (.func 127) #[] #[.pointer (some ⟨s, 0, none⟩)]]
  | 12 => .agg #[.slice (some ⟨b, 0, none⟩) 4 4, .func (.func 127) #[] #[.pointer (some ⟨s, 0, none⟩)]]
  | 13 => .agg #[.slice (some ⟨b, 0, none⟩) 1 1, .func (.func 127) #[] #[.pointer (some ⟨s, 0, none⟩)]]
  | _ => .nilFunc
/-- where an act makes the ship be -/
def shipTo : Int → Option Int
  | 1 => some 1
  | 5 => some 3
  | 6 => some 0
  | 10 => some 4
  | 11 => some 5
  | 12 => some 4
  | 13 => some 3
  | _ => none
/-- the table of acts lies in block M, all of it below B -/
def Table (w : World) (B M : Nat) : Prop := M < B ∧ ∃ g, InMap Try.prog 5 w M 13 (litF g) ∧ (∀ k : Int, ¬ (1 ≤ k ∧ k ≤ 13) → g k = none) ∧
  ∀ k : Int, 1 ≤ k → k ≤ 13 → ∃ b s, b < B ∧ s < B ∧ g k = some (deedV b s k) ∧ Blk w b (rulesArr k) 158 ∧ ∀ t, shipTo k = some t → Blk w s #[.int .u8 t] 5
theorem Table.below {w w' : World} {B M : Nat} (h : Table w B M) (hb : Below B w w') : Table w' B M := by
  obtain ⟨h1, g, h2, h3, h4⟩ := h
  refine ⟨h1, g, h2.below hb h1, h3, fun k k1 k2 => ?_⟩
  obtain ⟨b, s, b1, b2, b3, b4, b5⟩ := h4 k k1 k2
  exact ⟨b, s, b1, b2, b3, b4.lower hb b1, fun t ht => (b5 t ht).lower hb b2⟩
theorem Table.up {w : World} {B C M : Nat} (h : Table w B M) (hB : B ≤ C) : Table w C M := by
  obtain ⟨h1, g, h2, h3, h4⟩ := h
  refine ⟨Nat.lt_of_lt_of_le h1 hB, g, h2, h3, fun k k1 k2 => ?_⟩
  obtain ⟨b, s, b1, b2, b3⟩ := h4 k k1 k2
  exact ⟨b, s, Nat.lt_of_lt_of_le b1 hB, Nat.lt_of_lt_of_le b2 hB, b3⟩
end Go.Proofs.Ytacbkbilbmkjnaa

/-
  Trying an act: its rules, and what it does.
-/
namespace Go.Proofs.Ytacbkbilbmkjnaa
open Go.RowKit Bal Bal.Trim Bal.Mast
set_option linter.unusedVariables false
set_option linter.unusedSimpArgs false
set_option maxHeartbeats 4000000
set_option maxRecDepth 10000

theorem field0 (v u : Value) (w : World) : (Instr.field 122 (.agg #[v, u]) 0).run Try.prog w = .ok v w := by kernel_rfl
theorem field1 (v u : Value) (w : World) : (Instr.field 122 (.agg #[v, u]) 1).run Try.prog w = .ok u w := by kernel_rfl
attribute [local go_sem] field0 field1
end Go.Proofs.Ytacbkbilbmkjnaa

/-
  The program's search for a state.
-/
namespace Go.Proofs.Ytacbkbilbmkjnaa
open Go.RowKit Bal Bal.Trim Bal.Mast
set_option linter.unusedVariables false
set_option linter.unusedSimpArgs false
set_option maxHeartbeats 4000000
set_option maxRecDepth 100000

/-! ### plain -/
def valsTo (d : Tb) (pre : List Int) (k : Nat) : List Int := (match d.vars[pre.length]? with | some v => [v.lo] | none => []) ++ ((matchL d pre).take k).flatMap (rowVals d pre.length)
theorem valsTo_all (d : Tb) (pre : List Int) : valsTo d pre (matchL d pre).length = valsP d pre := by unfold valsTo valsP; first | (rw [List.take_length]; done) | (rw [List.take_length]; rfl)
theorem valsTo_zero {d : Tb} {pre : List Int} (h : pre.length < d.vars.length) : valsTo d pre 0 = [d.vars[pre.length].lo] := by unfold valsTo; simp [h]
theorem valsTo_succ {d : Tb} {pre : List Int} {k i : Nat} (h : (matchL d pre)[k]? = some i) : valsTo d pre (k + 1) = valsTo d pre k ++ rowVals d pre.length i := by
  obtain ⟨hk, e⟩ := List.getElem?_eq_some_iff.1 h
  unfold valsTo
  rw [List.take_succ_eq_append_getElem hk, List.flatMap_append, e]
  simp
theorem rowVals_len (d : Tb) (k i : Nat) : (rowVals d k i).length ≤ 2 := by
  unfold rowVals
  split
  · exact Nat.le_trans (List.length_filter_le _ _) (by simp)
  · simp
theorem valsTo_len (d : Tb) (pre : List Int) (k : Nat) : (valsTo d pre k).length ≤ 1 + 2 * k := by
  unfold valsTo
  rw [List.length_append]
  have h1 : (match d.vars[pre.length]? with | some v => [v.lo] | none => []).length ≤ 1 := by split <;> simp
  have h2 : (((matchL d pre).take k).flatMap (rowVals d pre.length)).length ≤ 2 * ((matchL d pre).take k).length := by
    generalize (matchL d pre).take k = l
    induction l with
    | nil => simp
    | cons x l ih => rw [List.flatMap_cons, List.length_append, List.length_cons]; have := rowVals_len d pre.length x; omega
  have h3 : ((matchL d pre).take k).length ≤ k := List.length_take_le k _
  omega
theorem valsTo_pos {d : Tb} {pre : List Int} {k : Nat} (h : pre.length < d.vars.length) : 0 < (valsTo d pre k).length := by unfold valsTo; simp [h]
theorem filt_one (p : Int → Bool) (a b : Int) : ([a, b].take 1).filter p = ([a, b].take 0).filter p ++ if p a = true then [a] else [] := by cases h : p a <;> simp [h]
theorem filt_two (p : Int → Bool) (a b : Int) : ([a, b].take 2).filter p = ([a, b].take 1).filter p ++ if p b = true then [b] else [] := by cases h : p a <;> cases h2 : p b <;> simp [h, h2]
theorem firstP_found {d : Tb} {W : List Nat → Bool} {m : Nat} {st s : List Int} {k : Nat} (hk : k < (once (valsP d st)).length) (hno : ∀ j (hj : j < (once (valsP d st)).length), j < k → firstP d W m (st ++ [(once (valsP d st))[j]]) = none)
    (h : firstP d W m (st ++ [(once (valsP d st))[k]]) = some s) : firstP d W (m + 1) st = some s := by
  unfold firstP
  rw [List.findSome?_eq_some_iff]
  refine ⟨(once (valsP d st)).take k, _, (once (valsP d st)).drop (k + 1), by simp, h, fun x hx => ?_⟩
  obtain ⟨j, hj, rfl⟩ := List.mem_iff_getElem.1 hx
  rw [List.length_take] at hj
  rw [List.getElem_take]
  exact hno j (by omega) (by omega)
theorem firstP_none {d : Tb} {W : List Nat → Bool} {m : Nat} {st : List Int} (hno : ∀ j (hj : j < (once (valsP d st)).length), firstP d W m (st ++ [(once (valsP d st))[j]]) = none) : firstP d W (m + 1) st = none := by
  unfold firstP
  rw [List.findSome?_eq_none_iff]
  intro x hx
  obtain ⟨j, hj, rfl⟩ := List.mem_iff_getElem.1 hx
  exact hno j hj
/-! ### the question, and the answer -/
structure Asks (W : List Nat → Bool) (F : FuncId) : Prop where
  cf : ∀ (args : Array Value) (w : World), (callFunc F args).run Try.prog w = .ok (.enter F args) w
  ask : ∀ (l : List Nat) (a : Option Addr) (c : Nat) (w : World), Calls Try.prog F #[.slice a l.length c] w fun e w' => e = .returned (.bool (W l)) ∧ Kept w w'
theorem asks0 : Asks W0 85 := ⟨fun args w => by kernel_rfl, fun l a c w => f_w0 a l.length c w⟩
theorem asks2 : Asks W2 87 := ⟨fun args w => by kernel_rfl, fun l a c w => f_w2 a l.length c w⟩
def FOut (o : Option (List Int)) (w : World) (z : Ending) : Prop := ∃ a c, z = .returned (.slice a (outS o).length c) ∧ Row icell 1 w.heap.size w a (outS o) ∧ (outS o).length ≤ c ∧ c ≤ maxLen ∧ ((o = none ∧ a = none ∧ c = 0) ∨ (o.isSome = true ∧ a.isNone = false))
theorem Blk.apart {w w' : World} {b : Nat} {arr : Array Value} {t : TypeId} {o : Option Nat} (h : Blk w b arr t) (hg : w.grownBy w' o) (hne : o ≠ some b) : Blk w' b arr t := by
  have hl := h.lt
  unfold Blk at *
  rw [hg.block b hl (fun he => hne he.symm)]
  exact h
theorem owns_rowI {w : World} {base n c : Nat} {a : Option Addr} {xs : List Int} (hn : xs.length = n) (h : w.ownsRow base 3 1 (.slice a n c) n (xs.flatMap icell)) : Row icell 1 w.heap.size w a xs ∧ n ≤ c ∧ c ≤ maxLen := by
  subst hn
  obtain ⟨a', c', e, h1, h2, h3⟩ := owns_row (enc := icell) (k := 1) (xs := xs) (fun _ => rfl) h
  cases e
  exact ⟨h1, h2, h3⟩
theorem owns_capM {w : World} {base k n m c : Nat} {e : TypeId} {a : Option Addr} {xs : List Value} (h : w.ownsRow base e k (.slice a n c) m xs) : a = none → c = 0 := by
  rintro rfl
  obtain ⟨_, ⟨hv, _⟩ | ⟨g, cap, cur, hv, _⟩⟩ := h
  · cases hv; rfl
  · cases hv
theorem owns_sliceM {w : World} {base k m : Nat} {e : TypeId} {v : Value} {xs : List Value} (h : w.ownsRow base e k v m xs) : ∃ ad cp, v = .slice ad m cp ∧ w.ownsRow base e k (.slice ad m cp) m xs := by
  obtain ⟨h0, ⟨rfl, rfl⟩ | ⟨g, cap, cur, rfl, hr⟩⟩ := h
  · exact ⟨none, 0, rfl, h0, .inl ⟨rfl, rfl⟩⟩
  · exact ⟨_, _, rfl, h0, .inr ⟨g, cap, cur, rfl, hr⟩⟩
theorem owns_blockM {w : World} {base k m : Nat} {e : TypeId} {v : Value} {xs : List Value} (h : w.ownsRow base e k v m xs) (hm : 0 < m) (hk : 0 < k) : ∃ g cp, v = .slice (some ⟨g, 0, none⟩) m cp ∧ base ≤ g ∧ g < w.heap.size := by
  obtain ⟨h0, ⟨rfl, h1⟩ | ⟨g, cap, cur, rfl, hb, hg, hr⟩⟩ := h
  · exfalso
    rw [h1] at hm
    exact Nat.lt_irrefl 0 hm
  · exact ⟨g, cap, rfl, hb, (Array.getElem?_eq_some_iff.1 hg).1⟩
theorem cell_blkM {w : World} {g : Nat} {v : Value} {t : TypeId} (h : Blk w g #[v] t) : ∀ j u, [v][j]? = some u → w.cell? ((⟨g, 0, none⟩ : Addr).add j) = some u := by
  intro j u hj
  have hj0 : j = 0 := by
    have := (List.getElem?_eq_some_iff.1 hj).1
    simp at this; omega
  subst hj0
  simp at hj
  subst hj
  have := h.cell 0
  simpa [Addr.add] using this

theorem f_first (vs : List Span) (va : Option Addr) (vc : Nat) (rs : List RowM) (ra : Option Addr) (rc : Nat) (hv : validB (tbOf vs rs) = true) (W : List Nat → Bool) (F : FuncId) (hF : Asks W F) : ∀ (m : Nat) (w : World) (ht : TabAt ⟨vs, va, vc, rs, ra, rc⟩ w) (sa : Option Addr) (sc : Nat) (st : List Int) (hs : Row icell 1 w.heap.size w sa st) (hsl : st.length ≤ sc) (hsm : sc ≤ maxLen) (hz : sa = none → sc = 0) (hm : st.length + m = vs.length),
    Calls Try.prog 84 #[.agg #[.slice va vs.length vc, .slice ra rs.length rc], .slice sa st.length sc, .func (.func F) #[] #[]] w fun e w' => FOut (firstP (tbOf vs rs) W m st) w' e ∧ Kept w w' := by
  obtain ⟨q1, q2, q3, q4⟩ := valid_parts.1 hv
  have hn := inB_iff.1 q1
  rw [show (tbOf vs rs).vars = vs from rfl] at hn
  rw [rows_len] at q2
  have hn3 : 1 ≤ vs.length ∧ vs.length ≤ 3 := by omega
  have HR := Lib.hid (show rs.length ≤ 1000 by omega)
  have HVL := Lib.hid (fun (k : Nat) (hk : k < vs.length) => (by
    have := spanOk_le (q3 vs[k] (List.getElem_mem hk)); omega : (-1000 ≤ vs[k].lo ∧ vs[k].lo ≤ 1000) ∧ -1000 ≤ vs[k].hi ∧ vs[k].hi ≤ 1000))
  have HCE := Lib.hid (fun x hx => by have := (q4 x.r (mem_rowsT hx)).1; exact this : ∀ x ∈ rs, x.r.conds.length = vs.length)
  have HBC := Lib.hid (fun x hx c hc => by have := spanOk_le ((q4 x.r (mem_rowsT hx)).2.2 c hc); omega : ∀ x ∈ rs, ∀ c ∈ x.r.conds, (-1000 ≤ c.lo ∧ c.lo ≤ 1000) ∧ -1000 ≤ c.hi ∧ c.hi ≤ 1000)
  clear q1 q2 q3 q4 hn
  intro m
  induction m with
  | zero =>
    intro w ht sa sc st hs hsl hsm hz hm
    have htv : Row Span.cells 2 w.heap.size w va vs := ht.vars
    have hvm : vc ≤ maxLen := ht.vm
    have hrm : rc ≤ maxLen := ht.rm
    have hvl : vs.length ≤ vc := ht.vl
    have hrl : rs.length ≤ rc := ht.rl
    unfold maxLen at hvm hrm
    have HCS := Lib.hid (fun x hx => by rw [HCE.out x hx]; omega : ∀ x ∈ rs, st.length ≤ x.r.conds.length)
    have lf1 : ((st.length : Int) == (vs.length : Int)) = true := by simp; omega
    have lf2 : ((st.length : Int) = (vs.length : Int)) = True := by simp; omega
    obtain ⟨bs, os, hsa, -, -⟩ := int_row hs 0 (by omega)
    have HSA := Lib.hid hsa
    clear hsa
    go_enter Try.func84, Try.ntmps84
    go_upto_region 2 with fail
    go_upto_region 3 with (first | (go_at_call 82; (with_reducible refine (f_matching vs va vc rs ra rc _ (ht.later (by (exact kpt))) sa sc st).mono ?_); rintro z w1 ⟨rfl, rfl⟩) | (go_at_call 81; (with_reducible refine (f_Collect vs va vc rs ra rc w ht sa sc st hs hsl hsm HR.out HCS.out _ ?_ _ _ ?_ ?_).mono ?_); (focus (exact kpt)); (focus (first | (with_reducible refine Blk.drew (Blk.new' ?_); (first | rfl | (simp; done))) | (with_reducible refine Blk.new' ?_; (first | rfl | (simp; done))) | (exact blk))); (focus (first | (with_reducible refine Blk.drew (Blk.new' ?_); (first | rfl | (simp; done))) | (with_reducible refine Blk.new' ?_; (first | rfl | (simp; done))) | (exact blk))); rintro z w1 ⟨v1, rfl, ho1, hb1⟩; obtain ⟨ad1, cp1, rfl, -⟩ := owns_row (enc := icell) (k := 1) (xs := natsI (matchL (tbOf vs rs) st)) (fun _ => rfl) (by rw [natsI_len]; exact ho1); rw [natsI_len] at ho1 ⊢; refine Blk.thru (b := w.heap.size) (arr := ?_) (t := ?_) ?_ hb1 ?_; rotate_left 2; (focus (exact blk)); intro q3; have q3c0 := q3.cell 0; have q3f0 := q3.free 0; have q3c1 := q3.cell 1; have q3f1 := q3.free 1; have q3l := q3.lt; simp at q3c0 q3c1))
    refine at_world (S := fun V => Blk V w.heap.size #[.slice va vs.length vc, .slice ra rs.length rc] 88 ∧ V.ownsRow w.heap.size 3 1 (.slice ad1 (matchL (tbOf vs rs) st).length cp1) (matchL (tbOf vs rs) st).length ((natsI (matchL (tbOf vs rs) st)).flatMap icell) ∧ Kept w V) ⟨by (exact blk), owns_base ho1 (by simp only [World.size_alloc]; omega), by (exact kpt)⟩ ?_
    clear ho1 hb1 q3 q3c0 q3f0 q3c1 q3f1 q3l
    rintro V ⟨r3, hoL, hkV⟩
    have r3c0 := r3.cell 0
    have r3f0 := r3.free 0
    have r3c1 := r3.cell 1
    have r3f1 := r3.free 1
    have r3l := r3.lt
    simp at r3c0 r3c1
    have hcf := hF.cf
    obtain ⟨BQ, hBQ⟩ : ∃ B, B = W (matchL (tbOf vs rs) st) := ⟨_, rfl⟩
    have HASK := Lib.hid (fun a c w => (by have := hF.ask (matchL (tbOf vs rs) st) a c w; rwa [← hBQ] at this : Calls Try.prog F #[.slice a (matchL (tbOf vs rs) st).length c] w fun e w' => e = .returned (.bool BQ) ∧ Kept w w'))
    have HFP := Lib.hid (show firstP (tbOf vs rs) W 0 st = if BQ then some st else none by rw [hBQ]; rfl)
    clear hBQ
    cases BQ with
    | false =>
      go_wp2_with ((with_reducible refine (HASK.out ad1 cp1 _).mono ?_); rintro z w1 ⟨rfl, hb1⟩)
      exact bodyPost_ret (v := .slice none 0 0) (by simp [results, Try.results84, go_sem]) rfl ⟨by rw [HFP.out]; exact ⟨none, 0, rfl, Row.nil, Nat.le_refl _, Nat.zero_le _, .inl ⟨rfl, rfl, rfl⟩⟩, by (exact kpt)⟩
    | true =>
      go_wp2_with ((with_reducible refine (HASK.out ad1 cp1 _).mono ?_); rintro z w1 ⟨rfl, hb1⟩)
      exact bodyPost_ret (v := .slice sa st.length sc) (by simp [results, Try.results84, go_sem]) rfl ⟨by rw [HFP.out]; exact ⟨sa, sc, rfl, hs.later (by (exact kpt)) (Nat.le_refl _), hsl, hsm, .inr ⟨rfl, by rw [HSA.out]; rfl⟩⟩, by (exact kpt)⟩
  | succ m ih =>
    intro w ht sa sc st hs hsl hsm hz hm
    have htv : Row Span.cells 2 w.heap.size w va vs := ht.vars
    have hvm : vc ≤ maxLen := ht.vm
    have hrm : rc ≤ maxLen := ht.rm
    have hvl : vs.length ≤ vc := ht.vl
    have hrl : rs.length ≤ rc := ht.rl
    unfold maxLen at hvm hrm
    have hk : st.length < vs.length := by omega
    have HCS := Lib.hid (fun x hx => by rw [HCE.out x hx]; omega : ∀ x ∈ rs, st.length ≤ x.r.conds.length)
    have lf1 : ((st.length : Int) == (vs.length : Int)) = false := by simp; omega
    have lf2 : ((st.length : Int) = (vs.length : Int)) = False := by simp; omega
    have hml : (matchL (tbOf vs rs) st).length ≤ 1000 := by
      have := match_few (d := tbOf vs rs) st
      rw [rows_len] at this; have := HR.out; omega
    have HIH := Lib.hid ih
    clear ih
    obtain ⟨OF, hOF⟩ : ∃ OF, OF = firstP (tbOf vs rs) W (m + 1) st := ⟨_, rfl⟩
    have HOF := Lib.hid hOF
    rw [← hOF]
    clear hOF
    go_enter Try.func84, Try.ntmps84
    go_upto_region 2 with fail
    go_upto_region 3 with (first | (go_at_call 82; (with_reducible refine (f_matching vs va vc rs ra rc _ (ht.later (by (exact kpt))) sa sc st).mono ?_); rintro z w1 ⟨rfl, rfl⟩) | (go_at_call 81; (with_reducible refine (f_Collect vs va vc rs ra rc w ht sa sc st hs hsl hsm HR.out HCS.out _ ?_ _ _ ?_ ?_).mono ?_); (focus (exact kpt)); (focus (first | (with_reducible refine Blk.drew (Blk.new' ?_); (first | rfl | (simp; done))) | (with_reducible refine Blk.new' ?_; (first | rfl | (simp; done))) | (exact blk))); (focus (first | (with_reducible refine Blk.drew (Blk.new' ?_); (first | rfl | (simp; done))) | (with_reducible refine Blk.new' ?_; (first | rfl | (simp; done))) | (exact blk))); rintro z w1 ⟨v1, rfl, ho1, hb1⟩; obtain ⟨ad1, cp1, rfl, -⟩ := owns_row (enc := icell) (k := 1) (xs := natsI (matchL (tbOf vs rs) st)) (fun _ => rfl) (by rw [natsI_len]; exact ho1); rw [natsI_len] at ho1 ⊢; refine Blk.thru (b := w.heap.size) (arr := ?_) (t := ?_) ?_ hb1 ?_; rotate_left 2; (focus (exact blk)); intro q3; have q3c0 := q3.cell 0; have q3f0 := q3.free 0; have q3c1 := q3.cell 1; have q3f1 := q3.free 1; have q3l := q3.lt; simp at q3c0 q3c1))
    refine at_world (S := fun V => Blk V w.heap.size #[.slice va vs.length vc, .slice ra rs.length rc] 88 ∧ V.ownsRow w.heap.size 3 1 (.slice ad1 (matchL (tbOf vs rs) st).length cp1) (matchL (tbOf vs rs) st).length ((natsI (matchL (tbOf vs rs) st)).flatMap icell) ∧ Kept w V) ⟨by (exact blk), owns_base ho1 (by simp only [World.size_alloc]; omega), by (exact kpt)⟩ ?_
    clear ho1 hb1 q3 q3c0 q3f0 q3c1 q3f1 q3l
    rintro V ⟨r3, hoL, hkV⟩
    have hrow := hoL
    rw [flat_icell] at hrow
    obtain ⟨_, _, e1, hrowL, hcL, hmL⟩ := owns_row (enc := icell) (k := 1) (xs := natsI (matchL (tbOf vs rs) st)) (fun _ => rfl) (by rw [natsI_len]; exact hoL)
    clear hrow
    simp only [natsI_len, Value.slice.injEq, true_and] at e1 hcL
    obtain ⟨rfl, rfl⟩ := e1
    unfold maxLen at hmL
    obtain ⟨vb, vo, rfl, hvb, v0, v1⟩ := Span.row (htv.later hkV (Nat.le_refl _)) st.length hk
    have HV0 := Lib.hid (valsTo_zero (d := tbOf vs rs) (pre := st) hk)
    have HXB := HVL.out st.length hk
    have HXV := Lib.hid (show (tbOf vs rs).vars[st.length]? = some vs[st.length] from by show vs[st.length]? = _; simp [hk])
    rw [show (tbOf vs rs).vars[st.length]'hk = vs[st.length] from rfl] at HV0
    obtain ⟨X, hX⟩ : ∃ X, X = vs[st.length] := ⟨_, rfl⟩
    rw [← hX] at v0 v1 HV0 HXB HXV
    clear hX
    have i0 : (0 : Int) ≤ (st.length : Int) := by omega
    have i1 : (st.length : Int) < (vs.length : Int) := by omega
    have r3c0 := r3.cell 0
    have r3f0 := r3.free 0
    have r3c1 := r3.cell 1
    have r3f1 := r3.free 1
    have r3l := r3.lt
    simp at r3c0 r3c1
    go_upto_region 8 with fail
    refine at_world (S := fun U => Blk U V.heap.size #[.int .i64 X.lo] 3 ∧ Kept V U) ⟨by (exact blk), by (exact kpt)⟩ ?_
    rintro U ⟨r9, hkU⟩
    have ho9 : U.ownsRow V.heap.size 3 1 (.slice (some ⟨V.heap.size, 0, none⟩) 1 1) 1 [.int .i64 X.lo] := ⟨rfl, .inr ⟨_, 1, _, rfl, Nat.le_refl _, r9, Nat.le_refl _, by decide, rfl, rfl⟩⟩
    have HVC := Lib.hid (fun (U : World) (hU : Kept V U) => (⟨(hU.cell (p := ⟨vb, vo + st.length * 2, none⟩) hvb).trans v0, (hU.cell (p := ⟨vb, vo + st.length * 2 + 1, none⟩) hvb).trans v1⟩ : U.cell? ⟨vb, vo + st.length * 2, none⟩ = some (.int .i64 X.lo) ∧ U.cell? ⟨vb, vo + st.length * 2 + 1, none⟩ = some (.int .i64 X.hi)))
    clear v0 v1 r9 r3c0 r3f0 r3c1 r3f1 r3l
    go_wp2
    go_loopw [9, 42] (fun s9 i wr => ∃ k : Nat, k ≤ (matchL (tbOf vs rs) st).length ∧ i = .int .i64 k ∧ (∃ l : List Int, l = valsTo (tbOf vs rs) st k ∧ wr.ownsRow V.heap.size 3 1 s9 l.length (l.flatMap icell)) ∧ Kept V wr) (fun _ i _ => (matchL (tbOf vs rs) st).length - (intOf i).toNat)
    case atStart => exact ⟨0, Nat.zero_le _, rfl, ⟨_, rfl, by rw [HV0.out]; exact ho9⟩, hkU⟩
    case round =>
      clear ho9 hkU
      obtain ⟨k, hk2, rfl, ⟨l, hl, hown⟩, hkr⟩ := hrel
      have hlb : l.length ≤ 2001 := by have := valsTo_len (tbOf vs rs) st k; rw [hl]; omega
      have hlp : 0 < l.length := by rw [hl]; exact valsTo_pos hk
      have HL := Lib.hid hl
      clear hl
      obtain ⟨g9, cp9, rfl, hg1, hg2⟩ := owns_blockM hown hlp (by decide)
      have r3w := r3.keep hkr
      have hkw := Kept.drop hkV hkr
      have hVr := hkr.size
      have hwV := hkV.size
      have r3wc0 := r3w.cell 0
      have r3wf0 := r3w.free 0
      have r3wc1 := r3w.cell 1
      have r3wf1 := r3w.free 1
      have r3wl := r3w.lt
      simp at r3wc0 r3wc1
      by_cases hlt : k < (matchL (tbOf vs rs) st).length
      · obtain ⟨lb, lo_, rfl, hlb0, x0⟩ := int_row (hrowL.later hkr (Nat.le_refl _)) k (by rw [natsI_len]; exact hlt)
        have hil : (matchL (tbOf vs rs) st)[k] < rs.length := by
          obtain ⟨h, -⟩ := mem_match.1 (List.getElem_mem hlt)
          rw [rows_len] at h; exact h
        have hsuc := valsTo_succ (d := tbOf vs rs) (pre := st) (k := k) (i := (matchL (tbOf vs rs) st)[k]) (by simp [hlt])
        have x0b : wr.cell? ⟨lb, lo_ + k, none⟩ = some (.int .i64 (((matchL (tbOf vs rs) st)[k] : Nat) : Int)) := by simpa [natsI] using x0
        obtain ⟨i, hi⟩ : ∃ i, i = (matchL (tbOf vs rs) st)[k] := ⟨_, rfl⟩
        rw [← HL.out] at hsuc
        simp only [← hi] at hil hsuc x0b
        clear hi x0
        have htr : Row RowM.cells 2 w.heap.size w ra rs := ht.rows
        obtain ⟨rb, ro, rfl, hrb, g0, g1⟩ := RowM.row (htr.later hkw (Nat.le_refl _)) i hil
        have hcnd : Row Span.cells 2 w.heap.size w rs[i].ad rs[i].r.conds := ht.conds _ (List.getElem_mem hil)
        have hce : rs[i].r.conds.length = vs.length := HCE.out _ (List.getElem_mem hil)
        have hbc : ∀ c ∈ rs[i].r.conds, (-1000 ≤ c.lo ∧ c.lo ≤ 1000) ∧ -1000 ≤ c.hi ∧ c.hi ≤ 1000 := HBC.out _ (List.getElem_mem hil)
        have hc3 : rs[i].r.conds.length ≤ rs[i].cap := (ht.cl _ (List.getElem_mem hil)).1
        have hc4 : rs[i].cap ≤ maxLen := (ht.cl _ (List.getElem_mem hil)).2
        obtain ⟨c, hcx⟩ : ∃ c, rs[i].r.conds[st.length]? = some c := ⟨rs[i].r.conds[st.length]'(by omega), List.getElem?_eq_getElem (by omega)⟩
        have hrv : rowVals (tbOf vs rs) st.length i = ([c.lo, c.hi + 1].filter (fun n => inB n X.lo X.hi)) := by
          unfold rowVals
          rw [HXV.out]
          have e1 : ((tbOf vs rs).rows[i]?).bind (fun r => r.conds[st.length]?) = some c := by
            rw [← hcx]
            simp [tbOf, hil]
          rw [e1]
        rw [hrv] at hsuc
        clear hrv
        have hcB := hbc _ (List.mem_of_getElem? hcx)
        obtain ⟨R, hR⟩ : ∃ R, R = rs[i] := ⟨_, rfl⟩
        simp only [← hR] at g0 g1 hcnd hce hc3 hc4 hcx
        clear hR hbc
        obtain ⟨⟨cs, ac⟩, ca, cc⟩ := R
        simp only at g0 g1 hcnd hce hc3 hc4 hcx
        unfold maxLen at hc4
        obtain ⟨cb, co, rfl, hcb, c0, c1⟩ := Span.row (hcnd.later hkw (Nat.le_refl _)) st.length (by omega)
        have hcy : cs[st.length]'(by omega) = c := by
          obtain ⟨_, e⟩ := List.getElem?_eq_some_iff.1 hcx
          exact e
        rw [hcy] at c0 c1
        have hc : True := trivial
        have HVS := Lib.hid hsuc
        clear hc hsuc hcx hcy
        have u1 : IntKind.i64.wrap (c.hi + 1) = c.hi + 1 := by rw [IntKind.wrap_i64]; omega
        have u2 : wrap64 (c.hi + 1) = c.hi + 1 := by unfold wrap64; omega
        have j0 : (0 : Int) ≤ (i : Int) := by omega
        have j1 : (i : Int) < (rs.length : Int) := by omega
        have j2 : (st.length : Int) < (cs.length : Int) := by omega
        have j3 : (0 : Int) ≤ (k : Int) := by omega
        have j4 : (k : Int) < ((matchL (tbOf vs rs) st).length : Int) := by omega
        go_wp2
        refine at_world (S := fun Y => Blk Y (wr.heap.size + 1) #[.int .i64 c.lo, .int .i64 (c.hi + 1)] 3 ∧ Y.ownsRow V.heap.size 3 1 (.slice (some ⟨g9, 0, none⟩) l.length cp9) l.length (l.flatMap icell) ∧ Kept V Y) ⟨by (exact blk), owns_keep hown (by (exact kpt)), by (exact kpt)⟩ ?_
        clear hown hkr r3w g0 g1 c0 c1 x0b u1 u2 r3wc0 r3wf0 r3wc1 r3wf1 r3wl
        have HG := Lib.hid hg2
        obtain ⟨Z1, rfl⟩ : ∃ Z1 : World, Z1 = wr := ⟨_, rfl⟩
        rintro Y ⟨rA, hown, hkY⟩
        go_loopw [9, 62] (fun s9 j wr => ∃ j' : Nat, j' ≤ 2 ∧ j = .int .i64 j' ∧ (j' = 0 → s9 = .slice (some ⟨g9, 0, none⟩) l.length cp9) ∧ (j' ≤ 1 → Blk wr (Z1.heap.size + 1) #[.int .i64 c.lo, .int .i64 (c.hi + 1)] 3) ∧ (∃ l2 : List Int, l2 = l ++ ([c.lo, c.hi + 1].take j').filter (fun n => inB n X.lo X.hi) ∧ wr.ownsRow V.heap.size 3 1 s9 l2.length (l2.flatMap icell)) ∧ Kept V wr) (fun _ j _ => 2 - (intOf j).toNat)
        case atStart => exact ⟨0, by omega, rfl, fun _ => rfl, fun _ => rA, ⟨l, by simp, hown⟩, hkY⟩
        case round =>
          clear rA hown hkY
          obtain ⟨j, hj, rfl, h90, hq0, ⟨l2, hl2, hown2⟩, hkr2⟩ := hrel
          rcases (by omega : j = 0 ∨ j = 1 ∨ j = 2) with rfl | rfl | rfl
          · obtain rfl := h90 rfl
            have hl2b : l2.length ≤ 2001 := by rw [hl2]; simpa using hlb
            have q0 := hq0 (by omega)
            clear h90 hq0
            have q0c0 := q0.cell 0
            have q0f0 := q0.free 0
            have q0c1 := q0.cell 1
            have q0f1 := q0.free 1
            have q0l := q0.lt
            simp at q0c0 q0c1
            obtain ⟨y, hy⟩ : ∃ y, y = c.lo := ⟨_, rfl⟩
            rw [← hy] at q0c0
            have HE := Lib.hid (show l ++ ([c.lo, c.hi + 1].take 1).filter (fun n => inB n X.lo X.hi) = l2 ++ (if inB y X.lo X.hi = true then [y] else []) by rw [hl2, filt_one, List.append_assoc, hy])
            clear hy
            have hkW := Kept.drop hkV hkr2
            have rw3 := r3.keep hkr2
            have lw := rw3.lt
            have hVR := hkr2.size
            have k0 : ∀ w2, Kept wr w2 → w2.cell? ⟨w.heap.size, 0, none⟩ = some (.slice (some ⟨vb, vo, none⟩) vs.length vc) := fun w2 h => by simpa using (rw3.keep h).cell 0
            have k2 : ∀ w2, Kept wr w2 → w2.cell? ⟨vb, vo + st.length * 2, none⟩ = some (.int .i64 X.lo) := fun w2 h => (HVC.out w2 (Kept.drop hkr2 h)).1
            have k3 : ∀ w2, Kept wr w2 → w2.cell? ⟨vb, vo + st.length * 2 + 1, none⟩ = some (.int .i64 X.hi) := fun w2 h => (HVC.out w2 (Kept.drop hkr2 h)).2
            obtain rfl : l = l2 := by rw [hl2]; simp
            clear hl2
            go_upto_region 15 with fail
            clear q0c0 q0c1 q0f0 q0f1 q0l
            cases hb : inB y X.lo X.hi
            · have HB := Lib.hid (show inB y X.lo X.hi = false from hb)
              have HF := Lib.hid (show l ++ ([c.lo, c.hi + 1].take 1).filter (fun n => inB n X.lo X.hi) = l by rw [HE.out, hb]; simp)
              clear hb HE
              go_region_held3 (fun w2 => Kept wr w2) (exact kpt) (first | (go_at_call 51; (with_reducible refine (f_rangedB X.lo X.hi y _ 3 _ ?_).mono ?_); (focus (first | (with_reducible refine Blk.drew (Blk.new' ?_); (first | rfl | (simp; done))) | (with_reducible refine Blk.new' ?_; (first | rfl | (simp; done))) | (exact blk))); rw [HB.out]; rintro z w2 ⟨rfl, hb2⟩) | fail)
              all_goals
                go_wp2
                go_roundw
                case rel =>
                  have hkf : Kept wr w2 := by (exact kpt)
                  exact ⟨1, by omega, by go_num, fun h => absurd h (by omega), fun _ => q0.keep hkf, ⟨l, HF.out.symm, owns_keep hown2 hkf⟩, Kept.drop hkr2 hkf⟩
                case measure => simp [intOf]
            · have HB := Lib.hid (show inB y X.lo X.hi = true from hb)
              have HF := Lib.hid (show l ++ ([c.lo, c.hi + 1].take 1).filter (fun n => inB n X.lo X.hi) = l ++ [y] by rw [HE.out, hb]; simp)
              clear hb HE
              go_region_held3 (fun w2 => Kept wr w2) (exact kpt) (first | (go_at_call 51; (with_reducible refine (f_rangedB X.lo X.hi y _ 3 _ ?_).mono ?_); (focus (first | (with_reducible refine Blk.drew (Blk.new' ?_); (first | rfl | (simp; done))) | (with_reducible refine Blk.new' ?_; (first | rfl | (simp; done))) | (exact blk))); rw [HB.out]; rintro z w2 ⟨rfl, hb2⟩) | fail)
              all_goals
                have hkf : Kept wr w2 := by (exact kpt)
                have ho8 := owns_keep hown2 hkf
                have hz2 := hkf.size
                go_wp2_with (at_builtin; obtain ⟨i0, hi, hz0, hz1, hz2⟩ := info_parts infoIntM; refine wpList_append_own _ rfl _ _ 51 rfl V.heap.size 3 i0 (.int .i64 0) 1 8 Try.underlying51 hi hz0 hz1 hz2 rfl (by decide) _ _ _ rfl (ho8.alloc _) ⟨_, 0, none⟩ 1 1 [.int .i64 y] rfl rfl (cell_one_at (by simp) _ _) (fun x hx => by simp at hx; subst hx; rfl) (by unfold maxLen; omega) (by omega) (by simp only [World.size_alloc]; omega) ?_; intro v9 w9 hown9 hgrow9 hnil9; clear hi hz0 hz1 hz2)
                go_roundw
                case rel =>
                  exact ⟨1, by omega, by go_num, fun h => absurd h (by omega), fun _ => Blk.apart ((q0.keep hkf).alloc _) hgrow9 (show (Value.slice (some ⟨g9, 0, none⟩) l.length cp9).ownBlock ≠ some (Z1.heap.size + 1) by simp [Value.ownBlock]; have := HG.out; omega), ⟨l ++ [y], HF.out.symm, by rw [List.flatMap_append, List.length_append]; exact hown9⟩, Kept.grown (Kept.alloc (Kept.drop hkr2 hkf) _) (ho8.alloc _) (Nat.le_refl _) hgrow9⟩
                case measure => simp [intOf]
          · have hl2b : l2.length ≤ 2003 := by rw [hl2, List.length_append]; have := List.length_filter_le (fun n => inB n X.lo X.hi) ([c.lo, c.hi + 1].take 1); simp only [List.length_take, List.length_cons, List.length_nil] at this; omega
            have hl2p : 0 < l2.length := by rw [hl2, List.length_append]; omega
            obtain ⟨g9, cp9, rfl, hg8, hg7⟩ := owns_blockM hown2 hl2p (by decide)
            have q0 := hq0 (by omega)
            clear h90 hq0
            have q0c0 := q0.cell 0
            have q0f0 := q0.free 0
            have q0c1 := q0.cell 1
            have q0f1 := q0.free 1
            have q0l := q0.lt
            simp at q0c0 q0c1
            obtain ⟨y, hy⟩ : ∃ y, y = (c.hi + 1) := ⟨_, rfl⟩
            rw [← hy] at q0c1
            have HE := Lib.hid (show l ++ ([c.lo, c.hi + 1].take 2).filter (fun n => inB n X.lo X.hi) = l2 ++ (if inB y X.lo X.hi = true then [y] else []) by rw [hl2, filt_two, List.append_assoc, hy])
            clear hy hl2
            have hkW := Kept.drop hkV hkr2
            have rw3 := r3.keep hkr2
            have lw := rw3.lt
            have hVR := hkr2.size
            have k0 : ∀ w2, Kept wr w2 → w2.cell? ⟨w.heap.size, 0, none⟩ = some (.slice (some ⟨vb, vo, none⟩) vs.length vc) := fun w2 h => by simpa using (rw3.keep h).cell 0
            have k2 : ∀ w2, Kept wr w2 → w2.cell? ⟨vb, vo + st.length * 2, none⟩ = some (.int .i64 X.lo) := fun w2 h => (HVC.out w2 (Kept.drop hkr2 h)).1
            have k3 : ∀ w2, Kept wr w2 → w2.cell? ⟨vb, vo + st.length * 2 + 1, none⟩ = some (.int .i64 X.hi) := fun w2 h => (HVC.out w2 (Kept.drop hkr2 h)).2
            go_upto_region 15 with fail
            clear q0c0 q0c1 q0f0 q0f1 q0l
            cases hb : inB y X.lo X.hi
            · have HB := Lib.hid (show inB y X.lo X.hi = false from hb)
              have HF := Lib.hid (show l ++ ([c.lo, c.hi + 1].take 2).filter (fun n => inB n X.lo X.hi) = l2 by rw [HE.out, hb]; simp)
              clear hb HE
              go_region_held3 (fun w2 => Kept wr w2) (exact kpt) (first | (go_at_call 51; (with_reducible refine (f_rangedB X.lo X.hi y _ 3 _ ?_).mono ?_); (focus (first | (with_reducible refine Blk.drew (Blk.new' ?_); (first | rfl | (simp; done))) | (with_reducible refine Blk.new' ?_; (first | rfl | (simp; done))) | (exact blk))); rw [HB.out]; rintro z w2 ⟨rfl, hb2⟩) | fail)
              all_goals
                go_wp2
                go_roundw
                case rel =>
                  have hkf : Kept wr w2 := by (exact kpt)
                  exact ⟨2, by omega, by go_num, fun h => absurd h (by omega), fun h => absurd h (by omega), ⟨l2, HF.out.symm, owns_keep hown2 hkf⟩, Kept.drop hkr2 hkf⟩
                case measure => simp [intOf]
            · have HB := Lib.hid (show inB y X.lo X.hi = true from hb)
              have HF := Lib.hid (show l ++ ([c.lo, c.hi + 1].take 2).filter (fun n => inB n X.lo X.hi) = l2 ++ [y] by rw [HE.out, hb]; simp)
              clear hb HE
              go_region_held3 (fun w2 => Kept wr w2) (exact kpt) (first | (go_at_call 51; (with_reducible refine (f_rangedB X.lo X.hi y _ 3 _ ?_).mono ?_); (focus (first | (with_reducible refine Blk.drew (Blk.new' ?_); (first | rfl | (simp; done))) | (with_reducible refine Blk.new' ?_; (first | rfl | (simp; done))) | (exact blk))); rw [HB.out]; rintro z w2 ⟨rfl, hb2⟩) | fail)
              all_goals
                have hkf : Kept wr w2 := by (exact kpt)
                have ho8 := owns_keep hown2 hkf
                have hz2 := hkf.size
                go_wp2_with (at_builtin; obtain ⟨i0, hi, hz0, hz1, hz2⟩ := info_parts infoIntM; refine wpList_append_own _ rfl _ _ 51 rfl V.heap.size 3 i0 (.int .i64 0) 1 8 Try.underlying51 hi hz0 hz1 hz2 rfl (by decide) _ _ _ rfl (ho8.alloc _) ⟨_, 0, none⟩ 1 1 [.int .i64 y] rfl rfl (cell_one_at (by simp) _ _) (fun x hx => by simp at hx; subst hx; rfl) (by unfold maxLen; omega) (by omega) (by simp only [World.size_alloc]; omega) ?_; intro v9 w9 hown9 hgrow9 hnil9; clear hi hz0 hz1 hz2)
                go_roundw
                case rel =>
                  exact ⟨2, by omega, by go_num, fun h => absurd h (by omega), fun h => absurd h (by omega), ⟨l2 ++ [y], HF.out.symm, by rw [List.flatMap_append, List.length_append]; exact hown9⟩, Kept.grown (Kept.alloc (Kept.drop hkr2 hkf) _) (ho8.alloc _) (Nat.le_refl _) hgrow9⟩
                case measure => simp [intOf]
          · clear h90 hq0
            have HL2 := Lib.hid hl2
            clear hl2
            have hkW := Kept.drop hkV hkr2
            go_wp2
            go_roundw
            case rel => exact ⟨k + 1, by omega, by go_num, ⟨l2, by rw [HVS.out]; exact HL2.out, hown2⟩, hkr2⟩
            case measure => simp [intOf]; omega
      · obtain rfl : k = (matchL (tbOf vs rs) st).length := by omega
        have HO0 := Lib.hid (show Lib.compact (l.mergeSort fun x y => decide (x ≤ y)) = once (valsP (tbOf vs rs) st) by rw [← valsTo_all, ← HL.out]; rfl)
        go_wp2_with (first | (go_at_call 120; (with_reducible refine (s_SortI (base := V.heap.size) g9 cp9 l _ (by omega) ?_).mono ?_); (focus exact owns_keep hown (by (exact kpt))); rintro z w4 ⟨rfl, ho4, hb4⟩; have hk4 : Kept V w4 := Below.trans (by (exact kpt)) hb4; clear hb4) | (go_at_call 121; (with_reducible refine (s_CompactN (base := V.heap.size) g9 cp9 (l.mergeSort fun x y => decide (x ≤ y)) _ (List.length_mergeSort l) ?_).mono ?_); (focus exact owns_keep ho4 (by (exact kpt))); rintro z w5 ⟨rfl, ho5, hb5⟩; have hk5 : Kept V w5 := Below.trans (by (exact kpt)) hb5; clear hb5))
        have hrO := (owns_rowI rfl ho5).1
        have hlO : (Lib.compact (l.mergeSort fun x y => decide (x ≤ y))).length ≤ 2001 := Nat.le_trans (Lib.compact_length_le _) (by rw [List.length_mergeSort]; exact hlb)
        have hmO := (owns_rowI rfl ho5).2
        obtain ⟨O, hO⟩ : ∃ O, O = Lib.compact (l.mergeSort fun x y => decide (x ≤ y)) := ⟨_, rfl⟩
        rw [← hO] at HO0 hrO hlO hmO ⊢
        clear hO ho5 ho4
        unfold maxLen at hmO
        refine at_world (S := fun Z => Row icell 1 Z.heap.size Z (some ⟨g9, 0, none⟩) O ∧ Blk Z w.heap.size #[.slice (some ⟨vb, vo, none⟩) vs.length vc, .slice ra rs.length rc] 88 ∧ Kept w Z) ⟨hrO.later (by (exact kpt)) (Nat.le_refl _), by (exact blk), by (exact kpt)⟩ ?_
        clear hrO hk4 hk5 r3w hkw r3wc0 r3wf0 r3wc1 r3wf1 r3wl hown hoL hrowL r3
        obtain ⟨Y0, rfl⟩ : ∃ Y0 : World, Y0 = wr := ⟨_, rfl⟩
        rintro Z ⟨hrowO, r3, hkZ⟩
        go_loopw [92] (fun i wr => ∃ k : Nat, k ≤ O.length ∧ i = .int .i64 k ∧ (∀ j (hj : j < O.length), j < k → firstP (tbOf vs rs) W m (st ++ [O[j]]) = none) ∧ Kept Z wr) (fun i _ => O.length - (intOf i).toNat)
        case atStart => exact ⟨0, Nat.zero_le _, rfl, fun j hj h => absurd h (Nat.not_lt_zero _), by (exact kpt)⟩
        case round =>
          obtain ⟨k, hk3, rfl, hno, hkz⟩ := hrel
          have HNO := Lib.hid hno
          clear hno
          have r3z := r3.keep hkz
          have hkk := Kept.drop hkZ hkz
          by_cases hlt2 : k < O.length
          · obtain ⟨ob, oo, e0, hob, x0⟩ := int_row (hrowO.later hkz (Nat.le_refl _)) k hlt2
            simp only [Option.some.injEq, Addr.mk.injEq, and_true] at e0
            obtain ⟨rfl, rfl⟩ := e0
            rw [Nat.zero_add] at x0
            obtain ⟨y, hy⟩ : ∃ y, y = O[k] := ⟨_, rfl⟩
            obtain ⟨OS, hOS⟩ : ∃ OS, OS = firstP (tbOf vs rs) W m (st ++ [y]) := ⟨_, rfl⟩
            have HOS := Lib.hid (show firstP (tbOf vs rs) W m (st ++ [O[k]]) = OS by rw [hOS, hy])
            have HFS := Lib.hid (fun (s : List Int) (hno : ∀ j (hj : j < O.length), j < k → firstP (tbOf vs rs) W m (st ++ [O[j]]) = none) (hs : firstP (tbOf vs rs) W m (st ++ [O[k]]) = some s) => (by
              have h1 := HOF.out
              have h2 := HO0.out
              subst h2
              rw [h1]
              exact firstP_found hlt2 hno hs : OF = some s))
            have HIH2 := Lib.hid (fun (U : World) (ad : Option Addr) (cp : Nat) (hU : Kept w U) (hr : Row icell 1 U.heap.size U ad (st ++ [y])) (h1 : st.length + 1 ≤ cp) (h6 : cp ≤ maxLen) (h7 : ad = none → cp = 0) => (by
              have := HIH.out U (ht.later hU) ad cp (st ++ [y]) hr (by simpa using h1) h6 h7 (by simp; omega)
              rw [← hOS, List.length_append, List.length_singleton] at this
              exact this : Calls Try.prog 84 #[.agg #[.slice (some ⟨vb, vo, none⟩) vs.length vc, .slice ra rs.length rc], .slice ad (st.length + 1) cp, .func (.func F) #[] #[]] U fun e w' => FOut OS w' e ∧ Kept U w'))
            have HCLO := Lib.hid (fun (U : World) (hU : Kept w U) => s_CloneI sa sc st U (hs.later hU (Nat.le_refl _)) (by omega) hz)
            rw [← hy] at x0
            clear hy hOS
            go_upto_region 23 with fail
            refine fork_walk (fun w' => Kept wr w') (fun u v V => ∃ ad cp g, u = .slice ad st.length cp ∧ v = .slice (some ⟨g, 0, none⟩) 1 1 ∧ V.ownsRow wr.heap.size 3 1 u st.length (st.flatMap icell) ∧ Blk V g #[.int .i64 y] 3) [0, 1, 3, 6] 2 4 [(false, 5), (false, 7), (true, 8)] (by kernel_rfl) (by kernel_rfl) (fun c a d v w h => by cases d <;> exact h) (Below.drew (Below.refl _ _)) ?_
            simp only [List.filterMap_cons, List.filterMap_nil, List.getElem?_cons_zero, List.getElem?_cons_succ, Option.map_some]
            refine taken_take ?_ ?_ (fun w' hS => ?_) ?_; rotate_left 1; (focus rfl); (focus (have y8 := r3z.keep hS; have y80 := y8.cell 0; have y81 := y8.cell 1; have y82 := y8.free 0; have y83 := y8.free 1; have y84 := y8.lt; simp at y80 y81; first | (go_simp; done) | (go_simp; with_reducible rfl))); simp only [Act.put, List.setIfInBounds_toArray, List.set_cons_zero, List.set_cons_succ]
            refine taken_take ?_ ?_ (fun w' hS => ?_) ?_; rotate_left 1; (focus rfl); (focus (have y8 := r3z.keep hS; have y80 := y8.cell 0; have y81 := y8.cell 1; have y82 := y8.free 0; have y83 := y8.free 1; have y84 := y8.lt; simp at y80 y81; first | (go_simp; done) | (go_simp; with_reducible rfl))); simp only [Act.put, List.setIfInBounds_toArray, List.set_cons_zero, List.set_cons_succ]
            refine taken_take ?_ ?_ (fun w' hS => ?_) ?_; rotate_left 1; (focus rfl); (focus (have y8 := r3z.keep hS; have y80 := y8.cell 0; have y81 := y8.cell 1; have y82 := y8.free 0; have y83 := y8.free 1; have y84 := y8.lt; simp at y80 y81; first | (go_simp; done) | (go_simp; with_reducible rfl))); simp only [Act.put, List.setIfInBounds_toArray, List.set_cons_zero, List.set_cons_succ]
            refine taken_take ?_ ?_ (fun w' hS => ?_) ?_; rotate_left 1; (focus rfl); (focus (have y8 := r3z.keep hS; have y80 := y8.cell 0; have y81 := y8.cell 1; have y82 := y8.free 0; have y83 := y8.free 1; have y84 := y8.lt; simp at y80 y81; first | (go_simp; done) | (go_simp; with_reducible rfl))); simp only [Act.put, List.setIfInBounds_toArray, List.set_cons_zero, List.set_cons_succ]
            refine taken_nil ?_
            intro oi oj hoi hoj
            simp only [Option.some.injEq] at hoi hoj
            subst hoi hoj
            refine ⟨?_, ?_, ?_⟩
            · refine wpList_plain rfl fun K1 hK1 => ?_
              go_wp2_with (go_at_call 122; (with_reducible refine (HCLO.out _ (by (exact kpt))).mono ?_); rintro e w1 ⟨v1, rfl, ho1, hb1⟩)
              obtain ⟨ad2, cp2, rfl, hown1⟩ : ∃ ad cp, v1 = .slice ad st.length cp ∧ _ := owns_sliceM ho1
              refine fork_first (by (exact kpt)) ?_
              refine wpList_plain rfl fun K2 hK2 => ?_
              go_wp2
              refine fork_first (by (exact kpt)) ?_
              exact ⟨_, _, rfl, ad2, cp2, _, rfl, rfl, owns_keep (owns_base hown1 (Nat.le_refl _)) (by (exact kpt)), by (exact blk)⟩
            · refine wpList_plain rfl fun K1 hK1 => ?_
              go_wp2
              refine fork_first (by (exact kpt)) ?_
              refine wpList_plain rfl fun K2 hK2 => ?_
              go_wp2_with (go_at_call 122; (with_reducible refine (HCLO.out _ (by (exact kpt))).mono ?_); rintro e w1 ⟨v1, rfl, ho1, hb1⟩)
              obtain ⟨ad2, cp2, rfl, hown1⟩ : ∃ ad cp, v1 = .slice ad st.length cp ∧ _ := owns_sliceM ho1
              refine fork_first (by (exact kpt)) ?_
              first | exact ⟨_, _, rfl, ad2, cp2, _, rfl, rfl, owns_base hown1 (by simp), by (exact blk)⟩ | exact ⟨_, _, rfl, ⟨ad2, cp2, rfl⟩, _, rfl, owns_base hown1 (by simp), by (exact blk)⟩
            intro u v w2 hS2 hR
            obtain ⟨ad9, cp9b, g8, rfl, rfl, ho9, hb9⟩ := hR
            simp only [Act.put, List.setIfInBounds_toArray, List.set_cons_zero, List.set_cons_succ]
            have HNEW := Lib.hid (show ∀ j u, ([.int .i64 y] : List Value)[j]? = some u → w2.cell? ((⟨g8, 0, none⟩ : Addr).add j) = some u from cell_blkM hb9)
            have hz9 : wr.heap.size ≤ w2.heap.size := hS2.size
            refine held_one ?_
            (obtain ⟨i0, hi, hz0, hz1, hz2⟩ := info_parts infoIntM; refine wpList_append_own _ rfl _ _ 51 rfl wr.heap.size 3 i0 (.int .i64 0) 1 8 Try.underlying51 hi hz0 hz1 hz2 rfl (by decide) _ _ _ rfl ho9 ⟨g8, 0, none⟩ 1 1 [.int .i64 y] rfl rfl HNEW.out (fun x hx => by simp at hx; subst hx; rfl) (by unfold maxLen; omega) (by omega) hz9 ?_; intro v8 w8 hown8 hgrow8 hnil8; clear hi hz0 hz1 hz2)
            have hk8 : Kept wr w8 := Kept.grown hS2 ho9 (Nat.le_refl _) hgrow8
            obtain ⟨ad8, cp8, rfl, hrow8, hc8, hm8⟩ := owns_row (enc := icell) (k := 1) (xs := st ++ [y]) (fun _ => rfl) (by rw [List.flatMap_append, List.length_append]; exact hown8)
            have hz8 := owns_capM hown8
            rw [List.length_append, List.length_singleton] at hc8 ⊢
            have hk98 : Kept w w8 := Kept.drop hkk hk8
            refine held_on hk8 ?_
            simp only [Act.put, List.setIfInBounds_toArray, List.set_cons_zero, List.set_cons_succ]
            refine held_one ?_
            refine wpList_plain rfl fun K1 hK1 => ?_
            go_wp2_with (go_at_call 84; (with_reducible refine (HIH2.out _ ad8 cp8 hk98 hrow8 hc8 hm8 hz8).mono ?_); rintro e w7 ⟨⟨a7, c7, rfl, hr7, hc7, hm7, hcase⟩, hb7⟩)
            refine held_on (by (exact kpt)) ?_
            refine held_take ?_ ?_ (fun w' hS => ?_) ?_; rotate_left 1; (focus rfl); (focus (skip; first | (go_simp; done) | (go_simp; with_reducible rfl))); simp only [Act.put, List.setIfInBounds_toArray, List.set_cons_zero, List.set_cons_succ]
            refine held_nil ?_
            cases OS with
            | none =>
              obtain ⟨-, rfl, rfl⟩ : none = none ∧ a7 = none ∧ c7 = 0 := by
                rcases hcase with h | ⟨h, _⟩
                · exact h
                · cases h
              have HF := Lib.hid (show ∀ j (hj : j < O.length), j < k + 1 → firstP (tbOf vs rs) W m (st ++ [O[j]]) = none from fun j hj h => by
                rcases Nat.lt_or_ge j k with h2 | h2
                · exact HNO.out j hj h2
                · obtain rfl : j = k := by omega
                  exact HOS.out)
              have hs0 : ∀ w, (binOp .neq 51 (.slice none 0 0) (.slice none 0 0)).run Try.prog w = .ok (.bool false) w := fun w => run_neq_slice_nil _ _ _ _ _ _ Try.underlying51
              simp only [outS, Option.getD_none, List.length_nil]
              go_wp2
              go_roundw
              case rel => exact ⟨k + 1, by omega, by go_num, HF.out, Kept.drop hkz (Kept.drop hk8 hb7)⟩
              case measure => simp [intOf]; omega
            | some s =>
              obtain ⟨-, h7⟩ : (some s).isSome = true ∧ a7.isNone = false := by
                rcases hcase with ⟨h, _⟩ | h
                · cases h
                · exact h
              have HF := Lib.hid (show OF = some s from HFS.out s HNO.out HOS.out)
              have hs0 : ∀ w, (binOp .neq 51 (.slice a7 (outS (some s)).length c7) (.slice none 0 0)).run Try.prog w = .ok (.bool true) w := fun w => by rw [run_neq_slice_nil _ _ _ _ _ _ Try.underlying51, h7]; rfl
              obtain ⟨n7, hn7⟩ : ∃ n7, n7 = (outS (some s)).length := ⟨_, rfl⟩
              rw [← hn7] at hs0 ⊢
              have HN7 := Lib.hid hn7
              clear hn7 hcase
              go_wp2
              refine bodyPost_ret (v := .slice a7 n7 c7) (by simp [results, Try.results84, go_sem]) rfl ⟨?_, Kept.drop hk98 hb7⟩
              rw [HF.out]
              exact ⟨a7, c7, by rw [HN7.out], hr7, hc7, hm7, .inr ⟨rfl, h7⟩⟩
          · obtain rfl : O.length = k := by omega
            have HF := Lib.hid (show OF = none by
              have h1 := HOF.out
              have h2 := HO0.out
              have h3 := HNO.out
              subst h2
              rw [h1]
              exact firstP_none (fun j hj => h3 j hj hj))
            go_wp2
            exact bodyPost_ret (v := .slice none 0 0) (by simp [results, Try.results84, go_sem]) rfl ⟨by rw [HF.out]; exact ⟨none, 0, rfl, Row.nil, Nat.le_refl _, Nat.zero_le _, .inl ⟨rfl, rfl, rfl⟩⟩, by (exact kpt)⟩

end Go.Proofs.Ytacbkbilbmkjnaa

/-
  The persons that lines need, in the program and in the reference.
-/
namespace Go.Proofs.Ytacbkbilbmkjnaa
open Go.RowKit Bal Bal.Trim Bal.Mast
set_option linter.unusedVariables false
set_option linter.unusedSimpArgs false
set_option maxHeartbeats 2000000
set_option maxRecDepth 10000

theorem info_parts {P : Program} {e : TypeId} {z : Value} {s b : Nat} (h : (P.info? e).map (fun i => (i.zero, i.size, i.bytes)) = some (some z, s, b)) : ∃ i, P.info? e = some i ∧ i.zero = some z ∧ i.size = s ∧ i.bytes = b := by
  cases hi : P.info? e with
  | none => rw [hi] at h; cases h
  | some i => rw [hi] at h; simp at h; exact ⟨i, rfl, h.1, h.2.1, h.2.2⟩
theorem owns_row {α : Type} {enc : α → List Value} {k base : Nat} {e : TypeId} {w : World} {v : Value} {xs : List α} (he : ∀ x, (enc x).length = k) (h : w.ownsRow base e k v xs.length (xs.flatMap enc)) :
    ∃ a cap, v = .slice a xs.length cap ∧ Row enc k w.heap.size w a xs ∧ xs.length ≤ cap ∧ cap ≤ maxLen := Row.of_owns he h

end Go.Proofs.Ytacbkbilbmkjnaa
