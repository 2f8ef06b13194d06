/-
  Facts about memory, lists and numbers that the walks use: no program in sight.
-/
import Derived.WalkKit
import Derived.WalkSpells
import Derived.WalkLawsBesides
import Derived.Lib.Hide
import Derived.ProofKit
import Derived.OpenShut
import Derived.ChangeOld
import Derived.Below
import Derived.Deep.Slices
import Derived.Deep.Fields
import Derived.Deep.Quiet
import Derived.Laws.AppendOwn
import Derived.Laws.AppendOwnNone
import Derived.StillTail
import Derived.Test.YtamnnjdfjffhlaaGreatDoorProg
import Derived.Deep.QuietTactic
import Derived.BigQuiet
import Derived.Deep.RegionHeld3
import Derived.Deep.DeepCutAuto
import Derived.WalkSmall
import Derived.OwnWalk
import Derived.Deep.RegionWith
import Derived.Deep.DrawnRows
import Derived.OrdersHeld
import Derived.Test.YtamnnjdfjffhlaaGreatDoorTopSBaseMA
set_option linter.unusedVariables false
set_option linter.unusedSimpArgs false
/-
  Facts about memory, lists and numbers that the walks use: no program in sight.
-/
namespace Bal
open Go Go.RowKit Go.ChangeShapes Go.WideShapes

theorem ret_int {k : IntKind} {a b : Int} (h : a = b) : Ending.returned (.int k a) = .returned (.int k b) := by rw [h]
theorem ret_bool {a b : Bool} (h : a = b) : Ending.returned (.bool a) = .returned (.bool b) := by rw [h]

/-- What a call leaves alone: nothing that was there has changed. -/
abbrev Kept (w w' : World) : Prop := Below w.heap.size w w'

/-- The elements xs of a slice at address a, each of k cells, lie in blocks below B. -/
def Row {α : Type} (enc : α → List Value) (k B : Nat) (w : World) (a : Option Addr) (xs : List α) : Prop :=
  ∀ (i : Nat) (x : α), xs[i]? = some x → ∃ b off, a = some ⟨b, off, none⟩ ∧ b < B ∧ ∀ (j : Nat) (v : Value), (enc x)[j]? = some v → w.cell? ⟨b, off + i * k + j, none⟩ = some v

theorem Row.nil {α : Type} {enc : α → List Value} {k B : Nat} {w : World} {a : Option Addr} : Row enc k B w a [] := by
  intro i x h; simp at h

theorem Row.keep {α : Type} {enc : α → List Value} {k B C : Nat} {w w' : World} {a : Option Addr} {xs : List α} (h : Row enc k B w a xs) (hb : Below C w w') (hC : B ≤ C) : Row enc k B w' a xs := by
  intro i x hx
  obtain ⟨b, off, ha, hlt, hc⟩ := h i x hx
  exact ⟨b, off, ha, hlt, fun j v hj => by rw [hb.cell (p := ⟨b, off + i * k + j, none⟩) (show b < C by omega)]; exact hc j v hj⟩

theorem Row.up {α : Type} {enc : α → List Value} {k B C : Nat} {w : World} {a : Option Addr} {xs : List α} (h : Row enc k B w a xs) (hC : B ≤ C) : Row enc k C w a xs := by
  intro i x hx
  obtain ⟨b, off, ha, hlt, hc⟩ := h i x hx
  exact ⟨b, off, ha, by omega, hc⟩

/-- a row known below the heap of w, asked for in a later world w' -/
theorem Row.later {α : Type} {enc : α → List Value} {k B : Nat} {w w' : World} {a : Option Addr} {xs : List α} (h : Row enc k B w a xs) (hb : Below B w w') (hB : B ≤ w.heap.size) : Row enc k w'.heap.size w' a xs :=
  (h.keep hb (Nat.le_refl _)).up (Nat.le_trans hB hb.size)

theorem bcell {W w1 : World} (hb : Below W.heap.size W w1) : (∀ b o, b < W.heap.size → w1.cell? ⟨b, o, none⟩ = W.cell? ⟨b, o, none⟩) ∧ (∀ b o, b < W.heap.size → w1.frozen? ⟨b, o, none⟩ = W.frozen? ⟨b, o, none⟩) :=
  ⟨fun b o h => hb.cell (p := ⟨b, o, none⟩) h, fun b o h => hb.frozen (p := ⟨b, o, none⟩) h⟩

theorem Kept.size {w w' : World} (h : Kept w w') : w.heap.size ≤ w'.heap.size := Below.size h
/-- what a walk wants to know behind a contract -/
theorem bcell3 {W w1 : World} (hb : Below W.heap.size W w1) : (∀ b o, b < W.heap.size → w1.cell? ⟨b, o, none⟩ = W.cell? ⟨b, o, none⟩) ∧ (∀ b o, b < W.heap.size → w1.frozen? ⟨b, o, none⟩ = W.frozen? ⟨b, o, none⟩) ∧ ∀ n, n < W.heap.size → n < w1.heap.size :=
  ⟨fun b o h => hb.cell (p := ⟨b, o, none⟩) h, fun b o h => hb.frozen (p := ⟨b, o, none⟩) h, fun _ h => Nat.lt_of_lt_of_le h hb.size⟩

theorem Kept.drop {w w' w'' : World} (h : Below w.heap.size w w') (h' : Kept w' w'') : Kept w w'' := h.trans (h'.mono h.size)

/-- a loop over xs has passed k elements, all of them valid, and left alone what was there -/
def Upto {α : Type} (valid : α → Bool) (xs : List α) (w : World) (i : Value) (wr : World) : Prop :=
  ∃ k : Nat, k ≤ xs.length ∧ i = .int .i64 k ∧ (xs.take k).all valid = true ∧ Kept w wr

theorem Kept.alloc {w w' : World} (h : Kept w w') (o : Obj) : Kept w (w'.alloc o) := Below.alloc h h.size o

/-- a number as a cell -/
def icell (n : Int) : List Value := [.int .i64 n]
theorem int_row {B : Nat} {w : World} {a : Option Addr} {xs : List Int} (h : Row icell 1 B w a xs) (i : Nat) (hi : i < xs.length) :
    ∃ b off, a = some ⟨b, off, none⟩ ∧ b < B ∧ w.cell? ⟨b, off + i, none⟩ = some (.int .i64 xs[i]) := by
  obtain ⟨b, off, ha, hb, hc⟩ := h i xs[i] (by simp [hi])
  exact ⟨b, off, ha, hb, by simpa using hc 0 _ rfl⟩

/-! ### Slices that a call has made itself, element by element -/
theorem flatMap_len {α : Type} {enc : α → List Value} {k : Nat} (he : ∀ x, (enc x).length = k) (xs : List α) : (xs.flatMap enc).length = xs.length * k := by
  induction xs with
  | nil => simp
  | cons x xs ih => simp [List.flatMap_cons, ih, he, Nat.succ_mul, Nat.add_comm]

theorem flatMap_get {α : Type} {enc : α → List Value} {k : Nat} (he : ∀ x, (enc x).length = k) : ∀ (xs : List α) (i : Nat) (x : α), xs[i]? = some x → ∀ j, j < k → (xs.flatMap enc)[i * k + j]? = (enc x)[j]?
  | [], i, x, h, _, _ => by simp at h
  | y :: ys, 0, x, h, j, hj => by
    simp at h
    subst h
    rw [List.flatMap_cons, Nat.zero_mul, Nat.zero_add, List.getElem?_append_left (by rw [he]; exact hj)]
  | y :: ys, i + 1, x, h, j, hj => by
    rw [List.flatMap_cons, List.getElem?_append_right (by rw [he, Nat.succ_mul]; omega), he]
    have := flatMap_get he ys i x (by simpa using h) j hj
    rw [← this]
    congr 1
    rw [Nat.succ_mul]; omega

/-- What the call owns reads as a row. -/
theorem Row.of_owns {α : Type} {enc : α → List Value} {k base : Nat} {e : TypeId} {w : World} {v : Value} {xs : List α} (he : ∀ x, (enc x).length = k) (h : w.ownsRow base e k v xs.length (xs.flatMap enc)) :
    ∃ a cap, v = .slice a xs.length cap ∧ Row enc k w.heap.size w a xs ∧ xs.length ≤ cap ∧ cap ≤ maxLen := by
  obtain ⟨_, ⟨rfl, hn⟩ | ⟨g, cap, cur, rfl, hb, hh, hnc, hcm, hsz, ht⟩⟩ := h
  · have : xs = [] := List.length_eq_zero_iff.1 hn
    subst this
    exact ⟨none, 0, rfl, Row.nil, by simp, by simp [maxLen]⟩
  · refine ⟨some ⟨g, 0, none⟩, cap, rfl, ?_, hnc, hcm⟩
    intro i x hx
    refine ⟨g, 0, rfl, ?_, ?_⟩
    · rcases Nat.lt_or_ge g w.heap.size with h' | h'
      · exact h'
      · rw [Array.getElem?_eq_none h'] at hh; cases hh
    · intro j u hj
      have hjk : j < k := by rw [← he x]; exact (List.getElem?_eq_some_iff.1 hj).1
      have hix : i < xs.length := (List.getElem?_eq_some_iff.1 hx).1
      have h1 := flatMap_get he xs i x hx j hjk
      rw [← ht, List.getElem?_take] at h1
      split at h1
      · rw [hj] at h1
        simp only [World.cell?, hh, Nat.zero_add]
        simpa using h1
      · rw [hj] at h1; cases h1

theorem owns_nil {base : Nat} {e : TypeId} {k : Nat} {w : World} {α : Type} {enc : α → List Value} : w.ownsRow base e k (.slice none 0 0) ([] : List α).length (([] : List α).flatMap enc) :=
  ⟨by simp, .inl ⟨rfl, rfl⟩⟩

theorem owns_keep {base : Nat} {e : TypeId} {k n : Nat} {w w' : World} {v : Value} {xs : List Value} (h : w.ownsRow base e k v n xs) (hb : Below w.heap.size w w') : w'.ownsRow base e k v n xs := by
  obtain ⟨h1, h2 | ⟨g, cap, cur, hv, hg, hh, r⟩⟩ := h
  · exact ⟨h1, .inl h2⟩
  · refine ⟨h1, .inr ⟨g, cap, cur, hv, hg, ?_, r⟩⟩
    rw [hb.block g ?_]
    · exact hh
    · rcases Nat.lt_or_ge g w.heap.size with h' | h'
      · exact h'
      · rw [Array.getElem?_eq_none h'] at hh; cases hh

theorem owns_base {base base' : Nat} {e : TypeId} {k n : Nat} {w : World} {v : Value} {xs : List Value} (h : w.ownsRow base e k v n xs) (hb : base' ≤ base) : w.ownsRow base' e k v n xs := by
  obtain ⟨h1, h2 | ⟨g, cap, cur, hv, hg, hh, r⟩⟩ := h
  · exact ⟨h1, .inl h2⟩
  · exact ⟨h1, .inr ⟨g, cap, cur, hv, Nat.le_trans hb hg, hh, r⟩⟩

theorem flatMap_at {α : Type} {enc : α → List Value} {k : Nat} (hk : 0 < k) (he : ∀ x, (enc x).length = k) (xs : List α) (j : Nat) (u : Value) (h : (xs.flatMap enc)[j]? = some u) :
    ∃ x, xs[j / k]? = some x ∧ (enc x)[j % k]? = some u := by
  have hj : j < xs.length * k := by rw [← flatMap_len he xs]; exact (List.getElem?_eq_some_iff.1 h).1
  have hi : j / k < xs.length := Nat.div_lt_of_lt_mul (by rw [Nat.mul_comm]; exact hj)
  refine ⟨xs[j / k], by simp [hi], ?_⟩
  rw [← flatMap_get he xs (j / k) xs[j / k] (by simp [hi]) (j % k) (Nat.mod_lt _ hk), ← h]
  congr 1
  have := Nat.div_add_mod j k
  rw [Nat.mul_comm] at this
  omega

theorem Row.news {α : Type} {enc : α → List Value} {k B : Nat} {w : World} {ad : Addr} {ys : List α} (hk : 0 < k) (he : ∀ x, (enc x).length = k) (h : Row enc k B w (some ad) ys) :
    ∀ j u, (ys.flatMap enc)[j]? = some u → w.cell? (ad.add j) = some u := by
  intro j u hj
  obtain ⟨x, hx, hu⟩ := flatMap_at hk he ys j u hj
  obtain ⟨b, off, ha, _, hc⟩ := h _ x hx
  simp only [Option.some.injEq] at ha
  subst ha
  have h1 := hc _ u hu
  have e : (⟨b, off, none⟩ : Addr).add j = ⟨b, off + j / k * k + j % k, none⟩ := by
    have h2 : off + j / k * k + j % k = off + j := by
      have := Nat.div_add_mod j k
      rw [Nat.mul_comm] at this
      omega
    unfold Addr.add
    split
    · rename_i h0; rw [h2, h0]; rfl
    · rw [h2]
  rw [e]
  exact h1

/-- APPENDING A LIST to a slice that the call owns, wherever the list lies (nil too). -/
theorem wpList_append_list {α : Type} {enc : α → List Value} {P : Program} {w : World} {ops : Array Oper} {rest : List Oper} {o : Oper} {a : Act} {Q : Exit → Act → World → Prop} (hgd : o.guard = none) (s x : Operand) (t : TypeId)
    (ho : o.op = .call { callee := .builtin .append, args := #[s, x], argTypes := #[t, t] })
    (base : Nat) (e : TypeId) (i : TypeInfo) (z : Value) (size bytes : Nat) (ht : P.underlying t = some (.slice e)) (hi : P.info? e = some i) (hz : i.zero = some z)
    (hsize : i.size = size) (hby : i.bytes = bytes) (hzs : z.cells.size = size) (hsz : 0 < size) (he : ∀ x : α, (enc x).length = size) (h1 : ∀ (x : α), ∀ u ∈ enc x, u.oneCell' = true)
    (v : Value) (xs : List α) (hs : a.eval s = v) (hown : w.ownsRow base e size v xs.length (xs.flatMap enc))
    (ad : Option Addr) (c : Nat) (ys : List α) (hx : a.eval x = .slice ad ys.length c) (hc : ad = none → c = 0) {B : Nat} (hrow : Row enc size B w ad ys)
    (h63 : xs.length + ys.length ≤ maxLen) (hbytes : (xs.length + ys.length) * bytes ≤ 140737488355328) (hbase : base ≤ w.heap.size)
    (h : ∀ v' w', w'.ownsRow base e size v' (xs ++ ys).length ((xs ++ ys).flatMap enc) → w.grownBy w' v.ownBlock → wpList P ops Q rest (a.put o.dst v') w') : wpList P ops Q (o :: rest) a w := by
  cases ad with
  | none =>
    have hys : ys = [] := by
      cases ys with
      | nil => rfl
      | cons y ys => obtain ⟨b, off, ha, _⟩ := hrow 0 y rfl; cases ha
    subst hys
    have := hc rfl
    subst this
    exact wpList_append_own_none hgd s x t ho base e i size ht hi v xs.length _ hs hown hx (h v w (by simpa using hown) ⟨rfl, rfl, rfl, Nat.le_refl _, fun _ _ _ => rfl⟩)
  | some ad =>
    refine wpList_append_own w hgd s x t ho base e i z size bytes ht hi hz hsize hby hzs hsz v xs.length _ hs hown ad ys.length c (ys.flatMap enc) hx (flatMap_len he ys) (hrow.news hsz he) ?_ h63 hbytes hbase ?_
    · intro u hu
      obtain ⟨y, _, hy⟩ := List.mem_flatMap.1 hu
      exact h1 y u hy
    · intro v' w' ho' hg _
      exact h v' w' (by simpa [List.length_append] using ho') hg

/-! ### A block of the call's own, known whole -/
def Blk (w : World) (b : Nat) (arr : Array Value) (t : TypeId) : Prop := w.heap[b]? = some (.cells arr t (0, 0))
theorem Blk.lt {w : World} {b : Nat} {arr : Array Value} {t : TypeId} (h : Blk w b arr t) : b < w.heap.size := by
  rcases Nat.lt_or_ge b w.heap.size with h' | h'
  · exact h'
  · unfold Blk at h; rw [Array.getElem?_eq_none h'] at h; cases h
theorem Blk.cell {w : World} {b : Nat} {arr : Array Value} {t : TypeId} (h : Blk w b arr t) (i : Nat) : w.cell? ⟨b, i, none⟩ = arr[i]? := by
  unfold Blk at h
  simp [World.cell?, h]
theorem Blk.free {w : World} {b : Nat} {arr : Array Value} {t : TypeId} (h : Blk w b arr t) (i : Nat) : w.frozen? ⟨b, i, none⟩ = false := by
  unfold Blk at h
  simp [World.frozen?, h]
theorem Blk.keep {w w' : World} {b : Nat} {arr : Array Value} {t : TypeId} (h : Blk w b arr t) (hb : Kept w w') : Blk w' b arr t := by
  unfold Blk
  rw [hb.block b h.lt]
  exact h
theorem Blk.alloc {w : World} {b : Nat} {arr : Array Value} {t : TypeId} (h : Blk w b arr t) (o : Obj) : Blk (w.alloc o) b arr t :=
  h.keep ((Below.refl _ _).alloc (Nat.le_refl _) o)
theorem Blk.drew {w : World} {b : Nat} {arr : Array Value} {t : TypeId} (h : Blk w b arr t) : Blk w.drew b arr t := h
theorem Blk.new {w : World} {arr : Array Value} {t : TypeId} : Blk (w.alloc (.cells arr t)) w.heap.size arr t := by
  show (w.heap.push _)[w.heap.size]? = _
  simp
theorem Blk.set {w : World} {b : Nat} {arr : Array Value} {t : TypeId} (h : Blk w b arr t) (i : Nat) (v : Value) : Blk (w.setCell ⟨b, i, none⟩ v) b (arr.setIfInBounds i v) t := by
  unfold Blk at *
  simp [World.setCell, Array.getElem?_modify, h]
theorem Blk.other {w : World} {b : Nat} {arr : Array Value} {t : TypeId} (h : Blk w b arr t) {a : Addr} (hne : a.block ≠ b) (v : Value) : Blk (w.setCell a v) b arr t := by
  unfold Blk at *
  rw [Below.heap_setCell _ _ _ _ (Ne.symm hne)]
  exact h

/-- a new block of elements reads as a row -/
theorem Row.fresh {α : Type} {enc : α → List Value} {k : Nat} {w : World} {arr : Array Value} {e : TypeId} {xs : List α} (he : ∀ x, (enc x).length = k) (h : arr.toList = xs.flatMap enc) :
    Row enc k (w.alloc (.cells arr e)).heap.size (w.alloc (.cells arr e)) (some ⟨w.heap.size, 0, none⟩) xs := by
  intro i x hx
  refine ⟨w.heap.size, 0, rfl, by simp, fun j v hj => ?_⟩
  have hjk : j < k := by rw [← he x]; exact (List.getElem?_eq_some_iff.1 hj).1
  rw [(Blk.new (w := w) (arr := arr) (t := e)).cell, Nat.zero_add, ← Array.getElem?_toList, h, flatMap_get he xs i x hx j hjk]
  exact hj

/-! ### Cells that are numbers or bools, whatever structs they lie in -/
inductive Leaf where
  | int (k : IntKind)
  | bool
  deriving DecidableEq

def LeafOk : Leaf → Value → Prop
  | .int k, v => ∃ n, v = .int k n ∧ (Lit.int k n).wf = true
  | .bool, v => ∃ b, v = .bool b

/-- the leaves of a row of fields, each by f, the first of them at off -/
def leavesL (P : Program) (g : TypeId → Option (List Leaf)) : Nat → List Field → Option (List Leaf)
  | _, [] => some []
  | off, f :: fs => if f.offset = off then (g f.type).bind fun m => if m.length = P.cellsOf f.type then (leavesL P g (off + m.length) fs).map (m ++ ·) else none else none

/-- the leaves of a type that is made of integers, bools and structs alone -/
def leaves (P : Program) : Nat → TypeId → Option (List Leaf)
  | 0, _ => none
  | n + 1, t => match P.underlying t with
    | some (.int k) => some [.int k]
    | some .bool => some [.bool]
    | some (.struct fs) => (leavesL P (leaves P n) 0 fs.toList).bind fun l => if l.length = P.cellsOf t then some l else none
    | _ => none

/-- cells that are leaves -/
def LeavesOk (ls : List Leaf) (cs : List Value) : Prop := cs.length = ls.length ∧ ∀ (j : Nat) (f : Leaf), ls[j]? = some f → ∃ v, cs[j]? = some v ∧ LeafOk f v

theorem leavesL_ok {P : Program} {g : TypeId → Option (List Leaf)} {cs : List Value} : ∀ (fs : List Field) (off : Nat) (ls : List Leaf),
    leavesL P g off fs = some ls → (∀ f ∈ fs, ∀ m, g f.type = some m → LeavesOk m ((cs.drop f.offset).take (P.cellsOf f.type))) →
    ∀ (j : Nat) (f : Leaf), ls[j]? = some f → ∃ v, cs[off + j]? = some v ∧ LeafOk f v
  | [], off, ls, h, _, j, f, hj => by simp [leavesL] at h; subst h; simp at hj
  | f :: fs, off, ls, h, hf, j, lf, hj => by
    simp only [leavesL] at h
    split at h
    · rename_i ho
      obtain ⟨m, hm, h⟩ := Option.bind_eq_some_iff.1 h
      split at h
      · rename_i hml
        obtain ⟨rest, hr, rfl⟩ := Option.map_eq_some_iff.1 h
        by_cases hjm : j < m.length
        · rw [List.getElem?_append_left hjm] at hj
          obtain ⟨_, h2⟩ := hf f (by simp) m hm
          obtain ⟨v, hv, hok⟩ := h2 j lf hj
          refine ⟨v, ?_, hok⟩
          rw [List.getElem?_take, List.getElem?_drop] at hv
          split at hv
          · rw [← ho]; exact hv
          · simp at hv
        · rw [List.getElem?_append_right (by omega)] at hj
          obtain ⟨v, hv, hok⟩ := leavesL_ok fs (off + m.length) rest hr (fun f' hf' => hf f' (by simp [hf'])) (j - m.length) lf hj
          exact ⟨v, by rw [← hv]; congr 1; omega, hok⟩
      · simp at h
    · simp at h

section
variable {H : Type} {enc : TypeId × Value → H} {P : Program} {w : World} {base : Nat} {spare : Nat → Bool} {held : Bool}

theorem leaves_ok (n : Nat) : ∀ (t : TypeId) (ls : List Leaf) (fuel : Nat) (cs : List Value) (x : DataW H × List MemPlace), leaves P n t = some ls → DataW.trod enc P w base spare held fuel t cs = some x → LeavesOk ls cs := by
  induction n with
  | zero => intro t ls fuel cs x h; simp [leaves] at h
  | succ n ih =>
    intro t ls fuel cs x h hx
    unfold leaves at h
    split at h
    · rename_i k hk
      simp only [Option.some.injEq] at h
      subst h
      obtain ⟨q, rfl, _, hw⟩ := DataW.trod_int hk hx
      refine ⟨rfl, fun j f hj => ?_⟩
      cases j with
      | zero => simp at hj; subst hj; exact ⟨_, rfl, q, rfl, hw⟩
      | succ j => simp at hj
    · rename_i hk
      simp only [Option.some.injEq] at h
      subst h
      obtain ⟨q, rfl, _⟩ := DataW.trod_bool hk hx
      refine ⟨rfl, fun j f hj => ?_⟩
      cases j with
      | zero => simp at hj; subst hj; exact ⟨_, rfl, q, rfl⟩
      | succ j => simp at hj
    · rename_i fs hk
      obtain ⟨l, hl, h⟩ := Option.bind_eq_some_iff.1 h
      split at h
      · rename_i hlen
        simp only [Option.some.injEq] at h
        subst h
        obtain ⟨xs, m, _, _, hcl, hxl, hg⟩ := DataW.trod_struct hk hx
        refine ⟨by rw [hcl, hlen], fun j f hj => ?_⟩
        have := leavesL_ok (cs := cs) fs.toList 0 l hl (fun f' hf' q hq => by
          obtain ⟨i, hi, rfl⟩ := List.mem_iff_getElem.1 hf'
          have hi' : i < fs.size := by simpa using hi
          have h1 := hg i fs[i] (by simp [hi'])
          have hx1 : xs[i]? = some (xs[i]'(by omega)) := List.getElem?_eq_getElem (by omega)
          rw [hx1] at h1
          simpa using ih _ _ _ _ _ hq h1) j f hj
        simpa using this
      · simp at h
    · simp at h

/-- A SLICE OF SUCH ELEMENTS, OPENED: its elements' cells. -/
theorem open_leaves {t e : TypeId} {n : Nat} {ls : List Leaf} {fuel : Nat} {cs : List Value} {x : DataW H × List MemPlace} (ht : P.underlying t = some (.slice e)) (hls : leaves P n e = some ls) (hk : P.cellsOf e = ls.length) (hne : 0 < ls.length)
    (h : DataW.trod enc P w base spare held fuel t cs = some x) :
    ∃ (a : Option Addr) (cap : Nat) (xs : List (List Value)), cs = [.slice a xs.length cap] ∧ xs.length ≤ cap ∧ cap ≤ maxLen ∧ Row id ls.length w.heap.size w a xs ∧ (∀ x ∈ xs, LeavesOk ls x) ∧ (a = none → cap = 0) := by
  rcases Go.Deep.open_slice ht h with ⟨rfl, _⟩ | ⟨a, len, cap, m, q, D, Pl, rfl, hb, hl, hm, hmm, _, hi⟩
  · exact ⟨none, 0, [], rfl, by simp, by simp [maxLen], Row.nil, by simp, fun _ => rfl⟩
  · have hlm : len ≤ m := by subst hmm; split <;> omega
    obtain ⟨f, hf⟩ := Go.Deep.choose_lt (n := len) (p := fun i cs' => w.cells? base (a.add (i * P.cellsOf e)) (P.cellsOf e) = some cs' ∧ DataW.trod enc P w base spare held q e cs' = some (D i, Pl i)) (fun i hil => hi i (by omega))
    refine ⟨some a, cap, (List.range len).map f, by simp, by simpa using hl, hm, ?_, ?_, by simp⟩
    · intro i y hy
      have hil : i < len := by
        have := (List.getElem?_eq_some_iff.1 hy).1
        simpa using this
      simp [hil] at hy
      subst hy
      have hsp : a.spot = none := by
        obtain ⟨hc, ht'⟩ := hf 0 (by omega)
        obtain ⟨_, hcl, hat⟩ := World.cells?_some hc
        have h1 := hat 0 (by omega)
        have hv : (f 0)[0]? = some ((f 0)[0]'(by omega)) := List.getElem?_eq_getElem (by omega)
        rw [hv] at h1
        have := World.cell?_spot h1
        simpa [Addr.add] using this
      obtain ⟨ab, ao, asp⟩ := a
      simp at hsp
      subst hsp
      obtain ⟨hc, ht'⟩ := hf i hil
      obtain ⟨_, hcl, hat⟩ := World.cells?_some hc
      have hat' : ∀ j, j < ls.length → w.cell? ⟨ab, ao + i * ls.length + j, none⟩ = (f i)[j]? := by
        intro j hj
        have h1 := hat j (by omega)
        rw [Go.Deep.add_add, hk] at h1
        rw [← h1]
        congr 1
        unfold Addr.add
        split
        · rename_i h0
          have h3 : ao + i * ls.length + j = ao := by omega
          rw [h3]
        · simp [Nat.add_assoc]
      refine ⟨ab, ao, rfl, ?_, fun j v hj => ?_⟩
      · have h0 := hat' 0 hne
        have hv : (f i)[0]? = some ((f i)[0]'(by omega)) := List.getElem?_eq_getElem (by omega)
        rw [hv] at h0
        rcases Nat.lt_or_ge ab w.heap.size with h' | h'
        · exact h'
        · simp [World.cell?, Array.getElem?_eq_none h'] at h0
      · have hjl : j < (f i).length := (List.getElem?_eq_some_iff.1 hj).1
        rw [hat' j (by omega)]
        exact hj
    · intro y hy
      simp at hy
      obtain ⟨i, hil, rfl⟩ := hy
      obtain ⟨hc, ht'⟩ := hf i hil
      exact leaves_ok n _ _ _ _ _ hls ht'

theorem Row.of_map {α : Type} {enc : α → List Value} {k B : Nat} {w : World} {a : Option Addr} {ys : List α} (h : Row id k B w a (ys.map enc)) : Row enc k B w a ys := by
  intro i x hx
  exact h i (enc x) (by simp [hx])

theorem decode {α : Type} {enc : α → List Value} {wf : α → Prop} {ls : List Leaf} (hdec : ∀ cs, LeavesOk ls cs → ∃ x : α, cs = enc x ∧ wf x) : ∀ (xs : List (List Value)), (∀ x ∈ xs, LeavesOk ls x) →
    ∃ ys : List α, xs = ys.map enc ∧ ∀ y ∈ ys, wf y
  | [], _ => ⟨[], rfl, by simp⟩
  | c :: cs, h => by
    obtain ⟨y, rfl, hy⟩ := hdec c (h c (by simp))
    obtain ⟨ys, rfl, hys⟩ := decode hdec cs (fun x hx => h x (by simp [hx]))
    exact ⟨y :: ys, rfl, by simpa using ⟨hy, hys⟩⟩

/-- A slice that came in, opened to a list of plain things. -/
theorem open_typed {α : Type} {enc' : α → List Value} {wf : α → Prop} {ls : List Leaf} (hdec : ∀ cs, LeavesOk ls cs → ∃ x : α, cs = enc' x ∧ wf x) {t e : TypeId} {n : Nat} {fuel : Nat} {cs : List Value} {x : DataW H × List MemPlace}
    (ht : P.underlying t = some (.slice e)) (hls : leaves P n e = some ls) (hk : P.cellsOf e = ls.length) (hne : 0 < ls.length) (h : DataW.trod enc P w base spare held fuel t cs = some x) :
    ∃ (a : Option Addr) (cap : Nat) (ys : List α), cs = [.slice a ys.length cap] ∧ ys.length ≤ cap ∧ cap ≤ maxLen ∧ Row enc' ls.length w.heap.size w a ys ∧ (∀ y ∈ ys, wf y) ∧ (a = none → cap = 0) := by
  obtain ⟨a, cap, xs, rfl, h1, h2, h3, h4, h5⟩ := open_leaves ht hls hk hne h
  obtain ⟨ys, rfl, hys⟩ := decode hdec xs h4
  exact ⟨a, cap, ys, by simp, by simpa using h1, h2, h3.of_map, hys, h5⟩
end

/-! ### Regions that draw their order and only read or call: one walk of the text's order -/
/-- a world in which all that was there is as it was -/
structure Later (w : World) where
  val : World
  ok : Below w.heap.size w val
instance {w : World} : Nonempty (Later w) := ⟨⟨w, Below.refl _ _⟩⟩

theorem Later.cell {w : World} (g : Later w) {b o : Nat} (h : b < w.heap.size) : g.val.cell? ⟨b, o, none⟩ = w.cell? ⟨b, o, none⟩ := g.ok.cell (p := ⟨b, o, none⟩) h
theorem Later.some {w : World} (g : Later w) {b o : Nat} {v : Value} (h : w.cell? ⟨b, o, none⟩ = some v) : g.val.cell? ⟨b, o, none⟩ = some v := by
  rw [g.cell, h]
  rcases Nat.lt_or_ge b w.heap.size with h' | h'
  · exact h'
  · simp [World.cell?, Array.getElem?_eq_none h'] at h

theorem Later.region {P : Program} {id : Nat} {Q : Exit → Act → World → Prop} {a : Act} {w : World} {l : List Oper} (hm : P.follows .mixedOrders = true) (hB : Region.lexB .any l.toArray = true)
    (h : wpQuiet P l.toArray (fun w' => ∃ g : Later w, w' = g.val) (fun a' => ∀ g : Later w, Q .normal a' g.val) l a) : (Code.region id l.toArray true).wp P Q a w :=
  wp_region_quiet (C := fun w' => ∃ g : Later w, w' = g.val) hm hB ⟨⟨w.drew, (Below.refl _ _).drew⟩, rfl⟩ (by
    have e : (fun a' => ∀ w', (∃ g : Later w, w' = g.val) → Q .normal a' w') = (fun a' => ∀ g : Later w, Q .normal a' g.val) := by
      funext a'
      exact propext ⟨fun h g => h _ ⟨g, rfl⟩, fun h _ ⟨g, hg⟩ => hg ▸ h g⟩
    rw [e]
    simpa using h)

/-- a contract, met in such a region -/
theorem Later.call {P : Program} {f : FuncId} {args : Array Value} {w : World} {g : Later w} {v : Value}
    (h : Calls P f args g.val fun e w' => e = .returned v ∧ Kept g.val w') : Calls P f args g.val fun e w'' => e = .returned v ∧ ∃ g' : Later w, w'' = g'.val :=
  h.mono fun _ w'' ⟨he, hk⟩ => ⟨he, ⟨w'', Kept.drop g.ok hk⟩, rfl⟩
end Bal

/-
  Structs as cells of memory. No program in sight.
-/
namespace Bal.Gas
open Go Go.RowKit Bal

def Cell.cells (x : Cell) : List Value := [.int .i64 x.room, .int .i64 x.helium, .int .i64 x.air, .int .i64 x.wlo, .int .i64 x.whi, .int .i64 x.leak, .int .i64 x.owed]
theorem Cell.row {B : Nat} {w : World} {a : Option Addr} {xs : List Cell} (h : Row Cell.cells 7 B w a xs) (i : Nat) (hi : i < xs.length) :
    ∃ b off, a = some ⟨b, off, none⟩ ∧ b < B ∧ w.cell? ⟨b, off + i * 7, none⟩ = some (.int .i64 xs[i].room) ∧ w.cell? ⟨b, off + i * 7 + 1, none⟩ = some (.int .i64 xs[i].helium) ∧ w.cell? ⟨b, off + i * 7 + 2, none⟩ = some (.int .i64 xs[i].air) ∧ w.cell? ⟨b, off + i * 7 + 3, none⟩ = some (.int .i64 xs[i].wlo) ∧ w.cell? ⟨b, off + i * 7 + 4, none⟩ = some (.int .i64 xs[i].whi) ∧ w.cell? ⟨b, off + i * 7 + 5, none⟩ = some (.int .i64 xs[i].leak) ∧ w.cell? ⟨b, off + i * 7 + 6, none⟩ = some (.int .i64 xs[i].owed) := by
  obtain ⟨b, off, ha, hb, hc⟩ := h i xs[i] (by simp [hi])
  exact ⟨b, off, ha, hb, hc 0 _ rfl, hc 1 _ rfl, hc 2 _ rfl, hc 3 _ rfl, hc 4 _ rfl, hc 5 _ rfl, hc 6 _ rfl⟩
theorem Cell.of_leaves {cs : List Value} (h : LeavesOk [.int .i64, .int .i64, .int .i64, .int .i64, .int .i64, .int .i64, .int .i64] cs) : ∃ x : Cell, cs = x.cells ∧ (Lit.int .i64 x.room).wf = true ∧ (Lit.int .i64 x.helium).wf = true ∧ (Lit.int .i64 x.air).wf = true ∧ (Lit.int .i64 x.wlo).wf = true ∧ (Lit.int .i64 x.whi).wf = true ∧ (Lit.int .i64 x.leak).wf = true ∧ (Lit.int .i64 x.owed).wf = true := by
  obtain ⟨hl, h⟩ := h
  match cs, hl with
  | [v0, v1, v2, v3, v4, v5, v6], _ =>
    obtain ⟨_, e0, n0, rfl, w0⟩ := h 0 (.int .i64) rfl; simp at e0; subst e0
    obtain ⟨_, e1, n1, rfl, w1⟩ := h 1 (.int .i64) rfl; simp at e1; subst e1
    obtain ⟨_, e2, n2, rfl, w2⟩ := h 2 (.int .i64) rfl; simp at e2; subst e2
    obtain ⟨_, e3, n3, rfl, w3⟩ := h 3 (.int .i64) rfl; simp at e3; subst e3
    obtain ⟨_, e4, n4, rfl, w4⟩ := h 4 (.int .i64) rfl; simp at e4; subst e4
    obtain ⟨_, e5, n5, rfl, w5⟩ := h 5 (.int .i64) rfl; simp at e5; subst e5
    obtain ⟨_, e6, n6, rfl, w6⟩ := h 6 (.int .i64) rfl; simp at e6; subst e6
    exact ⟨⟨n0, n1, n2, n3, n4, n5, n6⟩, rfl, w0, w1, w2, w3, w4, w5, w6⟩

def Air.cells (x : Air) : List Value := [.int .i64 x.plo, .int .i64 x.phi, .int .i64 x.tlo, .int .i64 x.thi]
theorem Air.row {B : Nat} {w : World} {a : Option Addr} {xs : List Air} (h : Row Air.cells 4 B w a xs) (i : Nat) (hi : i < xs.length) :
    ∃ b off, a = some ⟨b, off, none⟩ ∧ b < B ∧ w.cell? ⟨b, off + i * 4, none⟩ = some (.int .i64 xs[i].plo) ∧ w.cell? ⟨b, off + i * 4 + 1, none⟩ = some (.int .i64 xs[i].phi) ∧ w.cell? ⟨b, off + i * 4 + 2, none⟩ = some (.int .i64 xs[i].tlo) ∧ w.cell? ⟨b, off + i * 4 + 3, none⟩ = some (.int .i64 xs[i].thi) := by
  obtain ⟨b, off, ha, hb, hc⟩ := h i xs[i] (by simp [hi])
  exact ⟨b, off, ha, hb, hc 0 _ rfl, hc 1 _ rfl, hc 2 _ rfl, hc 3 _ rfl⟩
theorem Air.of_leaves {cs : List Value} (h : LeavesOk [.int .i64, .int .i64, .int .i64, .int .i64] cs) : ∃ x : Air, cs = x.cells ∧ (Lit.int .i64 x.plo).wf = true ∧ (Lit.int .i64 x.phi).wf = true ∧ (Lit.int .i64 x.tlo).wf = true ∧ (Lit.int .i64 x.thi).wf = true := by
  obtain ⟨hl, h⟩ := h
  match cs, hl with
  | [v0, v1, v2, v3], _ =>
    obtain ⟨_, e0, n0, rfl, w0⟩ := h 0 (.int .i64) rfl; simp at e0; subst e0
    obtain ⟨_, e1, n1, rfl, w1⟩ := h 1 (.int .i64) rfl; simp at e1; subst e1
    obtain ⟨_, e2, n2, rfl, w2⟩ := h 2 (.int .i64) rfl; simp at e2; subst e2
    obtain ⟨_, e3, n3, rfl, w3⟩ := h 3 (.int .i64) rfl; simp at e3; subst e3
    exact ⟨⟨n0, n1, n2, n3⟩, rfl, w0, w1, w2, w3⟩

def Hull.cells (x : Hull) : List Value := [.int .i64 x.room, .int .i64 x.gas, .int .i64 x.ballonet, .int .i64 x.bag, .int .i64 x.wlo, .int .i64 x.whi, .int .i64 x.least, .int .i64 x.most]
theorem Hull.row {B : Nat} {w : World} {a : Option Addr} {xs : List Hull} (h : Row Hull.cells 8 B w a xs) (i : Nat) (hi : i < xs.length) :
    ∃ b off, a = some ⟨b, off, none⟩ ∧ b < B ∧ w.cell? ⟨b, off + i * 8, none⟩ = some (.int .i64 xs[i].room) ∧ w.cell? ⟨b, off + i * 8 + 1, none⟩ = some (.int .i64 xs[i].gas) ∧ w.cell? ⟨b, off + i * 8 + 2, none⟩ = some (.int .i64 xs[i].ballonet) ∧ w.cell? ⟨b, off + i * 8 + 3, none⟩ = some (.int .i64 xs[i].bag) ∧ w.cell? ⟨b, off + i * 8 + 4, none⟩ = some (.int .i64 xs[i].wlo) ∧ w.cell? ⟨b, off + i * 8 + 5, none⟩ = some (.int .i64 xs[i].whi) ∧ w.cell? ⟨b, off + i * 8 + 6, none⟩ = some (.int .i64 xs[i].least) ∧ w.cell? ⟨b, off + i * 8 + 7, none⟩ = some (.int .i64 xs[i].most) := by
  obtain ⟨b, off, ha, hb, hc⟩ := h i xs[i] (by simp [hi])
  exact ⟨b, off, ha, hb, hc 0 _ rfl, hc 1 _ rfl, hc 2 _ rfl, hc 3 _ rfl, hc 4 _ rfl, hc 5 _ rfl, hc 6 _ rfl, hc 7 _ rfl⟩
theorem Hull.of_leaves {cs : List Value} (h : LeavesOk [.int .i64, .int .i64, .int .i64, .int .i64, .int .i64, .int .i64, .int .i64, .int .i64] cs) : ∃ x : Hull, cs = x.cells ∧ (Lit.int .i64 x.room).wf = true ∧ (Lit.int .i64 x.gas).wf = true ∧ (Lit.int .i64 x.ballonet).wf = true ∧ (Lit.int .i64 x.bag).wf = true ∧ (Lit.int .i64 x.wlo).wf = true ∧ (Lit.int .i64 x.whi).wf = true ∧ (Lit.int .i64 x.least).wf = true ∧ (Lit.int .i64 x.most).wf = true := by
  obtain ⟨hl, h⟩ := h
  match cs, hl with
  | [v0, v1, v2, v3, v4, v5, v6, v7], _ =>
    obtain ⟨_, e0, n0, rfl, w0⟩ := h 0 (.int .i64) rfl; simp at e0; subst e0
    obtain ⟨_, e1, n1, rfl, w1⟩ := h 1 (.int .i64) rfl; simp at e1; subst e1
    obtain ⟨_, e2, n2, rfl, w2⟩ := h 2 (.int .i64) rfl; simp at e2; subst e2
    obtain ⟨_, e3, n3, rfl, w3⟩ := h 3 (.int .i64) rfl; simp at e3; subst e3
    obtain ⟨_, e4, n4, rfl, w4⟩ := h 4 (.int .i64) rfl; simp at e4; subst e4
    obtain ⟨_, e5, n5, rfl, w5⟩ := h 5 (.int .i64) rfl; simp at e5; subst e5
    obtain ⟨_, e6, n6, rfl, w6⟩ := h 6 (.int .i64) rfl; simp at e6; subst e6
    obtain ⟨_, e7, n7, rfl, w7⟩ := h 7 (.int .i64) rfl; simp at e7; subst e7
    exact ⟨⟨n0, n1, n2, n3, n4, n5, n6, n7⟩, rfl, w0, w1, w2, w3, w4, w5, w6, w7⟩

def Ratio.cells (x : Ratio) : List Value := [.int .i64 x.num, .int .i64 x.den]
theorem Ratio.row {B : Nat} {w : World} {a : Option Addr} {xs : List Ratio} (h : Row Ratio.cells 2 B w a xs) (i : Nat) (hi : i < xs.length) :
    ∃ b off, a = some ⟨b, off, none⟩ ∧ b < B ∧ w.cell? ⟨b, off + i * 2, none⟩ = some (.int .i64 xs[i].num) ∧ w.cell? ⟨b, off + i * 2 + 1, none⟩ = some (.int .i64 xs[i].den) := by
  obtain ⟨b, off, ha, hb, hc⟩ := h i xs[i] (by simp [hi])
  exact ⟨b, off, ha, hb, hc 0 _ rfl, hc 1 _ rfl⟩
theorem Ratio.of_leaves {cs : List Value} (h : LeavesOk [.int .i64, .int .i64] cs) : ∃ x : Ratio, cs = x.cells ∧ (Lit.int .i64 x.num).wf = true ∧ (Lit.int .i64 x.den).wf = true := by
  obtain ⟨hl, h⟩ := h
  match cs, hl with
  | [v0, v1], _ =>
    obtain ⟨_, e0, n0, rfl, w0⟩ := h 0 (.int .i64) rfl; simp at e0; subst e0
    obtain ⟨_, e1, n1, rfl, w1⟩ := h 1 (.int .i64) rfl; simp at e1; subst e1
    exact ⟨⟨n0, n1⟩, rfl, w0, w1⟩

end Bal.Gas

/-
  Regions that draw their order: first operations that only read or call (calls may make memory), then operations in one forced order (stores): one walk in the text's order. No program in sight.
-/
namespace Bal
open Go Go.RowKit

theorem Blk.new' {w : World} {n : Nat} {arr : Array Value} {t : TypeId} (h : n = w.heap.size) : Blk (w.alloc (.cells arr t)) n arr t := h ▸ Blk.new
/-- the world of a walk, by what is known of it alone -/
theorem at_world {P : Program} {c : Code} {Q : Exit → Act → World → Prop} {a : Act} {S : World → Prop} {W : World} (h : S W) (k : ∀ W, S W → c.wp P Q a W) : c.wp P Q a W := k W h
theorem Blk.later {w : World} {b : Nat} {arr : Array Value} {t : TypeId} (h : Blk w b arr t) (g : Later w) : Blk g.val b arr t := h.keep g.ok
theorem Blk.cast {w : World} {b : Nat} {arr arr' : Array Value} {t : TypeId} (h : Blk w b arr t) (e : arr = arr') : Blk w b arr' t := e ▸ h
/-- a block of the call's own, behind a contract -/
theorem Blk.thru {w w' : World} {b : Nat} {arr : Array Value} {t : TypeId} {G : Prop} (h : Blk w b arr t) (hb : Kept w w') (k : Blk w' b arr t → G) : G := k (h.keep hb)

/-! ### Facts on worlds and blocks, each by one tactic that is laid here once -/
theorem kpt0 {w w' : World} (h : Kept w w' := by (repeat (first | with_reducible exact Below.refl _ _ | with_reducible assumption | with_reducible refine Kept.drop ?_ (by with_reducible assumption) | with_reducible refine Kept.alloc ?_ _ | with_reducible refine Below.drew ?_))) : Kept w w' := h
theorem kpt {w w' : World} (h : Kept w w' := by (repeat (first | with_reducible exact Below.refl _ _ | with_reducible assumption | with_reducible refine Kept.drop ?_ (by with_reducible assumption) | with_reducible refine Kept.alloc ?_ _ | ((with_reducible refine Below.setCell ?_ ?_ _); rotate_left 1; (focus (first | exact Nat.le_refl _ | (simp; done) | (simp; omega) | exact Below.size (by with_reducible assumption) | (refine Kept.size ?_; (repeat (first | with_reducible exact Below.refl _ _ | with_reducible assumption | with_reducible refine Kept.drop ?_ (by with_reducible assumption) | with_reducible refine Kept.alloc ?_ _ | with_reducible refine Below.drew ?_)))))) | with_reducible refine Below.drew ?_))) : Kept w w' := h
theorem blk0 {w : World} {b : Nat} {arr : Array Value} {t : TypeId} (h : Blk w b arr t := by (repeat (first | with_reducible assumption | ((with_reducible refine Blk.new' ?_); first | with_reducible rfl | (simp; done) | (simp [World.drew]; done)) | with_reducible refine Blk.alloc ?_ _ | with_reducible refine Blk.keep ?_ (by with_reducible assumption) | with_reducible refine Blk.drew ?_))) : Blk w b arr t := h
theorem blk {w : World} {b : Nat} {arr : Array Value} {t : TypeId} (h : Blk w b arr t := by (repeat (first | with_reducible assumption | ((with_reducible refine Blk.new' ?_); first | with_reducible rfl | (simp; done) | (simp [World.drew]; done)) | with_reducible refine Blk.alloc ?_ _ | ((with_reducible refine Blk.set (arr := ?_) ?_ _ _); rotate_left 1) | ((with_reducible refine Blk.other ?_ ?_ _); rotate_left 1; (focus (first | (simp; done) | (simp; omega) | (refine Nat.ne_of_gt (Blk.lt (arr := ?_) (t := ?_) ?_); rotate_left 2; focus (repeat (first | with_reducible assumption | ((with_reducible refine Blk.new' ?_); first | with_reducible rfl | (simp; done) | (simp [World.drew]; done)) | with_reducible refine Blk.alloc ?_ _ | with_reducible refine Blk.keep ?_ (by with_reducible assumption) | with_reducible refine Blk.drew ?_))) | (refine Nat.ne_of_lt (Blk.lt (arr := ?_) (t := ?_) ?_); rotate_left 2; focus (repeat (first | with_reducible assumption | ((with_reducible refine Blk.new' ?_); first | with_reducible rfl | (simp; done) | (simp [World.drew]; done)) | with_reducible refine Blk.alloc ?_ _ | with_reducible refine Blk.keep ?_ (by with_reducible assumption) | with_reducible refine Blk.drew ?_)))))) | with_reducible refine Blk.keep ?_ (by with_reducible assumption) | with_reducible refine Blk.drew ?_))) : Blk w b arr t := h
theorem blkc {w : World} {b : Nat} {arr : Array Value} {t : TypeId} (h : Blk w b arr t := by (refine Blk.cast (arr := ?_) ?_ ?_; rotate_left 1; (focus (repeat (first | with_reducible assumption | ((with_reducible refine Blk.new' ?_); first | with_reducible rfl | (simp; done) | (simp [World.drew]; done)) | with_reducible refine Blk.alloc ?_ _ | ((with_reducible refine Blk.set (arr := ?_) ?_ _ _); rotate_left 1) | ((with_reducible refine Blk.other ?_ ?_ _); rotate_left 1; (focus (first | (simp; done) | (simp; omega) | (refine Nat.ne_of_gt (Blk.lt (arr := ?_) (t := ?_) ?_); rotate_left 2; focus (repeat (first | with_reducible assumption | ((with_reducible refine Blk.new' ?_); first | with_reducible rfl | (simp; done) | (simp [World.drew]; done)) | with_reducible refine Blk.alloc ?_ _ | with_reducible refine Blk.keep ?_ (by with_reducible assumption) | with_reducible refine Blk.drew ?_))) | (refine Nat.ne_of_lt (Blk.lt (arr := ?_) (t := ?_) ?_); rotate_left 2; focus (repeat (first | with_reducible assumption | ((with_reducible refine Blk.new' ?_); first | with_reducible rfl | (simp; done) | (simp [World.drew]; done)) | with_reducible refine Blk.alloc ?_ _ | with_reducible refine Blk.keep ?_ (by with_reducible assumption) | with_reducible refine Blk.drew ?_)))))) | with_reducible refine Blk.keep ?_ (by with_reducible assumption) | with_reducible refine Blk.drew ?_))); (first | rfl | (simp; done)))) : Blk w b arr t := h

section
variable {P : Program} {ops : Array Oper} {md : Region.Mode} {C : World → Prop}

/-- whatever order is picked of the first n operations -/
def wpHeadQ (P : Program) (md : Region.Mode) (ops : Array Oper) (C : World → Prop) (n : Nat) (L : Array Bool → Act → Prop) : Nat → Array Bool → Act → Prop
  | 0, listed, a => L listed a
  | f + 1, listed, a =>
    Region.ready md ops listed ≠ [] ∧ ∀ i ∈ Region.ready md ops listed, i < n ∧ qOp P ops C i (wpHeadQ P md ops C n L f (listed.setIfInBounds i true)) a

theorem wpAny_of_headQ {n g : Nat} {L : Array Bool → Act → Prop} {Q' : Exit → Act → World → Prop} (hL : ∀ listed a w, C w → L listed a → wpAny P md ops Q' g listed a w) :
    ∀ (f : Nat) (listed : Array Bool) (a : Act) (w : World), C w → wpHeadQ P md ops C n L f listed a → wpAny P md ops Q' (f + g) listed a w
  | 0, listed, a, w, hw, h => by rw [Nat.zero_add]; exact hL _ _ _ hw h
  | f + 1, listed, a, w, hw, h => by
    rw [show f + 1 + g = (f + g) + 1 by omega]
    exact ⟨fun h0 => absurd h0 h.1, fun i hi => wpOp_of_qOp hw (fun a' w' hw' h' => wpAny_of_headQ hL f _ a' w' hw' h') (h.2 i hi).2⟩

theorem wpHeadQ_first {n i : Nat} {oi : Oper} {v : Value} {L : Array Bool → Act → Prop} (hi : ops[i]? = some oi) (hsel : ∀ (j : Nat) (o : Oper) cs b, ops[j]? = some o → o.op ≠ .select cs b)
    (hs : Region.sinkB md ops n = true) (hc : Region.chainB md ops n = true) (hn : n < ops.size) (hin : i < n)
    (hdone : ∀ listed a, L listed a → ∀ j ∈ Region.ready md ops listed, n ≤ j) :
    ∀ (f : Nat) (listed : Array Bool) (a : Act), HeadInv md ops n listed →
      (∀ j oj, ops[j]? = some oj → j ≠ i → listed.getD j true = false → (∀ e ∈ oj.after, Region.binds md e = true → e.on ≠ i) → oi.apart ops oj = true) →
      i ∈ Region.ready md ops listed → YieldsIn P ops C oi v a →
      wpHeadQ P md ops C n L f (listed.setIfInBounds i true) (a.put oi.dst v) → wpHeadQ P md ops C n L (f + 1) listed a := by
  intro f
  induction f with
  | zero =>
    intro listed a inv _ hr hy H
    have hun := (mem_ready.1 hr).1
    refine ⟨fun h => (by rw [h] at hr; cases hr), fun j hj => ?_⟩
    have hjn : j < n := by
      rcases Nat.lt_or_ge j n with h | h
      · exact h
      · exact absurd hj (tail_waits hs hc hn inv _ i rfl hin hun j h)
    refine ⟨hjn, ?_⟩
    by_cases hji : j = i
    · subst hji; exact hy.qOp hi H
    · have := hdone _ _ H j (ready_mono hj hji)
      omega
  | succ f ih =>
    intro listed a inv hfree hr hy H
    have hun := (mem_ready.1 hr).1
    refine ⟨fun h => (by rw [h] at hr; cases hr), fun j hj => ?_⟩
    have hjn : j < n := by
      rcases Nat.lt_or_ge j n with h | h
      · exact h
      · exact absurd hj (tail_waits hs hc hn inv _ i rfl hin hun j h)
    refine ⟨hjn, ?_⟩
    by_cases hji : j = i
    · subst hji; exact hy.qOp hi H
    · have h1 := (H.2 j (ready_mono hj hji)).2
      obtain ⟨hjun, oj, hoj, hall⟩ := mem_ready.1 hj
      have hnot : ∀ e ∈ oj.after, Region.binds md e = true → e.on ≠ i := fun e he hb heq => by
        have h1 := hall e he hb
        rw [heq, getD_both hun] at h1
        cases h1
      have h2 := qOp_put hoj (hfree j oj hoj hji hjun hnot) (fun cs b => hsel i oi cs b hi) (fun cs b => hsel j oj cs b hoj) hy h1
      have hfree' : ∀ k ok, ops[k]? = some ok → k ≠ i → (listed.setIfInBounds j true).getD k true = false →
          (∀ e ∈ ok.after, Region.binds md e = true → e.on ≠ i) → oi.apart ops ok = true := fun k ok hk hki hun hno => by
        refine hfree k ok hk hki ?_ hno
        by_cases hjk : j = k
        · subst hjk; exact hjun
        · rw [getD_set_ne true hjk] at hun; exact hun
      refine qOp_mono (fun a' h3 => ih (listed.setIfInBounds j true) a' (inv.set hj hjn) hfree' (ready_mono hr (Ne.symm hji)) h3.1 ?_) h2
      rw [Array.setIfInBounds_comm _ _ hji]
      exact h3.2

theorem wpHeadQ_lex {n g : Nat} {Lq : Act → Prop} (hsel : Region.noSelect ops = true) (hs : Region.sinkB md ops n = true) (hc : Region.chainB md ops n = true) (hn : n < ops.size) :
    ∀ (l : List Oper) (k : Nat) (listed : Array Bool) (a : Act), (∀ j, j < l.length → l[j]? = ops[k + j]?) → k + l.length = n → HeadInv md ops n listed →
    Region.lexHead md ops g l.length k listed = true → wpQuiet P ops C Lq l a →
    wpHeadQ P md ops C n (fun listed' a' => Region.seqB md ops g n listed' = true ∧ Lq a') l.length listed a
  | [], k, listed, a, _, hk, _, hB, h => by
    have : k = n := by simpa using hk
    subst this
    exact ⟨by simpa [Region.lexHead] using hB, h⟩
  | o :: l, k, listed, a, hl, hk, inv, hB, h => by
    have h0 : ops[k]? = some o := by simpa using (hl 0 (by simp)).symm
    simp only [List.length_cons, Region.lexHead, Bool.and_eq_true] at hB
    obtain ⟨⟨hr, hf⟩, hB'⟩ := hB
    have hkn : k < n := by simp only [List.length_cons] at hk; omega
    have hr' : k ∈ Region.ready md ops listed := by simpa using hr
    have hst : qOp P ops C k (wpQuiet P ops C Lq l) a := by unfold qOp; simp only [h0]; exact h
    obtain ⟨v, hy, hK⟩ := yieldsIn_of_qOp h0 hst
    exact wpHeadQ_first h0 (Region.noSelect_spec hsel) hs hc hn hkn (fun listed' a' hL => seqB_ready hL.1) l.length listed a inv (Region.free_spec h0 hf) hr' hy
      (wpHeadQ_lex hsel hs hc hn l (k + 1) _ _ (fun j hj => by have := hl (j + 1) (by simp; omega); simpa [Nat.add_assoc, Nat.add_comm 1 j] using this) (by simp only [List.length_cons] at hk; omega) (inv.set hr' hkn) hB' hK)

/-- THE THEOREM: the first n operations quiet in the class, the rest in one forced order, from every world of the class. -/
theorem Later.tail {P : Program} {id : Nat} {Q : Exit → Act → World → Prop} {a : Act} {w : World} {l : List Oper} (n : Nat) (hm : P.follows .mixedOrders = true) (hB : Region.lexTailB .any l.toArray n = true)
    (h : wpQuiet P l.toArray (fun w' => ∃ g : Later w, w' = g.val) (fun a' => ∀ g : Later w, wpList P l.toArray Q (l.drop n) a' g.val) (l.take n) a) : (Code.region id l.toArray true).wp P Q a w := by
  simp only [Region.lexTailB, Bool.and_eq_true, decide_eq_true_eq] at hB
  obtain ⟨⟨⟨⟨hsel, hn⟩, hs⟩, hc⟩, hlex⟩ := hB
  have hn' : n < l.length := by simpa using hn
  have htl : (l.take n).length = n := by simp; omega
  have hdl : (l.drop n).length = l.toArray.size - n := by simp
  have inv0 : HeadInv .any l.toArray n (Array.replicate l.toArray.size false) :=
    ⟨by simp, fun j oj _ hl => (by rw [getD_replicate_false] at hl; cases hl), fun t _ ht => getD_in (by simpa using ht) (getD_replicate_false _ _)⟩
  have H := wpHeadQ_lex (md := .any) (g := l.toArray.size - n) hsel hs hc hn (l.take n) 0 _ a (fun j hj => by
    have hj' : j < n := by rw [htl] at hj; exact hj
    simp [hj']) (by simpa using htl) inv0 (by rw [htl]; exact hlex) h
  refine wp_region_any hm ?_
  have := wpAny_of_headQ (C := fun w' => ∃ g : Later w, w' = g.val) (Q' := Q) (g := l.toArray.size - n) (fun listed a' w' hw' hL => by
    obtain ⟨g, rfl⟩ := hw'
    have := wpAny_of_seq (md := .any) (Q' := Q) (l.drop n) n listed a' g.val (fun j => by simp [List.getElem?_drop]) (by rw [hdl]; exact hL.1) (hL.2 g)
    rwa [hdl] at this) _ _ _ { w with drawn := w.drawn + 1 } ⟨⟨w.drew, (Below.refl _ _).drew⟩, rfl⟩ H
  rw [htl, show n + (l.toArray.size - n) = l.toArray.size by omega] at this
  exact this
end
end Bal

/-
  Ranges, ratios and validity of cells and air, in the program and in the reference.
-/
namespace Go.Proofs.YtamnnjdfjffhlaaGreatDoor
open Go.RowKit Bal Bal.Trim Bal.Gas
set_option linter.unusedVariables false
set_option linter.unusedSimpArgs false
set_option maxHeartbeats 400000

theorem f_ranged (lo hi : Int) (a : Option Addr) (n cap : Nat) (xs : List Int) (w : World) (hn : xs.length = n) {B : Nat} (hx : Row icell 1 B w a xs) (h1 : n ≤ 1000000) :
    Calls Tryz.prog 28 #[.int .i64 lo, .int .i64 hi, .slice a n cap] w fun e w' => e = .returned (.bool (rng xs lo hi)) ∧ w = w' := by
  subst hn
  go_enter Tryz.func28, Tryz.ntmps28
  go_wp2
  go_loop [11] (fun i => ∃ k : Nat, k ≤ xs.length ∧ i = .int .i64 k ∧ (xs.take k).all (fun n => inB n lo hi) = true) (fun i => xs.length - (intOf i).toNat)
  case atStart => exact ⟨0, Nat.zero_le _, rfl, by simp⟩
  case round =>
    obtain ⟨k, hk, rfl, ha'⟩ := hrel
    have ha := Lib.hid ha'
    clear ha'
    by_cases hlt : k < xs.length
    · obtain ⟨b, off, rfl, _, ck⟩ := int_row hx k hlt
      have hbad : inB xs[k] lo hi = false → rng xs lo hi = false := fun hv => by
        unfold rng
        rw [Bool.eq_false_iff]
        intro h
        rw [List.all_eq_true.1 h _ (List.getElem_mem hlt)] at hv
        cases hv
      have HB := Lib.hid hbad
      clear hbad
      by_cases c1 : xs[k] < lo
      · go_wp2
        go_ret
        exact ⟨ret_bool (HB.out (by simp [inB]; omega)).symm, rfl⟩
      · by_cases c2 : hi < xs[k]
        · go_wp2
          go_ret
          exact ⟨ret_bool (HB.out (by simp [inB]; omega)).symm, rfl⟩
        · go_wp2
          go_round
          case rel => exact ⟨k + 1, by omega, by go_num, take_all hlt ha.out (by simp [inB]; omega)⟩
          case measure => simp [intOf]; omega
    · go_wp2
      go_ret
      have he : rng xs lo hi = true := by unfold rng; rw [← ha.out, List.take_of_length_le (by omega)]
      exact ⟨ret_bool he.symm, rfl⟩

theorem f_ranged1 (lo hi p : Int) (t : TypeId) (W : World) (m : Nat) (hm : m = W.heap.size) :
    Calls Tryz.prog 28 #[.int .i64 lo, .int .i64 hi, .slice (some ⟨m, 0, none⟩) 1 1] (W.alloc (.cells #[.int .i64 p] t))
      fun e w' => e = .returned (.bool (rng [p] lo hi)) ∧ W.alloc (.cells #[.int .i64 p] t) = w' := by
  subst hm
  exact f_ranged lo hi _ 1 1 [p] _ rfl (Row.fresh (enc := icell) (fun _ => rfl) rfl) (by decide)

theorem f_ranged2 (lo hi p q : Int) (t : TypeId) (W : World) (m : Nat) (hm : m = W.heap.size) :
    Calls Tryz.prog 28 #[.int .i64 lo, .int .i64 hi, .slice (some ⟨m, 0, none⟩) 2 2] (W.alloc (.cells #[.int .i64 p, .int .i64 q] t))
      fun e w' => e = .returned (.bool (rng [p, q] lo hi)) ∧ W.alloc (.cells #[.int .i64 p, .int .i64 q] t) = w' := by
  subst hm
  exact f_ranged lo hi _ 2 2 [p, q] _ rfl (Row.fresh (enc := icell) (fun _ => rfl) rfl) (by decide)

theorem f_span (x y lo hi : Int) (w : World) :
    Calls Tryz.prog 85 #[.agg #[.int .i64 x, .int .i64 y], .int .i64 lo, .int .i64 hi] w fun e w' => e = .returned (.bool (spanIn x y lo hi)) ∧ Kept w w' := by
  go_enter Tryz.func85, Tryz.ntmps85
  go_wp2_with (go_at_call 28; (with_reducible refine (f_ranged2 _ _ _ _  _ _ _ (by simp)).mono ?_); rintro e w1 ⟨rfl, rfl⟩)
  all_goals (go_ret; refine ⟨?_, by (exact kpt)⟩; simp [spanIn, *])
  all_goals omega

theorem f_temps (x y : Int) (w : World) :
    Calls Tryz.prog 86 #[.agg #[.int .i64 x, .int .i64 y]] w fun e w' => e = .returned (.bool (spanIn x y 1500 3500)) ∧ Kept w w' := by
  go_enter Tryz.func86, Tryz.ntmps86
  go_wp2_with (go_at_call 85; (with_reducible refine (f_span _ _ _ _ _).mono ?_); rintro e w1 ⟨rfl, hb1⟩; obtain ⟨hc1, hf1, hl1⟩ := bcell3 hb1)
  go_ret
  exact ⟨rfl, by (exact kpt)⟩

theorem f_CheckAir (a : Air) (w : World) :
    Calls Tryz.prog 60 #[.agg #[.int .i64 a.plo, .int .i64 a.phi, .int .i64 a.tlo, .int .i64 a.thi]] w fun e w' => e = .returned (.int .i64 (checkAir a)) ∧ Kept w w' := by
  go_enter Tryz.func60, Tryz.ntmps60
  go_wp2_with (first | (go_at_call 85; (with_reducible refine (f_span _ _ _ _ _).mono ?_); rintro e w1 ⟨rfl, hb1⟩; obtain ⟨hc1, hf1, hl1⟩ := bcell3 hb1) | (go_at_call 86; (with_reducible refine (f_temps _ _ _).mono ?_); rintro e w1 ⟨rfl, hb1⟩; obtain ⟨hc1, hf1, hl1⟩ := bcell3 hb1))
  all_goals (go_ret; refine ⟨ret_int ?_, by (exact kpt)⟩; simp_all [checkAir, airB])

theorem f_CheckCell (c : Cell) (w : World) :
    Calls Tryz.prog 56 #[.agg #[.int .i64 c.room, .int .i64 c.helium, .int .i64 c.air, .int .i64 c.wlo, .int .i64 c.whi, .int .i64 c.leak, .int .i64 c.owed]] w fun e w' => e = .returned (.int .i64 (checkCell c)) ∧ Kept w w' := by
  go_enter Tryz.func56, Tryz.ntmps56
  go_wp2_with (first | (go_at_call 28; (with_reducible refine (f_ranged1 _ _ _  _ _ _ (by simp)).mono ?_); rintro e w1 ⟨rfl, rfl⟩) | (go_at_call 28; (with_reducible refine (f_ranged2 _ _ _ _  _ _ _ (by simp)).mono ?_); rintro e w1 ⟨rfl, rfl⟩) | (go_at_call 85; (with_reducible refine (f_span _ _ _ _ _).mono ?_); rintro e w1 ⟨rfl, hb1⟩; obtain ⟨hc1, hf1, hl1⟩ := bcell3 hb1))
  all_goals (go_ret; refine ⟨ret_int ?_, by (exact kpt)⟩; simp_all [checkCell, cellB, cellFits])

end Go.Proofs.YtamnnjdfjffhlaaGreatDoor

/-
  A region that draws its order, walked once in an order that is told: first operations that need no world, then operations that only read or call (calls may make memory), then the rest in one forced order. No program in sight.
-/
namespace Bal
open Go Go.RowKit

section
variable {P : Program} {ops : Array Oper} {md : Region.Mode} {C : World → Prop}

def ordTail (md : Region.Mode) (ops : Array Oper) : List Nat → Array Bool → Bool
  | [], listed => (Region.ready md ops listed).isEmpty
  | k :: r, listed => decide (Region.ready md ops listed = [k]) && ordTail md ops r (listed.setIfInBounds k true)
def sinkOrd (md : Region.Mode) (ops : Array Oper) (t0 : Nat) : List Nat → Bool
  | [] => true
  | i :: r => ((r ++ [t0]).any fun j => Region.waitsFor md ops j i) && sinkOrd md ops t0 r
def chainOrd (md : Region.Mode) (ops : Array Oper) : Nat → List Nat → Bool
  | _, [] => true
  | a, b :: r => Region.waitsFor md ops b a && chainOrd md ops b r
structure OrdInv (md : Region.Mode) (ops : Array Oper) (hd tl : List Nat) (listed : Array Bool) : Prop where
  size : listed.size = ops.size
  closed : ∀ j oj, ops[j]? = some oj → listed.getD j false = true → ∀ e ∈ oj.after, Region.binds md e = true → listed.getD e.on false = true
  tail : ∀ t, t ∈ tl → listed.getD t true = false
  cover : ∀ j, listed.getD j true = false → j ∈ hd ∨ j ∈ tl

theorem OrdInv.set {hd tl : List Nat} {listed : Array Bool} {i : Nat} (inv : OrdInv md ops hd tl listed) (hi : i ∈ Region.ready md ops listed) (hn : i ∉ tl) : OrdInv md ops hd tl (listed.setIfInBounds i true) := by
  obtain ⟨_, oi, hoi, hall⟩ := mem_ready.1 hi
  refine ⟨by simp [inv.size], fun j oj hj hl e he hb => ?_, fun t ht => ?_, fun j hj => ?_⟩
  · by_cases hij : i = j
    · subst hij
      have : oj = oi := Option.some.inj (hj.symm.trans hoi)
      subst this
      exact getD_set_true (hall e he hb)
    · rw [getD_set_ne false hij] at hl
      exact getD_set_true (inv.closed j oj hj hl e he hb)
  · rw [getD_set_ne true (fun e => hn (by rw [e]; exact ht))]; exact inv.tail t ht
  · by_cases hij : i = j
    · subst hij
      exfalso
      rcases Nat.lt_or_ge i listed.size with h' | h'
      · simp [h'] at hj
      · simp [Array.getElem?_eq_none (by simpa using h' : (listed.setIfInBounds i true).size ≤ i)] at hj
    · rw [getD_set_ne true hij] at hj
      exact inv.cover j hj

theorem sink_waits {hd tl : List Nat} {t0 : Nat} {listed : Array Bool} (inv : OrdInv md ops hd (t0 :: tl) listed) :
    ∀ (s : List Nat), sinkOrd md ops t0 s = true → ∀ i ∈ s, listed.getD i true = false → t0 ∉ Region.ready md ops listed
  | [], _, _, hi, _ => by cases hi
  | x :: r, hs, i, hi, hun => by
    simp only [sinkOrd, Bool.and_eq_true] at hs
    obtain ⟨h1, h2⟩ := hs
    rcases List.mem_cons.1 hi with rfl | hi
    · obtain ⟨j, hj, hw⟩ := List.any_eq_true.1 h1
      obtain ⟨oj, hoj, e, he, hb, hon⟩ := Region.waitsFor_spec hw
      rcases List.mem_append.1 hj with hj | hj
      · cases hl : listed.getD j false with
        | true =>
          have h3 := inv.closed j oj hoj hl e he hb
          rw [hon, getD_both hun] at h3
          cases h3
        | false =>
          have hjs : j < listed.size := by rw [inv.size]; exact (Array.getElem?_eq_some_iff.1 hoj).1
          exact sink_waits inv r h2 j hj (getD_in hjs hl)
      · have : j = t0 := by simpa using hj
        subst this
        intro hr
        obtain ⟨_, o', ho', hall⟩ := mem_ready.1 hr
        have : oj = o' := Option.some.inj (hoj.symm.trans ho')
        subst this
        have h3 := hall e he hb
        rw [hon, getD_both hun] at h3
        cases h3
    · exact sink_waits inv r h2 i hi hun

theorem chain_mem : ∀ (tl : List Nat) (t0 : Nat), chainOrd md ops t0 tl = true → ∀ t ∈ tl, ∃ t' ∈ t0 :: tl, Region.waitsFor md ops t t' = true
  | [], _, _, t, ht => by cases ht
  | b :: r, t0, hc, t, ht => by
    simp only [chainOrd, Bool.and_eq_true] at hc
    rcases List.mem_cons.1 ht with rfl | ht
    · exact ⟨t0, by simp, hc.1⟩
    · obtain ⟨t', h1, h2⟩ := chain_mem r b hc.2 t ht
      exact ⟨t', List.mem_cons_of_mem _ h1, h2⟩

theorem wpAny_of_ordTail {Q' : Exit → Act → World → Prop} : ∀ (tl : List Nat) (l : List Oper) (listed : Array Bool) (a : Act) (w : World), tl.map (ops[·]?) = l.map some →
    ordTail md ops tl listed = true → wpList P ops Q' l a w → wpAny P md ops Q' l.length listed a w
  | [], [], _, _, _, _, hB, h => ⟨by simpa [ordTail] using hB, h⟩
  | [], _ :: _, _, _, _, hm, _, _ => by simp at hm
  | _ :: _, [], _, _, _, hm, _, _ => by simp at hm
  | k :: tl, o :: l, listed, a, w, hm, hB, h => by
    simp only [List.map_cons, List.cons.injEq] at hm
    obtain ⟨h0, hm'⟩ := hm
    simp only [ordTail, Bool.and_eq_true, decide_eq_true_eq] at hB
    refine ⟨fun h1 => (by rw [hB.1] at h1; cases h1), fun i hi => ?_⟩
    rw [hB.1] at hi
    have hik : i = k := by simpa using hi
    subst hik
    have hw : wpOp P ops Q' i (wpList P ops Q' l) a w := by unfold wpOp; simp only [h0]; exact h
    exact wpOp_mono (fun a' w' h' => wpAny_of_ordTail tl l _ a' w' hm' hB.2 h') hw

theorem filterMap_ok {l : List Oper} : ∀ (is : List Nat), (∀ i ∈ is, i < l.length) → is.map (l.toArray[·]?) = (is.filterMap (l[·]?)).map some ∧ (is.filterMap (l[·]?)).length = is.length
  | [], _ => ⟨rfl, rfl⟩
  | i :: is, h => by
    have hi := h i (by simp)
    obtain ⟨h1, h2⟩ := filterMap_ok is (fun j hj => h j (by simp [hj]))
    have e : l[i]? = some l[i] := by simp [hi]
    refine ⟨?_, ?_⟩
    · rw [List.map_cons, h1, List.filterMap_cons, e]
      simp [hi]
    · rw [List.filterMap_cons, e]
      simp [h2]

/-! ### The same, with operations that need no world among the others -/

/-- is one of hd yet to come? -/
def pendB (hd : List Nat) (listed : Array Bool) : Bool := hd.any fun i => !(listed.getD i true)

theorem pendB_false {hd : List Nat} {listed : Array Bool} (h : pendB hd listed = false) : ∀ i ∈ hd, listed.getD i true = true := fun i hi => by
  unfold pendB at h
  have := List.any_eq_false.1 h i hi
  simpa using this
theorem pendB_true {hd : List Nat} {listed : Array Bool} (h : pendB hd listed = true) : ∃ i ∈ hd, listed.getD i true = false := by
  unfold pendB at h
  obtain ⟨i, hi, h'⟩ := List.any_eq_true.1 h
  exact ⟨i, hi, by simpa using h'⟩

/-- whatever order is picked: while one of hd is yet to come only operations of hd and of wl may come up; then it is as the worlds of the class have it -/
def wpMix (P : Program) (md : Region.Mode) (ops : Array Oper) (C : World → Prop) (Q : Exit → Act → World → Prop) (hd wl : List Nat) : Nat → Array Bool → Act → Prop
  | 0, listed, a => ∀ w, C w → wpAny P md ops Q 0 listed a w
  | f + 1, listed, a =>
    (pendB hd listed = true → Region.ready md ops listed ≠ [] ∧ ∀ i ∈ Region.ready md ops listed, (i ∈ hd ∨ i ∈ wl) ∧ qOp P ops C i (wpMix P md ops C Q hd wl f (listed.setIfInBounds i true)) a) ∧
    (pendB hd listed = false → (∀ w, C w → wpAny P md ops Q (f + 1) listed a w) ∧ ∀ i ∈ Region.ready md ops listed, i ∈ wl → qOp P ops C i (wpMix P md ops C Q hd wl f (listed.setIfInBounds i true)) a)

theorem wpAny_of_mix {hd wl : List Nat} {Q : Exit → Act → World → Prop} : ∀ (f : Nat) (listed : Array Bool) (a : Act), wpMix P md ops C Q hd wl f listed a → ∀ w, C w → wpAny P md ops Q f listed a w
  | 0, _, _, h, w, hw => h w hw
  | f + 1, listed, a, h, w, hw => by
    cases hp : pendB hd listed with
    | true =>
      obtain ⟨h1, h2⟩ := h.1 hp
      exact ⟨fun h0 => absurd h0 h1, fun i hi => wpOp_of_qOp hw (fun a' w' hw' h' => wpAny_of_mix f _ a' h' w' hw') (h2 i hi).2⟩
    | false => exact (h.2 hp).1 w hw

/-- what is known of an operation that is taken: its value in the class; if it is one of wl, in whatever world -/
def Taken (P : Program) (ops : Array Oper) (C : World → Prop) (wl : List Nat) (i : Nat) (o : Oper) (v : Value) (a : Act) : Prop := YieldsIn P ops C o v a ∧ (i ∈ wl → Yields P ops o v a)

theorem Yields.inClass {o : Oper} {v : Value} {a : Act} (h : Yields P ops o v a) : YieldsIn P ops C o v a := by
  rcases h with ⟨h1, h2⟩ | h
  · exact .inl ⟨h1, fun w _ => by unfold Oper.quietAt; rw [h2 w]; exact ⟨rfl, rfl⟩⟩
  · exact .inr h

theorem qOp_put_taken {wl : List Nat} {i j : Nat} {oi oj : Oper} {v : Value} (hj : ops[j]? = some oj) (hap : oi.apart ops oj = true)
    (hsi : ∀ cs b, oi.op ≠ .select cs b) (hsj : ∀ cs b, oj.op ≠ .select cs b) {K : Act → Prop} {a : Act}
    (hy : Taken P ops C wl i oi v a) (h : qOp P ops C j K (a.put oi.dst v)) :
    qOp P ops C j (fun a' => Taken P ops C wl i oi v a' ∧ K (a'.put oi.dst v)) a := by
  obtain ⟨h1, h2, h3⟩ := Oper.apart_spec hap
  have keep : ∀ (a : Act), Taken P ops C wl i oi v a → ∀ u, Taken P ops C wl i oi v (a.put oj.dst u) := fun a hy u =>
    ⟨hy.1.of_same (execOp_put oi hsi a oj.dst u h3) (wanted_put oi a oj.dst u h3), fun hw => (hy.2 hw).of_same (execOp_put oi hsi a oj.dst u h3) (wanted_put oi a oj.dst u h3)⟩
  unfold qOp at *
  simp only [hj] at *
  rw [wanted_put oj a oi.dst v h1] at h
  split
  · rename_i hw
    simp only [hw, if_true] at h
    obtain ⟨u, hu, hn⟩ := h
    refine ⟨u, fun w hw' => ?_, keep a hy u, by rw [← Act.put_comm a v u h2]; exact hn⟩
    have := hu w hw'
    unfold Oper.quietAt at *
    rwa [execOp_put oj hsj a oi.dst v h1] at this
  · rename_i hw
    simp only [hw] at h
    exact ⟨keep a hy _, by rw [← Act.put_comm a v undef h2]; exact h⟩

/-- the invariant, hd and wl together -/
theorem wpMix_first {hd wl tl : List Nat} {t0 i : Nat} {oi : Oper} {v : Value} {Q : Exit → Act → World → Prop} (hne : ∃ w, C w) (hQ : ∀ c a w, ¬ Q (.panic c) a w) (hi : ops[i]? = some oi) (hsel : ∀ (j : Nat) (o : Oper) cs b, ops[j]? = some o → o.op ≠ .select cs b)
    (hs : sinkOrd md ops t0 hd = true) (hc : chainOrd md ops t0 tl = true) (hdis : ∀ j, j ∈ hd ∨ j ∈ wl → j ∉ t0 :: tl) (hin : i ∈ hd ∨ i ∈ wl) :
    ∀ (f : Nat) (listed : Array Bool) (a : Act), OrdInv md ops (hd ++ wl) (t0 :: tl) listed →
      (∀ j oj, ops[j]? = some oj → j ≠ i → listed.getD j true = false → (∀ e ∈ oj.after, Region.binds md e = true → e.on ≠ i) → oi.apart ops oj = true) →
      i ∈ Region.ready md ops listed → Taken P ops C wl i oi v a →
      wpMix P md ops C Q hd wl f (listed.setIfInBounds i true) (a.put oi.dst v) → wpMix P md ops C Q hd wl (f + 1) listed a := by
  have sinkR : ∀ listed, OrdInv md ops (hd ++ wl) (t0 :: tl) listed → pendB hd listed = true → ∀ j ∈ Region.ready md ops listed, j ∈ hd ∨ j ∈ wl := by
    intro listed inv hp j hj
    obtain ⟨x, hx, hxu⟩ := pendB_true hp
    rcases inv.cover j (mem_ready.1 hj).1 with h | h
    · exact List.mem_append.1 h
    · exfalso
      rcases List.mem_cons.1 h with rfl | h
      · exact sink_waits inv hd hs x hx hxu hj
      · obtain ⟨t', ht', hw⟩ := chain_mem tl t0 hc j h
        obtain ⟨oj, hoj, e, he, hb, hon⟩ := Region.waitsFor_spec hw
        obtain ⟨_, o', ho', hall⟩ := mem_ready.1 hj
        have : oj = o' := Option.some.inj (hoj.symm.trans ho')
        subst this
        have h3 := hall e he hb
        rw [hon, getD_both (inv.tail t' ht')] at h3
        cases h3
  have inW : ∀ listed, pendB hd listed = false → i ∈ Region.ready md ops listed → i ∈ wl := by
    intro listed hp hr
    rcases hin with h | h
    · have h1 := pendB_false hp i h
      rw [(mem_ready.1 hr).1] at h1
      cases h1
    · exact h
  intro f
  induction f with
  | zero =>
    intro listed a inv hfree hr hy H
    have none : ∀ j, j ∈ Region.ready md ops listed → j ≠ i → False := fun j hj hji => by
      obtain ⟨w, hw⟩ := hne
      have h1 := ready_mono hj hji
      rw [(H w hw).1] at h1
      cases h1
    have one : ∀ j, j ∈ Region.ready md ops listed → qOp P ops C j (wpMix P md ops C Q hd wl 0 (listed.setIfInBounds j true)) a := fun j hj => by
      by_cases hji : j = i
      · subst hji; exact hy.1.qOp hi H
      · exact (none j hj hji).elim
    exact ⟨fun hp => ⟨fun h => (by rw [h] at hr; cases hr), fun j hj => ⟨sinkR listed inv hp j hj, one j hj⟩⟩,
      fun hp => ⟨fun w hw => wpAny_first hi hsel (fun c a w hq => absurd hq (hQ _ _ _)) 0 listed a w hfree hr (hy.2 (inW listed hp hr)) (H w hw), fun j hj _ => one j hj⟩⟩
  | succ f ih =>
    intro listed a inv hfree hr hy H
    have step : ∀ j, j ∈ Region.ready md ops listed → j ≠ i → (j ∈ hd ∨ j ∈ wl) → qOp P ops C j (wpMix P md ops C Q hd wl f ((listed.setIfInBounds i true).setIfInBounds j true)) (a.put oi.dst v) →
        qOp P ops C j (wpMix P md ops C Q hd wl (f + 1) (listed.setIfInBounds j true)) a := fun j hj hji hjn h1 => by
      obtain ⟨hjun, oj, hoj, hall⟩ := mem_ready.1 hj
      have hun := (mem_ready.1 hr).1
      have hnot : ∀ e ∈ oj.after, Region.binds md e = true → e.on ≠ i := fun e he hb heq => by
        have h1 := hall e he hb
        rw [heq, getD_both hun] at h1
        cases h1
      have h2 := qOp_put_taken hoj (hfree j oj hoj hji hjun hnot) (fun cs b => hsel i oi cs b hi) (fun cs b => hsel j oj cs b hoj) hy h1
      have hfree' : ∀ k ok, ops[k]? = some ok → k ≠ i → (listed.setIfInBounds j true).getD k true = false →
          (∀ e ∈ ok.after, Region.binds md e = true → e.on ≠ i) → oi.apart ops ok = true := fun k ok hk hki hun hno => by
        refine hfree k ok hk hki ?_ hno
        by_cases hjk : j = k
        · subst hjk; exact hjun
        · rw [getD_set_ne true hjk] at hun; exact hun
      refine qOp_mono (fun a' h3 => ih (listed.setIfInBounds j true) a' (inv.set hj (hdis j hjn)) hfree' (ready_mono hr (Ne.symm hji)) h3.1 ?_) h2
      rw [Array.setIfInBounds_comm _ _ hji]
      exact h3.2
    have pend_set : ∀ j ∈ hd, j ≠ i → listed.getD j true = false → pendB hd (listed.setIfInBounds i true) = true := fun j hj hji hju => by
      unfold pendB
      exact List.any_eq_true.2 ⟨j, hj, by rw [getD_set_ne true (Ne.symm hji), hju]; rfl⟩
    refine ⟨fun hp => ⟨fun h => (by rw [h] at hr; cases hr), fun j hj => ⟨sinkR listed inv hp j hj, ?_⟩⟩, fun hp => ⟨fun w hw => ?_, fun j hj hjw => ?_⟩⟩
    · by_cases hji : j = i
      · subst hji; exact hy.1.qOp hi H
      · have hjn := sinkR listed inv hp j hj
        have hjr := ready_mono hj hji
        cases hp' : pendB hd (listed.setIfInBounds i true) with
        | true => exact step j hj hji hjn ((H.1 hp').2 j hjr).2
        | false =>
          rcases hjn with h | h
          · rw [pend_set j h hji (mem_ready.1 hj).1] at hp'
            cases hp'
          · exact step j hj hji (.inr h) ((H.2 hp').2 j hjr h)
    · exact wpAny_first hi hsel (fun c a w hq => absurd hq (hQ _ _ _)) (f + 1) listed a w hfree hr (hy.2 (inW listed hp hr)) (wpAny_of_mix (f + 1) _ _ H w hw)
    · by_cases hji : j = i
      · subst hji; exact hy.1.qOp hi H
      · have hjr := ready_mono hj hji
        cases hp' : pendB hd (listed.setIfInBounds i true) with
        | true => exact step j hj hji (.inr hjw) ((H.1 hp').2 j hjr).2
        | false => exact step j hj hji (.inr hjw) ((H.2 hp').2 j hjr hjw)

/-- steps: an operation that needs no world, or a quiet one -/
def wpSteps (P : Program) (ops : Array Oper) (C : World → Prop) (K : Act → Prop) : List (Bool × Oper) → Act → Prop
  | [], a => K a
  | (true, o) :: r, a => ∃ v, Yields P ops o v a ∧ wpSteps P ops C K r (a.put o.dst v)
  | (false, o) :: r, a => wpQuiet P ops C (fun a' => wpSteps P ops C K r a') [o] a

theorem wpSteps_nil {K : Act → Prop} {a : Act} (h : K a) : wpSteps P ops C K [] a := h
theorem wpSteps_any {K : Act → Prop} {a : Act} {o : Oper} {r : List (Bool × Oper)} (v : Value) (hg : o.guard = none) (hy : ∀ w, (execOp a.eval o).run P w = .ok (.value v) w) (h : wpSteps P ops C K r (a.put o.dst v)) : wpSteps P ops C K ((true, o) :: r) a :=
  ⟨v, .inl ⟨by simp [Region.wanted, hg], hy⟩, h⟩
theorem wpSteps_quiet {K : Act → Prop} {a : Act} {o : Oper} {r : List (Bool × Oper)} (h : wpQuiet P ops C (fun a' => wpSteps P ops C K r a') [o] a) : wpSteps P ops C K ((false, o) :: r) a := h

def ordMixB (md : Region.Mode) (ops : Array Oper) (hd wl tl : List Nat) : List (Bool × Nat) → Array Bool → Bool
  | [], listed => !pendB hd listed && wl.all (fun i => listed.getD i true) && ordTail md ops tl listed
  | (_, i) :: r, listed => (Region.ready md ops listed).contains i && Region.free md ops listed i && ordMixB md ops hd wl tl r (listed.setIfInBounds i true)

theorem wpMix_lex {hd wl tl : List Nat} {t0 : Nat} {Q : Exit → Act → World → Prop} (hne : ∃ w, C w) (hQ : ∀ c a w, ¬ Q (.panic c) a w) (hsel : Region.noSelect ops = true) (hs : sinkOrd md ops t0 hd = true) (hc : chainOrd md ops t0 tl = true) (hdis : ∀ j, j ∈ hd ∨ j ∈ wl → j ∉ t0 :: tl)
    (hw1 : ∀ j ∈ hd, j ∉ wl) (lt : List Oper) (ht : (t0 :: tl).map (ops[·]?) = lt.map some) {K : Act → Prop} (hK : ∀ a w, C w → K a → wpList P ops Q lt a w) :
    ∀ (is : List (Bool × Nat)) (l : List (Bool × Oper)) (listed : Array Bool) (a : Act), is.map (fun x => (x.1, ops[x.2]?)) = l.map (fun x => (x.1, some x.2)) → (∀ x ∈ is, (x.1 = true → x.2 ∈ wl) ∧ (x.1 = false → x.2 ∈ hd)) → OrdInv md ops (hd ++ wl) (t0 :: tl) listed →
    ordMixB md ops hd wl (t0 :: tl) is listed = true → wpSteps P ops C K l a → wpMix P md ops C Q hd wl (l.length + lt.length) listed a
  | [], [], listed, a, _, _, _, hB, h => by
    simp only [ordMixB, Bool.and_eq_true, Bool.not_eq_true'] at hB
    obtain ⟨⟨h1, h2⟩, h3⟩ := hB
    have fin : ∀ w, C w → wpAny P md ops Q lt.length listed a w := fun w hw => wpAny_of_ordTail (t0 :: tl) lt listed a w ht h3 (hK a w hw h)
    simp only [List.length_nil, Nat.zero_add]
    cases hl : lt.length with
    | zero => intro w hw; rw [← hl]; exact fin w hw
    | succ n =>
      refine ⟨fun hp => (by rw [h1] at hp; cases hp), fun _ => ⟨fun w hw => (by rw [← hl]; exact fin w hw), fun i hi hiw => ?_⟩⟩
      have := List.all_eq_true.1 h2 i hiw
      rw [(mem_ready.1 hi).1] at this
      cases this
  | [], _ :: _, _, _, hm, _, _, _, _ => by simp at hm
  | _ :: _, [], _, _, hm, _, _, _, _ => by simp at hm
  | (b, i) :: is, (b', o) :: l, listed, a, hm, hin, inv, hB, h => by
    simp only [List.map_cons, List.cons.injEq, Prod.mk.injEq] at hm
    obtain ⟨⟨rfl, h0⟩, hm'⟩ := hm
    simp only [ordMixB, Bool.and_eq_true] at hB
    obtain ⟨⟨hr, hf⟩, hB'⟩ := hB
    have hr' : i ∈ Region.ready md ops listed := by simpa using hr
    have hmem : i ∈ hd ∨ i ∈ wl := by
      have := hin (b, i) (by simp)
      cases b with
      | true => exact .inr (this.1 rfl)
      | false => exact .inl (this.2 rfl)
    have inv' := inv.set hr' (hdis i hmem)
    rw [show ((b, o) :: l).length + lt.length = (l.length + lt.length) + 1 by simp only [List.length_cons]; omega]
    obtain ⟨v, hy, hK'⟩ : ∃ v, Taken P ops C wl i o v a ∧ wpSteps P ops C K l (a.put o.dst v) := by
      cases b with
      | true =>
        obtain ⟨v, hy, h'⟩ := h
        exact ⟨v, ⟨Yields.inClass hy, fun _ => hy⟩, h'⟩
      | false =>
        have hst : qOp P ops C i (fun a' => wpSteps P ops C K l a') a := by
          have h' : wpQuiet P ops C (fun a' => wpSteps P ops C K l a') [o] a := h
          unfold qOp; simp only [h0]; exact h'
        obtain ⟨v, hy, h'⟩ := yieldsIn_of_qOp h0 hst
        exact ⟨v, ⟨hy, fun hw => absurd hw (hw1 i ((hin (false, i) (by simp)).2 rfl))⟩, h'⟩
    exact wpMix_first hne hQ h0 (Region.noSelect_spec hsel) hs hc hdis hmem _ listed a inv (Region.free_spec h0 hf) hr' hy
      (wpMix_lex hne hQ hsel hs hc hdis hw1 lt ht hK is l _ _ hm' (fun x hx => hin x (by simp [hx])) inv' hB' hK')

def mixB (md : Region.Mode) (ops : Array Oper) (is : List (Bool × Nat)) (t0 : Nat) (tl : List Nat) : Bool :=
  let hd := (is.filter (fun x => !x.1)).map (·.2)
  let wl := (is.filter (·.1)).map (·.2)
  Region.noSelect ops && sinkOrd md ops t0 hd && chainOrd md ops t0 tl && ((List.range ops.size).all fun i => hd.contains i || wl.contains i || (t0 :: tl).contains i) &&
    ((t0 :: tl).all fun t => !hd.contains t && !wl.contains t) && (hd.all fun i => !wl.contains i) && ordMixB md ops hd wl (t0 :: tl) is (Array.replicate ops.size false)

theorem filterMap_ok2 {l : List Oper} : ∀ (is : List (Bool × Nat)), (∀ x ∈ is, x.2 < l.length) →
    is.map (fun x => (x.1, l.toArray[x.2]?)) = (is.filterMap fun x => (l[x.2]?).map fun o => (x.1, o)).map (fun x => (x.1, some x.2)) ∧ (is.filterMap fun x => (l[x.2]?).map fun o => (x.1, o)).length = is.length
  | [], _ => ⟨rfl, rfl⟩
  | (b, i) :: is, h => by
    have hi := h (b, i) (by simp)
    obtain ⟨h1, h2⟩ := filterMap_ok2 is (fun j hj => h j (by simp [hj]))
    have e : l[i]? = some l[i] := by simp [hi]
    refine ⟨?_, ?_⟩
    · rw [List.map_cons, h1, List.filterMap_cons]
      simp only [e, Option.map_some, List.map_cons]
      simp [hi]
    · rw [List.filterMap_cons]
      simp only [e, Option.map_some, List.length_cons]
      simp [h2]

/-- THE THEOREM: is: the operations in the order in which they are walked, 'true' at one that needs no world; t0, tl: the rest, in one forced order. -/
theorem later_mix {P : Program} {id : Nat} {Q : Exit → Act → World → Prop} {a : Act} {w : World} {l : List Oper} (is : List (Bool × Nat)) (t0 : Nat) (tl : List Nat) (hm : P.follows .mixedOrders = true)
    (hB : (mixB .any l.toArray is t0 tl && (is.map (·.2) ++ t0 :: tl).all (fun i => decide (i < l.length)) && decide (is.length + (t0 :: tl).length = l.length)) = true)
    (h : wpSteps P l.toArray (fun w' => ∃ g : Later w, w' = g.val) (fun a' => ∀ g : Later w, wpList P l.toArray (NoPanic Q) ((t0 :: tl).filterMap (l[·]?)) a' g.val) (is.filterMap fun x => (l[x.2]?).map fun o => (x.1, o)) a) :
    (Code.region id l.toArray true).wp P Q a w := by
  simp only [mixB, Bool.and_eq_true, decide_eq_true_eq, List.all_eq_true, List.mem_append] at hB
  obtain ⟨⟨⟨⟨⟨⟨⟨⟨hsel, hs⟩, hc⟩, hcov⟩, hdis⟩, hwd⟩, hord⟩, hlt⟩, hlen⟩ := hB
  obtain ⟨q1, q2⟩ := filterMap_ok2 is (fun x hx => hlt x.2 (.inl (List.mem_map.2 ⟨x, hx, rfl⟩)))
  obtain ⟨r1, r2⟩ := filterMap_ok (t0 :: tl) (fun i hi => hlt i (.inr hi))
  have hdis' : ∀ t ∈ t0 :: tl, t ∉ (is.filter (fun x => !x.1)).map (·.2) ∧ t ∉ (is.filter (·.1)).map (·.2) := fun t ht => by
    have := hdis t ht
    simpa only [Bool.and_eq_true, Bool.not_eq_true', List.contains_eq_mem, decide_eq_false_iff_not] using this
  refine wp_region_noPanic (wp_region_any hm ?_)
  have inv0 : OrdInv .any l.toArray ((is.filter (fun x => !x.1)).map (·.2) ++ (is.filter (·.1)).map (·.2)) (t0 :: tl) (Array.replicate l.toArray.size false) := by
    refine ⟨by simp, fun j oj _ hl => (by rw [getD_replicate_false] at hl; cases hl), fun t ht' => ?_, fun j hj => ?_⟩
    · exact getD_in (by have := hlt t (.inr ht'); simpa using this) (getD_replicate_false _ _)
    · have hjl : j < l.toArray.size := by
        rcases Nat.lt_or_ge j l.toArray.size with h' | h'
        · exact h'
        · have hsz : (Array.replicate l.toArray.size false).size ≤ j := by simpa using h'
          have h1 : (Array.replicate l.toArray.size false).getD j true = true := by unfold Array.getD; rw [dif_neg (by omega)]
          rw [h1] at hj
          cases hj
      have := hcov j (List.mem_range.2 hjl)
      simp only [Bool.or_eq_true, List.contains_iff_mem] at this
      rcases this with (h' | h') | h'
      · exact .inl (List.mem_append.2 (.inl h'))
      · exact .inl (List.mem_append.2 (.inr h'))
      · exact .inr h'
  have key := wpMix_lex (P := P) (md := .any) (C := fun w' => ∃ g : Later w, w' = g.val) (Q := NoPanic Q) ⟨w, ⟨w, Below.refl _ _⟩, rfl⟩ (fun c a w hq => hq) hsel hs hc (fun j hj hj' => by
      rcases hj with h' | h'
      · exact (hdis' j hj').1 h'
      · exact (hdis' j hj').2 h') (fun j hj hj' => by
      have := hwd j hj
      simp only [Bool.not_eq_true', List.contains_eq_mem, decide_eq_false_iff_not] at this
      exact this hj') _ r1 (fun a' w' hw' hg => by obtain ⟨g, rfl⟩ := hw'; exact hg g) is _ _ a q1 (fun x hx => ⟨fun hb => List.mem_map.2 ⟨x, List.mem_filter.2 ⟨hx, hb⟩, rfl⟩, fun hb => List.mem_map.2 ⟨x, List.mem_filter.2 ⟨hx, by simp [hb]⟩, rfl⟩⟩) inv0 hord h
  have := wpAny_of_mix _ _ _ key { w with drawn := w.drawn + 1 } ⟨⟨w.drew, (Below.refl _ _).drew⟩, rfl⟩
  rw [q2, r2, hlen] at this
  simpa using this
end
end Bal

/-
  Ratios and their least spans.
-/
namespace Go.Proofs.YtamnnjdfjffhlaaGreatDoor
open Go.RowKit Bal Bal.Trim Bal.Gas
set_option linter.unusedVariables false
set_option linter.unusedSimpArgs false
set_option maxHeartbeats 400000

theorem f_heated (x y u v : Int) (w : World) :
    Calls Tryz.prog 59 #[.agg #[.int .i64 x, .int .i64 y], .agg #[.int .i64 u, .int .i64 v]] w fun e w' => e = .returned (.agg #[.int .i64 (wrap64 (x + u)), .int .i64 (wrap64 (y + v))]) ∧ Kept w w' := by
  go_enter Tryz.func59, Tryz.ntmps59
  go_wp2
  exact bodyPost_ret (v := .agg #[.int .i64 (wrap64 (x + u)), .int .i64 (wrap64 (y + v))]) (by simp [results, Tryz.results59, go_sem]) rfl ⟨rfl, by (exact kpt)⟩

theorem f_down (r : Ratio) (w : World) (h0 : 0 < r.den) (h1 : r.den ≤ 1000000000000000) (h2 : -1000000000000000 ≤ r.num) (h3 : r.num ≤ 1000000000000000) :
    Calls Tryz.prog 61 #[.agg #[.int .i64 r.num, .int .i64 r.den]] w fun e w' => e = .returned (.int .i64 (down r)) ∧ Kept w w' := by
  obtain ⟨d1, d2⟩ := div_bd (N := 1000000000000000) h2 h3 h0 (by omega)
  by_cases hn : r.num < 0
  · have ht := tdiv_down hn h0
    have b1 : -1000000000000001 ≤ r.num.tdiv r.den := by split at ht <;> omega
    have b2 : r.num.tdiv r.den ≤ 1000000000000001 := by split at ht <;> omega
    have HT := Lib.hid ht
    clear ht
    go_enter Tryz.func61, Tryz.ntmps61
    go_wp2
    all_goals
      go_ret
      refine ⟨ret_int ?_, by (exact kpt)⟩
      have ht := HT.out
      simp_all [down]
  · have HT := Lib.hid (tdiv_pos (b := r.den) (show 0 ≤ r.num by omega))
    go_enter Tryz.func61, Tryz.ntmps61
    go_wp2
    go_ret
    exact ⟨ret_int (by simp [down]), by (exact kpt)⟩

theorem f_up (r : Ratio) (w : World) (h0 : 0 < r.den) (h1 : r.den ≤ 1000000000000000) (h2 : -1000000000000000 ≤ r.num) (h3 : r.num ≤ 1000000000000000) :
    Calls Tryz.prog 62 #[.agg #[.int .i64 r.num, .int .i64 r.den]] w fun e w' => e = .returned (.int .i64 (up r)) ∧ Kept w w' := by
  obtain ⟨d1, d2⟩ := div_bd (N := 1000000000000000) (a := -r.num) (b := r.den) (by omega) (by omega) h0 (by omega)
  go_enter Tryz.func62, Tryz.ntmps62
  go_wp2_with (go_at_call 61; (with_reducible refine (f_down ⟨-r.num, r.den⟩ _ h0 h1 (by simp; omega) (by simp; omega)).mono ?_); rintro e w1 ⟨rfl, hb1⟩; simp only [down])
  go_ret
  exact ⟨ret_int (by simp [up]), by (exact kpt)⟩

def ratioOk (r : Ratio) : Prop := 0 < r.den ∧ r.den ≤ 1000000000000000 ∧ -1000000000000000 ≤ r.num ∧ r.num ≤ 1000000000000000
/-- a span lies in a block of the call's own, the result's block is there -/
def Made (w : World) (lo hi : Int) (s : Value) (wx : World) : Prop :=
  ∃ g, s = .pointer (some ⟨g, 0, none⟩) ∧ w.heap.size < g ∧ Blk wx g #[.int .i64 lo, .int .i64 hi] 28 ∧ Blk wx w.heap.size #[.int .i64 0, .int .i64 0] 28 ∧ Kept w wx
def LeastRel (w : World) (g : Nat) (xs : List Ratio) (i : Value) (wx : World) : Prop :=
  ∃ k : Nat, k + 1 ≤ xs.length ∧ i = .int .i64 k ∧ Blk wx g #[.int .i64 (leastLo (xs.take (k + 1))), .int .i64 (leastHi (xs.take (k + 1)))] 28 ∧ Blk wx w.heap.size #[.int .i64 0, .int .i64 0] 28 ∧ Kept w wx

theorem f_least (a : Option Addr) (n cap : Nat) (xs : List Ratio) (w : World) (hn : xs.length = n) {B : Nat} (hx : Row Ratio.cells 2 w.heap.size w a xs) (h0 : 2 ≤ n) (h1 : n ≤ cap) (h2 : cap ≤ 9223372036854775807) (hv : ∀ x ∈ xs, ratioOk x) :
    Calls Tryz.prog 31 #[.slice a n cap] w fun e w' => e = .returned (.agg #[.int .i64 (leastLo xs), .int .i64 (leastHi xs)]) ∧ Kept w w' := by
  subst hn
  have HV := Lib.hid hv
  clear hv
  obtain ⟨b, off, rfl, hb, c0, c1⟩ := Ratio.row hx 0 (by omega)
  have c00 : w.cell? ⟨b, off, none⟩ = some (.int .i64 xs[0].num) := by simpa using c0
  have c01 : w.cell? ⟨b, off + 1, none⟩ = some (.int .i64 xs[0].den) := by simpa using c1
  clear c0 c1
  have hlt1 : (0 : Int) < xs.length := by omega
  have hlt0 : 0 < xs.length := by omega
  have k0 : ∀ w', Kept w w' → w'.cell? ⟨b, off, none⟩ = some (.int .i64 xs[0].num) := fun w' h => by rw [h.cell (p := ⟨b, off, none⟩) hb]; exact c00
  have k1 : ∀ w', Kept w w' → w'.cell? ⟨b, off + 1, none⟩ = some (.int .i64 xs[0].den) := fun w' h => by rw [h.cell (p := ⟨b, off + 1, none⟩) hb]; exact c01
  go_enter Tryz.func31, Tryz.ntmps31
  go_upto_region 1 with fail
  go_cut [3] (fun s3 wx => Made w (down xs[0]) (up xs[0]) s3 wx)
  case first =>
    obtain ⟨v0, v1, v2, v3⟩ := HV.out xs[0] (List.getElem_mem (by omega))
    go_region_held3 (fun w' => Kept w w') (exact kpt) (first | (go_at_call 61; (with_reducible refine (f_down xs[0] _ v0 v1 v2 v3).mono ?_); rintro e w1 ⟨rfl, hb1⟩; obtain ⟨hc1, hf1, hl1⟩ := bcell3 hb1) | (go_at_call 62; (with_reducible refine (f_up xs[0] _ v0 v1 v2 v3).mono ?_); rintro e w1 ⟨rfl, hb1⟩; obtain ⟨hc1, hf1, hl1⟩ := bcell3 hb1))
    all_goals (go_wp2_with fail; go_meet)
    all_goals
      refine ⟨_, rfl, ?_, ?_, ?_, ?_⟩
      · first | (simp; done) | (refine Blk.lt (arr := ?_) (t := ?_) ?_; rotate_left 2; focus (exact blk))
      · (exact blkc)
      · (exact blkc)
      · (exact kpt)
  case rest =>
    obtain ⟨g, rfl, hg, q1, q0, hk⟩ := hcut
    have ecap : (1 : Int) < cap := by omega
    go_wp2
    go_loopw [18] (fun i wr => LeastRel w g xs i wr) (fun i _ => xs.length - (intOf i).toNat)
    case atStart => exact ⟨0, by omega, rfl, by rw [List.take_succ_eq_append_getElem hlt0]; simpa [leastLo, leastHi, lmin, lmax] using q1, q0, hk⟩
    case round =>
      obtain ⟨k, hkl, rfl, q1, q0, hk'⟩ := hrel
      by_cases hlt : k < xs.length - 1
      · have hlt' : k + 1 < xs.length := by omega
        obtain ⟨b', off', hab, hb', e0, e1⟩ := Ratio.row (hx.later hk' (Nat.le_refl _)) (k + 1) hlt'
        simp only [Option.some.injEq, Addr.mk.injEq, and_true] at hab
        obtain ⟨rfl, rfl⟩ := hab
        rw [show off + (k + 1) * 2 = off + 2 + k * 2 by omega] at e0 e1
        obtain ⟨v0, v1, v2, v3⟩ := HV.out xs[k + 1] (List.getElem_mem hlt')
        go_wp2
        refine at_world (S := fun W => Blk W g #[.int .i64 (leastLo (xs.take (k + 1))), .int .i64 (leastHi (xs.take (k + 1)))] 28 ∧ Blk W wr.heap.size #[.int .i64 xs[k + 1].num, .int .i64 xs[k + 1].den] 86 ∧ Blk W w.heap.size #[.int .i64 0, .int .i64 0] 28 ∧ Kept w W) ⟨by (exact blk), by (exact blk), by (exact blk), by (exact kpt)⟩ ?_
        rintro W ⟨r1, r2, r0, hkW⟩
        have r1c0 := fun g : Later W => (r1.later g).cell 0
        have r1f0 := fun g : Later W => (r1.later g).free 0
        have r1c1 := fun g : Later W => (r1.later g).cell 1
        have r1f1 := fun g : Later W => (r1.later g).free 1
        have r1l := fun g : Later W => (r1.later g).lt
        simp at r1c0 r1c1
        have r2c0 := fun g : Later W => (r2.later g).cell 0
        have r2f0 := fun g : Later W => (r2.later g).free 0
        have r2c1 := fun g : Later W => (r2.later g).cell 1
        have r2f1 := fun g : Later W => (r2.later g).free 1
        have r2l := fun g : Later W => (r2.later g).lt
        simp at r2c0 r2c1
        refine later_mix [(false, 0), (false, 1), (false, 2), (false, 3), (false, 4), (false, 5), (false, 6), (false, 7), (false, 8), (false, 10), (true, 9)] 11 [12, 13] (by kernel_rfl) (by kernel_rfl) ?_
        simp only [List.filterMap_cons, List.filterMap_nil, List.getElem?_cons_zero, List.getElem?_cons_succ, Option.map_some]
        repeat (refine wpSteps_quiet ?_; (first | go_big_quiet_skip | (go_big_quiet_want; go_big_quiet_op; first | go_big_quiet_on | (apply Exists.intro; refine ⟨fun g => ?_, ?_⟩; (focus (first | (go_at_call 61; exact Later.call (f_down xs[k + 1] _ v0 v1 v2 v3)) | (go_at_call 62; exact Later.call (f_up xs[k + 1] _ v0 v1 v2 v3)))); go_big_quiet_on))); refine wpQuiet_nil ?_)
        refine wpSteps_any (.int .i64 (max (leastHi (xs.take (k + 1))) (up xs[k + 1]))) rfl (fun w => ?_) ?_
        · first | (go_simp; done) | (go_simp; simp [ite_max])
        simp only [Act.put, List.setIfInBounds_toArray, List.set_cons_zero, List.set_cons_succ]
        refine wpSteps_nil ?_
        intro gg
        simp only [ite_min, ite_max]
        have hkg := Kept.drop hkW gg.ok
        have p1 := r1.later gg
        have p0 := r0.later gg
        have c2 := p1.cell 0
        have c3 := p1.cell 1
        have f2 := p1.free 0
        have f3 := p1.free 1
        simp at c2 c3
        go_wp2
        refine NoPanic.normal ?_
        go_wp2
        go_round
        case rel =>
          refine ⟨k + 1, by omega, by go_num, ?_, ?_, by (exact kpt)⟩
          · refine Blk.cast (arr := ?_) ?_ ?_
            rotate_left 1
            · focus (exact blk)
            · have hne : xs.take (k + 1) ≠ [] := by intro h; have h2 : (xs.take (k + 1)).length = 0 := (by rw [h]; rfl); rw [List.length_take] at h2; omega
              rw [List.take_succ_eq_append_getElem hlt', leastLo_snoc _ hne, leastHi_snoc _ hne]
              simp [ite_min, ite_max]
          · (exact blkc)
        case measure => simp [intOf]; omega
      · have hk1 : k + 1 = xs.length := by omega
        have c2 := q1.cell 0
        have c3 := q1.cell 1
        have c4 := q0.cell 0
        have c5 := q0.cell 1
        have f4 := q0.free 0
        have f5 := q0.free 1
        rw [List.take_of_length_le (by omega)] at c2 c3
        simp at c2 c3 c4 c5
        go_wp2
        exact bodyPost_ret (v := .agg #[.int .i64 (leastLo xs), .int .i64 (leastHi xs)]) (by simp [results, Tryz.results31, go_sem, c4, c5, f4, f5]) rfl ⟨rfl, by (exact kpt)⟩

end Go.Proofs.YtamnnjdfjffhlaaGreatDoor

/-
  A cell in air: its volumes, and how it fits.
-/
namespace Go.Proofs.YtamnnjdfjffhlaaGreatDoor
open Go.RowKit Bal Bal.Trim Bal.Gas
set_option linter.unusedVariables false
set_option linter.unusedSimpArgs false
set_option maxHeartbeats 400000

theorem f_put_ok (c : Cell) (a : Air) (w : World) (hv : cellB c = true) :
    Calls Tryz.prog 30 #[.agg #[.int .i64 c.room, .int .i64 c.helium, .int .i64 c.air, .int .i64 c.wlo, .int .i64 c.whi, .int .i64 c.leak, .int .i64 c.owed], .agg #[.int .i64 a.plo, .int .i64 a.phi, .int .i64 a.tlo, .int .i64 a.thi]] w fun e w' => e = .returned (.tuple #[.agg #[.int .i64 c.room, .int .i64 c.helium, .int .i64 c.air, .int .i64 c.wlo, .int .i64 c.whi, .int .i64 c.leak, .int .i64 c.owed, .int .i64 a.plo, .int .i64 a.phi, .int .i64 a.tlo, .int .i64 a.thi, .int .i64 (c.helium + c.air), .int .i64 (wrap64 (a.tlo + c.wlo)), .int .i64 (wrap64 (a.thi + c.whi))], .int .i64 (checkAir a)]) ∧ Kept w w' := by
  have he : checkCell c = 0 := by unfold checkCell; rw [hv]; rfl
  obtain ⟨_, ⟨u1, u2⟩, ⟨u3, u4⟩, _⟩ := cellB_iff.1 hv
  clear hv
  go_enter Tryz.func30, Tryz.ntmps30
  go_wp2_with (go_at_call 56; (with_reducible refine (f_CheckCell _ _).mono ?_); rintro e w1 ⟨rfl, hb1⟩)
  refine at_world (S := fun W => Blk W w.heap.size #[.int .i64 c.room, .int .i64 c.helium, .int .i64 c.air, .int .i64 c.wlo, .int .i64 c.whi, .int .i64 c.leak, .int .i64 c.owed] 37 ∧ Blk W (w.heap.size + 1) #[.int .i64 a.plo, .int .i64 a.phi, .int .i64 a.tlo, .int .i64 a.thi] 30 ∧ Blk W (w.heap.size + 1 + 1) #[.int .i64 0, .int .i64 0, .int .i64 0, .int .i64 0, .int .i64 0, .int .i64 0, .int .i64 0, .int .i64 0, .int .i64 0, .int .i64 0, .int .i64 0, .int .i64 0, .int .i64 0, .int .i64 0] 80 ∧ Kept w W) ⟨by (exact blk), by (exact blk), by (exact blk), by (exact kpt)⟩ ?_
  rintro W ⟨r0, r1, r2, hk⟩
  have r0c0 := fun g : Later W => (r0.later g).cell 0
  have r0f0 := fun g : Later W => (r0.later g).free 0
  have r0c1 := fun g : Later W => (r0.later g).cell 1
  have r0f1 := fun g : Later W => (r0.later g).free 1
  have r0c2 := fun g : Later W => (r0.later g).cell 2
  have r0f2 := fun g : Later W => (r0.later g).free 2
  have r0c3 := fun g : Later W => (r0.later g).cell 3
  have r0f3 := fun g : Later W => (r0.later g).free 3
  have r0c4 := fun g : Later W => (r0.later g).cell 4
  have r0f4 := fun g : Later W => (r0.later g).free 4
  have r0c5 := fun g : Later W => (r0.later g).cell 5
  have r0f5 := fun g : Later W => (r0.later g).free 5
  have r0c6 := fun g : Later W => (r0.later g).cell 6
  have r0f6 := fun g : Later W => (r0.later g).free 6
  have r0l := fun g : Later W => (r0.later g).lt
  simp at r0c0 r0c1 r0c2 r0c3 r0c4 r0c5 r0c6
  have r1c0 := fun g : Later W => (r1.later g).cell 0
  have r1f0 := fun g : Later W => (r1.later g).free 0
  have r1c1 := fun g : Later W => (r1.later g).cell 1
  have r1f1 := fun g : Later W => (r1.later g).free 1
  have r1c2 := fun g : Later W => (r1.later g).cell 2
  have r1f2 := fun g : Later W => (r1.later g).free 2
  have r1c3 := fun g : Later W => (r1.later g).cell 3
  have r1f3 := fun g : Later W => (r1.later g).free 3
  have r1l := fun g : Later W => (r1.later g).lt
  simp at r1c0 r1c1 r1c2 r1c3
  have r2c0 := fun g : Later W => (r2.later g).cell 0
  have r2f0 := fun g : Later W => (r2.later g).free 0
  have r2c1 := fun g : Later W => (r2.later g).cell 1
  have r2f1 := fun g : Later W => (r2.later g).free 1
  have r2c2 := fun g : Later W => (r2.later g).cell 2
  have r2f2 := fun g : Later W => (r2.later g).free 2
  have r2c3 := fun g : Later W => (r2.later g).cell 3
  have r2f3 := fun g : Later W => (r2.later g).free 3
  have r2c4 := fun g : Later W => (r2.later g).cell 4
  have r2f4 := fun g : Later W => (r2.later g).free 4
  have r2c5 := fun g : Later W => (r2.later g).cell 5
  have r2f5 := fun g : Later W => (r2.later g).free 5
  have r2c6 := fun g : Later W => (r2.later g).cell 6
  have r2f6 := fun g : Later W => (r2.later g).free 6
  have r2c7 := fun g : Later W => (r2.later g).cell 7
  have r2f7 := fun g : Later W => (r2.later g).free 7
  have r2c8 := fun g : Later W => (r2.later g).cell 8
  have r2f8 := fun g : Later W => (r2.later g).free 8
  have r2c9 := fun g : Later W => (r2.later g).cell 9
  have r2f9 := fun g : Later W => (r2.later g).free 9
  have r2c10 := fun g : Later W => (r2.later g).cell 10
  have r2f10 := fun g : Later W => (r2.later g).free 10
  have r2c11 := fun g : Later W => (r2.later g).cell 11
  have r2f11 := fun g : Later W => (r2.later g).free 11
  have r2c12 := fun g : Later W => (r2.later g).cell 12
  have r2f12 := fun g : Later W => (r2.later g).free 12
  have r2c13 := fun g : Later W => (r2.later g).cell 13
  have r2f13 := fun g : Later W => (r2.later g).free 13
  have r2l := fun g : Later W => (r2.later g).lt
  simp at r2c0 r2c1 r2c2 r2c3 r2c4 r2c5 r2c6 r2c7 r2c8 r2c9 r2c10 r2c11 r2c12 r2c13
  refine later_mix [(false, 0), (false, 1), (false, 2), (false, 3), (false, 4), (false, 5), (false, 6), (false, 7), (false, 8), (false, 9), (false, 10), (false, 11), (false, 12), (false, 13), (false, 14)] 15 [16] (by kernel_rfl) (by kernel_rfl) ?_
  simp only [List.filterMap_cons, List.filterMap_nil, List.getElem?_cons_zero, List.getElem?_cons_succ, Option.map_some]
  repeat (refine wpSteps_quiet ?_; (first | go_big_quiet_skip | (go_big_quiet_want; go_big_quiet_op; first | go_big_quiet_on | (apply Exists.intro; refine ⟨fun g => ?_, ?_⟩; (focus (first | (go_at_call 59; exact Later.call (f_heated _ _ _ _ _)) | (go_at_call 60; exact Later.call (f_CheckAir a _)))); go_big_quiet_on))); refine wpQuiet_nil ?_)
  refine wpSteps_nil ?_
  intro gg
  have hkg := Kept.drop hk gg.ok
  go_wp2
  refine NoPanic.normal ?_
  go_wp2
  exact bodyPost_ret (v := .tuple #[.agg #[.int .i64 c.room, .int .i64 c.helium, .int .i64 c.air, .int .i64 c.wlo, .int .i64 c.whi, .int .i64 c.leak, .int .i64 c.owed, .int .i64 a.plo, .int .i64 a.phi, .int .i64 a.tlo, .int .i64 a.thi, .int .i64 (c.helium + c.air), .int .i64 (wrap64 (a.tlo + c.wlo)), .int .i64 (wrap64 (a.thi + c.whi))], .int .i64 (checkAir a)]) (by simp [results, Tryz.results30, go_sem, r2c0, r2f0, r2c1, r2f1, r2c2, r2f2, r2c3, r2f3, r2c4, r2f4, r2c5, r2f5, r2c6, r2f6, r2c7, r2f7, r2c8, r2f8, r2c9, r2f9, r2c10, r2f10, r2c11, r2f11, r2c12, r2f12, r2c13, r2f13]) rfl ⟨rfl, by (exact kpt)⟩

end Go.Proofs.YtamnnjdfjffhlaaGreatDoor

/-
  The reference of gas: its small functions.
-/
namespace Go.Proofs.YtamnnjdfjffhlaaGreatDoor
open Go.RowKit Bal Bal.Trim Bal.Gas
set_option linter.unusedVariables false
set_option linter.unusedSimpArgs false
set_option maxHeartbeats 400000

theorem w64_in (n : Int) (h : -9223372036854775808 ≤ n ∧ n ≤ 9223372036854775807) : wrap64 n = n := by unfold wrap64; omega

theorem r_within (n lo hi : Int) (w : World) :
    Calls Tryz.prog 39 #[.int .i64 n, .int .i64 lo, .int .i64 hi] w fun e w' => e = .returned (.bool (inB n lo hi)) ∧ w = w' := by
  go_enter Tryz.func39, Tryz.ntmps39
  go_wp2
  all_goals (go_ret; exact ⟨ret_bool (by first | (simp_all [inB]; done) | (simp_all [inB]; omega)), rfl⟩)

theorem r_spanned (x y lo hi : Int) (w : World) :
    Calls Tryz.prog 42 #[.agg #[.int .i64 x, .int .i64 y], .int .i64 lo, .int .i64 hi] w fun e w' => e = .returned (.bool (spanIn x y lo hi)) ∧ Kept w w' := by
  have he : spanIn x y lo hi = (decide (lo ≤ x) && decide (x ≤ y) && decide (y ≤ hi)) := by
    simp only [spanIn, rng, inB, List.all_cons, List.all_nil, Bool.and_true]
    rw [Bool.eq_iff_iff]
    simp
    omega
  rw [he]
  by_cases h1 : lo ≤ x <;> by_cases h2 : x ≤ y <;> by_cases h3 : y ≤ hi
  all_goals
    go_enter Tryz.func42, Tryz.ntmps42
    go_wp2
    all_goals (go_ret; refine ⟨ret_bool ?_, by (exact kpt)⟩; simp_all)

theorem r_warm (x y : Int) (w : World) :
    Calls Tryz.prog 73 #[.agg #[.int .i64 x, .int .i64 y]] w fun e w' => e = .returned (.bool (spanIn x y (-300) (300))) ∧ Kept w w' := by
  go_enter Tryz.func73, Tryz.ntmps73
  go_wp2_with (go_at_call 42; (with_reducible refine (r_spanned _ _ _ _ _).mono ?_); rintro e w1 ⟨rfl, hb1⟩; obtain ⟨hc1, hf1, hl1⟩ := bcell3 hb1)
  go_ret
  exact ⟨rfl, by (exact kpt)⟩

theorem r_Temp (x y : Int) (w : World) :
    Calls Tryz.prog 43 #[.agg #[.int .i64 x, .int .i64 y]] w fun e w' => e = .returned (.bool (spanIn x y (1500) (3500))) ∧ Kept w w' := by
  go_enter Tryz.func43, Tryz.ntmps43
  go_wp2_with (go_at_call 42; (with_reducible refine (r_spanned _ _ _ _ _).mono ?_); rintro e w1 ⟨rfl, hb1⟩; obtain ⟨hc1, hf1, hl1⟩ := bcell3 hb1)
  go_ret
  exact ⟨rfl, by (exact kpt)⟩

theorem r_Air (a : Air) (w : World) :
    Calls Tryz.prog 15 #[.agg #[.int .i64 a.plo, .int .i64 a.phi, .int .i64 a.tlo, .int .i64 a.thi]] w fun e w' => e = .returned (.bool (airB a)) ∧ Kept w w' := by
  go_enter Tryz.func15, Tryz.ntmps15
  go_wp2_with (first | (go_at_call 42; (with_reducible refine (r_spanned _ _ _ _ _).mono ?_); rintro e w1 ⟨rfl, hb1⟩; obtain ⟨hc1, hf1, hl1⟩ := bcell3 hb1) | (go_at_call 43; (with_reducible refine (r_Temp _ _ _).mono ?_); rintro e w1 ⟨rfl, hb1⟩; obtain ⟨hc1, hf1, hl1⟩ := bcell3 hb1))
  all_goals (go_ret; refine ⟨ret_bool ?_, by (exact kpt)⟩; simp_all [airB])

theorem r_CheckAir (a : Air) (w : World) :
    Calls Tryz.prog 6 #[.agg #[.int .i64 a.plo, .int .i64 a.phi, .int .i64 a.tlo, .int .i64 a.thi]] w fun e w' => e = .returned (.int .i64 (checkAir a)) ∧ Kept w w' := by
  cases hv : airB a
  all_goals
    go_enter Tryz.func6, Tryz.ntmps6
    go_wp2_with (go_at_call 15; (with_reducible refine (r_Air a _).mono ?_); rw [hv]; rintro e w1 ⟨rfl, hb1⟩; obtain ⟨hc1, hf1, hl1⟩ := bcell3 hb1)
    all_goals (go_ret; refine ⟨ret_int ?_, by (exact kpt)⟩; simp_all [checkAir])

theorem r_Cell (c : Cell) (w : World) :
    Calls Tryz.prog 41 #[.agg #[.int .i64 c.room, .int .i64 c.helium, .int .i64 c.air, .int .i64 c.wlo, .int .i64 c.whi, .int .i64 c.leak, .int .i64 c.owed]] w fun e w' => e = .returned (.bool (cellB c)) ∧ Kept w w' := by
  go_enter Tryz.func41, Tryz.ntmps41
  go_wp2_with (first | (go_at_call 39; (with_reducible refine (r_within _ _ _ _).mono ?_); rintro e w1 ⟨rfl, rfl⟩) | (go_at_call 73; (with_reducible refine (r_warm _ _ _).mono ?_); rintro e w1 ⟨rfl, hb1⟩; obtain ⟨hc1, hf1, hl1⟩ := bcell3 hb1))
  all_goals (go_ret; refine ⟨ret_bool ?_, by (exact kpt)⟩; simp_all [cellB, cellFits, rng])

theorem f_put_good (c : Cell) (a : Air) (w : World) (hv : cellB c = true) (ha : airB a = true) :
    Calls Tryz.prog 30 #[.agg #[.int .i64 c.room, .int .i64 c.helium, .int .i64 c.air, .int .i64 c.wlo, .int .i64 c.whi, .int .i64 c.leak, .int .i64 c.owed], .agg #[.int .i64 a.plo, .int .i64 a.phi, .int .i64 a.tlo, .int .i64 a.thi]] w fun e w' => e = .returned (.tuple #[.agg #[.int .i64 c.room, .int .i64 c.helium, .int .i64 c.air, .int .i64 c.wlo, .int .i64 c.whi, .int .i64 c.leak, .int .i64 c.owed, .int .i64 a.plo, .int .i64 a.phi, .int .i64 a.tlo, .int .i64 a.thi, .int .i64 (amount c), .int .i64 (heatLo c a), .int .i64 (heatHi c a)], .int .i64 0]) ∧ Kept w w' := by
  obtain ⟨h1, h2, h3, h4, h5, h6⟩ := cellB_iff.1 hv
  obtain ⟨h7, h8⟩ := airB_iff.1 ha
  have := f_put_ok c a w hv
  rwa [show checkAir a = 0 by simp [checkAir, ha], w64_in (a.tlo + c.wlo) (by omega), w64_in (a.thi + c.whi) (by omega)] at this

end Go.Proofs.YtamnnjdfjffhlaaGreatDoor

/-
  The cells of a plant at work: a row of seven-cell structs in a block of the call's own, beside the plant's own block. No program in sight.
-/
namespace Bal.Gas
open Go Go.RowKit Bal Bal.Trim

theorem cells_len (c : Cell) : c.cells.length = 7 := rfl
theorem flatMap_set {α : Type} {enc : α → List Value} {k : Nat} (he : ∀ x, (enc x).length = k) : ∀ (xs : List α) (i : Nat) (c c' : α) (j : Nat) (u : Value), xs[i]? = some c → j < k → enc c' = (enc c).set j u →
    (xs.set i c').flatMap enc = (xs.flatMap enc).set (i * k + j) u
  | [], i, c, c', j, u, h, _, _ => by simp at h
  | y :: ys, 0, c, c', j, u, h, hj, hc => by
    simp at h
    subst h
    rw [List.set_cons_zero, List.flatMap_cons, List.flatMap_cons, hc, Nat.zero_mul, Nat.zero_add, List.set_append_left _ _ (by rw [he]; exact hj)]
  | y :: ys, i + 1, c, c', j, u, h, hj, hc => by
    have ih := flatMap_set he ys i c c' j u (by simpa using h) hj hc
    rw [List.set_cons_succ, List.flatMap_cons, List.flatMap_cons, ih, List.set_append_right _ _ (by rw [he, Nat.succ_mul]; omega), he]
    congr 2
    rw [Nat.succ_mul]; omega

/-- a slice of cells that may be written: nil or empty, or at the head of a block from B on -/
def Mine (T : TypeId) (B : Nat) (w : World) (v : Value) (xs : List Cell) : Prop :=
  ∃ ad cp, v = .slice ad xs.length cp ∧ xs.length ≤ cp ∧ cp ≤ maxLen ∧ (ad = none → cp = 0) ∧ (xs = [] ∨ ∃ g cur, ad = some ⟨g, 0, none⟩ ∧ B ≤ g ∧ Blk w g cur T ∧ cur.toList.take (xs.length * 7) = xs.flatMap Cell.cells)
theorem Mine.zero {T : TypeId} {B : Nat} {w : World} : Mine T B w (.slice none 0 0) [] := ⟨none, 0, rfl, Nat.le_refl _, by simp [maxLen], fun _ => rfl, .inl rfl⟩
theorem Mine.of_owns {T : TypeId} {B : Nat} {w : World} {v : Value} {xs : List Cell} (h : w.ownsRow B T 7 v xs.length (xs.flatMap Cell.cells)) : Mine T B w v xs := by
  obtain ⟨_, ⟨rfl, hn⟩ | ⟨g, cap, cur, rfl, hb, hh, hnc, hcm, hsz, ht⟩⟩ := h
  · have : xs = [] := List.length_eq_zero_iff.1 hn
    subst this
    exact Mine.zero
  · exact ⟨_, cap, rfl, hnc, hcm, fun h => by simp at h, .inr ⟨g, cur, rfl, hb, hh, ht⟩⟩
theorem Mine.slice {T : TypeId} {B : Nat} {w : World} {v : Value} {xs : List Cell} (h : Mine T B w v xs) : ∃ ad cp, v = .slice ad xs.length cp ∧ xs.length ≤ cp ∧ cp ≤ maxLen ∧ (ad = none → cp = 0) := by
  obtain ⟨ad, cp, h1, h2, h3, h4, _⟩ := h
  exact ⟨ad, cp, h1, h2, h3, h4⟩
theorem Mine.keep {T : TypeId} {B : Nat} {w w' : World} {v : Value} {xs : List Cell} (h : Mine T B w v xs) (hb : Kept w w') : Mine T B w' v xs := by
  obtain ⟨ad, cp, h1, h2, h3, h4, h5⟩ := h
  refine ⟨ad, cp, h1, h2, h3, h4, ?_⟩
  rcases h5 with h5 | ⟨g, cur, ha, hg, hk, ht⟩
  · exact .inl h5
  · exact .inr ⟨g, cur, ha, hg, hk.keep hb, ht⟩
theorem Mine.alloc {T : TypeId} {B : Nat} {w : World} {v : Value} {xs : List Cell} (h : Mine T B w v xs) (o : Obj) : Mine T B (w.alloc o) v xs := h.keep ((Below.refl _ _).alloc (Nat.le_refl _) o)
theorem Mine.drew {T : TypeId} {B : Nat} {w : World} {v : Value} {xs : List Cell} (h : Mine T B w v xs) : Mine T B w.drew v xs := h.keep (Below.refl _ _).drew
theorem Mine.base {T : TypeId} {B C : Nat} {w : World} {v : Value} {xs : List Cell} (h : Mine T B w v xs) (hb : C ≤ B) : Mine T C w v xs := by
  obtain ⟨ad, cp, h1, h2, h3, h4, h5⟩ := h
  refine ⟨ad, cp, h1, h2, h3, h4, ?_⟩
  rcases h5 with h5 | ⟨g, cur, ha, hg, hk, ht⟩
  · exact .inl h5
  · exact .inr ⟨g, cur, ha, Nat.le_trans hb hg, hk, ht⟩
theorem Mine.row {T : TypeId} {B : Nat} {w : World} {ad : Option Addr} {n cp : Nat} {xs : List Cell} (h : Mine T B w (.slice ad n cp) xs) : n = xs.length ∧ Row Cell.cells 7 w.heap.size w ad xs ∧ xs.length ≤ cp ∧ cp ≤ maxLen ∧ (ad = none → cp = 0) := by
  obtain ⟨ad', cp', h1, h2, h3, h4, h5⟩ := h
  cases h1
  refine ⟨rfl, ?_, h2, h3, h4⟩
  rcases h5 with rfl | ⟨g, cur, rfl, hg, hk, ht⟩
  · exact Row.nil
  · intro i x hx
    refine ⟨g, 0, rfl, hk.lt, fun j v hj => ?_⟩
    have hjk : j < 7 := by have := (List.getElem?_eq_some_iff.1 hj).1; simpa [cells_len] using this
    have h1 := flatMap_get cells_len xs i x hx j hjk
    rw [← ht, List.getElem?_take] at h1
    rw [hk.cell, Nat.zero_add, ← Array.getElem?_toList]
    split at h1
    · rw [h1]; exact hj
    · rw [hj] at h1; cases h1
/-- the i-th cell of a slice that may be written: its block, its numbers -/
theorem Mine.at {T : TypeId} {B : Nat} {w : World} {ad : Option Addr} {n cp : Nat} {xs : List Cell} (h : Mine T B w (.slice ad n cp) xs) {i : Nat} (hi : i < xs.length) :
    ∃ g cur, ad = some ⟨g, 0, none⟩ ∧ B ≤ g ∧ Blk w g cur T ∧ w.cell? ⟨g, i * 7, none⟩ = some (.int .i64 xs[i].room) ∧ w.cell? ⟨g, i * 7 + 1, none⟩ = some (.int .i64 xs[i].helium) ∧ w.cell? ⟨g, i * 7 + 2, none⟩ = some (.int .i64 xs[i].air) ∧
      w.cell? ⟨g, i * 7 + 3, none⟩ = some (.int .i64 xs[i].wlo) ∧ w.cell? ⟨g, i * 7 + 4, none⟩ = some (.int .i64 xs[i].whi) ∧ w.cell? ⟨g, i * 7 + 5, none⟩ = some (.int .i64 xs[i].leak) ∧ w.cell? ⟨g, i * 7 + 6, none⟩ = some (.int .i64 xs[i].owed) := by
  have hr := h.row
  obtain ⟨ad', cp', h1, h2, h3, h4, h5⟩ := h
  cases h1
  rcases h5 with rfl | ⟨g, cur, rfl, hg, hk, ht⟩
  · simp at hi
  · obtain ⟨b, off, ha, _, hc⟩ := Cell.row hr.2.1 i hi
    cases ha
    simp only [Nat.zero_add] at hc
    exact ⟨g, cur, rfl, hg, hk, hc⟩
theorem Mine.put {T : TypeId} {B : Nat} {w : World} {g n cp : Nat} {xs : List Cell} (h : Mine T B w (.slice (some ⟨g, 0, none⟩) n cp) xs) {i j : Nat} {c : Cell} {u : Value} (c' : Cell) (hx : xs[i]? = some c) (hj : j < 7) (hc : c'.cells = c.cells.set j u) :
    Mine T B (w.setCell ⟨g, i * 7 + j, none⟩ u) (.slice (some ⟨g, 0, none⟩) n cp) (xs.set i c') := by
  obtain ⟨ad, cp', h1, h2, h3, h4, h5⟩ := h
  cases h1
  refine ⟨_, cp, by simp, by simpa using h2, h3, h4, ?_⟩
  rcases h5 with rfl | ⟨g', cur, ha, hg, hk, ht⟩
  · simp at hx
  · cases ha
    refine .inr ⟨g, cur.setIfInBounds (i * 7 + j) u, rfl, hg, hk.set _ _, ?_⟩
    rw [flatMap_set cells_len xs i c c' j u hx hj hc, ← ht, List.length_set, Array.toList_setIfInBounds, List.take_set]
theorem Mine.other {T t : TypeId} {B : Nat} {w : World} {v : Value} {xs : List Cell} (h : Mine T B w v xs) {b o : Nat} {arr : Array Value} (hb : Blk w b arr t) (hne : t ≠ T) (u : Value) : Mine T B (w.setCell ⟨b, o, none⟩ u) v xs := by
  obtain ⟨ad, cp, h1, h2, h3, h4, h5⟩ := h
  refine ⟨ad, cp, h1, h2, h3, h4, ?_⟩
  rcases h5 with h5 | ⟨g, cur, ha, hg, hk, ht⟩
  · exact .inl h5
  · refine .inr ⟨g, cur, ha, hg, hk.other ?_ u, ht⟩
    intro he
    simp only at he
    subst he
    unfold Blk at hb hk
    rw [hb] at hk
    simp only [Option.some.injEq, Obj.cells.injEq] at hk
    exact hne hk.2.1
/-- .. beside a block that is not the row's own, told once for all worlds -/
theorem Mine.ne {T t : TypeId} {B : Nat} {w : World} {ad : Option Addr} {n cp : Nat} {xs : List Cell} (h : Mine T B w (.slice ad n cp) xs) {b : Nat} {arr : Array Value} (hb : Blk w b arr t) (hne : t ≠ T) : xs = [] ∨ ∀ g, ad = some ⟨g, 0, none⟩ → g ≠ b := by
  obtain ⟨ad', cp', h1, h2, h3, h4, h5⟩ := h
  cases h1
  rcases h5 with h5 | ⟨g, cur, ha, hg, hk, ht⟩
  · exact .inl h5
  · refine .inr fun g' hg' he => ?_
    rw [ha] at hg'
    simp only [Option.some.injEq, Addr.mk.injEq, and_true] at hg'
    subst hg' he
    unfold Blk at hb hk
    rw [hb] at hk
    simp only [Option.some.injEq, Obj.cells.injEq] at hk
    exact hne hk.2.1
theorem Mine.off {T : TypeId} {B : Nat} {w : World} {ad : Option Addr} {n cp : Nat} {xs : List Cell} (h : Mine T B w (.slice ad n cp) xs) {b o : Nat} (hne : xs = [] ∨ ∀ g, ad = some ⟨g, 0, none⟩ → g ≠ b) (u : Value) : Mine T B (w.setCell ⟨b, o, none⟩ u) (.slice ad n cp) xs := by
  obtain ⟨ad', cp', h1, h2, h3, h4, h5⟩ := h
  cases h1
  refine ⟨ad, cp, rfl, h2, h3, h4, ?_⟩
  rcases h5 with h5 | ⟨g, cur, ha, hg, hk, ht⟩
  · exact .inl h5
  · rcases hne with hne | hne
    · exact .inl hne
    · exact .inr ⟨g, cur, ha, hg, hk.other (by simpa using Ne.symm (hne g ha)) u, ht⟩
/-- blocks of another type than T are as they were -/
def Besides (T : TypeId) (w w' : World) : Prop := ∀ b arr t, t ≠ T → Blk w b arr t → Blk w' b arr t
theorem Besides.refl (T : TypeId) (w : World) : Besides T w w := fun _ _ _ _ h => h
theorem Besides.trans {T : TypeId} {a b c : World} (h : Besides T a b) (k : Besides T b c) : Besides T a c := fun x arr t ht hx => k x arr t ht (h x arr t ht hx)
theorem Besides.keep {T : TypeId} {w w' : World} (h : Kept w w') : Besides T w w' := fun _ _ _ _ hb => hb.keep h
theorem Besides.put {T : TypeId} {w : World} {g o : Nat} {cur : Array Value} (hg : Blk w g cur T) (u : Value) : Besides T w (w.setCell ⟨g, o, none⟩ u) := fun b arr t ht hb => by
  refine hb.other ?_ u
  intro he
  simp only at he
  subst he
  unfold Blk at hb hg
  rw [hb] at hg
  simp only [Option.some.injEq, Obj.cells.injEq] at hg
  exact ht hg.2.1
theorem Besides.past {T : TypeId} {w w' : World} (h : Besides T w w') {b o : Nat} (hb : w.heap.size ≤ b) (u : Value) : Besides T w (w'.setCell ⟨b, o, none⟩ u) := fun x arr t ht hx => by
  refine (h x arr t ht hx).other ?_ u
  have := hx.lt
  simp only
  omega
def plantCells (v : Value) (p : Plant) : Array Value := #[v, .int .i64 p.bottles, .int .i64 p.inH, .int .i64 p.inA, .int .i64 p.vH, .int .i64 p.vA, .int .i64 p.lH, .int .i64 p.lA, .int .i64 p.pH, .int .i64 p.pA]
theorem Besides.blk {T : TypeId} {w w' : World} (h : Besides T w w') {b : Nat} {arr : Array Value} {t : TypeId} (hne : t ≠ T) (hb : Blk w b arr t) : Blk w' b arr t := h b arr t hne hb
/-- a plant at work: its own block, and its cells -/
def Shop (Tc Ts : TypeId) (B : Nat) (w : World) (s : Nat) (ad : Option Addr) (cp : Nat) (p : Plant) : Prop :=
  B ≤ s ∧ Blk w s (plantCells (.slice ad p.cells.length cp) p) Ts ∧ Mine Tc B w (.slice ad p.cells.length cp) p.cells
theorem Shop.keep {Tc Ts : TypeId} {B : Nat} {w w' : World} {s : Nat} {ad : Option Addr} {cp : Nat} {p : Plant} (h : Shop Tc Ts B w s ad cp p) (hk : Kept w w') : Shop Tc Ts B w' s ad cp p := ⟨h.1, h.2.1.keep hk, h.2.2.keep hk⟩
end Bal.Gas

/-
  Structs as cells of memory. No program in sight.
-/
namespace Bal.Gas
open Go Go.RowKit Bal

def Par.cells (x : Par) : List Value := [.int .i64 x.h, .int .i64 x.a]
theorem Par.row {B : Nat} {w : World} {a : Option Addr} {xs : List Par} (h : Row Par.cells 2 B w a xs) (i : Nat) (hi : i < xs.length) :
    ∃ b off, a = some ⟨b, off, none⟩ ∧ b < B ∧ w.cell? ⟨b, off + i * 2, none⟩ = some (.int .i64 xs[i].h) ∧ w.cell? ⟨b, off + i * 2 + 1, none⟩ = some (.int .i64 xs[i].a) := by
  obtain ⟨b, off, ha, hb, hc⟩ := h i xs[i] (by simp [hi])
  exact ⟨b, off, ha, hb, hc 0 _ rfl, hc 1 _ rfl⟩
theorem Par.of_leaves {cs : List Value} (h : LeavesOk [.int .i64, .int .i64] cs) : ∃ x : Par, cs = x.cells ∧ (Lit.int .i64 x.h).wf = true ∧ (Lit.int .i64 x.a).wf = true := by
  obtain ⟨hl, h⟩ := h
  match cs, hl with
  | [v0, v1], _ =>
    obtain ⟨_, e0, n0, rfl, w0⟩ := h 0 (.int .i64) rfl; simp at e0; subst e0
    obtain ⟨_, e1, n1, rfl, w1⟩ := h 1 (.int .i64) rfl; simp at e1; subst e1
    exact ⟨⟨n0, n1⟩, rfl, w0, w1⟩

end Bal.Gas

/-
  A slice that the call owns, beside blocks of another type. No program in sight.
-/
namespace Bal
open Go Go.RowKit
theorem Blk.grown {w w' : World} {b base k n : Nat} {arr : Array Value} {t e : TypeId} {v : Value} {xs : List Value} (h : Blk w b arr t) (ho : w.ownsRow base e k v n xs) (hne : t ≠ e) (hg : w.grownBy w' v.ownBlock) : Blk w' b arr t := by
  have hl := h.lt
  unfold Blk at *
  rw [hg.block b hl ?_]
  · exact h
  · intro he
    obtain ⟨_, ⟨rfl, _⟩ | ⟨g, cap, cur, rfl, _, hh, _⟩⟩ := ho
    · cases he
    · simp only [Value.ownBlock, Option.some.injEq] at he
      subst he
      rw [h] at hh
      simp only [Option.some.injEq, Obj.cells.injEq] at hh
      exact hne hh.2.1
theorem Kept.grown {w0 w w' : World} {base k n : Nat} {e : TypeId} {v : Value} {xs : List Value} (h : Kept w0 w) (ho : w.ownsRow base e k v n xs) (hb : w0.heap.size ≤ base) (hg : w.grownBy w' v.ownBlock) : Kept w0 w' := by
  refine Below.trans h ⟨hg.os, hg.tape, hg.output, hg.size, fun i hi => hg.block i (Nat.lt_of_lt_of_le hi h.size) fun he => ?_⟩
  obtain ⟨_, ⟨rfl, _⟩ | ⟨g, cap, cur, rfl, hbg, _, _⟩⟩ := ho
  · cases he
  · simp only [Value.ownBlock, Option.some.injEq] at he
    omega
theorem owns_set {w : World} {b base k n i : Nat} {arr : Array Value} {t e : TypeId} {v u : Value} {xs : List Value} (h : Blk w b arr t) (ho : w.ownsRow base e k v n xs) (hne : t ≠ e) : (w.setCell ⟨b, i, none⟩ u).ownsRow base e k v n xs := by
  obtain ⟨h1, h2 | ⟨g, cap, cur, hv, hg, hh, r⟩⟩ := ho
  · exact ⟨h1, .inl h2⟩
  · have hgb : g ≠ b := by
      intro he
      subst he
      unfold Blk at h
      rw [h] at hh
      simp only [Option.some.injEq, Obj.cells.injEq] at hh
      exact hne hh.2.1
    refine ⟨h1, .inr ⟨g, cap, cur, hv, hg, ?_, r⟩⟩
    have := Blk.other (w := w) (b := g) (arr := cur) (t := e) (a := ⟨b, i, none⟩) hh (by simpa using fun h => hgb h.symm) u
    exact this
end Bal

/-
  Rows of elements: parts of them, equal lists, what a call owns. No program in sight.
-/
namespace Bal
open Go Go.RowKit
/-- the first elements of a row -/
theorem Row.take {α : Type} {enc : α → List Value} {k B : Nat} {w : World} {a : Option Addr} {xs : List α} (h : Row enc k B w a xs) (n : Nat) : Row enc k B w a (xs.take n) := by
  intro i x hx
  rw [List.getElem?_take] at hx
  split at hx
  · exact h i x hx
  · cases hx
theorem Row.one {α : Type} {enc : α → List Value} {k : Nat} {w : World} {b : Nat} {arr : Array Value} {t : TypeId} {x : α} (h : Blk w b arr t) (he : arr.toList = enc x) : Row enc k w.heap.size w (some ⟨b, 0, none⟩) [x] := by
  intro j y hy
  have hj : j = 0 := by
    have := (List.getElem?_eq_some_iff.1 hy).1
    simp at this; omega
  subst hj
  simp at hy
  subst hy
  exact ⟨b, 0, rfl, h.lt, fun j v hv => by simp only [Nat.zero_mul, Nat.zero_add]; rw [h.cell, ← Array.getElem?_toList, he]; exact hv⟩
/-- a block of several elements as a row -/
theorem Row.block {α : Type} {enc : α → List Value} {k : Nat} {w : World} {b : Nat} {arr : Array Value} {t : TypeId} {xs : List α} (he : ∀ x, (enc x).length = k) (h : Blk w b arr t) (ha : arr.toList = xs.flatMap enc) : Row enc k w.heap.size w (some ⟨b, 0, none⟩) xs := by
  intro i x hx
  refine ⟨b, 0, rfl, h.lt, fun j v hj => ?_⟩
  have hjk : j < k := by rw [← he x]; exact (List.getElem?_eq_some_iff.1 hj).1
  rw [h.cell, Nat.zero_add, ← Array.getElem?_toList, ha, flatMap_get he xs i x hx j hjk]
  exact hj
theorem cell_two_at {w : World} {n : Nat} (h : n = w.heap.size) (a b : Value) (t : TypeId) : ∀ j u, [a, b][j]? = some u → (w.alloc (.cells #[a, b] t)).cell? ((⟨n, 0, none⟩ : Addr).add j) = some u := h ▸ cell_two_new w a b t
theorem owns_lt {w : World} {base k n g : Nat} {e : TypeId} {v : Value} {xs : List Value} (ho : w.ownsRow base e k v n xs) (h : v.ownBlock = some g) : g < w.heap.size := by
  obtain ⟨_, ⟨rfl, _⟩ | ⟨g', cap, cur, rfl, _, hh, _⟩⟩ := ho
  · cases h
  · simp only [Value.ownBlock, Option.some.injEq] at h
    subst h
    rcases Nat.lt_or_ge g' w.heap.size with h' | h'
    · exact h'
    · rw [Array.getElem?_eq_none h'] at hh; cases hh
/-- a slice that a call owns, as a row at an address; nil if it is empty and unmade -/
theorem owns_row {α : Type} {enc : α → List Value} {k base : Nat} {e : TypeId} {w : World} {v : Value} {xs : List α} (he : ∀ x, (enc x).length = k) (h : w.ownsRow base e k v xs.length (xs.flatMap enc)) :
    ∃ a cap, v = .slice a xs.length cap ∧ Row enc k w.heap.size w a xs ∧ xs.length ≤ cap ∧ cap ≤ maxLen := Row.of_owns he h
end Bal

/-
  An empty slice that a call has made, and lists appended to it. No program in sight.
-/
namespace Bal
open Go Go.RowKit
set_option linter.unusedVariables false
theorem owns_made {α : Type} {enc : α → List Value} {base k n : Nat} {e : TypeId} {w : World} (hn : n = w.heap.size) (hb : base ≤ w.heap.size) : (w.alloc (.cells #[] e)).ownsRow base e k (.slice (some ⟨n, 0, none⟩) 0 0) ([] : List α).length (([] : List α).flatMap enc) := by
  subst hn
  refine ⟨by simp, .inr ⟨w.heap.size, 0, #[], rfl, hb, Blk.new, Nat.le_refl _, by simp [maxLen], by simp, by simp⟩⟩
/-- THE COPY OF A LIST: append to an empty slice of the call's own -/
theorem wpList_copy {α : Type} {enc : α → List Value} {P : Program} {w0 w : World} {ops : Array Oper} {rest : List Oper} {o : Oper} {a : Act} {Q : Exit → Act → World → Prop} (hgd : o.guard = none) (s x : Operand) (t : TypeId)
    (ho : o.op = .call { callee := .builtin .append, args := #[s, x], argTypes := #[t, t] })
    (base : Nat) (e : TypeId) (z : Value) (size bytes : Nat) (ht : P.underlying t = some (.slice e)) (hinfo : (P.info? e).map (fun i => (i.zero, i.size, i.bytes)) = some (some z, size, bytes))
    (hzs : z.cells.size = size) (hsz : 0 < size) (he : ∀ x : α, (enc x).length = size) (h1 : ∀ (x : α), ∀ u ∈ enc x, u.oneCell' = true)
    (n : Nat) (hn : n = w.heap.size) (hs : a.eval s = .slice (some ⟨n, 0, none⟩) 0 0)
    (ad : Option Addr) (c : Nat) (ys : List α) (hx : a.eval x = .slice ad ys.length c) (hc : ad = none → c = 0) (hrow : Row enc size w0.heap.size w0 ad ys) (hk : Kept w0 w) (hbase : base = w0.heap.size)
    (h63 : ys.length ≤ 1000000) (hbytes : bytes ≤ 100000)
    (h : ∀ ad' cp w', Row enc size w'.heap.size w' ad' ys → ys.length ≤ cp → cp ≤ maxLen → Kept w0 w' → Kept w w' → wpList P ops Q rest (a.put o.dst (.slice ad' ys.length cp)) w') :
    wpList P ops Q (o :: rest) a (w.alloc (.cells #[] e)) := by
  subst hbase
  obtain ⟨i, hi, hz, hsize, hby⟩ := info_parts hinfo
  have hsz0 := hk.size
  have hown0 : (w.alloc (.cells #[] e)).ownsRow w0.heap.size e size (.slice (some ⟨n, 0, none⟩) 0 0) ([] : List α).length (([] : List α).flatMap enc) := owns_made hn hsz0
  have hm : ys.length * bytes ≤ 1000000 * 100000 := Nat.mul_le_mul h63 hbytes
  refine wpList_append_list hgd s x t ho w0.heap.size e i z size bytes ht hi hz hsize hby hzs hsz he h1 _ [] hs hown0 ad c ys hx hc (hrow.keep (Kept.alloc hk _) (Nat.le_refl _)) (by simp [maxLen]; omega) (by simp; omega) (by show w0.heap.size ≤ (w.heap.push _).size; simp; omega) ?_
  intro v' w' hown hgrow
  have hk' : Kept w0 w' := Kept.grown (Kept.alloc hk _) hown0 (Nat.le_refl _) hgrow
  have hk2 : Kept w w' := by
    have hown1 : (w.alloc (.cells #[] e)).ownsRow w.heap.size e size (.slice (some ⟨n, 0, none⟩) 0 0) ([] : List α).length (([] : List α).flatMap enc) := owns_made hn (Nat.le_refl _)
    exact Kept.grown (Kept.alloc (Below.refl _ _) _) hown1 (Nat.le_refl _) hgrow
  rw [List.nil_append] at hown
  obtain ⟨ad', cp', rfl, hrow', h5, h6⟩ := Row.of_owns he hown
  exact h ad' cp' w' hrow' h5 h6 hk' hk2
end Bal

/-
  Plants: need, plus, shares, the accounts.
-/
namespace Go.Proofs.YtamnnjdfjffhlaaGreatDoor
open Go.RowKit Bal Bal.Trim Bal.Gas
set_option linter.unusedVariables false
set_option linter.unusedSimpArgs false
set_option maxHeartbeats 1600000
set_option maxRecDepth 10000

/-- what need panics with -/
def refusal (e : Int) : Value := .iface 69 (.agg #[.int .i64 e])
theorem f_need_ok (e : Int) (w : World) : Calls Tryz.prog 27 #[.bool true, .int .i64 e] w fun x w' => x = .returned (.tuple #[]) ∧ w = w' := by
  go_enter Tryz.func27, Tryz.ntmps27
  go_wp2
  go_end0
  exact ⟨rfl, rfl⟩
theorem f_need_no (e : Int) (w : World) : Calls Tryz.prog 27 #[.bool false, .int .i64 e] w fun x w' => x = .panicked [{ v := refusal e, recovered := false }] ∧ w = w' := by
  go_enter Tryz.func27, Tryz.ntmps27
  go_wp2
  exact ⟨rfl, rfl, rfl⟩

theorem f_plus (a b c d : Int) (w : World) (ha : 0 ≤ a ∧ a ≤ 100000000000000) (hb : 0 ≤ b ∧ b ≤ 100000000000000) (hc : 0 ≤ c ∧ c ≤ 100000000000000) (hd : 0 ≤ d ∧ d ≤ 100000000000000) :
    Calls Tryz.prog 55 #[.agg #[.int .i64 a, .int .i64 b], .agg #[.int .i64 c, .int .i64 d]] w fun e w' => e = .returned (.agg #[.int .i64 (a + c), .int .i64 (b + d)]) ∧ Kept w w' := by
  obtain ⟨a0, a1⟩ := ha
  obtain ⟨b0, b1⟩ := hb
  obtain ⟨c0, c1⟩ := hc
  obtain ⟨d0, d1⟩ := hd
  go_enter Tryz.func55, Tryz.ntmps55
  go_wp2
  exact bodyPost_ret (v := .agg #[.int .i64 (a + c), .int .i64 (b + d)]) (by simp [results, Tryz.results55, go_sem]) rfl ⟨rfl, by (exact kpt)⟩

theorem r_counted (a b : Int) (w : World) : Calls Tryz.prog 40 #[.agg #[.int .i64 a, .int .i64 b]] w fun e w' => e = .returned (.bool (booksB a b)) ∧ Kept w w' := by
  cases h1 : inB a 0 1000000000000
  · have H1 := Lib.hid h1
    have HB := Lib.hid (show booksB a b = false by unfold booksB rng; simp [h1])
    clear h1
    go_enter Tryz.func40, Tryz.ntmps40
    go_wp2_with (go_at_call 39; (with_reducible refine (r_within a _ _ _).mono ?_); rw [H1.out]; rintro e w1 ⟨rfl, rfl⟩)
    go_ret
    exact ⟨ret_bool HB.out.symm, by (exact kpt)⟩
  · cases h2 : inB b 0 1000000000000
    all_goals
      have H1 := Lib.hid h1
      have H2 := Lib.hid h2
      have HB := Lib.hid (show booksB a b = inB b 0 1000000000000 by unfold booksB rng; simp [h1])
      clear h1 h2
      go_enter Tryz.func40, Tryz.ntmps40
      go_wp2_with (first | (go_at_call 39; (with_reducible refine (r_within a _ _ _).mono ?_); rw [H1.out]; rintro e w1 ⟨rfl, rfl⟩) | (go_at_call 39; (with_reducible refine (r_within b _ _ _).mono ?_); rw [H2.out]; rintro e w1 ⟨rfl, rfl⟩))
      go_ret
      exact ⟨ret_bool (HB.out.trans H2.out).symm, by (exact kpt)⟩

theorem infoCell : (Tryz.prog.info? 37).map (fun i => (i.zero, i.size, i.bytes)) = some (some (.agg #[.int .i64 0, .int .i64 0, .int .i64 0, .int .i64 0, .int .i64 0, .int .i64 0, .int .i64 0]), 7, 56) := by kernel_rfl
theorem s_CloneC (a : Option Addr) (cap : Nat) (xs : List Cell) (w : World) (hx : Row Cell.cells 7 w.heap.size w a xs) (hn : xs.length ≤ 1000) (hz : a = none → cap = 0) :
    Calls Tryz.prog 29 #[.slice a xs.length cap] w fun e w' => ∃ v, e = .returned v ∧ w'.ownsRow w.heap.size 37 7 v xs.length (xs.flatMap Cell.cells) ∧ Kept w w' := by
  cases a with
  | none =>
    have hl : xs = [] := by
      cases xs with
      | nil => rfl
      | cons y ys => obtain ⟨b, off, ha, _⟩ := hx 0 y rfl; cases ha
    subst hl
    have := hz rfl
    subst this
    have hs0 : ∀ w, (binOp .eql 22 (.slice none 0 0) (.slice none 0 0)).run Tryz.prog w = .ok (.bool true) w := fun w => Lib.run_eql_slice_nil w _ _ _ _ _ _ _ Tryz.underlying22
    go_enter Tryz.func29, Tryz.ntmps29
    go_wp2
    exact bodyPost_ret (v := .slice none 0 0) (by simp [results, Tryz.results29, go_sem]) rfl ⟨_, rfl, owns_nil (α := Cell) (enc := Cell.cells), by (exact kpt)⟩
  | some ad =>
    have HO := Lib.hid (owns_made (α := Cell) (enc := Cell.cells) (base := w.heap.size) (k := 7) (n := w.heap.size) (e := 37) (w := w) rfl (Nat.le_refl _))
    have hs0 : ∀ w, (binOp .eql 22 (.slice (some ad) xs.length cap) (.slice none 0 0)).run Tryz.prog w = .ok (.bool false) w := fun w => Lib.run_eql_slice_nil w _ _ _ _ _ _ _ Tryz.underlying22
    go_enter Tryz.func29, Tryz.ntmps29
    go_wp2_with (at_builtin; obtain ⟨i0, hi, hz0, hz1, hz2⟩ := info_parts infoCell; refine wpList_append_list (enc := Cell.cells) rfl _ _ 22 rfl w.heap.size 37 i0 (.agg #[.int .i64 0, .int .i64 0, .int .i64 0, .int .i64 0, .int .i64 0, .int .i64 0, .int .i64 0]) 7 56 Tryz.underlying22 hi hz0 hz1 hz2 rfl (by decide) cells_len (fun x u hu => by simp [Cell.cells] at hu; rcases hu with rfl | rfl | rfl | rfl | rfl | rfl | rfl <;> rfl) _ [] rfl HO.out (some ad) cap xs rfl (by simp) (B := w.heap.size) (hx.keep (by (exact kpt)) (Nat.le_refl _)) (by simp [maxLen]; omega) (by simp; omega) (by simp) ?_; intro v' w9 hown' hgrow; clear hi hz0 hz1 hz2)
    have hk : Kept w w9 := Kept.grown (Kept.alloc (Below.refl _ _) _) HO.out (Nat.le_refl _) hgrow
    rw [List.nil_append] at hown'
    obtain ⟨ad', cp, rfl, _⟩ := owns_row (enc := Cell.cells) (k := 7) cells_len hown'
    exact bodyPost_ret (v := .slice ad' xs.length cp) (by simp [results, Tryz.results29, go_sem]) rfl ⟨_, rfl, hown', hk⟩

theorem f_Check1 (x : Par) (w : World) : Calls Tryz.prog 54 #[.agg #[.int .i64 x.h, .int .i64 x.a]] w fun e w' => e = .returned (.bool (!parB x)) ∧ Kept w w' := by
  go_enter Tryz.func54, Tryz.ntmps54
  go_wp2_with (go_at_call 28; (with_reducible refine (f_ranged2 _ _ _ _ _ _ _ (by simp)).mono ?_); rintro e w1 ⟨rfl, rfl⟩)
  go_ret
  exact ⟨rfl, by (exact kpt)⟩

def IdxPost (xs : List Par) (w : World) (e : Ending) (w' : World) : Prop := ∃ r : Int, e = .returned (.int .i64 r) ∧ (0 ≤ r ↔ xs.all parB = false) ∧ Kept w w'
theorem s_IndexFunc (a : Option Addr) (cap : Nat) (xs : List Par) (w : World) (hx : Row Par.cells 2 w.heap.size w a xs) (hn : xs.length ≤ 100) :
    Calls Tryz.prog 84 #[.slice a xs.length cap, .func (.func 54) #[] #[]] w (IdxPost xs w) := by
  go_enter Tryz.func84, Tryz.ntmps84
  go_wp2
  go_loopw [8] (fun i wr => ∃ k : Nat, k ≤ xs.length ∧ i = .int .i64 k ∧ (xs.take k).all parB = true ∧ Kept w wr) (fun i _ => xs.length - (intOf i).toNat)
  case atStart => exact ⟨0, Nat.zero_le _, rfl, by simp, Below.refl _ _⟩
  case round =>
    obtain ⟨k, hk, rfl, ha', hkk⟩ := hrel
    have ha := Lib.hid ha'
    clear ha'
    by_cases hlt : k < xs.length
    · obtain ⟨b, off, rfl, hbl, h0, h1⟩ := Par.row (hx.later hkk (Nat.le_refl _)) k hlt
      have hbad : parB xs[k] = false → xs.all parB = false := fun hv => by
        rw [Bool.eq_false_iff]
        intro h
        rw [List.all_eq_true.1 h _ (List.getElem_mem hlt)] at hv
        cases hv
      have HB := Lib.hid hbad
      have HT := Lib.hid (fun hv : parB xs[k] = true => take_all hlt ha.out hv)
      clear hbad
      obtain ⟨x, hx0⟩ : ∃ x, x = xs[k] := ⟨_, rfl⟩
      rw [← hx0] at h0 h1 HB HT
      clear hx0
      have k0 : (0 : Int) ≤ (k : Int) := by omega
      have k1 : (k : Int) < (xs.length : Int) := by omega
      cases hv : parB x
      · have HV := Lib.hid hv
        clear hv
        go_wp2_with ((go_at_call 54; (with_reducible refine (f_Check1 x _).mono ?_); rintro e w1 ⟨rfl, hb1⟩; obtain ⟨hc1, hf1, hl1⟩ := bcell3 hb1); rw [HV.out]; simp only [Bool.not_false, Bool.not_true])
        go_ret
        exact ⟨k, rfl, ⟨fun _ => HB.out HV.out, fun _ => by omega⟩, by (exact kpt)⟩
      · have HV := Lib.hid hv
        clear hv
        go_wp2_with ((go_at_call 54; (with_reducible refine (f_Check1 x _).mono ?_); rintro e w1 ⟨rfl, hb1⟩; obtain ⟨hc1, hf1, hl1⟩ := bcell3 hb1); rw [HV.out]; simp only [Bool.not_false, Bool.not_true])
        go_roundw
        case rel => exact ⟨k + 1, by omega, by go_num, HT.out HV.out, by (exact kpt)⟩
        case measure => simp [intOf]; omega
    · obtain rfl : k = xs.length := by omega
      go_wp2
      go_ret
      refine ⟨-1, rfl, ⟨fun h => by omega, fun h => ?_⟩, hkk⟩
      have := ha.out
      rw [List.take_length, h] at this
      cases this

theorem s_ContainsFunc (a : Option Addr) (cap : Nat) (xs : List Par) (w : World) (hx : Row Par.cells 2 w.heap.size w a xs) (hn : xs.length ≤ 100) :
    Calls Tryz.prog 53 #[.slice a xs.length cap, .func (.func 54) #[] #[]] w fun e w' => e = .returned (.bool (!xs.all parB)) ∧ Kept w w' := by
  obtain ⟨b, hb⟩ : ∃ b, b = xs.all parB := ⟨_, rfl⟩
  have HB := Lib.hid hb
  rw [← hb]
  clear hb
  go_enter Tryz.func53, Tryz.ntmps53
  go_wp2_with ((go_at_call 84; (with_reducible refine (s_IndexFunc a cap xs _ hx hn).mono ?_); rintro e w1 ⟨r, rfl, hr, hb1⟩); have HR := Lib.hid hr; clear hr)
  all_goals
    go_ret
    refine ⟨ret_bool ?_, by (exact kpt)⟩
    have := HR.out
    rw [← HB.out] at this
    cases b <;> simp at this ⊢ <;> omega

end Go.Proofs.YtamnnjdfjffhlaaGreatDoor

/-
  Plants: a share taken out of a cell.
-/
namespace Go.Proofs.YtamnnjdfjffhlaaGreatDoor
open Go.RowKit Bal Bal.Trim Bal.Gas
set_option linter.unusedVariables false
set_option linter.unusedSimpArgs false
set_option maxHeartbeats 4000000
set_option maxRecDepth 10000

theorem i64_inx {n : Int} (h : -9223372036854775808 ≤ n ∧ n ≤ 9223372036854775807) : IntKind.i64.wrap n = n := by rw [IntKind.wrap_i64]; have := w64_in n h; unfold wrap64 at this; omega
theorem f_out_none {B cp g : Nat} {xs : List Cell} {w : World} (h : Mine 37 B w (.slice (some ⟨g, 0, none⟩) xs.length cp) xs) {i : Nat} (hi : i < xs.length) (hc : okC xs[i]) (n : Int) (h1 : xs[i].helium + xs[i].air < n) :
    Calls Tryz.prog 58 #[.pointer (some ⟨g, i * 7, none⟩), .int .i64 n] w fun e w' => e = .panicked [{ v := refusal 6, recovered := false }] ∧ Kept w w' := by
  obtain ⟨u1, u2⟩ := hc
  obtain ⟨x, hx⟩ : ∃ x, x = xs[i] := ⟨_, rfl⟩
  rw [← hx] at h1 u1 u2
  have hlt : decide (n ≤ x.helium + x.air) = false := by simp; omega
  have hw := i64_inx (n := x.helium + x.air) (by omega)
  go_enter Tryz.func58, Tryz.ntmps58
  go_upto_region 1 with fail
  refine at_world (S := fun W => Kept w W) (by (exact kpt)) ?_
  rintro W hk
  obtain ⟨g', cur, he, hB, hb, c0, c1, c2, c3, c4, c5, c6⟩ := (h.keep hk).at hi
  cases he
  rw [← hx] at c0 c1 c2 c3 c4 c5 c6
  clear hx
  have x1 := fun q : Later W => q.some c1
  have x2 := fun q : Later W => q.some c2
  clear c0 c1 c2 c3 c4 c5 c6
  refine Later.tail 11 (by kernel_rfl) (by kernel_rfl) ?_
  simp only [List.take_succ_cons, List.take_zero, List.drop_succ_cons, List.drop_zero]
  repeat (first | go_big_quiet_skip | (go_big_quiet_want; go_big_quiet_op; first | go_big_quiet_on | (apply Exists.intro; refine ⟨fun g => ?_, ?_⟩; (focus (first | fail)); go_big_quiet_on)))
  refine wpQuiet_nil ?_
  intro gg
  refine wpList_plain rfl fun K1 hK1 => ?_
  have hkg := Kept.drop hk gg.ok
  go_wp2_with (go_at_call 27; (with_reducible refine (f_need_no _ _).mono ?_); rintro e w1 ⟨rfl, rfl⟩)
  exact ⟨rfl, rfl, hkg⟩
theorem f_out_ok {B cp g : Nat} {xs : List Cell} {w : World} (h : Mine 37 B w (.slice (some ⟨g, 0, none⟩) xs.length cp) xs) {i : Nat} (hi : i < xs.length) (hc : okC xs[i]) (n : Int) (h0 : 1 ≤ n) (h1 : n ≤ xs[i].helium + xs[i].air) :
    Calls Tryz.prog 58 #[.pointer (some ⟨g, i * 7, none⟩), .int .i64 n] w fun e w' => e = .returned (.agg #[.int .i64 (shareH xs[i] n), .int .i64 (n - shareH xs[i] n)]) ∧
      Mine 37 B w' (.slice (some ⟨g, 0, none⟩) xs.length cp) (xs.set i (less xs[i] n)) ∧ Below B w w' ∧ Besides 37 w w' := by
  obtain ⟨s0, s1, s2, s3⟩ := share_bd hc (show 0 ≤ n by omega) h1
  obtain ⟨u1, u2⟩ := hc
  have HX := Lib.hid (show xs[i]? = some xs[i] by simp [hi])
  obtain ⟨x, hx⟩ : ∃ x, x = xs[i] := ⟨_, rfl⟩
  rw [← hx] at h1 u1 u2 s0 s1 s2 s3 HX ⊢
  have hlt : decide (n ≤ x.helium + x.air) = true := by simp; omega
  have hw := i64_inx (n := x.helium + x.air) (by omega)
  have m1 : 0 ≤ n * x.helium := Int.mul_nonneg (by omega) u1.1
  have m2 := (mul_bd (A := 20000000) (B := 10000000) (x := n) (y := x.helium) (by omega) (by omega) (by omega) (by omega)).2
  have hw2 := i64_inx (n := n * x.helium) (by omega)
  have hd : 0 < x.helium + x.air := by omega
  obtain ⟨S, hS⟩ : ∃ S, S = shareH x n := ⟨_, rfl⟩
  have HS := Lib.hid (show n * x.helium / (x.helium + x.air) = S by rw [hS]; rfl)
  have HL : Hid (less x n = { x with helium := x.helium - S, air := x.air - (n - S) }) := by rw [hS]; exact rfl
  rw [← hS] at s0 s1 s2 s3 ⊢
  clear hS
  go_enter Tryz.func58, Tryz.ntmps58
  go_upto_region 1 with fail
  refine at_world (S := fun W => Blk W w.heap.size #[.int .i64 0, .int .i64 0] 24 ∧ Kept w W) ⟨by (exact blkc), by (exact kpt)⟩ ?_
  rintro W ⟨r0, hk⟩
  obtain ⟨g', cur, he, hB, hb, c0, c1, c2, c3, c4, c5, c6⟩ := (h.keep hk).at hi
  cases he
  rw [← hx] at c0 c1 c2 c3 c4 c5 c6
  clear hx
  have x1 := fun q : Later W => q.some c1
  have x2 := fun q : Later W => q.some c2
  clear c0 c1 c2 c3 c4 c5 c6
  refine Later.tail 11 (by kernel_rfl) (by kernel_rfl) ?_
  simp only [List.take_succ_cons, List.take_zero, List.drop_succ_cons, List.drop_zero]
  repeat (first | go_big_quiet_skip | (go_big_quiet_want; go_big_quiet_op; first | go_big_quiet_on | (apply Exists.intro; refine ⟨fun g => ?_, ?_⟩; (focus (first | fail)); go_big_quiet_on)))
  refine wpQuiet_nil ?_
  intro gg
  refine wpList_plain rfl fun K1 hK1 => ?_
  have hkg := Kept.drop hk gg.ok
  have x3 := x1 gg
  have x4 := x2 gg
  go_wp2_with (go_at_call 27; (with_reducible refine (f_need_ok _ _).mono ?_); rintro e w1 ⟨rfl, rfl⟩)
  have y1 := fun q : Later gg.val => q.some x3
  have y2 := fun q : Later gg.val => q.some x4
  have hnz : ((x.helium + x.air) == 0) = false := by simp; omega
  have hnz2 : ¬ (x.helium + x.air) = 0 := by omega
  refine Later.region (by kernel_rfl) (by kernel_rfl) ?_
  repeat (first | go_big_quiet_skip | (go_big_quiet_want; go_big_quiet_op; first | go_big_quiet_on | (apply Exists.intro; refine ⟨fun g => ?_, ?_⟩; (focus (first | fail)); go_big_quiet_on)))
  refine wpQuiet_nil ?_
  intro gh
  rw [HS.out]
  have z1 := y1 gh
  have z2 := y2 gh
  obtain ⟨g0, cur0, he0, hB0, hb0, _⟩ := h.at hi
  cases he0
  have hgl := hb0.lt
  have hne : ¬ g = w.heap.size := by omega
  have hne' : ¬ w.heap.size = g := by omega
  have hbh : Blk gh.val g cur 37 := (hb.later gg).later gh
  have hf1 := hbh.free (i * 7 + 1)
  have hf2 := hbh.free (i * 7 + 2)
  have r1 : Blk gh.val w.heap.size #[.int .i64 0, .int .i64 0] 24 := (r0.later gg).later gh
  have r1c0 := r1.cell 0
  have r1f0 := r1.free 0
  have r1c1 := r1.cell 1
  have r1f1 := r1.free 1
  have r1l := r1.lt
  simp at r1c0 r1c1
  have hkh : Kept w gh.val := Kept.drop (Kept.drop hk gg.ok) gh.ok
  clear x1 x2 x3 x4 y1 y2 hw hw2 hlt hnz hnz2 m1 m2 hd
  go_wp2
  refine bodyPost_ret (v := .agg #[.int .i64 S, .int .i64 (n - S)]) (by simp [results, Tryz.results58, go_sem, r1c0, r1c1, r1f0, r1f1, hne, hne']) rfl ⟨rfl, ?_, ?_, ?_⟩
  · have q1 := (h.keep hkh).put (j := 1) { x with helium := x.helium - S } HX.out (by decide) (u := .int .i64 (x.helium - S)) rfl
    have q2 := q1.put (i := i) (j := 2) (c := { x with helium := x.helium - S }) { x with helium := x.helium - S, air := x.air - (n - S) } (by simp [hi]) (by decide) (u := .int .i64 (x.air - (n - S))) rfl
    rw [List.set_set] at q2
    rw [HL.out]
    have b1 := (r1.other (a := ⟨g, i * 7 + 1, none⟩) hne (.int .i64 (x.helium - S))).other (a := ⟨g, i * 7 + 2, none⟩) hne (.int .i64 (x.air - (n - S)))
    have b2 := b1.set 0 (.int .i64 S)
    exact (q2.other b1 (by decide) _).other b2 (by decide) _
  · exact ((((hkh.mono (by omega)).setCell (show B ≤ g from hB) _).setCell (show B ≤ g from hB) _).setCell (show B ≤ w.heap.size by omega) _).setCell (show B ≤ w.heap.size by omega) _
  · have q1 := (Besides.keep (T := 37) hkh).trans (Besides.put hbh (o := i * 7 + 1) (.int .i64 (x.helium - S)))
    have q2 := q1.trans (Besides.put (hbh.set (i * 7 + 1) (.int .i64 (x.helium - S))) (o := i * 7 + 2) (.int .i64 (x.air - (n - S))))
    exact (q2.past (Nat.le_refl _) _).past (Nat.le_refl _) _

end Go.Proofs.YtamnnjdfjffhlaaGreatDoor

/-
  Plants: whether one is valid, in the program.
-/
namespace Go.Proofs.YtamnnjdfjffhlaaGreatDoor
open Go.RowKit Bal Bal.Trim Bal.Gas
set_option linter.unusedVariables false
set_option linter.unusedSimpArgs false
set_option maxHeartbeats 4000000
set_option maxRecDepth 10000

theorem Row.drop {α : Type} {enc : α → List Value} {k B : Nat} {w : World} {b off : Nat} {xs : List α} (h : Row enc k B w (some ⟨b, off, none⟩) xs) (j : Nat) {o : Nat} (ho : o = off + j * k) : Row enc k B w (some ⟨b, o, none⟩) (xs.drop j) := by
  subst ho
  intro i x hx
  rw [List.getElem?_drop] at hx
  obtain ⟨b', off', ha, hb, hc⟩ := h _ x hx
  simp only [Option.some.injEq, Addr.mk.injEq, and_true] at ha
  obtain ⟨rfl, rfl⟩ := ha
  refine ⟨b, off + j * k, rfl, hb, fun q v hq => ?_⟩
  have := hc q v hq
  rw [Nat.add_mul] at this
  rw [show off + j * k + i * k + q = off + (j * k + i * k) + q by omega]
  exact this
theorem sum_take {xs : List Cell} (h : (xs.all cellB) = true) (hn : xs.length ≤ 12) (k : Nat) : (0 ≤ sumH (xs.take k) ∧ sumH (xs.take k) ≤ 120000000) ∧ 0 ≤ sumA (xs.take k) ∧ sumA (xs.take k) ≤ 120000000 := by
  have hv : ∀ c ∈ xs.take k, cellB c = true := fun c hc => List.all_eq_true.1 h c (List.mem_of_mem_take hc)
  have hl : (xs.take k).length ≤ 12 := by rw [List.length_take]; omega
  have h1 := sumBy_bd Cell.helium 10000000 (xs.take k) fun c hc => by have := (cellB_iff.1 (hv c hc)).2.1; omega
  have h2 := sumBy_bd Cell.air 10000000 (xs.take k) fun c hc => by have := (cellB_iff.1 (hv c hc)).2.2.1; omega
  have h3 := sumBy_nonneg Cell.helium (xs.take k) fun c hc => (cellB_iff.1 (hv c hc)).2.1.1
  have h4 := sumBy_nonneg Cell.air (xs.take k) fun c hc => (cellB_iff.1 (hv c hc)).2.2.1.1
  unfold sumH sumA
  omega
theorem sum_some {xs : List Cell} {k : Nat} (h : (xs.take k).all cellB = true) (hn : xs.length ≤ 12) : (0 ≤ sumH (xs.take k) ∧ sumH (xs.take k) ≤ 120000000) ∧ 0 ≤ sumA (xs.take k) ∧ sumA (xs.take k) ≤ 120000000 := by
  have := sum_take h (by rw [List.length_take]; omega) k
  simpa [List.take_take] using this
theorem plantE_bad {p : Plant} (h : plantB p = false) : plantE p = 32 := by unfold plantE; rw [h]; rfl
theorem plantE_ok {p : Plant} (h : plantB p = true) : plantE p = 0 := by unfold plantE; rw [h]; rfl
theorem books_all (p : Plant) : (books p).all parB = (booksB p.inH p.inA && booksB p.vH p.vA && booksB p.lH p.lA && booksB p.pH p.pA) := by
  simp [books, parB, Bool.and_assoc]

theorem s_Contains4 (p : Plant) (m : Nat) (W : World) (h : Blk W m #[.int .i64 p.inH, .int .i64 p.inA, .int .i64 p.vH, .int .i64 p.vA, .int .i64 p.lH, .int .i64 p.lA, .int .i64 p.pH, .int .i64 p.pA] 24) :
    Calls Tryz.prog 53 #[.slice (some ⟨m, 0, none⟩) 4 4, .func (.func 54) #[] #[]] W fun e w' => e = .returned (.bool (!(books p).all parB)) ∧ Kept W w' :=
  s_ContainsFunc (some ⟨m, 0, none⟩) 4 (books p) W (Row.block (fun _ => rfl) h rfl) (by show 4 ≤ 100; decide)

theorem f_Check_early (p : Plant) (a : Option Addr) (cap : Nat) (w : World) (hx : Row Cell.cells 7 w.heap.size w a p.cells) (hc : p.cells.length ≤ cap) (hM : cap ≤ maxLen) (h : ¬ (p.cells.length ≤ 12 ∧ inB p.bottles 0 10000000 = true ∧ (books p).all parB = true)) :
    Calls Tryz.prog 18 #[.agg #[.slice a p.cells.length cap, .int .i64 p.bottles, .int .i64 p.inH, .int .i64 p.inA, .int .i64 p.vH, .int .i64 p.vA, .int .i64 p.lH, .int .i64 p.lA, .int .i64 p.pH, .int .i64 p.pA]] w fun e w' => e = .returned (.int .i64 32) ∧ Kept w w' := by
  unfold maxLen at hM
  by_cases h1 : 12 < p.cells.length
  · clear h
    go_enter Tryz.func18, Tryz.ntmps18
    go_wp2
    go_ret
    exact ⟨rfl, by (exact kpt)⟩
  · have h1' : p.cells.length ≤ 12 := by omega
    cases h2 : inB p.bottles 0 10000000
    · have H2 := Lib.hid (show rng [p.bottles] 0 10000000 = false by simpa [rng] using h2)
      clear h h2
      go_enter Tryz.func18, Tryz.ntmps18
      go_wp2_with (first | (go_at_call 28; (with_reducible refine (f_ranged1 _ _ p.bottles _ _ _ (by simp)).mono ?_); rw [H2.out]; rintro e w1 ⟨rfl, rfl⟩) | fail)
      go_ret
      exact ⟨rfl, by (exact kpt)⟩
    · cases h3 : (books p).all parB
      · have H2 := Lib.hid (show rng [p.bottles] 0 10000000 = true by simpa [rng] using h2)
        have H3 := Lib.hid h3
        clear h h2 h3
        go_enter Tryz.func18, Tryz.ntmps18
        go_wp2_with (first | (go_at_call 28; (with_reducible refine (f_ranged1 _ _ p.bottles _ _ _ (by simp)).mono ?_); rw [H2.out]; rintro e w1 ⟨rfl, rfl⟩) | (go_at_call 53; (with_reducible refine (s_Contains4 p _ _ ?_).mono ?_); (focus (exact blkc)); rw [H3.out]; rintro e w1 ⟨rfl, hb1⟩; obtain ⟨hc1, hf1, hl1⟩ := bcell3 hb1))
        go_ret
        exact ⟨rfl, by (exact kpt)⟩
      · exact absurd ⟨h1', h2, h3⟩ h

theorem books3_bd {p : Plant} (h : (books p).all parB = true) (k : Nat) : (0 ≤ sumBy Par.h ((books3 p).take k) ∧ sumBy Par.h ((books3 p).take k) ≤ 3000000000000) ∧ 0 ≤ sumBy Par.a ((books3 p).take k) ∧ sumBy Par.a ((books3 p).take k) ≤ 3000000000000 := by
  have hv : ∀ c ∈ (books3 p).take k, parB c = true := fun c hc => List.all_eq_true.1 h c (List.mem_cons_of_mem _ (List.mem_of_mem_take hc))
  have hl : ((books3 p).take k).length ≤ 3 := by rw [List.length_take]; show min k 3 ≤ 3; omega
  have h1 := sumBy_bd Par.h 1000000000000 ((books3 p).take k) fun c hc => by have := booksB_iff.1 (hv c hc); omega
  have h2 := sumBy_bd Par.a 1000000000000 ((books3 p).take k) fun c hc => by have := booksB_iff.1 (hv c hc); omega
  have h3 := sumBy_nonneg Par.h ((books3 p).take k) fun c hc => (booksB_iff.1 (hv c hc)).1.1
  have h4 := sumBy_nonneg Par.a ((books3 p).take k) fun c hc => (booksB_iff.1 (hv c hc)).2.1
  omega
set_option maxHeartbeats 8000000 in
theorem f_Check_late (p : Plant) (a : Option Addr) (cap : Nat) (w : World) (hx : Row Cell.cells 7 w.heap.size w a p.cells) (hc : p.cells.length ≤ cap) (hM : cap ≤ maxLen) (h1 : p.cells.length ≤ 12) (h2 : inB p.bottles 0 10000000 = true) (h3 : (books p).all parB = true) :
    Calls Tryz.prog 18 #[.agg #[.slice a p.cells.length cap, .int .i64 p.bottles, .int .i64 p.inH, .int .i64 p.inA, .int .i64 p.vH, .int .i64 p.vA, .int .i64 p.lH, .int .i64 p.lA, .int .i64 p.pH, .int .i64 p.pA]] w fun e w' => e = .returned (.int .i64 (plantE p)) ∧ Kept w w' := by
  unfold maxLen at hM
  have hbd := Lib.hid (fun k => books3_bd h3 k)
  have hbt := inB_iff.1 h2
  have H2 := Lib.hid (show rng [p.bottles] 0 10000000 = true by simpa [rng] using h2)
  have H3 := Lib.hid h3
  clear h2 h3
  go_enter Tryz.func18, Tryz.ntmps18
  go_upto_region 5 with (first | (go_at_call 28; (with_reducible refine (f_ranged1 _ _ p.bottles _ _ _ (by simp)).mono ?_); rw [H2.out]; rintro e w1 ⟨rfl, rfl⟩) | (go_at_call 53; (with_reducible refine (s_Contains4 p _ _ ?_).mono ?_); (focus (exact blkc)); rw [H3.out]; rintro e w1 ⟨rfl, hb1⟩; obtain ⟨hc1, hf1, hl1⟩ := bcell3 hb1))
  refine at_world (S := fun W => Blk W w.heap.size #[.slice a p.cells.length cap, .int .i64 p.bottles, .int .i64 p.inH, .int .i64 p.inA, .int .i64 p.vH, .int .i64 p.vA, .int .i64 p.lH, .int .i64 p.lA, .int .i64 p.pH, .int .i64 p.pA] 26 ∧ Blk W (w.heap.size + 1) #[.int .i64 p.inH, .int .i64 p.inA, .int .i64 p.vH, .int .i64 p.vA, .int .i64 p.lH, .int .i64 p.lA, .int .i64 p.pH, .int .i64 p.pA] 24 ∧ Blk W w1.heap.size #[.int .i64 p.bottles, .int .i64 0] 24 ∧ Kept w W) ⟨by (exact blkc), by (exact blkc), by (exact blkc), by (exact kpt)⟩ ?_
  have hz : w.heap.size + 1 < w1.heap.size := by have := Below.size hb1; simp at this; omega
  clear hc1 hf1 hl1 hb1
  rintro W ⟨r0, r1, r2, hk⟩
  obtain ⟨m, hm⟩ : ∃ m, m = w1.heap.size := ⟨_, rfl⟩
  rw [← hm] at r2 hz ⊢
  clear hm
  have r0c0 := r0.cell 0
  have r0f0 := r0.free 0
  have r0c1 := r0.cell 1
  have r0f1 := r0.free 1
  have r0c2 := r0.cell 2
  have r0f2 := r0.free 2
  have r0c3 := r0.cell 3
  have r0f3 := r0.free 3
  have r0c4 := r0.cell 4
  have r0f4 := r0.free 4
  have r0c5 := r0.cell 5
  have r0f5 := r0.free 5
  have r0c6 := r0.cell 6
  have r0f6 := r0.free 6
  have r0c7 := r0.cell 7
  have r0f7 := r0.free 7
  have r0c8 := r0.cell 8
  have r0f8 := r0.free 8
  have r0c9 := r0.cell 9
  have r0f9 := r0.free 9
  have r0l := r0.lt
  simp at r0c0 r0c1 r0c2 r0c3 r0c4 r0c5 r0c6 r0c7 r0c8 r0c9
  have r1c0 := r1.cell 0
  have r1f0 := r1.free 0
  have r1c1 := r1.cell 1
  have r1f1 := r1.free 1
  have r1c2 := r1.cell 2
  have r1f2 := r1.free 2
  have r1c3 := r1.cell 3
  have r1f3 := r1.free 3
  have r1c4 := r1.cell 4
  have r1f4 := r1.free 4
  have r1c5 := r1.cell 5
  have r1f5 := r1.free 5
  have r1c6 := r1.cell 6
  have r1f6 := r1.free 6
  have r1c7 := r1.cell 7
  have r1f7 := r1.free 7
  have r1l := r1.lt
  simp at r1c0 r1c1 r1c2 r1c3 r1c4 r1c5 r1c6 r1c7
  have r2c0 := r2.cell 0
  have r2f0 := r2.free 0
  have r2c1 := r2.cell 1
  have r2f1 := r2.free 1
  have r2l := r2.lt
  simp at r2c0 r2c1
  go_wp2
  go_loopw [39] (fun i wr => ∃ k : Nat, k ≤ 3 ∧ i = .int .i64 k ∧ Blk wr w.heap.size #[.slice a p.cells.length cap, .int .i64 p.bottles, .int .i64 p.inH, .int .i64 p.inA, .int .i64 p.vH, .int .i64 p.vA, .int .i64 p.lH, .int .i64 p.lA, .int .i64 p.pH, .int .i64 p.pA] 26 ∧ Blk wr (w.heap.size + 1) #[.int .i64 p.inH, .int .i64 p.inA, .int .i64 p.vH, .int .i64 p.vA, .int .i64 p.lH, .int .i64 p.lA, .int .i64 p.pH, .int .i64 p.pA] 24 ∧ Blk wr m #[.int .i64 (p.bottles + sumBy Par.h ((books3 p).take k)), .int .i64 (sumBy Par.a ((books3 p).take k))] 24 ∧ Kept w wr) (fun i _ => 3 - (intOf i).toNat)
  case atStart => exact ⟨0, by omega, rfl, r0, r1, by simpa using r2, hk⟩
  case round =>
    clear r0c0 r0f0 r0c1 r0f1 r0c2 r0f2 r0c3 r0f3 r0c4 r0f4 r0c5 r0f5 r0c6 r0f6 r0c7 r0f7 r0c8 r0f8 r0c9 r0f9 r1c0 r1f0 r1c1 r1f1 r1c2 r1f2 r1c3 r1f3 r1c4 r1f4 r1c5 r1f5 r1c6 r1f6 r1c7 r1f7 r2c0 r2f0 r2c1 r2f1 r0l r1l r2l r0 r1 r2 hk
    obtain ⟨k, hk3, rfl, r0, r1, r2, hk⟩ := hrel
    by_cases hlt : k < 3
    · have hr3 : Row Par.cells 2 wr.heap.size wr (some ⟨w.heap.size + 1, 2, none⟩) (books3 p) := Row.drop (Row.block (enc := Par.cells) (k := 2) (xs := books p) (fun _ => rfl) r1 rfl) 1 rfl
      obtain ⟨b, off, he, _, h0, h1⟩ := Par.row hr3 k hlt
      cases he
      have hs1 := sumBy_take Par.h (books3 p) k hlt
      have hs2 := sumBy_take Par.a (books3 p) k hlt
      have q1 := hbd.out k
      obtain ⟨x, hx0⟩ : ∃ x, x = (books3 p)[k] := ⟨_, rfl⟩
      have q2 := hbd.out (k + 1)
      rw [hs1, hs2] at q2
      rw [← hx0] at h0 h1 hs1 hs2 q2
      obtain ⟨sh, hsh⟩ : ∃ y, y = sumBy Par.h ((books3 p).take k) := ⟨_, rfl⟩
      obtain ⟨sa, hsa⟩ : ∃ y, y = sumBy Par.a ((books3 p).take k) := ⟨_, rfl⟩
      rw [← hsh] at hs1 q1 q2 r2
      rw [← hsa] at hs2 q1 q2 r2
      have HS1 := Lib.hid hs1
      have HS2 := Lib.hid hs2
      have hxb := booksB_iff.1 (List.all_eq_true.1 H3.out x (by rw [hx0]; exact List.mem_cons_of_mem _ (List.getElem_mem hlt)))
      clear hs1 hs2 hx0 hsh hsa hr3
      have k0 : (0 : Int) ≤ (k : Int) := by omega
      have k1 : (k : Int) < 3 := by omega
      have r2c0 := r2.cell 0
      have r2f0 := r2.free 0
      have r2c1 := r2.cell 1
      have r2f1 := r2.free 1
      have r2l := r2.lt
      simp at r2c0 r2c1
      go_wp2_with (first | (go_at_call 55; (with_reducible refine (f_plus _ _ _ _ _ (by omega) (by omega) (by omega) (by omega)).mono ?_); rintro e w2 ⟨rfl, hb2⟩; obtain ⟨hc2, hf2, hl2⟩ := bcell3 hb2))
      go_roundw
      case rel => exact ⟨k + 1, by omega, by go_num, by (exact blkc), by (exact blkc), by rw [HS1.out, HS2.out]; (refine Blk.cast (arr := ?_) ?_ ?_; rotate_left 1; (focus (exact blk)); (first | rfl | (simp; done) | (simp; omega))), by (exact kpt)⟩
      case measure => simp [intOf]; omega
    · have hke : k = 3 := by omega
      rw [hke] at r2
      have hki : (k : Int) = 3 := by omega
      rw [hki]
      clear hki hke hlt hk3
      have q := hbd.out 3
      have e1 : p.bottles + sumBy Par.h ((books3 p).take 3) = p.bottles + (p.vH + p.lH + p.pH) := by simp [books3, sumBy]; omega
      have e2 : sumBy Par.a ((books3 p).take 3) = p.vA + p.lA + p.pA := by simp [books3, sumBy]; omega
      have hv := List.all_eq_true.1 H3.out
      have hi := booksB_iff.1 (hv ⟨p.inH, p.inA⟩ (by simp [books]))
      simp only at hi
      have qh : 0 ≤ p.bottles + (p.vH + p.lH + p.pH) ∧ p.bottles + (p.vH + p.lH + p.pH) ≤ 4000000000000 := by rw [← e1]; omega
      have qa : 0 ≤ p.vA + p.lA + p.pA ∧ p.vA + p.lA + p.pA ≤ 4000000000000 := by rw [← e2]; omega
      rw [e1, e2] at r2
      clear e1 e2 q hv
      obtain ⟨SH, hSH⟩ : ∃ y, y = p.bottles + (p.vH + p.lH + p.pH) := ⟨_, rfl⟩
      obtain ⟨SA, hSA⟩ : ∃ y, y = p.vA + p.lA + p.pA := ⟨_, rfl⟩
      rw [← hSH] at r2 qh
      rw [← hSA] at r2 qa
      have HSH := Lib.hid hSH
      have HSA := Lib.hid hSA
      clear hSH hSA
      have r0c0 := r0.cell 0
      have r0f0 := r0.free 0
      have r0c1 := r0.cell 1
      have r0f1 := r0.free 1
      have r0c2 := r0.cell 2
      have r0f2 := r0.free 2
      have r0c3 := r0.cell 3
      have r0f3 := r0.free 3
      have r0c4 := r0.cell 4
      have r0f4 := r0.free 4
      have r0c5 := r0.cell 5
      have r0f5 := r0.free 5
      have r0c6 := r0.cell 6
      have r0f6 := r0.free 6
      have r0c7 := r0.cell 7
      have r0f7 := r0.free 7
      have r0c8 := r0.cell 8
      have r0f8 := r0.free 8
      have r0c9 := r0.cell 9
      have r0f9 := r0.free 9
      have r0l := r0.lt
      simp at r0c0 r0c1 r0c2 r0c3 r0c4 r0c5 r0c6 r0c7 r0c8 r0c9
      have r2c0 := r2.cell 0
      have r2f0 := r2.free 0
      have r2c1 := r2.cell 1
      have r2f1 := r2.free 1
      have r2l := r2.lt
      simp at r2c0 r2c1
      go_wp2
      go_loopw [50] (fun i wq => ∃ k : Nat, k ≤ p.cells.length ∧ i = .int .i64 k ∧ (p.cells.take k).all cellB = true ∧ Blk wq w.heap.size #[.slice a p.cells.length cap, .int .i64 p.bottles, .int .i64 p.inH, .int .i64 p.inA, .int .i64 p.vH, .int .i64 p.vA, .int .i64 p.lH, .int .i64 p.lA, .int .i64 p.pH, .int .i64 p.pA] 26 ∧ Blk wq m #[.int .i64 (SH + sumH (p.cells.take k)), .int .i64 (SA + sumA (p.cells.take k))] 24 ∧ Kept w wq) (fun i _ => p.cells.length - (intOf i).toNat)
      case atStart => exact ⟨0, by omega, rfl, by simp, r0, by simpa [sumH, sumA] using r2, hk⟩
      case round =>
        clear r0c0 r0f0 r0c1 r0f1 r0c2 r0f2 r0c3 r0f3 r0c4 r0f4 r0c5 r0f5 r0c6 r0f6 r0c7 r0f7 r0c8 r0f8 r0c9 r0f9 r2c0 r2f0 r2c1 r2f1 r0l r2l r0 r2 hk
        obtain ⟨k, hkn, rfl, hal, r0, r2, hk⟩ := hrel
        have hsb := sum_some hal h1
        have HAL := Lib.hid hal
        clear hal
        by_cases hlt : k < p.cells.length
        · obtain ⟨b, off, rfl, _, c0, c1, c2, c3, c4, c5, c6⟩ := Cell.row (hx.later hk (Nat.le_refl _)) k hlt
          have hs1 := sumBy_take Cell.helium p.cells k hlt
          have hs2 := sumBy_take Cell.air p.cells k hlt
          have HT := Lib.hid (fun hv : cellB p.cells[k] = true => take_all hlt HAL.out hv)
          have HBAD := Lib.hid (fun hv : cellB p.cells[k] = false => show plantB p = false by
            rw [Bool.eq_false_iff]
            intro hp
            rw [(plantB_iff.1 hp).2.2.2.2.2.2.1 _ (List.getElem_mem hlt)] at hv
            cases hv)
          obtain ⟨x, hx0⟩ : ∃ x, x = p.cells[k] := ⟨_, rfl⟩
          rw [← hx0] at c0 c1 c2 c3 c4 c5 c6 hs1 hs2 HT HBAD
          clear hx0
          obtain ⟨sh, hsh⟩ : ∃ y, y = sumH (p.cells.take k) := ⟨_, rfl⟩
          obtain ⟨sa, hsa⟩ : ∃ y, y = sumA (p.cells.take k) := ⟨_, rfl⟩
          rw [← hsh, ← hsa] at hsb r2
          have HS1 := Lib.hid (show sumH (p.cells.take (k + 1)) = sh + x.helium by rw [hsh]; exact hs1)
          have HS2 := Lib.hid (show sumA (p.cells.take (k + 1)) = sa + x.air by rw [hsa]; exact hs2)
          clear hs1 hs2 hsh hsa
          have k0 : (0 : Int) ≤ (k : Int) := by omega
          have k1 : (k : Int) < (p.cells.length : Int) := by omega
          have r2c0 := r2.cell 0
          have r2f0 := r2.free 0
          have r2c1 := r2.cell 1
          have r2f1 := r2.free 1
          have r2l := r2.lt
          simp at r2c0 r2c1
          cases hv : cellB x
          · have HC := Lib.hid (show checkCell x = 31 by unfold checkCell; rw [hv]; rfl)
            have HE := Lib.hid (plantE_bad (HBAD.out hv))
            clear hv
            go_wp2_with (first | (go_at_call 56; (with_reducible refine (f_CheckCell x _).mono ?_); rw [HC.out]; rintro e w3 ⟨rfl, hb3⟩; refine Blk.thru (b := w.heap.size) (arr := ?_) (t := ?_) ?_ hb3 ?_; rotate_left 2; (focus (exact blk)); intro p0; have p0c0 := p0.cell 0; have p0f0 := p0.free 0; have p0c1 := p0.cell 1; have p0f1 := p0.free 1; have p0c2 := p0.cell 2; have p0f2 := p0.free 2; have p0c3 := p0.cell 3; have p0f3 := p0.free 3; have p0c4 := p0.cell 4; have p0f4 := p0.free 4; have p0c5 := p0.cell 5; have p0f5 := p0.free 5; have p0c6 := p0.cell 6; have p0f6 := p0.free 6; have p0c7 := p0.cell 7; have p0f7 := p0.free 7; have p0c8 := p0.cell 8; have p0f8 := p0.free 8; have p0c9 := p0.cell 9; have p0f9 := p0.free 9; have p0l := p0.lt; simp at p0c0 p0c1 p0c2 p0c3 p0c4 p0c5 p0c6 p0c7 p0c8 p0c9; refine Blk.thru (b := m) (arr := ?_) (t := ?_) ?_ hb3 ?_; rotate_left 2; (focus (exact blk)); intro p2; have p2c0 := p2.cell 0; have p2f0 := p2.free 0; have p2c1 := p2.cell 1; have p2f1 := p2.free 1; have p2l := p2.lt; simp at p2c0 p2c1; obtain ⟨hc3, hf3, hl3⟩ := bcell3 hb3))
            go_ret
            exact ⟨ret_int HE.out.symm, by (exact kpt)⟩
          · have HC := Lib.hid (show checkCell x = 0 by unfold checkCell; rw [hv]; rfl)
            have hxb := cellB_iff.1 hv
            have HT2 := Lib.hid (HT.out hv)
            clear hv
            go_wp2_with (first | (go_at_call 56; (with_reducible refine (f_CheckCell x _).mono ?_); rw [HC.out]; rintro e w3 ⟨rfl, hb3⟩; refine Blk.thru (b := w.heap.size) (arr := ?_) (t := ?_) ?_ hb3 ?_; rotate_left 2; (focus (exact blk)); intro p0; have p0c0 := p0.cell 0; have p0f0 := p0.free 0; have p0c1 := p0.cell 1; have p0f1 := p0.free 1; have p0c2 := p0.cell 2; have p0f2 := p0.free 2; have p0c3 := p0.cell 3; have p0f3 := p0.free 3; have p0c4 := p0.cell 4; have p0f4 := p0.free 4; have p0c5 := p0.cell 5; have p0f5 := p0.free 5; have p0c6 := p0.cell 6; have p0f6 := p0.free 6; have p0c7 := p0.cell 7; have p0f7 := p0.free 7; have p0c8 := p0.cell 8; have p0f8 := p0.free 8; have p0c9 := p0.cell 9; have p0f9 := p0.free 9; have p0l := p0.lt; simp at p0c0 p0c1 p0c2 p0c3 p0c4 p0c5 p0c6 p0c7 p0c8 p0c9; refine Blk.thru (b := m) (arr := ?_) (t := ?_) ?_ hb3 ?_; rotate_left 2; (focus (exact blk)); intro p2; have p2c0 := p2.cell 0; have p2f0 := p2.free 0; have p2c1 := p2.cell 1; have p2f1 := p2.free 1; have p2l := p2.lt; simp at p2c0 p2c1; obtain ⟨hc3, hf3, hl3⟩ := bcell3 hb3) | (go_at_call 55; (with_reducible refine (f_plus _ _ x.helium x.air _ (by omega) (by omega) (by omega) (by omega)).mono ?_); rintro e w2 ⟨rfl, hb2⟩; obtain ⟨hc2, hf2, hl2⟩ := bcell3 hb2))
            go_roundw
            case rel => exact ⟨k + 1, by omega, by go_num, HT2.out, by (exact blkc), by rw [HS1.out, HS2.out]; (refine Blk.cast (arr := ?_) ?_ ?_; rotate_left 1; (focus (exact blk)); (first | rfl | (simp; done) | (simp; omega))), by (exact kpt)⟩
            case measure => simp [intOf]; omega
        · obtain rfl : k = p.cells.length := by omega
          rw [List.take_length] at hsb r2 HAL
          obtain ⟨sh, hsh⟩ : ∃ y, y = sumH p.cells := ⟨_, rfl⟩
          obtain ⟨sa, hsa⟩ : ∃ y, y = sumA p.cells := ⟨_, rfl⟩
          rw [← hsh, ← hsa] at hsb r2
          have HPB := Lib.hid (show plantB p = (decide (SH + sh = p.inH) && decide (SA + sa = p.inA)) by
            have hb := H3.out
            rw [books_all] at hb
            simp only [Bool.and_eq_true] at hb
            have ht : inB p.bottles 0 10000000 = true := inB_iff.2 hbt
            have e1 : allH p = SH + sh := by rw [HSH.out, hsh]; unfold allH; omega
            have e2 : allA p = SA + sa := by rw [HSA.out, hsa]; unfold allA; rfl
            unfold plantB
            rw [e1, e2, hb.1.1.1, hb.1.1.2, hb.1.2, hb.2, ht, HAL.out]
            simp [h1])
          clear hsh hsa
          have r0c0 := r0.cell 0
          have r0f0 := r0.free 0
          have r0c1 := r0.cell 1
          have r0f1 := r0.free 1
          have r0c2 := r0.cell 2
          have r0f2 := r0.free 2
          have r0c3 := r0.cell 3
          have r0f3 := r0.free 3
          have r0c4 := r0.cell 4
          have r0f4 := r0.free 4
          have r0c5 := r0.cell 5
          have r0f5 := r0.free 5
          have r0c6 := r0.cell 6
          have r0f6 := r0.free 6
          have r0c7 := r0.cell 7
          have r0f7 := r0.free 7
          have r0c8 := r0.cell 8
          have r0f8 := r0.free 8
          have r0c9 := r0.cell 9
          have r0f9 := r0.free 9
          have r0l := r0.lt
          simp at r0c0 r0c1 r0c2 r0c3 r0c4 r0c5 r0c6 r0c7 r0c8 r0c9
          have r2c0 := r2.cell 0
          have r2f0 := r2.free 0
          have r2c1 := r2.cell 1
          have r2f1 := r2.free 1
          have r2l := r2.lt
          simp at r2c0 r2c1
          by_cases d1 : SH + sh = p.inH
          · by_cases d2 : SA + sa = p.inA
            · have HE := Lib.hid (plantE_ok (HPB.out.trans (by simp [d1, d2])))
              go_wp2
              go_ret
              exact ⟨ret_int HE.out.symm, by (exact kpt)⟩
            · have HE := Lib.hid (plantE_bad (HPB.out.trans (by simp [d2])))
              go_wp2
              go_ret
              exact ⟨ret_int HE.out.symm, by (exact kpt)⟩
          · have HE := Lib.hid (plantE_bad (HPB.out.trans (by simp [d1])))
            go_wp2
            go_ret
            exact ⟨ret_int HE.out.symm, by (exact kpt)⟩

theorem f_Check (p : Plant) (a : Option Addr) (cap : Nat) (w : World) (hx : Row Cell.cells 7 w.heap.size w a p.cells) (hc : p.cells.length ≤ cap) (hM : cap ≤ maxLen) :
    Calls Tryz.prog 18 #[.agg #[.slice a p.cells.length cap, .int .i64 p.bottles, .int .i64 p.inH, .int .i64 p.inA, .int .i64 p.vH, .int .i64 p.vA, .int .i64 p.lH, .int .i64 p.lA, .int .i64 p.pH, .int .i64 p.pA]] w fun e w' => e = .returned (.int .i64 (plantE p)) ∧ Kept w w' := by
  by_cases h : p.cells.length ≤ 12 ∧ inB p.bottles 0 10000000 = true ∧ (books p).all parB = true
  · exact f_Check_late p a cap w hx hc hM h.1 h.2.1 h.2.2
  · have he : plantE p = 32 := plantE_bad (by
      rw [Bool.eq_false_iff]
      intro hp
      refine h ?_
      rw [books_all]
      simp only [plantB, Bool.and_eq_true, decide_eq_true_eq] at hp
      obtain ⟨⟨⟨⟨⟨⟨⟨⟨a, b⟩, c⟩, d⟩, e⟩, f⟩, g⟩, _⟩, _⟩ := hp
      exact ⟨a, b, by rw [c, d, e, f]; rfl⟩)
    rw [he]
    exact f_Check_early p a cap w hx hc hM h

end Go.Proofs.YtamnnjdfjffhlaaGreatDoor

/-
  Plants: whether one is valid, in the reference.
-/
namespace Go.Proofs.YtamnnjdfjffhlaaGreatDoor
open Go.RowKit Bal Bal.Trim Bal.Gas
set_option linter.unusedVariables false
set_option linter.unusedSimpArgs false
set_option maxHeartbeats 4000000
set_option maxRecDepth 10000

theorem r_Plant_early (p : Plant) (a : Option Addr) (cap : Nat) (w : World) (hx : Row Cell.cells 7 w.heap.size w a p.cells) (hc : p.cells.length ≤ cap) (hM : cap ≤ maxLen) (h : ¬ (p.cells.length ≤ 12 ∧ inB p.bottles 0 10000000 = true ∧ (books p).all parB = true)) :
    Calls Tryz.prog 14 #[.agg #[.slice a p.cells.length cap, .int .i64 p.bottles, .int .i64 p.inH, .int .i64 p.inA, .int .i64 p.vH, .int .i64 p.vA, .int .i64 p.lH, .int .i64 p.lA, .int .i64 p.pH, .int .i64 p.pA]] w fun e w' => e = .returned (.bool false) ∧ Kept w w' := by
  unfold maxLen at hM
  by_cases h0 : 12 < p.cells.length
  · clear h
    go_enter Tryz.func14, Tryz.ntmps14
    go_wp2
    go_ret
    exact ⟨rfl, by (exact kpt)⟩
  · have h0' : p.cells.length ≤ 12 := by omega
    cases t0 : inB p.bottles 0 10000000
    · have T0 := Lib.hid t0
      clear h t0
      go_enter Tryz.func14, Tryz.ntmps14
      go_wp2_with (first | (go_at_call 39; (with_reducible refine (r_within p.bottles _ _ _).mono ?_); rw [T0.out]; rintro e w1 ⟨rfl, rfl⟩))
      go_ret
      exact ⟨rfl, by (exact kpt)⟩
    · skip
      cases t1 : booksB p.inH p.inA
      · have T0 := Lib.hid t0
        have T1 := Lib.hid t1
        clear h t0 t1
        go_enter Tryz.func14, Tryz.ntmps14
        go_wp2_with (first | (go_at_call 39; (with_reducible refine (r_within p.bottles _ _ _).mono ?_); rw [T0.out]; rintro e w1 ⟨rfl, rfl⟩) | (go_at_call 40; (with_reducible refine (r_counted p.inH p.inA _).mono ?_); rw [T1.out]; rintro e w1 ⟨rfl, hb1⟩; refine Blk.thru (b := w.heap.size) (arr := ?_) (t := ?_) ?_ hb1 ?_; rotate_left 2; (focus (exact blk)); intro p0; have p0c0 := p0.cell 0; have p0f0 := p0.free 0; have p0c1 := p0.cell 1; have p0f1 := p0.free 1; have p0c2 := p0.cell 2; have p0f2 := p0.free 2; have p0c3 := p0.cell 3; have p0f3 := p0.free 3; have p0c4 := p0.cell 4; have p0f4 := p0.free 4; have p0c5 := p0.cell 5; have p0f5 := p0.free 5; have p0c6 := p0.cell 6; have p0f6 := p0.free 6; have p0c7 := p0.cell 7; have p0f7 := p0.free 7; have p0c8 := p0.cell 8; have p0f8 := p0.free 8; have p0c9 := p0.cell 9; have p0f9 := p0.free 9; have p0l := p0.lt; simp at p0c0 p0c1 p0c2 p0c3 p0c4 p0c5 p0c6 p0c7 p0c8 p0c9))
        go_ret
        exact ⟨rfl, by (exact kpt)⟩
      · skip
        cases t2 : booksB p.vH p.vA
        · have T0 := Lib.hid t0
          have T1 := Lib.hid t1
          have T2 := Lib.hid t2
          clear h t0 t1 t2
          go_enter Tryz.func14, Tryz.ntmps14
          go_wp2_with (first | (go_at_call 39; (with_reducible refine (r_within p.bottles _ _ _).mono ?_); rw [T0.out]; rintro e w1 ⟨rfl, rfl⟩) | (go_at_call 40; (with_reducible refine (r_counted p.inH p.inA _).mono ?_); rw [T1.out]; rintro e w1 ⟨rfl, hb1⟩; refine Blk.thru (b := w.heap.size) (arr := ?_) (t := ?_) ?_ hb1 ?_; rotate_left 2; (focus (exact blk)); intro p0; have p0c0 := p0.cell 0; have p0f0 := p0.free 0; have p0c1 := p0.cell 1; have p0f1 := p0.free 1; have p0c2 := p0.cell 2; have p0f2 := p0.free 2; have p0c3 := p0.cell 3; have p0f3 := p0.free 3; have p0c4 := p0.cell 4; have p0f4 := p0.free 4; have p0c5 := p0.cell 5; have p0f5 := p0.free 5; have p0c6 := p0.cell 6; have p0f6 := p0.free 6; have p0c7 := p0.cell 7; have p0f7 := p0.free 7; have p0c8 := p0.cell 8; have p0f8 := p0.free 8; have p0c9 := p0.cell 9; have p0f9 := p0.free 9; have p0l := p0.lt; simp at p0c0 p0c1 p0c2 p0c3 p0c4 p0c5 p0c6 p0c7 p0c8 p0c9) | (go_at_call 40; (with_reducible refine (r_counted p.vH p.vA _).mono ?_); rw [T2.out]; rintro e w1 ⟨rfl, hb1⟩; refine Blk.thru (b := w.heap.size) (arr := ?_) (t := ?_) ?_ hb1 ?_; rotate_left 2; (focus (exact blk)); intro p0; have p0c0 := p0.cell 0; have p0f0 := p0.free 0; have p0c1 := p0.cell 1; have p0f1 := p0.free 1; have p0c2 := p0.cell 2; have p0f2 := p0.free 2; have p0c3 := p0.cell 3; have p0f3 := p0.free 3; have p0c4 := p0.cell 4; have p0f4 := p0.free 4; have p0c5 := p0.cell 5; have p0f5 := p0.free 5; have p0c6 := p0.cell 6; have p0f6 := p0.free 6; have p0c7 := p0.cell 7; have p0f7 := p0.free 7; have p0c8 := p0.cell 8; have p0f8 := p0.free 8; have p0c9 := p0.cell 9; have p0f9 := p0.free 9; have p0l := p0.lt; simp at p0c0 p0c1 p0c2 p0c3 p0c4 p0c5 p0c6 p0c7 p0c8 p0c9))
          go_ret
          exact ⟨rfl, by (exact kpt)⟩
        · skip
          cases t3 : booksB p.lH p.lA
          · have T0 := Lib.hid t0
            have T1 := Lib.hid t1
            have T2 := Lib.hid t2
            have T3 := Lib.hid t3
            clear h t0 t1 t2 t3
            go_enter Tryz.func14, Tryz.ntmps14
            go_wp2_with (first | (go_at_call 39; (with_reducible refine (r_within p.bottles _ _ _).mono ?_); rw [T0.out]; rintro e w1 ⟨rfl, rfl⟩) | (go_at_call 40; (with_reducible refine (r_counted p.inH p.inA _).mono ?_); rw [T1.out]; rintro e w1 ⟨rfl, hb1⟩; refine Blk.thru (b := w.heap.size) (arr := ?_) (t := ?_) ?_ hb1 ?_; rotate_left 2; (focus (exact blk)); intro p0; have p0c0 := p0.cell 0; have p0f0 := p0.free 0; have p0c1 := p0.cell 1; have p0f1 := p0.free 1; have p0c2 := p0.cell 2; have p0f2 := p0.free 2; have p0c3 := p0.cell 3; have p0f3 := p0.free 3; have p0c4 := p0.cell 4; have p0f4 := p0.free 4; have p0c5 := p0.cell 5; have p0f5 := p0.free 5; have p0c6 := p0.cell 6; have p0f6 := p0.free 6; have p0c7 := p0.cell 7; have p0f7 := p0.free 7; have p0c8 := p0.cell 8; have p0f8 := p0.free 8; have p0c9 := p0.cell 9; have p0f9 := p0.free 9; have p0l := p0.lt; simp at p0c0 p0c1 p0c2 p0c3 p0c4 p0c5 p0c6 p0c7 p0c8 p0c9) | (go_at_call 40; (with_reducible refine (r_counted p.vH p.vA _).mono ?_); rw [T2.out]; rintro e w1 ⟨rfl, hb1⟩; refine Blk.thru (b := w.heap.size) (arr := ?_) (t := ?_) ?_ hb1 ?_; rotate_left 2; (focus (exact blk)); intro p0; have p0c0 := p0.cell 0; have p0f0 := p0.free 0; have p0c1 := p0.cell 1; have p0f1 := p0.free 1; have p0c2 := p0.cell 2; have p0f2 := p0.free 2; have p0c3 := p0.cell 3; have p0f3 := p0.free 3; have p0c4 := p0.cell 4; have p0f4 := p0.free 4; have p0c5 := p0.cell 5; have p0f5 := p0.free 5; have p0c6 := p0.cell 6; have p0f6 := p0.free 6; have p0c7 := p0.cell 7; have p0f7 := p0.free 7; have p0c8 := p0.cell 8; have p0f8 := p0.free 8; have p0c9 := p0.cell 9; have p0f9 := p0.free 9; have p0l := p0.lt; simp at p0c0 p0c1 p0c2 p0c3 p0c4 p0c5 p0c6 p0c7 p0c8 p0c9) | (go_at_call 40; (with_reducible refine (r_counted p.lH p.lA _).mono ?_); rw [T3.out]; rintro e w1 ⟨rfl, hb1⟩; refine Blk.thru (b := w.heap.size) (arr := ?_) (t := ?_) ?_ hb1 ?_; rotate_left 2; (focus (exact blk)); intro p0; have p0c0 := p0.cell 0; have p0f0 := p0.free 0; have p0c1 := p0.cell 1; have p0f1 := p0.free 1; have p0c2 := p0.cell 2; have p0f2 := p0.free 2; have p0c3 := p0.cell 3; have p0f3 := p0.free 3; have p0c4 := p0.cell 4; have p0f4 := p0.free 4; have p0c5 := p0.cell 5; have p0f5 := p0.free 5; have p0c6 := p0.cell 6; have p0f6 := p0.free 6; have p0c7 := p0.cell 7; have p0f7 := p0.free 7; have p0c8 := p0.cell 8; have p0f8 := p0.free 8; have p0c9 := p0.cell 9; have p0f9 := p0.free 9; have p0l := p0.lt; simp at p0c0 p0c1 p0c2 p0c3 p0c4 p0c5 p0c6 p0c7 p0c8 p0c9))
            go_ret
            exact ⟨rfl, by (exact kpt)⟩
          · skip
            cases t4 : booksB p.pH p.pA
            · have T0 := Lib.hid t0
              have T1 := Lib.hid t1
              have T2 := Lib.hid t2
              have T3 := Lib.hid t3
              have T4 := Lib.hid t4
              clear h t0 t1 t2 t3 t4
              go_enter Tryz.func14, Tryz.ntmps14
              go_wp2_with (first | (go_at_call 39; (with_reducible refine (r_within p.bottles _ _ _).mono ?_); rw [T0.out]; rintro e w1 ⟨rfl, rfl⟩) | (go_at_call 40; (with_reducible refine (r_counted p.inH p.inA _).mono ?_); rw [T1.out]; rintro e w1 ⟨rfl, hb1⟩; refine Blk.thru (b := w.heap.size) (arr := ?_) (t := ?_) ?_ hb1 ?_; rotate_left 2; (focus (exact blk)); intro p0; have p0c0 := p0.cell 0; have p0f0 := p0.free 0; have p0c1 := p0.cell 1; have p0f1 := p0.free 1; have p0c2 := p0.cell 2; have p0f2 := p0.free 2; have p0c3 := p0.cell 3; have p0f3 := p0.free 3; have p0c4 := p0.cell 4; have p0f4 := p0.free 4; have p0c5 := p0.cell 5; have p0f5 := p0.free 5; have p0c6 := p0.cell 6; have p0f6 := p0.free 6; have p0c7 := p0.cell 7; have p0f7 := p0.free 7; have p0c8 := p0.cell 8; have p0f8 := p0.free 8; have p0c9 := p0.cell 9; have p0f9 := p0.free 9; have p0l := p0.lt; simp at p0c0 p0c1 p0c2 p0c3 p0c4 p0c5 p0c6 p0c7 p0c8 p0c9) | (go_at_call 40; (with_reducible refine (r_counted p.vH p.vA _).mono ?_); rw [T2.out]; rintro e w1 ⟨rfl, hb1⟩; refine Blk.thru (b := w.heap.size) (arr := ?_) (t := ?_) ?_ hb1 ?_; rotate_left 2; (focus (exact blk)); intro p0; have p0c0 := p0.cell 0; have p0f0 := p0.free 0; have p0c1 := p0.cell 1; have p0f1 := p0.free 1; have p0c2 := p0.cell 2; have p0f2 := p0.free 2; have p0c3 := p0.cell 3; have p0f3 := p0.free 3; have p0c4 := p0.cell 4; have p0f4 := p0.free 4; have p0c5 := p0.cell 5; have p0f5 := p0.free 5; have p0c6 := p0.cell 6; have p0f6 := p0.free 6; have p0c7 := p0.cell 7; have p0f7 := p0.free 7; have p0c8 := p0.cell 8; have p0f8 := p0.free 8; have p0c9 := p0.cell 9; have p0f9 := p0.free 9; have p0l := p0.lt; simp at p0c0 p0c1 p0c2 p0c3 p0c4 p0c5 p0c6 p0c7 p0c8 p0c9) | (go_at_call 40; (with_reducible refine (r_counted p.lH p.lA _).mono ?_); rw [T3.out]; rintro e w1 ⟨rfl, hb1⟩; refine Blk.thru (b := w.heap.size) (arr := ?_) (t := ?_) ?_ hb1 ?_; rotate_left 2; (focus (exact blk)); intro p0; have p0c0 := p0.cell 0; have p0f0 := p0.free 0; have p0c1 := p0.cell 1; have p0f1 := p0.free 1; have p0c2 := p0.cell 2; have p0f2 := p0.free 2; have p0c3 := p0.cell 3; have p0f3 := p0.free 3; have p0c4 := p0.cell 4; have p0f4 := p0.free 4; have p0c5 := p0.cell 5; have p0f5 := p0.free 5; have p0c6 := p0.cell 6; have p0f6 := p0.free 6; have p0c7 := p0.cell 7; have p0f7 := p0.free 7; have p0c8 := p0.cell 8; have p0f8 := p0.free 8; have p0c9 := p0.cell 9; have p0f9 := p0.free 9; have p0l := p0.lt; simp at p0c0 p0c1 p0c2 p0c3 p0c4 p0c5 p0c6 p0c7 p0c8 p0c9) | (go_at_call 40; (with_reducible refine (r_counted p.pH p.pA _).mono ?_); rw [T4.out]; rintro e w1 ⟨rfl, hb1⟩; refine Blk.thru (b := w.heap.size) (arr := ?_) (t := ?_) ?_ hb1 ?_; rotate_left 2; (focus (exact blk)); intro p0; have p0c0 := p0.cell 0; have p0f0 := p0.free 0; have p0c1 := p0.cell 1; have p0f1 := p0.free 1; have p0c2 := p0.cell 2; have p0f2 := p0.free 2; have p0c3 := p0.cell 3; have p0f3 := p0.free 3; have p0c4 := p0.cell 4; have p0f4 := p0.free 4; have p0c5 := p0.cell 5; have p0f5 := p0.free 5; have p0c6 := p0.cell 6; have p0f6 := p0.free 6; have p0c7 := p0.cell 7; have p0f7 := p0.free 7; have p0c8 := p0.cell 8; have p0f8 := p0.free 8; have p0c9 := p0.cell 9; have p0f9 := p0.free 9; have p0l := p0.lt; simp at p0c0 p0c1 p0c2 p0c3 p0c4 p0c5 p0c6 p0c7 p0c8 p0c9))
              go_ret
              exact ⟨rfl, by (exact kpt)⟩
            · exact absurd ⟨h0', t0, by rw [books_all, t1, t2, t3, t4]; rfl⟩ h

set_option maxHeartbeats 8000000 in
theorem r_Plant_late (p : Plant) (a : Option Addr) (cap : Nat) (w : World) (hx : Row Cell.cells 7 w.heap.size w a p.cells) (hc : p.cells.length ≤ cap) (hM : cap ≤ maxLen) (h1 : p.cells.length ≤ 12) (h2 : inB p.bottles 0 10000000 = true) (h3 : (books p).all parB = true) :
    Calls Tryz.prog 14 #[.agg #[.slice a p.cells.length cap, .int .i64 p.bottles, .int .i64 p.inH, .int .i64 p.inA, .int .i64 p.vH, .int .i64 p.vA, .int .i64 p.lH, .int .i64 p.lA, .int .i64 p.pH, .int .i64 p.pA]] w fun e w' => e = .returned (.bool (plantB p)) ∧ Kept w w' := by
  unfold maxLen at hM
  have hbt := inB_iff.1 h2
  rw [books_all] at h3
  simp only [Bool.and_eq_true] at h3
  obtain ⟨⟨⟨t1, t2⟩, t3⟩, t4⟩ := h3
  have b1 := booksB_iff.1 t1
  have b2 := booksB_iff.1 t2
  have b3 := booksB_iff.1 t3
  have b4 := booksB_iff.1 t4
  have T0 := Lib.hid h2
  have T1 := Lib.hid t1
  have T2 := Lib.hid t2
  have T3 := Lib.hid t3
  have T4 := Lib.hid t4
  clear h2 t1 t2 t3 t4
  obtain ⟨SH, hSH⟩ : ∃ y, y = p.bottles + p.vH + p.lH + p.pH := ⟨_, rfl⟩
  obtain ⟨SA, hSA⟩ : ∃ y, y = p.vA + p.lA + p.pA := ⟨_, rfl⟩
  have HSH := Lib.hid hSH
  have HSA := Lib.hid hSA
  have qh : 0 ≤ SH ∧ SH ≤ 4000000000000 := by omega
  have qa : 0 ≤ SA ∧ SA ≤ 4000000000000 := by omega
  clear hSH hSA
  go_enter Tryz.func14, Tryz.ntmps14
  go_upto_region 6 with (first | (go_at_call 39; (with_reducible refine (r_within p.bottles _ _ _).mono ?_); rw [T0.out]; rintro e w1 ⟨rfl, rfl⟩) | (go_at_call 40; (with_reducible refine (r_counted p.inH p.inA _).mono ?_); rw [T1.out]; rintro e w1 ⟨rfl, hb1⟩; refine Blk.thru (b := w.heap.size) (arr := ?_) (t := ?_) ?_ hb1 ?_; rotate_left 2; (focus (exact blk)); intro p0; have p0c0 := p0.cell 0; have p0f0 := p0.free 0; have p0c1 := p0.cell 1; have p0f1 := p0.free 1; have p0c2 := p0.cell 2; have p0f2 := p0.free 2; have p0c3 := p0.cell 3; have p0f3 := p0.free 3; have p0c4 := p0.cell 4; have p0f4 := p0.free 4; have p0c5 := p0.cell 5; have p0f5 := p0.free 5; have p0c6 := p0.cell 6; have p0f6 := p0.free 6; have p0c7 := p0.cell 7; have p0f7 := p0.free 7; have p0c8 := p0.cell 8; have p0f8 := p0.free 8; have p0c9 := p0.cell 9; have p0f9 := p0.free 9; have p0l := p0.lt; simp at p0c0 p0c1 p0c2 p0c3 p0c4 p0c5 p0c6 p0c7 p0c8 p0c9) | (go_at_call 40; (with_reducible refine (r_counted p.vH p.vA _).mono ?_); rw [T2.out]; rintro e w1 ⟨rfl, hb1⟩; refine Blk.thru (b := w.heap.size) (arr := ?_) (t := ?_) ?_ hb1 ?_; rotate_left 2; (focus (exact blk)); intro p0; have p0c0 := p0.cell 0; have p0f0 := p0.free 0; have p0c1 := p0.cell 1; have p0f1 := p0.free 1; have p0c2 := p0.cell 2; have p0f2 := p0.free 2; have p0c3 := p0.cell 3; have p0f3 := p0.free 3; have p0c4 := p0.cell 4; have p0f4 := p0.free 4; have p0c5 := p0.cell 5; have p0f5 := p0.free 5; have p0c6 := p0.cell 6; have p0f6 := p0.free 6; have p0c7 := p0.cell 7; have p0f7 := p0.free 7; have p0c8 := p0.cell 8; have p0f8 := p0.free 8; have p0c9 := p0.cell 9; have p0f9 := p0.free 9; have p0l := p0.lt; simp at p0c0 p0c1 p0c2 p0c3 p0c4 p0c5 p0c6 p0c7 p0c8 p0c9) | (go_at_call 40; (with_reducible refine (r_counted p.lH p.lA _).mono ?_); rw [T3.out]; rintro e w1 ⟨rfl, hb1⟩; refine Blk.thru (b := w.heap.size) (arr := ?_) (t := ?_) ?_ hb1 ?_; rotate_left 2; (focus (exact blk)); intro p0; have p0c0 := p0.cell 0; have p0f0 := p0.free 0; have p0c1 := p0.cell 1; have p0f1 := p0.free 1; have p0c2 := p0.cell 2; have p0f2 := p0.free 2; have p0c3 := p0.cell 3; have p0f3 := p0.free 3; have p0c4 := p0.cell 4; have p0f4 := p0.free 4; have p0c5 := p0.cell 5; have p0f5 := p0.free 5; have p0c6 := p0.cell 6; have p0f6 := p0.free 6; have p0c7 := p0.cell 7; have p0f7 := p0.free 7; have p0c8 := p0.cell 8; have p0f8 := p0.free 8; have p0c9 := p0.cell 9; have p0f9 := p0.free 9; have p0l := p0.lt; simp at p0c0 p0c1 p0c2 p0c3 p0c4 p0c5 p0c6 p0c7 p0c8 p0c9) | (go_at_call 40; (with_reducible refine (r_counted p.pH p.pA _).mono ?_); rw [T4.out]; rintro e w1 ⟨rfl, hb1⟩; refine Blk.thru (b := w.heap.size) (arr := ?_) (t := ?_) ?_ hb1 ?_; rotate_left 2; (focus (exact blk)); intro p0; have p0c0 := p0.cell 0; have p0f0 := p0.free 0; have p0c1 := p0.cell 1; have p0f1 := p0.free 1; have p0c2 := p0.cell 2; have p0f2 := p0.free 2; have p0c3 := p0.cell 3; have p0f3 := p0.free 3; have p0c4 := p0.cell 4; have p0f4 := p0.free 4; have p0c5 := p0.cell 5; have p0f5 := p0.free 5; have p0c6 := p0.cell 6; have p0f6 := p0.free 6; have p0c7 := p0.cell 7; have p0f7 := p0.free 7; have p0c8 := p0.cell 8; have p0f8 := p0.free 8; have p0c9 := p0.cell 9; have p0f9 := p0.free 9; have p0l := p0.lt; simp at p0c0 p0c1 p0c2 p0c3 p0c4 p0c5 p0c6 p0c7 p0c8 p0c9))
  rw [← HSH.out, ← HSA.out]
  refine at_world (S := fun W => Blk W w.heap.size #[.slice a p.cells.length cap, .int .i64 p.bottles, .int .i64 p.inH, .int .i64 p.inA, .int .i64 p.vH, .int .i64 p.vA, .int .i64 p.lH, .int .i64 p.lA, .int .i64 p.pH, .int .i64 p.pA] 26 ∧ Kept w W) ⟨by (exact blkc), by (exact kpt)⟩ ?_
  try clear hc1 hf1 hl1
  rintro W ⟨r0, hk⟩
  go_loopw [3, 4, 5] (fun s t i wq => ∃ k : Nat, k ≤ p.cells.length ∧ i = .int .i64 k ∧ s = .int .i64 (SH + sumH (p.cells.take k)) ∧ t = .int .i64 (SA + sumA (p.cells.take k)) ∧ (p.cells.take k).all cellB = true ∧ Blk wq w.heap.size #[.slice a p.cells.length cap, .int .i64 p.bottles, .int .i64 p.inH, .int .i64 p.inA, .int .i64 p.vH, .int .i64 p.vA, .int .i64 p.lH, .int .i64 p.lA, .int .i64 p.pH, .int .i64 p.pA] 26 ∧ Kept w wq) (fun _ _ i _ => p.cells.length - (intOf i).toNat)
  case atStart => exact ⟨0, by omega, rfl, by simp [sumH], by simp [sumA], by simp, r0, hk⟩
  case round =>
    clear r0 hk
    obtain ⟨k, hkn, rfl, rfl, rfl, hal, r0, hk⟩ := hrel
    have hsb := sum_some hal h1
    have HAL := Lib.hid hal
    clear hal
    have r0c0 := r0.cell 0
    have r0f0 := r0.free 0
    have r0c1 := r0.cell 1
    have r0f1 := r0.free 1
    have r0c2 := r0.cell 2
    have r0f2 := r0.free 2
    have r0c3 := r0.cell 3
    have r0f3 := r0.free 3
    have r0c4 := r0.cell 4
    have r0f4 := r0.free 4
    have r0c5 := r0.cell 5
    have r0f5 := r0.free 5
    have r0c6 := r0.cell 6
    have r0f6 := r0.free 6
    have r0c7 := r0.cell 7
    have r0f7 := r0.free 7
    have r0c8 := r0.cell 8
    have r0f8 := r0.free 8
    have r0c9 := r0.cell 9
    have r0f9 := r0.free 9
    have r0l := r0.lt
    simp at r0c0 r0c1 r0c2 r0c3 r0c4 r0c5 r0c6 r0c7 r0c8 r0c9
    by_cases hlt : k < p.cells.length
    · obtain ⟨b, off, rfl, _, c0, c1, c2, c3, c4, c5, c6⟩ := Cell.row (hx.later hk (Nat.le_refl _)) k hlt
      have hs1 := sumBy_take Cell.helium p.cells k hlt
      have hs2 := sumBy_take Cell.air p.cells k hlt
      have HT := Lib.hid (fun hv : cellB p.cells[k] = true => take_all hlt HAL.out hv)
      have HBAD := Lib.hid (fun hv : cellB p.cells[k] = false => show plantB p = false by
        rw [Bool.eq_false_iff]
        intro hp
        rw [(plantB_iff.1 hp).2.2.2.2.2.2.1 _ (List.getElem_mem hlt)] at hv
        cases hv)
      obtain ⟨x, hx0⟩ : ∃ x, x = p.cells[k] := ⟨_, rfl⟩
      rw [← hx0] at c0 c1 c2 c3 c4 c5 c6 hs1 hs2 HT HBAD
      clear hx0
      obtain ⟨sh, hsh⟩ : ∃ y, y = sumH (p.cells.take k) := ⟨_, rfl⟩
      obtain ⟨sa, hsa⟩ : ∃ y, y = sumA (p.cells.take k) := ⟨_, rfl⟩
      rw [← hsh, ← hsa] at hsb ⊢
      have HS1 := Lib.hid (show sumH (p.cells.take (k + 1)) = sh + x.helium by rw [hsh]; exact hs1)
      have HS2 := Lib.hid (show sumA (p.cells.take (k + 1)) = sa + x.air by rw [hsa]; exact hs2)
      clear hs1 hs2 hsh hsa
      have k0 : (0 : Int) ≤ (k : Int) := by omega
      have k1 : (k : Int) < (p.cells.length : Int) := by omega
      cases hv : cellB x
      · have HC := Lib.hid hv
        have HE := Lib.hid (HBAD.out hv)
        clear hv
        go_wp2_with (first | (go_at_call 41; (with_reducible refine (r_Cell x _).mono ?_); rw [HC.out]; rintro e w3 ⟨rfl, hb3⟩; refine Blk.thru (b := w.heap.size) (arr := ?_) (t := ?_) ?_ hb3 ?_; rotate_left 2; (focus (exact blk)); intro p0; have p0c0 := p0.cell 0; have p0f0 := p0.free 0; have p0c1 := p0.cell 1; have p0f1 := p0.free 1; have p0c2 := p0.cell 2; have p0f2 := p0.free 2; have p0c3 := p0.cell 3; have p0f3 := p0.free 3; have p0c4 := p0.cell 4; have p0f4 := p0.free 4; have p0c5 := p0.cell 5; have p0f5 := p0.free 5; have p0c6 := p0.cell 6; have p0f6 := p0.free 6; have p0c7 := p0.cell 7; have p0f7 := p0.free 7; have p0c8 := p0.cell 8; have p0f8 := p0.free 8; have p0c9 := p0.cell 9; have p0f9 := p0.free 9; have p0l := p0.lt; simp at p0c0 p0c1 p0c2 p0c3 p0c4 p0c5 p0c6 p0c7 p0c8 p0c9; obtain ⟨hc3, hf3, hl3⟩ := bcell3 hb3))
        go_ret
        exact ⟨ret_bool HE.out.symm, by (exact kpt)⟩
      · have HC := Lib.hid hv
        have hxb := cellB_iff.1 hv
        have HT2 := Lib.hid (HT.out hv)
        clear hv
        go_wp2_with (first | (go_at_call 41; (with_reducible refine (r_Cell x _).mono ?_); rw [HC.out]; rintro e w3 ⟨rfl, hb3⟩; refine Blk.thru (b := w.heap.size) (arr := ?_) (t := ?_) ?_ hb3 ?_; rotate_left 2; (focus (exact blk)); intro p0; have p0c0 := p0.cell 0; have p0f0 := p0.free 0; have p0c1 := p0.cell 1; have p0f1 := p0.free 1; have p0c2 := p0.cell 2; have p0f2 := p0.free 2; have p0c3 := p0.cell 3; have p0f3 := p0.free 3; have p0c4 := p0.cell 4; have p0f4 := p0.free 4; have p0c5 := p0.cell 5; have p0f5 := p0.free 5; have p0c6 := p0.cell 6; have p0f6 := p0.free 6; have p0c7 := p0.cell 7; have p0f7 := p0.free 7; have p0c8 := p0.cell 8; have p0f8 := p0.free 8; have p0c9 := p0.cell 9; have p0f9 := p0.free 9; have p0l := p0.lt; simp at p0c0 p0c1 p0c2 p0c3 p0c4 p0c5 p0c6 p0c7 p0c8 p0c9; obtain ⟨hc3, hf3, hl3⟩ := bcell3 hb3))
        go_roundw
        case rel => exact ⟨k + 1, by omega, by go_num, by rw [HS1.out]; congr 1; omega, by rw [HS2.out]; congr 1; omega, HT2.out, by (exact blkc), by (exact kpt)⟩
        case measure => simp [intOf]; omega
    · obtain rfl : k = p.cells.length := by omega
      rw [List.take_length] at hsb HAL ⊢
      obtain ⟨sh, hsh⟩ : ∃ y, y = sumH p.cells := ⟨_, rfl⟩
      obtain ⟨sa, hsa⟩ : ∃ y, y = sumA p.cells := ⟨_, rfl⟩
      rw [← hsh, ← hsa] at hsb ⊢
      have HPB := Lib.hid (show plantB p = (decide (SH + sh = p.inH) && decide (SA + sa = p.inA)) by
        have e1 : allH p = SH + sh := by rw [HSH.out, hsh]; unfold allH; omega
        have e2 : allA p = SA + sa := by rw [HSA.out, hsa]; unfold allA; rfl
        unfold plantB
        rw [e1, e2, T0.out, T1.out, T2.out, T3.out, T4.out, HAL.out]
        simp [h1])
      clear hsh hsa
      by_cases d1 : SH + sh = p.inH
      · by_cases d2 : SA + sa = p.inA
        all_goals
          go_wp2
          go_ret
          exact ⟨ret_bool (by rw [HPB.out]; simp [d1, d2]), by (exact kpt)⟩
      · go_wp2
        go_ret
        exact ⟨ret_bool (by rw [HPB.out]; simp [d1]), by (exact kpt)⟩

theorem r_Plant (p : Plant) (a : Option Addr) (cap : Nat) (w : World) (hx : Row Cell.cells 7 w.heap.size w a p.cells) (hc : p.cells.length ≤ cap) (hM : cap ≤ maxLen) :
    Calls Tryz.prog 14 #[.agg #[.slice a p.cells.length cap, .int .i64 p.bottles, .int .i64 p.inH, .int .i64 p.inA, .int .i64 p.vH, .int .i64 p.vA, .int .i64 p.lH, .int .i64 p.lA, .int .i64 p.pH, .int .i64 p.pA]] w fun e w' => e = .returned (.bool (plantB p)) ∧ Kept w w' := by
  by_cases h : p.cells.length ≤ 12 ∧ inB p.bottles 0 10000000 = true ∧ (books p).all parB = true
  · exact r_Plant_late p a cap w hx hc hM h.1 h.2.1 h.2.2
  · have he : plantB p = false := by
      rw [Bool.eq_false_iff]
      intro hp
      refine h ?_
      rw [books_all]
      simp only [plantB, Bool.and_eq_true, decide_eq_true_eq] at hp
      obtain ⟨⟨⟨⟨⟨⟨⟨⟨a, b⟩, c⟩, d⟩, e⟩, f⟩, g⟩, _⟩, _⟩ := hp
      exact ⟨a, b, by rw [c, d, e, f]; rfl⟩
    rw [he]
    exact r_Plant_early p a cap w hx hc hM h

theorem r_Check (p : Plant) (a : Option Addr) (cap : Nat) (w : World) (hx : Row Cell.cells 7 w.heap.size w a p.cells) (hc : p.cells.length ≤ cap) (hM : cap ≤ maxLen) :
    Calls Tryz.prog 5 #[.agg #[.slice a p.cells.length cap, .int .i64 p.bottles, .int .i64 p.inH, .int .i64 p.inA, .int .i64 p.vH, .int .i64 p.vA, .int .i64 p.lH, .int .i64 p.lA, .int .i64 p.pH, .int .i64 p.pA]] w fun e w' => e = .returned (.int .i64 (plantE p)) ∧ Kept w w' := by
  cases hp : plantB p
  · have HP := Lib.hid hp
    have HE := Lib.hid (plantE_bad hp)
    clear hp
    go_enter Tryz.func5, Tryz.ntmps5
    go_wp2_with (go_at_call 14; (with_reducible refine (r_Plant p a cap _ (hx.later (by (exact kpt)) (Nat.le_refl _)) hc hM).mono ?_); rw [HP.out]; rintro e w1 ⟨rfl, hb1⟩)
    go_ret
    exact ⟨ret_int HE.out.symm, by (exact kpt)⟩
  · have HP := Lib.hid hp
    have HE := Lib.hid (plantE_ok hp)
    clear hp
    go_enter Tryz.func5, Tryz.ntmps5
    go_wp2_with (go_at_call 14; (with_reducible refine (r_Plant p a cap _ (hx.later (by (exact kpt)) (Nat.le_refl _)) hc hM).mono ?_); rw [HP.out]; rintro e w1 ⟨rfl, hb1⟩)
    go_ret
    exact ⟨ret_int HE.out.symm, by (exact kpt)⟩

end Go.Proofs.YtamnnjdfjffhlaaGreatDoor

/-
  A region that draws its order in which a call panics: whatever order is picked, the operations that come up ahead of it only read or call (or make a block), and then it panics. No program in sight.
-/
namespace Bal
open Go Go.RowKit

section
variable {P : Program} {ops : Array Oper} {md : Region.Mode} {C : World → Prop} {Q : Exit → Act → World → Prop}

def QF : Exit → Act → World → Prop := fun _ _ _ => False

theorem wpOp_QF {i : Nat} {a : Act} {w : World} {K : Act → World → Prop} (h : wpOp P ops QF i K a w) : wpOp P ops Q i K a w := by
  unfold wpOp at *
  split
  · simpa [*] using h
  · rename_i o ho
    simp only [ho] at h
    split
    · rename_i hw
      simp only [hw, if_true] at h
      rcases h with h | ⟨_, _, _, h⟩
      · refine .inl ?_
        unfold Oper.wp at *
        generalize (execOp a.eval o).run P w = r at *
        cases r with
        | ok n w' =>
          cases n <;> simp only [Oper.upon] at h ⊢
          case enter f args =>
            refine Calls.mono h fun e w'' he => ?_
            cases e with
            | returned u => exact he
            | panicked c => exact he.elim
            | outgrown => obtain ⟨_, _, he⟩ := he; exact he.elim
          all_goals exact h
        | halt x w' =>
          cases x <;> simp only [Oper.upon] at h ⊢
          case panic u => exact h.elim
      · exact h.elim
    · rename_i hw
      simp only [hw] at h
      exact h

theorem wpOp_putIn {j : Nat} {oi oj : Oper} {v : Value} (hj : ops[j]? = some oj) (hap : oi.apart ops oj = true)
    (hsi : ∀ cs b, oi.op ≠ .select cs b) (hsj : ∀ cs b, oj.op ≠ .select cs b)
    (hQ : ∀ c a w, Q (.panic c) (a.put oi.dst v) w → Q (.panic c) a w) {K : Act → World → Prop} {a : Act} {w : World}
    (hy : YieldsIn P ops C oi v a) (h : wpOp P ops Q j K (a.put oi.dst v) w) :
    wpOp P ops Q j (fun a' w' => YieldsIn P ops C oi v a' ∧ K (a'.put oi.dst v) w') a w := by
  obtain ⟨h1, h2, h3⟩ := Oper.apart_spec hap
  have keep : ∀ (a : Act), YieldsIn P ops C oi v a → ∀ u, YieldsIn P ops C oi v (a.put oj.dst u) := fun a hy u =>
    hy.of_same (execOp_put oi hsi a oj.dst u h3) (wanted_put oi a oj.dst u h3)
  have keepD : ∀ d, YieldsIn P ops C oi v { a with defers := d :: a.defers } := fun d => hy.of_same rfl rfl
  unfold wpOp at *
  simp only [hj] at *
  rw [wanted_put oj a oi.dst v h1] at h
  split
  · rename_i hw
    simp only [hw, if_true] at h
    rcases h with h | ⟨hasks, hlets⟩
    case inr => exact .inr ⟨by unfold Oper.asks at *; rw [execOp_put oj hsj a oi.dst v h1] at hasks; exact hasks, hlets⟩
    refine .inl ?_
    unfold Oper.wp at *
    rw [execOp_put oj hsj a oi.dst v h1] at h
    generalize (execOp a.eval oj).run P w = r at *
    cases r with
    | ok n w' =>
      cases n <;> simp only [Oper.upon] at h ⊢
      case value u => exact ⟨keep a hy u, by rw [← Act.put_comm a v u h2]; exact h⟩
      case skip => exact ⟨keep a hy _, by rw [← Act.put_comm a v undef h2]; exact h⟩
      case defer d =>
        refine ⟨keep _ (keepD d) _, ?_⟩
        rw [← Act.put_comm _ v undef h2, ← Act.put_defers]
        exact h
      case enter f args =>
        refine Calls.mono h fun e w'' he => ?_
        cases e with
        | returned u => exact ⟨keep a hy u, by rw [← Act.put_comm a v u h2]; exact he⟩
        | panicked c => exact hQ _ _ _ he
        | outgrown => exact he
      case row row args => exact Rows.mono h fun u w'' he => ⟨keep a hy u, by rw [← Act.put_comm a v u h2]; exact he⟩
    | halt x w' =>
      cases x <;> simp only [Oper.upon] at h ⊢
      case panic u => exact hQ _ _ _ h
  · rename_i hw
    simp only [hw] at h
    exact ⟨keep a hy _, by rw [← Act.put_comm a v undef h2]; exact h⟩

/-- operation p panics in state a, in every world of the class -/
def DiesAt (P : Program) (ops : Array Oper) (C : World → Prop) (Q : Exit → Act → World → Prop) (p : Nat) (a : Act) : Prop := ∀ w, C w → wpOp P ops Q p (fun _ _ => False) a w
/-- whatever order is picked, operation p comes up, and panics -/
def wpDie (P : Program) (md : Region.Mode) (ops : Array Oper) (C : World → Prop) (Q : Exit → Act → World → Prop) (p : Nat) : Nat → Array Bool → Act → Prop
  | 0, _, _ => False
  | f + 1, listed, a => Region.ready md ops listed ≠ [] ∧ ∀ i ∈ Region.ready md ops listed, (i = p ∧ DiesAt P ops C Q p a) ∨
      (i ≠ p ∧ ∀ w, C w → wpOp P ops QF i (fun a' w' => C w' ∧ wpDie P md ops C Q p f (listed.setIfInBounds i true) a') a w)

theorem wpAny_of_die {p : Nat} : ∀ (f : Nat) (listed : Array Bool) (a : Act) (w : World), C w → wpDie P md ops C Q p f listed a → wpAny P md ops Q f listed a w
  | 0, _, _, _, _, h => h.elim
  | f + 1, listed, a, w, hw, h => ⟨fun h0 => absurd h0 h.1, fun i hi => by
      rcases h.2 i hi with ⟨rfl, hd⟩ | ⟨_, h'⟩
      · exact wpOp_mono (fun _ _ h => h.elim) (hd w hw)
      · exact wpOp_QF (wpOp_mono (fun a' w' hh => wpAny_of_die f _ a' w' hh.1 hh.2) (h' w hw))⟩

theorem wpDie_first {p i : Nat} {oi : Oper} {v : Value} (hi : ops[i]? = some oi) (hip : i ≠ p) (hsel : ∀ (j : Nat) (o : Oper) cs b, ops[j]? = some o → o.op ≠ .select cs b)
    (hQ : ∀ c a w, Q (.panic c) (a.put oi.dst v) w → Q (.panic c) a w) :
    ∀ (f : Nat) (listed : Array Bool) (a : Act),
      (∀ j oj, ops[j]? = some oj → j ≠ i → listed.getD j true = false → (∀ e ∈ oj.after, Region.binds md e = true → e.on ≠ i) → oi.apart ops oj = true) →
      i ∈ Region.ready md ops listed → YieldsIn P ops C oi v a →
      wpDie P md ops C Q p f (listed.setIfInBounds i true) (a.put oi.dst v) → wpDie P md ops C Q p (f + 1) listed a := by
  intro f
  induction f with
  | zero => intro listed a _ _ _ H; exact H.elim
  | succ f ih =>
    intro listed a hfree hr hy H
    have hun := (mem_ready.1 hr).1
    refine ⟨fun h => (by rw [h] at hr; cases hr), fun j hj => ?_⟩
    by_cases hji : j = i
    · subst hji
      exact .inr ⟨hip, fun w hw => wpOp_of_qOp hw (fun a' w' hw' h => ⟨hw', h⟩) (hy.qOp hi H)⟩
    · obtain ⟨hjun, oj, hoj, hall⟩ := mem_ready.1 hj
      have hnot : ∀ e ∈ oj.after, Region.binds md e = true → e.on ≠ i := fun e he hb heq => by
        have h1 := hall e he hb
        rw [heq, getD_both hun] at h1
        cases h1
      have hap := hfree j oj hoj hji hjun hnot
      rcases H.2 j (ready_mono hj hji) with ⟨rfl, hd⟩ | ⟨hjp, h'⟩
      · exact .inl ⟨rfl, fun w hw => wpOp_mono (fun _ _ h => h.2) (wpOp_putIn hoj hap (fun cs b => hsel i oi cs b hi) (fun cs b => hsel _ oj cs b hoj) hQ hy (hd w hw))⟩
      · refine .inr ⟨hjp, fun w hw => ?_⟩
        have h2 := wpOp_putIn hoj hap (fun cs b => hsel i oi cs b hi) (fun cs b => hsel j oj cs b hoj) (fun _ _ _ h => h) hy (h' w hw)
        have hfree' : ∀ k ok, ops[k]? = some ok → k ≠ i → (listed.setIfInBounds j true).getD k true = false →
            (∀ e ∈ ok.after, Region.binds md e = true → e.on ≠ i) → oi.apart ops ok = true := fun k ok hk hki hun hno => by
          refine hfree k ok hk hki ?_ hno
          by_cases hjk : j = k
          · subst hjk; exact hjun
          · rw [getD_set_ne true hjk] at hun; exact hun
        refine wpOp_mono (fun a' w' h3 => ⟨h3.2.1, ih (listed.setIfInBounds j true) a' hfree' (ready_mono hr (Ne.symm hji)) h3.1 ?_⟩) h2
        rw [Array.setIfInBounds_comm _ _ hji]
        exact h3.2.2

/-- what stands at the end: p alone may come up, or p and q, q making a block -/
def endB (md : Region.Mode) (ops : Array Oper) (p : Nat) : Option Nat → Array Bool → Bool
  | none, listed => decide (Region.ready md ops listed = [p])
  | some q, listed => (decide (Region.ready md ops listed = [p, q]) || decide (Region.ready md ops listed = [q, p])) && decide (q ≠ p) && decide (Region.ready md ops (listed.setIfInBounds q true) = [p])
def dieB (md : Region.Mode) (ops : Array Oper) (p : Nat) (q : Option Nat) : List Nat → Array Bool → Bool
  | [], listed => endB md ops p q listed
  | i :: r, listed => (Region.ready md ops listed).contains i && Region.free md ops listed i && decide (i ≠ p) && dieB md ops p q r (listed.setIfInBounds i true)
/-- operation q makes a block, whatever the state -/
def makesB (P : Program) (ops : Array Oper) (C : World → Prop) : Option Nat → Prop
  | none => True
  | some q => ∃ oq, ops[q]? = some oq ∧ oq.guard = none ∧ ∀ (a : Act) w, C w → ∃ v w', C w' ∧ (execOp a.eval oq).run P w = .ok (.value v) w'
def DiesBoth (P : Program) (ops : Array Oper) (C : World → Prop) (Q : Exit → Act → World → Prop) (p : Nat) (q : Option Nat) (a : Act) : Prop :=
  DiesAt P ops C Q p a ∧ ∀ i oq, q = some i → ops[i]? = some oq → ∀ v, DiesAt P ops C Q p (a.put oq.dst v)

theorem wpDie_end {p : Nat} {q : Option Nat} {n : Nat} {listed : Array Bool} {a : Act} (hB : endB md ops p q listed = true) (hm : makesB P ops C q) (hn : 2 ≤ n ∨ (q = none ∧ 1 ≤ n)) (h : DiesBoth P ops C Q p q a) : wpDie P md ops C Q p n listed a := by
  cases q with
  | none =>
    simp only [endB, decide_eq_true_eq] at hB
    obtain ⟨f, rfl⟩ : ∃ f, n = f + 1 := ⟨n - 1, by omega⟩
    refine ⟨by rw [hB]; simp, fun i hi => ?_⟩
    rw [hB] at hi
    exact .inl ⟨by simpa using hi, h.1⟩
  | some q =>
    simp only [endB, Bool.and_eq_true, Bool.or_eq_true, decide_eq_true_eq] at hB
    obtain ⟨⟨hr, hqp⟩, hr2⟩ := hB
    obtain ⟨f, rfl⟩ : ∃ f, n = f + 1 + 1 := ⟨n - 2, by simp at hn; omega⟩
    obtain ⟨oq, hoq, hg, hmk⟩ := hm
    have hmem : ∀ i ∈ Region.ready md ops listed, i = p ∨ i = q := fun i hi => by
      rcases hr with hr | hr <;> (rw [hr] at hi; simp at hi; omega)
    refine ⟨by rcases hr with hr | hr <;> (rw [hr]; simp), fun i hi => ?_⟩
    rcases hmem i hi with rfl | rfl
    · exact .inl ⟨rfl, h.1⟩
    · refine .inr ⟨hqp, fun w hw => ?_⟩
      obtain ⟨v, w', hw', hv⟩ := hmk a w hw
      unfold wpOp
      simp only [hoq]
      have hwt : Region.wanted oq (yielded ops a.tmps) = true := by simp [Region.wanted, hg]
      simp only [hwt, if_true]
      refine .inl ?_
      unfold Oper.wp
      rw [hv]
      refine ⟨hw', by rw [hr2]; simp, fun j hj => ?_⟩
      rw [hr2] at hj
      exact .inl ⟨by simpa using hj, h.2 _ oq rfl hoq v⟩

theorem wpDie_lex {p : Nat} {q : Option Nat} {n : Nat} (hsel : Region.noSelect ops = true) (hQ : ∀ c a d v w, Q (.panic c) (Act.put a d v) w → Q (.panic c) a w) (hm : makesB P ops C q) (hn : 2 ≤ n ∨ (q = none ∧ 1 ≤ n)) :
    ∀ (is : List Nat) (l : List Oper) (listed : Array Bool) (a : Act), is.map (ops[·]?) = l.map some → dieB md ops p q is listed = true →
    wpQuiet P ops C (DiesBoth P ops C Q p q) l a → wpDie P md ops C Q p (l.length + n) listed a
  | [], [], listed, a, _, hB, h => by
    simp only [List.length_nil, Nat.zero_add]
    exact wpDie_end (by simpa [dieB] using hB) hm hn h
  | [], _ :: _, _, _, hm', _, _ => by simp at hm'
  | _ :: _, [], _, _, hm', _, _ => by simp at hm'
  | i :: is, o :: l, listed, a, hm', hB, h => by
    simp only [List.map_cons, List.cons.injEq] at hm'
    obtain ⟨h0, hm''⟩ := hm'
    simp only [dieB, Bool.and_eq_true, decide_eq_true_eq] at hB
    obtain ⟨⟨⟨hr, hf⟩, hip⟩, hB'⟩ := hB
    have hst : qOp P ops C i (wpQuiet P ops C (DiesBoth P ops C Q p q) l) a := by unfold qOp; simp only [h0]; exact h
    obtain ⟨v, hy, hK⟩ := yieldsIn_of_qOp h0 hst
    rw [show (o :: l).length + n = (l.length + n) + 1 by simp only [List.length_cons]; omega]
    exact wpDie_first h0 hip (Region.noSelect_spec hsel) (fun c a w => hQ c a _ _ w) _ listed a (Region.free_spec h0 hf) (by simpa using hr) hy (wpDie_lex hsel hQ hm hn is l _ _ hm'' hB' hK)

theorem wpQuiet_of_steps {K : Act → Prop} : ∀ (l : List Oper) (a : Act), wpSteps P ops C K (l.map fun o => (false, o)) a → wpQuiet P ops C K l a
  | [], _, h => h
  | o :: l, a, h => by
    have h' : wpQuiet P ops C (fun a' => wpSteps P ops C K (l.map fun o => (false, o)) a') [o] a := h
    unfold wpQuiet at h' ⊢
    split
    · rename_i hw
      simp only [hw, if_true] at h'
      exact Oper.quiet_mono (fun a' h'' => wpQuiet_of_steps l a' h'') h'
    · rename_i hw
      simp only [hw] at h'
      exact wpQuiet_of_steps l _ h'
/-- THE THEOREM: is: the quiet operations in the order in which they are walked; p: the one that panics; q: one that makes a block and may come up before or behind. -/
theorem later_dies {P : Program} {id : Nat} {Q : Exit → Act → World → Prop} {a : Act} {w : World} {l : List Oper} (is : List Nat) (p : Nat) (q : Option Nat) (hm : P.follows .mixedOrders = true)
    (hB : (Region.noSelect l.toArray && dieB .any l.toArray p q is (Array.replicate l.toArray.size false) && is.all (fun i => decide (i < l.length)) && decide (is.length + (if q.isSome then 2 else 1) ≤ l.length)) = true)
    (hQ : ∀ c a d v w, Q (.panic c) (Act.put a d v) w → Q (.panic c) a w) (hq : makesB P l.toArray (fun w' => ∃ g : Later w, w' = g.val) q)
    (h : wpSteps P l.toArray (fun w' => ∃ g : Later w, w' = g.val) (DiesBoth P l.toArray (fun w' => ∃ g : Later w, w' = g.val) Q p q) ((is.filterMap (l[·]?)).map fun o => (false, o)) a) :
    (Code.region id l.toArray true).wp P Q a w := by
  simp only [Bool.and_eq_true, decide_eq_true_eq, List.all_eq_true] at hB
  obtain ⟨⟨⟨hsel, hdie⟩, hlt⟩, hlen⟩ := hB
  obtain ⟨q1, q2⟩ := filterMap_ok is hlt
  refine wp_region_any hm (wpAny_of_die (C := fun w' => ∃ g : Later w, w' = g.val) (p := p) _ _ _ _ ⟨⟨w.drew, (Below.refl _ _).drew⟩, rfl⟩ ?_)
  have key := wpDie_lex (P := P) (md := .any) (Q := Q) (C := fun w' => ∃ g : Later w, w' = g.val) (p := p) (q := q) (n := l.length - is.length) hsel hQ hq (by cases q <;> simp at hlen ⊢ <;> omega) is _ _ a q1 hdie (wpQuiet_of_steps _ _ h)
  rw [q2, show is.length + (l.length - is.length) = l.length by omega] at key
  simpa using key
/-- one operation that panics, out of its run -/
theorem DiesAt.of {p : Nat} {o : Oper} {a : Act} (ho : ops[p]? = some o) (hg : o.guard = none) (h : ∀ w, C w → Oper.wp P o a w (fun _ _ => False) Q) : DiesAt P ops C Q p a := fun w hw => by
  unfold wpOp
  simp only [ho]
  have hwt : Region.wanted o (yielded ops a.tmps) = true := by simp [Region.wanted, hg]
  simp only [hwt, if_true]
  exact .inl (h w hw)
end
/-- a goal that is done, where a tactic wants one more -/
theorem done_any {P : Program} {a : Act} {w : World} {G : Prop} (h : G) (_ : wpAny P .any #[] (fun _ _ _ => True) 0 #[] a w) : G := h
end Bal

/-
  Plants: the cell of an act.
-/
namespace Go.Proofs.YtamnnjdfjffhlaaGreatDoor
open Go.RowKit Bal Bal.Trim Bal.Gas
set_option linter.unusedVariables false
set_option linter.unusedSimpArgs false
set_option maxHeartbeats 4000000
set_option maxRecDepth 10000

theorem f_ranged1B (lo hi x : Int) (m : Nat) (W : World) (h : Blk W m #[.int .i64 x] 3) :
    Calls Tryz.prog 28 #[.int .i64 lo, .int .i64 hi, .slice (some ⟨m, 0, none⟩) 1 1] W fun e w' => e = .returned (.bool (rng [x] lo hi)) ∧ W = w' :=
  f_ranged lo hi _ 1 1 [x] W rfl (Row.one (enc := icell) h rfl) (by decide)

attribute [local go_sem ↓] Go.wp_at_zero Go.wp_at_succ
theorem f_cell_no1 (s : Nat) (ad : Option Addr) (cp : Nat) (p : Plant) (d : Deed) (w : World) (hs : Blk w s #[.slice ad p.cells.length cp, .int .i64 p.bottles, .int .i64 p.inH, .int .i64 p.inA, .int .i64 p.vH, .int .i64 p.vA, .int .i64 p.lH, .int .i64 p.lA, .int .i64 p.pH, .int .i64 p.pA] 77) (hn : p.cells.length ≤ 12) (h : rng [d.cell] 0 (p.cells.length - 1) = false) :
    Calls Tryz.prog 57 #[.pointer (some ⟨s, 0, none⟩), .agg #[.int .u8 d.kind, .int .i64 d.cell, .int .i64 d.to, .int .i64 d.n]] w fun e w' => e = .panicked [{ v := refusal 2, recovered := false }] ∧ Kept w w' := by
  have H1 := Lib.hid h
  clear h
  have hwl := i64_inx (n := (p.cells.length : Int) - 1) (by omega)
  go_enter Tryz.func57, Tryz.ntmps57
  go_upto_region 1 with fail
  refine at_world (S := fun W => Blk W w.heap.size #[.int .u8 d.kind, .int .i64 d.cell, .int .i64 d.to, .int .i64 d.n] 44 ∧ Kept w W) ⟨by (exact blkc), by (exact kpt)⟩ ?_
  rintro W ⟨r0, hk⟩
  have hsW := hs.keep hk
  have r0c0 := r0.cell 0
  have r0f0 := r0.free 0
  have r0c1 := r0.cell 1
  have r0f1 := r0.free 1
  have r0c2 := r0.cell 2
  have r0f2 := r0.free 2
  have r0c3 := r0.cell 3
  have r0f3 := r0.free 3
  have r0l := r0.lt
  simp at r0c0 r0c1 r0c2 r0c3
  have hsWc0 := hsW.cell 0
  have hsWf0 := hsW.free 0
  have hsWc1 := hsW.cell 1
  have hsWf1 := hsW.free 1
  have hsWc2 := hsW.cell 2
  have hsWf2 := hsW.free 2
  have hsWc3 := hsW.cell 3
  have hsWf3 := hsW.free 3
  have hsWc4 := hsW.cell 4
  have hsWf4 := hsW.free 4
  have hsWc5 := hsW.cell 5
  have hsWf5 := hsW.free 5
  have hsWc6 := hsW.cell 6
  have hsWf6 := hsW.free 6
  have hsWc7 := hsW.cell 7
  have hsWf7 := hsW.free 7
  have hsWc8 := hsW.cell 8
  have hsWf8 := hsW.free 8
  have hsWc9 := hsW.cell 9
  have hsWf9 := hsW.free 9
  have hsWl := hsW.lt
  simp at hsWc0 hsWc1 hsWc2 hsWc3 hsWc4 hsWc5 hsWc6 hsWc7 hsWc8 hsWc9

  first | go_region_with (first | (go_at_call 28; (with_reducible refine (f_ranged1B _ _ d.cell _ _ ?_).mono ?_); (focus ((repeat with_reducible refine Blk.drew ?_); exact Blk.new' (by first | rfl | (simp; done)))); rw [H1.out]; rintro e w1 ⟨rfl, rfl⟩) | (go_at_call 27; (with_reducible refine (f_need_no _ _).mono ?_); rintro e w1 ⟨rfl, rfl⟩; refine done_any (P := Tryz.prog) (a := ⟨#[], []⟩) (w := w) ⟨rfl, rfl, by (exact kpt)⟩ ?_)) | fail
  all_goals trivial
theorem f_cell_no2 (s : Nat) (ad : Option Addr) (cp : Nat) (p : Plant) (d : Deed) (w : World) (hs : Blk w s #[.slice ad p.cells.length cp, .int .i64 p.bottles, .int .i64 p.inH, .int .i64 p.inA, .int .i64 p.vH, .int .i64 p.vA, .int .i64 p.lH, .int .i64 p.lA, .int .i64 p.pH, .int .i64 p.pA] 77) (hn : p.cells.length ≤ 12) (h : rng [d.cell] 0 (p.cells.length - 1) = true) (h' : rng [d.n] 1 10000000 = false) :
    Calls Tryz.prog 57 #[.pointer (some ⟨s, 0, none⟩), .agg #[.int .u8 d.kind, .int .i64 d.cell, .int .i64 d.to, .int .i64 d.n]] w fun e w' => e = .panicked [{ v := refusal 2, recovered := false }] ∧ Kept w w' := by
  have H1 := Lib.hid h
  have H2 := Lib.hid h'
  clear h h'
  have hwl := i64_inx (n := (p.cells.length : Int) - 1) (by omega)
  go_enter Tryz.func57, Tryz.ntmps57
  go_upto_region 1 with fail
  refine at_world (S := fun W => Blk W w.heap.size #[.int .u8 d.kind, .int .i64 d.cell, .int .i64 d.to, .int .i64 d.n] 44 ∧ Kept w W) ⟨by (exact blkc), by (exact kpt)⟩ ?_
  rintro W ⟨r0, hk⟩
  have hsW := hs.keep hk
  have r0c0 := r0.cell 0
  have r0f0 := r0.free 0
  have r0c1 := r0.cell 1
  have r0f1 := r0.free 1
  have r0c2 := r0.cell 2
  have r0f2 := r0.free 2
  have r0c3 := r0.cell 3
  have r0f3 := r0.free 3
  have r0l := r0.lt
  simp at r0c0 r0c1 r0c2 r0c3
  have hsWc0 := hsW.cell 0
  have hsWf0 := hsW.free 0
  have hsWc1 := hsW.cell 1
  have hsWf1 := hsW.free 1
  have hsWc2 := hsW.cell 2
  have hsWf2 := hsW.free 2
  have hsWc3 := hsW.cell 3
  have hsWf3 := hsW.free 3
  have hsWc4 := hsW.cell 4
  have hsWf4 := hsW.free 4
  have hsWc5 := hsW.cell 5
  have hsWf5 := hsW.free 5
  have hsWc6 := hsW.cell 6
  have hsWf6 := hsW.free 6
  have hsWc7 := hsW.cell 7
  have hsWf7 := hsW.free 7
  have hsWc8 := hsW.cell 8
  have hsWf8 := hsW.free 8
  have hsWc9 := hsW.cell 9
  have hsWf9 := hsW.free 9
  have hsWl := hsW.lt
  simp at hsWc0 hsWc1 hsWc2 hsWc3 hsWc4 hsWc5 hsWc6 hsWc7 hsWc8 hsWc9

  first | go_region_with (first | (go_at_call 28; (with_reducible refine (f_ranged1B _ _ d.cell _ _ ?_).mono ?_); (focus ((repeat with_reducible refine Blk.drew ?_); exact Blk.new' (by first | rfl | (simp; done)))); rw [H1.out]; rintro e w1 ⟨rfl, rfl⟩) | (go_at_call 28; (with_reducible refine (f_ranged1B _ _ d.n _ _ ?_).mono ?_); (focus ((repeat with_reducible refine Blk.drew ?_); exact Blk.new' (by first | rfl | (simp; done)))); rw [H2.out]; rintro e w1 ⟨rfl, rfl⟩) | (go_at_call 27; (with_reducible refine (f_need_no _ _).mono ?_); rintro e w1 ⟨rfl, rfl⟩; refine done_any (P := Tryz.prog) (a := ⟨#[], []⟩) (w := w) ⟨rfl, rfl, by (exact kpt)⟩ ?_)) | fail
  all_goals trivial
theorem f_cell_no (s : Nat) (ad : Option Addr) (cp : Nat) (p : Plant) (d : Deed) (w : World) (hs : Blk w s #[.slice ad p.cells.length cp, .int .i64 p.bottles, .int .i64 p.inH, .int .i64 p.inA, .int .i64 p.vH, .int .i64 p.vA, .int .i64 p.lH, .int .i64 p.lA, .int .i64 p.pH, .int .i64 p.pA] 77) (hn : p.cells.length ≤ 12) (h : argB p d = false) :
    Calls Tryz.prog 57 #[.pointer (some ⟨s, 0, none⟩), .agg #[.int .u8 d.kind, .int .i64 d.cell, .int .i64 d.to, .int .i64 d.n]] w fun e w' => e = .panicked [{ v := refusal 2, recovered := false }] ∧ Kept w w' := by
  cases h1 : rng [d.cell] 0 (p.cells.length - 1)
  · exact f_cell_no1 s ad cp p d w hs hn h1
  · exact f_cell_no2 s ad cp p d w hs hn h1 (by simpa [argB, h1] using h)
theorem f_cell_ok (s g cp : Nat) (p : Plant) (d : Deed) (w : World) (hs : Blk w s #[.slice (some ⟨g, 0, none⟩) p.cells.length cp, .int .i64 p.bottles, .int .i64 p.inH, .int .i64 p.inA, .int .i64 p.vH, .int .i64 p.vA, .int .i64 p.lH, .int .i64 p.lA, .int .i64 p.pH, .int .i64 p.pA] 77) (hn : p.cells.length ≤ 12) (h : argB p d = true) :
    Calls Tryz.prog 57 #[.pointer (some ⟨s, 0, none⟩), .agg #[.int .u8 d.kind, .int .i64 d.cell, .int .i64 d.to, .int .i64 d.n]] w fun e w' => e = .returned (.pointer (some ⟨g, d.cell.toNat * 7, none⟩)) ∧ Kept w w' := by
  have h1 : rng [d.cell] 0 (p.cells.length - 1) = true := by unfold argB at h; simp only [Bool.and_eq_true] at h; exact h.1
  have h2 : rng [d.n] 1 10000000 = true := by unfold argB at h; simp only [Bool.and_eq_true] at h; exact h.2
  have hb : 0 ≤ d.cell ∧ d.cell ≤ p.cells.length - 1 := by simpa [rng, inB] using h1
  obtain ⟨hb0, hb1⟩ := hb
  have hb2 : d.cell < p.cells.length := by omega
  have H1 := Lib.hid h1
  have H2 := Lib.hid h2
  clear h h1 h2
  have hwl := i64_inx (n := (p.cells.length : Int) - 1) (by omega)
  go_enter Tryz.func57, Tryz.ntmps57
  go_upto_region 1 with fail
  refine at_world (S := fun W => Blk W w.heap.size #[.int .u8 d.kind, .int .i64 d.cell, .int .i64 d.to, .int .i64 d.n] 44 ∧ Kept w W) ⟨by (exact blkc), by (exact kpt)⟩ ?_
  rintro W ⟨r0, hk⟩
  have hsW := hs.keep hk
  have r0c0 := r0.cell 0
  have r0f0 := r0.free 0
  have r0c1 := r0.cell 1
  have r0f1 := r0.free 1
  have r0c2 := r0.cell 2
  have r0f2 := r0.free 2
  have r0c3 := r0.cell 3
  have r0f3 := r0.free 3
  have r0l := r0.lt
  simp at r0c0 r0c1 r0c2 r0c3
  have hsWc0 := hsW.cell 0
  have hsWf0 := hsW.free 0
  have hsWc1 := hsW.cell 1
  have hsWf1 := hsW.free 1
  have hsWc2 := hsW.cell 2
  have hsWf2 := hsW.free 2
  have hsWc3 := hsW.cell 3
  have hsWf3 := hsW.free 3
  have hsWc4 := hsW.cell 4
  have hsWf4 := hsW.free 4
  have hsWc5 := hsW.cell 5
  have hsWf5 := hsW.free 5
  have hsWc6 := hsW.cell 6
  have hsWf6 := hsW.free 6
  have hsWc7 := hsW.cell 7
  have hsWf7 := hsW.free 7
  have hsWc8 := hsW.cell 8
  have hsWf8 := hsW.free 8
  have hsWc9 := hsW.cell 9
  have hsWf9 := hsW.free 9
  have hsWl := hsW.lt
  simp at hsWc0 hsWc1 hsWc2 hsWc3 hsWc4 hsWc5 hsWc6 hsWc7 hsWc8 hsWc9

  go_cut [] (fun wx => Blk wx w.heap.size #[.int .u8 d.kind, .int .i64 d.cell, .int .i64 d.to, .int .i64 d.n] 44 ∧ Blk wx s #[.slice (some ⟨g, 0, none⟩) p.cells.length cp, .int .i64 p.bottles, .int .i64 p.inH, .int .i64 p.inA, .int .i64 p.vH, .int .i64 p.vA, .int .i64 p.lH, .int .i64 p.lA, .int .i64 p.pH, .int .i64 p.pA] 77 ∧ Kept w wx)
  case first =>
    first | go_region_with (first | (go_at_call 28; (with_reducible refine (f_ranged1B _ _ d.cell _ _ ?_).mono ?_); (focus ((repeat with_reducible refine Blk.drew ?_); exact Blk.new' (by first | rfl | (simp; done)))); rw [H1.out]; rintro e w1 ⟨rfl, rfl⟩) | (go_at_call 28; (with_reducible refine (f_ranged1B _ _ d.n _ _ ?_).mono ?_); (focus ((repeat with_reducible refine Blk.drew ?_); exact Blk.new' (by first | rfl | (simp; done)))); rw [H2.out]; rintro e w1 ⟨rfl, rfl⟩) | (go_at_call 27; (with_reducible refine (f_need_ok _ _).mono ?_); rintro e w1 ⟨rfl, rfl⟩)) | fail
    all_goals (go_wp2_with fail; go_meet)
    all_goals (first | exact ⟨(((r0.alloc _).alloc _).drew), (((hsW.alloc _).alloc _).drew), by (exact kpt)⟩ | exact ⟨(((r0.drew.alloc _).alloc _)), (((hsW.drew.alloc _).alloc _)), by (exact kpt)⟩ | trace_state)
  case rest =>
    clear hk r0 hsW r0c0 r0f0 r0c1 r0f1 r0c2 r0f2 r0c3 r0f3 hsWc0 hsWf0 hsWc1 hsWf1 hsWc2 hsWf2 hsWc3 hsWf3 hsWc4 hsWf4 hsWc5 hsWf5 hsWc6 hsWf6 hsWc7 hsWf7 hsWc8 hsWf8 hsWc9 hsWf9 r0l hsWl
    go_upto_region 2 with fail
    refine at_world (S := fun W2 => Blk W2 w.heap.size #[.int .u8 d.kind, .int .i64 d.cell, .int .i64 d.to, .int .i64 d.n] 44 ∧ Blk W2 s #[.slice (some ⟨g, 0, none⟩) p.cells.length cp, .int .i64 p.bottles, .int .i64 p.inH, .int .i64 p.inA, .int .i64 p.vH, .int .i64 p.vA, .int .i64 p.lH, .int .i64 p.lA, .int .i64 p.pH, .int .i64 p.pA] 77 ∧ Kept w W2) hcut ?_
    clear hcut
    rintro W2 ⟨r0, hsW, hk⟩
    have r0c0 := fun g : Later W2 => (r0.later g).cell 0
    have r0f0 := fun g : Later W2 => (r0.later g).free 0
    have r0c1 := fun g : Later W2 => (r0.later g).cell 1
    have r0f1 := fun g : Later W2 => (r0.later g).free 1
    have r0c2 := fun g : Later W2 => (r0.later g).cell 2
    have r0f2 := fun g : Later W2 => (r0.later g).free 2
    have r0c3 := fun g : Later W2 => (r0.later g).cell 3
    have r0f3 := fun g : Later W2 => (r0.later g).free 3
    have r0l := fun g : Later W2 => (r0.later g).lt
    simp at r0c0 r0c1 r0c2 r0c3
    have hsWc0 := fun g : Later W2 => (hsW.later g).cell 0
    have hsWf0 := fun g : Later W2 => (hsW.later g).free 0
    have hsWc1 := fun g : Later W2 => (hsW.later g).cell 1
    have hsWf1 := fun g : Later W2 => (hsW.later g).free 1
    have hsWc2 := fun g : Later W2 => (hsW.later g).cell 2
    have hsWf2 := fun g : Later W2 => (hsW.later g).free 2
    have hsWc3 := fun g : Later W2 => (hsW.later g).cell 3
    have hsWf3 := fun g : Later W2 => (hsW.later g).free 3
    have hsWc4 := fun g : Later W2 => (hsW.later g).cell 4
    have hsWf4 := fun g : Later W2 => (hsW.later g).free 4
    have hsWc5 := fun g : Later W2 => (hsW.later g).cell 5
    have hsWf5 := fun g : Later W2 => (hsW.later g).free 5
    have hsWc6 := fun g : Later W2 => (hsW.later g).cell 6
    have hsWf6 := fun g : Later W2 => (hsW.later g).free 6
    have hsWc7 := fun g : Later W2 => (hsW.later g).cell 7
    have hsWf7 := fun g : Later W2 => (hsW.later g).free 7
    have hsWc8 := fun g : Later W2 => (hsW.later g).cell 8
    have hsWf8 := fun g : Later W2 => (hsW.later g).free 8
    have hsWc9 := fun g : Later W2 => (hsW.later g).cell 9
    have hsWf9 := fun g : Later W2 => (hsW.later g).free 9
    have hsWl := fun g : Later W2 => (hsW.later g).lt
    simp at hsWc0 hsWc1 hsWc2 hsWc3 hsWc4 hsWc5 hsWc6 hsWc7 hsWc8 hsWc9
    refine Later.region (by kernel_rfl) (by kernel_rfl) ?_
    repeat (first | go_big_quiet_skip | (go_big_quiet_want; go_big_quiet_op; first | go_big_quiet_on | (apply Exists.intro; refine ⟨fun g => ?_, ?_⟩; (focus (first | fail)); go_big_quiet_on)))
    refine wpQuiet_nil ?_
    intro gh
    have hkh := Kept.drop hk gh.ok
    go_wp2
    go_ret
    exact ⟨rfl, hkh⟩

end Go.Proofs.YtamnnjdfjffhlaaGreatDoor

/-
  Acts on a plant at work: buy, fill, breathe.
-/
namespace Go.Proofs.YtamnnjdfjffhlaaGreatDoor
open Go.RowKit Bal Bal.Trim Bal.Gas
set_option linter.unusedVariables false
set_option linter.unusedSimpArgs false
set_option maxHeartbeats 4000000
set_option maxRecDepth 10000

theorem f_buy_no {B s cp : Nat} {ad : Option Addr} {p : Plant} {w : World} (d : Deed) (h : Shop 37 77 B w s ad cp p) (hp : plantB p = true) (he : rng [d.n] 1 10000000 = false) : Calls Tryz.prog 20 #[.pointer (some ⟨s, 0, none⟩), .agg #[.int .u8 d.kind, .int .i64 d.cell, .int .i64 d.to, .int .i64 d.n]] w fun e w' => e = .panicked [{ v := refusal 2, recovered := false }] ∧ Kept w w' := by
  have H1 := Lib.hid he
  clear he
  go_enter Tryz.func20, Tryz.ntmps20
  go_wp2_with (first | (go_at_call 28; (with_reducible refine (f_ranged1 _ _ d.n _ _ _ (by simp)).mono ?_); rw [H1.out]; rintro e w1 ⟨rfl, rfl⟩) | (go_at_call 27; (with_reducible refine (f_need_no _ _).mono ?_); rintro e w1 ⟨rfl, rfl⟩))
  exact ⟨rfl, rfl, by (exact kpt)⟩
theorem f_buy_ok {B s cp : Nat} {ad : Option Addr} {p : Plant} {w : World} (d : Deed) (h : Shop 37 77 B w s ad cp p) (hp : plantB p = true) (he : rng [d.n] 1 10000000 = true) : Calls Tryz.prog 20 #[.pointer (some ⟨s, 0, none⟩), .agg #[.int .u8 d.kind, .int .i64 d.cell, .int .i64 d.to, .int .i64 d.n]] w fun e w' => e = .returned (.tuple #[]) ∧ Shop 37 77 B w' s ad cp (buyP p d) ∧ Below B w w' := by
  have hn : 1 ≤ d.n ∧ d.n ≤ 10000000 := by simpa [rng, inB] using he
  obtain ⟨_, hb1, hb2, _⟩ := plantB_iff.1 hp
  have H1 := Lib.hid he
  clear he hp
  obtain ⟨hB, hs, hm⟩ := h
  have hBw : B ≤ w.heap.size := by have := hs.lt; omega
  go_enter Tryz.func20, Tryz.ntmps20
  go_upto_region 2 with (first | (go_at_call 28; (with_reducible refine (f_ranged1 _ _ d.n _ _ _ (by simp)).mono ?_); rw [H1.out]; rintro e w1 ⟨rfl, rfl⟩) | (go_at_call 27; (with_reducible refine (f_need_ok _ _).mono ?_); rintro e w1 ⟨rfl, rfl⟩))
  refine at_world (S := fun W => Blk W w.heap.size #[.int .u8 d.kind, .int .i64 d.cell, .int .i64 d.to, .int .i64 d.n] 44 ∧ Blk W s #[.slice ad p.cells.length cp, .int .i64 (p.bottles), .int .i64 (p.inH), .int .i64 (p.inA), .int .i64 (p.vH), .int .i64 (p.vA), .int .i64 (p.lH), .int .i64 (p.lA), .int .i64 (p.pH), .int .i64 (p.pA)] 77 ∧ Mine 37 B W (.slice ad p.cells.length cp) p.cells ∧ Kept w W) ⟨by (exact blkc), hs.keep (by (exact kpt)), hm.keep (by (exact kpt)), by (exact kpt)⟩ ?_
  rintro W ⟨r0, hsW, hmW, hk⟩
  have r0c0 := fun g : Later W => (r0.later g).cell 0
  have r0f0 := fun g : Later W => (r0.later g).free 0
  have r0c1 := fun g : Later W => (r0.later g).cell 1
  have r0f1 := fun g : Later W => (r0.later g).free 1
  have r0c2 := fun g : Later W => (r0.later g).cell 2
  have r0f2 := fun g : Later W => (r0.later g).free 2
  have r0c3 := fun g : Later W => (r0.later g).cell 3
  have r0f3 := fun g : Later W => (r0.later g).free 3
  have r0l := fun g : Later W => (r0.later g).lt
  simp at r0c0 r0c1 r0c2 r0c3
  have hsWc0 := fun g : Later W => (hsW.later g).cell 0
  have hsWf0 := fun g : Later W => (hsW.later g).free 0
  have hsWc1 := fun g : Later W => (hsW.later g).cell 1
  have hsWf1 := fun g : Later W => (hsW.later g).free 1
  have hsWc2 := fun g : Later W => (hsW.later g).cell 2
  have hsWf2 := fun g : Later W => (hsW.later g).free 2
  have hsWc3 := fun g : Later W => (hsW.later g).cell 3
  have hsWf3 := fun g : Later W => (hsW.later g).free 3
  have hsWc4 := fun g : Later W => (hsW.later g).cell 4
  have hsWf4 := fun g : Later W => (hsW.later g).free 4
  have hsWc5 := fun g : Later W => (hsW.later g).cell 5
  have hsWf5 := fun g : Later W => (hsW.later g).free 5
  have hsWc6 := fun g : Later W => (hsW.later g).cell 6
  have hsWf6 := fun g : Later W => (hsW.later g).free 6
  have hsWc7 := fun g : Later W => (hsW.later g).cell 7
  have hsWf7 := fun g : Later W => (hsW.later g).free 7
  have hsWc8 := fun g : Later W => (hsW.later g).cell 8
  have hsWf8 := fun g : Later W => (hsW.later g).free 8
  have hsWc9 := fun g : Later W => (hsW.later g).cell 9
  have hsWf9 := fun g : Later W => (hsW.later g).free 9
  have hsWl := fun g : Later W => (hsW.later g).lt
  simp at hsWc0 hsWc1 hsWc2 hsWc3 hsWc4 hsWc5 hsWc6 hsWc7 hsWc8 hsWc9
  refine Later.tail 11 (by kernel_rfl) (by kernel_rfl) ?_
  simp only [List.take_succ_cons, List.take_zero, List.drop_succ_cons, List.drop_zero]
  repeat (first | go_big_quiet_skip | (go_big_quiet_want; go_big_quiet_op; first | go_big_quiet_on | (apply Exists.intro; refine ⟨fun g_ => ?_, ?_⟩; (focus (first | fail)); go_big_quiet_on)))
  refine wpQuiet_nil ?_
  intro gg
  refine wpList_plain rfl fun K1 hK1 => ?_
  have q0 := r0.later gg
  have q1 := hsW.later gg
  clear r0c0 r0f0 r0c1 r0f1 r0c2 r0f2 r0c3 r0f3 r0l hsWc0 hsWf0 hsWc1 hsWf1 hsWc2 hsWf2 hsWc3 hsWf3 hsWc4 hsWf4 hsWc5 hsWf5 hsWc6 hsWf6 hsWc7 hsWf7 hsWc8 hsWf8 hsWc9 hsWf9 hsWl
  have q0c0 := q0.cell 0
  have q0f0 := q0.free 0
  have q0c1 := q0.cell 1
  have q0f1 := q0.free 1
  have q0c2 := q0.cell 2
  have q0f2 := q0.free 2
  have q0c3 := q0.cell 3
  have q0f3 := q0.free 3
  have q0l := q0.lt
  simp at q0c0 q0c1 q0c2 q0c3
  have q1c0 := q1.cell 0
  have q1f0 := q1.free 0
  have q1c1 := q1.cell 1
  have q1f1 := q1.free 1
  have q1c2 := q1.cell 2
  have q1f2 := q1.free 2
  have q1c3 := q1.cell 3
  have q1f3 := q1.free 3
  have q1c4 := q1.cell 4
  have q1f4 := q1.free 4
  have q1c5 := q1.cell 5
  have q1f5 := q1.free 5
  have q1c6 := q1.cell 6
  have q1f6 := q1.free 6
  have q1c7 := q1.cell 7
  have q1f7 := q1.free 7
  have q1c8 := q1.cell 8
  have q1f8 := q1.free 8
  have q1c9 := q1.cell 9
  have q1f9 := q1.free 9
  have q1l := q1.lt
  simp at q1c0 q1c1 q1c2 q1c3 q1c4 q1c5 q1c6 q1c7 q1c8 q1c9
  go_wp2
  refine at_world (S := fun X => Blk X w.heap.size #[.int .u8 d.kind, .int .i64 d.cell, .int .i64 d.to, .int .i64 d.n] 44 ∧ Blk X s #[.slice ad p.cells.length cp, .int .i64 (p.bottles + d.n), .int .i64 (p.inH), .int .i64 (p.inA), .int .i64 (p.vH), .int .i64 (p.vA), .int .i64 (p.lH), .int .i64 (p.lA), .int .i64 (p.pH), .int .i64 (p.pA)] 77 ∧ Mine 37 B X (.slice ad p.cells.length cp) p.cells ∧ Below B w X ∧ w.heap.size ≤ X.heap.size) ⟨by (exact blkc), q1.set 1 _, (hmW.keep gg.ok).other q1 (by decide) _, ((hk.mono (by have := hs.lt; omega)).trans (gg.ok.mono (by have := hsW.lt; omega))).setCell hB _, Nat.le_trans hk.size (Nat.le_trans gg.ok.size (by simp))⟩ ?_
  rintro X ⟨r0, hsX, hmX, hbX, hzX⟩
  clear q0c0 q0f0 q0c1 q0f1 q0c2 q0f2 q0c3 q0f3 q0l q1c0 q1f0 q1c1 q1f1 q1c2 q1f2 q1c3 q1f3 q1c4 q1f4 q1c5 q1f5 q1c6 q1f6 q1c7 q1f7 q1c8 q1f8 q1c9 q1f9 q1l q0 q1
  have r0c0 := fun g : Later X => (r0.later g).cell 0
  have r0f0 := fun g : Later X => (r0.later g).free 0
  have r0c1 := fun g : Later X => (r0.later g).cell 1
  have r0f1 := fun g : Later X => (r0.later g).free 1
  have r0c2 := fun g : Later X => (r0.later g).cell 2
  have r0f2 := fun g : Later X => (r0.later g).free 2
  have r0c3 := fun g : Later X => (r0.later g).cell 3
  have r0f3 := fun g : Later X => (r0.later g).free 3
  have r0l := fun g : Later X => (r0.later g).lt
  simp at r0c0 r0c1 r0c2 r0c3
  have hsXc0 := fun g : Later X => (hsX.later g).cell 0
  have hsXf0 := fun g : Later X => (hsX.later g).free 0
  have hsXc1 := fun g : Later X => (hsX.later g).cell 1
  have hsXf1 := fun g : Later X => (hsX.later g).free 1
  have hsXc2 := fun g : Later X => (hsX.later g).cell 2
  have hsXf2 := fun g : Later X => (hsX.later g).free 2
  have hsXc3 := fun g : Later X => (hsX.later g).cell 3
  have hsXf3 := fun g : Later X => (hsX.later g).free 3
  have hsXc4 := fun g : Later X => (hsX.later g).cell 4
  have hsXf4 := fun g : Later X => (hsX.later g).free 4
  have hsXc5 := fun g : Later X => (hsX.later g).cell 5
  have hsXf5 := fun g : Later X => (hsX.later g).free 5
  have hsXc6 := fun g : Later X => (hsX.later g).cell 6
  have hsXf6 := fun g : Later X => (hsX.later g).free 6
  have hsXc7 := fun g : Later X => (hsX.later g).cell 7
  have hsXf7 := fun g : Later X => (hsX.later g).free 7
  have hsXc8 := fun g : Later X => (hsX.later g).cell 8
  have hsXf8 := fun g : Later X => (hsX.later g).free 8
  have hsXc9 := fun g : Later X => (hsX.later g).cell 9
  have hsXf9 := fun g : Later X => (hsX.later g).free 9
  have hsXl := fun g : Later X => (hsX.later g).lt
  simp at hsXc0 hsXc1 hsXc2 hsXc3 hsXc4 hsXc5 hsXc6 hsXc7 hsXc8 hsXc9
  refine Later.tail 13 (by kernel_rfl) (by kernel_rfl) ?_
  simp only [List.take_succ_cons, List.take_zero, List.drop_succ_cons, List.drop_zero]
  repeat (first | go_big_quiet_skip | (go_big_quiet_want; go_big_quiet_op; first | go_big_quiet_on | (apply Exists.intro; refine ⟨fun g_ => ?_, ?_⟩; (focus (first | fail)); go_big_quiet_on)))
  refine wpQuiet_nil ?_
  intro gh
  refine wpList_plain rfl fun K1 hK1 => ?_
  have z1 := hsX.later gh
  have z1c0 := z1.cell 0
  have z1f0 := z1.free 0
  have z1c1 := z1.cell 1
  have z1f1 := z1.free 1
  have z1c2 := z1.cell 2
  have z1f2 := z1.free 2
  have z1c3 := z1.cell 3
  have z1f3 := z1.free 3
  have z1c4 := z1.cell 4
  have z1f4 := z1.free 4
  have z1c5 := z1.cell 5
  have z1f5 := z1.free 5
  have z1c6 := z1.cell 6
  have z1f6 := z1.free 6
  have z1c7 := z1.cell 7
  have z1f7 := z1.free 7
  have z1c8 := z1.cell 8
  have z1f8 := z1.free 8
  have z1c9 := z1.cell 9
  have z1f9 := z1.free 9
  have z1l := z1.lt
  simp at z1c0 z1c1 z1c2 z1c3 z1c4 z1c5 z1c6 z1c7 z1c8 z1c9
  clear r0c0 r0f0 r0c1 r0f1 r0c2 r0f2 r0c3 r0f3 r0l hsXc0 hsXf0 hsXc1 hsXf1 hsXc2 hsXf2 hsXc3 hsXf3 hsXc4 hsXf4 hsXc5 hsXf5 hsXc6 hsXf6 hsXc7 hsXf7 hsXc8 hsXf8 hsXc9 hsXf9 hsXl
  go_wp2
  go_end0
  refine ⟨rfl, ⟨hB, ?_, ?_⟩, ?_⟩
  · exact z1.set 2 _
  · exact (hmX.keep gh.ok).other z1 (by decide) _
  · exact (hbX.trans (gh.ok.mono (by omega))).setCell hB _

theorem f_fill_no1 {B s cp : Nat} {ad : Option Addr} {p : Plant} {w : World} (d : Deed) (h : Shop 37 77 B w s ad cp p) (hp : plantB p = true) (ha : argB p d = false) : Calls Tryz.prog 21 #[.pointer (some ⟨s, 0, none⟩), .agg #[.int .u8 d.kind, .int .i64 d.cell, .int .i64 d.to, .int .i64 d.n]] w fun e w' => e = .panicked [{ v := refusal 2, recovered := false }] ∧ Kept w w' := by
  have hn12 : p.cells.length ≤ 12 := (plantB_iff.1 hp).1
  have HA := Lib.hid ha
  obtain ⟨hB, hs, hm⟩ := h
  clear ha hp
  go_enter Tryz.func21, Tryz.ntmps21
  go_wp2_with (first | (go_at_call 57; (with_reducible refine (f_cell_no s ad cp p d _ (hs.keep (by (exact kpt))) hn12 HA.out).mono ?_); rintro e w1 ⟨rfl, hb1⟩))
  exact ⟨rfl, rfl, by (exact kpt)⟩
theorem f_fill_no2 {B s cp : Nat} {ad : Option Addr} {p : Plant} {w : World} (d : Deed) (h : Shop 37 77 B w s ad cp p) (hp : plantB p = true) (ha : argB p d = true) (ht : p.bottles < d.n) : Calls Tryz.prog 21 #[.pointer (some ⟨s, 0, none⟩), .agg #[.int .u8 d.kind, .int .i64 d.cell, .int .i64 d.to, .int .i64 d.n]] w fun e w' => e = .panicked [{ v := refusal 6, recovered := false }] ∧ Kept w w' := by
  have hn12 : p.cells.length ≤ 12 := (plantB_iff.1 hp).1
  have hb := plantB_iff.1 hp
  have hi : d.cell.toNat < p.cells.length := by
    have h1 : rng [d.cell] 0 (p.cells.length - 1) = true := by unfold argB at ha; simp only [Bool.and_eq_true] at ha; exact ha.1
    have : 0 ≤ d.cell ∧ d.cell ≤ p.cells.length - 1 := by simpa [rng, inB] using h1
    omega
  have hn : 1 ≤ d.n ∧ d.n ≤ 10000000 := by
    have h1 : rng [d.n] 1 10000000 = true := by unfold argB at ha; simp only [Bool.and_eq_true] at ha; exact ha.2
    simpa [rng, inB] using h1
  have hcv : cellB p.cells[d.cell.toNat] = true := hb.2.2.2.2.2.2.1 _ (List.getElem_mem hi)
  have hat : at_ p d = p.cells[d.cell.toNat] := cellAt_get hi
  have HA := Lib.hid ha
  obtain ⟨hB, hs, hm⟩ := h
  have hBw : B ≤ w.heap.size := by have := hs.lt; omega
  obtain ⟨g, _, rfl, hBg, hbg, _⟩ := hm.at hi
  have hgl := hbg.lt
  clear hbg
  obtain ⟨x, hx⟩ : ∃ x, x = p.cells[d.cell.toNat] := ⟨_, rfl⟩
  have HX := Lib.hid (show p.cells[d.cell.toNat]? = some x by rw [hx]; simp [hi])
  rw [← hx] at hcv hat
  have hxb := cellB_iff.1 hcv
  have HAT := Lib.hid hat
  have HXX := Lib.hid hx
  clear ha hat hx
  have hlt : decide (d.n ≤ p.bottles) = false := by simp; omega
  clear hp hb
  go_enter Tryz.func21, Tryz.ntmps21
  go_upto_region 2 with (first | (go_at_call 57; (with_reducible refine (f_cell_ok s g cp p d _ (hs.keep (by (exact kpt))) hn12 HA.out).mono ?_); rintro e w1 ⟨rfl, hb1⟩; refine Blk.thru (b := w.heap.size) (arr := ?_) (t := ?_) ?_ hb1 ?_; rotate_left 2; (focus (exact blk)); intro rr; have rrc0 := rr.cell 0; have rrf0 := rr.free 0; have rrc1 := rr.cell 1; have rrf1 := rr.free 1; have rrc2 := rr.cell 2; have rrf2 := rr.free 2; have rrc3 := rr.cell 3; have rrf3 := rr.free 3; have rrl := rr.lt; simp at rrc0 rrc1 rrc2 rrc3; obtain ⟨hc1, hf1, hl1⟩ := bcell3 hb1))
  refine at_world (S := fun W => Blk W w.heap.size #[.int .u8 d.kind, .int .i64 d.cell, .int .i64 d.to, .int .i64 d.n] 44 ∧ Blk W s #[.slice (some ⟨g, 0, none⟩) p.cells.length cp, .int .i64 (p.bottles), .int .i64 (p.inH), .int .i64 (p.inA), .int .i64 (p.vH), .int .i64 (p.vA), .int .i64 (p.lH), .int .i64 (p.lA), .int .i64 (p.pH), .int .i64 (p.pA)] 77 ∧ Mine 37 B W (.slice (some ⟨g, 0, none⟩) p.cells.length cp) p.cells ∧ Kept w W) ⟨by (exact blkc), hs.keep (by (exact kpt)), hm.keep (by (exact kpt)), by (exact kpt)⟩ ?_
  rintro W ⟨r0, hsW, hmW, hk⟩
  have r0c0 := fun g : Later W => (r0.later g).cell 0
  have r0f0 := fun g : Later W => (r0.later g).free 0
  have r0c1 := fun g : Later W => (r0.later g).cell 1
  have r0f1 := fun g : Later W => (r0.later g).free 1
  have r0c2 := fun g : Later W => (r0.later g).cell 2
  have r0f2 := fun g : Later W => (r0.later g).free 2
  have r0c3 := fun g : Later W => (r0.later g).cell 3
  have r0f3 := fun g : Later W => (r0.later g).free 3
  have r0l := fun g : Later W => (r0.later g).lt
  simp at r0c0 r0c1 r0c2 r0c3
  have hsWc0 := fun g : Later W => (hsW.later g).cell 0
  have hsWf0 := fun g : Later W => (hsW.later g).free 0
  have hsWc1 := fun g : Later W => (hsW.later g).cell 1
  have hsWf1 := fun g : Later W => (hsW.later g).free 1
  have hsWc2 := fun g : Later W => (hsW.later g).cell 2
  have hsWf2 := fun g : Later W => (hsW.later g).free 2
  have hsWc3 := fun g : Later W => (hsW.later g).cell 3
  have hsWf3 := fun g : Later W => (hsW.later g).free 3
  have hsWc4 := fun g : Later W => (hsW.later g).cell 4
  have hsWf4 := fun g : Later W => (hsW.later g).free 4
  have hsWc5 := fun g : Later W => (hsW.later g).cell 5
  have hsWf5 := fun g : Later W => (hsW.later g).free 5
  have hsWc6 := fun g : Later W => (hsW.later g).cell 6
  have hsWf6 := fun g : Later W => (hsW.later g).free 6
  have hsWc7 := fun g : Later W => (hsW.later g).cell 7
  have hsWf7 := fun g : Later W => (hsW.later g).free 7
  have hsWc8 := fun g : Later W => (hsW.later g).cell 8
  have hsWf8 := fun g : Later W => (hsW.later g).free 8
  have hsWc9 := fun g : Later W => (hsW.later g).cell 9
  have hsWf9 := fun g : Later W => (hsW.later g).free 9
  have hsWl := fun g : Later W => (hsW.later g).lt
  simp at hsWc0 hsWc1 hsWc2 hsWc3 hsWc4 hsWc5 hsWc6 hsWc7 hsWc8 hsWc9
  refine Later.tail 8 (by kernel_rfl) (by kernel_rfl) ?_
  simp only [List.take_succ_cons, List.take_zero, List.drop_succ_cons, List.drop_zero]
  repeat (first | go_big_quiet_skip | (go_big_quiet_want; go_big_quiet_op; first | go_big_quiet_on | (apply Exists.intro; refine ⟨fun g_ => ?_, ?_⟩; (focus (first | fail)); go_big_quiet_on)))
  refine wpQuiet_nil ?_
  intro gg
  refine wpList_plain rfl fun K1 hK1 => ?_
  have hkg := Kept.drop hk gg.ok
  go_wp2_with (first | (go_at_call 27; (with_reducible refine (f_need_no _ _).mono ?_); rintro e w1 ⟨rfl, rfl⟩))
  exact ⟨rfl, rfl, hkg⟩
theorem f_fill_ok {B s cp : Nat} {ad : Option Addr} {p : Plant} {w : World} (d : Deed) (h : Shop 37 77 B w s ad cp p) (hp : plantB p = true) (ha : argB p d = true) (ht : d.n ≤ p.bottles) : Calls Tryz.prog 21 #[.pointer (some ⟨s, 0, none⟩), .agg #[.int .u8 d.kind, .int .i64 d.cell, .int .i64 d.to, .int .i64 d.n]] w fun e w' => e = .returned (.tuple #[]) ∧ Shop 37 77 B w' s ad cp (fillP p d) ∧ Below B w w' := by
  have hn12 : p.cells.length ≤ 12 := (plantB_iff.1 hp).1
  have hb := plantB_iff.1 hp
  have hi : d.cell.toNat < p.cells.length := by
    have h1 : rng [d.cell] 0 (p.cells.length - 1) = true := by unfold argB at ha; simp only [Bool.and_eq_true] at ha; exact ha.1
    have : 0 ≤ d.cell ∧ d.cell ≤ p.cells.length - 1 := by simpa [rng, inB] using h1
    omega
  have hn : 1 ≤ d.n ∧ d.n ≤ 10000000 := by
    have h1 : rng [d.n] 1 10000000 = true := by unfold argB at ha; simp only [Bool.and_eq_true] at ha; exact ha.2
    simpa [rng, inB] using h1
  have hcv : cellB p.cells[d.cell.toNat] = true := hb.2.2.2.2.2.2.1 _ (List.getElem_mem hi)
  have hat : at_ p d = p.cells[d.cell.toNat] := cellAt_get hi
  have HA := Lib.hid ha
  obtain ⟨hB, hs, hm⟩ := h
  have hBw : B ≤ w.heap.size := by have := hs.lt; omega
  obtain ⟨g, _, rfl, hBg, hbg, _⟩ := hm.at hi
  have hgl := hbg.lt
  clear hbg
  obtain ⟨x, hx⟩ : ∃ x, x = p.cells[d.cell.toNat] := ⟨_, rfl⟩
  have HX := Lib.hid (show p.cells[d.cell.toNat]? = some x by rw [hx]; simp [hi])
  rw [← hx] at hcv hat
  have hxb := cellB_iff.1 hcv
  have HAT := Lib.hid hat
  have HXX := Lib.hid hx
  clear ha hat hx
  have hlt : decide (d.n ≤ p.bottles) = true := by simp; omega
  obtain ⟨_, hb1, hb2, _⟩ := hb
  clear hp
  go_enter Tryz.func21, Tryz.ntmps21
  go_upto_region 2 with (first | (go_at_call 57; (with_reducible refine (f_cell_ok s g cp p d _ (hs.keep (by (exact kpt))) hn12 HA.out).mono ?_); rintro e w1 ⟨rfl, hb1⟩; refine Blk.thru (b := w.heap.size) (arr := ?_) (t := ?_) ?_ hb1 ?_; rotate_left 2; (focus (exact blk)); intro rr; have rrc0 := rr.cell 0; have rrf0 := rr.free 0; have rrc1 := rr.cell 1; have rrf1 := rr.free 1; have rrc2 := rr.cell 2; have rrf2 := rr.free 2; have rrc3 := rr.cell 3; have rrf3 := rr.free 3; have rrl := rr.lt; simp at rrc0 rrc1 rrc2 rrc3; obtain ⟨hc1, hf1, hl1⟩ := bcell3 hb1))
  refine at_world (S := fun W => Blk W w.heap.size #[.int .u8 d.kind, .int .i64 d.cell, .int .i64 d.to, .int .i64 d.n] 44 ∧ Blk W s #[.slice (some ⟨g, 0, none⟩) p.cells.length cp, .int .i64 (p.bottles), .int .i64 (p.inH), .int .i64 (p.inA), .int .i64 (p.vH), .int .i64 (p.vA), .int .i64 (p.lH), .int .i64 (p.lA), .int .i64 (p.pH), .int .i64 (p.pA)] 77 ∧ Mine 37 B W (.slice (some ⟨g, 0, none⟩) p.cells.length cp) p.cells ∧ Kept w W) ⟨by (exact blkc), hs.keep (by (exact kpt)), hm.keep (by (exact kpt)), by (exact kpt)⟩ ?_
  rintro W ⟨r0, hsW, hmW, hk⟩
  have r0c0 := fun g : Later W => (r0.later g).cell 0
  have r0f0 := fun g : Later W => (r0.later g).free 0
  have r0c1 := fun g : Later W => (r0.later g).cell 1
  have r0f1 := fun g : Later W => (r0.later g).free 1
  have r0c2 := fun g : Later W => (r0.later g).cell 2
  have r0f2 := fun g : Later W => (r0.later g).free 2
  have r0c3 := fun g : Later W => (r0.later g).cell 3
  have r0f3 := fun g : Later W => (r0.later g).free 3
  have r0l := fun g : Later W => (r0.later g).lt
  simp at r0c0 r0c1 r0c2 r0c3
  have hsWc0 := fun g : Later W => (hsW.later g).cell 0
  have hsWf0 := fun g : Later W => (hsW.later g).free 0
  have hsWc1 := fun g : Later W => (hsW.later g).cell 1
  have hsWf1 := fun g : Later W => (hsW.later g).free 1
  have hsWc2 := fun g : Later W => (hsW.later g).cell 2
  have hsWf2 := fun g : Later W => (hsW.later g).free 2
  have hsWc3 := fun g : Later W => (hsW.later g).cell 3
  have hsWf3 := fun g : Later W => (hsW.later g).free 3
  have hsWc4 := fun g : Later W => (hsW.later g).cell 4
  have hsWf4 := fun g : Later W => (hsW.later g).free 4
  have hsWc5 := fun g : Later W => (hsW.later g).cell 5
  have hsWf5 := fun g : Later W => (hsW.later g).free 5
  have hsWc6 := fun g : Later W => (hsW.later g).cell 6
  have hsWf6 := fun g : Later W => (hsW.later g).free 6
  have hsWc7 := fun g : Later W => (hsW.later g).cell 7
  have hsWf7 := fun g : Later W => (hsW.later g).free 7
  have hsWc8 := fun g : Later W => (hsW.later g).cell 8
  have hsWf8 := fun g : Later W => (hsW.later g).free 8
  have hsWc9 := fun g : Later W => (hsW.later g).cell 9
  have hsWf9 := fun g : Later W => (hsW.later g).free 9
  have hsWl := fun g : Later W => (hsW.later g).lt
  simp at hsWc0 hsWc1 hsWc2 hsWc3 hsWc4 hsWc5 hsWc6 hsWc7 hsWc8 hsWc9
  refine Later.tail 8 (by kernel_rfl) (by kernel_rfl) ?_
  simp only [List.take_succ_cons, List.take_zero, List.drop_succ_cons, List.drop_zero]
  repeat (first | go_big_quiet_skip | (go_big_quiet_want; go_big_quiet_op; first | go_big_quiet_on | (apply Exists.intro; refine ⟨fun g_ => ?_, ?_⟩; (focus (first | fail)); go_big_quiet_on)))
  refine wpQuiet_nil ?_
  intro gg
  refine wpList_plain rfl fun K1 hK1 => ?_
  clear r0c0 r0f0 r0c1 r0f1 r0c2 r0f2 r0c3 r0f3 r0l hsWc0 hsWf0 hsWc1 hsWf1 hsWc2 hsWf2 hsWc3 hsWf3 hsWc4 hsWf4 hsWc5 hsWf5 hsWc6 hsWf6 hsWc7 hsWf7 hsWc8 hsWf8 hsWc9 hsWf9 hsWl
  go_wp2_with (first | (go_at_call 27; (with_reducible refine (f_need_ok _ _).mono ?_); rintro e w1 ⟨rfl, rfl⟩))
  refine at_world (S := fun X => Blk X w.heap.size #[.int .u8 d.kind, .int .i64 d.cell, .int .i64 d.to, .int .i64 d.n] 44 ∧ Blk X s #[.slice (some ⟨g, 0, none⟩) p.cells.length cp, .int .i64 (p.bottles), .int .i64 (p.inH), .int .i64 (p.inA), .int .i64 (p.vH), .int .i64 (p.vA), .int .i64 (p.lH), .int .i64 (p.lA), .int .i64 (p.pH), .int .i64 (p.pA)] 77 ∧ Mine 37 B X (.slice (some ⟨g, 0, none⟩) p.cells.length cp) p.cells ∧ Kept w X) ⟨r0.later gg, hsW.later gg, hmW.keep gg.ok, Kept.drop hk gg.ok⟩ ?_
  rintro X ⟨r0, hsX, hmX, hkX⟩
  have r0c0 := fun g : Later X => (r0.later g).cell 0
  have r0f0 := fun g : Later X => (r0.later g).free 0
  have r0c1 := fun g : Later X => (r0.later g).cell 1
  have r0f1 := fun g : Later X => (r0.later g).free 1
  have r0c2 := fun g : Later X => (r0.later g).cell 2
  have r0f2 := fun g : Later X => (r0.later g).free 2
  have r0c3 := fun g : Later X => (r0.later g).cell 3
  have r0f3 := fun g : Later X => (r0.later g).free 3
  have r0l := fun g : Later X => (r0.later g).lt
  simp at r0c0 r0c1 r0c2 r0c3
  have hsXc0 := fun g : Later X => (hsX.later g).cell 0
  have hsXf0 := fun g : Later X => (hsX.later g).free 0
  have hsXc1 := fun g : Later X => (hsX.later g).cell 1
  have hsXf1 := fun g : Later X => (hsX.later g).free 1
  have hsXc2 := fun g : Later X => (hsX.later g).cell 2
  have hsXf2 := fun g : Later X => (hsX.later g).free 2
  have hsXc3 := fun g : Later X => (hsX.later g).cell 3
  have hsXf3 := fun g : Later X => (hsX.later g).free 3
  have hsXc4 := fun g : Later X => (hsX.later g).cell 4
  have hsXf4 := fun g : Later X => (hsX.later g).free 4
  have hsXc5 := fun g : Later X => (hsX.later g).cell 5
  have hsXf5 := fun g : Later X => (hsX.later g).free 5
  have hsXc6 := fun g : Later X => (hsX.later g).cell 6
  have hsXf6 := fun g : Later X => (hsX.later g).free 6
  have hsXc7 := fun g : Later X => (hsX.later g).cell 7
  have hsXf7 := fun g : Later X => (hsX.later g).free 7
  have hsXc8 := fun g : Later X => (hsX.later g).cell 8
  have hsXf8 := fun g : Later X => (hsX.later g).free 8
  have hsXc9 := fun g : Later X => (hsX.later g).cell 9
  have hsXf9 := fun g : Later X => (hsX.later g).free 9
  have hsXl := fun g : Later X => (hsX.later g).lt
  simp at hsXc0 hsXc1 hsXc2 hsXc3 hsXc4 hsXc5 hsXc6 hsXc7 hsXc8 hsXc9
  refine Later.tail 11 (by kernel_rfl) (by kernel_rfl) ?_
  simp only [List.take_succ_cons, List.take_zero, List.drop_succ_cons, List.drop_zero]
  repeat (first | go_big_quiet_skip | (go_big_quiet_want; go_big_quiet_op; first | go_big_quiet_on | (apply Exists.intro; refine ⟨fun g_ => ?_, ?_⟩; (focus (first | fail)); go_big_quiet_on)))
  refine wpQuiet_nil ?_
  intro gh
  refine wpList_plain rfl fun K1 hK1 => ?_
  have q0 := r0.later gh
  have q1 := hsX.later gh
  clear r0c0 r0f0 r0c1 r0f1 r0c2 r0f2 r0c3 r0f3 r0l hsXc0 hsXf0 hsXc1 hsXf1 hsXc2 hsXf2 hsXc3 hsXf3 hsXc4 hsXf4 hsXc5 hsXf5 hsXc6 hsXf6 hsXc7 hsXf7 hsXc8 hsXf8 hsXc9 hsXf9 hsXl
  have q0c0 := q0.cell 0
  have q0f0 := q0.free 0
  have q0c1 := q0.cell 1
  have q0f1 := q0.free 1
  have q0c2 := q0.cell 2
  have q0f2 := q0.free 2
  have q0c3 := q0.cell 3
  have q0f3 := q0.free 3
  have q0l := q0.lt
  simp at q0c0 q0c1 q0c2 q0c3
  have q1c0 := q1.cell 0
  have q1f0 := q1.free 0
  have q1c1 := q1.cell 1
  have q1f1 := q1.free 1
  have q1c2 := q1.cell 2
  have q1f2 := q1.free 2
  have q1c3 := q1.cell 3
  have q1f3 := q1.free 3
  have q1c4 := q1.cell 4
  have q1f4 := q1.free 4
  have q1c5 := q1.cell 5
  have q1f5 := q1.free 5
  have q1c6 := q1.cell 6
  have q1f6 := q1.free 6
  have q1c7 := q1.cell 7
  have q1f7 := q1.free 7
  have q1c8 := q1.cell 8
  have q1f8 := q1.free 8
  have q1c9 := q1.cell 9
  have q1f9 := q1.free 9
  have q1l := q1.lt
  simp at q1c0 q1c1 q1c2 q1c3 q1c4 q1c5 q1c6 q1c7 q1c8 q1c9
  go_wp2
  refine at_world (S := fun Y => Blk Y w.heap.size #[.int .u8 d.kind, .int .i64 d.cell, .int .i64 d.to, .int .i64 d.n] 44 ∧ Blk Y s #[.slice (some ⟨g, 0, none⟩) p.cells.length cp, .int .i64 (p.bottles - d.n), .int .i64 (p.inH), .int .i64 (p.inA), .int .i64 (p.vH), .int .i64 (p.vA), .int .i64 (p.lH), .int .i64 (p.lA), .int .i64 (p.pH), .int .i64 (p.pA)] 77 ∧ Mine 37 B Y (.slice (some ⟨g, 0, none⟩) p.cells.length cp) p.cells ∧ Below B w Y ∧ w.heap.size ≤ Y.heap.size) ⟨by (exact blkc), q1.set 1 _, (hmX.keep gh.ok).other q1 (by decide) _, ((hkX.mono hBw).trans (gh.ok.mono (by have := hkX.size; omega))).setCell hB _, Nat.le_trans hkX.size (Nat.le_trans gh.ok.size (by simp))⟩ ?_
  rintro Y ⟨r0, hsY, hmY, hbY, hzY⟩
  clear q0c0 q0f0 q0c1 q0f1 q0c2 q0f2 q0c3 q0f3 q0l q1c0 q1f0 q1c1 q1f1 q1c2 q1f2 q1c3 q1f3 q1c4 q1f4 q1c5 q1f5 q1c6 q1f6 q1c7 q1f7 q1c8 q1f8 q1c9 q1f9 q1l q0 q1
  obtain ⟨_, cur, hge, _, hcur, c0, c1, c2, c3, c4, c5, c6⟩ := hmY.at hi
  cases hge
  rw [← HXX.out] at c0 c1 c2 c3 c4 c5 c6
  have r0c0 := fun g : Later Y => (r0.later g).cell 0
  have r0f0 := fun g : Later Y => (r0.later g).free 0
  have r0c1 := fun g : Later Y => (r0.later g).cell 1
  have r0f1 := fun g : Later Y => (r0.later g).free 1
  have r0c2 := fun g : Later Y => (r0.later g).cell 2
  have r0f2 := fun g : Later Y => (r0.later g).free 2
  have r0c3 := fun g : Later Y => (r0.later g).cell 3
  have r0f3 := fun g : Later Y => (r0.later g).free 3
  have r0l := fun g : Later Y => (r0.later g).lt
  simp at r0c0 r0c1 r0c2 r0c3
  have y1 := fun q : Later Y => q.some c1
  clear c0 c2 c3 c4 c5 c6
  refine Later.tail 9 (by kernel_rfl) (by kernel_rfl) ?_
  simp only [List.take_succ_cons, List.take_zero, List.drop_succ_cons, List.drop_zero]
  repeat (first | go_big_quiet_skip | (go_big_quiet_want; go_big_quiet_op; first | go_big_quiet_on | (apply Exists.intro; refine ⟨fun g_ => ?_, ?_⟩; (focus (first | fail)); go_big_quiet_on)))
  refine wpQuiet_nil ?_
  intro gi
  refine wpList_plain rfl fun K1 hK1 => ?_
  have z1 := y1 gi
  have hcg := hcur.later gi
  have zf := hcg.free (d.cell.toNat * 7 + 1)
  clear r0c0 r0f0 r0c1 r0f1 r0c2 r0f2 r0c3 r0f3 r0l
  go_wp2
  go_end0
  refine ⟨rfl, ⟨hB, ?_, ?_⟩, ?_⟩
  · have z2 := (hsY.later gi).other (a := ⟨g, d.cell.toNat * 7 + 1, none⟩) (fun he => by
      simp only at he; subst he; have := (hsY.later gi).symm.trans hcg; simp at this) (.int .i64 (x.helium + d.n))
    exact z2.cast (by simp [plantCells, fillP])
  · have := (hmY.keep gi.ok).put (i := d.cell.toNat) (j := 1) (c := x) (u := .int .i64 (x.helium + d.n)) { x with helium := x.helium + d.n } HX.out (by decide) rfl
    simpa [fillP, HAT.out] using this
  · exact (hbY.trans (gi.ok.mono (by omega))).setCell hBg _

theorem f_breathe_no {B s cp : Nat} {ad : Option Addr} {p : Plant} {w : World} (d : Deed) (h : Shop 37 77 B w s ad cp p) (hp : plantB p = true) (ha : argB p d = false) : Calls Tryz.prog 25 #[.pointer (some ⟨s, 0, none⟩), .agg #[.int .u8 d.kind, .int .i64 d.cell, .int .i64 d.to, .int .i64 d.n]] w fun e w' => e = .panicked [{ v := refusal 2, recovered := false }] ∧ Kept w w' := by
  have hn12 : p.cells.length ≤ 12 := (plantB_iff.1 hp).1
  have HA := Lib.hid ha
  obtain ⟨hB, hs, hm⟩ := h
  clear ha hp
  go_enter Tryz.func25, Tryz.ntmps25
  go_upto_region 1 with fail
  refine at_world (S := fun W => Blk W w.heap.size #[.int .u8 d.kind, .int .i64 d.cell, .int .i64 d.to, .int .i64 d.n] 44 ∧ Blk W s #[.slice ad p.cells.length cp, .int .i64 (p.bottles), .int .i64 (p.inH), .int .i64 (p.inA), .int .i64 (p.vH), .int .i64 (p.vA), .int .i64 (p.lH), .int .i64 (p.lA), .int .i64 (p.pH), .int .i64 (p.pA)] 77 ∧ Kept w W) ⟨by (exact blkc), hs.keep (by (exact kpt)), by (exact kpt)⟩ ?_
  rintro W ⟨r0, hsW, hk⟩
  have r0c0 := fun g : Later W => (r0.later g).cell 0
  have r0f0 := fun g : Later W => (r0.later g).free 0
  have r0c1 := fun g : Later W => (r0.later g).cell 1
  have r0f1 := fun g : Later W => (r0.later g).free 1
  have r0c2 := fun g : Later W => (r0.later g).cell 2
  have r0f2 := fun g : Later W => (r0.later g).free 2
  have r0c3 := fun g : Later W => (r0.later g).cell 3
  have r0f3 := fun g : Later W => (r0.later g).free 3
  have r0l := fun g : Later W => (r0.later g).lt
  simp at r0c0 r0c1 r0c2 r0c3
  have hsWc0 := fun g : Later W => (hsW.later g).cell 0
  have hsWf0 := fun g : Later W => (hsW.later g).free 0
  have hsWc1 := fun g : Later W => (hsW.later g).cell 1
  have hsWf1 := fun g : Later W => (hsW.later g).free 1
  have hsWc2 := fun g : Later W => (hsW.later g).cell 2
  have hsWf2 := fun g : Later W => (hsW.later g).free 2
  have hsWc3 := fun g : Later W => (hsW.later g).cell 3
  have hsWf3 := fun g : Later W => (hsW.later g).free 3
  have hsWc4 := fun g : Later W => (hsW.later g).cell 4
  have hsWf4 := fun g : Later W => (hsW.later g).free 4
  have hsWc5 := fun g : Later W => (hsW.later g).cell 5
  have hsWf5 := fun g : Later W => (hsW.later g).free 5
  have hsWc6 := fun g : Later W => (hsW.later g).cell 6
  have hsWf6 := fun g : Later W => (hsW.later g).free 6
  have hsWc7 := fun g : Later W => (hsW.later g).cell 7
  have hsWf7 := fun g : Later W => (hsW.later g).free 7
  have hsWc8 := fun g : Later W => (hsW.later g).cell 8
  have hsWf8 := fun g : Later W => (hsW.later g).free 8
  have hsWc9 := fun g : Later W => (hsW.later g).cell 9
  have hsWf9 := fun g : Later W => (hsW.later g).free 9
  have hsWl := fun g : Later W => (hsW.later g).lt
  simp at hsWc0 hsWc1 hsWc2 hsWc3 hsWc4 hsWc5 hsWc6 hsWc7 hsWc8 hsWc9
  refine later_dies [0, 1, 6, 7] 2 none (by kernel_rfl) (by kernel_rfl) (fun c a d v w h => by cases d <;> exact h) trivial ?_
  simp only [List.filterMap_cons, List.filterMap_nil, List.getElem?_cons_zero, List.getElem?_cons_succ, List.map_cons, List.map_nil]
  repeat (refine wpSteps_quiet ?_; (first | go_big_quiet_skip | (go_big_quiet_want; go_big_quiet_op; first | go_big_quiet_on | (apply Exists.intro; refine ⟨fun g => ?_, ?_⟩; (focus (first | fail)); go_big_quiet_on))); refine wpQuiet_nil ?_)
  refine wpSteps_nil ?_
  refine ⟨DiesAt.of rfl rfl (fun w' hw' => ?_), fun _ _ h => by cases h⟩
  obtain ⟨gg, rfl⟩ := hw'
  simp only [Go.wp_at_succ, Go.wp_at_zero]
  go_simp
  (with_reducible refine (f_cell_no s ad cp p d _ (hsW.later gg) hn12 HA.out).mono ?_)
  rintro e w1 ⟨rfl, hb1⟩
  have hkg := Kept.drop hk gg.ok
  exact ⟨rfl, rfl, by (exact kpt)⟩
theorem f_breathe_ok {B s cp : Nat} {ad : Option Addr} {p : Plant} {w : World} (d : Deed) (h : Shop 37 77 B w s ad cp p) (hp : plantB p = true) (ha : argB p d = true) : Calls Tryz.prog 25 #[.pointer (some ⟨s, 0, none⟩), .agg #[.int .u8 d.kind, .int .i64 d.cell, .int .i64 d.to, .int .i64 d.n]] w fun e w' => e = .returned (.tuple #[]) ∧ Shop 37 77 B w' s ad cp (breatheP p d) ∧ Below B w w' := by
  have hn12 : p.cells.length ≤ 12 := (plantB_iff.1 hp).1
  have hb := plantB_iff.1 hp
  have hi : d.cell.toNat < p.cells.length := by
    have h1 : rng [d.cell] 0 (p.cells.length - 1) = true := by unfold argB at ha; simp only [Bool.and_eq_true] at ha; exact ha.1
    have : 0 ≤ d.cell ∧ d.cell ≤ p.cells.length - 1 := by simpa [rng, inB] using h1
    omega
  have hn : 1 ≤ d.n ∧ d.n ≤ 10000000 := by
    have h1 : rng [d.n] 1 10000000 = true := by unfold argB at ha; simp only [Bool.and_eq_true] at ha; exact ha.2
    simpa [rng, inB] using h1
  have hcv : cellB p.cells[d.cell.toNat] = true := hb.2.2.2.2.2.2.1 _ (List.getElem_mem hi)
  have hat : at_ p d = p.cells[d.cell.toNat] := cellAt_get hi
  have HA := Lib.hid ha
  obtain ⟨hB, hs, hm⟩ := h
  have hBw : B ≤ w.heap.size := by have := hs.lt; omega
  obtain ⟨g, _, rfl, hBg, hbg, _⟩ := hm.at hi
  have hgl := hbg.lt
  clear hbg
  obtain ⟨x, hx⟩ : ∃ x, x = p.cells[d.cell.toNat] := ⟨_, rfl⟩
  have HX := Lib.hid (show p.cells[d.cell.toNat]? = some x by rw [hx]; simp [hi])
  rw [← hx] at hcv hat
  have hxb := cellB_iff.1 hcv
  have HAT := Lib.hid hat
  have HXX := Lib.hid hx
  clear ha hat hx
  obtain ⟨_, _, ⟨_, hb1, hb2⟩, _⟩ := hb
  clear hp
  go_enter Tryz.func25, Tryz.ntmps25
  go_upto_region 1 with fail
  refine at_world (S := fun W => Blk W w.heap.size #[.int .u8 d.kind, .int .i64 d.cell, .int .i64 d.to, .int .i64 d.n] 44 ∧ Blk W s #[.slice (some ⟨g, 0, none⟩) p.cells.length cp, .int .i64 (p.bottles), .int .i64 (p.inH), .int .i64 (p.inA), .int .i64 (p.vH), .int .i64 (p.vA), .int .i64 (p.lH), .int .i64 (p.lA), .int .i64 (p.pH), .int .i64 (p.pA)] 77 ∧ Mine 37 B W (.slice (some ⟨g, 0, none⟩) p.cells.length cp) p.cells ∧ Kept w W) ⟨by (exact blkc), hs.keep (by (exact kpt)), hm.keep (by (exact kpt)), by (exact kpt)⟩ ?_
  rintro W ⟨r0, hsW, hmW, hk⟩
  have r0c0 := fun g : Later W => (r0.later g).cell 0
  have r0f0 := fun g : Later W => (r0.later g).free 0
  have r0c1 := fun g : Later W => (r0.later g).cell 1
  have r0f1 := fun g : Later W => (r0.later g).free 1
  have r0c2 := fun g : Later W => (r0.later g).cell 2
  have r0f2 := fun g : Later W => (r0.later g).free 2
  have r0c3 := fun g : Later W => (r0.later g).cell 3
  have r0f3 := fun g : Later W => (r0.later g).free 3
  have r0l := fun g : Later W => (r0.later g).lt
  simp at r0c0 r0c1 r0c2 r0c3
  have hsWc0 := fun g : Later W => (hsW.later g).cell 0
  have hsWf0 := fun g : Later W => (hsW.later g).free 0
  have hsWc1 := fun g : Later W => (hsW.later g).cell 1
  have hsWf1 := fun g : Later W => (hsW.later g).free 1
  have hsWc2 := fun g : Later W => (hsW.later g).cell 2
  have hsWf2 := fun g : Later W => (hsW.later g).free 2
  have hsWc3 := fun g : Later W => (hsW.later g).cell 3
  have hsWf3 := fun g : Later W => (hsW.later g).free 3
  have hsWc4 := fun g : Later W => (hsW.later g).cell 4
  have hsWf4 := fun g : Later W => (hsW.later g).free 4
  have hsWc5 := fun g : Later W => (hsW.later g).cell 5
  have hsWf5 := fun g : Later W => (hsW.later g).free 5
  have hsWc6 := fun g : Later W => (hsW.later g).cell 6
  have hsWf6 := fun g : Later W => (hsW.later g).free 6
  have hsWc7 := fun g : Later W => (hsW.later g).cell 7
  have hsWf7 := fun g : Later W => (hsW.later g).free 7
  have hsWc8 := fun g : Later W => (hsW.later g).cell 8
  have hsWf8 := fun g : Later W => (hsW.later g).free 8
  have hsWc9 := fun g : Later W => (hsW.later g).cell 9
  have hsWf9 := fun g : Later W => (hsW.later g).free 9
  have hsWl := fun g : Later W => (hsW.later g).lt
  simp at hsWc0 hsWc1 hsWc2 hsWc3 hsWc4 hsWc5 hsWc6 hsWc7 hsWc8 hsWc9
  obtain ⟨_, cur, hge, _, hcur, c0, c1, c2, c3, c4, c5, c6⟩ := hmW.at hi
  cases hge
  rw [← HXX.out] at c0 c1 c2 c3 c4 c5 c6
  have y1 := fun q : Later W => q.some c2
  clear c0 c1 c3 c4 c5 c6
  refine Later.tail 11 (by kernel_rfl) (by kernel_rfl) ?_
  simp only [List.take_succ_cons, List.take_zero, List.drop_succ_cons, List.drop_zero]
  repeat (first | go_big_quiet_skip | (go_big_quiet_want; go_big_quiet_op; first | go_big_quiet_on | (apply Exists.intro; refine ⟨fun g_ => ?_, ?_⟩; (focus (first | (go_at_call 57; exact Later.call (f_cell_ok s g cp p d _ (hsW.later g_) hn12 HA.out)))); go_big_quiet_on)))
  refine wpQuiet_nil ?_
  intro gg
  refine wpList_plain rfl fun K1 hK1 => ?_
  have z1 := y1 gg
  have hcg := hcur.later gg
  have zf := hcg.free (d.cell.toNat * 7 + 2)
  clear r0c0 r0f0 r0c1 r0f1 r0c2 r0f2 r0c3 r0f3 r0l hsWc0 hsWf0 hsWc1 hsWf1 hsWc2 hsWf2 hsWc3 hsWf3 hsWc4 hsWf4 hsWc5 hsWf5 hsWc6 hsWf6 hsWc7 hsWf7 hsWc8 hsWf8 hsWc9 hsWf9 hsWl
  go_wp2
  refine at_world (S := fun X => Blk X w.heap.size #[.int .u8 d.kind, .int .i64 d.cell, .int .i64 d.to, .int .i64 d.n] 44 ∧ Blk X s #[.slice (some ⟨g, 0, none⟩) p.cells.length cp, .int .i64 (p.bottles), .int .i64 (p.inH), .int .i64 (p.inA), .int .i64 (p.vH), .int .i64 (p.vA), .int .i64 (p.lH), .int .i64 (p.lA), .int .i64 (p.pH), .int .i64 (p.pA)] 77 ∧ Mine 37 B X (.slice (some ⟨g, 0, none⟩) p.cells.length cp) (p.cells.set d.cell.toNat { x with air := x.air + d.n }) ∧ Below B w X ∧ w.heap.size ≤ X.heap.size) ⟨(r0.later gg).other (a := ⟨g, d.cell.toNat * 7 + 2, none⟩) (by simp; omega) _, (hsW.later gg).other (a := ⟨g, d.cell.toNat * 7 + 2, none⟩) (fun he => by simp only at he; subst he; have := (hsW.later gg).symm.trans hcg; simp at this) _, (hmW.keep gg.ok).put (i := d.cell.toNat) (j := 2) (c := x) (u := .int .i64 (x.air + d.n)) { x with air := x.air + d.n } HX.out (by decide) rfl, ((hk.mono hBw).trans (gg.ok.mono (by have := hk.size; omega))).setCell hBg _, Nat.le_trans hk.size (Nat.le_trans gg.ok.size (by simp))⟩ ?_
  rintro X ⟨r0, hsX, hmX, hbX, hzX⟩
  have r0c0 := fun g : Later X => (r0.later g).cell 0
  have r0f0 := fun g : Later X => (r0.later g).free 0
  have r0c1 := fun g : Later X => (r0.later g).cell 1
  have r0f1 := fun g : Later X => (r0.later g).free 1
  have r0c2 := fun g : Later X => (r0.later g).cell 2
  have r0f2 := fun g : Later X => (r0.later g).free 2
  have r0c3 := fun g : Later X => (r0.later g).cell 3
  have r0f3 := fun g : Later X => (r0.later g).free 3
  have r0l := fun g : Later X => (r0.later g).lt
  simp at r0c0 r0c1 r0c2 r0c3
  have hsXc0 := fun g : Later X => (hsX.later g).cell 0
  have hsXf0 := fun g : Later X => (hsX.later g).free 0
  have hsXc1 := fun g : Later X => (hsX.later g).cell 1
  have hsXf1 := fun g : Later X => (hsX.later g).free 1
  have hsXc2 := fun g : Later X => (hsX.later g).cell 2
  have hsXf2 := fun g : Later X => (hsX.later g).free 2
  have hsXc3 := fun g : Later X => (hsX.later g).cell 3
  have hsXf3 := fun g : Later X => (hsX.later g).free 3
  have hsXc4 := fun g : Later X => (hsX.later g).cell 4
  have hsXf4 := fun g : Later X => (hsX.later g).free 4
  have hsXc5 := fun g : Later X => (hsX.later g).cell 5
  have hsXf5 := fun g : Later X => (hsX.later g).free 5
  have hsXc6 := fun g : Later X => (hsX.later g).cell 6
  have hsXf6 := fun g : Later X => (hsX.later g).free 6
  have hsXc7 := fun g : Later X => (hsX.later g).cell 7
  have hsXf7 := fun g : Later X => (hsX.later g).free 7
  have hsXc8 := fun g : Later X => (hsX.later g).cell 8
  have hsXf8 := fun g : Later X => (hsX.later g).free 8
  have hsXc9 := fun g : Later X => (hsX.later g).cell 9
  have hsXf9 := fun g : Later X => (hsX.later g).free 9
  have hsXl := fun g : Later X => (hsX.later g).lt
  simp at hsXc0 hsXc1 hsXc2 hsXc3 hsXc4 hsXc5 hsXc6 hsXc7 hsXc8 hsXc9
  refine Later.tail 13 (by kernel_rfl) (by kernel_rfl) ?_
  simp only [List.take_succ_cons, List.take_zero, List.drop_succ_cons, List.drop_zero]
  repeat (first | go_big_quiet_skip | (go_big_quiet_want; go_big_quiet_op; first | go_big_quiet_on | (apply Exists.intro; refine ⟨fun g_ => ?_, ?_⟩; (focus (first | fail)); go_big_quiet_on)))
  refine wpQuiet_nil ?_
  intro gh
  refine wpList_plain rfl fun K1 hK1 => ?_
  have q1 := hsX.later gh
  clear r0c0 r0f0 r0c1 r0f1 r0c2 r0f2 r0c3 r0f3 r0l hsXc0 hsXf0 hsXc1 hsXf1 hsXc2 hsXf2 hsXc3 hsXf3 hsXc4 hsXf4 hsXc5 hsXf5 hsXc6 hsXf6 hsXc7 hsXf7 hsXc8 hsXf8 hsXc9 hsXf9 hsXl
  have q1c0 := q1.cell 0
  have q1f0 := q1.free 0
  have q1c1 := q1.cell 1
  have q1f1 := q1.free 1
  have q1c2 := q1.cell 2
  have q1f2 := q1.free 2
  have q1c3 := q1.cell 3
  have q1f3 := q1.free 3
  have q1c4 := q1.cell 4
  have q1f4 := q1.free 4
  have q1c5 := q1.cell 5
  have q1f5 := q1.free 5
  have q1c6 := q1.cell 6
  have q1f6 := q1.free 6
  have q1c7 := q1.cell 7
  have q1f7 := q1.free 7
  have q1c8 := q1.cell 8
  have q1f8 := q1.free 8
  have q1c9 := q1.cell 9
  have q1f9 := q1.free 9
  have q1l := q1.lt
  simp at q1c0 q1c1 q1c2 q1c3 q1c4 q1c5 q1c6 q1c7 q1c8 q1c9
  go_wp2
  go_end0
  refine ⟨rfl, ⟨hB, ?_, ?_⟩, ?_⟩
  · exact (q1.set 3 (.int .i64 (p.inA + d.n))).cast (by simp [plantCells, breatheP])
  · have := (hmX.keep gh.ok).other q1 (by decide) (o := 3) (.int .i64 (p.inA + d.n))
    simpa [breatheP, HAT.out] using this
  · exact (hbX.trans (gh.ok.mono (by omega))).setCell hB _

end Go.Proofs.YtamnnjdfjffhlaaGreatDoor

/-
  A region that draws its order, walked once: loads (of cells that the region leaves alone till they are read) and operations that need no world are taken first; what is then left comes up one at a time: a call, a block that is made, a store; it may panic. No program in sight.
-/
namespace Bal
open Go Go.RowKit

section
variable {P : Program} {ops : Array Oper} {md : Region.Mode} {S : World → Prop} {Q : Exit → Act → World → Prop}

/-- what a walk goes on with behind one operation -/
def onward (K : Act → World → Prop) (Q : Exit → Act → World → Prop) : Exit → Act → World → Prop
  | .normal, a, w => K a w
  | .exit i, a, w => Q (.exit i) a w
  | .goto l, a, w => Q (.goto l) a w
  | .ret, a, w => Q .ret a w
  | .panic c, a, w => Q (.panic c) a w
  | .outgrown, a, w => Q .outgrown a w
theorem onward_on {K : Act → World → Prop} {a : Act} {w : World} (h : K a w) : onward K Q .normal a w := h
theorem onward_panic {K : Act → World → Prop} {c : List PanicEntry} {a : Act} {w : World} (h : Q (.panic c) a w) : onward K Q (.panic c) a w := h

theorem wpOp_onward {i : Nat} {a : Act} {w : World} {K : Act → World → Prop} (h : wpOp P ops (onward K Q) i K a w) : wpOp P ops Q i K a w := by
  unfold wpOp at *
  split
  · simpa [*] using h
  · rename_i o ho
    simp only [ho] at h
    split
    · rename_i hw
      simp only [hw, if_true] at h
      rcases h with h | ⟨h1, h2⟩
      · refine .inl ?_
        unfold Oper.wp at *
        generalize (execOp a.eval o).run P w = r at *
        cases r with
        | ok n w' =>
          cases n <;> simp only [Oper.upon] at h ⊢
          case enter f args =>
            refine Calls.mono h fun e w'' he => ?_
            cases e with
            | returned u => exact he
            | panicked c => exact he
            | outgrown => exact he
          all_goals exact h
        | halt x w' =>
          cases x <;> simp only [Oper.upon] at h ⊢
          case panic u => exact h
      · exact .inr ⟨h1, h2⟩
    · rename_i hw
      simp only [hw] at h
      exact h

/-- whatever order is picked from here on, and S holds behind every operation but number n -/
def wpAnyE (P : Program) (md : Region.Mode) (ops : Array Oper) (Q : Exit → Act → World → Prop) (S : World → Prop) (n : Nat) : Nat → Array Bool → Act → World → Prop
  | 0, listed, a, w => Region.ready md ops listed = [] ∧ Q .normal a w
  | f + 1, listed, a, w =>
    (Region.ready md ops listed = [] → Q .normal a w) ∧
    ∀ i ∈ Region.ready md ops listed, wpOp P ops Q i (fun a' w' => (i = n ∨ S w') ∧ wpAnyE P md ops Q S n f (listed.setIfInBounds i true) a' w') a w

theorem wpAny_of_E {n : Nat} : ∀ (f : Nat) (listed : Array Bool) (a : Act) (w : World), wpAnyE P md ops Q S n f listed a w → wpAny P md ops Q f listed a w
  | 0, _, _, _, h => h
  | f + 1, _, _, _, h => ⟨h.1, fun i hi => wpOp_mono (fun a' w' h' => wpAny_of_E f _ a' w' h'.2) (h.2 i hi)⟩

/-- number n, if there is one, waits for all others -/
structure LastOk (md : Region.Mode) (ops : Array Oper) (n : Nat) : Prop where
  sink : n < ops.size → Region.sinkB md ops n = true
  chain : n < ops.size → Region.chainB md ops n = true
  last : n < ops.size → n + 1 = ops.size
def LastInv (md : Region.Mode) (ops : Array Oper) (n : Nat) (listed : Array Bool) : Prop := n < ops.size → HeadInv md ops n listed

theorem LastInv.set {n i : Nat} {listed : Array Bool} (hl : LastOk md ops n) (inv : LastInv md ops n listed) (hi : i ∈ Region.ready md ops listed) (hin : i ≠ n) : LastInv md ops n (listed.setIfInBounds i true) := fun hn =>
  (inv hn).set hi (by
    obtain ⟨_, o, ho, _⟩ := mem_ready.1 hi
    have := (Array.getElem?_eq_some_iff.1 ho).1
    have := hl.last hn
    omega)
/-- beside another one that may come up, n may not -/
theorem LastInv.other {n i j : Nat} {listed : Array Bool} (hl : LastOk md ops n) (inv : LastInv md ops n listed) (hi : i ∈ Region.ready md ops listed) (hin : i ≠ n) (hj : j ∈ Region.ready md ops listed) : j ≠ n := by
  rintro rfl
  obtain ⟨_, o, ho, _⟩ := mem_ready.1 hj
  have hn := (Array.getElem?_eq_some_iff.1 ho).1
  obtain ⟨hun, oi, hoi, _⟩ := mem_ready.1 hi
  have h1 := (Array.getElem?_eq_some_iff.1 hoi).1
  have h2 := hl.last hn
  exact tail_waits (hl.sink hn) (hl.chain hn) hn (inv hn) _ i rfl (by omega) hun j (Nat.le_refl _) hj

theorem wpAnyE_first {n i : Nat} {oi : Oper} {v : Value} (hl : LastOk md ops n) (hin : i ≠ n) (hi : ops[i]? = some oi) (hsel : ∀ (j : Nat) (o : Oper) cs b, ops[j]? = some o → o.op ≠ .select cs b)
    (hQ : ∀ c a w, Q (.panic c) (a.put oi.dst v) w → Q (.panic c) a w) :
    ∀ (f : Nat) (listed : Array Bool) (a : Act) (w : World), LastInv md ops n listed →
      (∀ j oj, ops[j]? = some oj → j ≠ i → listed.getD j true = false → (∀ e ∈ oj.after, Region.binds md e = true → e.on ≠ i) → oi.apart ops oj = true) →
      i ∈ Region.ready md ops listed → YieldsIf P ops S oi v a → S w →
      wpAnyE P md ops Q S n f (listed.setIfInBounds i true) (a.put oi.dst v) w → wpAnyE P md ops Q S n (f + 1) listed a w := by
  intro f
  induction f with
  | zero =>
    intro listed a w inv _ hr hy hS H
    refine ⟨fun h => (by rw [h] at hr; cases hr), fun j hj => ?_⟩
    by_cases hji : j = i
    · subst hji; exact hy.wpOp hi hS ⟨.inr hS, H⟩
    · have := ready_mono hj hji
      rw [H.1] at this
      cases this
  | succ f ih =>
    intro listed a w inv hfree hr hy hS H
    refine ⟨fun h => (by rw [h] at hr; cases hr), fun j hj => ?_⟩
    by_cases hji : j = i
    · subst hji; exact hy.wpOp hi hS ⟨.inr hS, H⟩
    · have hjn := inv.other hl hr hin hj
      have h1 := H.2 j (ready_mono hj hji)
      obtain ⟨hjun, oj, hoj, hall⟩ := mem_ready.1 hj
      have hnot : ∀ e ∈ oj.after, Region.binds md e = true → e.on ≠ i := fun e he hb heq => by
        have h1 := hall e he hb
        rw [heq, getD_both (mem_ready.1 hr).1] at h1
        cases h1
      have h2 := wpOp_putIf hoj (hfree j oj hoj hji hjun hnot) (fun cs b => hsel i oi cs b hi) (fun cs b => hsel j oj cs b hoj) hQ hy h1
      have hfree' : ∀ k ok, ops[k]? = some ok → k ≠ i → (listed.setIfInBounds j true).getD k true = false →
          (∀ e ∈ ok.after, Region.binds md e = true → e.on ≠ i) → oi.apart ops ok = true := fun k ok hk hki hun hno => by
        refine hfree k ok hk hki ?_ hno
        by_cases hjk : j = k
        · subst hjk; exact hjun
        · rw [getD_set_ne true hjk] at hun; exact hun
      refine wpOp_mono (fun a' w' h3 => ?_) h2
      have hS' : S w' := h3.2.1.resolve_left hjn
      refine ⟨.inr hS', ih (listed.setIfInBounds j true) a' w' (inv.set hl hj hjn) hfree' (ready_mono hr (Ne.symm hji)) h3.1 hS' ?_⟩
      rw [Array.setIfInBounds_comm _ _ hji]
      exact h3.2.2

/-- THE WALK: 'true' at an operation that yields in every world that meets S; the others come up one at a time -/
def Held (P : Program) (ops : Array Oper) (Q : Exit → Act → World → Prop) (S : World → Prop) : List (Bool × Oper) → Act → World → Prop
  | [], a, w => Q .normal a w
  | (true, o) :: r, a, w => ∃ v, YieldsIf P ops S o v a ∧ Held P ops Q S r (a.put o.dst v) w
  | (false, o) :: r, a, w => wpList P ops (onward (fun a' w' => (r = [] ∨ S w') ∧ Held P ops Q S r a' w') Q) [o] a w
def heldB (md : Region.Mode) (ops : Array Oper) (n : Nat) : List (Bool × Nat) → Array Bool → Bool
  | [], listed => (Region.ready md ops listed).isEmpty
  | (true, i) :: r, listed => (Region.ready md ops listed).contains i && Region.free md ops listed i && decide (i ≠ n) && heldB md ops n r (listed.setIfInBounds i true)
  | (false, i) :: r, listed => decide (Region.ready md ops listed = [i]) && (decide (i = n) == r.isEmpty) && heldB md ops n r (listed.setIfInBounds i true)

theorem wpAnyE_of_held {n : Nat} (hl : LastOk md ops n) (hsel : Region.noSelect ops = true) (hQ : ∀ c a d v w, Q (.panic c) (Act.put a d v) w → Q (.panic c) a w) :
    ∀ (is : List (Bool × Nat)) (l : List (Bool × Oper)) (listed : Array Bool) (a : Act) (w : World), is.map (fun x => (x.1, ops[x.2]?)) = l.map (fun x => (x.1, some x.2)) → LastInv md ops n listed ∨ is = [] → heldB md ops n is listed = true →
    (is = [] ∨ S w) → Held P ops Q S l a w → wpAnyE P md ops Q S n l.length listed a w
  | [], [], listed, a, w, _, _, hB, _, h => ⟨by simpa [heldB] using hB, h⟩
  | [], _ :: _, _, _, _, hm, _, _, _, _ => by simp at hm
  | _ :: _, [], _, _, _, hm, _, _, _, _ => by simp at hm
  | (true, i) :: is, (b, o) :: l, listed, a, w, hm, inv, hB, hS, h => by
    simp only [List.map_cons, List.cons.injEq, Prod.mk.injEq] at hm
    obtain ⟨⟨rfl, h0⟩, hm'⟩ := hm
    simp only [heldB, Bool.and_eq_true, decide_eq_true_eq] at hB
    obtain ⟨⟨⟨hr, hf⟩, hin⟩, hB'⟩ := hB
    obtain ⟨v, hy, hK⟩ := h
    have hr' : i ∈ Region.ready md ops listed := by simpa using hr
    have hS' : S w := hS.resolve_left (by simp)
    have inv' := inv.resolve_right (by simp)
    exact wpAnyE_first hl hin h0 (Region.noSelect_spec hsel) (fun c a w => hQ c a _ _ w) _ listed a w inv' (Region.free_spec h0 hf) hr' hy hS'
      (wpAnyE_of_held hl hsel hQ is l _ _ _ hm' (.inl (inv'.set hl hr' hin)) hB' (.inr hS') hK)
  | (false, i) :: is, (b, o) :: l, listed, a, w, hm, inv, hB, hS, h => by
    simp only [List.map_cons, List.cons.injEq, Prod.mk.injEq] at hm
    obtain ⟨⟨rfl, h0⟩, hm'⟩ := hm
    simp only [heldB, Bool.and_eq_true, decide_eq_true_eq, beq_iff_eq] at hB
    obtain ⟨⟨hr, hlast⟩, hB'⟩ := hB
    have inv' := inv.resolve_right (by simp)
    have hr' : i ∈ Region.ready md ops listed := by rw [hr]; simp
    have hnil : l = [] ↔ is = [] := by
      have := congrArg List.length hm'
      simp only [List.length_map] at this
      rw [← List.length_eq_zero_iff, ← List.length_eq_zero_iff, this]
    refine ⟨fun h1 => (by rw [hr] at h1; cases h1), fun j hj => ?_⟩
    rw [hr] at hj
    have hji : j = i := by simpa using hj
    subst hji
    have hin : j = n ↔ is = [] := by rw [← List.isEmpty_iff, ← hlast]; simp
    refine wpOp_mono (fun a' w' hh => ?_) (wpOp_onward (K := fun a' w' => (l = [] ∨ S w') ∧ Held P ops Q S l a' w') (by
      unfold wpOp
      simp only [h0]
      exact h))
    refine ⟨?_, wpAnyE_of_held hl hsel hQ is l _ _ _ hm' ?_ hB' ?_ hh.2⟩
    · rcases hh.1 with h1 | h1
      · exact .inl (hin.2 (hnil.1 h1))
      · exact .inr h1
    · by_cases hn : j = n
      · exact .inr (hin.1 hn)
      · exact .inl (inv'.set hl hr' hn)
    · rcases hh.1 with h1 | h1
      · exact .inl (hnil.1 h1)
      · exact .inr h1

/-- THE THEOREM: is: the operations as they are walked, 'true' at those that yield under S; n: the one behind which S need not hold, for it waits for all others (or any number beyond the region's). -/
theorem held_walk {P : Program} {id : Nat} {Q : Exit → Act → World → Prop} {a : Act} {w : World} {l : List Oper} (S : World → Prop) (is : List (Bool × Nat)) (n : Nat) (hm : P.follows .mixedOrders = true)
    (hB : (Region.noSelect l.toArray && heldB .any l.toArray n is (Array.replicate l.toArray.size false) && is.all (fun i => decide (i.2 < l.length)) && decide (is.length = l.length) &&
      (decide (l.toArray.size ≤ n) || (Region.sinkB .any l.toArray n && Region.chainB .any l.toArray n && decide (n + 1 = l.toArray.size)))) = true)
    (hQ : ∀ c a d v w, Q (.panic c) (Act.put a d v) w → Q (.panic c) a w) (hS : S w.drew)
    (h : Held P l.toArray Q S (is.filterMap fun x => (l[x.2]?).map fun o => (x.1, o)) a w.drew) : (Code.region id l.toArray true).wp P Q a w := by
  simp only [Bool.and_eq_true, decide_eq_true_eq, List.all_eq_true, Bool.or_eq_true] at hB
  obtain ⟨⟨⟨⟨hsel, hheld⟩, hlt⟩, hlen⟩, hlast⟩ := hB
  obtain ⟨q1, q2⟩ := filterMap_ok2 is hlt
  have hl : LastOk .any l.toArray n := by
    rcases hlast with h1 | ⟨⟨h1, h2⟩, h3⟩
    · exact ⟨fun h => by omega, fun h => by omega, fun h => by omega⟩
    · exact ⟨fun _ => h1, fun _ => h2, fun _ => h3⟩
  have inv0 : LastInv .any l.toArray n (Array.replicate l.toArray.size false) := fun _ =>
    ⟨by simp, fun j oj _ hl => (by rw [getD_replicate_false] at hl; cases hl), fun t _ ht => getD_in (by simpa using ht) (getD_replicate_false _ _)⟩
  refine wp_region_any hm (wpAny_of_E (S := S) (n := n) _ _ _ _ ?_)
  have key := wpAnyE_of_held (P := P) (S := S) (md := .any) (Q := Q) hl hsel hQ is _ _ a w.drew q1 (.inl inv0) hheld (.inr hS) h
  rw [q2, hlen] at key
  simpa using key

/-! ### The moves of a walk -/
theorem held_take {o : Oper} {r : List (Bool × Oper)} {a : Act} {w : World} (v : Value) (hw : Region.wanted o (yielded ops a.tmps) = true) (hy : ∀ w', S w' → (execOp a.eval o).run P w' = .ok (.value v) w') (h : Held P ops Q S r (a.put o.dst v) w) :
    Held P ops Q S ((true, o) :: r) a w := ⟨v, .inl ⟨hw, hy⟩, h⟩
theorem held_pass {o : Oper} {r : List (Bool × Oper)} {a : Act} {w : World} (hw : Region.wanted o (yielded ops a.tmps) = false) (h : Held P ops Q S r (a.put o.dst undef) w) :
    Held P ops Q S ((true, o) :: r) a w := ⟨undef, .inr ⟨hw, rfl⟩, h⟩
theorem held_one {o : Oper} {r : List (Bool × Oper)} {a : Act} {w : World} (h : wpList P ops (onward (fun a' w' => (r = [] ∨ S w') ∧ Held P ops Q S r a' w') Q) [o] a w) : Held P ops Q S ((false, o) :: r) a w := h
theorem held_on {r : List (Bool × Oper)} {a : Act} {w : World} (hS : S w) (h : Held P ops Q S r a w) : onward (fun a' w' => (r = [] ∨ S w') ∧ Held P ops Q S r a' w') Q .normal a w := ⟨.inr hS, h⟩
theorem held_end {a : Act} {w : World} (h : Q .normal a w) : onward (fun a' w' => (([] : List (Bool × Oper)) = [] ∨ S w') ∧ Held P ops Q S [] a' w') Q .normal a w := ⟨.inl rfl, h⟩
theorem held_nil {a : Act} {w : World} (h : Q .normal a w) : Held P ops Q S [] a w := h
end
end Bal
