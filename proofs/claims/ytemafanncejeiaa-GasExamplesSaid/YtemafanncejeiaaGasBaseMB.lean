/-
  Facts about memory, lists and numbers that the walks use: no program in sight.
-/
import Derived.WalkKit
import Derived.WalkSpells
import Derived.WalkLawsBesides
import Derived.Lib.Hide
import Derived.ProofKit
import Derived.OpenShut
import Derived.ChangeOld
import Derived.Below
import Derived.Deep.Slices
import Derived.Deep.Fields
import Derived.Deep.Quiet
import Derived.Laws.AppendOwn
import Derived.Laws.AppendOwnNone
import Derived.StillTail
import Derived.Test.YtemafanncejeiaaProg
import Derived.Deep.QuietTactic
import Derived.BigQuiet
import Derived.Deep.RegionHeld3
import Derived.Deep.DeepCutAuto
import Derived.RangeFuncNested
import Derived.RangeFuncCalls
import Derived.OrdersIn
import Derived.RangeFuncBound
import Derived.RangeFuncLeaves
import Derived.Shelf.Abstract
import Derived.Shelf.RegionOpen
import Derived.OwnWalkIn
import Derived.TacticsInMore
import Derived.LoopNIn
import Derived.LoopIn
import Derived.Test.YtemafanncejeiaaGasBaseMA
set_option linter.unusedVariables false
set_option linter.unusedSimpArgs false
/-
  Facts about memory, lists and numbers that the walks use: no program in sight.
-/
namespace Bal
open Go Go.RowKit Go.ChangeShapes Go.WideShapes

theorem ret_int {k : IntKind} {a b : Int} (h : a = b) : Ending.returned (.int k a) = .returned (.int k b) := by rw [h]
theorem ret_bool {a b : Bool} (h : a = b) : Ending.returned (.bool a) = .returned (.bool b) := by rw [h]

/-- What a call leaves alone: nothing that was there has changed. -/
abbrev Kept (w w' : World) : Prop := Below w.heap.size w w'

/-- The elements xs of a slice at address a, each of k cells, lie in blocks below B. -/
def Row {α : Type} (enc : α → List Value) (k B : Nat) (w : World) (a : Option Addr) (xs : List α) : Prop :=
  ∀ (i : Nat) (x : α), xs[i]? = some x → ∃ b off, a = some ⟨b, off, none⟩ ∧ b < B ∧ ∀ (j : Nat) (v : Value), (enc x)[j]? = some v → w.cell? ⟨b, off + i * k + j, none⟩ = some v

theorem Row.nil {α : Type} {enc : α → List Value} {k B : Nat} {w : World} {a : Option Addr} : Row enc k B w a [] := by
  intro i x h; simp at h

theorem Row.keep {α : Type} {enc : α → List Value} {k B C : Nat} {w w' : World} {a : Option Addr} {xs : List α} (h : Row enc k B w a xs) (hb : Below C w w') (hC : B ≤ C) : Row enc k B w' a xs := by
  intro i x hx
  obtain ⟨b, off, ha, hlt, hc⟩ := h i x hx
  exact ⟨b, off, ha, hlt, fun j v hj => by rw [hb.cell (p := ⟨b, off + i * k + j, none⟩) (show b < C by omega)]; exact hc j v hj⟩

theorem Row.up {α : Type} {enc : α → List Value} {k B C : Nat} {w : World} {a : Option Addr} {xs : List α} (h : Row enc k B w a xs) (hC : B ≤ C) : Row enc k C w a xs := by
  intro i x hx
  obtain ⟨b, off, ha, hlt, hc⟩ := h i x hx
  exact ⟨b, off, ha, by omega, hc⟩

/-- a row known below the heap of w, asked for in a later world w' -/
theorem Row.later {α : Type} {enc : α → List Value} {k B : Nat} {w w' : World} {a : Option Addr} {xs : List α} (h : Row enc k B w a xs) (hb : Below B w w') (hB : B ≤ w.heap.size) : Row enc k w'.heap.size w' a xs :=
  (h.keep hb (Nat.le_refl _)).up (Nat.le_trans hB hb.size)

theorem Kept.size {w w' : World} (h : Kept w w') : w.heap.size ≤ w'.heap.size := Below.size h
/-- what a walk wants to know behind a contract -/
theorem bcell3 {W w1 : World} (hb : Below W.heap.size W w1) : (∀ b o, b < W.heap.size → w1.cell? ⟨b, o, none⟩ = W.cell? ⟨b, o, none⟩) ∧ (∀ b o, b < W.heap.size → w1.frozen? ⟨b, o, none⟩ = W.frozen? ⟨b, o, none⟩) ∧ ∀ n, n < W.heap.size → n < w1.heap.size :=
  ⟨fun b o h => hb.cell (p := ⟨b, o, none⟩) h, fun b o h => hb.frozen (p := ⟨b, o, none⟩) h, fun _ h => Nat.lt_of_lt_of_le h hb.size⟩

theorem Kept.drop {w w' w'' : World} (h : Below w.heap.size w w') (h' : Kept w' w'') : Kept w w'' := h.trans (h'.mono h.size)

theorem Kept.alloc {w w' : World} (h : Kept w w') (o : Obj) : Kept w (w'.alloc o) := Below.alloc h h.size o

/-- a number as a cell -/
def icell (n : Int) : List Value := [.int .i64 n]
theorem int_row {B : Nat} {w : World} {a : Option Addr} {xs : List Int} (h : Row icell 1 B w a xs) (i : Nat) (hi : i < xs.length) :
    ∃ b off, a = some ⟨b, off, none⟩ ∧ b < B ∧ w.cell? ⟨b, off + i, none⟩ = some (.int .i64 xs[i]) := by
  obtain ⟨b, off, ha, hb, hc⟩ := h i xs[i] (by simp [hi])
  exact ⟨b, off, ha, hb, by simpa using hc 0 _ rfl⟩

/-! ### Slices that a call has made itself, element by element -/
theorem flatMap_len {α : Type} {enc : α → List Value} {k : Nat} (he : ∀ x, (enc x).length = k) (xs : List α) : (xs.flatMap enc).length = xs.length * k := by
  induction xs with
  | nil => simp
  | cons x xs ih => simp [List.flatMap_cons, ih, he, Nat.succ_mul, Nat.add_comm]

theorem flatMap_get {α : Type} {enc : α → List Value} {k : Nat} (he : ∀ x, (enc x).length = k) : ∀ (xs : List α) (i : Nat) (x : α), xs[i]? = some x → ∀ j, j < k → (xs.flatMap enc)[i * k + j]? = (enc x)[j]?
  | [], i, x, h, _, _ => by simp at h
  | y :: ys, 0, x, h, j, hj => by
    simp at h
    subst h
    rw [List.flatMap_cons, Nat.zero_mul, Nat.zero_add, List.getElem?_append_left (by rw [he]; exact hj)]
  | y :: ys, i + 1, x, h, j, hj => by
    rw [List.flatMap_cons, List.getElem?_append_right (by rw [he, Nat.succ_mul]; omega), he]
    have := flatMap_get he ys i x (by simpa using h) j hj
    rw [← this]
    congr 1
    rw [Nat.succ_mul]; omega

/-- What the call owns reads as a row. -/
theorem Row.of_owns {α : Type} {enc : α → List Value} {k base : Nat} {e : TypeId} {w : World} {v : Value} {xs : List α} (he : ∀ x, (enc x).length = k) (h : w.ownsRow base e k v xs.length (xs.flatMap enc)) :
    ∃ a cap, v = .slice a xs.length cap ∧ Row enc k w.heap.size w a xs ∧ xs.length ≤ cap ∧ cap ≤ maxLen := by
  obtain ⟨_, ⟨rfl, hn⟩ | ⟨g, cap, cur, rfl, hb, hh, hnc, hcm, hsz, ht⟩⟩ := h
  · have : xs = [] := List.length_eq_zero_iff.1 hn
    subst this
    exact ⟨none, 0, rfl, Row.nil, by simp, by simp [maxLen]⟩
  · refine ⟨some ⟨g, 0, none⟩, cap, rfl, ?_, hnc, hcm⟩
    intro i x hx
    refine ⟨g, 0, rfl, ?_, ?_⟩
    · rcases Nat.lt_or_ge g w.heap.size with h' | h'
      · exact h'
      · rw [Array.getElem?_eq_none h'] at hh; cases hh
    · intro j u hj
      have hjk : j < k := by rw [← he x]; exact (List.getElem?_eq_some_iff.1 hj).1
      have hix : i < xs.length := (List.getElem?_eq_some_iff.1 hx).1
      have h1 := flatMap_get he xs i x hx j hjk
      rw [← ht, List.getElem?_take] at h1
      split at h1
      · rw [hj] at h1
        simp only [World.cell?, hh, Nat.zero_add]
        simpa using h1
      · rw [hj] at h1; cases h1

theorem owns_nil {base : Nat} {e : TypeId} {k : Nat} {w : World} {α : Type} {enc : α → List Value} : w.ownsRow base e k (.slice none 0 0) ([] : List α).length (([] : List α).flatMap enc) :=
  ⟨by simp, .inl ⟨rfl, rfl⟩⟩

theorem owns_keep {base : Nat} {e : TypeId} {k n : Nat} {w w' : World} {v : Value} {xs : List Value} (h : w.ownsRow base e k v n xs) (hb : Below w.heap.size w w') : w'.ownsRow base e k v n xs := by
  obtain ⟨h1, h2 | ⟨g, cap, cur, hv, hg, hh, r⟩⟩ := h
  · exact ⟨h1, .inl h2⟩
  · refine ⟨h1, .inr ⟨g, cap, cur, hv, hg, ?_, r⟩⟩
    rw [hb.block g ?_]
    · exact hh
    · rcases Nat.lt_or_ge g w.heap.size with h' | h'
      · exact h'
      · rw [Array.getElem?_eq_none h'] at hh; cases hh

theorem owns_base {base base' : Nat} {e : TypeId} {k n : Nat} {w : World} {v : Value} {xs : List Value} (h : w.ownsRow base e k v n xs) (hb : base' ≤ base) : w.ownsRow base' e k v n xs := by
  obtain ⟨h1, h2 | ⟨g, cap, cur, hv, hg, hh, r⟩⟩ := h
  · exact ⟨h1, .inl h2⟩
  · exact ⟨h1, .inr ⟨g, cap, cur, hv, Nat.le_trans hb hg, hh, r⟩⟩

theorem flatMap_at {α : Type} {enc : α → List Value} {k : Nat} (hk : 0 < k) (he : ∀ x, (enc x).length = k) (xs : List α) (j : Nat) (u : Value) (h : (xs.flatMap enc)[j]? = some u) :
    ∃ x, xs[j / k]? = some x ∧ (enc x)[j % k]? = some u := by
  have hj : j < xs.length * k := by rw [← flatMap_len he xs]; exact (List.getElem?_eq_some_iff.1 h).1
  have hi : j / k < xs.length := Nat.div_lt_of_lt_mul (by rw [Nat.mul_comm]; exact hj)
  refine ⟨xs[j / k], by simp [hi], ?_⟩
  rw [← flatMap_get he xs (j / k) xs[j / k] (by simp [hi]) (j % k) (Nat.mod_lt _ hk), ← h]
  congr 1
  have := Nat.div_add_mod j k
  rw [Nat.mul_comm] at this
  omega

theorem Row.news {α : Type} {enc : α → List Value} {k B : Nat} {w : World} {ad : Addr} {ys : List α} (hk : 0 < k) (he : ∀ x, (enc x).length = k) (h : Row enc k B w (some ad) ys) :
    ∀ j u, (ys.flatMap enc)[j]? = some u → w.cell? (ad.add j) = some u := by
  intro j u hj
  obtain ⟨x, hx, hu⟩ := flatMap_at hk he ys j u hj
  obtain ⟨b, off, ha, _, hc⟩ := h _ x hx
  simp only [Option.some.injEq] at ha
  subst ha
  have h1 := hc _ u hu
  have e : (⟨b, off, none⟩ : Addr).add j = ⟨b, off + j / k * k + j % k, none⟩ := by
    have h2 : off + j / k * k + j % k = off + j := by
      have := Nat.div_add_mod j k
      rw [Nat.mul_comm] at this
      omega
    unfold Addr.add
    split
    · rename_i h0; rw [h2, h0]; rfl
    · rw [h2]
  rw [e]
  exact h1

/-- APPENDING A LIST to a slice that the call owns, wherever the list lies (nil too). -/
theorem wpList_append_list {α : Type} {enc : α → List Value} {P : Program} {w : World} {ops : Array Oper} {rest : List Oper} {o : Oper} {a : Act} {Q : Exit → Act → World → Prop} (hgd : o.guard = none) (s x : Operand) (t : TypeId)
    (ho : o.op = .call { callee := .builtin .append, args := #[s, x], argTypes := #[t, t] })
    (base : Nat) (e : TypeId) (i : TypeInfo) (z : Value) (size bytes : Nat) (ht : P.underlying t = some (.slice e)) (hi : P.info? e = some i) (hz : i.zero = some z)
    (hsize : i.size = size) (hby : i.bytes = bytes) (hzs : z.cells.size = size) (hsz : 0 < size) (he : ∀ x : α, (enc x).length = size) (h1 : ∀ (x : α), ∀ u ∈ enc x, u.oneCell' = true)
    (v : Value) (xs : List α) (hs : a.eval s = v) (hown : w.ownsRow base e size v xs.length (xs.flatMap enc))
    (ad : Option Addr) (c : Nat) (ys : List α) (hx : a.eval x = .slice ad ys.length c) (hc : ad = none → c = 0) {B : Nat} (hrow : Row enc size B w ad ys)
    (h63 : xs.length + ys.length ≤ maxLen) (hbytes : (xs.length + ys.length) * bytes ≤ 140737488355328) (hbase : base ≤ w.heap.size)
    (h : ∀ v' w', w'.ownsRow base e size v' (xs ++ ys).length ((xs ++ ys).flatMap enc) → w.grownBy w' v.ownBlock → wpList P ops Q rest (a.put o.dst v') w') : wpList P ops Q (o :: rest) a w := by
  cases ad with
  | none =>
    have hys : ys = [] := by
      cases ys with
      | nil => rfl
      | cons y ys => obtain ⟨b, off, ha, _⟩ := hrow 0 y rfl; cases ha
    subst hys
    have := hc rfl
    subst this
    exact wpList_append_own_none hgd s x t ho base e i size ht hi v xs.length _ hs hown hx (h v w (by simpa using hown) ⟨rfl, rfl, rfl, Nat.le_refl _, fun _ _ _ => rfl⟩)
  | some ad =>
    refine wpList_append_own w hgd s x t ho base e i z size bytes ht hi hz hsize hby hzs hsz v xs.length _ hs hown ad ys.length c (ys.flatMap enc) hx (flatMap_len he ys) (hrow.news hsz he) ?_ h63 hbytes hbase ?_
    · intro u hu
      obtain ⟨y, _, hy⟩ := List.mem_flatMap.1 hu
      exact h1 y u hy
    · intro v' w' ho' hg _
      exact h v' w' (by simpa [List.length_append] using ho') hg

/-! ### A block of the call's own, known whole -/
def Blk (w : World) (b : Nat) (arr : Array Value) (t : TypeId) : Prop := w.heap[b]? = some (.cells arr t (0, 0))
theorem Blk.lt {w : World} {b : Nat} {arr : Array Value} {t : TypeId} (h : Blk w b arr t) : b < w.heap.size := by
  rcases Nat.lt_or_ge b w.heap.size with h' | h'
  · exact h'
  · unfold Blk at h; rw [Array.getElem?_eq_none h'] at h; cases h
theorem Blk.cell {w : World} {b : Nat} {arr : Array Value} {t : TypeId} (h : Blk w b arr t) (i : Nat) : w.cell? ⟨b, i, none⟩ = arr[i]? := by
  unfold Blk at h
  simp [World.cell?, h]
theorem Blk.free {w : World} {b : Nat} {arr : Array Value} {t : TypeId} (h : Blk w b arr t) (i : Nat) : w.frozen? ⟨b, i, none⟩ = false := by
  unfold Blk at h
  simp [World.frozen?, h]
theorem Blk.keep {w w' : World} {b : Nat} {arr : Array Value} {t : TypeId} (h : Blk w b arr t) (hb : Kept w w') : Blk w' b arr t := by
  unfold Blk
  rw [hb.block b h.lt]
  exact h
theorem Blk.alloc {w : World} {b : Nat} {arr : Array Value} {t : TypeId} (h : Blk w b arr t) (o : Obj) : Blk (w.alloc o) b arr t :=
  h.keep ((Below.refl _ _).alloc (Nat.le_refl _) o)
theorem Blk.drew {w : World} {b : Nat} {arr : Array Value} {t : TypeId} (h : Blk w b arr t) : Blk w.drew b arr t := h
theorem Blk.new {w : World} {arr : Array Value} {t : TypeId} : Blk (w.alloc (.cells arr t)) w.heap.size arr t := by
  show (w.heap.push _)[w.heap.size]? = _
  simp
theorem Blk.set {w : World} {b : Nat} {arr : Array Value} {t : TypeId} (h : Blk w b arr t) (i : Nat) (v : Value) : Blk (w.setCell ⟨b, i, none⟩ v) b (arr.setIfInBounds i v) t := by
  unfold Blk at *
  simp [World.setCell, Array.getElem?_modify, h]
theorem Blk.other {w : World} {b : Nat} {arr : Array Value} {t : TypeId} (h : Blk w b arr t) {a : Addr} (hne : a.block ≠ b) (v : Value) : Blk (w.setCell a v) b arr t := by
  unfold Blk at *
  rw [Below.heap_setCell _ _ _ _ (Ne.symm hne)]
  exact h

/-- a new block of elements reads as a row -/
theorem Row.fresh {α : Type} {enc : α → List Value} {k : Nat} {w : World} {arr : Array Value} {e : TypeId} {xs : List α} (he : ∀ x, (enc x).length = k) (h : arr.toList = xs.flatMap enc) :
    Row enc k (w.alloc (.cells arr e)).heap.size (w.alloc (.cells arr e)) (some ⟨w.heap.size, 0, none⟩) xs := by
  intro i x hx
  refine ⟨w.heap.size, 0, rfl, by simp, fun j v hj => ?_⟩
  have hjk : j < k := by rw [← he x]; exact (List.getElem?_eq_some_iff.1 hj).1
  rw [(Blk.new (w := w) (arr := arr) (t := e)).cell, Nat.zero_add, ← Array.getElem?_toList, h, flatMap_get he xs i x hx j hjk]
  exact hj

/-! ### Cells that are numbers or bools, whatever structs they lie in -/
inductive Leaf where
  | int (k : IntKind)
  | bool
  deriving DecidableEq

def LeafOk : Leaf → Value → Prop
  | .int k, v => ∃ n, v = .int k n ∧ (Lit.int k n).wf = true
  | .bool, v => ∃ b, v = .bool b

/-- the leaves of a row of fields, each by f, the first of them at off -/
def leavesL (P : Program) (g : TypeId → Option (List Leaf)) : Nat → List Field → Option (List Leaf)
  | _, [] => some []
  | off, f :: fs => if f.offset = off then (g f.type).bind fun m => if m.length = P.cellsOf f.type then (leavesL P g (off + m.length) fs).map (m ++ ·) else none else none

/-- the leaves of a type that is made of integers, bools and structs alone -/
def leaves (P : Program) : Nat → TypeId → Option (List Leaf)
  | 0, _ => none
  | n + 1, t => match P.underlying t with
    | some (.int k) => some [.int k]
    | some .bool => some [.bool]
    | some (.struct fs) => (leavesL P (leaves P n) 0 fs.toList).bind fun l => if l.length = P.cellsOf t then some l else none
    | _ => none

/-- cells that are leaves -/
def LeavesOk (ls : List Leaf) (cs : List Value) : Prop := cs.length = ls.length ∧ ∀ (j : Nat) (f : Leaf), ls[j]? = some f → ∃ v, cs[j]? = some v ∧ LeafOk f v

theorem leavesL_ok {P : Program} {g : TypeId → Option (List Leaf)} {cs : List Value} : ∀ (fs : List Field) (off : Nat) (ls : List Leaf),
    leavesL P g off fs = some ls → (∀ f ∈ fs, ∀ m, g f.type = some m → LeavesOk m ((cs.drop f.offset).take (P.cellsOf f.type))) →
    ∀ (j : Nat) (f : Leaf), ls[j]? = some f → ∃ v, cs[off + j]? = some v ∧ LeafOk f v
  | [], off, ls, h, _, j, f, hj => by simp [leavesL] at h; subst h; simp at hj
  | f :: fs, off, ls, h, hf, j, lf, hj => by
    simp only [leavesL] at h
    split at h
    · rename_i ho
      obtain ⟨m, hm, h⟩ := Option.bind_eq_some_iff.1 h
      split at h
      · rename_i hml
        obtain ⟨rest, hr, rfl⟩ := Option.map_eq_some_iff.1 h
        by_cases hjm : j < m.length
        · rw [List.getElem?_append_left hjm] at hj
          obtain ⟨_, h2⟩ := hf f (by simp) m hm
          obtain ⟨v, hv, hok⟩ := h2 j lf hj
          refine ⟨v, ?_, hok⟩
          rw [List.getElem?_take, List.getElem?_drop] at hv
          split at hv
          · rw [← ho]; exact hv
          · simp at hv
        · rw [List.getElem?_append_right (by omega)] at hj
          obtain ⟨v, hv, hok⟩ := leavesL_ok fs (off + m.length) rest hr (fun f' hf' => hf f' (by simp [hf'])) (j - m.length) lf hj
          exact ⟨v, by rw [← hv]; congr 1; omega, hok⟩
      · simp at h
    · simp at h

section
variable {H : Type} {enc : TypeId × Value → H} {P : Program} {w : World} {base : Nat} {spare : Nat → Bool} {held : Bool}

theorem leaves_ok (n : Nat) : ∀ (t : TypeId) (ls : List Leaf) (fuel : Nat) (cs : List Value) (x : DataW H × List MemPlace), leaves P n t = some ls → DataW.trod enc P w base spare held fuel t cs = some x → LeavesOk ls cs := by
  induction n with
  | zero => intro t ls fuel cs x h; simp [leaves] at h
  | succ n ih =>
    intro t ls fuel cs x h hx
    unfold leaves at h
    split at h
    · rename_i k hk
      simp only [Option.some.injEq] at h
      subst h
      obtain ⟨q, rfl, _, hw⟩ := DataW.trod_int hk hx
      refine ⟨rfl, fun j f hj => ?_⟩
      cases j with
      | zero => simp at hj; subst hj; exact ⟨_, rfl, q, rfl, hw⟩
      | succ j => simp at hj
    · rename_i hk
      simp only [Option.some.injEq] at h
      subst h
      obtain ⟨q, rfl, _⟩ := DataW.trod_bool hk hx
      refine ⟨rfl, fun j f hj => ?_⟩
      cases j with
      | zero => simp at hj; subst hj; exact ⟨_, rfl, q, rfl⟩
      | succ j => simp at hj
    · rename_i fs hk
      obtain ⟨l, hl, h⟩ := Option.bind_eq_some_iff.1 h
      split at h
      · rename_i hlen
        simp only [Option.some.injEq] at h
        subst h
        obtain ⟨xs, m, _, _, hcl, hxl, hg⟩ := DataW.trod_struct hk hx
        refine ⟨by rw [hcl, hlen], fun j f hj => ?_⟩
        have := leavesL_ok (cs := cs) fs.toList 0 l hl (fun f' hf' q hq => by
          obtain ⟨i, hi, rfl⟩ := List.mem_iff_getElem.1 hf'
          have hi' : i < fs.size := by simpa using hi
          have h1 := hg i fs[i] (by simp [hi'])
          have hx1 : xs[i]? = some (xs[i]'(by omega)) := List.getElem?_eq_getElem (by omega)
          rw [hx1] at h1
          simpa using ih _ _ _ _ _ hq h1) j f hj
        simpa using this
      · simp at h
    · simp at h

/-- A SLICE OF SUCH ELEMENTS, OPENED: its elements' cells. -/
theorem open_leaves {t e : TypeId} {n : Nat} {ls : List Leaf} {fuel : Nat} {cs : List Value} {x : DataW H × List MemPlace} (ht : P.underlying t = some (.slice e)) (hls : leaves P n e = some ls) (hk : P.cellsOf e = ls.length) (hne : 0 < ls.length)
    (h : DataW.trod enc P w base spare held fuel t cs = some x) :
    ∃ (a : Option Addr) (cap : Nat) (xs : List (List Value)), cs = [.slice a xs.length cap] ∧ xs.length ≤ cap ∧ cap ≤ maxLen ∧ Row id ls.length w.heap.size w a xs ∧ (∀ x ∈ xs, LeavesOk ls x) ∧ (a = none → cap = 0) := by
  rcases Go.Deep.open_slice ht h with ⟨rfl, _⟩ | ⟨a, len, cap, m, q, D, Pl, rfl, hb, hl, hm, hmm, _, hi⟩
  · exact ⟨none, 0, [], rfl, by simp, by simp [maxLen], Row.nil, by simp, fun _ => rfl⟩
  · have hlm : len ≤ m := by subst hmm; split <;> omega
    obtain ⟨f, hf⟩ := Go.Deep.choose_lt (n := len) (p := fun i cs' => w.cells? base (a.add (i * P.cellsOf e)) (P.cellsOf e) = some cs' ∧ DataW.trod enc P w base spare held q e cs' = some (D i, Pl i)) (fun i hil => hi i (by omega))
    refine ⟨some a, cap, (List.range len).map f, by simp, by simpa using hl, hm, ?_, ?_, by simp⟩
    · intro i y hy
      have hil : i < len := by
        have := (List.getElem?_eq_some_iff.1 hy).1
        simpa using this
      simp [hil] at hy
      subst hy
      have hsp : a.spot = none := by
        obtain ⟨hc, ht'⟩ := hf 0 (by omega)
        obtain ⟨_, hcl, hat⟩ := World.cells?_some hc
        have h1 := hat 0 (by omega)
        have hv : (f 0)[0]? = some ((f 0)[0]'(by omega)) := List.getElem?_eq_getElem (by omega)
        rw [hv] at h1
        have := World.cell?_spot h1
        simpa [Addr.add] using this
      obtain ⟨ab, ao, asp⟩ := a
      simp at hsp
      subst hsp
      obtain ⟨hc, ht'⟩ := hf i hil
      obtain ⟨_, hcl, hat⟩ := World.cells?_some hc
      have hat' : ∀ j, j < ls.length → w.cell? ⟨ab, ao + i * ls.length + j, none⟩ = (f i)[j]? := by
        intro j hj
        have h1 := hat j (by omega)
        rw [Go.Deep.add_add, hk] at h1
        rw [← h1]
        congr 1
        unfold Addr.add
        split
        · rename_i h0
          have h3 : ao + i * ls.length + j = ao := by omega
          rw [h3]
        · simp [Nat.add_assoc]
      refine ⟨ab, ao, rfl, ?_, fun j v hj => ?_⟩
      · have h0 := hat' 0 hne
        have hv : (f i)[0]? = some ((f i)[0]'(by omega)) := List.getElem?_eq_getElem (by omega)
        rw [hv] at h0
        rcases Nat.lt_or_ge ab w.heap.size with h' | h'
        · exact h'
        · simp [World.cell?, Array.getElem?_eq_none h'] at h0
      · have hjl : j < (f i).length := (List.getElem?_eq_some_iff.1 hj).1
        rw [hat' j (by omega)]
        exact hj
    · intro y hy
      simp at hy
      obtain ⟨i, hil, rfl⟩ := hy
      obtain ⟨hc, ht'⟩ := hf i hil
      exact leaves_ok n _ _ _ _ _ hls ht'

theorem Row.of_map {α : Type} {enc : α → List Value} {k B : Nat} {w : World} {a : Option Addr} {ys : List α} (h : Row id k B w a (ys.map enc)) : Row enc k B w a ys := by
  intro i x hx
  exact h i (enc x) (by simp [hx])

theorem decode {α : Type} {enc : α → List Value} {wf : α → Prop} {ls : List Leaf} (hdec : ∀ cs, LeavesOk ls cs → ∃ x : α, cs = enc x ∧ wf x) : ∀ (xs : List (List Value)), (∀ x ∈ xs, LeavesOk ls x) →
    ∃ ys : List α, xs = ys.map enc ∧ ∀ y ∈ ys, wf y
  | [], _ => ⟨[], rfl, by simp⟩
  | c :: cs, h => by
    obtain ⟨y, rfl, hy⟩ := hdec c (h c (by simp))
    obtain ⟨ys, rfl, hys⟩ := decode hdec cs (fun x hx => h x (by simp [hx]))
    exact ⟨y :: ys, rfl, by simpa using ⟨hy, hys⟩⟩

/-- A slice that came in, opened to a list of plain things. -/
theorem open_typed {α : Type} {enc' : α → List Value} {wf : α → Prop} {ls : List Leaf} (hdec : ∀ cs, LeavesOk ls cs → ∃ x : α, cs = enc' x ∧ wf x) {t e : TypeId} {n : Nat} {fuel : Nat} {cs : List Value} {x : DataW H × List MemPlace}
    (ht : P.underlying t = some (.slice e)) (hls : leaves P n e = some ls) (hk : P.cellsOf e = ls.length) (hne : 0 < ls.length) (h : DataW.trod enc P w base spare held fuel t cs = some x) :
    ∃ (a : Option Addr) (cap : Nat) (ys : List α), cs = [.slice a ys.length cap] ∧ ys.length ≤ cap ∧ cap ≤ maxLen ∧ Row enc' ls.length w.heap.size w a ys ∧ (∀ y ∈ ys, wf y) ∧ (a = none → cap = 0) := by
  obtain ⟨a, cap, xs, rfl, h1, h2, h3, h4, h5⟩ := open_leaves ht hls hk hne h
  obtain ⟨ys, rfl, hys⟩ := decode hdec xs h4
  exact ⟨a, cap, ys, by simp, by simpa using h1, h2, h3.of_map, hys, h5⟩
end

/-! ### Regions that draw their order and only read or call: one walk of the text's order -/
/-- a world in which all that was there is as it was -/
structure Later (w : World) where
  val : World
  ok : Below w.heap.size w val
instance {w : World} : Nonempty (Later w) := ⟨⟨w, Below.refl _ _⟩⟩

theorem Later.cell {w : World} (g : Later w) {b o : Nat} (h : b < w.heap.size) : g.val.cell? ⟨b, o, none⟩ = w.cell? ⟨b, o, none⟩ := g.ok.cell (p := ⟨b, o, none⟩) h
theorem Later.some {w : World} (g : Later w) {b o : Nat} {v : Value} (h : w.cell? ⟨b, o, none⟩ = some v) : g.val.cell? ⟨b, o, none⟩ = some v := by
  rw [g.cell, h]
  rcases Nat.lt_or_ge b w.heap.size with h' | h'
  · exact h'
  · simp [World.cell?, Array.getElem?_eq_none h'] at h

theorem Later.region {P : Program} {id : Nat} {Q : Exit → Act → World → Prop} {a : Act} {w : World} {l : List Oper} (hm : P.follows .mixedOrders = true) (hB : Region.lexB .any l.toArray = true)
    (h : wpQuiet P l.toArray (fun w' => ∃ g : Later w, w' = g.val) (fun a' => ∀ g : Later w, Q .normal a' g.val) l a) : (Code.region id l.toArray true).wp P Q a w :=
  wp_region_quiet (C := fun w' => ∃ g : Later w, w' = g.val) hm hB ⟨⟨w.drew, (Below.refl _ _).drew⟩, rfl⟩ (by
    have e : (fun a' => ∀ w', (∃ g : Later w, w' = g.val) → Q .normal a' w') = (fun a' => ∀ g : Later w, Q .normal a' g.val) := by
      funext a'
      exact propext ⟨fun h g => h _ ⟨g, rfl⟩, fun h _ ⟨g, hg⟩ => hg ▸ h g⟩
    rw [e]
    simpa using h)

/-- a contract, met in such a region -/
theorem Later.call {P : Program} {f : FuncId} {args : Array Value} {w : World} {g : Later w} {v : Value}
    (h : Calls P f args g.val fun e w' => e = .returned v ∧ Kept g.val w') : Calls P f args g.val fun e w'' => e = .returned v ∧ ∃ g' : Later w, w'' = g'.val :=
  h.mono fun _ w'' ⟨he, hk⟩ => ⟨he, ⟨w'', Kept.drop g.ok hk⟩, rfl⟩
end Bal

/-
  Structs as cells of memory. No program in sight.
-/
namespace Bal.Gas
open Go Go.RowKit Bal

def Cell.cells (x : Cell) : List Value := [.int .i64 x.room, .int .i64 x.helium, .int .i64 x.air, .int .i64 x.wlo, .int .i64 x.whi, .int .i64 x.leak, .int .i64 x.owed]
theorem Cell.row {B : Nat} {w : World} {a : Option Addr} {xs : List Cell} (h : Row Cell.cells 7 B w a xs) (i : Nat) (hi : i < xs.length) :
    ∃ b off, a = some ⟨b, off, none⟩ ∧ b < B ∧ w.cell? ⟨b, off + i * 7, none⟩ = some (.int .i64 xs[i].room) ∧ w.cell? ⟨b, off + i * 7 + 1, none⟩ = some (.int .i64 xs[i].helium) ∧ w.cell? ⟨b, off + i * 7 + 2, none⟩ = some (.int .i64 xs[i].air) ∧ w.cell? ⟨b, off + i * 7 + 3, none⟩ = some (.int .i64 xs[i].wlo) ∧ w.cell? ⟨b, off + i * 7 + 4, none⟩ = some (.int .i64 xs[i].whi) ∧ w.cell? ⟨b, off + i * 7 + 5, none⟩ = some (.int .i64 xs[i].leak) ∧ w.cell? ⟨b, off + i * 7 + 6, none⟩ = some (.int .i64 xs[i].owed) := by
  obtain ⟨b, off, ha, hb, hc⟩ := h i xs[i] (by simp [hi])
  exact ⟨b, off, ha, hb, hc 0 _ rfl, hc 1 _ rfl, hc 2 _ rfl, hc 3 _ rfl, hc 4 _ rfl, hc 5 _ rfl, hc 6 _ rfl⟩
theorem Cell.of_leaves {cs : List Value} (h : LeavesOk [.int .i64, .int .i64, .int .i64, .int .i64, .int .i64, .int .i64, .int .i64] cs) : ∃ x : Cell, cs = x.cells ∧ (Lit.int .i64 x.room).wf = true ∧ (Lit.int .i64 x.helium).wf = true ∧ (Lit.int .i64 x.air).wf = true ∧ (Lit.int .i64 x.wlo).wf = true ∧ (Lit.int .i64 x.whi).wf = true ∧ (Lit.int .i64 x.leak).wf = true ∧ (Lit.int .i64 x.owed).wf = true := by
  obtain ⟨hl, h⟩ := h
  match cs, hl with
  | [v0, v1, v2, v3, v4, v5, v6], _ =>
    obtain ⟨_, e0, n0, rfl, w0⟩ := h 0 (.int .i64) rfl; simp at e0; subst e0
    obtain ⟨_, e1, n1, rfl, w1⟩ := h 1 (.int .i64) rfl; simp at e1; subst e1
    obtain ⟨_, e2, n2, rfl, w2⟩ := h 2 (.int .i64) rfl; simp at e2; subst e2
    obtain ⟨_, e3, n3, rfl, w3⟩ := h 3 (.int .i64) rfl; simp at e3; subst e3
    obtain ⟨_, e4, n4, rfl, w4⟩ := h 4 (.int .i64) rfl; simp at e4; subst e4
    obtain ⟨_, e5, n5, rfl, w5⟩ := h 5 (.int .i64) rfl; simp at e5; subst e5
    obtain ⟨_, e6, n6, rfl, w6⟩ := h 6 (.int .i64) rfl; simp at e6; subst e6
    exact ⟨⟨n0, n1, n2, n3, n4, n5, n6⟩, rfl, w0, w1, w2, w3, w4, w5, w6⟩

def Air.cells (x : Air) : List Value := [.int .i64 x.plo, .int .i64 x.phi, .int .i64 x.tlo, .int .i64 x.thi]
theorem Air.row {B : Nat} {w : World} {a : Option Addr} {xs : List Air} (h : Row Air.cells 4 B w a xs) (i : Nat) (hi : i < xs.length) :
    ∃ b off, a = some ⟨b, off, none⟩ ∧ b < B ∧ w.cell? ⟨b, off + i * 4, none⟩ = some (.int .i64 xs[i].plo) ∧ w.cell? ⟨b, off + i * 4 + 1, none⟩ = some (.int .i64 xs[i].phi) ∧ w.cell? ⟨b, off + i * 4 + 2, none⟩ = some (.int .i64 xs[i].tlo) ∧ w.cell? ⟨b, off + i * 4 + 3, none⟩ = some (.int .i64 xs[i].thi) := by
  obtain ⟨b, off, ha, hb, hc⟩ := h i xs[i] (by simp [hi])
  exact ⟨b, off, ha, hb, hc 0 _ rfl, hc 1 _ rfl, hc 2 _ rfl, hc 3 _ rfl⟩
theorem Air.of_leaves {cs : List Value} (h : LeavesOk [.int .i64, .int .i64, .int .i64, .int .i64] cs) : ∃ x : Air, cs = x.cells ∧ (Lit.int .i64 x.plo).wf = true ∧ (Lit.int .i64 x.phi).wf = true ∧ (Lit.int .i64 x.tlo).wf = true ∧ (Lit.int .i64 x.thi).wf = true := by
  obtain ⟨hl, h⟩ := h
  match cs, hl with
  | [v0, v1, v2, v3], _ =>
    obtain ⟨_, e0, n0, rfl, w0⟩ := h 0 (.int .i64) rfl; simp at e0; subst e0
    obtain ⟨_, e1, n1, rfl, w1⟩ := h 1 (.int .i64) rfl; simp at e1; subst e1
    obtain ⟨_, e2, n2, rfl, w2⟩ := h 2 (.int .i64) rfl; simp at e2; subst e2
    obtain ⟨_, e3, n3, rfl, w3⟩ := h 3 (.int .i64) rfl; simp at e3; subst e3
    exact ⟨⟨n0, n1, n2, n3⟩, rfl, w0, w1, w2, w3⟩

def Hull.cells (x : Hull) : List Value := [.int .i64 x.room, .int .i64 x.gas, .int .i64 x.ballonet, .int .i64 x.bag, .int .i64 x.wlo, .int .i64 x.whi, .int .i64 x.least, .int .i64 x.most]
theorem Hull.row {B : Nat} {w : World} {a : Option Addr} {xs : List Hull} (h : Row Hull.cells 8 B w a xs) (i : Nat) (hi : i < xs.length) :
    ∃ b off, a = some ⟨b, off, none⟩ ∧ b < B ∧ w.cell? ⟨b, off + i * 8, none⟩ = some (.int .i64 xs[i].room) ∧ w.cell? ⟨b, off + i * 8 + 1, none⟩ = some (.int .i64 xs[i].gas) ∧ w.cell? ⟨b, off + i * 8 + 2, none⟩ = some (.int .i64 xs[i].ballonet) ∧ w.cell? ⟨b, off + i * 8 + 3, none⟩ = some (.int .i64 xs[i].bag) ∧ w.cell? ⟨b, off + i * 8 + 4, none⟩ = some (.int .i64 xs[i].wlo) ∧ w.cell? ⟨b, off + i * 8 + 5, none⟩ = some (.int .i64 xs[i].whi) ∧ w.cell? ⟨b, off + i * 8 + 6, none⟩ = some (.int .i64 xs[i].least) ∧ w.cell? ⟨b, off + i * 8 + 7, none⟩ = some (.int .i64 xs[i].most) := by
  obtain ⟨b, off, ha, hb, hc⟩ := h i xs[i] (by simp [hi])
  exact ⟨b, off, ha, hb, hc 0 _ rfl, hc 1 _ rfl, hc 2 _ rfl, hc 3 _ rfl, hc 4 _ rfl, hc 5 _ rfl, hc 6 _ rfl, hc 7 _ rfl⟩
theorem Hull.of_leaves {cs : List Value} (h : LeavesOk [.int .i64, .int .i64, .int .i64, .int .i64, .int .i64, .int .i64, .int .i64, .int .i64] cs) : ∃ x : Hull, cs = x.cells ∧ (Lit.int .i64 x.room).wf = true ∧ (Lit.int .i64 x.gas).wf = true ∧ (Lit.int .i64 x.ballonet).wf = true ∧ (Lit.int .i64 x.bag).wf = true ∧ (Lit.int .i64 x.wlo).wf = true ∧ (Lit.int .i64 x.whi).wf = true ∧ (Lit.int .i64 x.least).wf = true ∧ (Lit.int .i64 x.most).wf = true := by
  obtain ⟨hl, h⟩ := h
  match cs, hl with
  | [v0, v1, v2, v3, v4, v5, v6, v7], _ =>
    obtain ⟨_, e0, n0, rfl, w0⟩ := h 0 (.int .i64) rfl; simp at e0; subst e0
    obtain ⟨_, e1, n1, rfl, w1⟩ := h 1 (.int .i64) rfl; simp at e1; subst e1
    obtain ⟨_, e2, n2, rfl, w2⟩ := h 2 (.int .i64) rfl; simp at e2; subst e2
    obtain ⟨_, e3, n3, rfl, w3⟩ := h 3 (.int .i64) rfl; simp at e3; subst e3
    obtain ⟨_, e4, n4, rfl, w4⟩ := h 4 (.int .i64) rfl; simp at e4; subst e4
    obtain ⟨_, e5, n5, rfl, w5⟩ := h 5 (.int .i64) rfl; simp at e5; subst e5
    obtain ⟨_, e6, n6, rfl, w6⟩ := h 6 (.int .i64) rfl; simp at e6; subst e6
    obtain ⟨_, e7, n7, rfl, w7⟩ := h 7 (.int .i64) rfl; simp at e7; subst e7
    exact ⟨⟨n0, n1, n2, n3, n4, n5, n6, n7⟩, rfl, w0, w1, w2, w3, w4, w5, w6, w7⟩

def Ratio.cells (x : Ratio) : List Value := [.int .i64 x.num, .int .i64 x.den]
theorem Ratio.row {B : Nat} {w : World} {a : Option Addr} {xs : List Ratio} (h : Row Ratio.cells 2 B w a xs) (i : Nat) (hi : i < xs.length) :
    ∃ b off, a = some ⟨b, off, none⟩ ∧ b < B ∧ w.cell? ⟨b, off + i * 2, none⟩ = some (.int .i64 xs[i].num) ∧ w.cell? ⟨b, off + i * 2 + 1, none⟩ = some (.int .i64 xs[i].den) := by
  obtain ⟨b, off, ha, hb, hc⟩ := h i xs[i] (by simp [hi])
  exact ⟨b, off, ha, hb, hc 0 _ rfl, hc 1 _ rfl⟩
theorem Ratio.of_leaves {cs : List Value} (h : LeavesOk [.int .i64, .int .i64] cs) : ∃ x : Ratio, cs = x.cells ∧ (Lit.int .i64 x.num).wf = true ∧ (Lit.int .i64 x.den).wf = true := by
  obtain ⟨hl, h⟩ := h
  match cs, hl with
  | [v0, v1], _ =>
    obtain ⟨_, e0, n0, rfl, w0⟩ := h 0 (.int .i64) rfl; simp at e0; subst e0
    obtain ⟨_, e1, n1, rfl, w1⟩ := h 1 (.int .i64) rfl; simp at e1; subst e1
    exact ⟨⟨n0, n1⟩, rfl, w0, w1⟩

end Bal.Gas

/-
  Regions that draw their order: first operations that only read or call (calls may make memory), then operations in one forced order (stores): one walk in the text's order. No program in sight.
-/
namespace Bal
open Go Go.RowKit

theorem Blk.new' {w : World} {n : Nat} {arr : Array Value} {t : TypeId} (h : n = w.heap.size) : Blk (w.alloc (.cells arr t)) n arr t := h ▸ Blk.new
/-- the world of a walk, by what is known of it alone -/
theorem at_world {P : Program} {c : Code} {Q : Exit → Act → World → Prop} {a : Act} {S : World → Prop} {W : World} (h : S W) (k : ∀ W, S W → c.wp P Q a W) : c.wp P Q a W := k W h
theorem Blk.later {w : World} {b : Nat} {arr : Array Value} {t : TypeId} (h : Blk w b arr t) (g : Later w) : Blk g.val b arr t := h.keep g.ok
theorem Blk.cast {w : World} {b : Nat} {arr arr' : Array Value} {t : TypeId} (h : Blk w b arr t) (e : arr = arr') : Blk w b arr' t := e ▸ h
/-- a block of the call's own, behind a contract -/
theorem Blk.thru {w w' : World} {b : Nat} {arr : Array Value} {t : TypeId} {G : Prop} (h : Blk w b arr t) (hb : Kept w w') (k : Blk w' b arr t → G) : G := k (h.keep hb)

/-! ### Facts on worlds and blocks, each by one tactic that is laid here once -/
theorem kpt0 {w w' : World} (h : Kept w w' := by (repeat (first | with_reducible exact Below.refl _ _ | with_reducible assumption | with_reducible refine Kept.drop ?_ (by with_reducible assumption) | with_reducible refine Kept.alloc ?_ _ | with_reducible refine Below.drew ?_))) : Kept w w' := h
theorem kpt {w w' : World} (h : Kept w w' := by (repeat (first | with_reducible exact Below.refl _ _ | with_reducible assumption | with_reducible refine Kept.drop ?_ (by with_reducible assumption) | with_reducible refine Kept.alloc ?_ _ | ((with_reducible refine Below.setCell ?_ ?_ _); rotate_left 1; (focus (first | exact Nat.le_refl _ | (simp; done) | (simp; omega) | exact Below.size (by with_reducible assumption) | (refine Kept.size ?_; (repeat (first | with_reducible exact Below.refl _ _ | with_reducible assumption | with_reducible refine Kept.drop ?_ (by with_reducible assumption) | with_reducible refine Kept.alloc ?_ _ | with_reducible refine Below.drew ?_)))))) | with_reducible refine Below.drew ?_))) : Kept w w' := h
theorem blk0 {w : World} {b : Nat} {arr : Array Value} {t : TypeId} (h : Blk w b arr t := by (repeat (first | with_reducible assumption | ((with_reducible refine Blk.new' ?_); first | with_reducible rfl | (simp; done) | (simp [World.drew]; done)) | with_reducible refine Blk.alloc ?_ _ | with_reducible refine Blk.keep ?_ (by with_reducible assumption) | with_reducible refine Blk.drew ?_))) : Blk w b arr t := h
theorem blk {w : World} {b : Nat} {arr : Array Value} {t : TypeId} (h : Blk w b arr t := by (repeat (first | with_reducible assumption | ((with_reducible refine Blk.new' ?_); first | with_reducible rfl | (simp; done) | (simp [World.drew]; done)) | with_reducible refine Blk.alloc ?_ _ | ((with_reducible refine Blk.set (arr := ?_) ?_ _ _); rotate_left 1) | ((with_reducible refine Blk.other ?_ ?_ _); rotate_left 1; (focus (first | (simp; done) | (simp; omega) | (refine Nat.ne_of_gt (Blk.lt (arr := ?_) (t := ?_) ?_); rotate_left 2; focus (repeat (first | with_reducible assumption | ((with_reducible refine Blk.new' ?_); first | with_reducible rfl | (simp; done) | (simp [World.drew]; done)) | with_reducible refine Blk.alloc ?_ _ | with_reducible refine Blk.keep ?_ (by with_reducible assumption) | with_reducible refine Blk.drew ?_))) | (refine Nat.ne_of_lt (Blk.lt (arr := ?_) (t := ?_) ?_); rotate_left 2; focus (repeat (first | with_reducible assumption | ((with_reducible refine Blk.new' ?_); first | with_reducible rfl | (simp; done) | (simp [World.drew]; done)) | with_reducible refine Blk.alloc ?_ _ | with_reducible refine Blk.keep ?_ (by with_reducible assumption) | with_reducible refine Blk.drew ?_)))))) | with_reducible refine Blk.keep ?_ (by with_reducible assumption) | with_reducible refine Blk.drew ?_))) : Blk w b arr t := h
theorem blkc {w : World} {b : Nat} {arr : Array Value} {t : TypeId} (h : Blk w b arr t := by (refine Blk.cast (arr := ?_) ?_ ?_; rotate_left 1; (focus (repeat (first | with_reducible assumption | ((with_reducible refine Blk.new' ?_); first | with_reducible rfl | (simp; done) | (simp [World.drew]; done)) | with_reducible refine Blk.alloc ?_ _ | ((with_reducible refine Blk.set (arr := ?_) ?_ _ _); rotate_left 1) | ((with_reducible refine Blk.other ?_ ?_ _); rotate_left 1; (focus (first | (simp; done) | (simp; omega) | (refine Nat.ne_of_gt (Blk.lt (arr := ?_) (t := ?_) ?_); rotate_left 2; focus (repeat (first | with_reducible assumption | ((with_reducible refine Blk.new' ?_); first | with_reducible rfl | (simp; done) | (simp [World.drew]; done)) | with_reducible refine Blk.alloc ?_ _ | with_reducible refine Blk.keep ?_ (by with_reducible assumption) | with_reducible refine Blk.drew ?_))) | (refine Nat.ne_of_lt (Blk.lt (arr := ?_) (t := ?_) ?_); rotate_left 2; focus (repeat (first | with_reducible assumption | ((with_reducible refine Blk.new' ?_); first | with_reducible rfl | (simp; done) | (simp [World.drew]; done)) | with_reducible refine Blk.alloc ?_ _ | with_reducible refine Blk.keep ?_ (by with_reducible assumption) | with_reducible refine Blk.drew ?_)))))) | with_reducible refine Blk.keep ?_ (by with_reducible assumption) | with_reducible refine Blk.drew ?_))); (first | rfl | (simp; done)))) : Blk w b arr t := h

section
variable {P : Program} {ops : Array Oper} {md : Region.Mode} {C : World → Prop}

/-- whatever order is picked of the first n operations -/
def wpHeadQ (P : Program) (md : Region.Mode) (ops : Array Oper) (C : World → Prop) (n : Nat) (L : Array Bool → Act → Prop) : Nat → Array Bool → Act → Prop
  | 0, listed, a => L listed a
  | f + 1, listed, a =>
    Region.ready md ops listed ≠ [] ∧ ∀ i ∈ Region.ready md ops listed, i < n ∧ qOp P ops C i (wpHeadQ P md ops C n L f (listed.setIfInBounds i true)) a

theorem wpAny_of_headQ {n g : Nat} {L : Array Bool → Act → Prop} {Q' : Exit → Act → World → Prop} (hL : ∀ listed a w, C w → L listed a → wpAny P md ops Q' g listed a w) :
    ∀ (f : Nat) (listed : Array Bool) (a : Act) (w : World), C w → wpHeadQ P md ops C n L f listed a → wpAny P md ops Q' (f + g) listed a w
  | 0, listed, a, w, hw, h => by rw [Nat.zero_add]; exact hL _ _ _ hw h
  | f + 1, listed, a, w, hw, h => by
    rw [show f + 1 + g = (f + g) + 1 by omega]
    exact ⟨fun h0 => absurd h0 h.1, fun i hi => wpOp_of_qOp hw (fun a' w' hw' h' => wpAny_of_headQ hL f _ a' w' hw' h') (h.2 i hi).2⟩

theorem wpHeadQ_first {n i : Nat} {oi : Oper} {v : Value} {L : Array Bool → Act → Prop} (hi : ops[i]? = some oi) (hsel : ∀ (j : Nat) (o : Oper) cs b, ops[j]? = some o → o.op ≠ .select cs b)
    (hs : Region.sinkB md ops n = true) (hc : Region.chainB md ops n = true) (hn : n < ops.size) (hin : i < n)
    (hdone : ∀ listed a, L listed a → ∀ j ∈ Region.ready md ops listed, n ≤ j) :
    ∀ (f : Nat) (listed : Array Bool) (a : Act), HeadInv md ops n listed →
      (∀ j oj, ops[j]? = some oj → j ≠ i → listed.getD j true = false → (∀ e ∈ oj.after, Region.binds md e = true → e.on ≠ i) → oi.apart ops oj = true) →
      i ∈ Region.ready md ops listed → YieldsIn P ops C oi v a →
      wpHeadQ P md ops C n L f (listed.setIfInBounds i true) (a.put oi.dst v) → wpHeadQ P md ops C n L (f + 1) listed a := by
  intro f
  induction f with
  | zero =>
    intro listed a inv _ hr hy H
    have hun := (mem_ready.1 hr).1
    refine ⟨fun h => (by rw [h] at hr; cases hr), fun j hj => ?_⟩
    have hjn : j < n := by
      rcases Nat.lt_or_ge j n with h | h
      · exact h
      · exact absurd hj (tail_waits hs hc hn inv _ i rfl hin hun j h)
    refine ⟨hjn, ?_⟩
    by_cases hji : j = i
    · subst hji; exact hy.qOp hi H
    · have := hdone _ _ H j (ready_mono hj hji)
      omega
  | succ f ih =>
    intro listed a inv hfree hr hy H
    have hun := (mem_ready.1 hr).1
    refine ⟨fun h => (by rw [h] at hr; cases hr), fun j hj => ?_⟩
    have hjn : j < n := by
      rcases Nat.lt_or_ge j n with h | h
      · exact h
      · exact absurd hj (tail_waits hs hc hn inv _ i rfl hin hun j h)
    refine ⟨hjn, ?_⟩
    by_cases hji : j = i
    · subst hji; exact hy.qOp hi H
    · have h1 := (H.2 j (ready_mono hj hji)).2
      obtain ⟨hjun, oj, hoj, hall⟩ := mem_ready.1 hj
      have hnot : ∀ e ∈ oj.after, Region.binds md e = true → e.on ≠ i := fun e he hb heq => by
        have h1 := hall e he hb
        rw [heq, getD_both hun] at h1
        cases h1
      have h2 := qOp_put hoj (hfree j oj hoj hji hjun hnot) (fun cs b => hsel i oi cs b hi) (fun cs b => hsel j oj cs b hoj) hy h1
      have hfree' : ∀ k ok, ops[k]? = some ok → k ≠ i → (listed.setIfInBounds j true).getD k true = false →
          (∀ e ∈ ok.after, Region.binds md e = true → e.on ≠ i) → oi.apart ops ok = true := fun k ok hk hki hun hno => by
        refine hfree k ok hk hki ?_ hno
        by_cases hjk : j = k
        · subst hjk; exact hjun
        · rw [getD_set_ne true hjk] at hun; exact hun
      refine qOp_mono (fun a' h3 => ih (listed.setIfInBounds j true) a' (inv.set hj hjn) hfree' (ready_mono hr (Ne.symm hji)) h3.1 ?_) h2
      rw [Array.setIfInBounds_comm _ _ hji]
      exact h3.2

theorem wpHeadQ_lex {n g : Nat} {Lq : Act → Prop} (hsel : Region.noSelect ops = true) (hs : Region.sinkB md ops n = true) (hc : Region.chainB md ops n = true) (hn : n < ops.size) :
    ∀ (l : List Oper) (k : Nat) (listed : Array Bool) (a : Act), (∀ j, j < l.length → l[j]? = ops[k + j]?) → k + l.length = n → HeadInv md ops n listed →
    Region.lexHead md ops g l.length k listed = true → wpQuiet P ops C Lq l a →
    wpHeadQ P md ops C n (fun listed' a' => Region.seqB md ops g n listed' = true ∧ Lq a') l.length listed a
  | [], k, listed, a, _, hk, _, hB, h => by
    have : k = n := by simpa using hk
    subst this
    exact ⟨by simpa [Region.lexHead] using hB, h⟩
  | o :: l, k, listed, a, hl, hk, inv, hB, h => by
    have h0 : ops[k]? = some o := by simpa using (hl 0 (by simp)).symm
    simp only [List.length_cons, Region.lexHead, Bool.and_eq_true] at hB
    obtain ⟨⟨hr, hf⟩, hB'⟩ := hB
    have hkn : k < n := by simp only [List.length_cons] at hk; omega
    have hr' : k ∈ Region.ready md ops listed := by simpa using hr
    have hst : qOp P ops C k (wpQuiet P ops C Lq l) a := by unfold qOp; simp only [h0]; exact h
    obtain ⟨v, hy, hK⟩ := yieldsIn_of_qOp h0 hst
    exact wpHeadQ_first h0 (Region.noSelect_spec hsel) hs hc hn hkn (fun listed' a' hL => seqB_ready hL.1) l.length listed a inv (Region.free_spec h0 hf) hr' hy
      (wpHeadQ_lex hsel hs hc hn l (k + 1) _ _ (fun j hj => by have := hl (j + 1) (by simp; omega); simpa [Nat.add_assoc, Nat.add_comm 1 j] using this) (by simp only [List.length_cons] at hk; omega) (inv.set hr' hkn) hB' hK)

/-- THE THEOREM: the first n operations quiet in the class, the rest in one forced order, from every world of the class. -/
theorem Later.tail {P : Program} {id : Nat} {Q : Exit → Act → World → Prop} {a : Act} {w : World} {l : List Oper} (n : Nat) (hm : P.follows .mixedOrders = true) (hB : Region.lexTailB .any l.toArray n = true)
    (h : wpQuiet P l.toArray (fun w' => ∃ g : Later w, w' = g.val) (fun a' => ∀ g : Later w, wpList P l.toArray Q (l.drop n) a' g.val) (l.take n) a) : (Code.region id l.toArray true).wp P Q a w := by
  simp only [Region.lexTailB, Bool.and_eq_true, decide_eq_true_eq] at hB
  obtain ⟨⟨⟨⟨hsel, hn⟩, hs⟩, hc⟩, hlex⟩ := hB
  have hn' : n < l.length := by simpa using hn
  have htl : (l.take n).length = n := by simp; omega
  have hdl : (l.drop n).length = l.toArray.size - n := by simp
  have inv0 : HeadInv .any l.toArray n (Array.replicate l.toArray.size false) :=
    ⟨by simp, fun j oj _ hl => (by rw [getD_replicate_false] at hl; cases hl), fun t _ ht => getD_in (by simpa using ht) (getD_replicate_false _ _)⟩
  have H := wpHeadQ_lex (md := .any) (g := l.toArray.size - n) hsel hs hc hn (l.take n) 0 _ a (fun j hj => by
    have hj' : j < n := by rw [htl] at hj; exact hj
    simp [hj']) (by simpa using htl) inv0 (by rw [htl]; exact hlex) h
  refine wp_region_any hm ?_
  have := wpAny_of_headQ (C := fun w' => ∃ g : Later w, w' = g.val) (Q' := Q) (g := l.toArray.size - n) (fun listed a' w' hw' hL => by
    obtain ⟨g, rfl⟩ := hw'
    have := wpAny_of_seq (md := .any) (Q' := Q) (l.drop n) n listed a' g.val (fun j => by simp [List.getElem?_drop]) (by rw [hdl]; exact hL.1) (hL.2 g)
    rwa [hdl] at this) _ _ _ { w with drawn := w.drawn + 1 } ⟨⟨w.drew, (Below.refl _ _).drew⟩, rfl⟩ H
  rw [htl, show n + (l.toArray.size - n) = l.toArray.size by omega] at this
  exact this
end
end Bal

/-
  Ranges, ratios and validity of cells and air, in the program and in the reference.
-/
namespace Go.Proofs.Ytemafanncejeiaa
open Go.RowKit Bal Bal.Trim Bal.Gas
set_option linter.unusedVariables false
set_option linter.unusedSimpArgs false
set_option maxHeartbeats 400000

theorem f_ranged (lo hi : Int) (a : Option Addr) (n cap : Nat) (xs : List Int) (w : World) (hn : xs.length = n) {B : Nat} (hx : Row icell 1 B w a xs) (h1 : n ≤ 1000000) :
    Calls Try.prog 91 #[.int .i64 lo, .int .i64 hi, .slice a n cap] w fun e w' => e = .returned (.bool (rng xs lo hi)) ∧ w = w' := by
  subst hn
  go_enter Try.func91, Try.ntmps91
  go_wp2
  go_loop [11] (fun i => ∃ k : Nat, k ≤ xs.length ∧ i = .int .i64 k ∧ (xs.take k).all (fun n => inB n lo hi) = true) (fun i => xs.length - (intOf i).toNat)
  case atStart => exact ⟨0, Nat.zero_le _, rfl, by simp⟩
  case round =>
    obtain ⟨k, hk, rfl, ha'⟩ := hrel
    have ha := Lib.hid ha'
    clear ha'
    by_cases hlt : k < xs.length
    · obtain ⟨b, off, rfl, _, ck⟩ := int_row hx k hlt
      have hbad : inB xs[k] lo hi = false → rng xs lo hi = false := fun hv => by
        unfold rng
        rw [Bool.eq_false_iff]
        intro h
        rw [List.all_eq_true.1 h _ (List.getElem_mem hlt)] at hv
        cases hv
      have HB := Lib.hid hbad
      clear hbad
      by_cases c1 : xs[k] < lo
      · go_wp2
        go_ret
        exact ⟨ret_bool (HB.out (by simp [inB]; omega)).symm, rfl⟩
      · by_cases c2 : hi < xs[k]
        · go_wp2
          go_ret
          exact ⟨ret_bool (HB.out (by simp [inB]; omega)).symm, rfl⟩
        · go_wp2
          go_round
          case rel => exact ⟨k + 1, by omega, by go_num, take_all hlt ha.out (by simp [inB]; omega)⟩
          case measure => simp [intOf]; omega
    · go_wp2
      go_ret
      have he : rng xs lo hi = true := by unfold rng; rw [← ha.out, List.take_of_length_le (by omega)]
      exact ⟨ret_bool he.symm, rfl⟩

theorem f_ranged1 (lo hi p : Int) (t : TypeId) (W : World) (m : Nat) (hm : m = W.heap.size) :
    Calls Try.prog 91 #[.int .i64 lo, .int .i64 hi, .slice (some ⟨m, 0, none⟩) 1 1] (W.alloc (.cells #[.int .i64 p] t))
      fun e w' => e = .returned (.bool (rng [p] lo hi)) ∧ W.alloc (.cells #[.int .i64 p] t) = w' := by
  subst hm
  exact f_ranged lo hi _ 1 1 [p] _ rfl (Row.fresh (enc := icell) (fun _ => rfl) rfl) (by decide)

theorem f_ranged2 (lo hi p q : Int) (t : TypeId) (W : World) (m : Nat) (hm : m = W.heap.size) :
    Calls Try.prog 91 #[.int .i64 lo, .int .i64 hi, .slice (some ⟨m, 0, none⟩) 2 2] (W.alloc (.cells #[.int .i64 p, .int .i64 q] t))
      fun e w' => e = .returned (.bool (rng [p, q] lo hi)) ∧ W.alloc (.cells #[.int .i64 p, .int .i64 q] t) = w' := by
  subst hm
  exact f_ranged lo hi _ 2 2 [p, q] _ rfl (Row.fresh (enc := icell) (fun _ => rfl) rfl) (by decide)

theorem f_span (x y lo hi : Int) (w : World) :
    Calls Try.prog 88 #[.agg #[.int .i64 x, .int .i64 y], .int .i64 lo, .int .i64 hi] w fun e w' => e = .returned (.bool (spanIn x y lo hi)) ∧ Kept w w' := by
  go_enter Try.func88, Try.ntmps88
  go_wp2_with (go_at_call 91; (with_reducible refine (f_ranged2 _ _ _ _  _ _ _ (by simp)).mono ?_); rintro e w1 ⟨rfl, rfl⟩)
  all_goals (go_ret; refine ⟨?_, by (exact kpt)⟩; simp [spanIn, *])
  all_goals omega

theorem f_temps (x y : Int) (w : World) :
    Calls Try.prog 89 #[.agg #[.int .i64 x, .int .i64 y]] w fun e w' => e = .returned (.bool (spanIn x y 1500 3500)) ∧ Kept w w' := by
  go_enter Try.func89, Try.ntmps89
  go_wp2_with (go_at_call 88; (with_reducible refine (f_span _ _ _ _ _).mono ?_); rintro e w1 ⟨rfl, hb1⟩; obtain ⟨hc1, hf1, hl1⟩ := bcell3 hb1)
  go_ret
  exact ⟨rfl, by (exact kpt)⟩

theorem f_CheckAir (a : Air) (w : World) :
    Calls Try.prog 26 #[.agg #[.int .i64 a.plo, .int .i64 a.phi, .int .i64 a.tlo, .int .i64 a.thi]] w fun e w' => e = .returned (.int .i64 (checkAir a)) ∧ Kept w w' := by
  go_enter Try.func26, Try.ntmps26
  go_wp2_with (first | (go_at_call 88; (with_reducible refine (f_span _ _ _ _ _).mono ?_); rintro e w1 ⟨rfl, hb1⟩; obtain ⟨hc1, hf1, hl1⟩ := bcell3 hb1) | (go_at_call 89; (with_reducible refine (f_temps _ _ _).mono ?_); rintro e w1 ⟨rfl, hb1⟩; obtain ⟨hc1, hf1, hl1⟩ := bcell3 hb1))
  all_goals (go_ret; refine ⟨ret_int ?_, by (exact kpt)⟩; simp_all [checkAir, airB])

theorem f_CheckCell (c : Cell) (w : World) :
    Calls Try.prog 28 #[.agg #[.int .i64 c.room, .int .i64 c.helium, .int .i64 c.air, .int .i64 c.wlo, .int .i64 c.whi, .int .i64 c.leak, .int .i64 c.owed]] w fun e w' => e = .returned (.int .i64 (checkCell c)) ∧ Kept w w' := by
  go_enter Try.func28, Try.ntmps28
  go_wp2_with (first | (go_at_call 91; (with_reducible refine (f_ranged1 _ _ _  _ _ _ (by simp)).mono ?_); rintro e w1 ⟨rfl, rfl⟩) | (go_at_call 91; (with_reducible refine (f_ranged2 _ _ _ _  _ _ _ (by simp)).mono ?_); rintro e w1 ⟨rfl, rfl⟩) | (go_at_call 88; (with_reducible refine (f_span _ _ _ _ _).mono ?_); rintro e w1 ⟨rfl, hb1⟩; obtain ⟨hc1, hf1, hl1⟩ := bcell3 hb1))
  all_goals (go_ret; refine ⟨ret_int ?_, by (exact kpt)⟩; simp_all [checkCell, cellB, cellFits])

end Go.Proofs.Ytemafanncejeiaa

/-
  A region that draws its order, walked once in an order that is told: first operations that need no world, then operations that only read or call (calls may make memory), then the rest in one forced order. No program in sight.
-/
namespace Bal
open Go Go.RowKit

section
variable {P : Program} {ops : Array Oper} {md : Region.Mode} {C : World → Prop}

def ordTail (md : Region.Mode) (ops : Array Oper) : List Nat → Array Bool → Bool
  | [], listed => (Region.ready md ops listed).isEmpty
  | k :: r, listed => decide (Region.ready md ops listed = [k]) && ordTail md ops r (listed.setIfInBounds k true)
def sinkOrd (md : Region.Mode) (ops : Array Oper) (t0 : Nat) : List Nat → Bool
  | [] => true
  | i :: r => ((r ++ [t0]).any fun j => Region.waitsFor md ops j i) && sinkOrd md ops t0 r
def chainOrd (md : Region.Mode) (ops : Array Oper) : Nat → List Nat → Bool
  | _, [] => true
  | a, b :: r => Region.waitsFor md ops b a && chainOrd md ops b r
structure OrdInv (md : Region.Mode) (ops : Array Oper) (hd tl : List Nat) (listed : Array Bool) : Prop where
  size : listed.size = ops.size
  closed : ∀ j oj, ops[j]? = some oj → listed.getD j false = true → ∀ e ∈ oj.after, Region.binds md e = true → listed.getD e.on false = true
  tail : ∀ t, t ∈ tl → listed.getD t true = false
  cover : ∀ j, listed.getD j true = false → j ∈ hd ∨ j ∈ tl

theorem OrdInv.set {hd tl : List Nat} {listed : Array Bool} {i : Nat} (inv : OrdInv md ops hd tl listed) (hi : i ∈ Region.ready md ops listed) (hn : i ∉ tl) : OrdInv md ops hd tl (listed.setIfInBounds i true) := by
  obtain ⟨_, oi, hoi, hall⟩ := mem_ready.1 hi
  refine ⟨by simp [inv.size], fun j oj hj hl e he hb => ?_, fun t ht => ?_, fun j hj => ?_⟩
  · by_cases hij : i = j
    · subst hij
      have : oj = oi := Option.some.inj (hj.symm.trans hoi)
      subst this
      exact getD_set_true (hall e he hb)
    · rw [getD_set_ne false hij] at hl
      exact getD_set_true (inv.closed j oj hj hl e he hb)
  · rw [getD_set_ne true (fun e => hn (by rw [e]; exact ht))]; exact inv.tail t ht
  · by_cases hij : i = j
    · subst hij
      exfalso
      rcases Nat.lt_or_ge i listed.size with h' | h'
      · simp [h'] at hj
      · simp [Array.getElem?_eq_none (by simpa using h' : (listed.setIfInBounds i true).size ≤ i)] at hj
    · rw [getD_set_ne true hij] at hj
      exact inv.cover j hj

theorem sink_waits {hd tl : List Nat} {t0 : Nat} {listed : Array Bool} (inv : OrdInv md ops hd (t0 :: tl) listed) :
    ∀ (s : List Nat), sinkOrd md ops t0 s = true → ∀ i ∈ s, listed.getD i true = false → t0 ∉ Region.ready md ops listed
  | [], _, _, hi, _ => by cases hi
  | x :: r, hs, i, hi, hun => by
    simp only [sinkOrd, Bool.and_eq_true] at hs
    obtain ⟨h1, h2⟩ := hs
    rcases List.mem_cons.1 hi with rfl | hi
    · obtain ⟨j, hj, hw⟩ := List.any_eq_true.1 h1
      obtain ⟨oj, hoj, e, he, hb, hon⟩ := Region.waitsFor_spec hw
      rcases List.mem_append.1 hj with hj | hj
      · cases hl : listed.getD j false with
        | true =>
          have h3 := inv.closed j oj hoj hl e he hb
          rw [hon, getD_both hun] at h3
          cases h3
        | false =>
          have hjs : j < listed.size := by rw [inv.size]; exact (Array.getElem?_eq_some_iff.1 hoj).1
          exact sink_waits inv r h2 j hj (getD_in hjs hl)
      · have : j = t0 := by simpa using hj
        subst this
        intro hr
        obtain ⟨_, o', ho', hall⟩ := mem_ready.1 hr
        have : oj = o' := Option.some.inj (hoj.symm.trans ho')
        subst this
        have h3 := hall e he hb
        rw [hon, getD_both hun] at h3
        cases h3
    · exact sink_waits inv r h2 i hi hun

theorem chain_mem : ∀ (tl : List Nat) (t0 : Nat), chainOrd md ops t0 tl = true → ∀ t ∈ tl, ∃ t' ∈ t0 :: tl, Region.waitsFor md ops t t' = true
  | [], _, _, t, ht => by cases ht
  | b :: r, t0, hc, t, ht => by
    simp only [chainOrd, Bool.and_eq_true] at hc
    rcases List.mem_cons.1 ht with rfl | ht
    · exact ⟨t0, by simp, hc.1⟩
    · obtain ⟨t', h1, h2⟩ := chain_mem r b hc.2 t ht
      exact ⟨t', List.mem_cons_of_mem _ h1, h2⟩

theorem wpAny_of_ordTail {Q' : Exit → Act → World → Prop} : ∀ (tl : List Nat) (l : List Oper) (listed : Array Bool) (a : Act) (w : World), tl.map (ops[·]?) = l.map some →
    ordTail md ops tl listed = true → wpList P ops Q' l a w → wpAny P md ops Q' l.length listed a w
  | [], [], _, _, _, _, hB, h => ⟨by simpa [ordTail] using hB, h⟩
  | [], _ :: _, _, _, _, hm, _, _ => by simp at hm
  | _ :: _, [], _, _, _, hm, _, _ => by simp at hm
  | k :: tl, o :: l, listed, a, w, hm, hB, h => by
    simp only [List.map_cons, List.cons.injEq] at hm
    obtain ⟨h0, hm'⟩ := hm
    simp only [ordTail, Bool.and_eq_true, decide_eq_true_eq] at hB
    refine ⟨fun h1 => (by rw [hB.1] at h1; cases h1), fun i hi => ?_⟩
    rw [hB.1] at hi
    have hik : i = k := by simpa using hi
    subst hik
    have hw : wpOp P ops Q' i (wpList P ops Q' l) a w := by unfold wpOp; simp only [h0]; exact h
    exact wpOp_mono (fun a' w' h' => wpAny_of_ordTail tl l _ a' w' hm' hB.2 h') hw

theorem filterMap_ok {l : List Oper} : ∀ (is : List Nat), (∀ i ∈ is, i < l.length) → is.map (l.toArray[·]?) = (is.filterMap (l[·]?)).map some ∧ (is.filterMap (l[·]?)).length = is.length
  | [], _ => ⟨rfl, rfl⟩
  | i :: is, h => by
    have hi := h i (by simp)
    obtain ⟨h1, h2⟩ := filterMap_ok is (fun j hj => h j (by simp [hj]))
    have e : l[i]? = some l[i] := by simp [hi]
    refine ⟨?_, ?_⟩
    · rw [List.map_cons, h1, List.filterMap_cons, e]
      simp [hi]
    · rw [List.filterMap_cons, e]
      simp [h2]

/-! ### The same, with operations that need no world among the others -/

/-- is one of hd yet to come? -/
def pendB (hd : List Nat) (listed : Array Bool) : Bool := hd.any fun i => !(listed.getD i true)

theorem pendB_false {hd : List Nat} {listed : Array Bool} (h : pendB hd listed = false) : ∀ i ∈ hd, listed.getD i true = true := fun i hi => by
  unfold pendB at h
  have := List.any_eq_false.1 h i hi
  simpa using this
theorem pendB_true {hd : List Nat} {listed : Array Bool} (h : pendB hd listed = true) : ∃ i ∈ hd, listed.getD i true = false := by
  unfold pendB at h
  obtain ⟨i, hi, h'⟩ := List.any_eq_true.1 h
  exact ⟨i, hi, by simpa using h'⟩

/-- whatever order is picked: while one of hd is yet to come only operations of hd and of wl may come up; then it is as the worlds of the class have it -/
def wpMix (P : Program) (md : Region.Mode) (ops : Array Oper) (C : World → Prop) (Q : Exit → Act → World → Prop) (hd wl : List Nat) : Nat → Array Bool → Act → Prop
  | 0, listed, a => ∀ w, C w → wpAny P md ops Q 0 listed a w
  | f + 1, listed, a =>
    (pendB hd listed = true → Region.ready md ops listed ≠ [] ∧ ∀ i ∈ Region.ready md ops listed, (i ∈ hd ∨ i ∈ wl) ∧ qOp P ops C i (wpMix P md ops C Q hd wl f (listed.setIfInBounds i true)) a) ∧
    (pendB hd listed = false → (∀ w, C w → wpAny P md ops Q (f + 1) listed a w) ∧ ∀ i ∈ Region.ready md ops listed, i ∈ wl → qOp P ops C i (wpMix P md ops C Q hd wl f (listed.setIfInBounds i true)) a)

theorem wpAny_of_mix {hd wl : List Nat} {Q : Exit → Act → World → Prop} : ∀ (f : Nat) (listed : Array Bool) (a : Act), wpMix P md ops C Q hd wl f listed a → ∀ w, C w → wpAny P md ops Q f listed a w
  | 0, _, _, h, w, hw => h w hw
  | f + 1, listed, a, h, w, hw => by
    cases hp : pendB hd listed with
    | true =>
      obtain ⟨h1, h2⟩ := h.1 hp
      exact ⟨fun h0 => absurd h0 h1, fun i hi => wpOp_of_qOp hw (fun a' w' hw' h' => wpAny_of_mix f _ a' h' w' hw') (h2 i hi).2⟩
    | false => exact (h.2 hp).1 w hw

/-- what is known of an operation that is taken: its value in the class; if it is one of wl, in whatever world -/
def Taken (P : Program) (ops : Array Oper) (C : World → Prop) (wl : List Nat) (i : Nat) (o : Oper) (v : Value) (a : Act) : Prop := YieldsIn P ops C o v a ∧ (i ∈ wl → Yields P ops o v a)

theorem Yields.inClass {o : Oper} {v : Value} {a : Act} (h : Yields P ops o v a) : YieldsIn P ops C o v a := by
  rcases h with ⟨h1, h2⟩ | h
  · exact .inl ⟨h1, fun w _ => by unfold Oper.quietAt; rw [h2 w]; exact ⟨rfl, rfl⟩⟩
  · exact .inr h

theorem qOp_put_taken {wl : List Nat} {i j : Nat} {oi oj : Oper} {v : Value} (hj : ops[j]? = some oj) (hap : oi.apart ops oj = true)
    (hsi : ∀ cs b, oi.op ≠ .select cs b) (hsj : ∀ cs b, oj.op ≠ .select cs b) {K : Act → Prop} {a : Act}
    (hy : Taken P ops C wl i oi v a) (h : qOp P ops C j K (a.put oi.dst v)) :
    qOp P ops C j (fun a' => Taken P ops C wl i oi v a' ∧ K (a'.put oi.dst v)) a := by
  obtain ⟨h1, h2, h3⟩ := Oper.apart_spec hap
  have keep : ∀ (a : Act), Taken P ops C wl i oi v a → ∀ u, Taken P ops C wl i oi v (a.put oj.dst u) := fun a hy u =>
    ⟨hy.1.of_same (execOp_put oi hsi a oj.dst u h3) (wanted_put oi a oj.dst u h3), fun hw => (hy.2 hw).of_same (execOp_put oi hsi a oj.dst u h3) (wanted_put oi a oj.dst u h3)⟩
  unfold qOp at *
  simp only [hj] at *
  rw [wanted_put oj a oi.dst v h1] at h
  split
  · rename_i hw
    simp only [hw, if_true] at h
    obtain ⟨u, hu, hn⟩ := h
    refine ⟨u, fun w hw' => ?_, keep a hy u, by rw [← Act.put_comm a v u h2]; exact hn⟩
    have := hu w hw'
    unfold Oper.quietAt at *
    rwa [execOp_put oj hsj a oi.dst v h1] at this
  · rename_i hw
    simp only [hw] at h
    exact ⟨keep a hy _, by rw [← Act.put_comm a v undef h2]; exact h⟩

/-- the invariant, hd and wl together -/
theorem wpMix_first {hd wl tl : List Nat} {t0 i : Nat} {oi : Oper} {v : Value} {Q : Exit → Act → World → Prop} (hne : ∃ w, C w) (hQ : ∀ c a w, ¬ Q (.panic c) a w) (hi : ops[i]? = some oi) (hsel : ∀ (j : Nat) (o : Oper) cs b, ops[j]? = some o → o.op ≠ .select cs b)
    (hs : sinkOrd md ops t0 hd = true) (hc : chainOrd md ops t0 tl = true) (hdis : ∀ j, j ∈ hd ∨ j ∈ wl → j ∉ t0 :: tl) (hin : i ∈ hd ∨ i ∈ wl) :
    ∀ (f : Nat) (listed : Array Bool) (a : Act), OrdInv md ops (hd ++ wl) (t0 :: tl) listed →
      (∀ j oj, ops[j]? = some oj → j ≠ i → listed.getD j true = false → (∀ e ∈ oj.after, Region.binds md e = true → e.on ≠ i) → oi.apart ops oj = true) →
      i ∈ Region.ready md ops listed → Taken P ops C wl i oi v a →
      wpMix P md ops C Q hd wl f (listed.setIfInBounds i true) (a.put oi.dst v) → wpMix P md ops C Q hd wl (f + 1) listed a := by
  have sinkR : ∀ listed, OrdInv md ops (hd ++ wl) (t0 :: tl) listed → pendB hd listed = true → ∀ j ∈ Region.ready md ops listed, j ∈ hd ∨ j ∈ wl := by
    intro listed inv hp j hj
    obtain ⟨x, hx, hxu⟩ := pendB_true hp
    rcases inv.cover j (mem_ready.1 hj).1 with h | h
    · exact List.mem_append.1 h
    · exfalso
      rcases List.mem_cons.1 h with rfl | h
      · exact sink_waits inv hd hs x hx hxu hj
      · obtain ⟨t', ht', hw⟩ := chain_mem tl t0 hc j h
        obtain ⟨oj, hoj, e, he, hb, hon⟩ := Region.waitsFor_spec hw
        obtain ⟨_, o', ho', hall⟩ := mem_ready.1 hj
        have : oj = o' := Option.some.inj (hoj.symm.trans ho')
        subst this
        have h3 := hall e he hb
        rw [hon, getD_both (inv.tail t' ht')] at h3
        cases h3
  have inW : ∀ listed, pendB hd listed = false → i ∈ Region.ready md ops listed → i ∈ wl := by
    intro listed hp hr
    rcases hin with h | h
    · have h1 := pendB_false hp i h
      rw [(mem_ready.1 hr).1] at h1
      cases h1
    · exact h
  intro f
  induction f with
  | zero =>
    intro listed a inv hfree hr hy H
    have none : ∀ j, j ∈ Region.ready md ops listed → j ≠ i → False := fun j hj hji => by
      obtain ⟨w, hw⟩ := hne
      have h1 := ready_mono hj hji
      rw [(H w hw).1] at h1
      cases h1
    have one : ∀ j, j ∈ Region.ready md ops listed → qOp P ops C j (wpMix P md ops C Q hd wl 0 (listed.setIfInBounds j true)) a := fun j hj => by
      by_cases hji : j = i
      · subst hji; exact hy.1.qOp hi H
      · exact (none j hj hji).elim
    exact ⟨fun hp => ⟨fun h => (by rw [h] at hr; cases hr), fun j hj => ⟨sinkR listed inv hp j hj, one j hj⟩⟩,
      fun hp => ⟨fun w hw => wpAny_first hi hsel (fun c a w hq => absurd hq (hQ _ _ _)) 0 listed a w hfree hr (hy.2 (inW listed hp hr)) (H w hw), fun j hj _ => one j hj⟩⟩
  | succ f ih =>
    intro listed a inv hfree hr hy H
    have step : ∀ j, j ∈ Region.ready md ops listed → j ≠ i → (j ∈ hd ∨ j ∈ wl) → qOp P ops C j (wpMix P md ops C Q hd wl f ((listed.setIfInBounds i true).setIfInBounds j true)) (a.put oi.dst v) →
        qOp P ops C j (wpMix P md ops C Q hd wl (f + 1) (listed.setIfInBounds j true)) a := fun j hj hji hjn h1 => by
      obtain ⟨hjun, oj, hoj, hall⟩ := mem_ready.1 hj
      have hun := (mem_ready.1 hr).1
      have hnot : ∀ e ∈ oj.after, Region.binds md e = true → e.on ≠ i := fun e he hb heq => by
        have h1 := hall e he hb
        rw [heq, getD_both hun] at h1
        cases h1
      have h2 := qOp_put_taken hoj (hfree j oj hoj hji hjun hnot) (fun cs b => hsel i oi cs b hi) (fun cs b => hsel j oj cs b hoj) hy h1
      have hfree' : ∀ k ok, ops[k]? = some ok → k ≠ i → (listed.setIfInBounds j true).getD k true = false →
          (∀ e ∈ ok.after, Region.binds md e = true → e.on ≠ i) → oi.apart ops ok = true := fun k ok hk hki hun hno => by
        refine hfree k ok hk hki ?_ hno
        by_cases hjk : j = k
        · subst hjk; exact hjun
        · rw [getD_set_ne true hjk] at hun; exact hun
      refine qOp_mono (fun a' h3 => ih (listed.setIfInBounds j true) a' (inv.set hj (hdis j hjn)) hfree' (ready_mono hr (Ne.symm hji)) h3.1 ?_) h2
      rw [Array.setIfInBounds_comm _ _ hji]
      exact h3.2
    have pend_set : ∀ j ∈ hd, j ≠ i → listed.getD j true = false → pendB hd (listed.setIfInBounds i true) = true := fun j hj hji hju => by
      unfold pendB
      exact List.any_eq_true.2 ⟨j, hj, by rw [getD_set_ne true (Ne.symm hji), hju]; rfl⟩
    refine ⟨fun hp => ⟨fun h => (by rw [h] at hr; cases hr), fun j hj => ⟨sinkR listed inv hp j hj, ?_⟩⟩, fun hp => ⟨fun w hw => ?_, fun j hj hjw => ?_⟩⟩
    · by_cases hji : j = i
      · subst hji; exact hy.1.qOp hi H
      · have hjn := sinkR listed inv hp j hj
        have hjr := ready_mono hj hji
        cases hp' : pendB hd (listed.setIfInBounds i true) with
        | true => exact step j hj hji hjn ((H.1 hp').2 j hjr).2
        | false =>
          rcases hjn with h | h
          · rw [pend_set j h hji (mem_ready.1 hj).1] at hp'
            cases hp'
          · exact step j hj hji (.inr h) ((H.2 hp').2 j hjr h)
    · exact wpAny_first hi hsel (fun c a w hq => absurd hq (hQ _ _ _)) (f + 1) listed a w hfree hr (hy.2 (inW listed hp hr)) (wpAny_of_mix (f + 1) _ _ H w hw)
    · by_cases hji : j = i
      · subst hji; exact hy.1.qOp hi H
      · have hjr := ready_mono hj hji
        cases hp' : pendB hd (listed.setIfInBounds i true) with
        | true => exact step j hj hji (.inr hjw) ((H.1 hp').2 j hjr).2
        | false => exact step j hj hji (.inr hjw) ((H.2 hp').2 j hjr hjw)

/-- steps: an operation that needs no world, or a quiet one -/
def wpSteps (P : Program) (ops : Array Oper) (C : World → Prop) (K : Act → Prop) : List (Bool × Oper) → Act → Prop
  | [], a => K a
  | (true, o) :: r, a => ∃ v, Yields P ops o v a ∧ wpSteps P ops C K r (a.put o.dst v)
  | (false, o) :: r, a => wpQuiet P ops C (fun a' => wpSteps P ops C K r a') [o] a

theorem wpSteps_nil {K : Act → Prop} {a : Act} (h : K a) : wpSteps P ops C K [] a := h
theorem wpSteps_any {K : Act → Prop} {a : Act} {o : Oper} {r : List (Bool × Oper)} (v : Value) (hg : o.guard = none) (hy : ∀ w, (execOp a.eval o).run P w = .ok (.value v) w) (h : wpSteps P ops C K r (a.put o.dst v)) : wpSteps P ops C K ((true, o) :: r) a :=
  ⟨v, .inl ⟨by simp [Region.wanted, hg], hy⟩, h⟩
theorem wpSteps_quiet {K : Act → Prop} {a : Act} {o : Oper} {r : List (Bool × Oper)} (h : wpQuiet P ops C (fun a' => wpSteps P ops C K r a') [o] a) : wpSteps P ops C K ((false, o) :: r) a := h

def ordMixB (md : Region.Mode) (ops : Array Oper) (hd wl tl : List Nat) : List (Bool × Nat) → Array Bool → Bool
  | [], listed => !pendB hd listed && wl.all (fun i => listed.getD i true) && ordTail md ops tl listed
  | (_, i) :: r, listed => (Region.ready md ops listed).contains i && Region.free md ops listed i && ordMixB md ops hd wl tl r (listed.setIfInBounds i true)

theorem wpMix_lex {hd wl tl : List Nat} {t0 : Nat} {Q : Exit → Act → World → Prop} (hne : ∃ w, C w) (hQ : ∀ c a w, ¬ Q (.panic c) a w) (hsel : Region.noSelect ops = true) (hs : sinkOrd md ops t0 hd = true) (hc : chainOrd md ops t0 tl = true) (hdis : ∀ j, j ∈ hd ∨ j ∈ wl → j ∉ t0 :: tl)
    (hw1 : ∀ j ∈ hd, j ∉ wl) (lt : List Oper) (ht : (t0 :: tl).map (ops[·]?) = lt.map some) {K : Act → Prop} (hK : ∀ a w, C w → K a → wpList P ops Q lt a w) :
    ∀ (is : List (Bool × Nat)) (l : List (Bool × Oper)) (listed : Array Bool) (a : Act), is.map (fun x => (x.1, ops[x.2]?)) = l.map (fun x => (x.1, some x.2)) → (∀ x ∈ is, (x.1 = true → x.2 ∈ wl) ∧ (x.1 = false → x.2 ∈ hd)) → OrdInv md ops (hd ++ wl) (t0 :: tl) listed →
    ordMixB md ops hd wl (t0 :: tl) is listed = true → wpSteps P ops C K l a → wpMix P md ops C Q hd wl (l.length + lt.length) listed a
  | [], [], listed, a, _, _, _, hB, h => by
    simp only [ordMixB, Bool.and_eq_true, Bool.not_eq_true'] at hB
    obtain ⟨⟨h1, h2⟩, h3⟩ := hB
    have fin : ∀ w, C w → wpAny P md ops Q lt.length listed a w := fun w hw => wpAny_of_ordTail (t0 :: tl) lt listed a w ht h3 (hK a w hw h)
    simp only [List.length_nil, Nat.zero_add]
    cases hl : lt.length with
    | zero => intro w hw; rw [← hl]; exact fin w hw
    | succ n =>
      refine ⟨fun hp => (by rw [h1] at hp; cases hp), fun _ => ⟨fun w hw => (by rw [← hl]; exact fin w hw), fun i hi hiw => ?_⟩⟩
      have := List.all_eq_true.1 h2 i hiw
      rw [(mem_ready.1 hi).1] at this
      cases this
  | [], _ :: _, _, _, hm, _, _, _, _ => by simp at hm
  | _ :: _, [], _, _, hm, _, _, _, _ => by simp at hm
  | (b, i) :: is, (b', o) :: l, listed, a, hm, hin, inv, hB, h => by
    simp only [List.map_cons, List.cons.injEq, Prod.mk.injEq] at hm
    obtain ⟨⟨rfl, h0⟩, hm'⟩ := hm
    simp only [ordMixB, Bool.and_eq_true] at hB
    obtain ⟨⟨hr, hf⟩, hB'⟩ := hB
    have hr' : i ∈ Region.ready md ops listed := by simpa using hr
    have hmem : i ∈ hd ∨ i ∈ wl := by
      have := hin (b, i) (by simp)
      cases b with
      | true => exact .inr (this.1 rfl)
      | false => exact .inl (this.2 rfl)
    have inv' := inv.set hr' (hdis i hmem)
    rw [show ((b, o) :: l).length + lt.length = (l.length + lt.length) + 1 by simp only [List.length_cons]; omega]
    obtain ⟨v, hy, hK'⟩ : ∃ v, Taken P ops C wl i o v a ∧ wpSteps P ops C K l (a.put o.dst v) := by
      cases b with
      | true =>
        obtain ⟨v, hy, h'⟩ := h
        exact ⟨v, ⟨Yields.inClass hy, fun _ => hy⟩, h'⟩
      | false =>
        have hst : qOp P ops C i (fun a' => wpSteps P ops C K l a') a := by
          have h' : wpQuiet P ops C (fun a' => wpSteps P ops C K l a') [o] a := h
          unfold qOp; simp only [h0]; exact h'
        obtain ⟨v, hy, h'⟩ := yieldsIn_of_qOp h0 hst
        exact ⟨v, ⟨hy, fun hw => absurd hw (hw1 i ((hin (false, i) (by simp)).2 rfl))⟩, h'⟩
    exact wpMix_first hne hQ h0 (Region.noSelect_spec hsel) hs hc hdis hmem _ listed a inv (Region.free_spec h0 hf) hr' hy
      (wpMix_lex hne hQ hsel hs hc hdis hw1 lt ht hK is l _ _ hm' (fun x hx => hin x (by simp [hx])) inv' hB' hK')

def mixB (md : Region.Mode) (ops : Array Oper) (is : List (Bool × Nat)) (t0 : Nat) (tl : List Nat) : Bool :=
  let hd := (is.filter (fun x => !x.1)).map (·.2)
  let wl := (is.filter (·.1)).map (·.2)
  Region.noSelect ops && sinkOrd md ops t0 hd && chainOrd md ops t0 tl && ((List.range ops.size).all fun i => hd.contains i || wl.contains i || (t0 :: tl).contains i) &&
    ((t0 :: tl).all fun t => !hd.contains t && !wl.contains t) && (hd.all fun i => !wl.contains i) && ordMixB md ops hd wl (t0 :: tl) is (Array.replicate ops.size false)

theorem filterMap_ok2 {l : List Oper} : ∀ (is : List (Bool × Nat)), (∀ x ∈ is, x.2 < l.length) →
    is.map (fun x => (x.1, l.toArray[x.2]?)) = (is.filterMap fun x => (l[x.2]?).map fun o => (x.1, o)).map (fun x => (x.1, some x.2)) ∧ (is.filterMap fun x => (l[x.2]?).map fun o => (x.1, o)).length = is.length
  | [], _ => ⟨rfl, rfl⟩
  | (b, i) :: is, h => by
    have hi := h (b, i) (by simp)
    obtain ⟨h1, h2⟩ := filterMap_ok2 is (fun j hj => h j (by simp [hj]))
    have e : l[i]? = some l[i] := by simp [hi]
    refine ⟨?_, ?_⟩
    · rw [List.map_cons, h1, List.filterMap_cons]
      simp only [e, Option.map_some, List.map_cons]
      simp [hi]
    · rw [List.filterMap_cons]
      simp only [e, Option.map_some, List.length_cons]
      simp [h2]

/-- THE THEOREM: is: the operations in the order in which they are walked, 'true' at one that needs no world; t0, tl: the rest, in one forced order. -/
theorem later_mix {P : Program} {id : Nat} {Q : Exit → Act → World → Prop} {a : Act} {w : World} {l : List Oper} (is : List (Bool × Nat)) (t0 : Nat) (tl : List Nat) (hm : P.follows .mixedOrders = true)
    (hB : (mixB .any l.toArray is t0 tl && (is.map (·.2) ++ t0 :: tl).all (fun i => decide (i < l.length)) && decide (is.length + (t0 :: tl).length = l.length)) = true)
    (h : wpSteps P l.toArray (fun w' => ∃ g : Later w, w' = g.val) (fun a' => ∀ g : Later w, wpList P l.toArray (NoPanic Q) ((t0 :: tl).filterMap (l[·]?)) a' g.val) (is.filterMap fun x => (l[x.2]?).map fun o => (x.1, o)) a) :
    (Code.region id l.toArray true).wp P Q a w := by
  simp only [mixB, Bool.and_eq_true, decide_eq_true_eq, List.all_eq_true, List.mem_append] at hB
  obtain ⟨⟨⟨⟨⟨⟨⟨⟨hsel, hs⟩, hc⟩, hcov⟩, hdis⟩, hwd⟩, hord⟩, hlt⟩, hlen⟩ := hB
  obtain ⟨q1, q2⟩ := filterMap_ok2 is (fun x hx => hlt x.2 (.inl (List.mem_map.2 ⟨x, hx, rfl⟩)))
  obtain ⟨r1, r2⟩ := filterMap_ok (t0 :: tl) (fun i hi => hlt i (.inr hi))
  have hdis' : ∀ t ∈ t0 :: tl, t ∉ (is.filter (fun x => !x.1)).map (·.2) ∧ t ∉ (is.filter (·.1)).map (·.2) := fun t ht => by
    have := hdis t ht
    simpa only [Bool.and_eq_true, Bool.not_eq_true', List.contains_eq_mem, decide_eq_false_iff_not] using this
  refine wp_region_noPanic (wp_region_any hm ?_)
  have inv0 : OrdInv .any l.toArray ((is.filter (fun x => !x.1)).map (·.2) ++ (is.filter (·.1)).map (·.2)) (t0 :: tl) (Array.replicate l.toArray.size false) := by
    refine ⟨by simp, fun j oj _ hl => (by rw [getD_replicate_false] at hl; cases hl), fun t ht' => ?_, fun j hj => ?_⟩
    · exact getD_in (by have := hlt t (.inr ht'); simpa using this) (getD_replicate_false _ _)
    · have hjl : j < l.toArray.size := by
        rcases Nat.lt_or_ge j l.toArray.size with h' | h'
        · exact h'
        · have hsz : (Array.replicate l.toArray.size false).size ≤ j := by simpa using h'
          have h1 : (Array.replicate l.toArray.size false).getD j true = true := by unfold Array.getD; rw [dif_neg (by omega)]
          rw [h1] at hj
          cases hj
      have := hcov j (List.mem_range.2 hjl)
      simp only [Bool.or_eq_true, List.contains_iff_mem] at this
      rcases this with (h' | h') | h'
      · exact .inl (List.mem_append.2 (.inl h'))
      · exact .inl (List.mem_append.2 (.inr h'))
      · exact .inr h'
  have key := wpMix_lex (P := P) (md := .any) (C := fun w' => ∃ g : Later w, w' = g.val) (Q := NoPanic Q) ⟨w, ⟨w, Below.refl _ _⟩, rfl⟩ (fun c a w hq => hq) hsel hs hc (fun j hj hj' => by
      rcases hj with h' | h'
      · exact (hdis' j hj').1 h'
      · exact (hdis' j hj').2 h') (fun j hj hj' => by
      have := hwd j hj
      simp only [Bool.not_eq_true', List.contains_eq_mem, decide_eq_false_iff_not] at this
      exact this hj') _ r1 (fun a' w' hw' hg => by obtain ⟨g, rfl⟩ := hw'; exact hg g) is _ _ a q1 (fun x hx => ⟨fun hb => List.mem_map.2 ⟨x, List.mem_filter.2 ⟨hx, hb⟩, rfl⟩, fun hb => List.mem_map.2 ⟨x, List.mem_filter.2 ⟨hx, by simp [hb]⟩, rfl⟩⟩) inv0 hord h
  have := wpAny_of_mix _ _ _ key { w with drawn := w.drawn + 1 } ⟨⟨w.drew, (Below.refl _ _).drew⟩, rfl⟩
  rw [q2, r2, hlen] at this
  simpa using this
end
end Bal

/-
  Ratios and their least spans.
-/
namespace Go.Proofs.Ytemafanncejeiaa
open Go.RowKit Bal Bal.Trim Bal.Gas
set_option linter.unusedVariables false
set_option linter.unusedSimpArgs false
set_option maxHeartbeats 400000

theorem f_heated (x y u v : Int) (w : World) :
    Calls Try.prog 93 #[.agg #[.int .i64 x, .int .i64 y], .agg #[.int .i64 u, .int .i64 v]] w fun e w' => e = .returned (.agg #[.int .i64 (wrap64 (x + u)), .int .i64 (wrap64 (y + v))]) ∧ Kept w w' := by
  go_enter Try.func93, Try.ntmps93
  go_wp2
  exact bodyPost_ret (v := .agg #[.int .i64 (wrap64 (x + u)), .int .i64 (wrap64 (y + v))]) (by simp [results, Try.results93, go_sem]) rfl ⟨rfl, by (exact kpt)⟩

theorem f_down (r : Ratio) (w : World) (h0 : 0 < r.den) (h1 : r.den ≤ 1000000000000000) (h2 : -1000000000000000 ≤ r.num) (h3 : r.num ≤ 1000000000000000) :
    Calls Try.prog 95 #[.agg #[.int .i64 r.num, .int .i64 r.den]] w fun e w' => e = .returned (.int .i64 (down r)) ∧ Kept w w' := by
  obtain ⟨d1, d2⟩ := div_bd (N := 1000000000000000) h2 h3 h0 (by omega)
  by_cases hn : r.num < 0
  · have ht := tdiv_down hn h0
    have b1 : -1000000000000001 ≤ r.num.tdiv r.den := by split at ht <;> omega
    have b2 : r.num.tdiv r.den ≤ 1000000000000001 := by split at ht <;> omega
    have HT := Lib.hid ht
    clear ht
    go_enter Try.func95, Try.ntmps95
    go_wp2
    all_goals
      go_ret
      refine ⟨ret_int ?_, by (exact kpt)⟩
      have ht := HT.out
      simp_all [down]
  · have HT := Lib.hid (tdiv_pos (b := r.den) (show 0 ≤ r.num by omega))
    go_enter Try.func95, Try.ntmps95
    go_wp2
    go_ret
    exact ⟨ret_int (by simp [down]), by (exact kpt)⟩

theorem f_up (r : Ratio) (w : World) (h0 : 0 < r.den) (h1 : r.den ≤ 1000000000000000) (h2 : -1000000000000000 ≤ r.num) (h3 : r.num ≤ 1000000000000000) :
    Calls Try.prog 133 #[.agg #[.int .i64 r.num, .int .i64 r.den]] w fun e w' => e = .returned (.int .i64 (up r)) ∧ Kept w w' := by
  obtain ⟨d1, d2⟩ := div_bd (N := 1000000000000000) (a := -r.num) (b := r.den) (by omega) (by omega) h0 (by omega)
  go_enter Try.func133, Try.ntmps133
  go_wp2_with (go_at_call 95; (with_reducible refine (f_down ⟨-r.num, r.den⟩ _ h0 h1 (by simp; omega) (by simp; omega)).mono ?_); rintro e w1 ⟨rfl, hb1⟩; simp only [down])
  go_ret
  exact ⟨ret_int (by simp [up]), by (exact kpt)⟩

def ratioOk (r : Ratio) : Prop := 0 < r.den ∧ r.den ≤ 1000000000000000 ∧ -1000000000000000 ≤ r.num ∧ r.num ≤ 1000000000000000
/-- a span lies in a block of the call's own, the result's block is there -/
def Made (w : World) (lo hi : Int) (s : Value) (wx : World) : Prop :=
  ∃ g, s = .pointer (some ⟨g, 0, none⟩) ∧ w.heap.size < g ∧ Blk wx g #[.int .i64 lo, .int .i64 hi] 23 ∧ Blk wx w.heap.size #[.int .i64 0, .int .i64 0] 23 ∧ Kept w wx
def LeastRel (w : World) (g : Nat) (xs : List Ratio) (i : Value) (wx : World) : Prop :=
  ∃ k : Nat, k + 1 ≤ xs.length ∧ i = .int .i64 k ∧ Blk wx g #[.int .i64 (leastLo (xs.take (k + 1))), .int .i64 (leastHi (xs.take (k + 1)))] 23 ∧ Blk wx w.heap.size #[.int .i64 0, .int .i64 0] 23 ∧ Kept w wx

theorem f_least (a : Option Addr) (n cap : Nat) (xs : List Ratio) (w : World) (hn : xs.length = n) {B : Nat} (hx : Row Ratio.cells 2 w.heap.size w a xs) (h0 : 2 ≤ n) (h1 : n ≤ cap) (h2 : cap ≤ 9223372036854775807) (hv : ∀ x ∈ xs, ratioOk x) :
    Calls Try.prog 81 #[.slice a n cap] w fun e w' => e = .returned (.agg #[.int .i64 (leastLo xs), .int .i64 (leastHi xs)]) ∧ Kept w w' := by
  subst hn
  have HV := Lib.hid hv
  clear hv
  obtain ⟨b, off, rfl, hb, c0, c1⟩ := Ratio.row hx 0 (by omega)
  have c00 : w.cell? ⟨b, off, none⟩ = some (.int .i64 xs[0].num) := by simpa using c0
  have c01 : w.cell? ⟨b, off + 1, none⟩ = some (.int .i64 xs[0].den) := by simpa using c1
  clear c0 c1
  have hlt1 : (0 : Int) < xs.length := by omega
  have hlt0 : 0 < xs.length := by omega
  have k0 : ∀ w', Kept w w' → w'.cell? ⟨b, off, none⟩ = some (.int .i64 xs[0].num) := fun w' h => by rw [h.cell (p := ⟨b, off, none⟩) hb]; exact c00
  have k1 : ∀ w', Kept w w' → w'.cell? ⟨b, off + 1, none⟩ = some (.int .i64 xs[0].den) := fun w' h => by rw [h.cell (p := ⟨b, off + 1, none⟩) hb]; exact c01
  go_enter Try.func81, Try.ntmps81
  go_upto_region 1 with fail
  go_cut [3] (fun s3 wx => Made w (down xs[0]) (up xs[0]) s3 wx)
  case first =>
    obtain ⟨v0, v1, v2, v3⟩ := HV.out xs[0] (List.getElem_mem (by omega))
    go_region_held3 (fun w' => Kept w w') (exact kpt) (first | (go_at_call 95; (with_reducible refine (f_down xs[0] _ v0 v1 v2 v3).mono ?_); rintro e w1 ⟨rfl, hb1⟩; obtain ⟨hc1, hf1, hl1⟩ := bcell3 hb1) | (go_at_call 133; (with_reducible refine (f_up xs[0] _ v0 v1 v2 v3).mono ?_); rintro e w1 ⟨rfl, hb1⟩; obtain ⟨hc1, hf1, hl1⟩ := bcell3 hb1))
    all_goals (go_wp2_with fail; go_meet)
    all_goals
      refine ⟨_, rfl, ?_, ?_, ?_, ?_⟩
      · first | (simp; done) | (refine Blk.lt (arr := ?_) (t := ?_) ?_; rotate_left 2; focus (exact blk))
      · (exact blkc)
      · (exact blkc)
      · (exact kpt)
  case rest =>
    obtain ⟨g, rfl, hg, q1, q0, hk⟩ := hcut
    have ecap : (1 : Int) < cap := by omega
    go_wp2
    go_loopw [18] (fun i wr => LeastRel w g xs i wr) (fun i _ => xs.length - (intOf i).toNat)
    case atStart => exact ⟨0, by omega, rfl, by rw [List.take_succ_eq_append_getElem hlt0]; simpa [leastLo, leastHi, lmin, lmax] using q1, q0, hk⟩
    case round =>
      obtain ⟨k, hkl, rfl, q1, q0, hk'⟩ := hrel
      by_cases hlt : k < xs.length - 1
      · have hlt' : k + 1 < xs.length := by omega
        obtain ⟨b', off', hab, hb', e0, e1⟩ := Ratio.row (hx.later hk' (Nat.le_refl _)) (k + 1) hlt'
        simp only [Option.some.injEq, Addr.mk.injEq, and_true] at hab
        obtain ⟨rfl, rfl⟩ := hab
        rw [show off + (k + 1) * 2 = off + 2 + k * 2 by omega] at e0 e1
        obtain ⟨v0, v1, v2, v3⟩ := HV.out xs[k + 1] (List.getElem_mem hlt')
        go_wp2
        refine at_world (S := fun W => Blk W g #[.int .i64 (leastLo (xs.take (k + 1))), .int .i64 (leastHi (xs.take (k + 1)))] 23 ∧ Blk W wr.heap.size #[.int .i64 xs[k + 1].num, .int .i64 xs[k + 1].den] 149 ∧ Blk W w.heap.size #[.int .i64 0, .int .i64 0] 23 ∧ Kept w W) ⟨by (exact blk), by (exact blk), by (exact blk), by (exact kpt)⟩ ?_
        rintro W ⟨r1, r2, r0, hkW⟩
        have r1c0 := fun g : Later W => (r1.later g).cell 0
        have r1f0 := fun g : Later W => (r1.later g).free 0
        have r1c1 := fun g : Later W => (r1.later g).cell 1
        have r1f1 := fun g : Later W => (r1.later g).free 1
        have r1l := fun g : Later W => (r1.later g).lt
        simp at r1c0 r1c1
        have r2c0 := fun g : Later W => (r2.later g).cell 0
        have r2f0 := fun g : Later W => (r2.later g).free 0
        have r2c1 := fun g : Later W => (r2.later g).cell 1
        have r2f1 := fun g : Later W => (r2.later g).free 1
        have r2l := fun g : Later W => (r2.later g).lt
        simp at r2c0 r2c1
        refine later_mix [(false, 0), (false, 1), (false, 2), (false, 3), (false, 4), (false, 5), (false, 6), (false, 7), (false, 8), (false, 10), (true, 9)] 11 [12, 13] (by kernel_rfl) (by kernel_rfl) ?_
        simp only [List.filterMap_cons, List.filterMap_nil, List.getElem?_cons_zero, List.getElem?_cons_succ, Option.map_some]
        repeat (refine wpSteps_quiet ?_; (first | go_big_quiet_skip | (go_big_quiet_want; go_big_quiet_op; first | go_big_quiet_on | (apply Exists.intro; refine ⟨fun g => ?_, ?_⟩; (focus (first | (go_at_call 95; exact Later.call (f_down xs[k + 1] _ v0 v1 v2 v3)) | (go_at_call 133; exact Later.call (f_up xs[k + 1] _ v0 v1 v2 v3)))); go_big_quiet_on))); refine wpQuiet_nil ?_)
        refine wpSteps_any (.int .i64 (max (leastHi (xs.take (k + 1))) (up xs[k + 1]))) rfl (fun w => ?_) ?_
        · first | (go_simp; done) | (go_simp; simp [ite_max])
        simp only [Act.put, List.setIfInBounds_toArray, List.set_cons_zero, List.set_cons_succ]
        refine wpSteps_nil ?_
        intro gg
        simp only [ite_min, ite_max]
        have hkg := Kept.drop hkW gg.ok
        have p1 := r1.later gg
        have p0 := r0.later gg
        have c2 := p1.cell 0
        have c3 := p1.cell 1
        have f2 := p1.free 0
        have f3 := p1.free 1
        simp at c2 c3
        go_wp2
        refine NoPanic.normal ?_
        go_wp2
        go_round
        case rel =>
          refine ⟨k + 1, by omega, by go_num, ?_, ?_, by (exact kpt)⟩
          · refine Blk.cast (arr := ?_) ?_ ?_
            rotate_left 1
            · focus (exact blk)
            · have hne : xs.take (k + 1) ≠ [] := by intro h; have h2 : (xs.take (k + 1)).length = 0 := (by rw [h]; rfl); rw [List.length_take] at h2; omega
              rw [List.take_succ_eq_append_getElem hlt', leastLo_snoc _ hne, leastHi_snoc _ hne]
              simp [ite_min, ite_max]
          · (exact blkc)
        case measure => simp [intOf]; omega
      · have hk1 : k + 1 = xs.length := by omega
        have c2 := q1.cell 0
        have c3 := q1.cell 1
        have c4 := q0.cell 0
        have c5 := q0.cell 1
        have f4 := q0.free 0
        have f5 := q0.free 1
        rw [List.take_of_length_le (by omega)] at c2 c3
        simp at c2 c3 c4 c5
        go_wp2
        exact bodyPost_ret (v := .agg #[.int .i64 (leastLo xs), .int .i64 (leastHi xs)]) (by simp [results, Try.results81, go_sem, c4, c5, f4, f5]) rfl ⟨rfl, by (exact kpt)⟩

end Go.Proofs.Ytemafanncejeiaa

/-
  A cell in air: its volumes, and how it fits.
-/
namespace Go.Proofs.Ytemafanncejeiaa
open Go.RowKit Bal Bal.Trim Bal.Gas
set_option linter.unusedVariables false
set_option linter.unusedSimpArgs false
set_option maxHeartbeats 400000

theorem f_put_bad (c : Cell) (a : Air) (w : World) (hv : cellB c = false) :
    Calls Try.prog 80 #[.agg #[.int .i64 c.room, .int .i64 c.helium, .int .i64 c.air, .int .i64 c.wlo, .int .i64 c.whi, .int .i64 c.leak, .int .i64 c.owed], .agg #[.int .i64 a.plo, .int .i64 a.phi, .int .i64 a.tlo, .int .i64 a.thi]] w fun e w' => e = .returned (.tuple #[.agg #[.int .i64 0, .int .i64 0, .int .i64 0, .int .i64 0, .int .i64 0, .int .i64 0, .int .i64 0, .int .i64 0, .int .i64 0, .int .i64 0, .int .i64 0, .int .i64 0, .int .i64 0, .int .i64 0], .int .i64 31]) ∧ Kept w w' := by
  have he : checkCell c = 31 := by unfold checkCell; rw [hv]; rfl
  go_enter Try.func80, Try.ntmps80
  go_wp2_with (go_at_call 28; (with_reducible refine (f_CheckCell _ _).mono ?_); rintro e w1 ⟨rfl, hb1⟩; obtain ⟨hc1, hf1, hl1⟩ := bcell3 hb1)
  exact bodyPost_ret (v := .tuple #[.agg #[.int .i64 0, .int .i64 0, .int .i64 0, .int .i64 0, .int .i64 0, .int .i64 0, .int .i64 0, .int .i64 0, .int .i64 0, .int .i64 0, .int .i64 0, .int .i64 0, .int .i64 0, .int .i64 0], .int .i64 31]) (by simp [results, Try.results80, go_sem, hc1, hf1]) rfl ⟨rfl, by (exact kpt)⟩

theorem f_put_ok (c : Cell) (a : Air) (w : World) (hv : cellB c = true) :
    Calls Try.prog 80 #[.agg #[.int .i64 c.room, .int .i64 c.helium, .int .i64 c.air, .int .i64 c.wlo, .int .i64 c.whi, .int .i64 c.leak, .int .i64 c.owed], .agg #[.int .i64 a.plo, .int .i64 a.phi, .int .i64 a.tlo, .int .i64 a.thi]] w fun e w' => e = .returned (.tuple #[.agg #[.int .i64 c.room, .int .i64 c.helium, .int .i64 c.air, .int .i64 c.wlo, .int .i64 c.whi, .int .i64 c.leak, .int .i64 c.owed, .int .i64 a.plo, .int .i64 a.phi, .int .i64 a.tlo, .int .i64 a.thi, .int .i64 (c.helium + c.air), .int .i64 (wrap64 (a.tlo + c.wlo)), .int .i64 (wrap64 (a.thi + c.whi))], .int .i64 (checkAir a)]) ∧ Kept w w' := by
  have he : checkCell c = 0 := by unfold checkCell; rw [hv]; rfl
  obtain ⟨_, ⟨u1, u2⟩, ⟨u3, u4⟩, _⟩ := cellB_iff.1 hv
  clear hv
  go_enter Try.func80, Try.ntmps80
  go_wp2_with (go_at_call 28; (with_reducible refine (f_CheckCell _ _).mono ?_); rintro e w1 ⟨rfl, hb1⟩)
  refine at_world (S := fun W => Blk W w.heap.size #[.int .i64 c.room, .int .i64 c.helium, .int .i64 c.air, .int .i64 c.wlo, .int .i64 c.whi, .int .i64 c.leak, .int .i64 c.owed] 25 ∧ Blk W (w.heap.size + 1) #[.int .i64 a.plo, .int .i64 a.phi, .int .i64 a.tlo, .int .i64 a.thi] 27 ∧ Blk W (w.heap.size + 1 + 1) #[.int .i64 0, .int .i64 0, .int .i64 0, .int .i64 0, .int .i64 0, .int .i64 0, .int .i64 0, .int .i64 0, .int .i64 0, .int .i64 0, .int .i64 0, .int .i64 0, .int .i64 0, .int .i64 0] 144 ∧ Kept w W) ⟨by (exact blk), by (exact blk), by (exact blk), by (exact kpt)⟩ ?_
  rintro W ⟨r0, r1, r2, hk⟩
  have r0c0 := fun g : Later W => (r0.later g).cell 0
  have r0f0 := fun g : Later W => (r0.later g).free 0
  have r0c1 := fun g : Later W => (r0.later g).cell 1
  have r0f1 := fun g : Later W => (r0.later g).free 1
  have r0c2 := fun g : Later W => (r0.later g).cell 2
  have r0f2 := fun g : Later W => (r0.later g).free 2
  have r0c3 := fun g : Later W => (r0.later g).cell 3
  have r0f3 := fun g : Later W => (r0.later g).free 3
  have r0c4 := fun g : Later W => (r0.later g).cell 4
  have r0f4 := fun g : Later W => (r0.later g).free 4
  have r0c5 := fun g : Later W => (r0.later g).cell 5
  have r0f5 := fun g : Later W => (r0.later g).free 5
  have r0c6 := fun g : Later W => (r0.later g).cell 6
  have r0f6 := fun g : Later W => (r0.later g).free 6
  have r0l := fun g : Later W => (r0.later g).lt
  simp at r0c0 r0c1 r0c2 r0c3 r0c4 r0c5 r0c6
  have r1c0 := fun g : Later W => (r1.later g).cell 0
  have r1f0 := fun g : Later W => (r1.later g).free 0
  have r1c1 := fun g : Later W => (r1.later g).cell 1
  have r1f1 := fun g : Later W => (r1.later g).free 1
  have r1c2 := fun g : Later W => (r1.later g).cell 2
  have r1f2 := fun g : Later W => (r1.later g).free 2
  have r1c3 := fun g : Later W => (r1.later g).cell 3
  have r1f3 := fun g : Later W => (r1.later g).free 3
  have r1l := fun g : Later W => (r1.later g).lt
  simp at r1c0 r1c1 r1c2 r1c3
  have r2c0 := fun g : Later W => (r2.later g).cell 0
  have r2f0 := fun g : Later W => (r2.later g).free 0
  have r2c1 := fun g : Later W => (r2.later g).cell 1
  have r2f1 := fun g : Later W => (r2.later g).free 1
  have r2c2 := fun g : Later W => (r2.later g).cell 2
  have r2f2 := fun g : Later W => (r2.later g).free 2
  have r2c3 := fun g : Later W => (r2.later g).cell 3
  have r2f3 := fun g : Later W => (r2.later g).free 3
  have r2c4 := fun g : Later W => (r2.later g).cell 4
  have r2f4 := fun g : Later W => (r2.later g).free 4
  have r2c5 := fun g : Later W => (r2.later g).cell 5
  have r2f5 := fun g : Later W => (r2.later g).free 5
  have r2c6 := fun g : Later W => (r2.later g).cell 6
  have r2f6 := fun g : Later W => (r2.later g).free 6
  have r2c7 := fun g : Later W => (r2.later g).cell 7
  have r2f7 := fun g : Later W => (r2.later g).free 7
  have r2c8 := fun g : Later W => (r2.later g).cell 8
  have r2f8 := fun g : Later W => (r2.later g).free 8
  have r2c9 := fun g : Later W => (r2.later g).cell 9
  have r2f9 := fun g : Later W => (r2.later g).free 9
  have r2c10 := fun g : Later W => (r2.later g).cell 10
  have r2f10 := fun g : Later W => (r2.later g).free 10
  have r2c11 := fun g : Later W => (r2.later g).cell 11
  have r2f11 := fun g : Later W => (r2.later g).free 11
  have r2c12 := fun g : Later W => (r2.later g).cell 12
  have r2f12 := fun g : Later W => (r2.later g).free 12
  have r2c13 := fun g : Later W => (r2.later g).cell 13
  have r2f13 := fun g : Later W => (r2.later g).free 13
  have r2l := fun g : Later W => (r2.later g).lt
  simp at r2c0 r2c1 r2c2 r2c3 r2c4 r2c5 r2c6 r2c7 r2c8 r2c9 r2c10 r2c11 r2c12 r2c13
  refine later_mix [(false, 0), (false, 1), (false, 2), (false, 3), (false, 4), (false, 5), (false, 6), (false, 7), (false, 8), (false, 9), (false, 10), (false, 11), (false, 12), (false, 13), (false, 14)] 15 [16] (by kernel_rfl) (by kernel_rfl) ?_
  simp only [List.filterMap_cons, List.filterMap_nil, List.getElem?_cons_zero, List.getElem?_cons_succ, Option.map_some]
  repeat (refine wpSteps_quiet ?_; (first | go_big_quiet_skip | (go_big_quiet_want; go_big_quiet_op; first | go_big_quiet_on | (apply Exists.intro; refine ⟨fun g => ?_, ?_⟩; (focus (first | (go_at_call 93; exact Later.call (f_heated _ _ _ _ _)) | (go_at_call 26; exact Later.call (f_CheckAir a _)))); go_big_quiet_on))); refine wpQuiet_nil ?_)
  refine wpSteps_nil ?_
  intro gg
  have hkg := Kept.drop hk gg.ok
  go_wp2
  refine NoPanic.normal ?_
  go_wp2
  exact bodyPost_ret (v := .tuple #[.agg #[.int .i64 c.room, .int .i64 c.helium, .int .i64 c.air, .int .i64 c.wlo, .int .i64 c.whi, .int .i64 c.leak, .int .i64 c.owed, .int .i64 a.plo, .int .i64 a.phi, .int .i64 a.tlo, .int .i64 a.thi, .int .i64 (c.helium + c.air), .int .i64 (wrap64 (a.tlo + c.wlo)), .int .i64 (wrap64 (a.thi + c.whi))], .int .i64 (checkAir a)]) (by simp [results, Try.results80, go_sem, r2c0, r2f0, r2c1, r2f1, r2c2, r2f2, r2c3, r2f3, r2c4, r2f4, r2c5, r2f5, r2c6, r2f6, r2c7, r2f7, r2c8, r2f8, r2c9, r2f9, r2c10, r2f10, r2c11, r2f11, r2c12, r2f12, r2c13, r2f13]) rfl ⟨rfl, by (exact kpt)⟩

end Go.Proofs.Ytemafanncejeiaa

/-
  The reference of gas: its small functions.
-/
namespace Go.Proofs.Ytemafanncejeiaa
open Go.RowKit Bal Bal.Trim Bal.Gas
set_option linter.unusedVariables false
set_option linter.unusedSimpArgs false
set_option maxHeartbeats 400000

theorem w64_in (n : Int) (h : -9223372036854775808 ≤ n ∧ n ≤ 9223372036854775807) : wrap64 n = n := by unfold wrap64; omega

theorem r_within (n lo hi : Int) (w : World) :
    Calls Try.prog 104 #[.int .i64 n, .int .i64 lo, .int .i64 hi] w fun e w' => e = .returned (.bool (inB n lo hi)) ∧ w = w' := by
  go_enter Try.func104, Try.ntmps104
  go_wp2
  all_goals (go_ret; exact ⟨ret_bool (by first | (simp_all [inB]; done) | (simp_all [inB]; omega)), rfl⟩)

theorem f_put_good (c : Cell) (a : Air) (w : World) (hv : cellB c = true) (ha : airB a = true) :
    Calls Try.prog 80 #[.agg #[.int .i64 c.room, .int .i64 c.helium, .int .i64 c.air, .int .i64 c.wlo, .int .i64 c.whi, .int .i64 c.leak, .int .i64 c.owed], .agg #[.int .i64 a.plo, .int .i64 a.phi, .int .i64 a.tlo, .int .i64 a.thi]] w fun e w' => e = .returned (.tuple #[.agg #[.int .i64 c.room, .int .i64 c.helium, .int .i64 c.air, .int .i64 c.wlo, .int .i64 c.whi, .int .i64 c.leak, .int .i64 c.owed, .int .i64 a.plo, .int .i64 a.phi, .int .i64 a.tlo, .int .i64 a.thi, .int .i64 (amount c), .int .i64 (heatLo c a), .int .i64 (heatHi c a)], .int .i64 0]) ∧ Kept w w' := by
  obtain ⟨h1, h2, h3, h4, h5, h6⟩ := cellB_iff.1 hv
  obtain ⟨h7, h8⟩ := airB_iff.1 ha
  have := f_put_ok c a w hv
  rwa [show checkAir a = 0 by simp [checkAir, ha], w64_in (a.tlo + c.wlo) (by omega), w64_in (a.thi + c.whi) (by omega)] at this

theorem f_least2 (r s : Ratio) (t : TypeId) (W : World) (m : Nat) (hm : m = W.heap.size) (hr : ratioOk r) (hs : ratioOk s) :
    Calls Try.prog 81 #[.slice (some ⟨m, 0, none⟩) 2 2] (W.alloc (.cells #[.int .i64 r.num, .int .i64 r.den, .int .i64 s.num, .int .i64 s.den] t)) fun e w' => e = .returned (.agg #[.int .i64 (leastLo [r, s]), .int .i64 (leastHi [r, s])]) ∧ Kept (W.alloc (.cells #[.int .i64 r.num, .int .i64 r.den, .int .i64 s.num, .int .i64 s.den] t)) w' := by
  subst hm
  exact f_least _ 2 2 [r, s] _ rfl (B := 0) (Row.fresh (enc := Ratio.cells) (fun _ => rfl) rfl) (by decide) (by decide) (by decide) (by intro x hx; simp at hx; rcases hx with rfl | rfl <;> assumption)

end Go.Proofs.Ytemafanncejeiaa

/-
  Structs as cells of memory. No program in sight.
-/
namespace Bal.Gas
open Go Go.RowKit Bal

def Sp.cells (x : Sp) : List Value := [.int .i64 x.lo, .int .i64 x.hi]
theorem Sp.row {B : Nat} {w : World} {a : Option Addr} {xs : List Sp} (h : Row Sp.cells 2 B w a xs) (i : Nat) (hi : i < xs.length) :
    ∃ b off, a = some ⟨b, off, none⟩ ∧ b < B ∧ w.cell? ⟨b, off + i * 2, none⟩ = some (.int .i64 xs[i].lo) ∧ w.cell? ⟨b, off + i * 2 + 1, none⟩ = some (.int .i64 xs[i].hi) := by
  obtain ⟨b, off, ha, hb, hc⟩ := h i xs[i] (by simp [hi])
  exact ⟨b, off, ha, hb, hc 0 _ rfl, hc 1 _ rfl⟩
theorem Sp.of_leaves {cs : List Value} (h : LeavesOk [.int .i64, .int .i64] cs) : ∃ x : Sp, cs = x.cells ∧ (Lit.int .i64 x.lo).wf = true ∧ (Lit.int .i64 x.hi).wf = true := by
  obtain ⟨hl, h⟩ := h
  match cs, hl with
  | [v0, v1], _ =>
    obtain ⟨_, e0, n0, rfl, w0⟩ := h 0 (.int .i64) rfl; simp at e0; subst e0
    obtain ⟨_, e1, n1, rfl, w1⟩ := h 1 (.int .i64) rfl; simp at e1; subst e1
    exact ⟨⟨n0, n1⟩, rfl, w0, w1⟩

def Flow.cells (x : Flow) : List Value := [.int .i64 x.time, .int .i64 x.cell, .int .i64 x.n]
theorem Flow.row {B : Nat} {w : World} {a : Option Addr} {xs : List Flow} (h : Row Flow.cells 3 B w a xs) (i : Nat) (hi : i < xs.length) :
    ∃ b off, a = some ⟨b, off, none⟩ ∧ b < B ∧ w.cell? ⟨b, off + i * 3, none⟩ = some (.int .i64 xs[i].time) ∧ w.cell? ⟨b, off + i * 3 + 1, none⟩ = some (.int .i64 xs[i].cell) ∧ w.cell? ⟨b, off + i * 3 + 2, none⟩ = some (.int .i64 xs[i].n) := by
  obtain ⟨b, off, ha, hb, hc⟩ := h i xs[i] (by simp [hi])
  exact ⟨b, off, ha, hb, hc 0 _ rfl, hc 1 _ rfl, hc 2 _ rfl⟩
theorem Flow.of_leaves {cs : List Value} (h : LeavesOk [.int .i64, .int .i64, .int .i64] cs) : ∃ x : Flow, cs = x.cells ∧ (Lit.int .i64 x.time).wf = true ∧ (Lit.int .i64 x.cell).wf = true ∧ (Lit.int .i64 x.n).wf = true := by
  obtain ⟨hl, h⟩ := h
  match cs, hl with
  | [v0, v1, v2], _ =>
    obtain ⟨_, e0, n0, rfl, w0⟩ := h 0 (.int .i64) rfl; simp at e0; subst e0
    obtain ⟨_, e1, n1, rfl, w1⟩ := h 1 (.int .i64) rfl; simp at e1; subst e1
    obtain ⟨_, e2, n2, rfl, w2⟩ := h 2 (.int .i64) rfl; simp at e2; subst e2
    exact ⟨⟨n0, n1, n2⟩, rfl, w0, w1, w2⟩

end Bal.Gas

/-
  A history as cells of memory: warm, gauges with their volumes, flows. No program in sight.
-/
namespace Bal.Gas
open Go Go.RowKit Bal Bal.Trim
set_option linter.unusedVariables false
def gv (g : Gauge) : Option Addr := g.va.map fun p => ⟨p.1, p.2.1, p.2.2⟩
def Gauge.cells (g : Gauge) : List Value := [.int .i64 g.time, .int .i64 g.air.plo, .int .i64 g.air.phi, .int .i64 g.air.tlo, .int .i64 g.air.thi, .slice (gv g) g.vols.length g.vc]
theorem Gauge.row {B : Nat} {w : World} {a : Option Addr} {xs : List Gauge} (h : Row Gauge.cells 6 B w a xs) (i : Nat) (hi : i < xs.length) :
    ∃ b off, a = some ⟨b, off, none⟩ ∧ b < B ∧ w.cell? ⟨b, off + i * 6, none⟩ = some (.int .i64 xs[i].time) ∧ w.cell? ⟨b, off + i * 6 + 1, none⟩ = some (.int .i64 xs[i].air.plo) ∧ w.cell? ⟨b, off + i * 6 + 2, none⟩ = some (.int .i64 xs[i].air.phi) ∧
      w.cell? ⟨b, off + i * 6 + 3, none⟩ = some (.int .i64 xs[i].air.tlo) ∧ w.cell? ⟨b, off + i * 6 + 4, none⟩ = some (.int .i64 xs[i].air.thi) ∧ w.cell? ⟨b, off + i * 6 + 5, none⟩ = some (.slice (gv xs[i]) xs[i].vols.length xs[i].vc) := by
  obtain ⟨b, off, ha, hb, hc⟩ := h i xs[i] (by simp [hi])
  exact ⟨b, off, ha, hb, hc 0 _ rfl, hc 1 _ rfl, hc 2 _ rfl, hc 3 _ rfl, hc 4 _ rfl, hc 5 _ rfl⟩
/-- where a history lies -/
structure Spot where
  aw : Option Addr
  ag : Option Addr
  af : Option Addr
  cw : Nat
  cg : Nat
  cf : Nat
def histV (s : Spot) (h : Hist) : Array Value := #[.slice s.aw h.warm.length s.cw, .slice s.ag h.gauges.length s.cg, .slice s.af h.flows.length s.cf]
structure HistAt (h : Hist) (s : Spot) (w : World) : Prop where
  warm : Row Sp.cells 2 w.heap.size w s.aw h.warm
  gauges : Row Gauge.cells 6 w.heap.size w s.ag h.gauges
  flows : Row Flow.cells 3 w.heap.size w s.af h.flows
  vols : ∀ g ∈ h.gauges, Row Sp.cells 2 w.heap.size w (gv g) g.vols
  wc : h.warm.length ≤ s.cw
  gc : h.gauges.length ≤ s.cg
  fc : h.flows.length ≤ s.cf
  wm : s.cw ≤ maxLen
  gm : s.cg ≤ maxLen
  fm : s.cf ≤ maxLen
  vc : ∀ g ∈ h.gauges, g.vols.length ≤ g.vc ∧ g.vc ≤ maxLen
theorem HistAt.later {h : Hist} {s : Spot} {w w' : World} (k : HistAt h s w) (hb : Kept w w') : HistAt h s w' :=
  ⟨k.warm.later hb (Nat.le_refl _), k.gauges.later hb (Nat.le_refl _), k.flows.later hb (Nat.le_refl _), fun g hg => (k.vols g hg).later hb (Nat.le_refl _), k.wc, k.gc, k.fc, k.wm, k.gm, k.fm, k.vc⟩
theorem HistAt.volsAt {h : Hist} {s : Spot} {w : World} (k : HistAt h s w) (i : Nat) (hi : i < h.gauges.length) : Row Sp.cells 2 w.heap.size w (gv (gAt h i)) (gAt h i).vols := by
  have e : gAt h i = h.gauges[i] := by simp [gAt, hi]
  rw [e]
  exact k.vols _ (List.getElem_mem hi)
theorem gAt_get {h : Hist} {i : Nat} (hi : i < h.gauges.length) : h.gauges[i] = gAt h i := by simp [gAt, hi]
theorem wAt_get {h : Hist} {c : Nat} (hc : c < h.warm.length) : h.warm[c] = wAt h c := by simp [wAt, hc]
theorem vAt_get {g : Gauge} {c : Nat} (hc : c < g.vols.length) : g.vols[c] = vAt g c := by simp [vAt, hc]
end Bal.Gas

/-
  The reference: great histories; lists that are the same.
-/
namespace Go.Proofs.Ytemafanncejeiaa
open Go.RowKit Bal Bal.Trim Bal.Gas
set_option linter.unusedVariables false
set_option linter.unusedSimpArgs false
set_option maxHeartbeats 4000000
set_option maxRecDepth 100000

theorem r_SameSpans (a b : Option Addr) (c d : Nat) (xs : List Sp) (w : World) (hx : Row Sp.cells 2 w.heap.size w a xs) (hy : Row Sp.cells 2 w.heap.size w b xs) (hc : xs.length ≤ c) (hd : xs.length ≤ d) (hM : c ≤ maxLen) (hN : d ≤ maxLen) :
    Calls Try.prog 66 #[.slice a xs.length c, .slice b xs.length d] w fun e w' => e = .returned (.bool true) ∧ Kept w w' := by
  unfold maxLen at hM hN
  go_enter Try.func66, Try.ntmps66
  go_wp2
  go_loopw [5] (fun i wr => ∃ k : Nat, k ≤ xs.length ∧ i = .int .i64 k ∧ Kept w wr) (fun i _ => xs.length - (intOf i).toNat)
  case atStart => exact ⟨0, Nat.zero_le _, rfl, Below.refl _ _⟩
  case round =>
    obtain ⟨k, hk, rfl, hkk⟩ := hrel
    by_cases hlt : k < xs.length
    · obtain ⟨b1, o1, rfl, hb1, h0, h1⟩ := Sp.row (hx.later hkk (Nat.le_refl _)) k hlt
      obtain ⟨b2, o2, rfl, hb2, j0, j1⟩ := Sp.row (hy.later hkk (Nat.le_refl _)) k hlt
      have x0 := fun g : Later wr => g.some h0
      have y0 := fun g : Later wr => g.some j0
      have x1 := fun g : Later wr => g.some h1
      have y1 := fun g : Later wr => g.some j1
      go_upto_region 6 with fail
      refine Later.region (by kernel_rfl) (by kernel_rfl) ?_
      repeat (first | go_big_quiet_skip | (go_big_quiet_want; go_big_quiet_op; first | go_big_quiet_on | (apply Exists.intro; refine ⟨fun g => ?_, ?_⟩; (focus (first | fail)); go_big_quiet_on)))
      refine wpQuiet_nil ?_
      intro gg
      have hkgg := Kept.drop hkk gg.ok
      go_wp2
      go_round
      case rel => exact ⟨k + 1, by omega, by go_num, by (exact kpt)⟩
      case measure => simp [intOf]; omega
    · obtain rfl : k = xs.length := by omega
      go_wp2
      go_ret
      exact ⟨rfl, hkk⟩

theorem r_SameInts (a b : Option Addr) (c d : Nat) (xs : List Int) (w : World) (hx : Row icell 1 w.heap.size w a xs) (hy : Row icell 1 w.heap.size w b xs) (hc : xs.length ≤ c) (hd : xs.length ≤ d) (hM : c ≤ maxLen) (hN : d ≤ maxLen) :
    Calls Try.prog 67 #[.slice a xs.length c, .slice b xs.length d] w fun e w' => e = .returned (.bool true) ∧ Kept w w' := by
  unfold maxLen at hM hN
  go_enter Try.func67, Try.ntmps67
  go_wp2
  go_loopw [5] (fun i wr => ∃ k : Nat, k ≤ xs.length ∧ i = .int .i64 k ∧ Kept w wr) (fun i _ => xs.length - (intOf i).toNat)
  case atStart => exact ⟨0, Nat.zero_le _, rfl, Below.refl _ _⟩
  case round =>
    obtain ⟨k, hk, rfl, hkk⟩ := hrel
    by_cases hlt : k < xs.length
    · obtain ⟨b1, o1, rfl, hb1, h0⟩ := int_row (hx.later hkk (Nat.le_refl _)) k hlt
      obtain ⟨b2, o2, rfl, hb2, j0⟩ := int_row (hy.later hkk (Nat.le_refl _)) k hlt
      have x0 := fun g : Later wr => g.some h0
      have y0 := fun g : Later wr => g.some j0
      go_upto_region 6 with fail
      refine Later.region (by kernel_rfl) (by kernel_rfl) ?_
      repeat (first | go_big_quiet_skip | (go_big_quiet_want; go_big_quiet_op; first | go_big_quiet_on | (apply Exists.intro; refine ⟨fun g => ?_, ?_⟩; (focus (first | fail)); go_big_quiet_on)))
      refine wpQuiet_nil ?_
      intro gg
      have hkgg := Kept.drop hkk gg.ok
      go_wp2
      go_round
      case rel => exact ⟨k + 1, by omega, by go_num, by (exact kpt)⟩
      case measure => simp [intOf]; omega
    · obtain rfl : k = xs.length := by omega
      go_wp2
      go_ret
      exact ⟨rfl, hkk⟩

theorem r_GreatH (h : Hist) (s : Spot) (w : World) (hh : HistAt h s w) :
    Calls Try.prog 55 #[.agg #[.slice s.aw h.warm.length s.cw, .slice s.ag h.gauges.length s.cg, .slice s.af h.flows.length s.cf]] w fun e w' => e = .returned (.bool (greatH h)) ∧ Kept w w' := by
  have hcw := hh.wc
  have hcm := hh.wm
  have hgc := hh.gc
  have hgm := hh.gm
  have hfc := hh.fc
  have hfm := hh.fm
  unfold maxLen at hcm hgm hfm
  by_cases h1 : 20 < h.warm.length
  · have e1 : decide ((20 : Int) < (h.warm.length : Int)) = true := by simp; omega
    have HG := Lib.hid (show greatH h = true by simp [greatH, h1])
    go_enter Try.func55, Try.ntmps55
    go_wp2
    go_ret
    exact ⟨ret_bool HG.out.symm, by (exact kpt)⟩
  · have e1 : decide ((20 : Int) < (h.warm.length : Int)) = false := by simp; omega
    by_cases h2 : 40 < h.gauges.length
    · have e2 : decide ((40 : Int) < (h.gauges.length : Int)) = true := by simp; omega
      have HG := Lib.hid (show greatH h = true by simp [greatH, h2])
      go_enter Try.func55, Try.ntmps55
      go_wp2
      go_ret
      exact ⟨ret_bool HG.out.symm, by (exact kpt)⟩
    · have e2 : decide ((40 : Int) < (h.gauges.length : Int)) = false := by simp; omega
      by_cases h3 : 120 < h.flows.length
      · have e3 : decide ((120 : Int) < (h.flows.length : Int)) = true := by simp; omega
        have HG := Lib.hid (show greatH h = true by simp [greatH, h3])
        go_enter Try.func55, Try.ntmps55
        go_wp2
        go_ret
        exact ⟨ret_bool HG.out.symm, by (exact kpt)⟩
      · have e3 : decide ((120 : Int) < (h.flows.length : Int)) = false := by simp; omega
        have HQ := Lib.hid (show greatH h = h.gauges.any fun g => decide (20 < g.vols.length) by simp [greatH, h1, h2, h3])
        go_enter Try.func55, Try.ntmps55
        go_wp2
        clear e1 e2 e3
        go_loopw [3] (fun i wr => ∃ k : Nat, k ≤ h.gauges.length ∧ i = .int .i64 k ∧ (∀ j (hj : j < h.gauges.length), j < k → h.gauges[j].vols.length ≤ 20) ∧ Blk wr w.heap.size #[.slice s.aw h.warm.length s.cw, .slice s.ag h.gauges.length s.cg, .slice s.af h.flows.length s.cf] 85 ∧ Kept w wr) (fun i _ => h.gauges.length - (intOf i).toNat)
        case atStart => exact ⟨0, Nat.zero_le _, rfl, fun j _ hj => by omega, by (exact blkc), by (exact kpt)⟩
        case round =>
          obtain ⟨k, hk, rfl, hall, q0, hkk⟩ := hrel
          have HALL := Lib.hid hall
          clear hall
          have q0c0 := q0.cell 0
          have q0f0 := q0.free 0
          have q0c1 := q0.cell 1
          have q0f1 := q0.free 1
          have q0c2 := q0.cell 2
          have q0f2 := q0.free 2
          have q0l := q0.lt
          simp at q0c0 q0c1 q0c2
          by_cases hlt : k < h.gauges.length
          · obtain ⟨b1, o1, hag, hb1, c0, c1, c2, c3, c4, c5⟩ := Gauge.row ((hh.later hkk).gauges) k hlt
            have hvc := (hh.vc _ (List.getElem_mem hlt))
            obtain ⟨g, hg⟩ : ∃ g, g = h.gauges[k] := ⟨_, rfl⟩
            rw [← hg] at c5 hvc
            obtain ⟨hv1, hv2⟩ := hvc
            unfold maxLen at hv2
            have HGK := Lib.hid hg
            clear hg c0 c1 c2 c3 c4
            rw [hag] at q0c1
            clear hag
            by_cases hb : 20 < g.vols.length
            · have e4 : decide ((20 : Int) < (g.vols.length : Int)) = true := by simp; omega
              have HG := Lib.hid (show greatH h = true by rw [HQ.out, List.any_eq_true]; exact ⟨g, by rw [HGK.out]; exact List.getElem_mem hlt, by simpa using hb⟩)
              go_wp2
              go_ret
              exact ⟨ret_bool HG.out.symm, hkk⟩
            · have e4 : decide ((20 : Int) < (g.vols.length : Int)) = false := by simp; omega
              go_wp2
              go_round
              case rel =>
                refine ⟨k + 1, by omega, by go_num, fun j hj hjk => ?_, q0, hkk⟩
                by_cases hjj : j < k
                · exact HALL.out j hj hjj
                · obtain rfl : j = k := by omega
                  rw [← HGK.out]; omega
              case measure => simp [intOf]; omega
          · obtain rfl : k = h.gauges.length := by omega
            have HG := Lib.hid (show greatH h = false by
              rw [HQ.out, Bool.eq_false_iff]
              intro hc
              rw [List.any_eq_true] at hc
              obtain ⟨g, hgm, hb⟩ := hc
              obtain ⟨j, hj, rfl⟩ := List.mem_iff_getElem.1 hgm
              have := HALL.out j hj hj
              simp at hb
              omega)
            go_wp2
            go_ret
            exact ⟨ret_bool HG.out.symm, hkk⟩

end Go.Proofs.Ytemafanncejeiaa

/-
  The reference: whether a history is valid.
-/
namespace Go.Proofs.Ytemafanncejeiaa
open Go.RowKit Bal Bal.Trim Bal.Gas
set_option linter.unusedVariables false
set_option linter.unusedSimpArgs false
set_option maxHeartbeats 4000000
set_option maxRecDepth 100000

theorem i64_inH {n : Int} (h : -9223372036854775808 ≤ n ∧ n ≤ 9223372036854775807) : IntKind.i64.wrap n = n := by rw [IntKind.wrap_i64]; have := w64_in n h; unfold wrap64 at this; omega
end Go.Proofs.Ytemafanncejeiaa

/-
  CheckHistory: the program, the reference.
-/
namespace Go.Proofs.Ytemafanncejeiaa
open Go.RowKit Bal Bal.Trim Bal.Gas
set_option linter.unusedVariables false
set_option linter.unusedSimpArgs false
set_option maxHeartbeats 4000000
set_option maxRecDepth 100000

theorem rng_oneH (a lo hi : Int) : rng [a] lo hi = inB a lo hi := by simp [rng]
theorem f_rangedQ (p lo hi : Int) (b : Bool) (h : inB p lo hi = b) (t : TypeId) (W : World) (m : Nat) (hm : m = W.heap.size) :
    Calls Try.prog 91 #[.int .i64 lo, .int .i64 hi, .slice (some ⟨m, 0, none⟩) 1 1] (W.alloc (.cells #[.int .i64 p] t)) fun e w' => e = .returned (.bool b) ∧ W.alloc (.cells #[.int .i64 p] t) = w' := by
  have k := f_ranged1 lo hi p t W m hm
  rwa [rng_oneH, h] at k
def lastT (h : Hist) (k : Nat) : Int := if k = 0 then -1 else tt h (k - 1)
theorem lastT_bd {h : Hist} {k : Nat} (hk : ∀ j, j < k → okG h j = true) : -1 ≤ lastT h k ∧ lastT h k ≤ 1000000 := by
  unfold lastT
  split
  · omega
  · rename_i h0
    have h1 := times_pos k hk (k - 1) (by omega)
    have h2 := hk (k - 1) (by omega)
    rw [okG_parts (fun h3 => times_pos k hk (k - 1 - 1) (by omega))] at h2
    simp only [Bool.and_eq_true, inB_iff] at h2
    omega
theorem f_CheckHistory_sizes (h : Hist) (s : Spot) (w : World) (hh : HistAt h s w) (hs : sizesB h = false) :
    Calls Try.prog 64 #[.agg #[.slice s.aw h.warm.length s.cw, .slice s.ag h.gauges.length s.cg, .slice s.af h.flows.length s.cf]] w fun e w' => e = .returned (.int .i64 (histE h)) ∧ Kept w w' := by
  have hcw := hh.wc
  have hcm := hh.wm
  have hgc := hh.gc
  have hgm := hh.gm
  have hfc := hh.fc
  have hfm := hh.fm
  unfold maxLen at hcm hgm hfm
  have HF := Lib.hid (show histE h = 34 by unfold histE; rw [histB_sizes hs]; rfl)
  cases h1 : inB h.warm.length 1 12
  · have H1 := Lib.hid h1
    clear h1 hs
    go_enter Try.func64, Try.ntmps64
    go_wp2_with (go_at_call 91; (with_reducible refine (f_rangedQ h.warm.length 1 12 _ H1.out _ _ _ (by simp)).mono ?_); rintro e w9 ⟨rfl, rfl⟩)
    go_ret
    exact ⟨ret_int (by rw [HF.out]), by (exact kpt)⟩
  · have H1 := Lib.hid h1
    cases h2 : inB h.gauges.length 1 30
    · have H2 := Lib.hid h2
      clear h1 h2 hs
      go_enter Try.func64, Try.ntmps64
      go_wp2_with (first | (go_at_call 91; (with_reducible refine (f_rangedQ h.warm.length 1 12 _ H1.out _ _ _ (by simp)).mono ?_); rintro e w9 ⟨rfl, rfl⟩) | (go_at_call 91; (with_reducible refine (f_rangedQ h.gauges.length 1 30 _ H2.out _ _ _ (by simp)).mono ?_); rintro e w9 ⟨rfl, rfl⟩))
      go_ret
      exact ⟨ret_int (by rw [HF.out]), by (exact kpt)⟩
    · have H2 := Lib.hid h2
      have e3 : decide ((100 : Int) < (h.flows.length : Int)) = true := by simp [sizesB, h1, h2] at hs; simp; omega
      clear h1 h2 hs
      go_enter Try.func64, Try.ntmps64
      go_wp2_with (first | (go_at_call 91; (with_reducible refine (f_rangedQ h.warm.length 1 12 _ H1.out _ _ _ (by simp)).mono ?_); rintro e w9 ⟨rfl, rfl⟩) | (go_at_call 91; (with_reducible refine (f_rangedQ h.gauges.length 1 30 _ H2.out _ _ _ (by simp)).mono ?_); rintro e w9 ⟨rfl, rfl⟩))
      go_ret
      exact ⟨ret_int (by rw [HF.out]), by (exact kpt)⟩

theorem f_CheckHistory_main (h : Hist) (s : Spot) (w : World) (hh : HistAt h s w) (hs : sizesB h = true) :
    Calls Try.prog 64 #[.agg #[.slice s.aw h.warm.length s.cw, .slice s.ag h.gauges.length s.cg, .slice s.af h.flows.length s.cf]] w fun e w' => e = .returned (.int .i64 (histE h)) ∧ Kept w w' := by
  have hcw := hh.wc
  have hcm := hh.wm
  have hgc := hh.gc
  have hgm := hh.gm
  have hfc := hh.fc
  have hfm := hh.fm
  unfold maxLen at hcm hgm hfm
  obtain ⟨aw, ag, af, cw, cg, cf⟩ := s
  simp only at hcw hcm hgc hgm hfc hfm
  have R1 := Lib.hid (show ∀ W, Kept w W → Row Sp.cells 2 W.heap.size W aw h.warm from fun W hW => (hh.later hW).warm)
  have R2 := Lib.hid (show ∀ W, Kept w W → Row Gauge.cells 6 W.heap.size W ag h.gauges from fun W hW => (hh.later hW).gauges)
  have R3 := Lib.hid (show ∀ W, Kept w W → Row Flow.cells 3 W.heap.size W af h.flows from fun W hW => (hh.later hW).flows)
  obtain ⟨⟨w1_, w2_⟩, ⟨g1_, g2_⟩, f2_⟩ := sizesB_iff.1 hs
  have HS := Lib.hid hs
  have H1 := Lib.hid (show inB h.warm.length 1 12 = true by simp [inB]; omega)
  have H2 := Lib.hid (show inB h.gauges.length 1 30 = true by simp [inB]; omega)
  have e3 : decide ((100 : Int) < (h.flows.length : Int)) = false := by simp; omega
  clear hs
  go_enter Try.func64, Try.ntmps64
  go_wp2_with (first | (go_at_call 91; (with_reducible refine (f_rangedQ h.warm.length 1 12 _ H1.out _ _ _ (by simp)).mono ?_); rintro e w9 ⟨rfl, rfl⟩) | (go_at_call 91; (with_reducible refine (f_rangedQ h.gauges.length 1 30 _ H2.out _ _ _ (by simp)).mono ?_); rintro e w9 ⟨rfl, rfl⟩))
  clear e3
  go_loopw [35] (fun i wr => ∃ k : Nat, k ≤ h.warm.length ∧ i = .int .i64 k ∧ (∀ c, c < k → warmB (wAt h c) = true) ∧ Blk wr w.heap.size #[.slice aw h.warm.length cw, .slice ag h.gauges.length cg, .slice af h.flows.length cf] 85 ∧ Kept w wr) (fun i _ => h.warm.length - (intOf i).toNat)
  case atStart => exact ⟨0, Nat.zero_le _, rfl, fun c hc => by omega, by (exact blkc), by (exact kpt)⟩
  case round =>
    obtain ⟨k, hk, rfl, hall, q0, hkk⟩ := hrel
    have HALL := Lib.hid hall
    clear hall
    by_cases hlt : k < h.warm.length
    · obtain ⟨b1, o1, rfl, hb1, c0, c1⟩ := Sp.row (R1.out _ hkk) k hlt
      obtain ⟨x, hx⟩ : ∃ x, x = wAt h k := ⟨_, rfl⟩
      rw [wAt_get hlt, ← hx] at c0 c1
      have HX := Lib.hid hx
      clear hx
      cases hv : warmB x
      · have HV_ := Lib.hid (show spanIn x.lo x.hi (-300) 300 = false from hv)
        have HF := Lib.hid (show histE h = 34 by unfold histE; rw [histB_warm hlt (by rw [← HX.out]; exact hv)]; rfl)
        clear hv
        go_wp2_with (go_at_call 88; (with_reducible refine (f_span x.lo x.hi _ _ _).mono ?_); rw [HV_.out]; rintro e w9 ⟨rfl, hb9⟩)
        go_ret
        exact ⟨ret_int (by rw [HF.out]), by (exact kpt)⟩
      · have HV_ := Lib.hid (show spanIn x.lo x.hi (-300) 300 = true from hv)
        have HVV := Lib.hid hv
        clear hv
        go_wp2_with (go_at_call 88; (with_reducible refine (f_span x.lo x.hi _ _ _).mono ?_); rw [HV_.out]; rintro e w9 ⟨rfl, hb9⟩)
        go_round
        case rel =>
          refine ⟨k + 1, by omega, by go_num, fun c hc => ?_, by (exact blkc), by (exact kpt)⟩
          by_cases hck : c < k
          · exact HALL.out c hck
          · obtain rfl : c = k := by omega
            rw [← HX.out]; exact HVV.out
        case measure => simp [intOf]; omega
    · obtain rfl : k = h.warm.length := by omega
      have HWARM := HALL
      clear HALL hk hlt
      have q0c0 := q0.cell 0
      have q0f0 := q0.free 0
      have q0c1 := q0.cell 1
      have q0f1 := q0.free 1
      have q0c2 := q0.cell 2
      have q0f2 := q0.free 2
      have q0l := q0.lt
      simp at q0c0 q0c1 q0c2
      go_wp2
      clear q0c0 q0f0 q0c1 q0f1 q0c2 q0f2 q0l
      go_loopw [5, 46] (fun l i wr => ∃ k : Nat, k ≤ h.gauges.length ∧ i = .int .i64 k ∧ l = .int .i64 (lastT h k) ∧ (∀ j, j < k → okG h j = true) ∧ Blk wr w.heap.size #[.slice aw h.warm.length cw, .slice ag h.gauges.length cg, .slice af h.flows.length cf] 85 ∧ Kept w wr) (fun _ i _ => h.gauges.length - (intOf i).toNat)
      case atStart => exact ⟨0, Nat.zero_le _, rfl, rfl, fun c hc => by omega, q0, hkk⟩
      case round =>
        clear q0 hkk
        obtain ⟨k, hk, rfl, rfl, hall, q0, hkk⟩ := hrel
        have HOKS := Lib.hid hall
        have hlb := lastT_bd hall
        have q0c0 := q0.cell 0
        have q0f0 := q0.free 0
        have q0c1 := q0.cell 1
        have q0f1 := q0.free 1
        have q0c2 := q0.cell 2
        have q0f2 := q0.free 2
        have q0l := q0.lt
        simp at q0c0 q0c1 q0c2
        by_cases hlt : k < h.gauges.length
        · clear hall
          obtain ⟨b1, o1, rfl, hb1, c0, c1, c2, c3, c4, c5⟩ := Gauge.row (R2.out _ hkk) k hlt
          have HVR0 := fun (W : World) (hW : Kept w W) => (hh.later hW).volsAt k hlt
          obtain ⟨g, hg⟩ : ∃ g, g = gAt h k := ⟨_, rfl⟩
          rw [gAt_get hlt, ← hg] at c0 c1 c2 c3 c4 c5
          rw [← hg] at HVR0
          obtain ⟨va, hva⟩ : ∃ v, v = gv g := ⟨_, rfl⟩
          rw [← hva] at HVR0 c5
          have HVR := Lib.hid HVR0
          have HGA := Lib.hid hg.symm
          obtain ⟨LT, hLT⟩ : ∃ n, n = lastT h k := ⟨_, rfl⟩
          have HPARTS := Lib.hid (show okG h k = (inB g.time (LT + 1) 1000000 && airB g.air && decide (g.vols.length = h.warm.length) && g.vols.all volB) by rw [hLT, hg]; rfl)
          rw [← hLT] at hlb ⊢
          have HLT := Lib.hid hLT
          have HTT := Lib.hid (show lastT h (k + 1) = g.time by rw [hg]; rfl)
          clear hg HVR0 hva hLT
          have e5w : (-1 : Int) ≤ LT := hlb.1
          cases k1 : inB g.time (LT + 1) 1000000
          · have K1 := Lib.hid k1
            have HF := Lib.hid (show histE h = 34 by unfold histE; rw [histB_gauge hlt (by rw [HPARTS.out]; simp [k1])]; rfl)
            clear k1
            go_wp2_with (go_at_call 91; (with_reducible refine (f_rangedQ g.time (LT + 1) 1000000 _ K1.out _ _ _ (by simp)).mono ?_); rintro e w9 ⟨rfl, rfl⟩)
            go_ret
            exact ⟨ret_int (by rw [HF.out]), by (exact kpt)⟩
          · have K1 := Lib.hid k1
            cases ha : airB g.air
            · have HCA := Lib.hid (show checkAir g.air = 30 by unfold checkAir; rw [ha]; rfl)
              have HF := Lib.hid (show histE h = 34 by unfold histE; rw [histB_gauge hlt (by rw [HPARTS.out]; simp [ha])]; rfl)
              clear k1 ha
              go_wp2_with (first | (go_at_call 91; (with_reducible refine (f_rangedQ g.time (LT + 1) 1000000 _ K1.out _ _ _ (by simp)).mono ?_); rintro e w9 ⟨rfl, rfl⟩) | (go_at_call 26; (with_reducible refine (f_CheckAir g.air _).mono ?_); rw [HCA.out]; rintro e w9 ⟨rfl, hb9⟩; refine Blk.thru (b := w.heap.size) (arr := ?_) (t := ?_) ?_ hb9 ?_; rotate_left 2; (focus (exact blk)); intro rr; have rrc0 := rr.cell 0; have rrf0 := rr.free 0; have rrc1 := rr.cell 1; have rrf1 := rr.free 1; have rrc2 := rr.cell 2; have rrf2 := rr.free 2; have rrl := rr.lt; simp at rrc0 rrc1 rrc2; refine Blk.thru (b := wr.heap.size) (arr := ?_) (t := ?_) ?_ hb9 ?_; rotate_left 2; (focus (exact blk)); intro rg; have rgc0 := rg.cell 0; have rgf0 := rg.free 0; have rgc1 := rg.cell 1; have rgf1 := rg.free 1; have rgc2 := rg.cell 2; have rgf2 := rg.free 2; have rgc3 := rg.cell 3; have rgf3 := rg.free 3; have rgc4 := rg.cell 4; have rgf4 := rg.free 4; have rgc5 := rg.cell 5; have rgf5 := rg.free 5; have rgl := rg.lt; simp at rgc0 rgc1 rgc2 rgc3 rgc4 rgc5))
              go_ret
              exact ⟨ret_int (by rw [HF.out]), by (exact kpt)⟩
            · have HCA := Lib.hid (show checkAir g.air = 0 by unfold checkAir; rw [ha]; rfl)
              by_cases hl : g.vols.length = h.warm.length
              · have HVL := Lib.hid hl
                have hv12 : g.vols.length ≤ 12 := by omega
                have HPRE := Lib.hid (show (inB g.time (LT + 1) 1000000 && airB g.air && decide (g.vols.length = h.warm.length)) = true by simp [k1, ha, hl])
                have e8 : ((g.vols.length : Int) != (h.warm.length : Int)) = false := by simp [hl]
                have e9 : ((g.vols.length : Int) == (h.warm.length : Int)) = true := by simp [hl]
                clear k1 ha hl
                go_upto_region 15 with (first | (go_at_call 91; (with_reducible refine (f_rangedQ g.time (LT + 1) 1000000 _ K1.out _ _ _ (by simp)).mono ?_); rintro e w9 ⟨rfl, rfl⟩) | (go_at_call 26; (with_reducible refine (f_CheckAir g.air _).mono ?_); rw [HCA.out]; rintro e w9 ⟨rfl, hb9⟩; refine Blk.thru (b := w.heap.size) (arr := ?_) (t := ?_) ?_ hb9 ?_; rotate_left 2; (focus (exact blk)); intro rr; have rrc0 := rr.cell 0; have rrf0 := rr.free 0; have rrc1 := rr.cell 1; have rrf1 := rr.free 1; have rrc2 := rr.cell 2; have rrf2 := rr.free 2; have rrl := rr.lt; simp at rrc0 rrc1 rrc2; refine Blk.thru (b := wr.heap.size) (arr := ?_) (t := ?_) ?_ hb9 ?_; rotate_left 2; (focus (exact blk)); intro rg; have rgc0 := rg.cell 0; have rgf0 := rg.free 0; have rgc1 := rg.cell 1; have rgf1 := rg.free 1; have rgc2 := rg.cell 2; have rgf2 := rg.free 2; have rgc3 := rg.cell 3; have rgf3 := rg.free 3; have rgc4 := rg.cell 4; have rgf4 := rg.free 4; have rgc5 := rg.cell 5; have rgf5 := rg.free 5; have rgl := rg.lt; simp at rgc0 rgc1 rgc2 rgc3 rgc4 rgc5))
                refine at_world (S := fun V => Blk V w.heap.size #[.slice aw h.warm.length cw, .slice (some ⟨b1, o1, none⟩) h.gauges.length cg, .slice af h.flows.length cf] 85 ∧ Blk V wr.heap.size #[.int .i64 g.time, .int .i64 g.air.plo, .int .i64 g.air.phi, .int .i64 g.air.tlo, .int .i64 g.air.thi, .slice va g.vols.length g.vc] 124 ∧ Kept w V) ⟨by (exact blkc), by (exact blkc), by (exact kpt)⟩ ?_
                clear q0 hkk c0 c1 c2 c3 c4 c5 q0c0 q0f0 q0c1 q0f1 q0c2 q0f2 q0l
                rintro V ⟨q0, q6, hkV⟩
                have q6c0 := q6.cell 0
                have q6f0 := q6.free 0
                have q6c1 := q6.cell 1
                have q6f1 := q6.free 1
                have q6c2 := q6.cell 2
                have q6f2 := q6.free 2
                have q6c3 := q6.cell 3
                have q6f3 := q6.free 3
                have q6c4 := q6.cell 4
                have q6f4 := q6.free 4
                have q6c5 := q6.cell 5
                have q6f5 := q6.free 5
                have q6l := q6.lt
                simp at q6c0 q6c1 q6c2 q6c3 q6c4 q6c5
                go_wp2
                go_loopw [77] (fun i wr => ∃ m : Nat, m ≤ g.vols.length ∧ i = .int .i64 m ∧ (∀ c, c < m → volB (vAt g c) = true) ∧ Kept V wr) (fun i _ => g.vols.length - (intOf i).toNat)
                case atStart => exact ⟨0, Nat.zero_le _, rfl, fun c hc => by omega, Below.refl _ _⟩
                case round =>
                  obtain ⟨m, hm, rfl, hall, hkY⟩ := hrel
                  have HALL := Lib.hid hall
                  clear hall
                  by_cases hmv : m < g.vols.length
                  · obtain ⟨bv, ov, rfl, hbv, v0, v1⟩ := Sp.row (HVR.out _ (Kept.drop hkV hkY)) m hmv
                    obtain ⟨x, hx⟩ : ∃ x, x = vAt g m := ⟨_, rfl⟩
                    rw [vAt_get hmv, ← hx] at v0 v1
                    have HX := Lib.hid hx
                    clear hx
                    cases hvb : volB x
                    · have HF := Lib.hid (show histE h = 34 by
                        unfold histE
                        rw [histB_gauge hlt (by
                          rw [HPARTS.out]
                          simp only [Bool.and_eq_false_iff]
                          refine .inr ?_
                          rw [Bool.eq_false_iff]
                          intro hc
                          rw [List.all_eq_true] at hc
                          have := hc _ (List.getElem_mem hmv)
                          rw [vAt_get hmv, ← HX.out, hvb] at this
                          cases this)]
                        rfl)
                      have HV_ := Lib.hid (show spanIn x.lo x.hi 0 10000000 = false from hvb)
                      clear hvb
                      go_wp2_with (go_at_call 88; (with_reducible refine (f_span x.lo x.hi _ _ _).mono ?_); rw [HV_.out]; rintro e w9 ⟨rfl, hb9⟩)
                      go_ret
                      exact ⟨ret_int (by rw [HF.out]), by (exact kpt)⟩
                    · have HVB := Lib.hid hvb
                      have HV_ := Lib.hid (show spanIn x.lo x.hi 0 10000000 = true from hvb)
                      clear hvb
                      go_wp2_with (go_at_call 88; (with_reducible refine (f_span x.lo x.hi _ _ _).mono ?_); rw [HV_.out]; rintro e w9 ⟨rfl, hb9⟩)
                      go_round
                      case rel =>
                        refine ⟨m + 1, by omega, by go_num, fun c hc => ?_, by (exact kpt)⟩
                        by_cases hcm_ : c < m
                        · exact HALL.out c hcm_
                        · obtain rfl : c = m := by omega
                          rw [← HX.out]; exact HVB.out
                      case measure => simp [intOf]; omega
                  · obtain rfl : m = g.vols.length := by omega
                    have HOKK := Lib.hid (show okG h k = true by
                      rw [HPARTS.out, Bool.and_eq_true]
                      refine ⟨HPRE.out, ?_⟩
                      rw [List.all_eq_true]
                      intro v hv
                      obtain ⟨c, hc, rfl⟩ := List.mem_iff_getElem.1 hv
                      rw [vAt_get hc]; exact HALL.out c hc)
                    have z0 := q0.keep hkY
                    have hkz := Kept.drop hkV hkY
                    go_wp2
                    go_round
                    case rel =>
                      refine ⟨k + 1, by omega, by go_num, by rw [HTT.out], fun j hj => ?_, z0, hkz⟩
                      by_cases hjk : j < k
                      · exact HOKS.out j hjk
                      · obtain rfl : j = k := by omega
                        exact HOKK.out
                    case measure => simp [intOf]; omega
              · have HF := Lib.hid (show histE h = 34 by unfold histE; rw [histB_gauge hlt (by rw [HPARTS.out]; simp [hl])]; rfl)
                have e8 : ((g.vols.length : Int) != (h.warm.length : Int)) = true := by simp; omega
                have e9 : ((g.vols.length : Int) == (h.warm.length : Int)) = false := by simp; omega
                clear k1 ha hl
                go_wp2_with (first | (go_at_call 91; (with_reducible refine (f_rangedQ g.time (LT + 1) 1000000 _ K1.out _ _ _ (by simp)).mono ?_); rintro e w9 ⟨rfl, rfl⟩) | (go_at_call 26; (with_reducible refine (f_CheckAir g.air _).mono ?_); rw [HCA.out]; rintro e w9 ⟨rfl, hb9⟩; refine Blk.thru (b := w.heap.size) (arr := ?_) (t := ?_) ?_ hb9 ?_; rotate_left 2; (focus (exact blk)); intro rr; have rrc0 := rr.cell 0; have rrf0 := rr.free 0; have rrc1 := rr.cell 1; have rrf1 := rr.free 1; have rrc2 := rr.cell 2; have rrf2 := rr.free 2; have rrl := rr.lt; simp at rrc0 rrc1 rrc2; refine Blk.thru (b := wr.heap.size) (arr := ?_) (t := ?_) ?_ hb9 ?_; rotate_left 2; (focus (exact blk)); intro rg; have rgc0 := rg.cell 0; have rgf0 := rg.free 0; have rgc1 := rg.cell 1; have rgf1 := rg.free 1; have rgc2 := rg.cell 2; have rgf2 := rg.free 2; have rgc3 := rg.cell 3; have rgf3 := rg.free 3; have rgc4 := rg.cell 4; have rgf4 := rg.free 4; have rgc5 := rg.cell 5; have rgf5 := rg.free 5; have rgl := rg.lt; simp at rgc0 rgc1 rgc2 rgc3 rgc4 rgc5))
                go_ret
                exact ⟨ret_int (by rw [HF.out]), by (exact kpt)⟩
        · obtain rfl : k = h.gauges.length := by omega
          clear hall hk hlt hlb
          go_wp2
          clear q0c0 q0f0 q0c1 q0f1 q0c2 q0f2 q0l
          go_loopw [89] (fun i wr => ∃ k : Nat, k ≤ h.flows.length ∧ i = .int .i64 k ∧ (∀ j (hj : j < h.flows.length), j < k → flowB h.warm.length h.flows[j] = true) ∧ Blk wr w.heap.size #[.slice aw h.warm.length cw, .slice ag h.gauges.length cg, .slice af h.flows.length cf] 85 ∧ Kept w wr) (fun i _ => h.flows.length - (intOf i).toNat)
          case atStart => exact ⟨0, Nat.zero_le _, rfl, fun c _ hc => by omega, q0, hkk⟩
          case round =>
            clear q0 hkk
            obtain ⟨k, hk, rfl, hall, q0, hkk⟩ := hrel
            have HFLS := Lib.hid hall
            clear hall
            have q0c0 := q0.cell 0
            have q0f0 := q0.free 0
            have q0c1 := q0.cell 1
            have q0f1 := q0.free 1
            have q0c2 := q0.cell 2
            have q0f2 := q0.free 2
            have q0l := q0.lt
            simp at q0c0 q0c1 q0c2
            by_cases hlt : k < h.flows.length
            · obtain ⟨b1, o1, rfl, hb1, c0, c1, c2⟩ := Flow.row (R3.out _ hkk) k hlt
              obtain ⟨x, hx⟩ : ∃ x, x = h.flows[k] := ⟨_, rfl⟩
              rw [← hx] at c0 c1 c2
              have HX := Lib.hid hx
              clear hx
              cases t1 : inB x.time 0 1000000
              · have T1 := Lib.hid t1
                have HF := Lib.hid (show histE h = 34 by unfold histE; rw [histB_flow hlt (by rw [← HX.out]; simp [flowB, t1])]; rfl)
                clear t1
                go_wp2_with (go_at_call 91; (with_reducible refine (f_rangedQ x.time 0 1000000 _ T1.out _ _ _ (by simp)).mono ?_); rintro e w9 ⟨rfl, rfl⟩)
                go_ret
                exact ⟨ret_int (by rw [HF.out]), by (exact kpt)⟩
              · have T1 := Lib.hid t1
                cases t2 : inB x.cell 0 (h.warm.length - 1)
                · have T2 := Lib.hid t2
                  have HF := Lib.hid (show histE h = 34 by unfold histE; rw [histB_flow hlt (by rw [← HX.out]; simp [flowB, t2])]; rfl)
                  clear t1 t2
                  go_wp2_with (first | (go_at_call 91; (with_reducible refine (f_rangedQ x.time 0 1000000 _ T1.out _ _ _ (by simp)).mono ?_); rintro e w9 ⟨rfl, rfl⟩) | (go_at_call 91; (with_reducible refine (f_rangedQ x.cell 0 (h.warm.length - 1) _ T2.out _ _ _ (by simp)).mono ?_); rintro e w9 ⟨rfl, rfl⟩))
                  go_ret
                  exact ⟨ret_int (by rw [HF.out]), by (exact kpt)⟩
                · have T2 := Lib.hid t2
                  cases t3 : inB x.n (-10000000) 10000000
                  · have T3 := Lib.hid t3
                    have HF := Lib.hid (show histE h = 34 by unfold histE; rw [histB_flow hlt (by rw [← HX.out]; simp [flowB, t3])]; rfl)
                    clear t1 t2 t3
                    go_wp2_with (first | (go_at_call 91; (with_reducible refine (f_rangedQ x.time 0 1000000 _ T1.out _ _ _ (by simp)).mono ?_); rintro e w9 ⟨rfl, rfl⟩) | (go_at_call 91; (with_reducible refine (f_rangedQ x.cell 0 (h.warm.length - 1) _ T2.out _ _ _ (by simp)).mono ?_); rintro e w9 ⟨rfl, rfl⟩) | (go_at_call 91; (with_reducible refine (f_rangedQ x.n (-10000000) 10000000 _ T3.out _ _ _ (by simp)).mono ?_); rintro e w9 ⟨rfl, rfl⟩))
                    go_ret
                    exact ⟨ret_int (by rw [HF.out]), by (exact kpt)⟩
                  · have T3 := Lib.hid t3
                    have HFL := Lib.hid (show flowB h.warm.length x = true by simp [flowB, t1, t2, t3])
                    clear t1 t2 t3
                    go_wp2_with (first | (go_at_call 91; (with_reducible refine (f_rangedQ x.time 0 1000000 _ T1.out _ _ _ (by simp)).mono ?_); rintro e w9 ⟨rfl, rfl⟩) | (go_at_call 91; (with_reducible refine (f_rangedQ x.cell 0 (h.warm.length - 1) _ T2.out _ _ _ (by simp)).mono ?_); rintro e w9 ⟨rfl, rfl⟩) | (go_at_call 91; (with_reducible refine (f_rangedQ x.n (-10000000) 10000000 _ T3.out _ _ _ (by simp)).mono ?_); rintro e w9 ⟨rfl, rfl⟩))
                    go_round
                    case rel =>
                      refine ⟨k + 1, by omega, by go_num, fun j hj hjk => ?_, by (exact blkc), by (exact kpt)⟩
                      by_cases hjj : j < k
                      · exact HFLS.out j hj hjj
                      · obtain rfl : j = k := by omega
                        rw [← HX.out]; exact HFL.out
                    case measure => simp [intOf]; omega
            · obtain rfl : k = h.flows.length := by omega
              have HT := Lib.hid (show histE h = 0 by unfold histE; rw [histB_true HS.out HWARM.out HOKS.out (fun j hj => HFLS.out j hj hj)]; rfl)
              go_wp2
              go_ret
              exact ⟨ret_int (by rw [HT.out]), by (exact kpt)⟩
theorem f_CheckHistory (h : Hist) (s : Spot) (w : World) (hh : HistAt h s w) : Calls Try.prog 64 #[.agg #[.slice s.aw h.warm.length s.cw, .slice s.ag h.gauges.length s.cg, .slice s.af h.flows.length s.cf]] w fun e w' => e = .returned (.int .i64 (histE h)) ∧ Kept w w' := by
  cases hs : sizesB h
  · exact f_CheckHistory_sizes h s w hh hs
  · exact f_CheckHistory_main h s w hh hs

end Go.Proofs.Ytemafanncejeiaa

/-
  Volumes and fits.
-/
namespace Go.Proofs.Ytemafanncejeiaa
open Go.RowKit Bal Bal.Trim Bal.Gas
set_option linter.unusedVariables false
set_option linter.unusedSimpArgs false
set_option maxHeartbeats 400000

theorem f_put_air (c : Cell) (a : Air) (w : World) (hv : cellB c = true) (ha : airB a = false) :
    Calls Try.prog 80 #[.agg #[.int .i64 c.room, .int .i64 c.helium, .int .i64 c.air, .int .i64 c.wlo, .int .i64 c.whi, .int .i64 c.leak, .int .i64 c.owed], .agg #[.int .i64 a.plo, .int .i64 a.phi, .int .i64 a.tlo, .int .i64 a.thi]] w fun e w' => e = .returned (.tuple #[.agg #[.int .i64 c.room, .int .i64 c.helium, .int .i64 c.air, .int .i64 c.wlo, .int .i64 c.whi, .int .i64 c.leak, .int .i64 c.owed, .int .i64 a.plo, .int .i64 a.phi, .int .i64 a.tlo, .int .i64 a.thi, .int .i64 (amount c), .int .i64 (wrap64 (a.tlo + c.wlo)), .int .i64 (wrap64 (a.thi + c.whi))], .int .i64 30]) ∧ Kept w w' := by
  have := f_put_ok c a w hv
  rwa [show checkAir a = 30 by simp [checkAir, ha]] at this

theorem f_Volume_bad (c : Cell) (a : Air) (w : World) (hv : cellB c = false) :
    Calls Try.prog 22 #[.agg #[.int .i64 c.room, .int .i64 c.helium, .int .i64 c.air, .int .i64 c.wlo, .int .i64 c.whi, .int .i64 c.leak, .int .i64 c.owed], .agg #[.int .i64 a.plo, .int .i64 a.phi, .int .i64 a.tlo, .int .i64 a.thi]] w fun e w' => e = .returned (.tuple #[.agg #[.int .i64 0, .int .i64 0], .int .i64 31]) ∧ Kept w w' := by
  go_enter Try.func22, Try.ntmps22
  go_wp2_with (go_at_call 80; (with_reducible refine (f_put_bad c a _ hv).mono ?_); rintro e w1 ⟨rfl, hb1⟩; obtain ⟨hc1, hf1, hl1⟩ := bcell3 hb1)
  exact bodyPost_ret (v := .tuple #[.agg #[.int .i64 0, .int .i64 0], .int .i64 31]) (by simp [results, Try.results22, go_sem, hc1, hf1, hl1]) rfl ⟨rfl, by (exact kpt)⟩

theorem f_Volume_air (c : Cell) (a : Air) (w : World) (hv : cellB c = true) (ha : airB a = false) :
    Calls Try.prog 22 #[.agg #[.int .i64 c.room, .int .i64 c.helium, .int .i64 c.air, .int .i64 c.wlo, .int .i64 c.whi, .int .i64 c.leak, .int .i64 c.owed], .agg #[.int .i64 a.plo, .int .i64 a.phi, .int .i64 a.tlo, .int .i64 a.thi]] w fun e w' => e = .returned (.tuple #[.agg #[.int .i64 0, .int .i64 0], .int .i64 30]) ∧ Kept w w' := by
  go_enter Try.func22, Try.ntmps22
  go_wp2_with (go_at_call 80; (with_reducible refine (f_put_air c a _ hv ha).mono ?_); rintro e w1 ⟨rfl, hb1⟩; obtain ⟨hc1, hf1, hl1⟩ := bcell3 hb1)
  exact bodyPost_ret (v := .tuple #[.agg #[.int .i64 0, .int .i64 0], .int .i64 30]) (by simp [results, Try.results22, go_sem, hc1, hf1, hl1]) rfl ⟨rfl, by (exact kpt)⟩

theorem f_Volume_ok (c : Cell) (a : Air) (w : World) (hv : cellB c = true) (ha : airB a = true) :
    Calls Try.prog 22 #[.agg #[.int .i64 c.room, .int .i64 c.helium, .int .i64 c.air, .int .i64 c.wlo, .int .i64 c.whi, .int .i64 c.leak, .int .i64 c.owed], .agg #[.int .i64 a.plo, .int .i64 a.phi, .int .i64 a.tlo, .int .i64 a.thi]] w fun e w' => e = .returned (.tuple #[.agg #[.int .i64 (volLo c a), .int .i64 (volHi c a)], .int .i64 0]) ∧ Kept w w' := by
  obtain ⟨n0, n1, ⟨p0, p1, p2⟩, q0, q1, q2, q3⟩ := prod_bd hv ha
  obtain ⟨⟨h7, h8, h9⟩, h10⟩ := airB_iff.1 ha
  have E1 := Lib.hid (vol_lo hv ha)
  have E2 := Lib.hid (vol_hi hv ha)
  have K1 := Lib.hid (show ratioOk ⟨amount c * heatLo c a, a.phi⟩ from ⟨by simp; omega, by simp; omega, by simp; omega, by simp; omega⟩)
  have K2 := Lib.hid (show ratioOk ⟨amount c * heatHi c a, a.plo⟩ from ⟨by simp; omega, by simp; omega, by simp; omega, by simp; omega⟩)
  have HV := Lib.hid hv
  have HA := Lib.hid ha
  clear hv ha
  go_enter Try.func22, Try.ntmps22
  go_wp2_with (first | (go_at_call 80; (with_reducible refine (f_put_good c a _ HV.out HA.out).mono ?_); rintro e w1 ⟨rfl, hb1⟩; obtain ⟨hc1, hf1, hl1⟩ := bcell3 hb1) | (go_at_call 81; (with_reducible refine (f_least2 ⟨amount c * heatLo c a, a.phi⟩ ⟨amount c * heatHi c a, a.plo⟩ _ _ _ (by simp) K1.out K2.out).mono ?_); rintro e w1 ⟨rfl, hb1⟩; obtain ⟨hc1, hf1, hl1⟩ := bcell3 hb1; refine Blk.thru (b := w.heap.size + 1 + 1) (arr := ?_) (t := ?_) ?_ hb1 ?_; rotate_left 2; (focus (exact blk)); intro qq; have qqc0 := qq.cell 0; have qqf0 := qq.free 0; have qqc1 := qq.cell 1; have qqf1 := qq.free 1; have qql := qq.lt; simp at qqc0 qqc1))
  exact bodyPost_ret (v := .tuple #[.agg #[.int .i64 (leastLo [⟨amount c * heatLo c a, a.phi⟩, ⟨amount c * heatHi c a, a.plo⟩]), .int .i64 (leastHi [⟨amount c * heatLo c a, a.phi⟩, ⟨amount c * heatHi c a, a.plo⟩])], .int .i64 0]) (by simp [results, Try.results22, go_sem, qqc0, qqc1, qqf0, qqf1]) rfl ⟨by rw [E1.out, E2.out], by (exact kpt)⟩

theorem f_Fits_bad (c : Cell) (a : Air) (w : World) (hv : cellB c = false) :
    Calls Try.prog 24 #[.agg #[.int .i64 c.room, .int .i64 c.helium, .int .i64 c.air, .int .i64 c.wlo, .int .i64 c.whi, .int .i64 c.leak, .int .i64 c.owed], .agg #[.int .i64 a.plo, .int .i64 a.phi, .int .i64 a.tlo, .int .i64 a.thi]] w fun e w' => e = .returned (.tuple #[.int .u8 0, .int .i64 31]) ∧ Kept w w' := by
  go_enter Try.func24, Try.ntmps24
  go_wp2_with (go_at_call 80; (with_reducible refine (f_put_bad c a _ hv).mono ?_); rintro e w1 ⟨rfl, hb1⟩; obtain ⟨hc1, hf1, hl1⟩ := bcell3 hb1)
  first | (go_ret; exact ⟨rfl, by (exact kpt)⟩) | exact bodyPost_ret (v := .tuple #[.int .u8 0, .int .i64 31]) (by simp [results, Try.results24, go_sem, hc1, hf1, hl1]) rfl ⟨rfl, by (exact kpt)⟩

theorem f_Fits_air (c : Cell) (a : Air) (w : World) (hv : cellB c = true) (ha : airB a = false) :
    Calls Try.prog 24 #[.agg #[.int .i64 c.room, .int .i64 c.helium, .int .i64 c.air, .int .i64 c.wlo, .int .i64 c.whi, .int .i64 c.leak, .int .i64 c.owed], .agg #[.int .i64 a.plo, .int .i64 a.phi, .int .i64 a.tlo, .int .i64 a.thi]] w fun e w' => e = .returned (.tuple #[.int .u8 0, .int .i64 30]) ∧ Kept w w' := by
  go_enter Try.func24, Try.ntmps24
  go_wp2_with (go_at_call 80; (with_reducible refine (f_put_air c a _ hv ha).mono ?_); rintro e w1 ⟨rfl, hb1⟩; obtain ⟨hc1, hf1, hl1⟩ := bcell3 hb1)
  first | (go_ret; exact ⟨rfl, by (exact kpt)⟩) | exact bodyPost_ret (v := .tuple #[.int .u8 0, .int .i64 30]) (by simp [results, Try.results24, go_sem, hc1, hf1, hl1]) rfl ⟨rfl, by (exact kpt)⟩

theorem f_Fits_ok (c : Cell) (a : Air) (w : World) (hv : cellB c = true) (ha : airB a = true) :
    Calls Try.prog 24 #[.agg #[.int .i64 c.room, .int .i64 c.helium, .int .i64 c.air, .int .i64 c.wlo, .int .i64 c.whi, .int .i64 c.leak, .int .i64 c.owed], .agg #[.int .i64 a.plo, .int .i64 a.phi, .int .i64 a.tlo, .int .i64 a.thi]] w fun e w' => e = .returned (.tuple #[.int .u8 (state c a), .int .i64 0]) ∧ Kept w w' := by
  obtain ⟨n0, n1, ⟨p0, p1, p2⟩, q0, q1, q2, q3⟩ := prod_bd hv ha
  have HV := Lib.hid hv
  have HA := Lib.hid ha
  clear hv ha
  by_cases c1 : amount c * heatHi c a ≤ c.room * a.plo <;> by_cases c2 : c.room * a.phi < amount c * heatLo c a
  all_goals
    unfold state
    simp only [c1, c2, if_true, if_false]
    go_enter Try.func24, Try.ntmps24
    go_wp2_with (go_at_call 80; (with_reducible refine (f_put_good c a _ HV.out HA.out).mono ?_); rintro e w1 ⟨rfl, hb1⟩; obtain ⟨hc1, hf1, hl1⟩ := bcell3 hb1)
    exact bodyPost_ret (by simp [results, Try.results24, go_sem]) rfl ⟨rfl, by (exact kpt)⟩

end Go.Proofs.Ytemafanncejeiaa

/-
  Ceilings and valving.
-/
namespace Go.Proofs.Ytemafanncejeiaa
open Go.RowKit Bal Bal.Trim Bal.Gas
set_option linter.unusedVariables false
set_option linter.unusedSimpArgs false
set_option maxHeartbeats 800000

set_option maxRecDepth 10000
theorem i64_in {n : Int} (h : -9223372036854775808 ≤ n ∧ n ≤ 9223372036854775807) : IntKind.i64.wrap n = n := by rw [IntKind.wrap_i64]; have := w64_in n h; unfold wrap64 at this; omega

theorem f_heated_ok (x y u v : Int) (w : World) (h : -1000000 ≤ x ∧ x ≤ 1000000 ∧ -1000000 ≤ y ∧ y ≤ 1000000 ∧ -1000000 ≤ u ∧ u ≤ 1000000 ∧ -1000000 ≤ v ∧ v ≤ 1000000) :
    Calls Try.prog 93 #[.agg #[.int .i64 x, .int .i64 y], .agg #[.int .i64 u, .int .i64 v]] w fun e w' => e = .returned (.agg #[.int .i64 (x + u), .int .i64 (y + v)]) ∧ Kept w w' := by
  have := f_heated x y u v w
  rwa [w64_in (x + u) (by omega), w64_in (y + v) (by omega)] at this

theorem f_Ceiling_bad (c : Cell) (x y : Int) (w : World) (hv : cellB c = false) :
    Calls Try.prog 32 #[.agg #[.int .i64 c.room, .int .i64 c.helium, .int .i64 c.air, .int .i64 c.wlo, .int .i64 c.whi, .int .i64 c.leak, .int .i64 c.owed], .agg #[.int .i64 (x), .int .i64 (y)]] w fun e w' => e = .returned (.tuple #[.agg #[.int .i64 0, .int .i64 0], .int .i64 31]) ∧ Kept w w' := by
  have HC := Lib.hid (show checkCell c = 31 by unfold checkCell; rw [hv]; rfl)
  skip
  clear hv
  go_enter Try.func32, Try.ntmps32
  go_wp2_with (first | (go_at_call 28; (with_reducible refine (f_CheckCell c _).mono ?_); rw [HC.out]; rintro e w1 ⟨rfl, hb1⟩; obtain ⟨hc1, hf1, hl1⟩ := bcell3 hb1; refine Blk.thru (b := w.heap.size + 1 + 1) (arr := ?_) (t := ?_) ?_ hb1 ?_; rotate_left 2; (focus (exact blk)); intro qq; have qqc0 := qq.cell 0; have qqf0 := qq.free 0; have qqc1 := qq.cell 1; have qqf1 := qq.free 1; have qql := qq.lt; simp at qqc0 qqc1; refine Blk.thru (b := w.heap.size) (arr := ?_) (t := ?_) ?_ hb1 ?_; rotate_left 2; (focus (exact blk)); intro qa; have qac0 := qa.cell 0; have qaf0 := qa.free 0; have qac1 := qa.cell 1; have qaf1 := qa.free 1; have qac2 := qa.cell 2; have qaf2 := qa.free 2; have qac3 := qa.cell 3; have qaf3 := qa.free 3; have qac4 := qa.cell 4; have qaf4 := qa.free 4; have qac5 := qa.cell 5; have qaf5 := qa.free 5; have qac6 := qa.cell 6; have qaf6 := qa.free 6; have qal := qa.lt; simp at qac0 qac1 qac2 qac3 qac4 qac5 qac6; refine Blk.thru (b := w.heap.size + 1) (arr := ?_) (t := ?_) ?_ hb1 ?_; rotate_left 2; (focus (exact blk)); intro qb; have qbc0 := qb.cell 0; have qbf0 := qb.free 0; have qbc1 := qb.cell 1; have qbf1 := qb.free 1; have qbl := qb.lt; simp at qbc0 qbc1) | fail)
  exact bodyPost_ret (v := .tuple #[.agg #[.int .i64 0, .int .i64 0], .int .i64 31]) (by simp [results, Try.results32, go_sem, qqc0, qqc1, qqf0, qqf1]) rfl ⟨rfl, by (exact kpt)⟩

theorem f_Ceiling_arg (c : Cell) (x y : Int) (w : World) (hv : cellB c = true) (hs : spanIn x y 1500 3500 = false) :
    Calls Try.prog 32 #[.agg #[.int .i64 c.room, .int .i64 c.helium, .int .i64 c.air, .int .i64 c.wlo, .int .i64 c.whi, .int .i64 c.leak, .int .i64 c.owed], .agg #[.int .i64 (x), .int .i64 (y)]] w fun e w' => e = .returned (.tuple #[.agg #[.int .i64 0, .int .i64 0], .int .i64 2]) ∧ Kept w w' := by
  have HC := Lib.hid (show checkCell c = 0 by unfold checkCell; rw [hv]; rfl)
  have HS := Lib.hid hs
  clear hv hs
  go_enter Try.func32, Try.ntmps32
  go_wp2_with (first | (go_at_call 28; (with_reducible refine (f_CheckCell c _).mono ?_); rw [HC.out]; rintro e w1 ⟨rfl, hb1⟩; obtain ⟨hc1, hf1, hl1⟩ := bcell3 hb1; refine Blk.thru (b := w.heap.size + 1 + 1) (arr := ?_) (t := ?_) ?_ hb1 ?_; rotate_left 2; (focus (exact blk)); intro qq; have qqc0 := qq.cell 0; have qqf0 := qq.free 0; have qqc1 := qq.cell 1; have qqf1 := qq.free 1; have qql := qq.lt; simp at qqc0 qqc1; refine Blk.thru (b := w.heap.size) (arr := ?_) (t := ?_) ?_ hb1 ?_; rotate_left 2; (focus (exact blk)); intro qa; have qac0 := qa.cell 0; have qaf0 := qa.free 0; have qac1 := qa.cell 1; have qaf1 := qa.free 1; have qac2 := qa.cell 2; have qaf2 := qa.free 2; have qac3 := qa.cell 3; have qaf3 := qa.free 3; have qac4 := qa.cell 4; have qaf4 := qa.free 4; have qac5 := qa.cell 5; have qaf5 := qa.free 5; have qac6 := qa.cell 6; have qaf6 := qa.free 6; have qal := qa.lt; simp at qac0 qac1 qac2 qac3 qac4 qac5 qac6; refine Blk.thru (b := w.heap.size + 1) (arr := ?_) (t := ?_) ?_ hb1 ?_; rotate_left 2; (focus (exact blk)); intro qb; have qbc0 := qb.cell 0; have qbf0 := qb.free 0; have qbc1 := qb.cell 1; have qbf1 := qb.free 1; have qbl := qb.lt; simp at qbc0 qbc1) | (go_at_call 89; (with_reducible refine (f_temps x y _).mono ?_); rw [HS.out]; rintro e w1 ⟨rfl, hb1⟩; obtain ⟨hc1, hf1, hl1⟩ := bcell3 hb1; refine Blk.thru (b := w.heap.size + 1 + 1) (arr := ?_) (t := ?_) ?_ hb1 ?_; rotate_left 2; (focus (exact blk)); intro qq; have qqc0 := qq.cell 0; have qqf0 := qq.free 0; have qqc1 := qq.cell 1; have qqf1 := qq.free 1; have qql := qq.lt; simp at qqc0 qqc1; refine Blk.thru (b := w.heap.size) (arr := ?_) (t := ?_) ?_ hb1 ?_; rotate_left 2; (focus (exact blk)); intro qa; have qac0 := qa.cell 0; have qaf0 := qa.free 0; have qac1 := qa.cell 1; have qaf1 := qa.free 1; have qac2 := qa.cell 2; have qaf2 := qa.free 2; have qac3 := qa.cell 3; have qaf3 := qa.free 3; have qac4 := qa.cell 4; have qaf4 := qa.free 4; have qac5 := qa.cell 5; have qaf5 := qa.free 5; have qac6 := qa.cell 6; have qaf6 := qa.free 6; have qal := qa.lt; simp at qac0 qac1 qac2 qac3 qac4 qac5 qac6; refine Blk.thru (b := w.heap.size + 1) (arr := ?_) (t := ?_) ?_ hb1 ?_; rotate_left 2; (focus (exact blk)); intro qb; have qbc0 := qb.cell 0; have qbf0 := qb.free 0; have qbc1 := qb.cell 1; have qbf1 := qb.free 1; have qbl := qb.lt; simp at qbc0 qbc1))
  exact bodyPost_ret (v := .tuple #[.agg #[.int .i64 0, .int .i64 0], .int .i64 2]) (by simp [results, Try.results32, go_sem, qqc0, qqc1, qqf0, qqf1]) rfl ⟨rfl, by (exact kpt)⟩

theorem f_Ceiling_ok (c : Cell) (x y : Int) (w : World) (hv : cellB c = true) (hs : spanIn x y 1500 3500 = true) :
    Calls Try.prog 32 #[.agg #[.int .i64 c.room, .int .i64 c.helium, .int .i64 c.air, .int .i64 c.wlo, .int .i64 c.whi, .int .i64 c.leak, .int .i64 c.owed], .agg #[.int .i64 (x), .int .i64 (y)]] w fun e w' => e = .returned (.tuple #[.agg #[.int .i64 (ceilLo c x), .int .i64 (ceilHi c y)], .int .i64 0]) ∧ Kept w w' := by
  obtain ⟨⟨n0, n1⟩, p0, p1, p2⟩ := ceil_bd hv hs
  obtain ⟨⟨v1, v2⟩, ⟨u1, u2⟩, ⟨u6, u7⟩, _, _, u3, u4, u5⟩ := cellB_iff.1 hv
  obtain ⟨s1, s2, s3⟩ := spanIn_iff.1 hs
  have HB := Lib.hid (show -1000000 ≤ x ∧ x ≤ 1000000 ∧ -1000000 ≤ y ∧ y ≤ 1000000 ∧ -1000000 ≤ c.wlo ∧ c.wlo ≤ 1000000 ∧ -1000000 ≤ c.whi ∧ c.whi ≤ 1000000 by omega)
  have K1 := Lib.hid (show ratioOk ⟨amount c * (x + c.wlo), c.room⟩ from ⟨by simp; omega, by simp; omega, by simp; omega, by simp; omega⟩)
  have K2 := Lib.hid (show ratioOk ⟨amount c * (y + c.whi), c.room⟩ from ⟨by simp; omega, by simp; omega, by simp; omega, by simp; omega⟩)
  have E1 := Lib.hid (ceil_lo hv hs)
  have E2 := Lib.hid (ceil_hi hv hs)
  have HW := i64_in (n := c.helium + c.air) (by omega)
  have HC := Lib.hid (show checkCell c = 0 by unfold checkCell; rw [hv]; rfl)
  have HS := Lib.hid hs
  clear hv hs
  go_enter Try.func32, Try.ntmps32
  go_wp2_with (first | (go_at_call 28; (with_reducible refine (f_CheckCell c _).mono ?_); rw [HC.out]; rintro e w1 ⟨rfl, hb1⟩; obtain ⟨hc1, hf1, hl1⟩ := bcell3 hb1; refine Blk.thru (b := w.heap.size + 1 + 1) (arr := ?_) (t := ?_) ?_ hb1 ?_; rotate_left 2; (focus (exact blk)); intro qq; have qqc0 := qq.cell 0; have qqf0 := qq.free 0; have qqc1 := qq.cell 1; have qqf1 := qq.free 1; have qql := qq.lt; simp at qqc0 qqc1; refine Blk.thru (b := w.heap.size) (arr := ?_) (t := ?_) ?_ hb1 ?_; rotate_left 2; (focus (exact blk)); intro qa; have qac0 := qa.cell 0; have qaf0 := qa.free 0; have qac1 := qa.cell 1; have qaf1 := qa.free 1; have qac2 := qa.cell 2; have qaf2 := qa.free 2; have qac3 := qa.cell 3; have qaf3 := qa.free 3; have qac4 := qa.cell 4; have qaf4 := qa.free 4; have qac5 := qa.cell 5; have qaf5 := qa.free 5; have qac6 := qa.cell 6; have qaf6 := qa.free 6; have qal := qa.lt; simp at qac0 qac1 qac2 qac3 qac4 qac5 qac6; refine Blk.thru (b := w.heap.size + 1) (arr := ?_) (t := ?_) ?_ hb1 ?_; rotate_left 2; (focus (exact blk)); intro qb; have qbc0 := qb.cell 0; have qbf0 := qb.free 0; have qbc1 := qb.cell 1; have qbf1 := qb.free 1; have qbl := qb.lt; simp at qbc0 qbc1) | (go_at_call 89; (with_reducible refine (f_temps x y _).mono ?_); rw [HS.out]; rintro e w1 ⟨rfl, hb1⟩; obtain ⟨hc1, hf1, hl1⟩ := bcell3 hb1; refine Blk.thru (b := w.heap.size + 1 + 1) (arr := ?_) (t := ?_) ?_ hb1 ?_; rotate_left 2; (focus (exact blk)); intro qq; have qqc0 := qq.cell 0; have qqf0 := qq.free 0; have qqc1 := qq.cell 1; have qqf1 := qq.free 1; have qql := qq.lt; simp at qqc0 qqc1; refine Blk.thru (b := w.heap.size) (arr := ?_) (t := ?_) ?_ hb1 ?_; rotate_left 2; (focus (exact blk)); intro qa; have qac0 := qa.cell 0; have qaf0 := qa.free 0; have qac1 := qa.cell 1; have qaf1 := qa.free 1; have qac2 := qa.cell 2; have qaf2 := qa.free 2; have qac3 := qa.cell 3; have qaf3 := qa.free 3; have qac4 := qa.cell 4; have qaf4 := qa.free 4; have qac5 := qa.cell 5; have qaf5 := qa.free 5; have qac6 := qa.cell 6; have qaf6 := qa.free 6; have qal := qa.lt; simp at qac0 qac1 qac2 qac3 qac4 qac5 qac6; refine Blk.thru (b := w.heap.size + 1) (arr := ?_) (t := ?_) ?_ hb1 ?_; rotate_left 2; (focus (exact blk)); intro qb; have qbc0 := qb.cell 0; have qbf0 := qb.free 0; have qbc1 := qb.cell 1; have qbf1 := qb.free 1; have qbl := qb.lt; simp at qbc0 qbc1))
  go_upto_region 6 with fail
  refine at_world (S := fun W => Blk W w.heap.size #[.int .i64 c.room, .int .i64 c.helium, .int .i64 c.air, .int .i64 c.wlo, .int .i64 c.whi, .int .i64 c.leak, .int .i64 c.owed] 25 ∧ Blk W (w.heap.size + 1) #[.int .i64 x, .int .i64 y] 23 ∧ Blk W (w.heap.size + 1 + 1) #[.int .i64 0, .int .i64 0] 23 ∧ Kept w W) ⟨by (exact blk), by (exact blk), by (exact blk), by (exact kpt)⟩ ?_
  clear hc1 hf1 hl1 qqc0 qqc1 qqf0 qqf1 qql
  rintro W ⟨r0, r1, r2, hk⟩
  have r0k0 : ∀ w', Kept W w' → w'.cell? ⟨w.heap.size, 0, none⟩ = _ := fun w' h => (r0.keep h).cell 0
  have r0k1 : ∀ w', Kept W w' → w'.cell? ⟨w.heap.size, 1, none⟩ = _ := fun w' h => (r0.keep h).cell 1
  have r0k2 : ∀ w', Kept W w' → w'.cell? ⟨w.heap.size, 2, none⟩ = _ := fun w' h => (r0.keep h).cell 2
  have r0k3 : ∀ w', Kept W w' → w'.cell? ⟨w.heap.size, 3, none⟩ = _ := fun w' h => (r0.keep h).cell 3
  have r0k4 : ∀ w', Kept W w' → w'.cell? ⟨w.heap.size, 4, none⟩ = _ := fun w' h => (r0.keep h).cell 4
  have r0k5 : ∀ w', Kept W w' → w'.cell? ⟨w.heap.size, 5, none⟩ = _ := fun w' h => (r0.keep h).cell 5
  have r0k6 : ∀ w', Kept W w' → w'.cell? ⟨w.heap.size, 6, none⟩ = _ := fun w' h => (r0.keep h).cell 6
  simp at r0k0 r0k1 r0k2 r0k3 r0k4 r0k5 r0k6
  have r1k0 : ∀ w', Kept W w' → w'.cell? ⟨w.heap.size + 1, 0, none⟩ = _ := fun w' h => (r1.keep h).cell 0
  have r1k1 : ∀ w', Kept W w' → w'.cell? ⟨w.heap.size + 1, 1, none⟩ = _ := fun w' h => (r1.keep h).cell 1
  simp at r1k0 r1k1
  go_cut [7, 8] (fun s7 s8 wx => ∃ g, s7 = .int .i64 (amount c) ∧ s8 = .pointer (some ⟨g, 0, none⟩) ∧ Blk wx g #[.int .i64 (x + c.wlo), .int .i64 (y + c.whi)] 23 ∧ Blk wx w.heap.size #[.int .i64 c.room, .int .i64 c.helium, .int .i64 c.air, .int .i64 c.wlo, .int .i64 c.whi, .int .i64 c.leak, .int .i64 c.owed] 25 ∧ Blk wx (w.heap.size + 1 + 1) #[.int .i64 0, .int .i64 0] 23 ∧ Kept w wx)
  case first =>
    go_region_held3 (fun w' => Kept W w') (exact kpt) (first | (go_at_call 93; (with_reducible refine (f_heated_ok x y c.wlo c.whi _ HB.out).mono ?_); rintro e w1 ⟨rfl, hb1⟩; obtain ⟨hc1, hf1, hl1⟩ := bcell3 hb1))
    all_goals (go_wp2_with fail; go_meet)
    all_goals
      refine ⟨_, by first | rfl | (rw [HW]; rfl), rfl, ?_, ?_, ?_, ?_⟩
      · (exact blkc)
      · (exact blkc)
      · (exact blkc)
      · (exact kpt)
  case rest =>
    clear r0k0 r0k1 r0k2 r0k3 r0k4 r0k5 r0k6 r1k0 r1k1 r0 r1 r2 hk
    obtain ⟨g, rfl, rfl, p1, p0, p2, hk⟩ := hcut
    have p1c0 := p1.cell 0
    have p1f0 := p1.free 0
    have p1c1 := p1.cell 1
    have p1f1 := p1.free 1
    have p1l := p1.lt
    simp at p1c0 p1c1
    have p0c0 := p0.cell 0
    have p0f0 := p0.free 0
    have p0c1 := p0.cell 1
    have p0f1 := p0.free 1
    have p0c2 := p0.cell 2
    have p0f2 := p0.free 2
    have p0c3 := p0.cell 3
    have p0f3 := p0.free 3
    have p0c4 := p0.cell 4
    have p0f4 := p0.free 4
    have p0c5 := p0.cell 5
    have p0f5 := p0.free 5
    have p0c6 := p0.cell 6
    have p0f6 := p0.free 6
    have p0l := p0.lt
    simp at p0c0 p0c1 p0c2 p0c3 p0c4 p0c5 p0c6
    have p2c0 := p2.cell 0
    have p2f0 := p2.free 0
    have p2c1 := p2.cell 1
    have p2f1 := p2.free 1
    have p2l := p2.lt
    simp at p2c0 p2c1
    go_wp2_with (go_at_call 81; (with_reducible refine (f_least2 ⟨amount c * (x + c.wlo), c.room⟩ ⟨amount c * (y + c.whi), c.room⟩ _ _ _ (by simp) K1.out K2.out).mono ?_); rintro e w1 ⟨rfl, hb1⟩; obtain ⟨hc1, hf1, hl1⟩ := bcell3 hb1; refine Blk.thru (b := w.heap.size + 1 + 1) (arr := ?_) (t := ?_) ?_ hb1 ?_; rotate_left 2; (focus (exact blk)); intro qq; have qqc0 := qq.cell 0; have qqf0 := qq.free 0; have qqc1 := qq.cell 1; have qqf1 := qq.free 1; have qql := qq.lt; simp at qqc0 qqc1)
    exact bodyPost_ret (v := .tuple #[.agg #[.int .i64 (leastLo [⟨amount c * (x + c.wlo), c.room⟩, ⟨amount c * (y + c.whi), c.room⟩]), .int .i64 (leastHi [⟨amount c * (x + c.wlo), c.room⟩, ⟨amount c * (y + c.whi), c.room⟩])], .int .i64 0]) (by simp [results, Try.results32, go_sem, qqc0, qqc1, qqf0, qqf1]) rfl ⟨by rw [E1.out, E2.out], by (exact kpt)⟩

theorem f_Valving_bad (c : Cell) (a : Air) (w : World) (hv : cellB c = false) :
    Calls Try.prog 34 #[.agg #[.int .i64 c.room, .int .i64 c.helium, .int .i64 c.air, .int .i64 c.wlo, .int .i64 c.whi, .int .i64 c.leak, .int .i64 c.owed], .agg #[.int .i64 a.plo, .int .i64 a.phi, .int .i64 a.tlo, .int .i64 a.thi]] w fun e w' => e = .returned (.tuple #[.agg #[.int .i64 0, .int .i64 0], .int .i64 31]) ∧ Kept w w' := by
  go_enter Try.func34, Try.ntmps34
  go_wp2_with (go_at_call 80; (with_reducible refine (f_put_bad c a _ hv).mono ?_); rintro e w1 ⟨rfl, hb1⟩; obtain ⟨hc1, hf1, hl1⟩ := bcell3 hb1)
  exact bodyPost_ret (v := .tuple #[.agg #[.int .i64 0, .int .i64 0], .int .i64 31]) (by simp [results, Try.results34, go_sem, hc1, hf1, hl1]) rfl ⟨rfl, by (exact kpt)⟩

theorem f_Valving_air (c : Cell) (a : Air) (w : World) (hv : cellB c = true) (ha : airB a = false) :
    Calls Try.prog 34 #[.agg #[.int .i64 c.room, .int .i64 c.helium, .int .i64 c.air, .int .i64 c.wlo, .int .i64 c.whi, .int .i64 c.leak, .int .i64 c.owed], .agg #[.int .i64 a.plo, .int .i64 a.phi, .int .i64 a.tlo, .int .i64 a.thi]] w fun e w' => e = .returned (.tuple #[.agg #[.int .i64 0, .int .i64 0], .int .i64 30]) ∧ Kept w w' := by
  go_enter Try.func34, Try.ntmps34
  go_wp2_with (go_at_call 80; (with_reducible refine (f_put_air c a _ hv ha).mono ?_); rintro e w1 ⟨rfl, hb1⟩; obtain ⟨hc1, hf1, hl1⟩ := bcell3 hb1)
  exact bodyPost_ret (v := .tuple #[.agg #[.int .i64 0, .int .i64 0], .int .i64 30]) (by simp [results, Try.results34, go_sem, hc1, hf1, hl1]) rfl ⟨rfl, by (exact kpt)⟩

set_option maxHeartbeats 4000000 in
theorem f_Valving_ok (c : Cell) (a : Air) (w : World) (hv : cellB c = true) (ha : airB a = true) :
    Calls Try.prog 34 #[.agg #[.int .i64 c.room, .int .i64 c.helium, .int .i64 c.air, .int .i64 c.wlo, .int .i64 c.whi, .int .i64 c.leak, .int .i64 c.owed], .agg #[.int .i64 a.plo, .int .i64 a.phi, .int .i64 a.tlo, .int .i64 a.thi]] w fun e w' => e = .returned (.tuple #[.agg #[.int .i64 (valveLo c a), .int .i64 (valveHi c a)], .int .i64 0]) ∧ Kept w w' := by
  obtain ⟨n0, n1, _, q0, q1, q2, q3⟩ := prod_bd hv ha
  obtain ⟨⟨h7, h8, h9⟩, h10, h11, h12⟩ := airB_iff.1 ha
  obtain ⟨⟨v1, v2⟩, _, _, _, _, u3, u4, u5⟩ := cellB_iff.1 hv
  have t1 : 0 < heatLo c a ∧ heatLo c a ≤ 4000 := by unfold heatLo; omega
  have t2 : 0 < heatHi c a ∧ heatHi c a ≤ 4000 := by unfold heatHi; omega
  have d1 : -120000000000 ≤ down ⟨c.room * a.phi, heatLo c a⟩ ∧ down ⟨c.room * a.phi, heatLo c a⟩ ≤ 120000000000 := div_bd (N := 120000000000) (a := c.room * a.phi) (by omega) q3 t1.1 (by omega)
  have d2 : -120000000000 ≤ down ⟨c.room * a.plo, heatHi c a⟩ ∧ down ⟨c.room * a.plo, heatHi c a⟩ ≤ 120000000000 := div_bd (N := 120000000000) (a := c.room * a.plo) (by omega) q1 t2.1 (by omega)
  have K1 := Lib.hid (show 0 < heatLo c a ∧ heatLo c a ≤ 1000000000000000 ∧ -1000000000000000 ≤ c.room * a.phi ∧ c.room * a.phi ≤ 1000000000000000 by omega)
  have K2 := Lib.hid (show 0 < heatHi c a ∧ heatHi c a ≤ 1000000000000000 ∧ -1000000000000000 ≤ c.room * a.plo ∧ c.room * a.plo ≤ 1000000000000000 by omega)
  obtain ⟨D1, hD1⟩ : ∃ D, D = down ⟨c.room * a.phi, heatLo c a⟩ := ⟨_, rfl⟩
  obtain ⟨D2, hD2⟩ : ∃ D, D = down ⟨c.room * a.plo, heatHi c a⟩ := ⟨_, rfl⟩
  have F1 := Lib.hid (fun w => f_down ⟨c.room * a.phi, heatLo c a⟩ w K1.out.1 K1.out.2.1 K1.out.2.2.1 K1.out.2.2.2)
  have F2 := Lib.hid (fun w => f_down ⟨c.room * a.plo, heatHi c a⟩ w K2.out.1 K2.out.2.1 K2.out.2.2.1 K2.out.2.2.2)
  rw [← hD1] at d1 F1
  rw [← hD2] at d2 F2
  have e1 : valveLo c a = (max (amount c - D1) 0) := by rw [hD1]; rfl
  have e2 : valveHi c a = (max (amount c - D2) 0) := by rw [hD2]; rfl
  rw [e1, e2]
  clear e1 e2 hD1 hD2 K1 K2
  have HW1 := i64_in (n := c.room * a.phi) (by omega)
  have HW2 := i64_in (n := c.room * a.plo) (by omega)
  have HV := Lib.hid hv
  have HA := Lib.hid ha
  clear hv ha
  go_enter Try.func34, Try.ntmps34
  go_wp2_with (go_at_call 80; (with_reducible refine (f_put_good c a _ HV.out HA.out).mono ?_); rintro e w1 ⟨rfl, hb1⟩; obtain ⟨hc1, hf1, hl1⟩ := bcell3 hb1)
  go_upto_region 4 with fail
  refine at_world (S := fun W => Blk W w.heap.size #[.int .i64 c.room, .int .i64 c.helium, .int .i64 c.air, .int .i64 c.wlo, .int .i64 c.whi, .int .i64 c.leak, .int .i64 c.owed] 25 ∧ Blk W (w.heap.size + 1) #[.int .i64 a.plo, .int .i64 a.phi, .int .i64 a.tlo, .int .i64 a.thi] 27 ∧ Blk W (w.heap.size + 1 + 1) #[.int .i64 0, .int .i64 0] 23 ∧ Blk W w1.heap.size #[.int .i64 c.room, .int .i64 c.helium, .int .i64 c.air, .int .i64 c.wlo, .int .i64 c.whi, .int .i64 c.leak, .int .i64 c.owed, .int .i64 a.plo, .int .i64 a.phi, .int .i64 a.tlo, .int .i64 a.thi, .int .i64 (amount c), .int .i64 (heatLo c a), .int .i64 (heatHi c a)] 144 ∧ Kept w W) ⟨by (exact blk), by (exact blk), by (exact blk), by (exact blk), by (exact kpt)⟩ ?_
  clear hc1 hf1 hl1
  rintro W ⟨r0, r1, r2, r3, hk⟩
  have r0k0 : ∀ w', Kept W w' → w'.cell? ⟨w.heap.size, 0, none⟩ = _ := fun w' h => (r0.keep h).cell 0
  simp at r0k0
  have r1k0 : ∀ w', Kept W w' → w'.cell? ⟨w.heap.size + 1, 0, none⟩ = _ := fun w' h => (r1.keep h).cell 0
  have r1k1 : ∀ w', Kept W w' → w'.cell? ⟨w.heap.size + 1, 1, none⟩ = _ := fun w' h => (r1.keep h).cell 1
  simp at r1k0 r1k1
  have r3k12 : ∀ w', Kept W w' → w'.cell? ⟨w1.heap.size, 12, none⟩ = _ := fun w' h => (r3.keep h).cell 12
  have r3k13 : ∀ w', Kept W w' → w'.cell? ⟨w1.heap.size, 13, none⟩ = _ := fun w' h => (r3.keep h).cell 13
  simp at r3k12 r3k13
  go_cut [8, 9] (fun s8 s9 wx => ∃ g h, s8 = .pointer (some ⟨g, 0, none⟩) ∧ s9 = .pointer (some ⟨h, 0, none⟩) ∧ Blk wx g #[.int .i64 (c.room * a.phi), .int .i64 (heatLo c a)] 149 ∧ Blk wx h #[.int .i64 (c.room * a.plo), .int .i64 (heatHi c a)] 149 ∧ Blk wx (w.heap.size + 1 + 1) #[.int .i64 0, .int .i64 0] 23 ∧ Blk wx w1.heap.size #[.int .i64 c.room, .int .i64 c.helium, .int .i64 c.air, .int .i64 c.wlo, .int .i64 c.whi, .int .i64 c.leak, .int .i64 c.owed, .int .i64 a.plo, .int .i64 a.phi, .int .i64 a.tlo, .int .i64 a.thi, .int .i64 (amount c), .int .i64 (heatLo c a), .int .i64 (heatHi c a)] 144 ∧ Kept w wx)
  case first =>
    go_region_held3 (fun w' => Kept W w') (exact kpt) (fail)
    all_goals (go_wp2_with fail; go_meet)
    all_goals
      refine ⟨_, _, rfl, rfl, ?_, ?_, ?_, ?_, ?_⟩
      · first | exact Blk.drew (Blk.new' (by simp)) | exact Blk.drew (Blk.alloc (Blk.new' (by simp)) _)
      · first | exact Blk.drew (Blk.new' (by simp)) | exact Blk.drew (Blk.alloc (Blk.new' (by simp)) _)
      · (exact blk)
      · (exact blk)
      · (exact kpt)
  case rest =>
    clear r0k0 r1k0 r1k1 r3k12 r3k13 r0 r1 r2 r3 hk
    obtain ⟨g, h, rfl, rfl, hall⟩ := hcut
    go_upto_region 5 with fail
    refine at_world (S := fun wx => Blk wx g #[.int .i64 (c.room * a.phi), .int .i64 (heatLo c a)] 149 ∧ Blk wx h #[.int .i64 (c.room * a.plo), .int .i64 (heatHi c a)] 149 ∧ Blk wx (w.heap.size + 1 + 1) #[.int .i64 0, .int .i64 0] 23 ∧ Blk wx w1.heap.size #[.int .i64 c.room, .int .i64 c.helium, .int .i64 c.air, .int .i64 c.wlo, .int .i64 c.whi, .int .i64 c.leak, .int .i64 c.owed, .int .i64 a.plo, .int .i64 a.phi, .int .i64 a.tlo, .int .i64 a.thi, .int .i64 (amount c), .int .i64 (heatLo c a), .int .i64 (heatHi c a)] 144 ∧ Kept w wx) hall ?_
    clear hall
    rintro wx ⟨p1, p2, p0, p3, hk⟩
    have p1c0 := fun g : Later wx => (p1.later g).cell 0
    have p1f0 := fun g : Later wx => (p1.later g).free 0
    have p1c1 := fun g : Later wx => (p1.later g).cell 1
    have p1f1 := fun g : Later wx => (p1.later g).free 1
    have p1l := fun g : Later wx => (p1.later g).lt
    simp at p1c0 p1c1
    have p2c0 := fun g : Later wx => (p2.later g).cell 0
    have p2f0 := fun g : Later wx => (p2.later g).free 0
    have p2c1 := fun g : Later wx => (p2.later g).cell 1
    have p2f1 := fun g : Later wx => (p2.later g).free 1
    have p2l := fun g : Later wx => (p2.later g).lt
    simp at p2c0 p2c1
    have p0c0 := fun g : Later wx => (p0.later g).cell 0
    have p0f0 := fun g : Later wx => (p0.later g).free 0
    have p0c1 := fun g : Later wx => (p0.later g).cell 1
    have p0f1 := fun g : Later wx => (p0.later g).free 1
    have p0l := fun g : Later wx => (p0.later g).lt
    simp at p0c0 p0c1
    have p3c0 := fun g : Later wx => (p3.later g).cell 0
    have p3f0 := fun g : Later wx => (p3.later g).free 0
    have p3c1 := fun g : Later wx => (p3.later g).cell 1
    have p3f1 := fun g : Later wx => (p3.later g).free 1
    have p3c2 := fun g : Later wx => (p3.later g).cell 2
    have p3f2 := fun g : Later wx => (p3.later g).free 2
    have p3c3 := fun g : Later wx => (p3.later g).cell 3
    have p3f3 := fun g : Later wx => (p3.later g).free 3
    have p3c4 := fun g : Later wx => (p3.later g).cell 4
    have p3f4 := fun g : Later wx => (p3.later g).free 4
    have p3c5 := fun g : Later wx => (p3.later g).cell 5
    have p3f5 := fun g : Later wx => (p3.later g).free 5
    have p3c6 := fun g : Later wx => (p3.later g).cell 6
    have p3f6 := fun g : Later wx => (p3.later g).free 6
    have p3c7 := fun g : Later wx => (p3.later g).cell 7
    have p3f7 := fun g : Later wx => (p3.later g).free 7
    have p3c8 := fun g : Later wx => (p3.later g).cell 8
    have p3f8 := fun g : Later wx => (p3.later g).free 8
    have p3c9 := fun g : Later wx => (p3.later g).cell 9
    have p3f9 := fun g : Later wx => (p3.later g).free 9
    have p3c10 := fun g : Later wx => (p3.later g).cell 10
    have p3f10 := fun g : Later wx => (p3.later g).free 10
    have p3c11 := fun g : Later wx => (p3.later g).cell 11
    have p3f11 := fun g : Later wx => (p3.later g).free 11
    have p3l := fun g : Later wx => (p3.later g).lt
    simp at p3c0 p3c1 p3c2 p3c3 p3c4 p3c5 p3c6 p3c7 p3c8 p3c9 p3c10 p3c11
    refine later_mix [(false, 0), (false, 1), (false, 2), (false, 3), (false, 4), (true, 5), (false, 6), (false, 7), (false, 8), (false, 9), (false, 10), (true, 11), (false, 12)] 13 [14] (by kernel_rfl) (by kernel_rfl) ?_
    simp only [List.filterMap_cons, List.filterMap_nil, List.getElem?_cons_zero, List.getElem?_cons_succ, Option.map_some]
    repeat (refine wpSteps_quiet ?_; (first | go_big_quiet_skip | (go_big_quiet_want; go_big_quiet_op; first | go_big_quiet_on | (apply Exists.intro; refine ⟨fun g => ?_, ?_⟩; (focus (first | (go_at_call 95; with_reducible exact Later.call (F1.out _)) | (go_at_call 95; with_reducible exact Later.call (F2.out _)))); go_big_quiet_on))); refine wpQuiet_nil ?_)
    refine wpSteps_any (.int .i64 (max (amount c - D1) 0)) rfl (fun w => ?_) ?_
    · first | (go_simp; done) | (go_simp; simp [ite_max]; done) | (go_simp; split <;> omega) | (go_simp; simp; split <;> omega) | trace_state
    simp only [Act.put, List.setIfInBounds_toArray, List.set_cons_zero, List.set_cons_succ]
    repeat (refine wpSteps_quiet ?_; (first | go_big_quiet_skip | (go_big_quiet_want; go_big_quiet_op; first | go_big_quiet_on | (apply Exists.intro; refine ⟨fun g => ?_, ?_⟩; (focus (first | (go_at_call 95; with_reducible exact Later.call (F1.out _)) | (go_at_call 95; with_reducible exact Later.call (F2.out _)))); go_big_quiet_on))); refine wpQuiet_nil ?_)
    refine wpSteps_any (.int .i64 (max (amount c - D2) 0)) rfl (fun w => ?_) ?_
    · first | (go_simp; done) | (go_simp; simp [ite_max]; done) | (go_simp; split <;> omega) | (go_simp; simp; split <;> omega) | trace_state
    simp only [Act.put, List.setIfInBounds_toArray, List.set_cons_zero, List.set_cons_succ]
    repeat (refine wpSteps_quiet ?_; (first | go_big_quiet_skip | (go_big_quiet_want; go_big_quiet_op; first | go_big_quiet_on | (apply Exists.intro; refine ⟨fun g => ?_, ?_⟩; (focus (first | (go_at_call 95; with_reducible exact Later.call (F1.out _)) | (go_at_call 95; with_reducible exact Later.call (F2.out _)))); go_big_quiet_on))); refine wpQuiet_nil ?_)
    refine wpSteps_nil ?_
    intro gg
    have hkgg := Kept.drop hk gg.ok
    try simp only [ite_min, ite_max]
    go_wp2
    refine NoPanic.normal ?_
    go_wp2
    have y0 := p0.later gg
    have y0c0 := y0.cell 0
    have y0f0 := y0.free 0
    have y0c1 := y0.cell 1
    have y0f1 := y0.free 1
    have y0l := y0.lt
    simp at y0c0 y0c1
    exact bodyPost_ret (v := .tuple #[.agg #[.int .i64 ((max (amount c - D1) 0)), .int .i64 ((max (amount c - D2) 0))], .int .i64 0]) (by simp [results, Try.results34, go_sem, y0c0, y0c1, y0f0, y0f1]) rfl ⟨rfl, by (exact kpt)⟩

end Go.Proofs.Ytemafanncejeiaa

/-
  What a gauge allows of a cell: the program.
-/
namespace Go.Proofs.Ytemafanncejeiaa
open Go.RowKit Bal Bal.Trim Bal.Gas
set_option linter.unusedVariables false
set_option linter.unusedSimpArgs false
set_option maxHeartbeats 4000000
set_option maxRecDepth 100000

theorem blkx {w : World} {b : Nat} {arr : Array Value} {t : TypeId} (h : Blk w b arr t := by (refine Blk.cast (arr := ?_) ?_ ?_; rotate_left 1; (focus (repeat (first | with_reducible assumption | ((with_reducible refine Blk.new' ?_); first | with_reducible rfl | (simp; done) | (simp [World.drew]; done)) | with_reducible refine Blk.alloc ?_ _ | ((with_reducible refine Blk.set (arr := ?_) ?_ _ _); rotate_left 1) | ((with_reducible refine Blk.other ?_ ?_ _); rotate_left 1; (focus (first | (simp; done) | (simp; omega) | (refine Nat.ne_of_gt (Blk.lt (arr := ?_) (t := ?_) ?_); rotate_left 2; focus (exact blk0)) | (refine Nat.ne_of_lt (Blk.lt (arr := ?_) (t := ?_) ?_); rotate_left 2; focus (exact blk0)))); rotate_right 1) | with_reducible refine Blk.keep ?_ (by with_reducible assumption) | with_reducible refine Blk.drew ?_))); (first | rfl | (simp; done)))) : Blk w b arr t := h
theorem f_allowed (h : Hist) (s : Spot) (w : World) (hh : HistAt h s w) (ho : HistOk h) (i c : Nat) (hi : i < h.gauges.length) (hc : c < h.warm.length) :
    Calls Try.prog 125 #[.agg #[.slice s.aw h.warm.length s.cw, .slice s.ag h.gauges.length s.cg, .slice s.af h.flows.length s.cf], .int .i64 i, .int .i64 c] w fun e w' => e = .returned (.agg #[.int .i64 (alLo h i c), .int .i64 (alHi h i c)]) ∧ Kept w w' := by
  have hcw := hh.wc
  have hcm := hh.wm
  have hgc := hh.gc
  have hgm := hh.gm
  have hfc := hh.fc
  have hfm := hh.fm
  unfold maxLen at hcm hgm hfm
  obtain ⟨aw, ag, af, cw, cg, cf⟩ := s
  simp only at hcw hcm hgc hgm hfc hfm
  have R1 := Lib.hid (show ∀ W, Kept w W → Row Sp.cells 2 W.heap.size W aw h.warm from fun W hW => (hh.later hW).warm)
  have R2 := Lib.hid (show ∀ W, Kept w W → Row Gauge.cells 6 W.heap.size W ag h.gauges from fun W hW => (hh.later hW).gauges)
  have RV0 := fun (W : World) (hW : Kept w W) => (hh.later hW).volsAt i hi
  have hbd := al_bd ho hi hc
  have hvl := ho.vlen i hi
  have hvc := hh.vc _ (List.getElem_mem hi)
  rw [gAt_get hi] at hvc
  have hai := airB_iff.1 (ho.air i hi)
  have hwb := ho.warm c hc
  have HLO0 : alLo h i c = -((-((vAt (gAt h i) c).lo * (gAt h i).air.plo)) / ((gAt h i).air.thi + (wAt h c).hi)) := rfl
  have HHI0 : alHi h i c = (vAt (gAt h i) c).hi * (gAt h i).air.phi / ((gAt h i).air.tlo + (wAt h c).lo) := rfl
  obtain ⟨g, hg⟩ : ∃ g, g = gAt h i := ⟨_, rfl⟩
  obtain ⟨x, hx⟩ : ∃ x, x = wAt h c := ⟨_, rfl⟩
  rw [← hg] at RV0 hvl hvc hbd hai HLO0 HHI0
  rw [← hx] at hbd hwb HLO0 HHI0
  obtain ⟨y, hy⟩ : ∃ y, y = vAt g c := ⟨_, rfl⟩
  rw [← hy] at hbd HLO0 HHI0
  obtain ⟨va, hva⟩ : ∃ v, v = gv g := ⟨_, rfl⟩
  rw [← hva] at RV0
  have hcv : c < g.vols.length := by omega
  have hv12 : g.vols.length ≤ 12 := by have := ho.w2; omega
  have hg30 : h.gauges.length ≤ 30 := ho.g2
  have hw12 : h.warm.length ≤ 12 := ho.w2
  have RV := Lib.hid RV0
  have HLO := Lib.hid HLO0
  have HHI := Lib.hid HHI0
  have HG := Lib.hid hg
  have HX := Lib.hid hx
  have HY := Lib.hid hy
  have HVA := Lib.hid hva
  obtain ⟨⟨d0, d1, d2⟩, ⟨m0, m1⟩, ⟨m2, m3⟩, ⟨l0_, l1_⟩, l2_, l3_⟩ := hbd
  clear hg hx hy hva RV0 HLO0 HHI0 hvl l0_ l1_ l2_ l3_
  obtain ⟨bg, og, hag, hbg, g0, g1, g2, g3, g4, g5⟩ := Gauge.row (R2.out _ (Below.refl _ _)) i hi
  rw [gAt_get hi, ← HG.out] at g0 g1 g2 g3 g4 g5
  rw [← HVA.out] at g5
  subst hag
  go_enter Try.func125, Try.ntmps125
  go_upto_region 2 with fail
  clear g0 g1 g2 g3 g4 g5
  refine at_world (S := fun V => Blk V w.heap.size #[.slice aw h.warm.length cw, .slice (some ⟨bg, og, none⟩) h.gauges.length cg, .slice af h.flows.length cf] 85 ∧ Blk V (w.heap.size + 1) #[.int .i64 0, .int .i64 0] 23 ∧ Blk V (w.heap.size + 1 + 1) #[.int .i64 g.time, .int .i64 g.air.plo, .int .i64 g.air.phi, .int .i64 g.air.tlo, .int .i64 g.air.thi, .slice va g.vols.length g.vc] 124 ∧ Kept w V) ⟨by (exact blkc), by (exact blkc), by (exact blkc), by (exact kpt)⟩ ?_
  rintro V ⟨q0, q1, q6, hkV⟩
  obtain ⟨bw, ow, haw, hbw, c0, c1⟩ := Sp.row (R1.out _ hkV) c hc
  rw [wAt_get hc, ← HX.out] at c0 c1
  obtain ⟨bv, ov, hva2, hbv, v0, v1⟩ := Sp.row (RV.out _ hkV) c hcv
  rw [vAt_get hcv, ← HY.out] at v0 v1
  subst haw hva2
  go_cut [8, 9] (fun s8 s9 wx => ∃ n8 n9, s8 = .pointer (some ⟨n8, 0, none⟩) ∧ s9 = .pointer (some ⟨n9, 0, none⟩) ∧ Blk wx n8 #[.int .i64 y.lo, .int .i64 y.hi] 23 ∧ Blk wx n9 #[.int .i64 (g.air.tlo + x.lo), .int .i64 (g.air.thi + x.hi)] 23 ∧ Blk wx w.heap.size #[.slice (some ⟨bw, ow, none⟩) h.warm.length cw, .slice (some ⟨bg, og, none⟩) h.gauges.length cg, .slice af h.flows.length cf] 85 ∧ Blk wx (w.heap.size + 1) #[.int .i64 0, .int .i64 0] 23 ∧ Blk wx (w.heap.size + 1 + 1) #[.int .i64 g.time, .int .i64 g.air.plo, .int .i64 g.air.phi, .int .i64 g.air.tlo, .int .i64 g.air.thi, .slice (some ⟨bv, ov, none⟩) g.vols.length g.vc] 124 ∧ Kept w wx)
  case first =>
    have q0k0 : ∀ w', Kept V w' → w'.cell? ⟨w.heap.size, 0, none⟩ = _ := fun w' h => (q0.keep h).cell 0
    have q0k1 : ∀ w', Kept V w' → w'.cell? ⟨w.heap.size, 1, none⟩ = _ := fun w' h => (q0.keep h).cell 1
    have q0k2 : ∀ w', Kept V w' → w'.cell? ⟨w.heap.size, 2, none⟩ = _ := fun w' h => (q0.keep h).cell 2
    simp at q0k0 q0k1 q0k2
    have q6k0 : ∀ w', Kept V w' → w'.cell? ⟨(w.heap.size + 1 + 1), 0, none⟩ = _ := fun w' h => (q6.keep h).cell 0
    have q6k1 : ∀ w', Kept V w' → w'.cell? ⟨(w.heap.size + 1 + 1), 1, none⟩ = _ := fun w' h => (q6.keep h).cell 1
    have q6k2 : ∀ w', Kept V w' → w'.cell? ⟨(w.heap.size + 1 + 1), 2, none⟩ = _ := fun w' h => (q6.keep h).cell 2
    have q6k3 : ∀ w', Kept V w' → w'.cell? ⟨(w.heap.size + 1 + 1), 3, none⟩ = _ := fun w' h => (q6.keep h).cell 3
    have q6k4 : ∀ w', Kept V w' → w'.cell? ⟨(w.heap.size + 1 + 1), 4, none⟩ = _ := fun w' h => (q6.keep h).cell 4
    have q6k5 : ∀ w', Kept V w' → w'.cell? ⟨(w.heap.size + 1 + 1), 5, none⟩ = _ := fun w' h => (q6.keep h).cell 5
    simp at q6k0 q6k1 q6k2 q6k3 q6k4 q6k5
    have y0 : ∀ w', Kept V w' → w'.cell? ⟨bw, ow + c * 2, none⟩ = _ := fun w' h => (h.cell (p := ⟨bw, ow + c * 2, none⟩) hbw).trans c0
    have y1 : ∀ w', Kept V w' → w'.cell? ⟨bw, ow + c * 2 + 1, none⟩ = _ := fun w' h => (h.cell (p := ⟨bw, ow + c * 2 + 1, none⟩) hbw).trans c1
    have z0 : ∀ w', Kept V w' → w'.cell? ⟨bv, ov + c * 2, none⟩ = _ := fun w' h => (h.cell (p := ⟨bv, ov + c * 2, none⟩) hbv).trans v0
    have z1 : ∀ w', Kept V w' → w'.cell? ⟨bv, ov + c * 2 + 1, none⟩ = _ := fun w' h => (h.cell (p := ⟨bv, ov + c * 2 + 1, none⟩) hbv).trans v1
    have l0 := q0.lt
    have l1 := q1.lt
    have l6 := q6.lt
    clear c0 c1 v0 v1
    go_region_held3 (fun w' => Kept V w') (exact kpt) (first | (go_at_call 93; (with_reducible refine (f_heated_ok g.air.tlo g.air.thi x.lo x.hi _ ?_).mono ?_); (focus omega); rintro e w3 ⟨rfl, hb3⟩; (first | (refine Blk.thru (b := V.heap.size) (arr := #[.int .i64 0, .int .i64 0]) (t := 23) ?_ hb3 ?_; (focus (first | with_reducible assumption | (refine Blk.new' ?_; (focus (simp; done))) | (refine Blk.drew (Blk.new' ?_); (focus (simp; done))) | (refine Blk.alloc (Blk.new' ?_) _; (focus (simp; done))) | (refine Blk.drew (Blk.alloc (Blk.new' ?_) _); (focus (simp; done))) | (refine Blk.alloc (Blk.drew (Blk.new' ?_)) _; (focus (simp; done))) | (refine Blk.alloc ?_ _; with_reducible assumption) | (refine Blk.drew ?_; with_reducible assumption) | (refine Blk.drew (Blk.alloc ?_ _); with_reducible assumption) | fail)); intro ta; have tac0 := ta.cell 0; have taf0 := ta.free 0; have tac1 := ta.cell 1; have taf1 := ta.free 1; have tal := ta.lt; simp at tac0 tac1) | skip); (first | (refine Blk.thru (b := V.heap.size + 1) (arr := #[.int .i64 0, .int .i64 0]) (t := 23) ?_ hb3 ?_; (focus (first | with_reducible assumption | (refine Blk.new' ?_; (focus (simp; done))) | (refine Blk.drew (Blk.new' ?_); (focus (simp; done))) | (refine Blk.alloc (Blk.new' ?_) _; (focus (simp; done))) | (refine Blk.drew (Blk.alloc (Blk.new' ?_) _); (focus (simp; done))) | (refine Blk.alloc (Blk.drew (Blk.new' ?_)) _; (focus (simp; done))) | (refine Blk.alloc ?_ _; with_reducible assumption) | (refine Blk.drew ?_; with_reducible assumption) | (refine Blk.drew (Blk.alloc ?_ _); with_reducible assumption) | fail)); intro tb; have tbc0 := tb.cell 0; have tbf0 := tb.free 0; have tbc1 := tb.cell 1; have tbf1 := tb.free 1; have tbl := tb.lt; simp at tbc0 tbc1) | skip)) | fail)
    all_goals (go_wp2_with fail; go_meet)
    all_goals exact ⟨_, _, rfl, rfl, by exact blkx, by exact blkx, by (exact blkc), by (exact blkc), by (exact blkc), by (exact kpt)⟩
  case rest =>
    clear q0 q1 q6 hkV c0 c1 v0 v1
    obtain ⟨n8, n9, rfl, rfl, q8, q9, q0, q1, q6, hk⟩ := hcut
    go_upto_region 3 with fail
    refine at_world (S := fun Y => Blk Y n8 #[.int .i64 y.lo, .int .i64 y.hi] 23 ∧ Blk Y n9 #[.int .i64 (g.air.tlo + x.lo), .int .i64 (g.air.thi + x.hi)] 23 ∧ Blk Y w.heap.size #[.slice (some ⟨bw, ow, none⟩) h.warm.length cw, .slice (some ⟨bg, og, none⟩) h.gauges.length cg, .slice af h.flows.length cf] 85 ∧ Blk Y (w.heap.size + 1) #[.int .i64 0, .int .i64 0] 23 ∧ Blk Y (w.heap.size + 1 + 1) #[.int .i64 g.time, .int .i64 g.air.plo, .int .i64 g.air.phi, .int .i64 g.air.tlo, .int .i64 g.air.thi, .slice (some ⟨bv, ov, none⟩) g.vols.length g.vc] 124 ∧ Kept w Y) ⟨q8, q9, q0, q1, q6, hk⟩ ?_
    clear q8 q9 q0 q1 q6 hk
    rintro Y ⟨q8, q9, q0, q1, q6, hkY⟩
    have q8c0 := fun g : Later Y => (q8.later g).cell 0
    have q8f0 := fun g : Later Y => (q8.later g).free 0
    have q8c1 := fun g : Later Y => (q8.later g).cell 1
    have q8f1 := fun g : Later Y => (q8.later g).free 1
    have q8l := fun g : Later Y => (q8.later g).lt
    simp at q8c0 q8c1
    have q9c0 := fun g : Later Y => (q9.later g).cell 0
    have q9f0 := fun g : Later Y => (q9.later g).free 0
    have q9c1 := fun g : Later Y => (q9.later g).cell 1
    have q9f1 := fun g : Later Y => (q9.later g).free 1
    have q9l := fun g : Later Y => (q9.later g).lt
    simp at q9c0 q9c1
    have q6c0 := fun g : Later Y => (q6.later g).cell 0
    have q6f0 := fun g : Later Y => (q6.later g).free 0
    have q6c1 := fun g : Later Y => (q6.later g).cell 1
    have q6f1 := fun g : Later Y => (q6.later g).free 1
    have q6c2 := fun g : Later Y => (q6.later g).cell 2
    have q6f2 := fun g : Later Y => (q6.later g).free 2
    have q6c3 := fun g : Later Y => (q6.later g).cell 3
    have q6f3 := fun g : Later Y => (q6.later g).free 3
    have q6c4 := fun g : Later Y => (q6.later g).cell 4
    have q6f4 := fun g : Later Y => (q6.later g).free 4
    have q6c5 := fun g : Later Y => (q6.later g).cell 5
    have q6f5 := fun g : Later Y => (q6.later g).free 5
    have q6l := fun g : Later Y => (q6.later g).lt
    simp at q6c0 q6c1 q6c2 q6c3 q6c4 q6c5
    have w1 := i64_inH (n := y.lo * g.air.plo) (by omega)
    have w2 := i64_inH (n := y.hi * g.air.phi) (by omega)
    obtain ⟨L, hL⟩ : ∃ n, n = alLo h i c := ⟨_, rfl⟩
    obtain ⟨H, hH⟩ : ∃ n, n = alHi h i c := ⟨_, rfl⟩
    have KC : ∀ W, Calls Try.prog 133 #[.agg #[.int .i64 (y.lo * g.air.plo), .int .i64 (g.air.thi + x.hi)]] W fun e w' => e = .returned (.int .i64 L) ∧ Kept W w' := fun W => by
      have k := f_up ⟨y.lo * g.air.plo, g.air.thi + x.hi⟩ W (by simp only; omega) (by simp only; omega) (by simp only; omega) (by simp only; omega)
      rwa [show up ⟨y.lo * g.air.plo, g.air.thi + x.hi⟩ = L by rw [hL, HLO.out]; rfl] at k
    have KF : ∀ W, Calls Try.prog 95 #[.agg #[.int .i64 (y.hi * g.air.phi), .int .i64 (g.air.tlo + x.lo)]] W fun e w' => e = .returned (.int .i64 H) ∧ Kept W w' := fun W => by
      have k := f_down ⟨y.hi * g.air.phi, g.air.tlo + x.lo⟩ W (by simp only; omega) (by simp only; omega) (by simp only; omega) (by simp only; omega)
      rwa [show down ⟨y.hi * g.air.phi, g.air.tlo + x.lo⟩ = H by rw [hH, HHI.out]; rfl] at k
    have HL := Lib.hid hL
    have HH := Lib.hid hH
    clear hL hH
    refine Later.tail 23 (by kernel_rfl) (by kernel_rfl) ?_
    simp only [List.take_succ_cons, List.take_zero, List.drop_succ_cons, List.drop_zero]
    repeat (first | go_big_quiet_skip | (go_big_quiet_want; go_big_quiet_op; first | go_big_quiet_on | (apply Exists.intro; refine ⟨fun g_ => ?_, ?_⟩; (focus (first | (go_at_call 133; with_reducible exact Later.call (KC _)) | (go_at_call 95; with_reducible exact Later.call (KF _)))); go_big_quiet_on)))
    refine wpQuiet_nil ?_
    intro gg
    refine wpList_plain rfl fun K1 hK1 => ?_
    clear q8c0 q8f0 q8c1 q8f1 q8l q9c0 q9f0 q9c1 q9f1 q9l q6c0 q6f0 q6c1 q6f1 q6c2 q6f2 q6c3 q6f3 q6c4 q6f4 q6c5 q6f5 q6l
    have n1 := q1.later gg
    have hkg := Kept.drop hkY gg.ok
    have n1c0 := n1.cell 0
    have n1f0 := n1.free 0
    have n1c1 := n1.cell 1
    have n1f1 := n1.free 1
    have n1l := n1.lt
    simp at n1c0 n1c1
    go_wp2
    exact bodyPost_ret (v := .agg #[.int .i64 L, .int .i64 H]) (by simp [results, Try.results125, go_sem, n1c0, n1f0, n1c1, n1f1]) rfl ⟨by rw [HL.out, HH.out], by (exact kpt)⟩

end Go.Proofs.Ytemafanncejeiaa

/-
  The amounts that a gauge allows: both.
-/
namespace Go.Proofs.Ytemafanncejeiaa
open Go.RowKit Bal Bal.Trim Bal.Gas
set_option linter.unusedVariables false
set_option linter.unusedSimpArgs false
set_option maxHeartbeats 4000000
set_option maxRecDepth 100000

theorem f_Amounts_bad (h : Hist) (s : Spot) (w : World) (hh : HistAt h s w) (gi ci : Int) (hb : histB h = false) : Calls Try.prog 56 #[.agg #[.slice s.aw h.warm.length s.cw, .slice s.ag h.gauges.length s.cg, .slice s.af h.flows.length s.cf], .int .i64 gi, .int .i64 ci] w fun e w' => e = .returned (.tuple #[.agg #[.int .i64 (0), .int .i64 (0)], .int .i64 (34)]) ∧ Kept w w' := by
  have HE := Lib.hid (show histE h = 34 by unfold histE; rw [hb]; rfl)
  clear hb
  go_enter Try.func56, Try.ntmps56
  go_wp2_with (go_at_call 64; (with_reducible refine (f_CheckHistory h s _ (hh.later (by (exact kpt)))).mono ?_); rw [HE.out]; rintro e w1 ⟨rfl, hb1⟩; refine Blk.thru (b := w.heap.size) (arr := ?_) (t := ?_) ?_ hb1 ?_; rotate_left 2; (focus (exact blk)); intro rr; have rrc0 := rr.cell 0; have rrf0 := rr.free 0; have rrc1 := rr.cell 1; have rrf1 := rr.free 1; have rrc2 := rr.cell 2; have rrf2 := rr.free 2; have rrl := rr.lt; simp at rrc0 rrc1 rrc2; refine Blk.thru (b := (w.heap.size + 1)) (arr := ?_) (t := ?_) ?_ hb1 ?_; rotate_left 2; (focus (exact blk)); intro rq; have rqc0 := rq.cell 0; have rqf0 := rq.free 0; have rqc1 := rq.cell 1; have rqf1 := rq.free 1; have rql := rq.lt; simp at rqc0 rqc1)
  exact bodyPost_ret (v := .tuple #[.agg #[.int .i64 0, .int .i64 0], .int .i64 34]) (by simp [results, Try.results56, go_sem, rqc0, rqf0, rqc1, rqf1, rql, rrl]) rfl ⟨rfl, by (exact kpt)⟩

theorem f_Amounts_arg (h : Hist) (s : Spot) (w : World) (hh : HistAt h s w) (gi ci : Int) (hb : histB h = true) (hk : (inB gi 0 (h.gauges.length - 1) && inB ci 0 (h.warm.length - 1)) = false) : Calls Try.prog 56 #[.agg #[.slice s.aw h.warm.length s.cw, .slice s.ag h.gauges.length s.cg, .slice s.af h.flows.length s.cf], .int .i64 gi, .int .i64 ci] w fun e w' => e = .returned (.tuple #[.agg #[.int .i64 (0), .int .i64 (0)], .int .i64 (2)]) ∧ Kept w w' := by
  have ho := histB_ok hb
  have b1 := ho.g1
  have b2 := ho.g2
  have b3 := ho.w1
  have b4 := ho.w2
  have HE := Lib.hid (show histE h = 0 by unfold histE; rw [hb]; rfl)
  clear hb ho
  cases k1 : inB gi 0 (h.gauges.length - 1)
  · have K1 := Lib.hid k1
    clear k1 hk
    go_enter Try.func56, Try.ntmps56
    go_wp2_with (first | (go_at_call 64; (with_reducible refine (f_CheckHistory h s _ (hh.later (by (exact kpt)))).mono ?_); rw [HE.out]; rintro e w1 ⟨rfl, hb1⟩; refine Blk.thru (b := w.heap.size) (arr := ?_) (t := ?_) ?_ hb1 ?_; rotate_left 2; (focus (exact blk)); intro rr; have rrc0 := rr.cell 0; have rrf0 := rr.free 0; have rrc1 := rr.cell 1; have rrf1 := rr.free 1; have rrc2 := rr.cell 2; have rrf2 := rr.free 2; have rrl := rr.lt; simp at rrc0 rrc1 rrc2; refine Blk.thru (b := (w.heap.size + 1)) (arr := ?_) (t := ?_) ?_ hb1 ?_; rotate_left 2; (focus (exact blk)); intro rq; have rqc0 := rq.cell 0; have rqf0 := rq.free 0; have rqc1 := rq.cell 1; have rqf1 := rq.free 1; have rql := rq.lt; simp at rqc0 rqc1) | (go_at_call 91; (with_reducible refine (f_rangedQ gi 0 ((h.gauges.length : Int) - 1) _ K1.out _ _ _ (by simp)).mono ?_); rintro e w9 ⟨rfl, rfl⟩))
    exact bodyPost_ret (v := .tuple #[.agg #[.int .i64 0, .int .i64 0], .int .i64 2]) (by simp [results, Try.results56, go_sem, rqc0, rqf0, rqc1, rqf1, rql, rrl]) rfl ⟨rfl, by (exact kpt)⟩
  · have k2 : inB ci 0 (h.warm.length - 1) = false := by simpa [k1] using hk
    have K1 := Lib.hid k1
    have K2 := Lib.hid k2
    clear k1 k2 hk
    go_enter Try.func56, Try.ntmps56
    go_wp2_with (first | (go_at_call 64; (with_reducible refine (f_CheckHistory h s _ (hh.later (by (exact kpt)))).mono ?_); rw [HE.out]; rintro e w1 ⟨rfl, hb1⟩; refine Blk.thru (b := w.heap.size) (arr := ?_) (t := ?_) ?_ hb1 ?_; rotate_left 2; (focus (exact blk)); intro rr; have rrc0 := rr.cell 0; have rrf0 := rr.free 0; have rrc1 := rr.cell 1; have rrf1 := rr.free 1; have rrc2 := rr.cell 2; have rrf2 := rr.free 2; have rrl := rr.lt; simp at rrc0 rrc1 rrc2; refine Blk.thru (b := (w.heap.size + 1)) (arr := ?_) (t := ?_) ?_ hb1 ?_; rotate_left 2; (focus (exact blk)); intro rq; have rqc0 := rq.cell 0; have rqf0 := rq.free 0; have rqc1 := rq.cell 1; have rqf1 := rq.free 1; have rql := rq.lt; simp at rqc0 rqc1) | (go_at_call 91; (with_reducible refine (f_rangedQ gi 0 ((h.gauges.length : Int) - 1) _ K1.out _ _ _ (by simp)).mono ?_); rintro e w9 ⟨rfl, rfl⟩) | (go_at_call 91; (with_reducible refine (f_rangedQ ci 0 ((h.warm.length : Int) - 1) _ K2.out _ _ _ (by simp)).mono ?_); rintro e w9 ⟨rfl, rfl⟩))
    exact bodyPost_ret (v := .tuple #[.agg #[.int .i64 0, .int .i64 0], .int .i64 2]) (by simp [results, Try.results56, go_sem, rqc0, rqf0, rqc1, rqf1, rql, rrl]) rfl ⟨rfl, by (exact kpt)⟩

theorem f_Amounts_ok (h : Hist) (s : Spot) (w : World) (hh : HistAt h s w) (i c : Nat) (hb : histB h = true) (hi : i < h.gauges.length) (hc : c < h.warm.length) :
    Calls Try.prog 56 #[.agg #[.slice s.aw h.warm.length s.cw, .slice s.ag h.gauges.length s.cg, .slice s.af h.flows.length s.cf], .int .i64 (i : Int), .int .i64 (c : Int)] w fun e w' => e = .returned (.tuple #[.agg #[.int .i64 (Bal.Gas.ifOk (if alHi h i c < alLo h i c then 6 else 0) (alLo h i c)), .int .i64 (Bal.Gas.ifOk (if alHi h i c < alLo h i c then 6 else 0) (alHi h i c))], .int .i64 (if alHi h i c < alLo h i c then 6 else 0)]) ∧ Kept w w' := by
  have ho := histB_ok hb
  have b1 := ho.g1
  have b2 := ho.g2
  have b3 := ho.w1
  have b4 := ho.w2
  obtain ⟨L, hL⟩ : ∃ n, n = alLo h i c := ⟨_, rfl⟩
  obtain ⟨H, hH⟩ : ∃ n, n = alHi h i c := ⟨_, rfl⟩
  rw [← hL, ← hH]
  have HL := Lib.hid hL.symm
  have HH := Lib.hid hH.symm
  have HE := Lib.hid (show histE h = 0 by unfold histE; rw [hb]; rfl)
  have K1 := Lib.hid (show inB (i : Int) 0 (h.gauges.length - 1) = true by simp [inB]; omega)
  have K2 := Lib.hid (show inB (c : Int) 0 (h.warm.length - 1) = true by simp [inB]; omega)
  clear hb hL hH
  by_cases hlt : H < L
  · have d1 : decide (H < L) = true := by simp [hlt]
    rw [if_pos hlt]
    rw [show Bal.Gas.ifOk 6 L = 0 from rfl, show Bal.Gas.ifOk 6 H = 0 from rfl]
    clear hlt
    go_enter Try.func56, Try.ntmps56
    go_wp2_with (first | (go_at_call 64; (with_reducible refine (f_CheckHistory h s _ (hh.later (by (exact kpt)))).mono ?_); rw [HE.out]; rintro e w1 ⟨rfl, hb1⟩; refine Blk.thru (b := w.heap.size) (arr := ?_) (t := ?_) ?_ hb1 ?_; rotate_left 2; (focus (exact blk)); intro rr; have rrc0 := rr.cell 0; have rrf0 := rr.free 0; have rrc1 := rr.cell 1; have rrf1 := rr.free 1; have rrc2 := rr.cell 2; have rrf2 := rr.free 2; have rrl := rr.lt; simp at rrc0 rrc1 rrc2; refine Blk.thru (b := (w.heap.size + 1)) (arr := ?_) (t := ?_) ?_ hb1 ?_; rotate_left 2; (focus (exact blk)); intro rq; have rqc0 := rq.cell 0; have rqf0 := rq.free 0; have rqc1 := rq.cell 1; have rqf1 := rq.free 1; have rql := rq.lt; simp at rqc0 rqc1) | (go_at_call 91; (with_reducible refine (f_rangedQ (i : Int) 0 ((h.gauges.length : Int) - 1) _ K1.out _ _ _ (by simp)).mono ?_); rintro e w9 ⟨rfl, rfl⟩) | (go_at_call 91; (with_reducible refine (f_rangedQ (c : Int) 0 ((h.warm.length : Int) - 1) _ K2.out _ _ _ (by simp)).mono ?_); rintro e w9 ⟨rfl, rfl⟩) | (go_at_call 125; (with_reducible refine (f_allowed h s _ (hh.later (by (exact kpt))) ho i c hi hc).mono ?_); rw [HL.out, HH.out]; rintro e w2 ⟨rfl, hb2⟩; refine Blk.thru (b := (w.heap.size + 1)) (arr := ?_) (t := ?_) ?_ hb2 ?_; rotate_left 2; (focus (exact blk)); intro rt; have rtc0 := rt.cell 0; have rtf0 := rt.free 0; have rtc1 := rt.cell 1; have rtf1 := rt.free 1; have rtl := rt.lt; simp at rtc0 rtc1))
    exact bodyPost_ret (v := .tuple #[.agg #[.int .i64 0, .int .i64 0], .int .i64 6]) (by simp [results, Try.results56, go_sem, rtc0, rtf0, rtc1, rtf1, rtl]) rfl ⟨rfl, by (exact kpt)⟩
  · have d1 : decide (H < L) = false := by simp; omega
    rw [if_neg hlt]
    rw [show Bal.Gas.ifOk 0 L = L from rfl, show Bal.Gas.ifOk 0 H = H from rfl]
    clear hlt
    go_enter Try.func56, Try.ntmps56
    go_wp2_with (first | (go_at_call 64; (with_reducible refine (f_CheckHistory h s _ (hh.later (by (exact kpt)))).mono ?_); rw [HE.out]; rintro e w1 ⟨rfl, hb1⟩; refine Blk.thru (b := w.heap.size) (arr := ?_) (t := ?_) ?_ hb1 ?_; rotate_left 2; (focus (exact blk)); intro rr; have rrc0 := rr.cell 0; have rrf0 := rr.free 0; have rrc1 := rr.cell 1; have rrf1 := rr.free 1; have rrc2 := rr.cell 2; have rrf2 := rr.free 2; have rrl := rr.lt; simp at rrc0 rrc1 rrc2; refine Blk.thru (b := (w.heap.size + 1)) (arr := ?_) (t := ?_) ?_ hb1 ?_; rotate_left 2; (focus (exact blk)); intro rq; have rqc0 := rq.cell 0; have rqf0 := rq.free 0; have rqc1 := rq.cell 1; have rqf1 := rq.free 1; have rql := rq.lt; simp at rqc0 rqc1) | (go_at_call 91; (with_reducible refine (f_rangedQ (i : Int) 0 ((h.gauges.length : Int) - 1) _ K1.out _ _ _ (by simp)).mono ?_); rintro e w9 ⟨rfl, rfl⟩) | (go_at_call 91; (with_reducible refine (f_rangedQ (c : Int) 0 ((h.warm.length : Int) - 1) _ K2.out _ _ _ (by simp)).mono ?_); rintro e w9 ⟨rfl, rfl⟩) | (go_at_call 125; (with_reducible refine (f_allowed h s _ (hh.later (by (exact kpt))) ho i c hi hc).mono ?_); rw [HL.out, HH.out]; rintro e w2 ⟨rfl, hb2⟩; refine Blk.thru (b := (w.heap.size + 1)) (arr := ?_) (t := ?_) ?_ hb2 ?_; rotate_left 2; (focus (exact blk)); intro rt; have rtc0 := rt.cell 0; have rtf0 := rt.free 0; have rtc1 := rt.cell 1; have rtf1 := rt.free 1; have rtl := rt.lt; simp at rtc0 rtc1))
    exact bodyPost_ret (v := .tuple #[.agg #[.int .i64 L, .int .i64 H], .int .i64 0]) (by simp [results, Try.results56, go_sem, rtc0, rtf0, rtc1, rtf1, rtl]) rfl ⟨rfl, by (exact kpt)⟩
theorem f_Amounts (h : Hist) (s : Spot) (w : World) (hh : HistAt h s w) (gi ci : Int) : Calls Try.prog 56 #[.agg #[.slice s.aw h.warm.length s.cw, .slice s.ag h.gauges.length s.cg, .slice s.af h.flows.length s.cf], .int .i64 gi, .int .i64 ci] w fun e w' => e = .returned (.tuple #[.agg #[.int .i64 (Bal.Gas.ifOk (amtE h gi ci) (alLo h gi.toNat ci.toNat)), .int .i64 (Bal.Gas.ifOk (amtE h gi ci) (alHi h gi.toNat ci.toNat))], .int .i64 (amtE h gi ci)]) ∧ Kept w w' := by
  cases hb : histB h
  · rw [show amtE h gi ci = 34 by simp [amtE, hb]]
    exact f_Amounts_bad h s w hh gi ci hb
  · cases hk : (inB gi 0 (h.gauges.length - 1) && inB ci 0 (h.warm.length - 1))
    · rw [show amtE h gi ci = 2 by simp [amtE, hb, hk]]
      exact f_Amounts_arg h s w hh gi ci hb hk
    · have hk2 := hk
      rw [Bool.and_eq_true, inB_iff, inB_iff] at hk2
      obtain ⟨⟨g0, g1⟩, c0, c1⟩ := hk2
      obtain ⟨i, rfl⟩ := Int.eq_ofNat_of_zero_le g0
      obtain ⟨c, rfl⟩ := Int.eq_ofNat_of_zero_le c0
      rw [show amtE h i c = if alHi h i c < alLo h i c then 6 else 0 by simp only [amtE, hb, hk, if_true, Int.toNat_natCast]]
      exact f_Amounts_ok h s w hh i c hb (by omega) (by omega)

end Go.Proofs.Ytemafanncejeiaa

/-
  The reference: clashes.
-/
namespace Go.Proofs.Ytemafanncejeiaa
open Go.RowKit Bal Bal.Trim Bal.Gas
set_option linter.unusedVariables false
set_option linter.unusedSimpArgs false
set_option maxHeartbeats 4000000
set_option maxRecDepth 100000

theorem kptx {w w' : World} (h : Kept w w' := by (repeat (first | with_reducible exact Below.refl _ _ | with_reducible assumption | with_reducible refine Kept.drop ?_ (by with_reducible assumption) | with_reducible refine Kept.alloc ?_ _ | ((with_reducible refine Below.setCell ?_ ?_ _); rotate_left 1; (focus (first | exact Nat.le_refl _ | (simp; done) | (simp; omega) | exact Below.size (by with_reducible assumption) | (refine Kept.size ?_; (exact kpt0)) | (refine Nat.le_succ_of_le (Kept.size ?_); (exact kpt0))))) | with_reducible refine Below.drew ?_))) : Kept w w' := h
end Go.Proofs.Ytemafanncejeiaa

/-
  Regions that draw their order within a round of a loop over an iterator (at the wide fence): what is shown of them outside holds there too. No program in sight.
-/
namespace Bal
open Go Go.RowKit
section
variable {P : Program} {Q : Exit → Act → World → Prop} {md : Region.Mode} {ops : Array Oper} {l : Nat} {n : Nat}

def noDefer (o : Oper) : Bool := match o.op with | .defer _ => false | _ => true

theorem rowsIn_wide' {row : String} {args : Array Value} {w : World} {R : Value → World → Prop} (h : Rows P row args w R) : RowsIn Fence.wide n P row args w R :=
  fun c cs _ => let ⟨v, w', r, s⟩ := h c cs; ⟨v, w', r, stepsIn_wide.2 s⟩

theorem operIn_of {o : Oper} {a : Act} {w : World} {K : Act → World → Prop} (hd : noDefer o = true) (h : o.wp P a w K Q) : o.wpIn (Fence.wide.inRound l) n P a w K Q := by
  refine ⟨fun _ _ => trivial, ?_⟩
  have hne : ∀ c, o.op ≠ .defer c := fun c hc => by simp [noDefer, hc] at hd
  rw [show (Fence.wide.inRound l).round = some l from rfl, Oper.semAt_eq _ _ _ hne]
  unfold Oper.wp at h
  generalize (execOp a.eval o).run P w = r at *
  cases r with
  | ok x w' =>
    cases x <;> first | exact h | exact h.elim | exact ⟨fun (h : none.isSome = true) => by (cases h), callsIn_wide.2 h⟩ | exact ⟨fun (h : none.isSome = true) => by (cases h), rowsIn_wide' h⟩
  | halt x w' => cases x <;> exact h

theorem anyIn_of (hd : ops.all noDefer = true) (hQ : ¬ LetsOut Q) : ∀ (f : Nat) (listed : Array Bool) (a : Act) (w : World), wpAny P md ops Q f listed a w → wpAnyIn (Fence.wide.inRound l) n P md ops Q f listed a w
  | 0, _, _, _, h => h
  | f + 1, listed, a, w, h => by
    refine ⟨h.1, fun i hi => ?_⟩
    have h2 := h.2 i hi
    unfold wpOp at h2
    unfold wpOpIn
    split
    · rename_i ho
      simp only [ho] at h2
      exact anyIn_of hd hQ f _ _ _ h2
    · rename_i o ho
      simp only [ho] at h2
      split
      · rename_i hw
        simp only [hw, if_true] at h2
        have hdo : noDefer o = true := by
          rw [Array.all_eq_true'] at hd
          obtain ⟨hlt, he⟩ := Array.getElem?_eq_some_iff.1 ho
          exact hd o (he ▸ Array.getElem_mem hlt)
        rcases h2 with h2 | h2
        · exact operIn_of hdo (Oper.wp_mono (fun a w h => anyIn_of hd hQ f _ _ _ h) h2)
        · exact absurd h2.2 hQ
      · rename_i hw
        simp only [hw] at h2
        exact ⟨fun _ _ => trivial, anyIn_of hd hQ f _ _ _ h2⟩

/-- Later.tail, in a round -/
theorem Later.tailIn {id : Nat} {a : Act} {w : World} {l' : List Oper} (k : Nat) (hd : l'.toArray.all noDefer = true) (hQ : ¬ LetsOut Q) (hm : P.follows .mixedOrders = true) (hB : Region.lexTailB .any l'.toArray k = true)
    (h : wpQuiet P l'.toArray (fun w' => ∃ g : Later w, w' = g.val) (fun a' => ∀ g : Later w, wpList P l'.toArray Q (l'.drop k) a' g.val) (l'.take k) a) : (Code.region id l'.toArray true).wpIn (Fence.wide.inRound l) n P Q a w := by
  simp only [Region.lexTailB, Bool.and_eq_true, decide_eq_true_eq] at hB
  obtain ⟨⟨⟨⟨hsel, hn⟩, hs⟩, hc⟩, hlex⟩ := hB
  have hn' : k < l'.length := by simpa using hn
  have htl : (l'.take k).length = k := by simp; omega
  have hdl : (l'.drop k).length = l'.toArray.size - k := by simp
  have inv0 : HeadInv .any l'.toArray k (Array.replicate l'.toArray.size false) :=
    ⟨by simp, fun j oj _ hl => (by rw [getD_replicate_false] at hl; cases hl), fun t _ ht => getD_in (by simpa using ht) (getD_replicate_false _ _)⟩
  have H := wpHeadQ_lex (md := .any) (g := l'.toArray.size - k) hsel hs hc hn (l'.take k) 0 _ a (fun j hj => by
    have hj' : j < k := by rw [htl] at hj; exact hj
    simp [hj']) (by simpa using htl) inv0 (by rw [htl]; exact hlex) h
  refine wpIn_region_any hm (anyIn_of hd hQ _ _ _ _ ?_)
  have := wpAny_of_headQ (C := fun w' => ∃ g : Later w, w' = g.val) (Q' := Q) (g := l'.toArray.size - k) (fun listed a' w' hw' hL => by
    obtain ⟨g, rfl⟩ := hw'
    have := wpAny_of_seq (md := .any) (Q' := Q) (l'.drop k) k listed a' g.val (fun j => by simp [List.getElem?_drop]) (by rw [hdl]; exact hL.1) (hL.2 g)
    rwa [hdl] at this) _ _ _ { w with drawn := w.drawn + 1 } ⟨⟨w.drew, (Below.refl _ _).drew⟩, rfl⟩ H
  rw [htl, show k + (l'.toArray.size - k) = l'.toArray.size by omega] at this
  exact this

/-- Later.region, in a round -/
theorem Later.regionIn {id : Nat} {a : Act} {w : World} {l' : List Oper} (hd : l'.toArray.all noDefer = true) (hQ : ¬ LetsOut Q) (hm : P.follows .mixedOrders = true) (hB : Region.lexB .any l'.toArray = true)
    (h : wpQuiet P l'.toArray (fun w' => ∃ g : Later w, w' = g.val) (fun a' => ∀ g : Later w, Q .normal a' g.val) l' a) : (Code.region id l'.toArray true).wpIn (Fence.wide.inRound l) n P Q a w := by
  simp only [Region.lexB, Bool.and_eq_true] at hB
  refine wpIn_region_any hm (anyIn_of hd hQ _ _ _ _ (wpAny_of_quiet (C := fun w' => ∃ g : Later w, w' = g.val) (Q := fun a' => ∀ w', (∃ g : Later w, w' = g.val) → Q .normal a' w') (fun _ w' hw' h => h w' hw') _ _ _ _ ⟨⟨w.drew, (Below.refl _ _).drew⟩, rfl⟩ ?_))
  have e : (fun a' => ∀ w', (∃ g : Later w, w' = g.val) → Q .normal a' w') = (fun a' => ∀ g : Later w, Q .normal a' g.val) := by
    funext a'
    exact propext ⟨fun h g => h _ ⟨g, rfl⟩, fun h _ ⟨g, hg⟩ => hg ▸ h g⟩
  have := wpAnyQ_lex (C := fun w' => ∃ g : Later w, w' = g.val) (md := .any) (Q := fun a' => ∀ w', (∃ g : Later w, w' = g.val) → Q .normal a' w') hB.1 l' 0 (Array.replicate l'.toArray.size false) a (by simp) (by simpa using hB.2) (by rw [e]; exact h)
  simpa using this
end

/-! ### A region without guards whose operations come in any order: one look at each operation -/
def upL (L : Nat → Bool) (i : Nat) : Nat → Bool := fun j => if j = i then true else L j
def cntL (L : Nat → Bool) : Nat → Nat
  | 0 => 0
  | k + 1 => cntL L k + (if L k then 0 else 1)
theorem cntL_up {L : Nat → Bool} {i : Nat} (h : L i = false) : ∀ k, (i < k → cntL (upL L i) k + 1 = cntL L k) ∧ (k ≤ i → cntL (upL L i) k = cntL L k)
  | 0 => ⟨fun h => by omega, fun _ => rfl⟩
  | k + 1 => by
    obtain ⟨h1, h2⟩ := cntL_up h k
    refine ⟨fun hk => ?_, fun hk => ?_⟩
    · by_cases hki : k = i
      · subst hki
        simp only [cntL, upL, if_true, h, if_false, Bool.false_eq_true]
        have := h2 (Nat.le_refl _)
        unfold upL at this
        omega
      · have := h1 (by omega)
        simp only [cntL, upL, hki, if_false]
        unfold upL at this
        omega
    · have := h2 (by omega)
      have hki : k ≠ i := by omega
      simp only [cntL, upL, hki, if_false]
      unfold upL at this
      omega
theorem cntL_zero {L : Nat → Bool} : ∀ k, cntL L k = 0 → ∀ j, j < k → L j = true
  | 0, _, j, hj => by omega
  | k + 1, h, j, hj => by
    simp only [cntL] at h
    by_cases hjk : j = k
    · subst hjk
      cases hL : L j
      · simp [hL] at h
      · rfl
    · exact cntL_zero k (by omega) j (by omega)
theorem cntL_none : ∀ k, cntL (fun _ => false) k = k
  | 0 => rfl
  | k + 1 => by simp [cntL, cntL_none k]

section
variable {P : Program} {Q : Exit → Act → World → Prop} {md : Region.Mode} {ops : Array Oper}
theorem wpAny_dp (T : (Nat → Bool) → Array Value) (ds : List Deferred) (R : (Nat → Bool) → World → Prop)
    (hg : ∀ i oi, ops[i]? = some oi → oi.guard = none ∧ ∀ e ∈ oi.after, Region.binds md e = true → e.on < i)
    (step : ∀ (i : Nat) (oi : Oper), ops[i]? = some oi → ∀ (L : Nat → Bool) (w : World), L i = false → (∀ e ∈ oi.after, Region.binds md e = true → L e.on = true) → R L w →
      ∀ K : Act → World → Prop, (∀ w', R (upL L i) w' → K ⟨T (upL L i), ds⟩ w') → oi.wp P ⟨T L, ds⟩ w K Q)
    (fin : ∀ (L : Nat → Bool) (w : World), (∀ j, j < ops.size → L j = true) → R L w → Q .normal ⟨T L, ds⟩ w) :
    ∀ (fuel : Nat) (listed : Array Bool) (L : Nat → Bool) (w : World), listed.size = ops.size → (∀ j, j < ops.size → listed.getD j false = L j) → cntL L ops.size ≤ fuel → R L w → wpAny P md ops Q fuel listed ⟨T L, ds⟩ w := by
  have hready : ∀ (listed : Array Bool) (L : Nat → Bool), listed.size = ops.size → (∀ j, j < ops.size → listed.getD j false = L j) → ∀ i, i ∈ Region.ready md ops listed → ∃ oi, ops[i]? = some oi ∧ i < ops.size ∧ L i = false ∧ ∀ e ∈ oi.after, Region.binds md e = true → L e.on = true := by
    intro listed L hsz hL i hi
    obtain ⟨hun, oi, hoi, hall⟩ := mem_ready.1 hi
    have hlt := (Array.getElem?_eq_some_iff.1 hoi).1
    refine ⟨oi, hoi, hlt, by rw [← hL i hlt]; exact getD_both hun, fun e he hb => ?_⟩
    have h1 := hall e he hb
    have h2 := (hg i oi hoi).2 e he hb
    rw [← hL e.on (by omega)]
    exact h1
  intro fuel
  induction fuel with
  | zero =>
    intro listed L w hsz hL hc hR
    have hall := cntL_zero (L := L) ops.size (by omega)
    refine ⟨?_, fin L w hall hR⟩
    cases hr : Region.ready md ops listed with
    | nil => rfl
    | cons i is =>
      obtain ⟨oi, _, hlt, hf, _⟩ := hready listed L hsz hL i (by rw [hr]; simp)
      rw [hall i hlt] at hf
      cases hf
  | succ fuel ih =>
    intro listed L w hsz hL hc hR
    refine ⟨fun hr => fin L w ?_ hR, fun i hi => ?_⟩
    · intro j
      induction j using Nat.strongRecOn with
      | ind j ihj =>
        intro hj
        cases hLj : L j with
        | true => rfl
        | false =>
          exfalso
          have : j ∈ Region.ready md ops listed := by
            obtain ⟨oj, hoj⟩ : ∃ oj, ops[j]? = some oj := ⟨ops[j], by simp [hj]⟩
            refine mem_ready.2 ⟨getD_in (by omega) (by rw [hL j hj]; exact hLj), oj, hoj, fun e he hb => ?_⟩
            have h2 := (hg j oj hoj).2 e he hb
            rw [hL e.on (by omega)]
            exact ihj e.on h2 (by omega)
          rw [hr] at this
          cases this
    · obtain ⟨oi, hoi, hlt, hf, hd⟩ := hready listed L hsz hL i hi
      unfold wpOp
      simp only [hoi]
      rw [if_pos (by simp [Region.wanted, (hg i oi hoi).1])]
      refine .inl (step i oi hoi L w hf hd hR _ fun w' hR' => ih _ _ _ (by simpa using hsz) (fun j hj => ?_) (by have := (cntL_up hf ops.size).1 hlt; omega) hR')
      unfold upL
      by_cases hji : j = i
      · subst hji
        simp [hsz, hj]
      · rw [if_neg hji, ← hL j hj]
        simp only [Array.getD_eq_getD_getElem?, Array.getElem?_setIfInBounds_ne (Ne.symm hji)]
/-- the same, where what the slots hold is known by a relation alone (new blocks lie at addresses that hang on the order) -/
theorem wpAny_rel (I : (Nat → Bool) → Act → World → Prop) {a : Act} {w : World}
    (hg : ∀ i oi, ops[i]? = some oi → oi.guard = none ∧ ∀ e ∈ oi.after, Region.binds md e = true → e.on < i) (h0 : I (fun _ => false) a w)
    (step : ∀ (i : Nat) (oi : Oper), ops[i]? = some oi → ∀ (L : Nat → Bool) (a : Act) (w : World), L i = false → (∀ e ∈ oi.after, Region.binds md e = true → L e.on = true) → I L a w →
      ∀ K : Act → World → Prop, (∀ a' w', I (upL L i) a' w' → K a' w') → oi.wp P a w K Q)
    (fin : ∀ (L : Nat → Bool) (a : Act) (w : World), (∀ j, j < ops.size → L j = true) → I L a w → Q .normal a w) :
    wpAny P md ops Q ops.size (Array.replicate ops.size false) a w := by
  have hready : ∀ (listed : Array Bool) (L : Nat → Bool), listed.size = ops.size → (∀ j, j < ops.size → listed.getD j false = L j) → ∀ i, i ∈ Region.ready md ops listed → ∃ oi, ops[i]? = some oi ∧ i < ops.size ∧ L i = false ∧ ∀ e ∈ oi.after, Region.binds md e = true → L e.on = true := by
    intro listed L hsz hL i hi
    obtain ⟨hun, oi, hoi, hall⟩ := mem_ready.1 hi
    have hlt := (Array.getElem?_eq_some_iff.1 hoi).1
    refine ⟨oi, hoi, hlt, by rw [← hL i hlt]; exact getD_both hun, fun e he hb => ?_⟩
    have h1 := hall e he hb
    have h2 := (hg i oi hoi).2 e he hb
    rw [← hL e.on (by omega)]
    exact h1
  have key : ∀ (fuel : Nat) (listed : Array Bool) (L : Nat → Bool) (a : Act) (w : World), listed.size = ops.size → (∀ j, j < ops.size → listed.getD j false = L j) → cntL L ops.size ≤ fuel → I L a w → wpAny P md ops Q fuel listed a w := by
    intro fuel
    induction fuel with
    | zero =>
      intro listed L a w hsz hL hc hR
      have hall := cntL_zero (L := L) ops.size (by omega)
      refine ⟨?_, fin L a w hall hR⟩
      cases hr : Region.ready md ops listed with
      | nil => rfl
      | cons i is =>
        obtain ⟨oi, _, hlt, hf, _⟩ := hready listed L hsz hL i (by rw [hr]; simp)
        rw [hall i hlt] at hf
        cases hf
    | succ fuel ih =>
      intro listed L a w hsz hL hc hR
      refine ⟨fun hr => fin L a w ?_ hR, fun i hi => ?_⟩
      · intro j
        induction j using Nat.strongRecOn with
        | ind j ihj =>
          intro hj
          cases hLj : L j with
          | true => rfl
          | false =>
            exfalso
            have : j ∈ Region.ready md ops listed := by
              obtain ⟨oj, hoj⟩ : ∃ oj, ops[j]? = some oj := ⟨ops[j], by simp [hj]⟩
              refine mem_ready.2 ⟨getD_in (by omega) (by rw [hL j hj]; exact hLj), oj, hoj, fun e he hb => ?_⟩
              have h2 := (hg j oj hoj).2 e he hb
              rw [hL e.on (by omega)]
              exact ihj e.on h2 (by omega)
            rw [hr] at this
            cases this
      · obtain ⟨oi, hoi, hlt, hf, hd⟩ := hready listed L hsz hL i hi
        unfold wpOp
        simp only [hoi]
        rw [if_pos (by simp [Region.wanted, (hg i oi hoi).1])]
        refine .inl (step i oi hoi L a w hf hd hR _ fun a' w' hR' => ih _ _ _ _ (by simpa using hsz) (fun j hj => ?_) (by have := (cntL_up hf ops.size).1 hlt; omega) hR')
        unfold upL
        by_cases hji : j = i
        · subst hji
          simp [hsz, hj]
        · rw [if_neg hji, ← hL j hj]
          simp only [Array.getD_eq_getD_getElem?, Array.getElem?_setIfInBounds_ne (Ne.symm hji)]
  exact key _ _ _ _ _ (by simp) (fun j hj => by simp [hj]) (by rw [cntL_none]; exact Nat.le_refl _) h0
theorem wpAny_dp0 (T : (Nat → Bool) → Array Value) (ds : List Deferred) (R : (Nat → Bool) → World → Prop) {A : Array Value} {w : World}
    (hg : ∀ i oi, ops[i]? = some oi → oi.guard = none ∧ ∀ e ∈ oi.after, Region.binds md e = true → e.on < i) (hA : A = T fun _ => false) (h0 : R (fun _ => false) w)
    (step : ∀ (i : Nat) (oi : Oper), ops[i]? = some oi → ∀ (L : Nat → Bool) (w : World), L i = false → (∀ e ∈ oi.after, Region.binds md e = true → L e.on = true) → R L w →
      ∀ K : Act → World → Prop, (∀ w', R (upL L i) w' → K ⟨T (upL L i), ds⟩ w') → oi.wp P ⟨T L, ds⟩ w K Q)
    (fin : ∀ (L : Nat → Bool) (w : World), (∀ j, j < ops.size → L j = true) → R L w → Q .normal ⟨T L, ds⟩ w) :
    wpAny P md ops Q ops.size (Array.replicate ops.size false) ⟨A, ds⟩ w := by
  subst hA
  exact wpAny_dp T ds R hg step fin _ _ _ _ (by simp) (fun j hj => by simp [hj]) (by rw [cntL_none]; exact Nat.le_refl _) h0
end

/-- what is kept is grown by nothing -/
theorem grown_of_kept {A B : World} (h : Kept A B) : A.grownBy B none := ⟨h.os, h.tape, h.output, h.size, fun k hk _ => h.block k hk⟩
theorem abides_kept {β : Type} {C : Nat} {J : β → World → Prop} (hJ : AbidesFrom C J) {s : β} {A B : World} (hs : J s A) (h : Kept A B) : J s B := hJ s A B none hs (grown_of_kept h) (fun r e => by cases e)
theorem keepsFrom_kept {W W' : World} (h : Kept W W') (B : Nat) : KeepsFrom B W W' :=
  ⟨h.size, fun k _ _ hk _ => (h.block k (Array.getElem?_eq_some_iff.1 hk).1).trans hk⟩
theorem Blk.belowR {W W' : World} {b B : Nat} {arr : Array Value} {t : TypeId} (h : Blk W b arr t) (hb : Below B W W') (hB : b < B) : Blk W' b arr t := (hb.block b hB).trans h
theorem Blk.ne {X : World} {p q : Nat} {a1 a2 : Array Value} {t1 t2 : TypeId} (h : Blk X p a1 t1) (k : Blk X q a2 t2) (hne : t1 ≠ t2) : p ≠ q := by
  rintro rfl
  have := h.symm.trans k
  simp only [Option.some.injEq, Obj.cells.injEq] at this
  exact hne this.2.1
theorem blk_from {β : Type} (B b : Nat) (arr : Array Value) (t : TypeId) : OwnFrom B (fun (_ : β) W => Blk W b arr t) := by
  intro _ X Y row hb hg hr
  refine (hg.block b (Array.getElem?_eq_some_iff.1 hb).1 (fun e => ?_)).trans hb
  obtain ⟨_, _, ho, hc⟩ := hr b e.symm
  rw [show X.heap[b]? = _ from hb] at ho
  cases ho
  cases hc
end Bal

/-
  What a cell may have had, gauge by gauge: the iterator.
-/
namespace Go.Proofs.Ytemafanncejeiaa
open Go.RowKit Go.Shelf Bal Bal.Trim Bal.Gas
set_option linter.unusedVariables false
set_option linter.unusedSimpArgs false
set_option maxHeartbeats 4000000
set_option maxRecDepth 100000
attribute [local go_sem] Oper.semAt_some

/-- the numbers of gauges, in their order -/
def Up {n : Nat} (pre : List (Fin n)) : Prop := pre.map (·.val) = List.range pre.length
theorem Up.nil {n : Nat} : Up ([] : List (Fin n)) := rfl
theorem Up.snoc {n : Nat} {pre : List (Fin n)} (h : Up pre) (x : Fin n) (hx : x.val = pre.length) : Up (pre ++ [x]) := by
  unfold Up at *
  simp [h, List.range_succ, hx]
theorem Up.init {n : Nat} {pre : List (Fin n)} {x : Fin n} (h : Up (pre ++ [x])) : Up pre ∧ x.val = pre.length := by
  unfold Up at *
  simp only [List.map_append, List.map_cons, List.map_nil, List.length_append, List.length_cons, List.length_nil, Nat.zero_add, List.range_succ] at h
  have h1 := List.append_inj_left h (by simp)
  have h2 := List.append_inj_right h (by simp)
  exact ⟨h1, by simpa using h2⟩
theorem Up.mem {n : Nat} {pre : List (Fin n)} (h : Up pre) {x : Fin n} : x ∈ pre ↔ x.val < pre.length := by
  constructor
  · intro hx
    have : x.val ∈ pre.map (·.val) := List.mem_map.2 ⟨x, hx, rfl⟩
    rw [h] at this
    simpa using this
  · intro hx
    have : x.val ∈ pre.map (·.val) := by rw [h]; simpa using hx
    obtain ⟨y, hy, e⟩ := List.mem_map.1 this
    have : y = x := Fin.ext e
    rwa [← this]
theorem at_worldR {F : Fence} {n : Nat} {P : Program} {c : Code} {Q : Exit → Act → World → Prop} {a : Act} {S : World → Prop} {W : World} (h : S W) (k : ∀ W, S W → c.wpIn F n P Q a W) : c.wpIn F n P Q a W := k W h

theorem f_told (h : Hist) (s : Spot) (c : Int) (w : World) :
    Calls Try.prog 131 #[.agg #[.slice s.aw h.warm.length s.cw, .slice s.ag h.gauges.length s.cg, .slice s.af h.flows.length s.cf], .int .i64 c] w fun e w' =>
      e = .returned (.func (.func 141) #[] #[.pointer (some ⟨w.heap.size, 0, none⟩), .pointer (some ⟨w.heap.size + 1, 0, none⟩)]) ∧ w' = (w.alloc (.cells #[.slice s.aw h.warm.length s.cw, .slice s.ag h.gauges.length s.cg, .slice s.af h.flows.length s.cf] 85)).alloc (.cells #[.int .i64 c] 3) := by
  go_enter Try.func131, Try.ntmps131
  go_wp2
  go_ret
  exact ⟨rfl, rfl⟩

def toldV (h : Hist) (c : Nat) (x : Fin h.gauges.length) : Array Value := #[.int .i64 (x.val : Int), .agg #[.int .i64 (toldLo h c x.val), .int .i64 (toldHi h c x.val)]]
/-- what a round must leave to the iterator: what lies below B, and its two boxes -/
structure KeptB (B b0 b1 : Nat) (W W' : World) : Prop where
  below : Below B W W'
  k0 : W'.heap[b0]? = W.heap[b0]?
  k1 : W'.heap[b1]? = W.heap[b1]?
theorem KeptB.trans {B b0 b1 : Nat} {X Y Z : World} (h : KeptB B b0 b1 X Y) (k : KeptB B b0 b1 Y Z) : KeptB B b0 b1 X Z := ⟨h.below.trans k.below, k.k0.trans h.k0, k.k1.trans h.k1⟩
theorem KeptB.put {B b0 b1 : Nat} {w : World} (hB : B ≤ w.heap.size) (h0 : b0 < w.heap.size) (h1 : b1 < w.heap.size) (W : World) (l : Nat) (o o' : Obj) (hl : w.heap.size ≤ l) (h : W.heap[l]? = some o) (hc : o.isCells = false) (hw : o.isWalk = false) : KeptB B b0 b1 W (W.putObj l o') :=
  ⟨belowK_b hB W l o o' hl h hc hw, World.putObj_heap_other (by omega), World.putObj_heap_other (by omega)⟩
theorem KeptB.of_kept {B b0 b1 : Nat} {W W' : World} (h : Kept W W') (hB : B ≤ W.heap.size) (h0 : b0 < W.heap.size) (h1 : b1 < W.heap.size) : KeptB B b0 b1 W W' := ⟨h.mono hB, h.block _ h0, h.block _ h1⟩
theorem KeptB.set {B b0 b1 : Nat} {W W' : World} (h : KeptB B b0 b1 W W') {a : Addr} (hB : B ≤ a.block) (h0 : a.block ≠ b0) (h1 : a.block ≠ b1) (v : Value) : KeptB B b0 b1 W (W'.setCell a v) :=
  ⟨h.below.setCell hB v, (Below.heap_setCell _ _ _ _ (Ne.symm h0)).trans h.k0, (Below.heap_setCell _ _ _ _ (Ne.symm h1)).trans h.k1⟩
theorem keptB_from {β : Type} {B b0 b1 B' : Nat} {w0 : World} (hB : B ≤ w0.heap.size) (hB' : B ≤ B') (h0 : b0 < B') (h1 : b1 < B') (z0 : b0 < w0.heap.size) (z1 : b1 < w0.heap.size) : OwnFrom B' (fun (_ : β) W => KeptB B b0 b1 w0 W) := by
  intro s X Y row hs hg hr
  refine ⟨ownFrom_below (β := β) hB hB' s X Y row hs.below hg hr, ?_, ?_⟩
  · exact (hg.block b0 (by have := hs.below.size; omega) (fun e => by have := (hr b0 e.symm).1; omega)).trans hs.k0
  · exact (hg.block b1 (by have := hs.below.size; omega) (fun e => by have := (hr b1 e.symm).1; omega)).trans hs.k1
theorem f_told1 (h : Hist) (s : Spot) (w w' : World) (hh : HistAt h s w) (hw0 : Kept w w') (ho : HistOk h) (c : Nat) (hc : c < h.warm.length) (b0 b1 : Nat) (hq0 : Blk w' b0 #[.slice s.aw h.warm.length s.cw, .slice s.ag h.gauges.length s.cg, .slice s.af h.flows.length s.cf] 85) (hq1 : Blk w' b1 #[.int .i64 c] 3) (m : Nat) (hm : 1 ≤ m) :
    SeqStopsK Fence.wide m Try.prog 141 #[.pointer (some ⟨b0, 0, none⟩), .pointer (some ⟨b1, 0, none⟩)] (toldV h c) (KeptB w.heap.size b0 b1) (fun ys => Up ys ∧ ys.length = h.gauges.length) Up h.gauges.length w' := by
  intro l J Jx W hWW hJ hJx hY h0
  have hl0 := hq0.lt
  have hl1 := hq1.lt
  have hgl := ho.g2
  have hgc := hh.gc
  have hgm := hh.gm
  have hfl := ho.f2
  have hfc := hh.fc
  have hfm := hh.fm
  unfold maxLen at hgm hfm
  have hA0 := hq0.belowR hWW hl0
  have hA1 := hq1.belowR hWW hl1
  have hW : Kept w W := hw0.trans (hWW.mono hw0.size)
  clear hWW hw0 hl0 hl1
  have KA0 := fun (W : World) (hW : Kept w W) (k : Nat) (hk : k < h.gauges.length) => f_allowed h s W (hh.later hW) ho k c hk hc
  have R20 := fun (W : World) (hW : Kept w W) => (hh.later hW).gauges
  have R30 := fun (W : World) (hW : Kept w W) => (hh.later hW).flows
  clear hq0 hq1 hh
  obtain ⟨aw, ag, af, cw, cg, cf⟩ := s
  simp only at KA0 R20 R30 hgc hgm hfc hfm hA0
  have KA := Lib.hid KA0
  have R2 := Lib.hid R20
  have R3 := Lib.hid R30
  clear KA0 R20 R30
  refine callsIn_of_wp Try.func141 rfl trivial ?_ rfl
  simp only [Try.ntmps141, List.size_toArray, List.length_cons, List.length_nil, Nat.reduceAdd, Nat.reduceSub, Array.replicate_succ, Array.replicate_zero, List.push_toArray, List.append_toArray, List.nil_append, List.cons_append]
  have hA0c0 := hA0.cell 0
  have hA0f0 := hA0.free 0
  have hA0c1 := hA0.cell 1
  have hA0f1 := hA0.free 1
  have hA0c2 := hA0.cell 2
  have hA0f2 := hA0.free 2
  have hA0l := hA0.lt
  simp at hA0c0 hA0c1 hA0c2
  gi_wp2
  gi_loopw [12] (fun i wr => ∃ (pre : List (Fin h.gauges.length)) (k : Nat), k ≤ h.gauges.length ∧ i = .int .i64 k ∧ Up pre ∧ pre.length = k ∧ J pre wr ∧ Blk wr b0 #[.slice aw h.warm.length cw, .slice ag h.gauges.length cg, .slice af h.flows.length cf] 85 ∧ Blk wr b1 #[.int .i64 c] 3 ∧ Kept w wr) (fun i _ => h.gauges.length - (intOf i).toNat)
  case atStart => exact ⟨[], 0, Nat.zero_le _, rfl, Up.nil, rfl, h0, hA0, hA1, hW⟩
  case round =>
    clear hA0 hA1 h0 hW hA0c0 hA0f0 hA0c1 hA0f1 hA0c2 hA0f2 hA0l
    obtain ⟨pre, k, hk, rfl, hup, hpl, hJ0, q0, q1, hkr⟩ := hrel
    have HUP := Lib.hid hup
    have HJ0 := Lib.hid hJ0
    have HPL := Lib.hid hpl
    have hlr0 := Blk.lt q0
    have hlr1 := Blk.lt q1
    have q0c0 := q0.cell 0
    have q0f0 := q0.free 0
    have q0c1 := q0.cell 1
    have q0f1 := q0.free 1
    have q0c2 := q0.cell 2
    have q0f2 := q0.free 2
    have q0l := q0.lt
    simp at q0c0 q0c1 q0c2
    have q1c0 := q1.cell 0
    have q1f0 := q1.free 0
    have q1l := q1.lt
    simp at q1c0
    by_cases hlt : k < h.gauges.length
    · obtain ⟨bg, og, rfl, hbg, g0, g1, g2, g3, g4, g5⟩ := Gauge.row (R2.out _ hkr) k hlt
      rw [gAt_get hlt] at g0 g1 g2 g3 g4 g5
      have HTT0 : tt h k = (gAt h k).time := rfl
      obtain ⟨g, hg⟩ : ∃ g, g = gAt h k := ⟨_, rfl⟩
      rw [← hg] at g0 g1 g2 g3 g4 g5 HTT0
      obtain ⟨va, hva⟩ : ∃ va, va = gv g := ⟨_, rfl⟩
      rw [← hva] at g5
      clear hg hva
      have HTT := Lib.hid HTT0
      obtain ⟨L, hL⟩ : ∃ n, n = alLo h k c := ⟨_, rfl⟩
      obtain ⟨H, hH⟩ : ∃ n, n = alHi h k c := ⟨_, rfl⟩
      have bd := (al_bd ho hlt hc).2.2.2
      rw [← hL, ← hH] at bd
      have HTL0 : toldLo h c k = L - come h c (tt h 0) (tt h k) := by unfold toldLo; rw [hL]
      have HTH0 : toldHi h c k = H - come h c (tt h 0) (tt h k) := by unfold toldHi; rw [hH]
      have HL := Lib.hid hL.symm
      have HH := Lib.hid hH.symm
      have HTL := Lib.hid HTL0
      have HTH := Lib.hid HTH0
      clear hL hH HTL0 HTH0 HTT0
      gi_wp2_with (refine ⟨trivial, ?_⟩; gi_at_call 125; (refine (callsIn_wide.2 (KA.out _ (by (exact kpt)) k hlt)).mono ?_); rw [HL.out, HH.out]; rintro e w2 ⟨rfl, hb2⟩; refine Blk.thru (b := b0) (arr := ?_) (t := ?_) ?_ hb2 ?_; rotate_left 2; (focus (exact blk)); intro q0; have q0c0 := q0.cell 0; have q0f0 := q0.free 0; have q0c1 := q0.cell 1; have q0f1 := q0.free 1; have q0c2 := q0.cell 2; have q0f2 := q0.free 2; have q0l := q0.lt; simp at q0c0 q0c1 q0c2; refine Blk.thru (b := b1) (arr := ?_) (t := ?_) ?_ hb2 ?_; rotate_left 2; (focus (exact blk)); intro q1; have q1c0 := q1.cell 0; have q1f0 := q1.free 0; have q1l := q1.lt; simp at q1c0; refine Blk.thru (b := wr.heap.size) (arr := ?_) (t := ?_) ?_ hb2 ?_; rotate_left 2; (focus (exact blk)); intro qg; have qgc0 := qg.cell 0; have qgf0 := qg.free 0; have qgc1 := qg.cell 1; have qgf1 := qg.free 1; have qgc2 := qg.cell 2; have qgf2 := qg.free 2; have qgc3 := qg.cell 3; have qgf3 := qg.free 3; have qgc4 := qg.cell 4; have qgf4 := qg.free 4; have qgc5 := qg.cell 5; have qgf5 := qg.free 5; have qgl := qg.lt; simp at qgc0 qgc1 qgc2 qgc3 qgc4 qgc5)
      refine at_worldR (S := fun V => Blk V b0 #[.slice aw h.warm.length cw, .slice (some ⟨bg, og, none⟩) h.gauges.length cg, .slice af h.flows.length cf] 85 ∧ Blk V b1 #[.int .i64 c] 3 ∧ Blk V wr.heap.size #[.int .i64 g.time, .int .i64 g.air.plo, .int .i64 g.air.phi, .int .i64 g.air.tlo, .int .i64 g.air.thi, .slice va g.vols.length g.vc] 124 ∧ Blk V w2.heap.size #[.int .i64 (L - 0), .int .i64 (H - 0)] 23 ∧ Kept wr V ∧ Kept w V) ⟨by (exact blkc), by (exact blkc), by (exact blkc), by rw [Int.sub_zero, Int.sub_zero]; (exact blkc), by (exact kpt), by (exact kpt)⟩ ?_
      clear q0 q1 qg q0c0 q0f0 q0c1 q0f1 q0c2 q0f2 q0l q1c0 q1f0 q1l qgc0 qgf0 qgc1 qgf1 qgc2 qgf2 qgc3 qgf3 qgc4 qgf4 qgc5 qgf5 qgl
      clear q0 q1
      rintro V ⟨q0, q1, qg, q6, hkV, hkVw⟩
      have hz1 := hb2.size
      simp only [World.size_alloc] at hz1
      have hne0 : w2.heap.size ≠ b0 := by omega
      have hne1 : w2.heap.size ≠ b1 := by omega
      clear hlr0 hlr1
      have hneg : w2.heap.size ≠ wr.heap.size := by omega
      have hzz : wr.heap.size ≤ w2.heap.size := by omega
      have hzw : w.heap.size ≤ w2.heap.size := by have := hkr.size; omega
      obtain ⟨T0, hT0⟩ : ∃ n, n = tt h 0 := ⟨_, rfl⟩
      have HT0 := Lib.hid hT0
      have HBD := Lib.hid (fun j => come_bd ho c T0 g.time j)
      have HFLO := Lib.hid ho.flow
      have HCM := Lib.hid (come_all h c T0 g.time)
      rw [← hT0, HTT.out] at HTL HTH
      clear hT0 hkr q0f0
      obtain ⟨Z, rfl⟩ : ∃ Z : World, Z = wr := ⟨_, rfl⟩
      gi_loopw [24] (fun i wr => ∃ j : Nat, j ≤ h.flows.length ∧ i = .int .i64 j ∧ Blk wr b0 #[.slice aw h.warm.length cw, .slice (some ⟨bg, og, none⟩) h.gauges.length cg, .slice af h.flows.length cf] 85 ∧ Blk wr b1 #[.int .i64 c] 3 ∧ Blk wr Z.heap.size #[.int .i64 g.time, .int .i64 g.air.plo, .int .i64 g.air.phi, .int .i64 g.air.tlo, .int .i64 g.air.thi, .slice va g.vols.length g.vc] 124 ∧ Blk wr w2.heap.size #[.int .i64 (L - sumBy (flowN c T0 g.time) (h.flows.take j)), .int .i64 (H - sumBy (flowN c T0 g.time) (h.flows.take j))] 23 ∧ Kept Z wr ∧ Kept w wr) (fun i _ => h.flows.length - (intOf i).toNat)
      case atStart => exact ⟨0, Nat.zero_le _, rfl, q0, q1, qg, by simpa using q6, hkV, hkVw⟩
      case round =>
        clear q0 q1 qg q6 hkV hkVw
        obtain ⟨j, hj, rfl, q0, q1, qg, q6, hkz, hkw⟩ := hrel
        have q0c0 := q0.cell 0
        have q0f0 := q0.free 0
        have q0c1 := q0.cell 1
        have q0f1 := q0.free 1
        have q0c2 := q0.cell 2
        have q0f2 := q0.free 2
        have q0l := q0.lt
        simp at q0c0 q0c1 q0c2
        have sbd := HBD.out j
        by_cases hlt2 : j < h.flows.length
        · have ES0 := sumBy_take (flowN c T0 g.time) h.flows j hlt2
          obtain ⟨S, hS⟩ : ∃ S, S = sumBy (flowN c T0 g.time) (h.flows.take j) := ⟨_, rfl⟩
          rw [← hS] at ES0 q6 sbd
          obtain ⟨A, hA⟩ : ∃ A, A = L - S := ⟨_, rfl⟩
          obtain ⟨B, hB⟩ : ∃ B, B = H - S := ⟨_, rfl⟩
          rw [← hA, ← hB] at q6
          obtain ⟨bf, of, rfl, hbf, c0, c1, c2⟩ := Flow.row (R3.out _ hkw) j hlt2
          obtain ⟨x, hx⟩ : ∃ x, x = h.flows[j] := ⟨_, rfl⟩
          have hxb := HFLO.out x (by rw [hx]; exact List.getElem_mem hlt2)
          obtain ⟨⟨x1, x2⟩, ⟨x3, x4⟩, x5, x6⟩ := hxb
          rw [← hx] at c0 c1 c2 ES0
          have w1 := i64_inH (n := A - x.n) (by omega)
          have w2_ := i64_inH (n := B - x.n) (by omega)
          have hAA := Lib.hid hA
          have hBB := Lib.hid hB
          clear hx hA hB hS
          gi_wp2
          clear c0 c1 c2
          refine at_worldR (S := fun V => Blk V b0 #[.slice aw h.warm.length cw, .slice (some ⟨bg, og, none⟩) h.gauges.length cg, .slice (some ⟨bf, of, none⟩) h.flows.length cf] 85 ∧ Blk V b1 #[.int .i64 c] 3 ∧ Blk V Z.heap.size #[.int .i64 g.time, .int .i64 g.air.plo, .int .i64 g.air.phi, .int .i64 g.air.tlo, .int .i64 g.air.thi, .slice va g.vols.length g.vc] 124 ∧ Blk V w2.heap.size #[.int .i64 A, .int .i64 B] 23 ∧ Blk V wr.heap.size #[.int .i64 x.time, .int .i64 x.cell, .int .i64 x.n] 128 ∧ Kept Z V ∧ Kept w V) ⟨by (exact blkc), by (exact blkc), by (exact blkc), by (exact blkc), by (exact blkc), by (exact kpt), by (exact kpt)⟩ ?_
          clear q0 q1 qg q6 hkz hkw q0c0 q0f0 q0c1 q0f1 q0c2 q0f2 q0l
          rintro V ⟨q0, q1, qg, q6, qx, hkV, hkVw⟩
          obtain ⟨bg', og', hag', hbg', e0, _⟩ := Gauge.row (R2.out _ hkVw) 0 (by omega)
          obtain ⟨rfl, rfl⟩ : bg = bg' ∧ og = og' := by simpa using hag'
          rw [gAt_get (by omega), show (gAt h 0).time = T0 from HT0.out.symm] at e0
          simp only [Nat.zero_mul, Nat.add_zero] at e0
          have y0 := fun g_ : Later V => g_.some e0
          clear e0 hag'
          have q0c0 := fun g : Later V => (q0.later g).cell 0
          have q0f0 := fun g : Later V => (q0.later g).free 0
          have q0c1 := fun g : Later V => (q0.later g).cell 1
          have q0f1 := fun g : Later V => (q0.later g).free 1
          have q0c2 := fun g : Later V => (q0.later g).cell 2
          have q0f2 := fun g : Later V => (q0.later g).free 2
          have q0l := fun g : Later V => (q0.later g).lt
          simp at q0c0 q0c1 q0c2
          have q1c0 := fun g : Later V => (q1.later g).cell 0
          have q1f0 := fun g : Later V => (q1.later g).free 0
          have q1l := fun g : Later V => (q1.later g).lt
          simp at q1c0
          have qgc0 := fun g : Later V => (qg.later g).cell 0
          have qgf0 := fun g : Later V => (qg.later g).free 0
          have qgc1 := fun g : Later V => (qg.later g).cell 1
          have qgf1 := fun g : Later V => (qg.later g).free 1
          have qgc2 := fun g : Later V => (qg.later g).cell 2
          have qgf2 := fun g : Later V => (qg.later g).free 2
          have qgc3 := fun g : Later V => (qg.later g).cell 3
          have qgf3 := fun g : Later V => (qg.later g).free 3
          have qgc4 := fun g : Later V => (qg.later g).cell 4
          have qgf4 := fun g : Later V => (qg.later g).free 4
          have qgc5 := fun g : Later V => (qg.later g).cell 5
          have qgf5 := fun g : Later V => (qg.later g).free 5
          have qgl := fun g : Later V => (qg.later g).lt
          simp at qgc0 qgc1 qgc2 qgc3 qgc4 qgc5
          have qxc0 := fun g : Later V => (qx.later g).cell 0
          have qxf0 := fun g : Later V => (qx.later g).free 0
          have qxc1 := fun g : Later V => (qx.later g).cell 1
          have qxf1 := fun g : Later V => (qx.later g).free 1
          have qxc2 := fun g : Later V => (qx.later g).cell 2
          have qxf2 := fun g : Later V => (qx.later g).free 2
          have qxl := fun g : Later V => (qx.later g).lt
          simp at qxc0 qxc1 qxc2
          have g1 : 0 < h.gauges.length := by omega
          by_cases k1 : x.cell = (c : Int)
          · have e1 : (x.cell == (c : Int)) = true := by simp [k1]
            have e2 : decide (x.cell = (c : Int)) = true := by simp [k1]
            by_cases k2 : T0 < x.time
            · have e3 : decide (T0 < x.time) = true := by simp [k2]
              by_cases k3 : x.time ≤ g.time
              · have e4 : decide (x.time ≤ g.time) = true := by simp [k3]
                have EA := Lib.hid (show L - sumBy (flowN c T0 g.time) (h.flows.take (j + 1)) = A - x.n by rw [ES0, hAA.out, show flowN c T0 g.time x = x.n by simp [flowN, flowIn, k1, k2, k3]]; omega)
                have EB := Lib.hid (show H - sumBy (flowN c T0 g.time) (h.flows.take (j + 1)) = B - x.n by rw [ES0, hBB.out, show flowN c T0 g.time x = x.n by simp [flowN, flowIn, k1, k2, k3]]; omega)
                clear k1 k2 k3 ES0
                refine wpIn_wide.2 (Later.region (by kernel_rfl) (by kernel_rfl) ?_)
                repeat (first | go_big_quiet_skip | (go_big_quiet_want; go_big_quiet_op; first | go_big_quiet_on | (apply Exists.intro; refine ⟨fun g_ => ?_, ?_⟩; (focus (first | fail)); go_big_quiet_on)))
                refine wpQuiet_nil ?_
                intro gg
                have n0 := q0.later gg
                have n1 := q1.later gg
                have ng := qg.later gg
                have n6 := q6.later gg
                have nx := qx.later gg
                have hkg := Kept.drop hkV gg.ok
                have hkgw := Kept.drop hkVw gg.ok
                clear q0c0 q0f0 q0c1 q0f1 q0c2 q0f2 q0l qgc0 qgf0 qgc1 qgf1 qgc2 qgf2 qgc3 qgf3 qgc4 qgf4 qgc5 qgf5 qgl qxc0 qxf0 qxc1 qxf1 qxc2 qxf2 qxl q1c0 q1f0 q1l
                have n6c0 := n6.cell 0
                have n6f0 := n6.free 0
                have n6c1 := n6.cell 1
                have n6f1 := n6.free 1
                have n6l := n6.lt
                simp at n6c0 n6c1
                have nxc0 := nx.cell 0
                have nxf0 := nx.free 0
                have nxc1 := nx.cell 1
                have nxf1 := nx.free 1
                have nxc2 := nx.cell 2
                have nxf2 := nx.free 2
                have nxl := nx.lt
                simp at nxc0 nxc1 nxc2
                gi_wp2
                go_roundw
                case rel => exact ⟨j + 1, by omega, by go_num, (Blk.other (Blk.other n0 hne0 _) hne0 _), (Blk.other (Blk.other n1 hne1 _) hne1 _), (Blk.other (Blk.other ng hneg _) hneg _), by have z := ((n6.set 0 (.int .i64 (A - x.n))).set 1 (.int .i64 (B - x.n))); rw [EA.out, EB.out]; simpa using z, by (exact kpt), by (exact kpt)⟩
                case measure => simp [intOf]; omega
              · have e4 : decide (x.time ≤ g.time) = false := by simp; omega
                have EA := Lib.hid (show L - sumBy (flowN c T0 g.time) (h.flows.take (j + 1)) = A by rw [ES0, hAA.out, show flowN c T0 g.time x = 0 by simp [flowN, flowIn, k1, k2, k3]]; omega)
                have EB := Lib.hid (show H - sumBy (flowN c T0 g.time) (h.flows.take (j + 1)) = B by rw [ES0, hBB.out, show flowN c T0 g.time x = 0 by simp [flowN, flowIn, k1, k2, k3]]; omega)
                clear k1 k2 k3 ES0
                refine wpIn_wide.2 (Later.region (by kernel_rfl) (by kernel_rfl) ?_)
                repeat (first | go_big_quiet_skip | (go_big_quiet_want; go_big_quiet_op; first | go_big_quiet_on | (apply Exists.intro; refine ⟨fun g_ => ?_, ?_⟩; (focus (first | fail)); go_big_quiet_on)))
                refine wpQuiet_nil ?_
                intro gg
                have n0 := q0.later gg
                have n1 := q1.later gg
                have ng := qg.later gg
                have n6 := q6.later gg
                have nx := qx.later gg
                have hkg := Kept.drop hkV gg.ok
                have hkgw := Kept.drop hkVw gg.ok
                clear q0c0 q0f0 q0c1 q0f1 q0c2 q0f2 q0l qgc0 qgf0 qgc1 qgf1 qgc2 qgf2 qgc3 qgf3 qgc4 qgf4 qgc5 qgf5 qgl qxc0 qxf0 qxc1 qxf1 qxc2 qxf2 qxl q1c0 q1f0 q1l
                gi_wp2
                go_roundw
                case rel => exact ⟨j + 1, by omega, by go_num, n0, n1, ng, by rw [EA.out, EB.out]; exact n6, by (exact kpt), by (exact kpt)⟩
                case measure => simp [intOf]; omega
            · have e3 : decide (T0 < x.time) = false := by simp; omega
              have EA := Lib.hid (show L - sumBy (flowN c T0 g.time) (h.flows.take (j + 1)) = A by rw [ES0, hAA.out, show flowN c T0 g.time x = 0 by simp [flowN, flowIn, k1, k2]]; omega)
              have EB := Lib.hid (show H - sumBy (flowN c T0 g.time) (h.flows.take (j + 1)) = B by rw [ES0, hBB.out, show flowN c T0 g.time x = 0 by simp [flowN, flowIn, k1, k2]]; omega)
              clear k1 k2 ES0
              refine wpIn_wide.2 (Later.region (by kernel_rfl) (by kernel_rfl) ?_)
              repeat (first | go_big_quiet_skip | (go_big_quiet_want; go_big_quiet_op; first | go_big_quiet_on | (apply Exists.intro; refine ⟨fun g_ => ?_, ?_⟩; (focus (first | fail)); go_big_quiet_on)))
              refine wpQuiet_nil ?_
              intro gg
              have n0 := q0.later gg
              have n1 := q1.later gg
              have ng := qg.later gg
              have n6 := q6.later gg
              have nx := qx.later gg
              have hkg := Kept.drop hkV gg.ok
              have hkgw := Kept.drop hkVw gg.ok
              clear q0c0 q0f0 q0c1 q0f1 q0c2 q0f2 q0l qgc0 qgf0 qgc1 qgf1 qgc2 qgf2 qgc3 qgf3 qgc4 qgf4 qgc5 qgf5 qgl qxc0 qxf0 qxc1 qxf1 qxc2 qxf2 qxl q1c0 q1f0 q1l
              gi_wp2
              go_roundw
              case rel => exact ⟨j + 1, by omega, by go_num, n0, n1, ng, by rw [EA.out, EB.out]; exact n6, by (exact kpt), by (exact kpt)⟩
              case measure => simp [intOf]; omega
          · have e1 : (x.cell == (c : Int)) = false := by simp [k1]
            have e2 : decide (x.cell = (c : Int)) = false := by simp [k1]
            have EA := Lib.hid (show L - sumBy (flowN c T0 g.time) (h.flows.take (j + 1)) = A by rw [ES0, hAA.out, show flowN c T0 g.time x = 0 by simp [flowN, flowIn, k1]]; omega)
            have EB := Lib.hid (show H - sumBy (flowN c T0 g.time) (h.flows.take (j + 1)) = B by rw [ES0, hBB.out, show flowN c T0 g.time x = 0 by simp [flowN, flowIn, k1]]; omega)
            clear k1 ES0
            refine wpIn_wide.2 (Later.region (by kernel_rfl) (by kernel_rfl) ?_)
            repeat (first | go_big_quiet_skip | (go_big_quiet_want; go_big_quiet_op; first | go_big_quiet_on | (apply Exists.intro; refine ⟨fun g_ => ?_, ?_⟩; (focus (first | fail)); go_big_quiet_on)))
            refine wpQuiet_nil ?_
            intro gg
            have n0 := q0.later gg
            have n1 := q1.later gg
            have ng := qg.later gg
            have n6 := q6.later gg
            have nx := qx.later gg
            have hkg := Kept.drop hkV gg.ok
            have hkgw := Kept.drop hkVw gg.ok
            clear q0c0 q0f0 q0c1 q0f1 q0c2 q0f2 q0l qgc0 qgf0 qgc1 qgf1 qgc2 qgf2 qgc3 qgf3 qgc4 qgf4 qgc5 qgf5 qgl qxc0 qxf0 qxc1 qxf1 qxc2 qxf2 qxl q1c0 q1f0 q1l
            gi_wp2
            go_roundw
            case rel => exact ⟨j + 1, by omega, by go_num, n0, n1, ng, by rw [EA.out, EB.out]; exact n6, by (exact kpt), by (exact kpt)⟩
            case measure => simp [intOf]; omega
        · obtain rfl : j = h.flows.length := by omega
          rw [← HCM.out, ← HTL.out, ← HTH.out] at q6
          obtain ⟨fn, tmps, assign, body, hy, hR⟩ := hY pre ⟨k, hlt⟩ wr (abides_kept hJ HJ0.out hkz) (by omega)
          dsimp only [toldV] at hy
          obtain ⟨TL, hTL⟩ : ∃ n, n = toldLo h c k := ⟨_, rfl⟩
          obtain ⟨TH, hTH⟩ : ∃ n, n = toldHi h c k := ⟨_, rfl⟩
          rw [← hTL, ← hTH] at hy q6
          have q6c0 := q6.cell 0
          have q6f0 := q6.free 0
          have q6c1 := q6.cell 1
          have q6f1 := q6.free 1
          have q6l := q6.lt
          simp at q6c0 q6c1
          have HR := Lib.hid hR
          clear hR hTL hTH sbd
          gi_wp2
          refine HR.out.mono ?_
          clear hy q6c0 q6f0 q6c1 q6f1 q6l q0c0 q0f0 q0c1 q0f1 q0c2 q0f2 q0l
          rintro e W3 (⟨rfl, hJ3, hk3⟩ | ⟨rfl, hJx3⟩)
          · gi_wp2
            go_roundw
            case rel => exact ⟨pre ++ [⟨k, hlt⟩], k + 1, by omega, by go_num, HUP.out.snoc _ HPL.out.symm, by simp [HPL.out], hJ3, hk3.k0.trans q0, hk3.k1.trans q1, hkw.trans hk3.below⟩
            case measure => simp [intOf]; omega
          · gi_wp2
            refine bodyPost_ret (results_none rfl _ _ _) rfl ⟨⟨_, rfl⟩, .inr ⟨pre ++ [⟨k, hlt⟩], HUP.out.snoc _ HPL.out.symm, hJx3⟩⟩
    · obtain rfl : k = h.gauges.length := by omega
      gi_wp2
      go_end0
      exact ⟨⟨_, rfl⟩, .inl ⟨pre, ⟨hup, hpl⟩, hJ0⟩⟩

end Go.Proofs.Ytemafanncejeiaa

/-
  A range over an iterator that keeps its state in cells of its own, and hands over values that show them: its contract, and the law of the caller. No program in sight.
-/
namespace Bal
open Go Go.RowKit
variable {F : Fence} {n : Nat} {P : Program}

/-! ### The marks that the loops have left -/
def marks (Ds : List Nat) : List Deferred := Ds.map fun D => { target := .collected D, args := #[] }
/-- each mark's block is there, with no call -/
def Marked (B : Nat) (Ds : List Nat) (W : World) : Prop := Ds.Nodup ∧ ∀ D ∈ Ds, B ≤ D ∧ W.heap[D]? = some (.deferred (some []))
theorem Marked.keep {B C : Nat} {Ds : List Nat} {W W' : World} (h : Marked B Ds W) (hb : Below C W W') (hC : W.heap.size ≤ C) : Marked B Ds W' :=
  ⟨h.1, fun D hD => ⟨(h.2 D hD).1, (hb.block D (by have := (Array.getElem?_eq_some_iff.1 (h.2 D hD).2).1; omega)).trans (h.2 D hD).2⟩⟩
theorem Marked.from {B C : Nat} {Ds : List Nat} {W W' : World} (h : Marked B Ds W) (hk : KeepsFrom C W W') (hC : C ≤ B) : Marked B Ds W' :=
  ⟨h.1, fun D hD => ⟨(h.2 D hD).1, hk.same D _ (by have := (h.2 D hD).1; omega) (h.2 D hD).2 rfl⟩⟩
/-- a function leaves through its marks: what its ending says must abide their turn -/
theorem leaves_marks {fn : Func} {tmps : Array Value} {R : Ending → World → Prop} {B : Nat} (S : World → Prop) (hS : OwnFrom B (fun (_ : Unit) W => S W)) (hend : ∀ W, S W → LeavesIn F n P fn tmps R [] .returning W) :
    ∀ (Ds : List Nat) (W : World), Marked B Ds W → S W → LeavesInM F n P fn tmps R (marks Ds) .returning W
  | [], W, _, h => hend W h
  | D :: Ds, W, hm, h => by
    obtain ⟨hnd, hm⟩ := hm
    obtain ⟨hB, hD⟩ := hm D (by simp)
    refine ⟨by simp, .inl ⟨D, _, rfl, run_takeDeferred hD, leaves_marks S hS hend Ds _ ⟨(List.nodup_cons.1 hnd).2, fun E hE => ?_⟩ (hS.putObj (s := ()) _ h hB hD rfl)⟩⟩
    have hne : E ≠ D := fun e => (List.nodup_cons.1 hnd).1 (e ▸ hE)
    exact ⟨(hm E (by simp [hE])).1, (World.putObj_heap_other hne).trans (hm E (by simp [hE])).2⟩
end Bal

/-
  What can have leaked of a cell: the program.
-/
namespace Go.Proofs.Ytemafanncejeiaa
open Go.RowKit Go.Shelf Bal Bal.Trim Bal.Gas
set_option linter.unusedVariables false
set_option linter.unusedSimpArgs false
set_option maxHeartbeats 4000000
set_option maxRecDepth 100000
attribute [local go_sem] Oper.semAt_some ite_max ite_min toldV

def hiTo (h : Hist) (c k : Nat) : Int := if k = 0 then 0 else if k = h.gauges.length then toldHi h c 0 - toldLo h c (h.gauges.length - 1) else toldHi h c 0
/-- what the loop's cells hold when the gauges pre have come -/
def LostI (h : Hist) (c : Nat) (b2 b3 b4 : Nat) (pre : List (Fin h.gauges.length)) (W : World) : Prop :=
  ∃ nd cn hi : Int, (-1152921504606846976 ≤ nd ∧ nd ≤ 121000000000) ∧ (-1000000000 ≤ cn ∧ cn ≤ 1152921504606846976) ∧ (-(200000000000 * ((pre.length : Int) + 1)) ≤ hi ∧ hi ≤ 200000000000 * ((pre.length : Int) + 1)) ∧
    Blk W b2 #[.int .i64 nd] 3 ∧ Blk W b3 #[.int .i64 cn] 3 ∧ Blk W b4 #[.int .i64 0, .int .i64 hi] 23 ∧
    (Up pre → nd = needTo h c pre.length ∧ cn = canTo h c pre.length ∧ hi = hiTo h c pre.length)
theorem lostI_from (B : Nat) (h : Hist) (c b2 b3 b4 : Nat) : OwnFrom B (LostI h c b2 b3 b4) := by
  rintro pre X Y row ⟨nd, cn, hi, e1, e2, e3, k2, k3, k4, hu⟩ hg hr
  exact ⟨nd, cn, hi, e1, e2, e3, blk_from (β := Unit) B _ _ _ () X Y row k2 hg hr, blk_from (β := Unit) B _ _ _ () X Y row k3 hg hr, blk_from (β := Unit) B _ _ _ () X Y row k4 hg hr, hu⟩
theorem f_lost (h : Hist) (s : Spot) (w : World) (hh : HistAt h s w) (ho : HistOk h) (c : Nat) (hc : c < h.warm.length) :
    Calls Try.prog 128 #[.agg #[.slice s.aw h.warm.length s.cw, .slice s.ag h.gauges.length s.cg, .slice s.af h.flows.length s.cf], .int .i64 c] w fun e w' => e = .returned (.agg #[.int .i64 (lostLo h c), .int .i64 (lostHi h c)]) ∧ Kept w w' := by
  have hg1 := ho.g1
  have hg2 := ho.g2
  have hgc := hh.gc
  have hgm := hh.gm
  unfold maxLen at hgm
  refine (callsIn_wide (n := 6)).1 ?_
  refine callsIn_of_wp_marks Try.func128 rfl trivial ?_ rfl
  simp only [Try.ntmps128, List.size_toArray, List.length_cons, List.length_nil, Nat.reduceAdd, Nat.reduceSub, Array.replicate_succ, Array.replicate_zero, List.push_toArray, List.append_toArray, List.nil_append, List.cons_append]
  gi_wp2_with (refine ⟨trivial, ?_⟩; gi_at_call 131; (refine (callsIn_wide.2 (f_told h s _ _)).mono ?_); rintro e w1 ⟨rfl, rfl⟩)
  refine at_worldR (S := fun V => Blk V w.heap.size #[.slice s.aw h.warm.length s.cw, .slice s.ag h.gauges.length s.cg, .slice s.af h.flows.length s.cf] 85 ∧ Blk V (w.heap.size + 1) #[.int .i64 0, .int .i64 0] 23 ∧ Blk V (w.heap.size + 1 + 1) #[.int .i64 (-1152921504606846976)] 3 ∧ Blk V (w.heap.size + 1 + 1 + 1) #[.int .i64 1152921504606846976] 3 ∧ Blk V (w.heap.size + 1 + 1 + 1 + 1) #[.int .i64 0, .int .i64 0] 23 ∧ Blk V (w.heap.size + 1 + 1 + 1 + 1 + 1) #[.slice s.aw h.warm.length s.cw, .slice s.ag h.gauges.length s.cg, .slice s.af h.flows.length s.cf] 85 ∧ Blk V (w.heap.size + 1 + 1 + 1 + 1 + 1 + 1) #[.int .i64 c] 3 ∧ Kept w V) ⟨by (exact blkc), by (exact blkc), by (exact blkc), by (exact blkc), by (exact blkc), by (exact blkc), by (exact blkc), by (exact kpt)⟩ ?_
  rintro V ⟨k0, k1, k2, k3, k4, k5, k6, hkV⟩
  have hs0 := (Blk.lt k6)
  have HH2 := hh.later hkV
  obtain ⟨n0, hn0⟩ : ∃ n, n = h.gauges.length := ⟨_, rfl⟩
  refine wpIn_rangeFunc_ownH (gf := 141) (lb := #[.pointer (some ⟨w.heap.size + 1 + 1 + 1 + 1 + 1, 0, none⟩), .pointer (some ⟨w.heap.size + 1 + 1 + 1 + 1 + 1 + 1, 0, none⟩)]) rfl (by omega) rfl trivial (enters_of Try.func141 (by kernel_rfl) rfl)
    (f_told1 h s w V hh hkV ho c hc (w.heap.size + 1 + 1 + 1 + 1 + 1) (w.heap.size + 1 + 1 + 1 + 1 + 1 + 1) k5 k6 5 (by omega)) KeptB.trans (KeptB.put hkV.size k5.lt k6.lt) (Below.refl _ _) (fun _ => rfl)
    (fun pre W => LostI h c (w.heap.size + 1 + 1) (w.heap.size + 1 + 1 + 1) (w.heap.size + 1 + 1 + 1 + 1) pre W ∧ Blk W w.heap.size #[.slice s.aw h.warm.length s.cw, .slice s.ag h.gauges.length s.cg, .slice s.af h.flows.length s.cf] 85 ∧ Blk W (w.heap.size + 1) #[.int .i64 0, .int .i64 0] 23 ∧ Kept w W ∧ V.heap.size ≤ W.heap.size)
    (fun _ _ _ => False)
    (OwnFrom.and (lostI_from _ _ _ _ _ _) (OwnFrom.and (blk_from _ _ _ _) (OwnFrom.and (blk_from _ _ _ _) (OwnFrom.and (ownFrom_below (Nat.le_refl _) hkV.size) (fun _ _ _ _ hs hg _ => Nat.le_trans hs hg.size)))))
    (fun _ _ _ _ _ hs _ _ => hs)
    ⟨⟨-1152921504606846976, 1152921504606846976, 0, by omega, by omega, by simp, k2, k3, k4, fun _ => ⟨rfl, rfl, rfl⟩⟩, k0, k1, hkV, Nat.le_refl _⟩
    (fun x a' W => ∃ Bx, V.heap.size ≤ Bx ∧ Blk W Bx #[.int .i64 (toldLo h c x.val), .int .i64 (toldHi h c x.val)] 23 ∧ a' = { tmps := #[.agg #[.slice s.aw h.warm.length s.cw, .slice s.ag h.gauges.length s.cg, .slice s.af h.flows.length s.cf], .int .i64 c, .pointer (some ⟨w.heap.size, 0, none⟩), undef, .pointer (some ⟨w.heap.size + 1, 0, none⟩), .pointer (some ⟨w.heap.size + 1 + 1, 0, none⟩), .pointer (some ⟨w.heap.size + 1 + 1 + 1, 0, none⟩), .pointer (some ⟨w.heap.size + 1 + 1 + 1 + 1, 0, none⟩), .int .i64 x.val, .pointer (some ⟨Bx, 0, none⟩), .agg #[.slice s.aw h.warm.length s.cw, .slice s.ag h.gauges.length s.cg, .slice s.af h.flows.length s.cf], .int .i64 c, .func (.func 141) #[] #[.pointer (some ⟨w.heap.size + 1 + 1 + 1 + 1 + 1, 0, none⟩), .pointer (some ⟨w.heap.size + 1 + 1 + 1 + 1 + 1 + 1, 0, none⟩)], .int .i64 x.val, .agg #[.int .i64 (toldLo h c x.val), .int .i64 (toldHi h c x.val)], undef, undef, undef, undef, undef, undef, undef, undef, undef, undef, undef, undef, undef, undef, undef, undef, undef, undef, undef, undef, undef, undef, undef, undef, undef, undef, undef, undef, undef, undef, undef, undef, undef, undef, undef, undef], defers := [] })
    (fun x a' _ X Y row hs hg hr => by obtain ⟨Bx, e1, e2, e3⟩ := hs; exact ⟨Bx, e1, blk_from (β := Unit) V.heap.size _ _ _ () X Y row e2 hg hr, e3⟩)
    ?assign ?body ?done ?stop
  case assign =>
    rintro l pre x W K ⟨hL, q0, q1, hkw, hsz⟩ hK
    gi_wp2
    have hka : Kept W (W.alloc (.cells #[.int .i64 (toldLo h c x.val), .int .i64 (toldHi h c x.val)] 23)) := Kept.alloc (Below.refl _ _) _
    have z5 := Blk.lt k5
    have z6 := Blk.lt k6
    exact hK _ _ (keepsFrom_kept hka _) (KeptB.of_kept hka hkw.size (by omega) (by omega)) ⟨(lostI_from V.heap.size _ _ _ _ _).alloc _ hL, q0.alloc _, q1.alloc _, Kept.alloc hkw _, by rw [World.size_alloc]; omega⟩ ⟨W.heap.size, hsz, Blk.new, rfl⟩
  case body =>
    rintro l pre x a' W hl _ ⟨⟨nd, cn, hi, e1, e2, e3, q2, q3, q4, hu⟩, q0, q1, hkw, hsz⟩ ⟨Bx, hBx, qx, rfl⟩ hlen
    have bd := told_bd ho x.isLt hc
    obtain ⟨i, hi0⟩ : ∃ i, i = x.val := ⟨_, rfl⟩
    have hil : i < h.gauges.length := by rw [hi0]; exact x.isLt
    rw [← hi0] at bd qx ⊢
    obtain ⟨TL, hTL⟩ : ∃ n, n = toldLo h c i := ⟨_, rfl⟩
    obtain ⟨TH, hTH⟩ : ∃ n, n = toldHi h c i := ⟨_, rfl⟩
    rw [← hTL, ← hTH] at bd qx ⊢
    have HTL := Lib.hid hTL
    have HTH := Lib.hid hTH
    have HU := Lib.hid hu
    have HI0 := Lib.hid hi0
    have z5 := Blk.lt k5
    have z6 := Blk.lt k6
    clear k0 k1 k2 k3 k4 k5 k6 hkV hs0 HH2 hTL hTH hu hi0 hn0 n0
    gi_wp2
    have q2c0 := fun g : Later W => (q2.later g).cell 0
    have q2f0 := fun g : Later W => (q2.later g).free 0
    have q2l := fun g : Later W => (q2.later g).lt
    simp at q2c0
    have q3c0 := fun g : Later W => (q3.later g).cell 0
    have q3f0 := fun g : Later W => (q3.later g).free 0
    have q3l := fun g : Later W => (q3.later g).lt
    simp at q3c0
    have qxc0 := fun g : Later W => (qx.later g).cell 0
    have qxf0 := fun g : Later W => (qx.later g).free 0
    have qxc1 := fun g : Later W => (qx.later g).cell 1
    have qxf1 := fun g : Later W => (qx.later g).free 1
    have qxl := fun g : Later W => (qx.later g).lt
    simp at qxc0 qxc1
    refine wpIn_region_any (by kernel_rfl) (anyIn_of (by kernel_rfl) (fun ⟨_, _, h⟩ => h) _ _ _ _ (wpAny_dp0 (fun L => #[.agg #[.slice s.aw h.warm.length s.cw, .slice s.ag h.gauges.length s.cg, .slice s.af h.flows.length s.cf], .int .i64 c, .pointer (some ⟨w.heap.size, 0, none⟩), undef, .pointer (some ⟨w.heap.size + 1, 0, none⟩), .pointer (some ⟨w.heap.size + 1 + 1, 0, none⟩), .pointer (some ⟨w.heap.size + 1 + 1 + 1, 0, none⟩), .pointer (some ⟨w.heap.size + 1 + 1 + 1 + 1, 0, none⟩), .int .i64 i, .pointer (some ⟨Bx, 0, none⟩), .agg #[.slice s.aw h.warm.length s.cw, .slice s.ag h.gauges.length s.cg, .slice s.af h.flows.length s.cf], .int .i64 c, .func (.func 141) #[] #[.pointer (some ⟨w.heap.size + 1 + 1 + 1 + 1 + 1, 0, none⟩), .pointer (some ⟨w.heap.size + 1 + 1 + 1 + 1 + 1 + 1, 0, none⟩)], .int .i64 i, .agg #[.int .i64 TL, .int .i64 TH], cond (L 0) (.int .i64 nd) undef, cond (L 1) (.pointer (some ⟨Bx, 0, none⟩)) undef, cond (L 2) (.int .i64 TL) undef, cond (L 3) (.int .i64 (max nd TL)) undef, cond (L 4) (.int .i64 cn) undef, cond (L 5) (.pointer (some ⟨Bx, 1, none⟩)) undef, cond (L 6) (.int .i64 TH) undef, cond (L 7) (.int .i64 (min cn TH)) undef, undef, undef, undef, undef, undef, undef, undef, undef, undef, undef, undef, undef, undef, undef, undef, undef, undef, undef, undef, undef, undef, undef, undef, undef, undef, undef, undef, undef]) [] (fun L X => (L 8 = true → L 0 = true) ∧ (L 9 = true → L 4 = true) ∧ Blk X (w.heap.size + 1 + 1) #[.int .i64 (cond (L 8) (max nd TL) nd)] 3 ∧ Blk X (w.heap.size + 1 + 1 + 1) #[.int .i64 (cond (L 9) (min cn TH) cn)] 3 ∧ Blk X (w.heap.size + 1 + 1 + 1 + 1) #[.int .i64 0, .int .i64 hi] 23 ∧ Blk X Bx #[.int .i64 TL, .int .i64 TH] 23 ∧ Blk X w.heap.size #[.slice s.aw h.warm.length s.cw, .slice s.ag h.gauges.length s.cg, .slice s.af h.flows.length s.cf] 85 ∧ Blk X (w.heap.size + 1) #[.int .i64 0, .int .i64 0] 23 ∧ Kept w X ∧ KeptB w.heap.size (w.heap.size + 1 + 1 + 1 + 1 + 1) (w.heap.size + 1 + 1 + 1 + 1 + 1 + 1) W X ∧ KeepsFrom V.heap.size W X ∧ V.heap.size ≤ X.heap.size)
      (by intro i oi hoi; have hlt := (Array.getElem?_eq_some_iff.1 hoi).1; simp only [List.size_toArray, List.length_cons, List.length_nil, Nat.reduceAdd] at hlt; obtain rfl | rfl | rfl | rfl | rfl | rfl | rfl | rfl | rfl | rfl : i = 0 ∨ i = 1 ∨ i = 2 ∨ i = 3 ∨ i = 4 ∨ i = 5 ∨ i = 6 ∨ i = 7 ∨ i = 8 ∨ i = 9 := by omega
          all_goals (simp at hoi; subst hoi; refine ⟨rfl, ?_⟩; simp [Region.binds])) rfl ?_ ?_ ?_))
    · exact ⟨fun h => (by cases h), fun h => (by cases h), q2, q3, q4, qx, q0, q1, Below.drew hkw, KeptB.of_kept (Below.drew (Below.refl _ _)) hkw.size (by omega) (by omega), keepsFrom_kept (Below.drew (Below.refl _ _)) _, hsz⟩
    · intro m oi hoi L X hL hd ⟨hc8, hc9, r2, r3, r4, rx, r0, r1, rk, rb, rf, rz⟩ K hK
      have hlt := (Array.getElem?_eq_some_iff.1 hoi).1
      simp only [List.size_toArray, List.length_cons, List.length_nil, Nat.reduceAdd] at hlt
      have r2c0 := r2.cell 0
      have r2f0 := r2.free 0
      have r2l := r2.lt
      simp at r2c0
      have r3c0 := r3.cell 0
      have r3f0 := r3.free 0
      have r3l := r3.lt
      simp at r3c0
      have rxc0 := rx.cell 0
      have rxf0 := rx.free 0
      have rxc1 := rx.cell 1
      have rxf1 := rx.free 1
      have rxl := rx.lt
      simp at rxc0 rxc1
      obtain rfl | rfl | rfl | rfl | rfl | rfl | rfl | rfl | rfl | rfl : m = 0 ∨ m = 1 ∨ m = 2 ∨ m = 3 ∨ m = 4 ∨ m = 5 ∨ m = 6 ∨ m = 7 ∨ m = 8 ∨ m = 9 := by omega
      all_goals (simp at hoi; subst hoi; simp [Region.binds] at hd)
      · have h8 : L 8 = false := by (cases h : L 8 with | false => rfl | true => (have := hc8 h; rw [hL] at this; cases this))
        simp only [h8, cond_false] at r2c0
        have z := hK _ ⟨fun _ => rfl, hc9, r2, r3, r4, rx, r0, r1, rk, rb, rf, rz⟩
        simp [upL, hd] at z
        go_simp
        simpa using z
      · have z := hK _ ⟨hc8, hc9, r2, r3, r4, rx, r0, r1, rk, rb, rf, rz⟩
        simp [upL, hd] at z
        go_simp
        simpa using z
      · have z := hK _ ⟨hc8, hc9, r2, r3, r4, rx, r0, r1, rk, rb, rf, rz⟩
        simp [upL, hd] at z
        go_simp
        simpa using z
      · have z := hK _ ⟨hc8, hc9, r2, r3, r4, rx, r0, r1, rk, rb, rf, rz⟩
        simp [upL, hd] at z
        go_simp
        simpa using z
      · have h9 : L 9 = false := by (cases h : L 9 with | false => rfl | true => (have := hc9 h; rw [hL] at this; cases this))
        simp only [h9, cond_false] at r3c0
        have z := hK _ ⟨hc8, fun _ => rfl, r2, r3, r4, rx, r0, r1, rk, rb, rf, rz⟩
        simp [upL, hd] at z
        go_simp
        simpa using z
      · have z := hK _ ⟨hc8, hc9, r2, r3, r4, rx, r0, r1, rk, rb, rf, rz⟩
        simp [upL, hd] at z
        go_simp
        simpa using z
      · have z := hK _ ⟨hc8, hc9, r2, r3, r4, rx, r0, r1, rk, rb, rf, rz⟩
        simp [upL, hd] at z
        go_simp
        simpa using z
      · have z := hK _ ⟨hc8, hc9, r2, r3, r4, rx, r0, r1, rk, rb, rf, rz⟩
        simp [upL, hd] at z
        go_simp
        simpa using z
      · have z := hK _ ⟨fun _ => by simp [upL, hd], hc9, Blk.cast (Blk.set r2 0 (.int .i64 (max nd TL))) (by simp [upL]), Blk.other r3 (by first | (simp; done) | (simp; omega)) _, Blk.other r4 (by first | (simp; done) | (simp; omega)) _, Blk.other rx (by simp; omega) _, Blk.other r0 (by first | (simp; done) | (simp; omega)) _, Blk.other r1 (by first | (simp; done) | (simp; omega)) _, by exact kpt, rb.set (by simp; omega) (by first | (simp; done) | (simp; omega)) (by first | (simp; done) | (simp; omega)) _, rf.trans ((KeepsOthers.setCell _ _ _).from _), by simpa using rz⟩
        simp [upL, hd] at z
        go_simp
        simpa using z
      · have z := hK _ ⟨hc8, fun _ => by simp [upL, hd], Blk.other r2 (by first | (simp; done) | (simp; omega)) _, Blk.cast (Blk.set r3 0 (.int .i64 (min cn TH))) (by simp [upL]), Blk.other r4 (by first | (simp; done) | (simp; omega)) _, Blk.other rx (by simp; omega) _, Blk.other r0 (by first | (simp; done) | (simp; omega)) _, Blk.other r1 (by first | (simp; done) | (simp; omega)) _, by exact kpt, rb.set (by simp; omega) (by first | (simp; done) | (simp; omega)) (by first | (simp; done) | (simp; omega)) _, rf.trans ((KeepsOthers.setCell _ _ _).from _), by simpa using rz⟩
        simp [upL, hd] at z
        go_simp
        simpa using z
    · intro L X hall ⟨hc8, hc9, r2, r3, r4, rx, r0, r1, rk, rb, rf, rz⟩
      simp only [List.size_toArray, List.length_cons, List.length_nil, Nat.reduceAdd] at hall
      simp only [hall 0 (by omega), hall 1 (by omega), hall 2 (by omega), hall 3 (by omega), hall 4 (by omega), hall 5 (by omega), hall 6 (by omega), hall 7 (by omega), cond_true]
      simp only [hall 8 (by omega), hall 9 (by omega), cond_true] at r2 r3
      clear hc8 hc9 hall q2 q3 q4 q0 q1 qx hkw q2c0 q2f0 q2l q3c0 q3f0 q3l qxc0 qxf0 qxc1 qxf1 qxl
      have r4c0 := r4.cell 0
      have r4f0 := r4.free 0
      have r4c1 := r4.cell 1
      have r4f1 := r4.free 1
      have r4l := r4.lt
      simp at r4c0 r4c1
      have rxc0 := rx.cell 0
      have rxf0 := rx.free 0
      have rxc1 := rx.cell 1
      have rxf1 := rx.free 1
      have rxl := rx.lt
      simp at rxc0 rxc1
      have r0c0 := r0.cell 0
      have r0f0 := r0.free 0
      have r0c1 := r0.cell 1
      have r0f1 := r0.free 1
      have r0c2 := r0.cell 2
      have r0f2 := r0.free 2
      have r0l := r0.lt
      simp at r0c0 r0c1 r0c2
      by_cases hz : i = 0
      · have e0 : ((i : Int) == 0) = true := by simp [hz]
        by_cases hn : i + 1 = h.gauges.length
        · have e9 : ((i : Int) == (h.gauges.length : Int) - 1) = true := by simp; omega
          have w9 := i64_inH (n := TH - TL) (by omega)
          gi_wp2
          refine ⟨KeepsFrom.trans (KeepsFrom.trans (rf) ((KeepsOthers.setCell _ _ _).from _)) ((KeepsOthers.setCell _ _ _).from _), KeptB.set (KeptB.set (rb) (by simp; omega) (by first | (simp; done) | (simp; omega)) (by first | (simp; done) | (simp; omega)) _) (by simp; omega) (by first | (simp; done) | (simp; omega)) (by first | (simp; done) | (simp; omega)) _, ⟨max nd TL, min cn TH, TH - TL, by omega, by omega, by (rw [List.length_append]; simp; omega), Blk.other (Blk.other (r2) (by first | (simp; done) | (simp; omega)) _) (by first | (simp; done) | (simp; omega)) _, Blk.other (Blk.other (r3) (by first | (simp; done) | (simp; omega)) _) (by first | (simp; done) | (simp; omega)) _, Blk.cast (Blk.set (Blk.set (r4) 1 (.int .i64 TH)) 1 (.int .i64 (TH - TL))) (by simp), fun hu2 => ?_⟩, Blk.other (Blk.other (r0) (by first | (simp; done) | (simp; omega)) _) (by first | (simp; done) | (simp; omega)) _, Blk.other (Blk.other (r1) (by first | (simp; done) | (simp; omega)) _) (by first | (simp; done) | (simp; omega)) _, by exact kpt, by simpa using rz⟩
          obtain ⟨u1, u2⟩ := hu2.init
          obtain ⟨u3, u4, u5⟩ := HU.out u1
          rw [← HI0.out] at u2
          rw [← u2] at u3 u4 u5
          have u6 : (pre ++ [x]).length = i + 1 := by simp [u2]
          rw [u6]
          refine ⟨by rw [u3, HTL.out]; rfl, by rw [u4, HTH.out]; rfl, ?_⟩
          unfold hiTo; rw [if_neg (by omega), if_pos hn]; rw [show h.gauges.length - 1 = i by omega, ← HTL.out]; congr 1
          rw [HTH.out, hz]
        · have e9 : ((i : Int) == (h.gauges.length : Int) - 1) = false := by simp; omega
          gi_wp2
          refine ⟨KeepsFrom.trans (rf) ((KeepsOthers.setCell _ _ _).from _), KeptB.set (rb) (by simp; omega) (by first | (simp; done) | (simp; omega)) (by first | (simp; done) | (simp; omega)) _, ⟨max nd TL, min cn TH, TH, by omega, by omega, by (rw [List.length_append]; simp; omega), Blk.other (r2) (by first | (simp; done) | (simp; omega)) _, Blk.other (r3) (by first | (simp; done) | (simp; omega)) _, Blk.cast (Blk.set (r4) 1 (.int .i64 TH)) (by simp), fun hu2 => ?_⟩, Blk.other (r0) (by first | (simp; done) | (simp; omega)) _, Blk.other (r1) (by first | (simp; done) | (simp; omega)) _, by exact kpt, by simpa using rz⟩
          obtain ⟨u1, u2⟩ := hu2.init
          obtain ⟨u3, u4, u5⟩ := HU.out u1
          rw [← HI0.out] at u2
          rw [← u2] at u3 u4 u5
          have u6 : (pre ++ [x]).length = i + 1 := by simp [u2]
          rw [u6]
          refine ⟨by rw [u3, HTL.out]; rfl, by rw [u4, HTH.out]; rfl, ?_⟩
          unfold hiTo; rw [if_neg (by omega), if_neg hn]
          rw [HTH.out, hz]
      · have e0 : ((i : Int) == 0) = false := by simp [hz]
        by_cases hn : i + 1 = h.gauges.length
        · have e9 : ((i : Int) == (h.gauges.length : Int) - 1) = true := by simp; omega
          have w9 := i64_inH (n := hi - TL) (by omega)
          gi_wp2
          refine ⟨KeepsFrom.trans (rf) ((KeepsOthers.setCell _ _ _).from _), KeptB.set (rb) (by simp; omega) (by first | (simp; done) | (simp; omega)) (by first | (simp; done) | (simp; omega)) _, ⟨max nd TL, min cn TH, hi - TL, by omega, by omega, by (rw [List.length_append]; simp; omega), Blk.other (r2) (by first | (simp; done) | (simp; omega)) _, Blk.other (r3) (by first | (simp; done) | (simp; omega)) _, Blk.cast (Blk.set (r4) 1 (.int .i64 (hi - TL))) (by simp), fun hu2 => ?_⟩, Blk.other (r0) (by first | (simp; done) | (simp; omega)) _, Blk.other (r1) (by first | (simp; done) | (simp; omega)) _, by exact kpt, by simpa using rz⟩
          obtain ⟨u1, u2⟩ := hu2.init
          obtain ⟨u3, u4, u5⟩ := HU.out u1
          rw [← HI0.out] at u2
          rw [← u2] at u3 u4 u5
          have u6 : (pre ++ [x]).length = i + 1 := by simp [u2]
          rw [u6]
          refine ⟨by rw [u3, HTL.out]; rfl, by rw [u4, HTH.out]; rfl, ?_⟩
          unfold hiTo; rw [if_neg (by omega), if_pos hn]; rw [show h.gauges.length - 1 = i by omega, ← HTL.out]; congr 1
          rw [u5]; unfold hiTo; rw [if_neg hz, if_neg (by omega)]
        · have e9 : ((i : Int) == (h.gauges.length : Int) - 1) = false := by simp; omega
          gi_wp2
          refine ⟨rf, rb, ⟨max nd TL, min cn TH, hi, by omega, by omega, by (rw [List.length_append]; simp; omega), r2, r3, Blk.cast (r4) (by simp), fun hu2 => ?_⟩, r0, r1, by exact kpt, by simpa using rz⟩
          obtain ⟨u1, u2⟩ := hu2.init
          obtain ⟨u3, u4, u5⟩ := HU.out u1
          rw [← HI0.out] at u2
          rw [← u2] at u3 u4 u5
          have u6 : (pre ++ [x]).length = i + 1 := by simp [u2]
          rw [u6]
          refine ⟨by rw [u3, HTL.out]; rfl, by rw [u4, HTH.out]; rfl, ?_⟩
          unfold hiTo; rw [if_neg (by omega), if_neg hn]
          rw [u5]; unfold hiTo; rw [if_neg hz, if_neg (by omega)]
  case done =>
    rintro D ys X hD ⟨hup, hlen⟩ ⟨⟨nd, cn, hi, e1, e2, e3, q2, q3, q4, hu⟩, q0, q1, hkw, hsz⟩ hK
    obtain ⟨u3, u4, u5⟩ := hu hup
    rw [hlen] at u3 u4 u5
    have hVs := hkV.size
    have HK := Lib.hid hK
    clear k0 k1 k2 k3 k4 k5 k6 hs0 HH2 hkV hu hK
    by_cases hn1 : h.gauges.length = 1
    · have HL := Lib.hid (show lostLo h c = 0 by unfold lostLo; rw [if_pos hn1])
      have HH := Lib.hid (show lostHi h c = 0 by unfold lostHi; rw [if_pos hn1])
      have e0 : ((h.gauges.length : Int) == 1) = true := by simp; omega
      clear u3 u4 u5
      have q0c0 := q0.cell 0
      have q0f0 := q0.free 0
      have q0c1 := q0.cell 1
      have q0f1 := q0.free 1
      have q0c2 := q0.cell 2
      have q0f2 := q0.free 2
      have q0l := q0.lt
      simp at q0c0 q0c1 q0c2
      have q1c0 := q1.cell 0
      have q1f0 := q1.free 0
      have q1c1 := q1.cell 1
      have q1f1 := q1.free 1
      have q1l := q1.lt
      simp at q1c0 q1c1
      gi_wp2
      refine leaves_marks (B := w.heap.size) (fun W => Blk W (w.heap.size + 1) #[.int .i64 0, .int .i64 0] 23 ∧ Kept w W) (OwnFrom.and (blk_from _ _ _ _) (ownFrom_below (Nat.le_refl _) (Nat.le_refl _))) ?_ [D] _ ⟨by simp, fun E hE => ?_⟩ ⟨Blk.cast (Blk.set (Blk.set q1 0 _) 1 _) (by simp), by exact kpt⟩
      · rintro W5 ⟨k1, hkp⟩
        have k1c0 := k1.cell 0
        have k1f0 := k1.free 0
        have k1c1 := k1.cell 1
        have k1f1 := k1.free 1
        have k1l := k1.lt
        simp at k1c0 k1c1
        exact ⟨.agg #[.int .i64 0, .int .i64 0], by simp [results, Try.results128, go_sem, k1c0, k1c1], by rw [HL.out, HH.out], hkp⟩
      · obtain rfl : E = D := by simpa using hE
        exact ⟨by omega, ((KeepsOthers.setCell _ _ _).trans (KeepsOthers.setCell _ _ _)).same _ _ HK.out rfl⟩
    · have HL := Lib.hid (show lostLo h c = max (nd - cn) 0 by unfold lostLo; rw [if_neg hn1, u3, u4])
      have HH := Lib.hid (show lostHi h c = hi by unfold lostHi; rw [if_neg hn1, u5]; unfold hiTo; rw [if_neg (by omega), if_pos rfl])
      have e0 : ((h.gauges.length : Int) == 1) = false := by simp; omega
      have w1 := i64_inH (n := nd - cn) (by omega)
      clear u3 u4 u5
      have q0c0 := q0.cell 0
      have q0f0 := q0.free 0
      have q0c1 := q0.cell 1
      have q0f1 := q0.free 1
      have q0c2 := q0.cell 2
      have q0f2 := q0.free 2
      have q0l := q0.lt
      simp at q0c0 q0c1 q0c2
      have q1c0 := q1.cell 0
      have q1f0 := q1.free 0
      have q1c1 := q1.cell 1
      have q1f1 := q1.free 1
      have q1l := q1.lt
      simp at q1c0 q1c1
      have q2c0 := q2.cell 0
      have q2f0 := q2.free 0
      have q2l := q2.lt
      simp at q2c0
      have q3c0 := q3.cell 0
      have q3f0 := q3.free 0
      have q3l := q3.lt
      simp at q3c0
      have q4c0 := q4.cell 0
      have q4f0 := q4.free 0
      have q4c1 := q4.cell 1
      have q4f1 := q4.free 1
      have q4l := q4.lt
      simp at q4c0 q4c1
      gi_wp2
      refine leaves_marks (B := w.heap.size) (fun W => Blk W (w.heap.size + 1) #[.int .i64 (max (nd - cn) 0), .int .i64 hi] 23 ∧ Kept w W) (OwnFrom.and (blk_from _ _ _ _) (ownFrom_below (Nat.le_refl _) (Nat.le_refl _))) ?_ [D] _ ⟨by simp, fun E hE => ?_⟩ ⟨Blk.cast (Blk.set (Blk.set (Blk.other q1 (by simp; omega) _) 0 _) 1 _) (by simp), by exact kpt⟩
      · rintro W5 ⟨k1, hkp⟩
        have k1c0 := k1.cell 0
        have k1f0 := k1.free 0
        have k1c1 := k1.cell 1
        have k1f1 := k1.free 1
        have k1l := k1.lt
        simp at k1c0 k1c1
        exact ⟨.agg #[.int .i64 (max (nd - cn) 0), .int .i64 hi], by simp [results, Try.results128, go_sem, k1c0, k1c1], by rw [HL.out, HH.out], hkp⟩
      · obtain rfl : E = D := by simpa using hE
        exact ⟨by omega, (((KeepsOthers.setCell _ _ _).trans (KeepsOthers.setCell _ _ _)).trans (KeepsOthers.setCell _ _ _)).same _ _ HK.out rfl⟩
  case stop =>
    rintro D c pre W _ _ h _
    exact h.elim

end Go.Proofs.Ytemafanncejeiaa
