/-
  Facts about memory, lists and numbers that the walks use: no program in sight.
-/
import Derived.WalkKit
import Derived.WalkSpells
import Derived.WalkLawsBesides
import Derived.Lib.Hide
import Derived.ProofKit
import Derived.OpenShut
import Derived.ChangeOld
import Derived.Below
import Derived.Deep.Slices
import Derived.Deep.Fields
import Derived.Deep.Quiet
import Derived.Laws.AppendOwn
import Derived.Laws.AppendOwnNone
import Derived.StillTail
import Derived.Test.YtacbkbilbmkjnaaProg
import Derived.Deep.QuietTactic
import Derived.BigQuiet
import Derived.Deep.RegionHeld3
import Derived.Deep.DeepCutAuto
import Derived.WalkSmall
import Derived.OrdersHeld
import Derived.Maps.OwnSet
import Derived.Laws.EntriesVeiled
import Derived.Test.YtacbkbilbmkjnaaMastBaseMA
set_option linter.unusedVariables false
set_option linter.unusedSimpArgs false
/-
  Facts about memory, lists and numbers that the walks use: no program in sight.
-/
namespace Bal
open Go Go.RowKit Go.ChangeShapes Go.WideShapes

theorem ret_int {k : IntKind} {a b : Int} (h : a = b) : Ending.returned (.int k a) = .returned (.int k b) := by rw [h]
theorem ret_bool {a b : Bool} (h : a = b) : Ending.returned (.bool a) = .returned (.bool b) := by rw [h]

/-- What a call leaves alone: nothing that was there has changed. -/
abbrev Kept (w w' : World) : Prop := Below w.heap.size w w'

/-- The elements xs of a slice at address a, each of k cells, lie in blocks below B. -/
def Row {α : Type} (enc : α → List Value) (k B : Nat) (w : World) (a : Option Addr) (xs : List α) : Prop :=
  ∀ (i : Nat) (x : α), xs[i]? = some x → ∃ b off, a = some ⟨b, off, none⟩ ∧ b < B ∧ ∀ (j : Nat) (v : Value), (enc x)[j]? = some v → w.cell? ⟨b, off + i * k + j, none⟩ = some v

theorem Row.nil {α : Type} {enc : α → List Value} {k B : Nat} {w : World} {a : Option Addr} : Row enc k B w a [] := by
  intro i x h; simp at h

theorem Row.keep {α : Type} {enc : α → List Value} {k B C : Nat} {w w' : World} {a : Option Addr} {xs : List α} (h : Row enc k B w a xs) (hb : Below C w w') (hC : B ≤ C) : Row enc k B w' a xs := by
  intro i x hx
  obtain ⟨b, off, ha, hlt, hc⟩ := h i x hx
  exact ⟨b, off, ha, hlt, fun j v hj => by rw [hb.cell (p := ⟨b, off + i * k + j, none⟩) (show b < C by omega)]; exact hc j v hj⟩

theorem Row.up {α : Type} {enc : α → List Value} {k B C : Nat} {w : World} {a : Option Addr} {xs : List α} (h : Row enc k B w a xs) (hC : B ≤ C) : Row enc k C w a xs := by
  intro i x hx
  obtain ⟨b, off, ha, hlt, hc⟩ := h i x hx
  exact ⟨b, off, ha, by omega, hc⟩

/-- a row known below the heap of w, asked for in a later world w' -/
theorem Row.later {α : Type} {enc : α → List Value} {k B : Nat} {w w' : World} {a : Option Addr} {xs : List α} (h : Row enc k B w a xs) (hb : Below B w w') (hB : B ≤ w.heap.size) : Row enc k w'.heap.size w' a xs :=
  (h.keep hb (Nat.le_refl _)).up (Nat.le_trans hB hb.size)

theorem Kept.size {w w' : World} (h : Kept w w') : w.heap.size ≤ w'.heap.size := Below.size h
/-- what a walk wants to know behind a contract -/
theorem bcell3 {W w1 : World} (hb : Below W.heap.size W w1) : (∀ b o, b < W.heap.size → w1.cell? ⟨b, o, none⟩ = W.cell? ⟨b, o, none⟩) ∧ (∀ b o, b < W.heap.size → w1.frozen? ⟨b, o, none⟩ = W.frozen? ⟨b, o, none⟩) ∧ ∀ n, n < W.heap.size → n < w1.heap.size :=
  ⟨fun b o h => hb.cell (p := ⟨b, o, none⟩) h, fun b o h => hb.frozen (p := ⟨b, o, none⟩) h, fun _ h => Nat.lt_of_lt_of_le h hb.size⟩

theorem Kept.drop {w w' w'' : World} (h : Below w.heap.size w w') (h' : Kept w' w'') : Kept w w'' := h.trans (h'.mono h.size)

/-- a loop over xs has passed k elements, all of them valid, and left alone what was there -/
def Upto {α : Type} (valid : α → Bool) (xs : List α) (w : World) (i : Value) (wr : World) : Prop :=
  ∃ k : Nat, k ≤ xs.length ∧ i = .int .i64 k ∧ (xs.take k).all valid = true ∧ Kept w wr

theorem Kept.alloc {w w' : World} (h : Kept w w') (o : Obj) : Kept w (w'.alloc o) := Below.alloc h h.size o

/-- a number as a cell -/
def icell (n : Int) : List Value := [.int .i64 n]
theorem int_row {B : Nat} {w : World} {a : Option Addr} {xs : List Int} (h : Row icell 1 B w a xs) (i : Nat) (hi : i < xs.length) :
    ∃ b off, a = some ⟨b, off, none⟩ ∧ b < B ∧ w.cell? ⟨b, off + i, none⟩ = some (.int .i64 xs[i]) := by
  obtain ⟨b, off, ha, hb, hc⟩ := h i xs[i] (by simp [hi])
  exact ⟨b, off, ha, hb, by simpa using hc 0 _ rfl⟩

/-! ### Slices that a call has made itself, element by element -/
theorem flatMap_get {α : Type} {enc : α → List Value} {k : Nat} (he : ∀ x, (enc x).length = k) : ∀ (xs : List α) (i : Nat) (x : α), xs[i]? = some x → ∀ j, j < k → (xs.flatMap enc)[i * k + j]? = (enc x)[j]?
  | [], i, x, h, _, _ => by simp at h
  | y :: ys, 0, x, h, j, hj => by
    simp at h
    subst h
    rw [List.flatMap_cons, Nat.zero_mul, Nat.zero_add, List.getElem?_append_left (by rw [he]; exact hj)]
  | y :: ys, i + 1, x, h, j, hj => by
    rw [List.flatMap_cons, List.getElem?_append_right (by rw [he, Nat.succ_mul]; omega), he]
    have := flatMap_get he ys i x (by simpa using h) j hj
    rw [← this]
    congr 1
    rw [Nat.succ_mul]; omega

/-- What the call owns reads as a row. -/
theorem Row.of_owns {α : Type} {enc : α → List Value} {k base : Nat} {e : TypeId} {w : World} {v : Value} {xs : List α} (he : ∀ x, (enc x).length = k) (h : w.ownsRow base e k v xs.length (xs.flatMap enc)) :
    ∃ a cap, v = .slice a xs.length cap ∧ Row enc k w.heap.size w a xs ∧ xs.length ≤ cap ∧ cap ≤ maxLen := by
  obtain ⟨_, ⟨rfl, hn⟩ | ⟨g, cap, cur, rfl, hb, hh, hnc, hcm, hsz, ht⟩⟩ := h
  · have : xs = [] := List.length_eq_zero_iff.1 hn
    subst this
    exact ⟨none, 0, rfl, Row.nil, by simp, by simp [maxLen]⟩
  · refine ⟨some ⟨g, 0, none⟩, cap, rfl, ?_, hnc, hcm⟩
    intro i x hx
    refine ⟨g, 0, rfl, ?_, ?_⟩
    · rcases Nat.lt_or_ge g w.heap.size with h' | h'
      · exact h'
      · rw [Array.getElem?_eq_none h'] at hh; cases hh
    · intro j u hj
      have hjk : j < k := by rw [← he x]; exact (List.getElem?_eq_some_iff.1 hj).1
      have hix : i < xs.length := (List.getElem?_eq_some_iff.1 hx).1
      have h1 := flatMap_get he xs i x hx j hjk
      rw [← ht, List.getElem?_take] at h1
      split at h1
      · rw [hj] at h1
        simp only [World.cell?, hh, Nat.zero_add]
        simpa using h1
      · rw [hj] at h1; cases h1

theorem owns_nil {base : Nat} {e : TypeId} {k : Nat} {w : World} {α : Type} {enc : α → List Value} : w.ownsRow base e k (.slice none 0 0) ([] : List α).length (([] : List α).flatMap enc) :=
  ⟨by simp, .inl ⟨rfl, rfl⟩⟩

theorem owns_keep {base : Nat} {e : TypeId} {k n : Nat} {w w' : World} {v : Value} {xs : List Value} (h : w.ownsRow base e k v n xs) (hb : Below w.heap.size w w') : w'.ownsRow base e k v n xs := by
  obtain ⟨h1, h2 | ⟨g, cap, cur, hv, hg, hh, r⟩⟩ := h
  · exact ⟨h1, .inl h2⟩
  · refine ⟨h1, .inr ⟨g, cap, cur, hv, hg, ?_, r⟩⟩
    rw [hb.block g ?_]
    · exact hh
    · rcases Nat.lt_or_ge g w.heap.size with h' | h'
      · exact h'
      · rw [Array.getElem?_eq_none h'] at hh; cases hh

theorem owns_base {base base' : Nat} {e : TypeId} {k n : Nat} {w : World} {v : Value} {xs : List Value} (h : w.ownsRow base e k v n xs) (hb : base' ≤ base) : w.ownsRow base' e k v n xs := by
  obtain ⟨h1, h2 | ⟨g, cap, cur, hv, hg, hh, r⟩⟩ := h
  · exact ⟨h1, .inl h2⟩
  · exact ⟨h1, .inr ⟨g, cap, cur, hv, Nat.le_trans hb hg, hh, r⟩⟩

/-! ### A block of the call's own, known whole -/
def Blk (w : World) (b : Nat) (arr : Array Value) (t : TypeId) : Prop := w.heap[b]? = some (.cells arr t (0, 0))
theorem Blk.lt {w : World} {b : Nat} {arr : Array Value} {t : TypeId} (h : Blk w b arr t) : b < w.heap.size := by
  rcases Nat.lt_or_ge b w.heap.size with h' | h'
  · exact h'
  · unfold Blk at h; rw [Array.getElem?_eq_none h'] at h; cases h
theorem Blk.cell {w : World} {b : Nat} {arr : Array Value} {t : TypeId} (h : Blk w b arr t) (i : Nat) : w.cell? ⟨b, i, none⟩ = arr[i]? := by
  unfold Blk at h
  simp [World.cell?, h]
theorem Blk.free {w : World} {b : Nat} {arr : Array Value} {t : TypeId} (h : Blk w b arr t) (i : Nat) : w.frozen? ⟨b, i, none⟩ = false := by
  unfold Blk at h
  simp [World.frozen?, h]
theorem Blk.keep {w w' : World} {b : Nat} {arr : Array Value} {t : TypeId} (h : Blk w b arr t) (hb : Kept w w') : Blk w' b arr t := by
  unfold Blk
  rw [hb.block b h.lt]
  exact h
theorem Blk.alloc {w : World} {b : Nat} {arr : Array Value} {t : TypeId} (h : Blk w b arr t) (o : Obj) : Blk (w.alloc o) b arr t :=
  h.keep ((Below.refl _ _).alloc (Nat.le_refl _) o)
theorem Blk.drew {w : World} {b : Nat} {arr : Array Value} {t : TypeId} (h : Blk w b arr t) : Blk w.drew b arr t := h
theorem Blk.new {w : World} {arr : Array Value} {t : TypeId} : Blk (w.alloc (.cells arr t)) w.heap.size arr t := by
  show (w.heap.push _)[w.heap.size]? = _
  simp
theorem Blk.set {w : World} {b : Nat} {arr : Array Value} {t : TypeId} (h : Blk w b arr t) (i : Nat) (v : Value) : Blk (w.setCell ⟨b, i, none⟩ v) b (arr.setIfInBounds i v) t := by
  unfold Blk at *
  simp [World.setCell, Array.getElem?_modify, h]
theorem Blk.other {w : World} {b : Nat} {arr : Array Value} {t : TypeId} (h : Blk w b arr t) {a : Addr} (hne : a.block ≠ b) (v : Value) : Blk (w.setCell a v) b arr t := by
  unfold Blk at *
  rw [Below.heap_setCell _ _ _ _ (Ne.symm hne)]
  exact h

/-- a new block of elements reads as a row -/
theorem Row.fresh {α : Type} {enc : α → List Value} {k : Nat} {w : World} {arr : Array Value} {e : TypeId} {xs : List α} (he : ∀ x, (enc x).length = k) (h : arr.toList = xs.flatMap enc) :
    Row enc k (w.alloc (.cells arr e)).heap.size (w.alloc (.cells arr e)) (some ⟨w.heap.size, 0, none⟩) xs := by
  intro i x hx
  refine ⟨w.heap.size, 0, rfl, by simp, fun j v hj => ?_⟩
  have hjk : j < k := by rw [← he x]; exact (List.getElem?_eq_some_iff.1 hj).1
  rw [(Blk.new (w := w) (arr := arr) (t := e)).cell, Nat.zero_add, ← Array.getElem?_toList, h, flatMap_get he xs i x hx j hjk]
  exact hj

/-! ### Cells that are numbers or bools, whatever structs they lie in -/
inductive Leaf where
  | int (k : IntKind)
  | bool
  deriving DecidableEq

def LeafOk : Leaf → Value → Prop
  | .int k, v => ∃ n, v = .int k n ∧ (Lit.int k n).wf = true
  | .bool, v => ∃ b, v = .bool b

/-- the leaves of a row of fields, each by f, the first of them at off -/
def leavesL (P : Program) (g : TypeId → Option (List Leaf)) : Nat → List Field → Option (List Leaf)
  | _, [] => some []
  | off, f :: fs => if f.offset = off then (g f.type).bind fun m => if m.length = P.cellsOf f.type then (leavesL P g (off + m.length) fs).map (m ++ ·) else none else none

/-- the leaves of a type that is made of integers, bools and structs alone -/
def leaves (P : Program) : Nat → TypeId → Option (List Leaf)
  | 0, _ => none
  | n + 1, t => match P.underlying t with
    | some (.int k) => some [.int k]
    | some .bool => some [.bool]
    | some (.struct fs) => (leavesL P (leaves P n) 0 fs.toList).bind fun l => if l.length = P.cellsOf t then some l else none
    | _ => none

/-- cells that are leaves -/
def LeavesOk (ls : List Leaf) (cs : List Value) : Prop := cs.length = ls.length ∧ ∀ (j : Nat) (f : Leaf), ls[j]? = some f → ∃ v, cs[j]? = some v ∧ LeafOk f v

theorem leavesL_ok {P : Program} {g : TypeId → Option (List Leaf)} {cs : List Value} : ∀ (fs : List Field) (off : Nat) (ls : List Leaf),
    leavesL P g off fs = some ls → (∀ f ∈ fs, ∀ m, g f.type = some m → LeavesOk m ((cs.drop f.offset).take (P.cellsOf f.type))) →
    ∀ (j : Nat) (f : Leaf), ls[j]? = some f → ∃ v, cs[off + j]? = some v ∧ LeafOk f v
  | [], off, ls, h, _, j, f, hj => by simp [leavesL] at h; subst h; simp at hj
  | f :: fs, off, ls, h, hf, j, lf, hj => by
    simp only [leavesL] at h
    split at h
    · rename_i ho
      obtain ⟨m, hm, h⟩ := Option.bind_eq_some_iff.1 h
      split at h
      · rename_i hml
        obtain ⟨rest, hr, rfl⟩ := Option.map_eq_some_iff.1 h
        by_cases hjm : j < m.length
        · rw [List.getElem?_append_left hjm] at hj
          obtain ⟨_, h2⟩ := hf f (by simp) m hm
          obtain ⟨v, hv, hok⟩ := h2 j lf hj
          refine ⟨v, ?_, hok⟩
          rw [List.getElem?_take, List.getElem?_drop] at hv
          split at hv
          · rw [← ho]; exact hv
          · simp at hv
        · rw [List.getElem?_append_right (by omega)] at hj
          obtain ⟨v, hv, hok⟩ := leavesL_ok fs (off + m.length) rest hr (fun f' hf' => hf f' (by simp [hf'])) (j - m.length) lf hj
          exact ⟨v, by rw [← hv]; congr 1; omega, hok⟩
      · simp at h
    · simp at h

section
variable {H : Type} {enc : TypeId × Value → H} {P : Program} {w : World} {base : Nat} {spare : Nat → Bool} {held : Bool}

theorem leaves_ok (n : Nat) : ∀ (t : TypeId) (ls : List Leaf) (fuel : Nat) (cs : List Value) (x : DataW H × List MemPlace), leaves P n t = some ls → DataW.trod enc P w base spare held fuel t cs = some x → LeavesOk ls cs := by
  induction n with
  | zero => intro t ls fuel cs x h; simp [leaves] at h
  | succ n ih =>
    intro t ls fuel cs x h hx
    unfold leaves at h
    split at h
    · rename_i k hk
      simp only [Option.some.injEq] at h
      subst h
      obtain ⟨q, rfl, _, hw⟩ := DataW.trod_int hk hx
      refine ⟨rfl, fun j f hj => ?_⟩
      cases j with
      | zero => simp at hj; subst hj; exact ⟨_, rfl, q, rfl, hw⟩
      | succ j => simp at hj
    · rename_i hk
      simp only [Option.some.injEq] at h
      subst h
      obtain ⟨q, rfl, _⟩ := DataW.trod_bool hk hx
      refine ⟨rfl, fun j f hj => ?_⟩
      cases j with
      | zero => simp at hj; subst hj; exact ⟨_, rfl, q, rfl⟩
      | succ j => simp at hj
    · rename_i fs hk
      obtain ⟨l, hl, h⟩ := Option.bind_eq_some_iff.1 h
      split at h
      · rename_i hlen
        simp only [Option.some.injEq] at h
        subst h
        obtain ⟨xs, m, _, _, hcl, hxl, hg⟩ := DataW.trod_struct hk hx
        refine ⟨by rw [hcl, hlen], fun j f hj => ?_⟩
        have := leavesL_ok (cs := cs) fs.toList 0 l hl (fun f' hf' q hq => by
          obtain ⟨i, hi, rfl⟩ := List.mem_iff_getElem.1 hf'
          have hi' : i < fs.size := by simpa using hi
          have h1 := hg i fs[i] (by simp [hi'])
          have hx1 : xs[i]? = some (xs[i]'(by omega)) := List.getElem?_eq_getElem (by omega)
          rw [hx1] at h1
          simpa using ih _ _ _ _ _ hq h1) j f hj
        simpa using this
      · simp at h
    · simp at h

/-- A SLICE OF SUCH ELEMENTS, OPENED: its elements' cells. -/
theorem open_leaves {t e : TypeId} {n : Nat} {ls : List Leaf} {fuel : Nat} {cs : List Value} {x : DataW H × List MemPlace} (ht : P.underlying t = some (.slice e)) (hls : leaves P n e = some ls) (hk : P.cellsOf e = ls.length) (hne : 0 < ls.length)
    (h : DataW.trod enc P w base spare held fuel t cs = some x) :
    ∃ (a : Option Addr) (cap : Nat) (xs : List (List Value)), cs = [.slice a xs.length cap] ∧ xs.length ≤ cap ∧ cap ≤ maxLen ∧ Row id ls.length w.heap.size w a xs ∧ (∀ x ∈ xs, LeavesOk ls x) ∧ (a = none → cap = 0) := by
  rcases Go.Deep.open_slice ht h with ⟨rfl, _⟩ | ⟨a, len, cap, m, q, D, Pl, rfl, hb, hl, hm, hmm, _, hi⟩
  · exact ⟨none, 0, [], rfl, by simp, by simp [maxLen], Row.nil, by simp, fun _ => rfl⟩
  · have hlm : len ≤ m := by subst hmm; split <;> omega
    obtain ⟨f, hf⟩ := Go.Deep.choose_lt (n := len) (p := fun i cs' => w.cells? base (a.add (i * P.cellsOf e)) (P.cellsOf e) = some cs' ∧ DataW.trod enc P w base spare held q e cs' = some (D i, Pl i)) (fun i hil => hi i (by omega))
    refine ⟨some a, cap, (List.range len).map f, by simp, by simpa using hl, hm, ?_, ?_, by simp⟩
    · intro i y hy
      have hil : i < len := by
        have := (List.getElem?_eq_some_iff.1 hy).1
        simpa using this
      simp [hil] at hy
      subst hy
      have hsp : a.spot = none := by
        obtain ⟨hc, ht'⟩ := hf 0 (by omega)
        obtain ⟨_, hcl, hat⟩ := World.cells?_some hc
        have h1 := hat 0 (by omega)
        have hv : (f 0)[0]? = some ((f 0)[0]'(by omega)) := List.getElem?_eq_getElem (by omega)
        rw [hv] at h1
        have := World.cell?_spot h1
        simpa [Addr.add] using this
      obtain ⟨ab, ao, asp⟩ := a
      simp at hsp
      subst hsp
      obtain ⟨hc, ht'⟩ := hf i hil
      obtain ⟨_, hcl, hat⟩ := World.cells?_some hc
      have hat' : ∀ j, j < ls.length → w.cell? ⟨ab, ao + i * ls.length + j, none⟩ = (f i)[j]? := by
        intro j hj
        have h1 := hat j (by omega)
        rw [Go.Deep.add_add, hk] at h1
        rw [← h1]
        congr 1
        unfold Addr.add
        split
        · rename_i h0
          have h3 : ao + i * ls.length + j = ao := by omega
          rw [h3]
        · simp [Nat.add_assoc]
      refine ⟨ab, ao, rfl, ?_, fun j v hj => ?_⟩
      · have h0 := hat' 0 hne
        have hv : (f i)[0]? = some ((f i)[0]'(by omega)) := List.getElem?_eq_getElem (by omega)
        rw [hv] at h0
        rcases Nat.lt_or_ge ab w.heap.size with h' | h'
        · exact h'
        · simp [World.cell?, Array.getElem?_eq_none h'] at h0
      · have hjl : j < (f i).length := (List.getElem?_eq_some_iff.1 hj).1
        rw [hat' j (by omega)]
        exact hj
    · intro y hy
      simp at hy
      obtain ⟨i, hil, rfl⟩ := hy
      obtain ⟨hc, ht'⟩ := hf i hil
      exact leaves_ok n _ _ _ _ _ hls ht'

theorem Row.of_map {α : Type} {enc : α → List Value} {k B : Nat} {w : World} {a : Option Addr} {ys : List α} (h : Row id k B w a (ys.map enc)) : Row enc k B w a ys := by
  intro i x hx
  exact h i (enc x) (by simp [hx])

theorem decode {α : Type} {enc : α → List Value} {wf : α → Prop} {ls : List Leaf} (hdec : ∀ cs, LeavesOk ls cs → ∃ x : α, cs = enc x ∧ wf x) : ∀ (xs : List (List Value)), (∀ x ∈ xs, LeavesOk ls x) →
    ∃ ys : List α, xs = ys.map enc ∧ ∀ y ∈ ys, wf y
  | [], _ => ⟨[], rfl, by simp⟩
  | c :: cs, h => by
    obtain ⟨y, rfl, hy⟩ := hdec c (h c (by simp))
    obtain ⟨ys, rfl, hys⟩ := decode hdec cs (fun x hx => h x (by simp [hx]))
    exact ⟨y :: ys, rfl, by simpa using ⟨hy, hys⟩⟩

/-- A slice that came in, opened to a list of plain things. -/
theorem open_typed {α : Type} {enc' : α → List Value} {wf : α → Prop} {ls : List Leaf} (hdec : ∀ cs, LeavesOk ls cs → ∃ x : α, cs = enc' x ∧ wf x) {t e : TypeId} {n : Nat} {fuel : Nat} {cs : List Value} {x : DataW H × List MemPlace}
    (ht : P.underlying t = some (.slice e)) (hls : leaves P n e = some ls) (hk : P.cellsOf e = ls.length) (hne : 0 < ls.length) (h : DataW.trod enc P w base spare held fuel t cs = some x) :
    ∃ (a : Option Addr) (cap : Nat) (ys : List α), cs = [.slice a ys.length cap] ∧ ys.length ≤ cap ∧ cap ≤ maxLen ∧ Row enc' ls.length w.heap.size w a ys ∧ (∀ y ∈ ys, wf y) ∧ (a = none → cap = 0) := by
  obtain ⟨a, cap, xs, rfl, h1, h2, h3, h4, h5⟩ := open_leaves ht hls hk hne h
  obtain ⟨ys, rfl, hys⟩ := decode hdec xs h4
  exact ⟨a, cap, ys, by simp, by simpa using h1, h2, h3.of_map, hys, h5⟩
end

/-! ### Regions that draw their order and only read or call: one walk of the text's order -/
/-- a world in which all that was there is as it was -/
structure Later (w : World) where
  val : World
  ok : Below w.heap.size w val
instance {w : World} : Nonempty (Later w) := ⟨⟨w, Below.refl _ _⟩⟩

theorem Later.cell {w : World} (g : Later w) {b o : Nat} (h : b < w.heap.size) : g.val.cell? ⟨b, o, none⟩ = w.cell? ⟨b, o, none⟩ := g.ok.cell (p := ⟨b, o, none⟩) h
theorem Later.some {w : World} (g : Later w) {b o : Nat} {v : Value} (h : w.cell? ⟨b, o, none⟩ = some v) : g.val.cell? ⟨b, o, none⟩ = some v := by
  rw [g.cell, h]
  rcases Nat.lt_or_ge b w.heap.size with h' | h'
  · exact h'
  · simp [World.cell?, Array.getElem?_eq_none h'] at h

theorem Later.region {P : Program} {id : Nat} {Q : Exit → Act → World → Prop} {a : Act} {w : World} {l : List Oper} (hm : P.follows .mixedOrders = true) (hB : Region.lexB .any l.toArray = true)
    (h : wpQuiet P l.toArray (fun w' => ∃ g : Later w, w' = g.val) (fun a' => ∀ g : Later w, Q .normal a' g.val) l a) : (Code.region id l.toArray true).wp P Q a w :=
  wp_region_quiet (C := fun w' => ∃ g : Later w, w' = g.val) hm hB ⟨⟨w.drew, (Below.refl _ _).drew⟩, rfl⟩ (by
    have e : (fun a' => ∀ w', (∃ g : Later w, w' = g.val) → Q .normal a' w') = (fun a' => ∀ g : Later w, Q .normal a' g.val) := by
      funext a'
      exact propext ⟨fun h g => h _ ⟨g, rfl⟩, fun h _ ⟨g, hg⟩ => hg ▸ h g⟩
    rw [e]
    simpa using h)

/-- a contract, met in such a region -/
theorem Later.call {P : Program} {f : FuncId} {args : Array Value} {w : World} {g : Later w} {v : Value}
    (h : Calls P f args g.val fun e w' => e = .returned v ∧ Kept g.val w') : Calls P f args g.val fun e w'' => e = .returned v ∧ ∃ g' : Later w, w'' = g'.val :=
  h.mono fun _ w'' ⟨he, hk⟩ => ⟨he, ⟨w'', Kept.drop g.ok hk⟩, rfl⟩
end Bal

/-
  Structs as cells of memory. No program in sight.
-/
namespace Bal.Mast
open Go Go.RowKit Bal

def Wind.cells (x : Wind) : List Value := [.int .i64 x.xlo, .int .i64 x.xhi, .int .i64 x.ylo, .int .i64 x.yhi]
theorem Wind.row {B : Nat} {w : World} {a : Option Addr} {xs : List Wind} (h : Row Wind.cells 4 B w a xs) (i : Nat) (hi : i < xs.length) :
    ∃ b off, a = some ⟨b, off, none⟩ ∧ b < B ∧ w.cell? ⟨b, off + i * 4, none⟩ = some (.int .i64 xs[i].xlo) ∧ w.cell? ⟨b, off + i * 4 + 1, none⟩ = some (.int .i64 xs[i].xhi) ∧ w.cell? ⟨b, off + i * 4 + 2, none⟩ = some (.int .i64 xs[i].ylo) ∧ w.cell? ⟨b, off + i * 4 + 3, none⟩ = some (.int .i64 xs[i].yhi) := by
  obtain ⟨b, off, ha, hb, hc⟩ := h i xs[i] (by simp [hi])
  exact ⟨b, off, ha, hb, hc 0 _ rfl, hc 1 _ rfl, hc 2 _ rfl, hc 3 _ rfl⟩
theorem Wind.of_leaves {cs : List Value} (h : LeavesOk [.int .i64, .int .i64, .int .i64, .int .i64] cs) : ∃ x : Wind, cs = x.cells ∧ (Lit.int .i64 x.xlo).wf = true ∧ (Lit.int .i64 x.xhi).wf = true ∧ (Lit.int .i64 x.ylo).wf = true ∧ (Lit.int .i64 x.yhi).wf = true := by
  obtain ⟨hl, h⟩ := h
  match cs, hl with
  | [v0, v1, v2, v3], _ =>
    obtain ⟨_, e0, n0, rfl, w0⟩ := h 0 (.int .i64) rfl; simp at e0; subst e0
    obtain ⟨_, e1, n1, rfl, w1⟩ := h 1 (.int .i64) rfl; simp at e1; subst e1
    obtain ⟨_, e2, n2, rfl, w2⟩ := h 2 (.int .i64) rfl; simp at e2; subst e2
    obtain ⟨_, e3, n3, rfl, w3⟩ := h 3 (.int .i64) rfl; simp at e3; subst e3
    exact ⟨⟨n0, n1, n2, n3⟩, rfl, w0, w1, w2, w3⟩

def Axis.cells (x : Axis) : List Value := [.int .i64 x.x, .int .i64 x.y]
theorem Axis.row {B : Nat} {w : World} {a : Option Addr} {xs : List Axis} (h : Row Axis.cells 2 B w a xs) (i : Nat) (hi : i < xs.length) :
    ∃ b off, a = some ⟨b, off, none⟩ ∧ b < B ∧ w.cell? ⟨b, off + i * 2, none⟩ = some (.int .i64 xs[i].x) ∧ w.cell? ⟨b, off + i * 2 + 1, none⟩ = some (.int .i64 xs[i].y) := by
  obtain ⟨b, off, ha, hb, hc⟩ := h i xs[i] (by simp [hi])
  exact ⟨b, off, ha, hb, hc 0 _ rfl, hc 1 _ rfl⟩
theorem Axis.of_leaves {cs : List Value} (h : LeavesOk [.int .i64, .int .i64] cs) : ∃ x : Axis, cs = x.cells ∧ (Lit.int .i64 x.x).wf = true ∧ (Lit.int .i64 x.y).wf = true := by
  obtain ⟨hl, h⟩ := h
  match cs, hl with
  | [v0, v1], _ =>
    obtain ⟨_, e0, n0, rfl, w0⟩ := h 0 (.int .i64) rfl; simp at e0; subst e0
    obtain ⟨_, e1, n1, rfl, w1⟩ := h 1 (.int .i64) rfl; simp at e1; subst e1
    exact ⟨⟨n0, n1⟩, rfl, w0, w1⟩

def Span.cells (x : Span) : List Value := [.int .i64 x.lo, .int .i64 x.hi]
theorem Span.row {B : Nat} {w : World} {a : Option Addr} {xs : List Span} (h : Row Span.cells 2 B w a xs) (i : Nat) (hi : i < xs.length) :
    ∃ b off, a = some ⟨b, off, none⟩ ∧ b < B ∧ w.cell? ⟨b, off + i * 2, none⟩ = some (.int .i64 xs[i].lo) ∧ w.cell? ⟨b, off + i * 2 + 1, none⟩ = some (.int .i64 xs[i].hi) := by
  obtain ⟨b, off, ha, hb, hc⟩ := h i xs[i] (by simp [hi])
  exact ⟨b, off, ha, hb, hc 0 _ rfl, hc 1 _ rfl⟩
theorem Span.of_leaves {cs : List Value} (h : LeavesOk [.int .i64, .int .i64] cs) : ∃ x : Span, cs = x.cells ∧ (Lit.int .i64 x.lo).wf = true ∧ (Lit.int .i64 x.hi).wf = true := by
  obtain ⟨hl, h⟩ := h
  match cs, hl with
  | [v0, v1], _ =>
    obtain ⟨_, e0, n0, rfl, w0⟩ := h 0 (.int .i64) rfl; simp at e0; subst e0
    obtain ⟨_, e1, n1, rfl, w1⟩ := h 1 (.int .i64) rfl; simp at e1; subst e1
    exact ⟨⟨n0, n1⟩, rfl, w0, w1⟩

end Bal.Mast

/-
  Ports, berths and docks as cells of memory. No program in sight.
-/
namespace Bal.Mast
open Go Go.RowKit Bal
/-- a dock's own block: a berth, a port, a need, a wind, a number -/
def dockCells (a : Option Addr) (c : Nat) (e : Option Addr) (d : Nat) (p : Port) (k : Dock) : Array Value :=
  #[.int .u8 k.b.ship, .int .i64 k.b.axis, .int .i64 k.b.held, .bool k.b.wire, .bool k.b.opn, .slice a p.axes.length c, .int .i64 p.people, .int .i64 p.most, .slice e p.pulls.length d, .int .i64 p.cross, .int .i64 k.need, .int .i64 k.wind.xlo, .int .i64 k.wind.xhi, .int .i64 k.wind.ylo, .int .i64 k.wind.yhi, .int .i64 k.n]
end Bal.Mast

/-
  Regions that draw their order: first operations that only read or call (calls may make memory), then operations in one forced order (stores): one walk in the text's order. No program in sight.
-/
namespace Bal
open Go Go.RowKit

theorem Blk.new' {w : World} {n : Nat} {arr : Array Value} {t : TypeId} (h : n = w.heap.size) : Blk (w.alloc (.cells arr t)) n arr t := h ▸ Blk.new
/-- the world of a walk, by what is known of it alone -/
theorem at_world {P : Program} {c : Code} {Q : Exit → Act → World → Prop} {a : Act} {S : World → Prop} {W : World} (h : S W) (k : ∀ W, S W → c.wp P Q a W) : c.wp P Q a W := k W h
theorem Blk.later {w : World} {b : Nat} {arr : Array Value} {t : TypeId} (h : Blk w b arr t) (g : Later w) : Blk g.val b arr t := h.keep g.ok
theorem Blk.cast {w : World} {b : Nat} {arr arr' : Array Value} {t : TypeId} (h : Blk w b arr t) (e : arr = arr') : Blk w b arr' t := e ▸ h
/-- a block of the call's own, behind a contract -/
theorem Blk.thru {w w' : World} {b : Nat} {arr : Array Value} {t : TypeId} {G : Prop} (h : Blk w b arr t) (hb : Kept w w') (k : Blk w' b arr t → G) : G := k (h.keep hb)

/-! ### Facts on worlds and blocks, each by one tactic that is laid here once -/
theorem kpt {w w' : World} (h : Kept w w' := by (repeat (first | with_reducible exact Below.refl _ _ | with_reducible assumption | with_reducible refine Kept.drop ?_ (by with_reducible assumption) | with_reducible refine Kept.alloc ?_ _ | ((with_reducible refine Below.setCell ?_ ?_ _); rotate_left 1; (focus (first | exact Nat.le_refl _ | (simp; done) | (simp; omega) | exact Below.size (by with_reducible assumption) | (refine Kept.size ?_; (repeat (first | with_reducible exact Below.refl _ _ | with_reducible assumption | with_reducible refine Kept.drop ?_ (by with_reducible assumption) | with_reducible refine Kept.alloc ?_ _ | with_reducible refine Below.drew ?_)))))) | with_reducible refine Below.drew ?_))) : Kept w w' := h
theorem blk {w : World} {b : Nat} {arr : Array Value} {t : TypeId} (h : Blk w b arr t := by (repeat (first | with_reducible assumption | ((with_reducible refine Blk.new' ?_); first | with_reducible rfl | (simp; done) | (simp [World.drew]; done)) | with_reducible refine Blk.alloc ?_ _ | ((with_reducible refine Blk.set (arr := ?_) ?_ _ _); rotate_left 1) | ((with_reducible refine Blk.other ?_ ?_ _); rotate_left 1; (focus (first | (simp; done) | (simp; omega) | (refine Nat.ne_of_gt (Blk.lt (arr := ?_) (t := ?_) ?_); rotate_left 2; focus (repeat (first | with_reducible assumption | ((with_reducible refine Blk.new' ?_); first | with_reducible rfl | (simp; done) | (simp [World.drew]; done)) | with_reducible refine Blk.alloc ?_ _ | with_reducible refine Blk.keep ?_ (by with_reducible assumption) | with_reducible refine Blk.drew ?_))) | (refine Nat.ne_of_lt (Blk.lt (arr := ?_) (t := ?_) ?_); rotate_left 2; focus (repeat (first | with_reducible assumption | ((with_reducible refine Blk.new' ?_); first | with_reducible rfl | (simp; done) | (simp [World.drew]; done)) | with_reducible refine Blk.alloc ?_ _ | with_reducible refine Blk.keep ?_ (by with_reducible assumption) | with_reducible refine Blk.drew ?_)))))) | with_reducible refine Blk.keep ?_ (by with_reducible assumption) | with_reducible refine Blk.drew ?_))) : Blk w b arr t := h
theorem blkc {w : World} {b : Nat} {arr : Array Value} {t : TypeId} (h : Blk w b arr t := by (refine Blk.cast (arr := ?_) ?_ ?_; rotate_left 1; (focus (repeat (first | with_reducible assumption | ((with_reducible refine Blk.new' ?_); first | with_reducible rfl | (simp; done) | (simp [World.drew]; done)) | with_reducible refine Blk.alloc ?_ _ | ((with_reducible refine Blk.set (arr := ?_) ?_ _ _); rotate_left 1) | ((with_reducible refine Blk.other ?_ ?_ _); rotate_left 1; (focus (first | (simp; done) | (simp; omega) | (refine Nat.ne_of_gt (Blk.lt (arr := ?_) (t := ?_) ?_); rotate_left 2; focus (repeat (first | with_reducible assumption | ((with_reducible refine Blk.new' ?_); first | with_reducible rfl | (simp; done) | (simp [World.drew]; done)) | with_reducible refine Blk.alloc ?_ _ | with_reducible refine Blk.keep ?_ (by with_reducible assumption) | with_reducible refine Blk.drew ?_))) | (refine Nat.ne_of_lt (Blk.lt (arr := ?_) (t := ?_) ?_); rotate_left 2; focus (repeat (first | with_reducible assumption | ((with_reducible refine Blk.new' ?_); first | with_reducible rfl | (simp; done) | (simp [World.drew]; done)) | with_reducible refine Blk.alloc ?_ _ | with_reducible refine Blk.keep ?_ (by with_reducible assumption) | with_reducible refine Blk.drew ?_)))))) | with_reducible refine Blk.keep ?_ (by with_reducible assumption) | with_reducible refine Blk.drew ?_))); (first | rfl | (simp; done)))) : Blk w b arr t := h

section
variable {P : Program} {ops : Array Oper} {md : Region.Mode} {C : World → Prop}

/-- whatever order is picked of the first n operations -/
def wpHeadQ (P : Program) (md : Region.Mode) (ops : Array Oper) (C : World → Prop) (n : Nat) (L : Array Bool → Act → Prop) : Nat → Array Bool → Act → Prop
  | 0, listed, a => L listed a
  | f + 1, listed, a =>
    Region.ready md ops listed ≠ [] ∧ ∀ i ∈ Region.ready md ops listed, i < n ∧ qOp P ops C i (wpHeadQ P md ops C n L f (listed.setIfInBounds i true)) a

theorem wpAny_of_headQ {n g : Nat} {L : Array Bool → Act → Prop} {Q' : Exit → Act → World → Prop} (hL : ∀ listed a w, C w → L listed a → wpAny P md ops Q' g listed a w) :
    ∀ (f : Nat) (listed : Array Bool) (a : Act) (w : World), C w → wpHeadQ P md ops C n L f listed a → wpAny P md ops Q' (f + g) listed a w
  | 0, listed, a, w, hw, h => by rw [Nat.zero_add]; exact hL _ _ _ hw h
  | f + 1, listed, a, w, hw, h => by
    rw [show f + 1 + g = (f + g) + 1 by omega]
    exact ⟨fun h0 => absurd h0 h.1, fun i hi => wpOp_of_qOp hw (fun a' w' hw' h' => wpAny_of_headQ hL f _ a' w' hw' h') (h.2 i hi).2⟩

theorem wpHeadQ_first {n i : Nat} {oi : Oper} {v : Value} {L : Array Bool → Act → Prop} (hi : ops[i]? = some oi) (hsel : ∀ (j : Nat) (o : Oper) cs b, ops[j]? = some o → o.op ≠ .select cs b)
    (hs : Region.sinkB md ops n = true) (hc : Region.chainB md ops n = true) (hn : n < ops.size) (hin : i < n)
    (hdone : ∀ listed a, L listed a → ∀ j ∈ Region.ready md ops listed, n ≤ j) :
    ∀ (f : Nat) (listed : Array Bool) (a : Act), HeadInv md ops n listed →
      (∀ j oj, ops[j]? = some oj → j ≠ i → listed.getD j true = false → (∀ e ∈ oj.after, Region.binds md e = true → e.on ≠ i) → oi.apart ops oj = true) →
      i ∈ Region.ready md ops listed → YieldsIn P ops C oi v a →
      wpHeadQ P md ops C n L f (listed.setIfInBounds i true) (a.put oi.dst v) → wpHeadQ P md ops C n L (f + 1) listed a := by
  intro f
  induction f with
  | zero =>
    intro listed a inv _ hr hy H
    have hun := (mem_ready.1 hr).1
    refine ⟨fun h => (by rw [h] at hr; cases hr), fun j hj => ?_⟩
    have hjn : j < n := by
      rcases Nat.lt_or_ge j n with h | h
      · exact h
      · exact absurd hj (tail_waits hs hc hn inv _ i rfl hin hun j h)
    refine ⟨hjn, ?_⟩
    by_cases hji : j = i
    · subst hji; exact hy.qOp hi H
    · have := hdone _ _ H j (ready_mono hj hji)
      omega
  | succ f ih =>
    intro listed a inv hfree hr hy H
    have hun := (mem_ready.1 hr).1
    refine ⟨fun h => (by rw [h] at hr; cases hr), fun j hj => ?_⟩
    have hjn : j < n := by
      rcases Nat.lt_or_ge j n with h | h
      · exact h
      · exact absurd hj (tail_waits hs hc hn inv _ i rfl hin hun j h)
    refine ⟨hjn, ?_⟩
    by_cases hji : j = i
    · subst hji; exact hy.qOp hi H
    · have h1 := (H.2 j (ready_mono hj hji)).2
      obtain ⟨hjun, oj, hoj, hall⟩ := mem_ready.1 hj
      have hnot : ∀ e ∈ oj.after, Region.binds md e = true → e.on ≠ i := fun e he hb heq => by
        have h1 := hall e he hb
        rw [heq, getD_both hun] at h1
        cases h1
      have h2 := qOp_put hoj (hfree j oj hoj hji hjun hnot) (fun cs b => hsel i oi cs b hi) (fun cs b => hsel j oj cs b hoj) hy h1
      have hfree' : ∀ k ok, ops[k]? = some ok → k ≠ i → (listed.setIfInBounds j true).getD k true = false →
          (∀ e ∈ ok.after, Region.binds md e = true → e.on ≠ i) → oi.apart ops ok = true := fun k ok hk hki hun hno => by
        refine hfree k ok hk hki ?_ hno
        by_cases hjk : j = k
        · subst hjk; exact hjun
        · rw [getD_set_ne true hjk] at hun; exact hun
      refine qOp_mono (fun a' h3 => ih (listed.setIfInBounds j true) a' (inv.set hj hjn) hfree' (ready_mono hr (Ne.symm hji)) h3.1 ?_) h2
      rw [Array.setIfInBounds_comm _ _ hji]
      exact h3.2

theorem wpHeadQ_lex {n g : Nat} {Lq : Act → Prop} (hsel : Region.noSelect ops = true) (hs : Region.sinkB md ops n = true) (hc : Region.chainB md ops n = true) (hn : n < ops.size) :
    ∀ (l : List Oper) (k : Nat) (listed : Array Bool) (a : Act), (∀ j, j < l.length → l[j]? = ops[k + j]?) → k + l.length = n → HeadInv md ops n listed →
    Region.lexHead md ops g l.length k listed = true → wpQuiet P ops C Lq l a →
    wpHeadQ P md ops C n (fun listed' a' => Region.seqB md ops g n listed' = true ∧ Lq a') l.length listed a
  | [], k, listed, a, _, hk, _, hB, h => by
    have : k = n := by simpa using hk
    subst this
    exact ⟨by simpa [Region.lexHead] using hB, h⟩
  | o :: l, k, listed, a, hl, hk, inv, hB, h => by
    have h0 : ops[k]? = some o := by simpa using (hl 0 (by simp)).symm
    simp only [List.length_cons, Region.lexHead, Bool.and_eq_true] at hB
    obtain ⟨⟨hr, hf⟩, hB'⟩ := hB
    have hkn : k < n := by simp only [List.length_cons] at hk; omega
    have hr' : k ∈ Region.ready md ops listed := by simpa using hr
    have hst : qOp P ops C k (wpQuiet P ops C Lq l) a := by unfold qOp; simp only [h0]; exact h
    obtain ⟨v, hy, hK⟩ := yieldsIn_of_qOp h0 hst
    exact wpHeadQ_first h0 (Region.noSelect_spec hsel) hs hc hn hkn (fun listed' a' hL => seqB_ready hL.1) l.length listed a inv (Region.free_spec h0 hf) hr' hy
      (wpHeadQ_lex hsel hs hc hn l (k + 1) _ _ (fun j hj => by have := hl (j + 1) (by simp; omega); simpa [Nat.add_assoc, Nat.add_comm 1 j] using this) (by simp only [List.length_cons] at hk; omega) (inv.set hr' hkn) hB' hK)

/-- THE THEOREM: the first n operations quiet in the class, the rest in one forced order, from every world of the class. -/
theorem Later.tail {P : Program} {id : Nat} {Q : Exit → Act → World → Prop} {a : Act} {w : World} {l : List Oper} (n : Nat) (hm : P.follows .mixedOrders = true) (hB : Region.lexTailB .any l.toArray n = true)
    (h : wpQuiet P l.toArray (fun w' => ∃ g : Later w, w' = g.val) (fun a' => ∀ g : Later w, wpList P l.toArray Q (l.drop n) a' g.val) (l.take n) a) : (Code.region id l.toArray true).wp P Q a w := by
  simp only [Region.lexTailB, Bool.and_eq_true, decide_eq_true_eq] at hB
  obtain ⟨⟨⟨⟨hsel, hn⟩, hs⟩, hc⟩, hlex⟩ := hB
  have hn' : n < l.length := by simpa using hn
  have htl : (l.take n).length = n := by simp; omega
  have hdl : (l.drop n).length = l.toArray.size - n := by simp
  have inv0 : HeadInv .any l.toArray n (Array.replicate l.toArray.size false) :=
    ⟨by simp, fun j oj _ hl => (by rw [getD_replicate_false] at hl; cases hl), fun t _ ht => getD_in (by simpa using ht) (getD_replicate_false _ _)⟩
  have H := wpHeadQ_lex (md := .any) (g := l.toArray.size - n) hsel hs hc hn (l.take n) 0 _ a (fun j hj => by
    have hj' : j < n := by rw [htl] at hj; exact hj
    simp [hj']) (by simpa using htl) inv0 (by rw [htl]; exact hlex) h
  refine wp_region_any hm ?_
  have := wpAny_of_headQ (C := fun w' => ∃ g : Later w, w' = g.val) (Q' := Q) (g := l.toArray.size - n) (fun listed a' w' hw' hL => by
    obtain ⟨g, rfl⟩ := hw'
    have := wpAny_of_seq (md := .any) (Q' := Q) (l.drop n) n listed a' g.val (fun j => by simp [List.getElem?_drop]) (by rw [hdl]; exact hL.1) (hL.2 g)
    rwa [hdl] at this) _ _ _ { w with drawn := w.drawn + 1 } ⟨⟨w.drew, (Below.refl _ _).drew⟩, rfl⟩ H
  rw [htl, show n + (l.toArray.size - n) = l.toArray.size by omega] at this
  exact this
end
end Bal

/-
  Ranges, axes, winds and roots, in the program and in the reference.
-/
namespace Go.Proofs.Ytacbkbilbmkjnaa
open Go.RowKit Bal Bal.Trim Bal.Mast
set_option linter.unusedVariables false
set_option linter.unusedSimpArgs false
set_option maxHeartbeats 800000
set_option maxRecDepth 10000

theorem f_ranged1 (lo hi n : Int) (w : World) (bl bh : Nat) (hl : w.cell? ⟨bl, 0, none⟩ = some (.int .i64 lo)) (hh : w.cell? ⟨bh, 0, none⟩ = some (.int .i64 hi)) :
    Calls Try.prog 95 #[.int .i64 n, .pointer (some ⟨bl, 0, none⟩), .pointer (some ⟨bh, 0, none⟩)] w fun e w' => e = .returned (.bool (!inB n lo hi)) ∧ w = w' := by
  have he : (!inB n lo hi) = (decide (n < lo) || decide (hi < n)) := by
    rw [Bool.eq_iff_iff]; first | (simp [inB]; done) | (simp [inB]; omega)
  rw [he]
  by_cases h1 : n < lo <;> by_cases h2 : hi < n
  all_goals
    go_enter Try.func95, Try.ntmps95
    go_wp2
    go_ret
    exact ⟨ret_bool (by simp [*]), rfl⟩

theorem s_IndexR (lo hi : Int) (bl bh : Nat) (a : Option Addr) (cap : Nat) (xs : List Int) (w : World) (hl : w.cell? ⟨bl, 0, none⟩ = some (.int .i64 lo)) (hh : w.cell? ⟨bh, 0, none⟩ = some (.int .i64 hi)) {B : Nat} (hx : Row icell 1 B w a xs) (h1 : xs.length ≤ 1000000) :
    Calls Try.prog 125 #[.slice a xs.length cap, .func (.func 95) #[] #[.pointer (some ⟨bl, 0, none⟩), .pointer (some ⟨bh, 0, none⟩)]] w fun e w' => (∃ r : Int, e = .returned (.int .i64 r) ∧ decide (r < 0) = rng xs lo hi ∧ -1 ≤ r) ∧ w = w' := by
  obtain ⟨R, hR⟩ : ∃ R, R = rng xs lo hi := ⟨_, rfl⟩
  have HR := Lib.hid hR
  rw [← hR]
  clear hR
  go_enter Try.func125, Try.ntmps125
  go_wp2
  go_loop [8] (fun i => ∃ k : Nat, k ≤ xs.length ∧ i = .int .i64 k ∧ (xs.take k).all (fun n => inB n lo hi) = true) (fun i => xs.length - (intOf i).toNat)
  case atStart => exact ⟨0, Nat.zero_le _, rfl, by simp⟩
  case round =>
    obtain ⟨k, hk, rfl, ha'⟩ := hrel
    have ha := Lib.hid ha'
    clear ha'
    by_cases hlt : k < xs.length
    · obtain ⟨b, off, rfl, _, ck⟩ := int_row hx k hlt
      have hbad : inB xs[k] lo hi = false → R = false := fun hv => by
        rw [HR.out]
        unfold rng
        rw [Bool.eq_false_iff]
        intro h
        rw [List.all_eq_true.1 h _ (List.getElem_mem hlt)] at hv
        cases hv
      have HB := Lib.hid hbad
      clear hbad
      have HT := Lib.hid (fun h => take_all (valid := fun n => inB n lo hi) hlt ha.out h)
      have hcall := f_ranged1 lo hi xs[k] w bl bh hl hh
      obtain ⟨x, hx0⟩ : ∃ x, x = xs[k] := ⟨_, rfl⟩
      rw [← hx0] at HB HT ck hcall
      clear hx0
      cases hq : inB x lo hi with
      | false =>
        rw [hq] at hcall
        have HF := Lib.hid (HB.out hq)
        clear hq HB
        go_wp2_with (go_at_call 95; refine hcall.mono ?_; rintro e w1 ⟨rfl, rfl⟩)
        go_ret
        refine ⟨⟨k, rfl, ?_, by omega⟩, rfl⟩
        rw [HF.out, decide_eq_false_iff_not]; omega
      | true =>
        rw [hq] at hcall
        have HF := Lib.hid (HT.out hq)
        clear hq HT
        go_wp2_with (go_at_call 95; refine hcall.mono ?_; rintro e w1 ⟨rfl, rfl⟩)
        go_round
        case rel => exact ⟨k + 1, by omega, by go_num, HF.out⟩
        case measure => simp [intOf]; omega
    · obtain rfl : k = xs.length := by omega
      have HF := Lib.hid (show R = true by rw [HR.out]; unfold rng; rw [← ha.out, List.take_length])
      go_wp2
      go_ret
      refine ⟨⟨-1, rfl, ?_, by omega⟩, rfl⟩
      rw [HF.out]; rfl

theorem s_ContainsR (lo hi : Int) (bl bh : Nat) (a : Option Addr) (cap : Nat) (xs : List Int) (w : World) (hl : w.cell? ⟨bl, 0, none⟩ = some (.int .i64 lo)) (hh : w.cell? ⟨bh, 0, none⟩ = some (.int .i64 hi)) {B : Nat} (hx : Row icell 1 B w a xs) (h1 : xs.length ≤ 1000000) :
    Calls Try.prog 94 #[.slice a xs.length cap, .func (.func 95) #[] #[.pointer (some ⟨bl, 0, none⟩), .pointer (some ⟨bh, 0, none⟩)]] w fun e w' => e = .returned (.bool (!rng xs lo hi)) ∧ w = w' := by
  obtain ⟨R, hR⟩ : ∃ R, R = rng xs lo hi := ⟨_, rfl⟩
  have hcall := s_IndexR lo hi bl bh a cap xs w hl hh hx h1
  rw [← hR] at hcall ⊢
  clear hR
  go_enter Try.func94, Try.ntmps94
  go_wp2_with (go_at_call 125; refine hcall.mono ?_; rintro e w1 ⟨⟨r, rfl, hr1, hr2⟩, rfl⟩)
  go_ret
  refine ⟨ret_bool ?_, rfl⟩
  rw [← hr1, ← decide_not]
  exact decide_eq_decide.2 (by omega)

theorem f_ranged (lo hi : Int) (a : Option Addr) (n cap : Nat) (xs : List Int) (w : World) (hn : xs.length = n) (hx : Row icell 1 w.heap.size w a xs) (h1 : n ≤ 1000000) :
    Calls Try.prog 51 #[.int .i64 lo, .int .i64 hi, .slice a n cap] w fun e w' => e = .returned (.bool (rng xs lo hi)) ∧ Kept w w' := by
  subst hn
  obtain ⟨R, hR⟩ : ∃ R, R = rng xs lo hi := ⟨_, rfl⟩
  have hcall := fun (W : World) (hl : W.cell? ⟨w.heap.size, 0, none⟩ = some (.int .i64 lo)) (hh : W.cell? ⟨w.heap.size + 1, 0, none⟩ = some (.int .i64 hi)) (hx : Row icell 1 W.heap.size W a xs) => s_ContainsR lo hi w.heap.size (w.heap.size + 1) a cap xs W hl hh hx h1
  rw [← hR] at hcall ⊢
  clear hR
  go_enter Try.func51, Try.ntmps51
  go_wp2_with (go_at_call 94; refine (hcall _ (by simp [*]) (by simp [*]) (hx.later (by (exact kpt)) (Nat.le_refl _))).mono ?_; rintro e w1 ⟨rfl, rfl⟩)
  go_ret
  exact ⟨ret_bool (by simp), by (exact kpt)⟩

theorem f_ranged_1 (lo hi p : Int) (t : TypeId) (W : World) (m : Nat) (hm : m = W.heap.size) :
    Calls Try.prog 51 #[.int .i64 lo, .int .i64 hi, .slice (some ⟨m, 0, none⟩) 1 1] (W.alloc (.cells #[.int .i64 p] t))
      fun e w' => e = .returned (.bool (rng [p] lo hi)) ∧ Kept (W.alloc (.cells #[.int .i64 p] t)) w' := by
  subst hm
  exact f_ranged lo hi _ 1 1 [p] _ rfl ((Row.fresh (enc := icell) (fun _ => rfl) rfl).up (by simp)) (by decide)

theorem f_ranged_2 (lo hi p q : Int) (t : TypeId) (W : World) (m : Nat) (hm : m = W.heap.size) :
    Calls Try.prog 51 #[.int .i64 lo, .int .i64 hi, .slice (some ⟨m, 0, none⟩) 2 2] (W.alloc (.cells #[.int .i64 p, .int .i64 q] t))
      fun e w' => e = .returned (.bool (rng [p, q] lo hi)) ∧ Kept (W.alloc (.cells #[.int .i64 p, .int .i64 q] t)) w' := by
  subst hm
  exact f_ranged lo hi _ 2 2 [p, q] _ rfl ((Row.fresh (enc := icell) (fun _ => rfl) rfl).up (by simp)) (by decide)

theorem f_span (x y lo hi : Int) (w : World) :
    Calls Try.prog 55 #[.agg #[.int .i64 x, .int .i64 y], .int .i64 lo, .int .i64 hi] w fun e w' => e = .returned (.bool (spanIn x y lo hi)) ∧ Kept w w' := by
  go_enter Try.func55, Try.ntmps55
  go_wp2_with (go_at_call 51; (with_reducible refine (f_ranged_2 _ _ _ _  _ _ _ (by simp)).mono ?_); rintro e w1 ⟨rfl, hb1⟩; obtain ⟨hc1, hf1, hl1⟩ := bcell3 hb1)
  all_goals (go_ret; refine ⟨ret_bool ?_, by (exact kpt)⟩; simp [spanIn, *])
  all_goals omega

theorem f_CheckAxis (a : Axis) (w : World) :
    Calls Try.prog 13 #[.agg #[.int .i64 a.x, .int .i64 a.y]] w fun e w' => e = .returned (.int .i64 (checkAxis a)) ∧ Kept w w' := by
  have he : checkAxis a = if rng [a.x, a.y] (-1000) 1000 then (if a.x = 0 ∧ a.y = 0 then 70 else 0) else 70 := by
    unfold checkAxis; rw [axisB_rng]
    cases rng [a.x, a.y] (-1000) 1000
    · simp
    · by_cases h : a.x = 0 <;> by_cases h' : a.y = 0 <;> simp [h, h']
  rw [he]
  clear he
  obtain ⟨ax, ay⟩ := a
  simp only
  cases hr : rng [ax, ay] (-1000) 1000 <;> by_cases h : ax = 0 <;> by_cases h' : ay = 0 <;> (try subst h) <;> (try subst h')
  all_goals
    go_enter Try.func13, Try.ntmps13
    go_wp2_with (go_at_call 51; (with_reducible refine (f_ranged_2 _ _ _ _  _ _ _ (by simp)).mono ?_); rintro e w1 ⟨rfl, hb1⟩; obtain ⟨hc1, hf1, hl1⟩ := bcell3 hb1)
    all_goals (go_ret; exact ⟨ret_int (by simp [*]), by (exact kpt)⟩)

theorem f_CheckWind (a : Wind) (w : World) :
    Calls Try.prog 15 #[.agg #[.int .i64 a.xlo, .int .i64 a.xhi, .int .i64 a.ylo, .int .i64 a.yhi]] w fun e w' => e = .returned (.int .i64 (checkWind a)) ∧ Kept w w' := by
  go_enter Try.func15, Try.ntmps15
  go_wp2_with (go_at_call 55; (with_reducible refine (f_span _ _ _ _ _).mono ?_); rintro e w1 ⟨rfl, hb1⟩; obtain ⟨hc1, hf1, hl1⟩ := bcell3 hb1)
  all_goals (go_ret; refine ⟨ret_int ?_, by (exact kpt)⟩; simp_all [checkWind, windB_spans])

theorem r_within (n lo hi : Int) (w : World) :
    Calls Try.prog 53 #[.int .i64 n, .int .i64 lo, .int .i64 hi] w fun e w' => e = .returned (.bool (inB n lo hi)) ∧ w = w' := by
  go_enter Try.func53, Try.ntmps53
  go_wp2
  all_goals (go_ret; exact ⟨ret_bool (by first | (simp_all [inB]; done) | (simp_all [inB]; omega)), rfl⟩)

theorem r_spanned (x y lo hi : Int) (w : World) :
    Calls Try.prog 91 #[.agg #[.int .i64 x, .int .i64 y], .int .i64 lo, .int .i64 hi] w fun e w' => e = .returned (.bool (spanIn x y lo hi)) ∧ Kept w w' := by
  have he : spanIn x y lo hi = (decide (lo ≤ x) && decide (x ≤ y) && decide (y ≤ hi)) := by
    simp only [spanIn, rng, inB, List.all_cons, List.all_nil, Bool.and_true]
    rw [Bool.eq_iff_iff]
    simp
    omega
  rw [he]
  by_cases h1 : lo ≤ x <;> by_cases h2 : x ≤ y <;> by_cases h3 : y ≤ hi
  all_goals
    go_enter Try.func91, Try.ntmps91
    go_wp2
    all_goals (go_ret; exact ⟨ret_bool (by simp [*]), by (exact kpt)⟩)

theorem r_Axis (a : Axis) (w : World) :
    Calls Try.prog 47 #[.agg #[.int .i64 a.x, .int .i64 a.y]] w fun e w' => e = .returned (.bool (axisB a)) ∧ Kept w w' := by
  have he : axisB a = (inB a.x (-1000) 1000 && inB a.y (-1000) 1000 && !(decide (a.x = 0) && decide (a.y = 0))) := by
    rw [axisB_rng]; simp [rng]
  rw [he]
  clear he
  obtain ⟨ax, ay⟩ := a
  simp only
  cases h1 : inB ax (-1000) 1000 <;> cases h2 : inB ay (-1000) 1000 <;> by_cases h : ax = 0 <;> by_cases h' : ay = 0 <;> (try subst h) <;> (try subst h')
  all_goals
    go_enter Try.func47, Try.ntmps47
    go_wp2_with (go_at_call 53; (with_reducible refine (r_within _ _ _ _).mono ?_); rintro e w1 ⟨rfl, rfl⟩)
    all_goals (go_ret; exact ⟨ret_bool (by simp [*]), by (exact kpt)⟩)

theorem r_CheckAxis (a : Axis) (w : World) :
    Calls Try.prog 14 #[.agg #[.int .i64 a.x, .int .i64 a.y]] w fun e w' => e = .returned (.int .i64 (checkAxis a)) ∧ Kept w w' := by
  go_enter Try.func14, Try.ntmps14
  go_wp2_with (go_at_call 47; (with_reducible refine (r_Axis _ _).mono ?_); rintro e w1 ⟨rfl, hb1⟩; obtain ⟨hc1, hf1, hl1⟩ := bcell3 hb1)
  all_goals (go_ret; refine ⟨ret_int ?_, by (exact kpt)⟩; simp_all [checkAxis])

theorem r_Wind (a : Wind) (w : World) :
    Calls Try.prog 46 #[.agg #[.int .i64 a.xlo, .int .i64 a.xhi, .int .i64 a.ylo, .int .i64 a.yhi]] w fun e w' => e = .returned (.bool (windB a)) ∧ Kept w w' := by
  rw [windB_spans]
  go_enter Try.func46, Try.ntmps46
  go_wp2_with (go_at_call 91; (with_reducible refine (r_spanned _ _ _ _ _).mono ?_); rintro e w1 ⟨rfl, hb1⟩; obtain ⟨hc1, hf1, hl1⟩ := bcell3 hb1)
  all_goals (go_ret; refine ⟨ret_bool ?_, by (exact kpt)⟩; simp_all)

theorem r_CheckWind (a : Wind) (w : World) :
    Calls Try.prog 16 #[.agg #[.int .i64 a.xlo, .int .i64 a.xhi, .int .i64 a.ylo, .int .i64 a.yhi]] w fun e w' => e = .returned (.int .i64 (checkWind a)) ∧ Kept w w' := by
  go_enter Try.func16, Try.ntmps16
  go_wp2_with (go_at_call 46; (with_reducible refine (r_Wind _ _).mono ?_); rintro e w1 ⟨rfl, hb1⟩; obtain ⟨hc1, hf1, hl1⟩ := bcell3 hb1)
  all_goals (go_ret; refine ⟨ret_int ?_, by (exact kpt)⟩; simp_all [checkWind])

theorem f_root (x n : Int) (w : World) (hn : 1 ≤ n) (hn2 : n ≤ 2000000) (hx0 : 0 ≤ x) (hx : x ≤ 8000000 * n) :
    Calls Try.prog 45 #[.int .i64 x, .int .i64 n] w fun e w' => e = .returned (.int .i64 (rt x n)) ∧ w = w' := by
  have HT := Lib.hid (root_top hn hx)
  have HR := Lib.hid (fun lo h0 h1 h2 => rt_half (lo := lo) hn hx h0 h1 h2)
  go_enter Try.func45, Try.ntmps45
  go_wp2
  go_loop [5, 6] (fun l h => ∃ lo hi : Int, 0 ≤ lo ∧ lo < hi ∧ hi ≤ 4001 ∧ l = .int .i64 lo ∧ h = .int .i64 hi ∧ lo * lo * n ≤ x ∧ x < hi * hi * n) (fun l h => (intOf h - intOf l).toNat)
  case atStart => exact ⟨0, 4001, by omega, by omega, by omega, rfl, rfl, by simpa using hx0, by have := HT.out; omega⟩
  case round =>
    obtain ⟨lo, hi, h0, h1, h2, rfl, rfl, h3, h4⟩ := hrel
    have H3 := Lib.hid h3
    have H4 := Lib.hid h4
    clear h3 h4
    by_cases hlt : 1 < hi - lo
    · obtain ⟨m, hm⟩ : ∃ m, m = (lo + hi) / 2 := ⟨_, rfl⟩
      have hm1 : lo < m ∧ m < hi := by omega
      have HD : (lo + hi).tdiv 2 = m := by rw [Int.tdiv_eq_ediv_of_nonneg (by omega), hm]
      have HE : (lo + hi) / 2 = m := hm.symm
      clear hm
      have p1 : 0 ≤ m * m ∧ m * m ≤ 16008001 := by
        have := mul_bd (A := 4001) (B := 4001) (x := m) (y := m) (by omega) (by omega) (by omega) (by omega)
        exact ⟨Int.mul_nonneg (by omega) (by omega), by omega⟩
      have p2 : 0 ≤ m * m * n ∧ m * m * n ≤ 33000000000000 := by
        have := mul_bd (A := 16008001) (B := 2000000) (x := m * m) (y := n) (by omega) (by omega) (by omega) (by omega)
        exact ⟨Int.mul_nonneg (by omega) (by omega), by omega⟩
      by_cases hc : m * m * n ≤ x
      · have HC := Lib.hid hc
        go_wp2
        go_round
        case rel => exact ⟨m, hi, by omega, by omega, h2, rfl, rfl, HC.out, H4.out⟩
        case measure => simp [intOf]; omega
      · have HC := Lib.hid (show x < m * m * n by omega)
        go_wp2
        go_round
        case rel => exact ⟨lo, m, h0, by omega, by omega, rfl, rfl, H3.out, HC.out⟩
        case measure => simp [intOf]; omega
    · obtain rfl : hi = lo + 1 := by omega
      have HF := Lib.hid (HR.out lo h0 H3.out H4.out)
      go_wp2
      go_ret
      exact ⟨ret_int HF.out.symm, rfl⟩

end Go.Proofs.Ytacbkbilbmkjnaa

/-
  A region that draws its order, walked once in an order that is told: first operations that need no world, then operations that only read or call (calls may make memory), then the rest in one forced order. No program in sight.
-/
namespace Bal
open Go Go.RowKit

section
variable {P : Program} {ops : Array Oper} {md : Region.Mode} {C : World → Prop}

def ordTail (md : Region.Mode) (ops : Array Oper) : List Nat → Array Bool → Bool
  | [], listed => (Region.ready md ops listed).isEmpty
  | k :: r, listed => decide (Region.ready md ops listed = [k]) && ordTail md ops r (listed.setIfInBounds k true)
def sinkOrd (md : Region.Mode) (ops : Array Oper) (t0 : Nat) : List Nat → Bool
  | [] => true
  | i :: r => ((r ++ [t0]).any fun j => Region.waitsFor md ops j i) && sinkOrd md ops t0 r
def chainOrd (md : Region.Mode) (ops : Array Oper) : Nat → List Nat → Bool
  | _, [] => true
  | a, b :: r => Region.waitsFor md ops b a && chainOrd md ops b r
structure OrdInv (md : Region.Mode) (ops : Array Oper) (hd tl : List Nat) (listed : Array Bool) : Prop where
  size : listed.size = ops.size
  closed : ∀ j oj, ops[j]? = some oj → listed.getD j false = true → ∀ e ∈ oj.after, Region.binds md e = true → listed.getD e.on false = true
  tail : ∀ t, t ∈ tl → listed.getD t true = false
  cover : ∀ j, listed.getD j true = false → j ∈ hd ∨ j ∈ tl

theorem OrdInv.set {hd tl : List Nat} {listed : Array Bool} {i : Nat} (inv : OrdInv md ops hd tl listed) (hi : i ∈ Region.ready md ops listed) (hn : i ∉ tl) : OrdInv md ops hd tl (listed.setIfInBounds i true) := by
  obtain ⟨_, oi, hoi, hall⟩ := mem_ready.1 hi
  refine ⟨by simp [inv.size], fun j oj hj hl e he hb => ?_, fun t ht => ?_, fun j hj => ?_⟩
  · by_cases hij : i = j
    · subst hij
      have : oj = oi := Option.some.inj (hj.symm.trans hoi)
      subst this
      exact getD_set_true (hall e he hb)
    · rw [getD_set_ne false hij] at hl
      exact getD_set_true (inv.closed j oj hj hl e he hb)
  · rw [getD_set_ne true (fun e => hn (by rw [e]; exact ht))]; exact inv.tail t ht
  · by_cases hij : i = j
    · subst hij
      exfalso
      rcases Nat.lt_or_ge i listed.size with h' | h'
      · simp [h'] at hj
      · simp [Array.getElem?_eq_none (by simpa using h' : (listed.setIfInBounds i true).size ≤ i)] at hj
    · rw [getD_set_ne true hij] at hj
      exact inv.cover j hj

theorem sink_waits {hd tl : List Nat} {t0 : Nat} {listed : Array Bool} (inv : OrdInv md ops hd (t0 :: tl) listed) :
    ∀ (s : List Nat), sinkOrd md ops t0 s = true → ∀ i ∈ s, listed.getD i true = false → t0 ∉ Region.ready md ops listed
  | [], _, _, hi, _ => by cases hi
  | x :: r, hs, i, hi, hun => by
    simp only [sinkOrd, Bool.and_eq_true] at hs
    obtain ⟨h1, h2⟩ := hs
    rcases List.mem_cons.1 hi with rfl | hi
    · obtain ⟨j, hj, hw⟩ := List.any_eq_true.1 h1
      obtain ⟨oj, hoj, e, he, hb, hon⟩ := Region.waitsFor_spec hw
      rcases List.mem_append.1 hj with hj | hj
      · cases hl : listed.getD j false with
        | true =>
          have h3 := inv.closed j oj hoj hl e he hb
          rw [hon, getD_both hun] at h3
          cases h3
        | false =>
          have hjs : j < listed.size := by rw [inv.size]; exact (Array.getElem?_eq_some_iff.1 hoj).1
          exact sink_waits inv r h2 j hj (getD_in hjs hl)
      · have : j = t0 := by simpa using hj
        subst this
        intro hr
        obtain ⟨_, o', ho', hall⟩ := mem_ready.1 hr
        have : oj = o' := Option.some.inj (hoj.symm.trans ho')
        subst this
        have h3 := hall e he hb
        rw [hon, getD_both hun] at h3
        cases h3
    · exact sink_waits inv r h2 i hi hun

theorem chain_mem : ∀ (tl : List Nat) (t0 : Nat), chainOrd md ops t0 tl = true → ∀ t ∈ tl, ∃ t' ∈ t0 :: tl, Region.waitsFor md ops t t' = true
  | [], _, _, t, ht => by cases ht
  | b :: r, t0, hc, t, ht => by
    simp only [chainOrd, Bool.and_eq_true] at hc
    rcases List.mem_cons.1 ht with rfl | ht
    · exact ⟨t0, by simp, hc.1⟩
    · obtain ⟨t', h1, h2⟩ := chain_mem r b hc.2 t ht
      exact ⟨t', List.mem_cons_of_mem _ h1, h2⟩

theorem wpAny_of_ordTail {Q' : Exit → Act → World → Prop} : ∀ (tl : List Nat) (l : List Oper) (listed : Array Bool) (a : Act) (w : World), tl.map (ops[·]?) = l.map some →
    ordTail md ops tl listed = true → wpList P ops Q' l a w → wpAny P md ops Q' l.length listed a w
  | [], [], _, _, _, _, hB, h => ⟨by simpa [ordTail] using hB, h⟩
  | [], _ :: _, _, _, _, hm, _, _ => by simp at hm
  | _ :: _, [], _, _, _, hm, _, _ => by simp at hm
  | k :: tl, o :: l, listed, a, w, hm, hB, h => by
    simp only [List.map_cons, List.cons.injEq] at hm
    obtain ⟨h0, hm'⟩ := hm
    simp only [ordTail, Bool.and_eq_true, decide_eq_true_eq] at hB
    refine ⟨fun h1 => (by rw [hB.1] at h1; cases h1), fun i hi => ?_⟩
    rw [hB.1] at hi
    have hik : i = k := by simpa using hi
    subst hik
    have hw : wpOp P ops Q' i (wpList P ops Q' l) a w := by unfold wpOp; simp only [h0]; exact h
    exact wpOp_mono (fun a' w' h' => wpAny_of_ordTail tl l _ a' w' hm' hB.2 h') hw

theorem filterMap_ok {l : List Oper} : ∀ (is : List Nat), (∀ i ∈ is, i < l.length) → is.map (l.toArray[·]?) = (is.filterMap (l[·]?)).map some ∧ (is.filterMap (l[·]?)).length = is.length
  | [], _ => ⟨rfl, rfl⟩
  | i :: is, h => by
    have hi := h i (by simp)
    obtain ⟨h1, h2⟩ := filterMap_ok is (fun j hj => h j (by simp [hj]))
    have e : l[i]? = some l[i] := by simp [hi]
    refine ⟨?_, ?_⟩
    · rw [List.map_cons, h1, List.filterMap_cons, e]
      simp [hi]
    · rw [List.filterMap_cons, e]
      simp [h2]

/-! ### The same, with operations that need no world among the others -/

/-- is one of hd yet to come? -/
def pendB (hd : List Nat) (listed : Array Bool) : Bool := hd.any fun i => !(listed.getD i true)

theorem pendB_false {hd : List Nat} {listed : Array Bool} (h : pendB hd listed = false) : ∀ i ∈ hd, listed.getD i true = true := fun i hi => by
  unfold pendB at h
  have := List.any_eq_false.1 h i hi
  simpa using this
theorem pendB_true {hd : List Nat} {listed : Array Bool} (h : pendB hd listed = true) : ∃ i ∈ hd, listed.getD i true = false := by
  unfold pendB at h
  obtain ⟨i, hi, h'⟩ := List.any_eq_true.1 h
  exact ⟨i, hi, by simpa using h'⟩

/-- whatever order is picked: while one of hd is yet to come only operations of hd and of wl may come up; then it is as the worlds of the class have it -/
def wpMix (P : Program) (md : Region.Mode) (ops : Array Oper) (C : World → Prop) (Q : Exit → Act → World → Prop) (hd wl : List Nat) : Nat → Array Bool → Act → Prop
  | 0, listed, a => ∀ w, C w → wpAny P md ops Q 0 listed a w
  | f + 1, listed, a =>
    (pendB hd listed = true → Region.ready md ops listed ≠ [] ∧ ∀ i ∈ Region.ready md ops listed, (i ∈ hd ∨ i ∈ wl) ∧ qOp P ops C i (wpMix P md ops C Q hd wl f (listed.setIfInBounds i true)) a) ∧
    (pendB hd listed = false → (∀ w, C w → wpAny P md ops Q (f + 1) listed a w) ∧ ∀ i ∈ Region.ready md ops listed, i ∈ wl → qOp P ops C i (wpMix P md ops C Q hd wl f (listed.setIfInBounds i true)) a)

theorem wpAny_of_mix {hd wl : List Nat} {Q : Exit → Act → World → Prop} : ∀ (f : Nat) (listed : Array Bool) (a : Act), wpMix P md ops C Q hd wl f listed a → ∀ w, C w → wpAny P md ops Q f listed a w
  | 0, _, _, h, w, hw => h w hw
  | f + 1, listed, a, h, w, hw => by
    cases hp : pendB hd listed with
    | true =>
      obtain ⟨h1, h2⟩ := h.1 hp
      exact ⟨fun h0 => absurd h0 h1, fun i hi => wpOp_of_qOp hw (fun a' w' hw' h' => wpAny_of_mix f _ a' h' w' hw') (h2 i hi).2⟩
    | false => exact (h.2 hp).1 w hw

/-- what is known of an operation that is taken: its value in the class; if it is one of wl, in whatever world -/
def Taken (P : Program) (ops : Array Oper) (C : World → Prop) (wl : List Nat) (i : Nat) (o : Oper) (v : Value) (a : Act) : Prop := YieldsIn P ops C o v a ∧ (i ∈ wl → Yields P ops o v a)

theorem Yields.inClass {o : Oper} {v : Value} {a : Act} (h : Yields P ops o v a) : YieldsIn P ops C o v a := by
  rcases h with ⟨h1, h2⟩ | h
  · exact .inl ⟨h1, fun w _ => by unfold Oper.quietAt; rw [h2 w]; exact ⟨rfl, rfl⟩⟩
  · exact .inr h

theorem qOp_put_taken {wl : List Nat} {i j : Nat} {oi oj : Oper} {v : Value} (hj : ops[j]? = some oj) (hap : oi.apart ops oj = true)
    (hsi : ∀ cs b, oi.op ≠ .select cs b) (hsj : ∀ cs b, oj.op ≠ .select cs b) {K : Act → Prop} {a : Act}
    (hy : Taken P ops C wl i oi v a) (h : qOp P ops C j K (a.put oi.dst v)) :
    qOp P ops C j (fun a' => Taken P ops C wl i oi v a' ∧ K (a'.put oi.dst v)) a := by
  obtain ⟨h1, h2, h3⟩ := Oper.apart_spec hap
  have keep : ∀ (a : Act), Taken P ops C wl i oi v a → ∀ u, Taken P ops C wl i oi v (a.put oj.dst u) := fun a hy u =>
    ⟨hy.1.of_same (execOp_put oi hsi a oj.dst u h3) (wanted_put oi a oj.dst u h3), fun hw => (hy.2 hw).of_same (execOp_put oi hsi a oj.dst u h3) (wanted_put oi a oj.dst u h3)⟩
  unfold qOp at *
  simp only [hj] at *
  rw [wanted_put oj a oi.dst v h1] at h
  split
  · rename_i hw
    simp only [hw, if_true] at h
    obtain ⟨u, hu, hn⟩ := h
    refine ⟨u, fun w hw' => ?_, keep a hy u, by rw [← Act.put_comm a v u h2]; exact hn⟩
    have := hu w hw'
    unfold Oper.quietAt at *
    rwa [execOp_put oj hsj a oi.dst v h1] at this
  · rename_i hw
    simp only [hw] at h
    exact ⟨keep a hy _, by rw [← Act.put_comm a v undef h2]; exact h⟩

/-- the invariant, hd and wl together -/
theorem wpMix_first {hd wl tl : List Nat} {t0 i : Nat} {oi : Oper} {v : Value} {Q : Exit → Act → World → Prop} (hne : ∃ w, C w) (hQ : ∀ c a w, ¬ Q (.panic c) a w) (hi : ops[i]? = some oi) (hsel : ∀ (j : Nat) (o : Oper) cs b, ops[j]? = some o → o.op ≠ .select cs b)
    (hs : sinkOrd md ops t0 hd = true) (hc : chainOrd md ops t0 tl = true) (hdis : ∀ j, j ∈ hd ∨ j ∈ wl → j ∉ t0 :: tl) (hin : i ∈ hd ∨ i ∈ wl) :
    ∀ (f : Nat) (listed : Array Bool) (a : Act), OrdInv md ops (hd ++ wl) (t0 :: tl) listed →
      (∀ j oj, ops[j]? = some oj → j ≠ i → listed.getD j true = false → (∀ e ∈ oj.after, Region.binds md e = true → e.on ≠ i) → oi.apart ops oj = true) →
      i ∈ Region.ready md ops listed → Taken P ops C wl i oi v a →
      wpMix P md ops C Q hd wl f (listed.setIfInBounds i true) (a.put oi.dst v) → wpMix P md ops C Q hd wl (f + 1) listed a := by
  have sinkR : ∀ listed, OrdInv md ops (hd ++ wl) (t0 :: tl) listed → pendB hd listed = true → ∀ j ∈ Region.ready md ops listed, j ∈ hd ∨ j ∈ wl := by
    intro listed inv hp j hj
    obtain ⟨x, hx, hxu⟩ := pendB_true hp
    rcases inv.cover j (mem_ready.1 hj).1 with h | h
    · exact List.mem_append.1 h
    · exfalso
      rcases List.mem_cons.1 h with rfl | h
      · exact sink_waits inv hd hs x hx hxu hj
      · obtain ⟨t', ht', hw⟩ := chain_mem tl t0 hc j h
        obtain ⟨oj, hoj, e, he, hb, hon⟩ := Region.waitsFor_spec hw
        obtain ⟨_, o', ho', hall⟩ := mem_ready.1 hj
        have : oj = o' := Option.some.inj (hoj.symm.trans ho')
        subst this
        have h3 := hall e he hb
        rw [hon, getD_both (inv.tail t' ht')] at h3
        cases h3
  have inW : ∀ listed, pendB hd listed = false → i ∈ Region.ready md ops listed → i ∈ wl := by
    intro listed hp hr
    rcases hin with h | h
    · have h1 := pendB_false hp i h
      rw [(mem_ready.1 hr).1] at h1
      cases h1
    · exact h
  intro f
  induction f with
  | zero =>
    intro listed a inv hfree hr hy H
    have none : ∀ j, j ∈ Region.ready md ops listed → j ≠ i → False := fun j hj hji => by
      obtain ⟨w, hw⟩ := hne
      have h1 := ready_mono hj hji
      rw [(H w hw).1] at h1
      cases h1
    have one : ∀ j, j ∈ Region.ready md ops listed → qOp P ops C j (wpMix P md ops C Q hd wl 0 (listed.setIfInBounds j true)) a := fun j hj => by
      by_cases hji : j = i
      · subst hji; exact hy.1.qOp hi H
      · exact (none j hj hji).elim
    exact ⟨fun hp => ⟨fun h => (by rw [h] at hr; cases hr), fun j hj => ⟨sinkR listed inv hp j hj, one j hj⟩⟩,
      fun hp => ⟨fun w hw => wpAny_first hi hsel (fun c a w hq => absurd hq (hQ _ _ _)) 0 listed a w hfree hr (hy.2 (inW listed hp hr)) (H w hw), fun j hj _ => one j hj⟩⟩
  | succ f ih =>
    intro listed a inv hfree hr hy H
    have step : ∀ j, j ∈ Region.ready md ops listed → j ≠ i → (j ∈ hd ∨ j ∈ wl) → qOp P ops C j (wpMix P md ops C Q hd wl f ((listed.setIfInBounds i true).setIfInBounds j true)) (a.put oi.dst v) →
        qOp P ops C j (wpMix P md ops C Q hd wl (f + 1) (listed.setIfInBounds j true)) a := fun j hj hji hjn h1 => by
      obtain ⟨hjun, oj, hoj, hall⟩ := mem_ready.1 hj
      have hun := (mem_ready.1 hr).1
      have hnot : ∀ e ∈ oj.after, Region.binds md e = true → e.on ≠ i := fun e he hb heq => by
        have h1 := hall e he hb
        rw [heq, getD_both hun] at h1
        cases h1
      have h2 := qOp_put_taken hoj (hfree j oj hoj hji hjun hnot) (fun cs b => hsel i oi cs b hi) (fun cs b => hsel j oj cs b hoj) hy h1
      have hfree' : ∀ k ok, ops[k]? = some ok → k ≠ i → (listed.setIfInBounds j true).getD k true = false →
          (∀ e ∈ ok.after, Region.binds md e = true → e.on ≠ i) → oi.apart ops ok = true := fun k ok hk hki hun hno => by
        refine hfree k ok hk hki ?_ hno
        by_cases hjk : j = k
        · subst hjk; exact hjun
        · rw [getD_set_ne true hjk] at hun; exact hun
      refine qOp_mono (fun a' h3 => ih (listed.setIfInBounds j true) a' (inv.set hj (hdis j hjn)) hfree' (ready_mono hr (Ne.symm hji)) h3.1 ?_) h2
      rw [Array.setIfInBounds_comm _ _ hji]
      exact h3.2
    have pend_set : ∀ j ∈ hd, j ≠ i → listed.getD j true = false → pendB hd (listed.setIfInBounds i true) = true := fun j hj hji hju => by
      unfold pendB
      exact List.any_eq_true.2 ⟨j, hj, by rw [getD_set_ne true (Ne.symm hji), hju]; rfl⟩
    refine ⟨fun hp => ⟨fun h => (by rw [h] at hr; cases hr), fun j hj => ⟨sinkR listed inv hp j hj, ?_⟩⟩, fun hp => ⟨fun w hw => ?_, fun j hj hjw => ?_⟩⟩
    · by_cases hji : j = i
      · subst hji; exact hy.1.qOp hi H
      · have hjn := sinkR listed inv hp j hj
        have hjr := ready_mono hj hji
        cases hp' : pendB hd (listed.setIfInBounds i true) with
        | true => exact step j hj hji hjn ((H.1 hp').2 j hjr).2
        | false =>
          rcases hjn with h | h
          · rw [pend_set j h hji (mem_ready.1 hj).1] at hp'
            cases hp'
          · exact step j hj hji (.inr h) ((H.2 hp').2 j hjr h)
    · exact wpAny_first hi hsel (fun c a w hq => absurd hq (hQ _ _ _)) (f + 1) listed a w hfree hr (hy.2 (inW listed hp hr)) (wpAny_of_mix (f + 1) _ _ H w hw)
    · by_cases hji : j = i
      · subst hji; exact hy.1.qOp hi H
      · have hjr := ready_mono hj hji
        cases hp' : pendB hd (listed.setIfInBounds i true) with
        | true => exact step j hj hji (.inr hjw) ((H.1 hp').2 j hjr).2
        | false => exact step j hj hji (.inr hjw) ((H.2 hp').2 j hjr hjw)

/-- steps: an operation that needs no world, or a quiet one -/
def wpSteps (P : Program) (ops : Array Oper) (C : World → Prop) (K : Act → Prop) : List (Bool × Oper) → Act → Prop
  | [], a => K a
  | (true, o) :: r, a => ∃ v, Yields P ops o v a ∧ wpSteps P ops C K r (a.put o.dst v)
  | (false, o) :: r, a => wpQuiet P ops C (fun a' => wpSteps P ops C K r a') [o] a

def ordMixB (md : Region.Mode) (ops : Array Oper) (hd wl tl : List Nat) : List (Bool × Nat) → Array Bool → Bool
  | [], listed => !pendB hd listed && wl.all (fun i => listed.getD i true) && ordTail md ops tl listed
  | (_, i) :: r, listed => (Region.ready md ops listed).contains i && Region.free md ops listed i && ordMixB md ops hd wl tl r (listed.setIfInBounds i true)

theorem wpMix_lex {hd wl tl : List Nat} {t0 : Nat} {Q : Exit → Act → World → Prop} (hne : ∃ w, C w) (hQ : ∀ c a w, ¬ Q (.panic c) a w) (hsel : Region.noSelect ops = true) (hs : sinkOrd md ops t0 hd = true) (hc : chainOrd md ops t0 tl = true) (hdis : ∀ j, j ∈ hd ∨ j ∈ wl → j ∉ t0 :: tl)
    (hw1 : ∀ j ∈ hd, j ∉ wl) (lt : List Oper) (ht : (t0 :: tl).map (ops[·]?) = lt.map some) {K : Act → Prop} (hK : ∀ a w, C w → K a → wpList P ops Q lt a w) :
    ∀ (is : List (Bool × Nat)) (l : List (Bool × Oper)) (listed : Array Bool) (a : Act), is.map (fun x => (x.1, ops[x.2]?)) = l.map (fun x => (x.1, some x.2)) → (∀ x ∈ is, (x.1 = true → x.2 ∈ wl) ∧ (x.1 = false → x.2 ∈ hd)) → OrdInv md ops (hd ++ wl) (t0 :: tl) listed →
    ordMixB md ops hd wl (t0 :: tl) is listed = true → wpSteps P ops C K l a → wpMix P md ops C Q hd wl (l.length + lt.length) listed a
  | [], [], listed, a, _, _, _, hB, h => by
    simp only [ordMixB, Bool.and_eq_true, Bool.not_eq_true'] at hB
    obtain ⟨⟨h1, h2⟩, h3⟩ := hB
    have fin : ∀ w, C w → wpAny P md ops Q lt.length listed a w := fun w hw => wpAny_of_ordTail (t0 :: tl) lt listed a w ht h3 (hK a w hw h)
    simp only [List.length_nil, Nat.zero_add]
    cases hl : lt.length with
    | zero => intro w hw; rw [← hl]; exact fin w hw
    | succ n =>
      refine ⟨fun hp => (by rw [h1] at hp; cases hp), fun _ => ⟨fun w hw => (by rw [← hl]; exact fin w hw), fun i hi hiw => ?_⟩⟩
      have := List.all_eq_true.1 h2 i hiw
      rw [(mem_ready.1 hi).1] at this
      cases this
  | [], _ :: _, _, _, hm, _, _, _, _ => by simp at hm
  | _ :: _, [], _, _, hm, _, _, _, _ => by simp at hm
  | (b, i) :: is, (b', o) :: l, listed, a, hm, hin, inv, hB, h => by
    simp only [List.map_cons, List.cons.injEq, Prod.mk.injEq] at hm
    obtain ⟨⟨rfl, h0⟩, hm'⟩ := hm
    simp only [ordMixB, Bool.and_eq_true] at hB
    obtain ⟨⟨hr, hf⟩, hB'⟩ := hB
    have hr' : i ∈ Region.ready md ops listed := by simpa using hr
    have hmem : i ∈ hd ∨ i ∈ wl := by
      have := hin (b, i) (by simp)
      cases b with
      | true => exact .inr (this.1 rfl)
      | false => exact .inl (this.2 rfl)
    have inv' := inv.set hr' (hdis i hmem)
    rw [show ((b, o) :: l).length + lt.length = (l.length + lt.length) + 1 by simp only [List.length_cons]; omega]
    obtain ⟨v, hy, hK'⟩ : ∃ v, Taken P ops C wl i o v a ∧ wpSteps P ops C K l (a.put o.dst v) := by
      cases b with
      | true =>
        obtain ⟨v, hy, h'⟩ := h
        exact ⟨v, ⟨Yields.inClass hy, fun _ => hy⟩, h'⟩
      | false =>
        have hst : qOp P ops C i (fun a' => wpSteps P ops C K l a') a := by
          have h' : wpQuiet P ops C (fun a' => wpSteps P ops C K l a') [o] a := h
          unfold qOp; simp only [h0]; exact h'
        obtain ⟨v, hy, h'⟩ := yieldsIn_of_qOp h0 hst
        exact ⟨v, ⟨hy, fun hw => absurd hw (hw1 i ((hin (false, i) (by simp)).2 rfl))⟩, h'⟩
    exact wpMix_first hne hQ h0 (Region.noSelect_spec hsel) hs hc hdis hmem _ listed a inv (Region.free_spec h0 hf) hr' hy
      (wpMix_lex hne hQ hsel hs hc hdis hw1 lt ht hK is l _ _ hm' (fun x hx => hin x (by simp [hx])) inv' hB' hK')

def mixB (md : Region.Mode) (ops : Array Oper) (is : List (Bool × Nat)) (t0 : Nat) (tl : List Nat) : Bool :=
  let hd := (is.filter (fun x => !x.1)).map (·.2)
  let wl := (is.filter (·.1)).map (·.2)
  Region.noSelect ops && sinkOrd md ops t0 hd && chainOrd md ops t0 tl && ((List.range ops.size).all fun i => hd.contains i || wl.contains i || (t0 :: tl).contains i) &&
    ((t0 :: tl).all fun t => !hd.contains t && !wl.contains t) && (hd.all fun i => !wl.contains i) && ordMixB md ops hd wl (t0 :: tl) is (Array.replicate ops.size false)

theorem filterMap_ok2 {l : List Oper} : ∀ (is : List (Bool × Nat)), (∀ x ∈ is, x.2 < l.length) →
    is.map (fun x => (x.1, l.toArray[x.2]?)) = (is.filterMap fun x => (l[x.2]?).map fun o => (x.1, o)).map (fun x => (x.1, some x.2)) ∧ (is.filterMap fun x => (l[x.2]?).map fun o => (x.1, o)).length = is.length
  | [], _ => ⟨rfl, rfl⟩
  | (b, i) :: is, h => by
    have hi := h (b, i) (by simp)
    obtain ⟨h1, h2⟩ := filterMap_ok2 is (fun j hj => h j (by simp [hj]))
    have e : l[i]? = some l[i] := by simp [hi]
    refine ⟨?_, ?_⟩
    · rw [List.map_cons, h1, List.filterMap_cons]
      simp only [e, Option.map_some, List.map_cons]
      simp [hi]
    · rw [List.filterMap_cons]
      simp only [e, Option.map_some, List.length_cons]
      simp [h2]

/-- THE THEOREM: is: the operations in the order in which they are walked, 'true' at one that needs no world; t0, tl: the rest, in one forced order. -/
theorem later_mix {P : Program} {id : Nat} {Q : Exit → Act → World → Prop} {a : Act} {w : World} {l : List Oper} (is : List (Bool × Nat)) (t0 : Nat) (tl : List Nat) (hm : P.follows .mixedOrders = true)
    (hB : (mixB .any l.toArray is t0 tl && (is.map (·.2) ++ t0 :: tl).all (fun i => decide (i < l.length)) && decide (is.length + (t0 :: tl).length = l.length)) = true)
    (h : wpSteps P l.toArray (fun w' => ∃ g : Later w, w' = g.val) (fun a' => ∀ g : Later w, wpList P l.toArray (NoPanic Q) ((t0 :: tl).filterMap (l[·]?)) a' g.val) (is.filterMap fun x => (l[x.2]?).map fun o => (x.1, o)) a) :
    (Code.region id l.toArray true).wp P Q a w := by
  simp only [mixB, Bool.and_eq_true, decide_eq_true_eq, List.all_eq_true, List.mem_append] at hB
  obtain ⟨⟨⟨⟨⟨⟨⟨⟨hsel, hs⟩, hc⟩, hcov⟩, hdis⟩, hwd⟩, hord⟩, hlt⟩, hlen⟩ := hB
  obtain ⟨q1, q2⟩ := filterMap_ok2 is (fun x hx => hlt x.2 (.inl (List.mem_map.2 ⟨x, hx, rfl⟩)))
  obtain ⟨r1, r2⟩ := filterMap_ok (t0 :: tl) (fun i hi => hlt i (.inr hi))
  have hdis' : ∀ t ∈ t0 :: tl, t ∉ (is.filter (fun x => !x.1)).map (·.2) ∧ t ∉ (is.filter (·.1)).map (·.2) := fun t ht => by
    have := hdis t ht
    simpa only [Bool.and_eq_true, Bool.not_eq_true', List.contains_eq_mem, decide_eq_false_iff_not] using this
  refine wp_region_noPanic (wp_region_any hm ?_)
  have inv0 : OrdInv .any l.toArray ((is.filter (fun x => !x.1)).map (·.2) ++ (is.filter (·.1)).map (·.2)) (t0 :: tl) (Array.replicate l.toArray.size false) := by
    refine ⟨by simp, fun j oj _ hl => (by rw [getD_replicate_false] at hl; cases hl), fun t ht' => ?_, fun j hj => ?_⟩
    · exact getD_in (by have := hlt t (.inr ht'); simpa using this) (getD_replicate_false _ _)
    · have hjl : j < l.toArray.size := by
        rcases Nat.lt_or_ge j l.toArray.size with h' | h'
        · exact h'
        · have hsz : (Array.replicate l.toArray.size false).size ≤ j := by simpa using h'
          have h1 : (Array.replicate l.toArray.size false).getD j true = true := by unfold Array.getD; rw [dif_neg (by omega)]
          rw [h1] at hj
          cases hj
      have := hcov j (List.mem_range.2 hjl)
      simp only [Bool.or_eq_true, List.contains_iff_mem] at this
      rcases this with (h' | h') | h'
      · exact .inl (List.mem_append.2 (.inl h'))
      · exact .inl (List.mem_append.2 (.inr h'))
      · exact .inr h'
  have key := wpMix_lex (P := P) (md := .any) (C := fun w' => ∃ g : Later w, w' = g.val) (Q := NoPanic Q) ⟨w, ⟨w, Below.refl _ _⟩, rfl⟩ (fun c a w hq => hq) hsel hs hc (fun j hj hj' => by
      rcases hj with h' | h'
      · exact (hdis' j hj').1 h'
      · exact (hdis' j hj').2 h') (fun j hj hj' => by
      have := hwd j hj
      simp only [Bool.not_eq_true', List.contains_eq_mem, decide_eq_false_iff_not] at this
      exact this hj') _ r1 (fun a' w' hw' hg => by obtain ⟨g, rfl⟩ := hw'; exact hg g) is _ _ a q1 (fun x hx => ⟨fun hb => List.mem_map.2 ⟨x, List.mem_filter.2 ⟨hx, hb⟩, rfl⟩, fun hb => List.mem_map.2 ⟨x, List.mem_filter.2 ⟨hx, by simp [hb]⟩, rfl⟩⟩) inv0 hord h
  have := wpAny_of_mix _ _ _ key { w with drawn := w.drawn + 1 } ⟨⟨w.drew, (Below.refl _ _).drew⟩, rfl⟩
  rw [q2, r2, hlen] at this
  simpa using this
end
end Bal

/-
  Crosswinds, in the program and in the reference.
-/
namespace Go.Proofs.Ytacbkbilbmkjnaa
open Go.RowKit Bal Bal.Trim Bal.Mast
set_option linter.unusedVariables false
set_option linter.unusedSimpArgs false
set_option maxHeartbeats 800000
set_option maxRecDepth 10000

theorem s_min (a : Option Addr) (n cap : Nat) (xs : List Int) (w : World) (hn : xs.length = n) {B : Nat} (hx : Row icell 1 B w a xs) (h0 : 0 < n) (h1 : n ≤ 1000000) :
    Calls Try.prog 92 #[.slice a n cap] w fun e w' => e = .returned (.int .i64 (lmin xs)) ∧ w = w' := by
  subst hn
  obtain ⟨b, off, rfl, hb, c0⟩ := int_row hx 0 h0
  have c00 : w.cell? ⟨b, off, none⟩ = some (.int .i64 xs[0]) := by simpa using c0
  clear c0
  have hlt1 : (0 : Int) < xs.length := by omega
  go_enter Try.func92, Try.ntmps92
  go_wp2
  go_loop [3, 4] (fun m i => ∃ k : Nat, 0 < k ∧ k ≤ xs.length ∧ i = .int .i64 k ∧ m = .int .i64 (lmin (xs.take k))) (fun _ i => xs.length - (intOf i).toNat)
  case atStart => exact ⟨1, by omega, by omega, rfl, by cases xs with | nil => simp at h0 | cons x xs => simp [lmin]⟩
  case round =>
    obtain ⟨k, hk0, hk, rfl, rfl⟩ := hrel
    by_cases hlt : k < xs.length
    · obtain ⟨b', off', hab, _, ck⟩ := int_row hx k hlt
      simp only [Option.some.injEq, Addr.mk.injEq, and_true] at hab
      obtain ⟨rfl, rfl⟩ := hab
      have HT := Lib.hid (lmin_take hk0 hlt)
      go_wp2
      all_goals
        go_round
        case rel => exact ⟨k + 1, by omega, by omega, by go_num, by rw [HT.out, ite_min]⟩
        case measure => simp [intOf]; omega
    · go_wp2
      go_ret
      exact ⟨ret_int (by rw [List.take_of_length_le (by omega)]), rfl⟩

theorem s_max (a : Option Addr) (n cap : Nat) (xs : List Int) (w : World) (hn : xs.length = n) {B : Nat} (hx : Row icell 1 B w a xs) (h0 : 0 < n) (h1 : n ≤ 1000000) :
    Calls Try.prog 93 #[.slice a n cap] w fun e w' => e = .returned (.int .i64 (lmax xs)) ∧ w = w' := by
  subst hn
  obtain ⟨b, off, rfl, hb, c0⟩ := int_row hx 0 h0
  have c00 : w.cell? ⟨b, off, none⟩ = some (.int .i64 xs[0]) := by simpa using c0
  clear c0
  have hlt1 : (0 : Int) < xs.length := by omega
  go_enter Try.func93, Try.ntmps93
  go_wp2
  go_loop [3, 4] (fun m i => ∃ k : Nat, 0 < k ∧ k ≤ xs.length ∧ i = .int .i64 k ∧ m = .int .i64 (lmax (xs.take k))) (fun _ i => xs.length - (intOf i).toNat)
  case atStart => exact ⟨1, by omega, by omega, rfl, by cases xs with | nil => simp at h0 | cons x xs => simp [lmax]⟩
  case round =>
    obtain ⟨k, hk0, hk, rfl, rfl⟩ := hrel
    by_cases hlt : k < xs.length
    · obtain ⟨b', off', hab, _, ck⟩ := int_row hx k hlt
      simp only [Option.some.injEq, Addr.mk.injEq, and_true] at hab
      obtain ⟨rfl, rfl⟩ := hab
      have HT := Lib.hid (lmax_take hk0 hlt)
      go_wp2
      all_goals
        go_round
        case rel => exact ⟨k + 1, by omega, by omega, by go_num, by rw [HT.out, ite_max]⟩
        case measure => simp [intOf]; omega
    · go_wp2
      go_ret
      exact ⟨ret_int (by rw [List.take_of_length_le (by omega)]), rfl⟩

theorem s_minW (v : Wind) (a : Axis) (t : TypeId) (W : World) (n : Nat) (hn : n = W.heap.size) :
    Calls Try.prog 92 #[.slice (some ⟨n, 0, none⟩) 4 4] (W.alloc (.cells #[.int .i64 (v.xlo * a.y - v.ylo * a.x), .int .i64 (v.xlo * a.y - v.yhi * a.x), .int .i64 (v.xhi * a.y - v.ylo * a.x), .int .i64 (v.xhi * a.y - v.yhi * a.x)] t))
      fun e w' => e = .returned (.int .i64 (least v a)) ∧ W.alloc (.cells #[.int .i64 (v.xlo * a.y - v.ylo * a.x), .int .i64 (v.xlo * a.y - v.yhi * a.x), .int .i64 (v.xhi * a.y - v.ylo * a.x), .int .i64 (v.xhi * a.y - v.yhi * a.x)] t) = w' := by
  subst hn
  exact s_min _ 4 4 [c0 v a, c1 v a, c2 v a, c3 v a] _ rfl (Row.fresh (enc := icell) (fun _ => rfl) rfl) (by decide) (by decide)

theorem s_maxW (v : Wind) (a : Axis) (t : TypeId) (W : World) (n : Nat) (hn : n = W.heap.size) :
    Calls Try.prog 93 #[.slice (some ⟨n, 0, none⟩) 4 4] (W.alloc (.cells #[.int .i64 (v.xlo * a.y - v.ylo * a.x), .int .i64 (v.xlo * a.y - v.yhi * a.x), .int .i64 (v.xhi * a.y - v.ylo * a.x), .int .i64 (v.xhi * a.y - v.yhi * a.x)] t))
      fun e w' => e = .returned (.int .i64 (most v a)) ∧ W.alloc (.cells #[.int .i64 (v.xlo * a.y - v.ylo * a.x), .int .i64 (v.xlo * a.y - v.yhi * a.x), .int .i64 (v.xhi * a.y - v.ylo * a.x), .int .i64 (v.xhi * a.y - v.yhi * a.x)] t) = w' := by
  subst hn
  exact s_max _ 4 4 [c0 v a, c1 v a, c2 v a, c3 v a] _ rfl (Row.fresh (enc := icell) (fun _ => rfl) rfl) (by decide) (by decide)

attribute [local go_sem] ite_max ite_min

theorem f_across (v : Wind) (a : Axis) (w : World) (hw : windB v = true) (ha : axisB a = true) :
    Calls Try.prog 44 #[.agg #[.int .i64 v.xlo, .int .i64 v.xhi, .int .i64 v.ylo, .int .i64 v.yhi], .agg #[.int .i64 a.x, .int .i64 a.y]] w fun e w' => e = .returned (.tuple #[.int .i64 (near v a * near v a), .int .i64 (far v a * far v a), .int .i64 (long a)]) ∧ Kept w w' := by
  obtain ⟨⟨h1, h2, h3⟩, h4, h5, h6⟩ := windB_iff.1 hw
  obtain ⟨⟨k1, k2⟩, k3, k4⟩ := corner_bd (u := v.xlo) (v := v.ylo) (by omega) (by omega) ha
  obtain ⟨⟨k5, k6⟩, k7, k8⟩ := corner_bd (u := v.xhi) (v := v.yhi) (by omega) (by omega) ha
  obtain ⟨⟨n0, n1⟩, n2, ⟨n3, n4⟩, n5, n6⟩ := far_bd hw ha
  obtain ⟨⟨x1, x2⟩, ⟨y1, y2⟩, _⟩ := axisB_iff.1 ha
  have p1 := mul_bd (A := 4000000) (B := 4000000) (x := near v a) (y := near v a) (by omega) (by omega) (by omega) (by omega)
  have p2 := mul_bd (A := 4000000) (B := 4000000) (x := far v a) (y := far v a) (by omega) (by omega) (by omega) (by omega)
  have p3 := mul_bd (A := 1000) (B := 1000) (x := a.x) (y := a.x) (by omega) (by omega) (by omega) (by omega)
  have p4 := mul_bd (A := 1000) (B := 1000) (x := a.y) (y := a.y) (by omega) (by omega) (by omega) (by omega)
  clear hw ha
  have HN : max (max (least v a) (-most v a)) 0 = near v a := rfl
  have HF : max (-least v a) (most v a) = far v a := rfl
  have HL : a.x * a.x + a.y * a.y = long a := rfl
  go_enter Try.func44, Try.ntmps44
  go_upto_region 5 with (first | (go_at_call 92; refine (s_minW v a _ _ _ (by simp)).mono ?_; rintro e w1 ⟨rfl, rfl⟩) | (go_at_call 93; refine (s_maxW v a _ _ _ (by simp)).mono ?_; rintro e w1 ⟨rfl, rfl⟩))
  refine at_world (S := fun W => Blk W (w.heap.size + 1) #[.int .i64 a.x, .int .i64 a.y] 27 ∧ Kept w W) ⟨by (exact blkc), by (exact kpt)⟩ ?_
  rintro W ⟨r1, hk⟩
  have r1c0 := fun g : Later W => (r1.later g).cell 0
  have r1f0 := fun g : Later W => (r1.later g).free 0
  have r1c1 := fun g : Later W => (r1.later g).cell 1
  have r1f1 := fun g : Later W => (r1.later g).free 1
  have r1l := fun g : Later W => (r1.later g).lt
  simp at r1c0 r1c1
  refine Later.region (by kernel_rfl) (by kernel_rfl) ?_
  repeat (first | go_big_quiet_skip | (go_big_quiet_want; go_big_quiet_op; first | go_big_quiet_on | (apply Exists.intro; refine ⟨fun g => ?_, ?_⟩; (focus (first | fail)); go_big_quiet_on)))
  refine wpQuiet_nil ?_
  intro gg
  have hkgg := Kept.drop hk gg.ok
  go_wp2
  exact bodyPost_ret (v := .tuple #[.int .i64 (near v a * near v a), .int .i64 (far v a * far v a), .int .i64 (long a)]) (by simp [results, Try.results44, go_sem, HN, HF, HL]) rfl ⟨rfl, by (exact kpt)⟩

theorem f_calm (v : Wind) (a : Axis) (m : Int) (w : World) (hw : windB v = true) (ha : axisB a = true) (hm : inB m 0 2000 = true) :
    Calls Try.prog 52 #[.agg #[.int .i64 v.xlo, .int .i64 v.xhi, .int .i64 v.ylo, .int .i64 v.yhi], .agg #[.int .i64 a.x, .int .i64 a.y], .int .i64 m] w fun e w' => e = .returned (.bool (calmS v a m)) ∧ Kept w w' := by
  obtain ⟨l1, l2⟩ := long_pos ha
  simp only [inB, Bool.and_eq_true, decide_eq_true_eq] at hm
  have p1 := mul_bd (A := 2000) (B := 2000) (x := m) (y := m) (by omega) (by omega) (by omega) (by omega)
  have p2 := mul_bd (A := 4000000) (B := 2000000) (x := m * m) (y := long a) (by omega) (by omega) (by omega) (by omega)
  have HW := Lib.hid hw
  have HA := Lib.hid ha
  clear hw ha
  go_enter Try.func52, Try.ntmps52
  go_wp2_with (go_at_call 44; (with_reducible refine (f_across v a _ HW.out HA.out).mono ?_); rintro e w1 ⟨rfl, hb1⟩; obtain ⟨hc1, hf1, hl1⟩ := bcell3 hb1)
  go_ret
  exact ⟨ret_bool (by simp [calmS]), by (exact kpt)⟩

theorem r_long (a : Axis) (w : World) (ha : axisB a = true) :
    Calls Try.prog 49 #[.agg #[.int .i64 a.x, .int .i64 a.y]] w fun e w' => e = .returned (.int .i64 (long a)) ∧ Kept w w' := by
  obtain ⟨⟨x1, x2⟩, ⟨y1, y2⟩, _⟩ := axisB_iff.1 ha
  have p3 := mul_bd (A := 1000) (B := 1000) (x := a.x) (y := a.x) (by omega) (by omega) (by omega) (by omega)
  have p4 := mul_bd (A := 1000) (B := 1000) (x := a.y) (y := a.y) (by omega) (by omega) (by omega) (by omega)
  clear ha
  go_enter Try.func49, Try.ntmps49
  go_wp2
  go_ret
  exact ⟨rfl, by (exact kpt)⟩

def CrossRel (v : Wind) (a : Axis) (l h i : Value) : Prop := (i = .int .i64 1 ∧ l = .int .i64 (c0 v a) ∧ h = .int .i64 (c0 v a)) ∨ (i = .int .i64 2 ∧ l = .int .i64 (min (c0 v a) (c1 v a)) ∧ h = .int .i64 (max (c0 v a) (c1 v a))) ∨ (i = .int .i64 3 ∧ l = .int .i64 (min (min (c0 v a) (c1 v a)) (c2 v a)) ∧ h = .int .i64 (max (max (c0 v a) (c1 v a)) (c2 v a))) ∨ (i = .int .i64 4 ∧ l = .int .i64 (least v a) ∧ h = .int .i64 (most v a))
theorem r_cross (v : Wind) (a : Axis) (w : World) (hw : windB v = true) (ha : axisB a = true) :
    Calls Try.prog 48 #[.agg #[.int .i64 v.xlo, .int .i64 v.xhi, .int .i64 v.ylo, .int .i64 v.yhi], .agg #[.int .i64 a.x, .int .i64 a.y]] w fun e w' => e = .returned (.tuple #[.int .i64 (near v a), .int .i64 (far v a)]) ∧ Kept w w' := by
  obtain ⟨⟨h1, h2, h3⟩, h4, h5, h6⟩ := windB_iff.1 hw
  obtain ⟨⟨k1, k2⟩, k3, k4⟩ := corner_bd (u := v.xlo) (v := v.ylo) (by omega) (by omega) ha
  obtain ⟨⟨k5, k6⟩, k7, k8⟩ := corner_bd (u := v.xhi) (v := v.yhi) (by omega) (by omega) ha
  obtain ⟨⟨n0, n1⟩, n2, ⟨n3, n4⟩, n5, n6⟩ := far_bd hw ha
  obtain ⟨⟨x1, x2⟩, ⟨y1, y2⟩, _⟩ := axisB_iff.1 ha
  have p1 := mul_bd (A := 4000000) (B := 4000000) (x := near v a) (y := near v a) (by omega) (by omega) (by omega) (by omega)
  have p2 := mul_bd (A := 4000000) (B := 4000000) (x := far v a) (y := far v a) (by omega) (by omega) (by omega) (by omega)
  have p3 := mul_bd (A := 1000) (B := 1000) (x := a.x) (y := a.x) (by omega) (by omega) (by omega) (by omega)
  have p4 := mul_bd (A := 1000) (B := 1000) (x := a.y) (y := a.y) (by omega) (by omega) (by omega) (by omega)
  clear hw ha
  clear p1 p2 p3 p4
  have LM := Lib.hid (least_le_most v a)
  clear n0 n1 n2
  go_enter Try.func48, Try.ntmps48
  go_upto_region 2 with fail
  refine at_world (S := fun W => Blk W (w.heap.size + 1 + 1) #[.int .i64 (c0 v a), .int .i64 (c1 v a), .int .i64 (c2 v a), .int .i64 (c3 v a)] 3 ∧ Kept w W) ⟨by (exact blkc), by (exact kpt)⟩ ?_
  rintro W ⟨r1, hk⟩
  clear k1 k2 k3 k4 k5 k6 k7 k8
  have r1c0 := fun g : Later W => (r1.later g).cell 0
  have r1f0 := fun g : Later W => (r1.later g).free 0
  have r1c1 := fun g : Later W => (r1.later g).cell 1
  have r1f1 := fun g : Later W => (r1.later g).free 1
  have r1c2 := fun g : Later W => (r1.later g).cell 2
  have r1f2 := fun g : Later W => (r1.later g).free 2
  have r1c3 := fun g : Later W => (r1.later g).cell 3
  have r1f3 := fun g : Later W => (r1.later g).free 3
  have r1l := fun g : Later W => (r1.later g).lt
  simp at r1c0 r1c1 r1c2 r1c3
  refine Later.region (by kernel_rfl) (by kernel_rfl) ?_
  repeat (first | go_big_quiet_skip | (go_big_quiet_want; go_big_quiet_op; first | go_big_quiet_on | (apply Exists.intro; refine ⟨fun g => ?_, ?_⟩; (focus (first | fail)); go_big_quiet_on)))
  refine wpQuiet_nil ?_
  intro gg
  have hkgg := Kept.drop hk gg.ok
  clear r1c0 r1c1 r1c2 r1c3 r1f0 r1f1 r1f2 r1f3 r1l
  have r2 := r1.later gg
  clear r1
  have r2c0 := r2.cell 0
  have r2f0 := r2.free 0
  have r2c1 := r2.cell 1
  have r2f1 := r2.free 1
  have r2c2 := r2.cell 2
  have r2f2 := r2.free 2
  have r2c3 := r2.cell 3
  have r2f3 := r2.free 3
  have r2l := r2.lt
  simp at r2c0 r2c1 r2c2 r2c3
  go_wp2
  go_loop [7, 8, 9] (fun l h i => CrossRel v a l h i) (fun _ _ i => 4 - (intOf i).toNat)
  case atStart => exact .inl ⟨rfl, rfl, rfl⟩
  case round =>
    rcases hrel with ⟨rfl, rfl, rfl⟩ | ⟨rfl, rfl, rfl⟩ | ⟨rfl, rfl, rfl⟩ | ⟨rfl, rfl, rfl⟩
    · clear n3 n4 n5 n6
      go_wp2
      all_goals
        go_round
        case rel => exact .inr (.inl ⟨rfl, by (first | rfl | (refine congrArg (Value.int .i64) ?_; first | omega | (unfold least; omega) | (unfold most; omega))), by (first | rfl | (refine congrArg (Value.int .i64) ?_; first | omega | (unfold least; omega) | (unfold most; omega)))⟩)
        case measure => decide
    · clear n3 n4 n5 n6
      go_wp2
      all_goals
        go_round
        case rel => exact .inr (.inr (.inl ⟨rfl, by (first | rfl | (refine congrArg (Value.int .i64) ?_; first | omega | (unfold least; omega) | (unfold most; omega))), by (first | rfl | (refine congrArg (Value.int .i64) ?_; first | omega | (unfold least; omega) | (unfold most; omega)))⟩))
        case measure => decide
    · clear n3 n4 n5 n6
      go_wp2
      all_goals
        go_round
        case rel => exact .inr (.inr (.inr ⟨rfl, by (first | rfl | (refine congrArg (Value.int .i64) ?_; first | omega | (unfold least; omega) | (unfold most; omega))), by (first | rfl | (refine congrArg (Value.int .i64) ?_; first | omega | (unfold least; omega) | (unfold most; omega)))⟩))
        case measure => decide
    · have lm := LM.out
      by_cases h1 : least v a ≤ 0 <;> by_cases h2 : 0 ≤ most v a
      all_goals
        first
        | (exfalso; omega)
        | (go_wp2; all_goals exact bodyPost_ret (v := .tuple #[.int .i64 (near v a), .int .i64 (far v a)]) (by first | (simp [results, Try.results48, go_sem, near, far]; done) | (simp [results, Try.results48, go_sem, near, far]; omega) | (simp [results, Try.results48, go_sem, near, far]; constructor <;> omega)) rfl ⟨rfl, by (exact kpt)⟩)

end Go.Proofs.Ytacbkbilbmkjnaa

/-
  Crosswinds and calm, in the program and in the reference.
-/
namespace Go.Proofs.Ytacbkbilbmkjnaa
open Go.RowKit Bal Bal.Trim Bal.Mast
set_option linter.unusedVariables false
set_option linter.unusedSimpArgs false
set_option maxHeartbeats 800000
set_option maxRecDepth 10000

theorem i64_in {n : Int} (h : -9223372036854775808 ≤ n ∧ n ≤ 9223372036854775807) : IntKind.i64.wrap n = n := by rw [IntKind.wrap_i64]; first | omega | (unfold wrap64; omega)
theorem upHi_cases (R Y N : Int) : (R * R * N < Y ∧ upHi R Y N = R + 1) ∨ (¬ R * R * N < Y ∧ upHi R Y N = R) := by
  unfold upHi
  by_cases h : R * R * N < Y
  · exact .inl ⟨h, if_pos h⟩
  · exact .inr ⟨h, if_neg h⟩

theorem f_Cross_bad (v : Wind) (a : Axis) (w : World) (hw : windB v = false) :
    Calls Try.prog 9 #[.agg #[.int .i64 v.xlo, .int .i64 v.xhi, .int .i64 v.ylo, .int .i64 v.yhi], .agg #[.int .i64 a.x, .int .i64 a.y]] w fun e w' => e = .returned (.tuple #[.agg #[.int .i64 0, .int .i64 0], .int .i64 71]) ∧ Kept w w' := by
  have HE := Lib.hid (show checkWind v = 71 by unfold checkWind; rw [hw]; rfl)
  clear hw
  go_enter Try.func9, Try.ntmps9
  go_wp2_with (go_at_call 15; (with_reducible refine (f_CheckWind v _).mono ?_); rw [HE.out]; rintro e w1 ⟨rfl, hb1⟩; refine Blk.thru (b := w.heap.size) (arr := ?_) (t := ?_) ?_ hb1 ?_; rotate_left 2; (focus (exact blk)); intro r0; have r0c0 := r0.cell 0; have r0f0 := r0.free 0; have r0c1 := r0.cell 1; have r0f1 := r0.free 1; have r0c2 := r0.cell 2; have r0f2 := r0.free 2; have r0c3 := r0.cell 3; have r0f3 := r0.free 3; have r0l := r0.lt; simp at r0c0 r0c1 r0c2 r0c3; refine Blk.thru (b := w.heap.size + 1) (arr := ?_) (t := ?_) ?_ hb1 ?_; rotate_left 2; (focus (exact blk)); intro r1; have r1c0 := r1.cell 0; have r1f0 := r1.free 0; have r1c1 := r1.cell 1; have r1f1 := r1.free 1; have r1l := r1.lt; simp at r1c0 r1c1; refine Blk.thru (b := w.heap.size + 1 + 1) (arr := ?_) (t := ?_) ?_ hb1 ?_; rotate_left 2; (focus (exact blk)); intro r2; have r2c0 := r2.cell 0; have r2f0 := r2.free 0; have r2c1 := r2.cell 1; have r2f1 := r2.free 1; have r2l := r2.lt; simp at r2c0 r2c1)
  exact bodyPost_ret (v := .tuple #[.agg #[.int .i64 0, .int .i64 0], .int .i64 71]) (by simp [results, Try.results9, go_sem, r2c0, r2c1, r2f0, r2f1, r2l]) rfl ⟨rfl, by (exact kpt)⟩
theorem f_Cross_axis (v : Wind) (a : Axis) (w : World) (hw : windB v = true) (ha : axisB a = false) :
    Calls Try.prog 9 #[.agg #[.int .i64 v.xlo, .int .i64 v.xhi, .int .i64 v.ylo, .int .i64 v.yhi], .agg #[.int .i64 a.x, .int .i64 a.y]] w fun e w' => e = .returned (.tuple #[.agg #[.int .i64 0, .int .i64 0], .int .i64 70]) ∧ Kept w w' := by
  have HE := Lib.hid (show checkWind v = 0 by unfold checkWind; rw [hw]; rfl)
  have HF := Lib.hid (show checkAxis a = 70 by unfold checkAxis; rw [ha]; rfl)
  clear hw ha
  go_enter Try.func9, Try.ntmps9
  go_wp2_with (first | (go_at_call 15; (with_reducible refine (f_CheckWind v _).mono ?_); rw [HE.out]; rintro e w1 ⟨rfl, hb1⟩; refine Blk.thru (b := w.heap.size) (arr := ?_) (t := ?_) ?_ hb1 ?_; rotate_left 2; (focus (exact blk)); intro r0; have r0c0 := r0.cell 0; have r0f0 := r0.free 0; have r0c1 := r0.cell 1; have r0f1 := r0.free 1; have r0c2 := r0.cell 2; have r0f2 := r0.free 2; have r0c3 := r0.cell 3; have r0f3 := r0.free 3; have r0l := r0.lt; simp at r0c0 r0c1 r0c2 r0c3; refine Blk.thru (b := w.heap.size + 1) (arr := ?_) (t := ?_) ?_ hb1 ?_; rotate_left 2; (focus (exact blk)); intro r1; have r1c0 := r1.cell 0; have r1f0 := r1.free 0; have r1c1 := r1.cell 1; have r1f1 := r1.free 1; have r1l := r1.lt; simp at r1c0 r1c1; refine Blk.thru (b := w.heap.size + 1 + 1) (arr := ?_) (t := ?_) ?_ hb1 ?_; rotate_left 2; (focus (exact blk)); intro r2; have r2c0 := r2.cell 0; have r2f0 := r2.free 0; have r2c1 := r2.cell 1; have r2f1 := r2.free 1; have r2l := r2.lt; simp at r2c0 r2c1) | (go_at_call 13; (with_reducible refine (f_CheckAxis a _).mono ?_); rw [HF.out]; rintro e w1 ⟨rfl, hb1⟩; refine Blk.thru (b := w.heap.size) (arr := ?_) (t := ?_) ?_ hb1 ?_; rotate_left 2; (focus (exact blk)); intro r0; have r0c0 := r0.cell 0; have r0f0 := r0.free 0; have r0c1 := r0.cell 1; have r0f1 := r0.free 1; have r0c2 := r0.cell 2; have r0f2 := r0.free 2; have r0c3 := r0.cell 3; have r0f3 := r0.free 3; have r0l := r0.lt; simp at r0c0 r0c1 r0c2 r0c3; refine Blk.thru (b := w.heap.size + 1) (arr := ?_) (t := ?_) ?_ hb1 ?_; rotate_left 2; (focus (exact blk)); intro r1; have r1c0 := r1.cell 0; have r1f0 := r1.free 0; have r1c1 := r1.cell 1; have r1f1 := r1.free 1; have r1l := r1.lt; simp at r1c0 r1c1; refine Blk.thru (b := w.heap.size + 1 + 1) (arr := ?_) (t := ?_) ?_ hb1 ?_; rotate_left 2; (focus (exact blk)); intro r2; have r2c0 := r2.cell 0; have r2f0 := r2.free 0; have r2c1 := r2.cell 1; have r2f1 := r2.free 1; have r2l := r2.lt; simp at r2c0 r2c1))
  exact bodyPost_ret (v := .tuple #[.agg #[.int .i64 0, .int .i64 0], .int .i64 70]) (by simp [results, Try.results9, go_sem, r2c0, r2c1, r2f0, r2f1, r2l]) rfl ⟨rfl, by (exact kpt)⟩
theorem f_Cross_ok (v : Wind) (a : Axis) (w : World) (hw : windB v = true) (ha : axisB a = true) :
    Calls Try.prog 9 #[.agg #[.int .i64 v.xlo, .int .i64 v.xhi, .int .i64 v.ylo, .int .i64 v.yhi], .agg #[.int .i64 a.x, .int .i64 a.y]] w fun e w' => e = .returned (.tuple #[.agg #[.int .i64 (rt (near v a * near v a) (long a)), .int .i64 (upHi (rt (far v a * far v a) (long a)) (far v a * far v a) (long a))], .int .i64 0]) ∧ Kept w w' := by
  obtain ⟨L1, L2⟩ := long_pos ha
  have X1 := sq_nonneg (near v a)
  have X2 := near_sq (a := a) hw
  have Y1 := sq_nonneg (far v a)
  have Y2 := far_sq (a := a) hw
  have HE := Lib.hid (show checkWind v = 0 by unfold checkWind; rw [hw]; rfl)
  have HF := Lib.hid (show checkAxis a = 0 by unfold checkAxis; rw [ha]; rfl)
  have HW := Lib.hid hw
  have HA := Lib.hid ha
  clear hw ha
  obtain ⟨X, hX⟩ : ∃ X, X = near v a * near v a := ⟨_, rfl⟩
  obtain ⟨Y, hY⟩ : ∃ Y, Y = far v a * far v a := ⟨_, rfl⟩
  obtain ⟨N, hN⟩ : ∃ N, N = long a := ⟨_, rfl⟩
  rw [← hN] at L1 L2 X2 Y2
  rw [← hX] at X1 X2
  rw [← hY] at Y1 Y2
  have AC := fun w => f_across v a w HW.out HA.out
  rw [← hX, ← hY, ← hN] at AC
  have RT1 := fun w => f_root X N w L1 L2 X1 X2
  have RT2 := fun w => f_root Y N w L1 L2 Y1 Y2
  obtain ⟨R, hR⟩ : ∃ R, R = rt Y N := ⟨_, rfl⟩
  obtain ⟨S, hS⟩ : ∃ S, S = rt X N := ⟨_, rfl⟩
  have hR0 := rt_pos Y N
  rw [← hR] at RT2 hR0
  rw [← hS] at RT1
  rw [← hX, ← hY, ← hN, ← hR, ← hS]
  clear hX hY hN hR hS
  have P1 := mul_bd (A := 4000) (B := 4000) (x := R) (y := R) (by omega) (by omega) (by omega) (by omega)
  have P2 := mul_bd (A := 16000000) (B := 2000000) (x := R * R) (y := N) (by omega) (by omega) (by omega) (by omega)
  rcases upHi_cases R Y N with ⟨hc, hu⟩ | ⟨hc, hu⟩
  all_goals
    rw [hu]
    clear hu
    go_enter Try.func9, Try.ntmps9
    go_wp2_with (first | (go_at_call 15; (with_reducible refine (f_CheckWind v _).mono ?_); rw [HE.out]; rintro e w1 ⟨rfl, hb1⟩; refine Blk.thru (b := w.heap.size) (arr := ?_) (t := ?_) ?_ hb1 ?_; rotate_left 2; (focus (exact blk)); intro r0; have r0c0 := r0.cell 0; have r0f0 := r0.free 0; have r0c1 := r0.cell 1; have r0f1 := r0.free 1; have r0c2 := r0.cell 2; have r0f2 := r0.free 2; have r0c3 := r0.cell 3; have r0f3 := r0.free 3; have r0l := r0.lt; simp at r0c0 r0c1 r0c2 r0c3; refine Blk.thru (b := w.heap.size + 1) (arr := ?_) (t := ?_) ?_ hb1 ?_; rotate_left 2; (focus (exact blk)); intro r1; have r1c0 := r1.cell 0; have r1f0 := r1.free 0; have r1c1 := r1.cell 1; have r1f1 := r1.free 1; have r1l := r1.lt; simp at r1c0 r1c1; refine Blk.thru (b := w.heap.size + 1 + 1) (arr := ?_) (t := ?_) ?_ hb1 ?_; rotate_left 2; (focus (exact blk)); intro r2; have r2c0 := r2.cell 0; have r2f0 := r2.free 0; have r2c1 := r2.cell 1; have r2f1 := r2.free 1; have r2l := r2.lt; simp at r2c0 r2c1) | (go_at_call 13; (with_reducible refine (f_CheckAxis a _).mono ?_); rw [HF.out]; rintro e w1 ⟨rfl, hb1⟩; refine Blk.thru (b := w.heap.size) (arr := ?_) (t := ?_) ?_ hb1 ?_; rotate_left 2; (focus (exact blk)); intro r0; have r0c0 := r0.cell 0; have r0f0 := r0.free 0; have r0c1 := r0.cell 1; have r0f1 := r0.free 1; have r0c2 := r0.cell 2; have r0f2 := r0.free 2; have r0c3 := r0.cell 3; have r0f3 := r0.free 3; have r0l := r0.lt; simp at r0c0 r0c1 r0c2 r0c3; refine Blk.thru (b := w.heap.size + 1) (arr := ?_) (t := ?_) ?_ hb1 ?_; rotate_left 2; (focus (exact blk)); intro r1; have r1c0 := r1.cell 0; have r1f0 := r1.free 0; have r1c1 := r1.cell 1; have r1f1 := r1.free 1; have r1l := r1.lt; simp at r1c0 r1c1; refine Blk.thru (b := w.heap.size + 1 + 1) (arr := ?_) (t := ?_) ?_ hb1 ?_; rotate_left 2; (focus (exact blk)); intro r2; have r2c0 := r2.cell 0; have r2f0 := r2.free 0; have r2c1 := r2.cell 1; have r2f1 := r2.free 1; have r2l := r2.lt; simp at r2c0 r2c1) | (go_at_call 44; (with_reducible refine (AC _).mono ?_); rintro e w1 ⟨rfl, hb1⟩; refine Blk.thru (b := w.heap.size) (arr := ?_) (t := ?_) ?_ hb1 ?_; rotate_left 2; (focus (exact blk)); intro r0; have r0c0 := r0.cell 0; have r0f0 := r0.free 0; have r0c1 := r0.cell 1; have r0f1 := r0.free 1; have r0c2 := r0.cell 2; have r0f2 := r0.free 2; have r0c3 := r0.cell 3; have r0f3 := r0.free 3; have r0l := r0.lt; simp at r0c0 r0c1 r0c2 r0c3; refine Blk.thru (b := w.heap.size + 1) (arr := ?_) (t := ?_) ?_ hb1 ?_; rotate_left 2; (focus (exact blk)); intro r1; have r1c0 := r1.cell 0; have r1f0 := r1.free 0; have r1c1 := r1.cell 1; have r1f1 := r1.free 1; have r1l := r1.lt; simp at r1c0 r1c1; refine Blk.thru (b := w.heap.size + 1 + 1) (arr := ?_) (t := ?_) ?_ hb1 ?_; rotate_left 2; (focus (exact blk)); intro r2; have r2c0 := r2.cell 0; have r2f0 := r2.free 0; have r2c1 := r2.cell 1; have r2f1 := r2.free 1; have r2l := r2.lt; simp at r2c0 r2c1) | (go_at_call 45; (with_reducible refine (RT1 _).mono ?_); rintro e w1 ⟨rfl, rfl⟩) | (go_at_call 45; (with_reducible refine (RT2 _).mono ?_); rintro e w1 ⟨rfl, rfl⟩))
    exact bodyPost_ret (v := .tuple #[.agg #[.int .i64 S, .int .i64 _], .int .i64 0]) (by simp [results, Try.results9, go_sem, r2c0, r2c1, r2f0, r2f1, r2l]) rfl ⟨rfl, by (exact kpt)⟩
theorem f_Cross (v : Wind) (a : Axis) (w : World) :
    Calls Try.prog 9 #[.agg #[.int .i64 v.xlo, .int .i64 v.xhi, .int .i64 v.ylo, .int .i64 v.yhi], .agg #[.int .i64 a.x, .int .i64 a.y]] w fun e w' => e = .returned (.tuple #[.agg #[.int .i64 (crossLo v a), .int .i64 (crossHi v a)], .int .i64 (crossE v a)]) ∧ Kept w w' := by
  cases hw : windB v
  · have hE : crossE v a = 71 := by unfold crossE; rw [hw]; rfl
    simp only [crossLo, crossHi, hE]
    exact f_Cross_bad v a w hw
  · cases ha : axisB a
    · have hE : crossE v a = 70 := by unfold crossE; rw [hw, ha]; rfl
      simp only [crossLo, crossHi, hE]
      exact f_Cross_axis v a w hw ha
    · have hE : crossE v a = 0 := by unfold crossE; rw [hw, ha]; rfl
      simp only [crossLo, crossHi, hE, if_true]
      exact f_Cross_ok v a w hw ha

theorem f_Calm (v : Wind) (a : Axis) (m : Int) (w : World) :
    Calls Try.prog 11 #[.agg #[.int .i64 v.xlo, .int .i64 v.xhi, .int .i64 v.ylo, .int .i64 v.yhi], .agg #[.int .i64 a.x, .int .i64 a.y], .int .i64 m] w fun e w' => e = .returned (.tuple #[.bool (calmB v a m), .int .i64 (calmE v a m)]) ∧ Kept w w' := by
  cases hw : windB v
  · have hE : calmE v a m = 71 := by unfold calmE; rw [hw]; rfl
    simp only [calmB, hE]
    have HE := Lib.hid (show checkWind v = 71 by unfold checkWind; rw [hw]; rfl)
    clear hw hE
    go_enter Try.func11, Try.ntmps11
    go_wp2_with (go_at_call 15; (with_reducible refine (f_CheckWind v _).mono ?_); rw [HE.out]; rintro e w1 ⟨rfl, hb1⟩; refine Blk.thru (b := w.heap.size) (arr := ?_) (t := ?_) ?_ hb1 ?_; rotate_left 2; (focus (exact blk)); intro r0; have r0c0 := r0.cell 0; have r0f0 := r0.free 0; have r0c1 := r0.cell 1; have r0f1 := r0.free 1; have r0c2 := r0.cell 2; have r0f2 := r0.free 2; have r0c3 := r0.cell 3; have r0f3 := r0.free 3; have r0l := r0.lt; simp at r0c0 r0c1 r0c2 r0c3; refine Blk.thru (b := w.heap.size + 1) (arr := ?_) (t := ?_) ?_ hb1 ?_; rotate_left 2; (focus (exact blk)); intro r1; have r1c0 := r1.cell 0; have r1f0 := r1.free 0; have r1c1 := r1.cell 1; have r1f1 := r1.free 1; have r1l := r1.lt; simp at r1c0 r1c1)
    exact bodyPost_ret (v := .tuple #[.bool false, .int .i64 71]) (by simp [results, Try.results11, go_sem]) rfl ⟨rfl, by (exact kpt)⟩
  · cases ha : axisB a
    · have hE : calmE v a m = 70 := by unfold calmE; rw [hw, ha]; rfl
      simp only [calmB, hE]
      have HE := Lib.hid (show checkWind v = 0 by unfold checkWind; rw [hw]; rfl)
      have HF := Lib.hid (show checkAxis a = 70 by unfold checkAxis; rw [ha]; rfl)
      clear hw ha hE
      go_enter Try.func11, Try.ntmps11
      go_wp2_with (first | (go_at_call 15; (with_reducible refine (f_CheckWind v _).mono ?_); rw [HE.out]; rintro e w1 ⟨rfl, hb1⟩; refine Blk.thru (b := w.heap.size) (arr := ?_) (t := ?_) ?_ hb1 ?_; rotate_left 2; (focus (exact blk)); intro r0; have r0c0 := r0.cell 0; have r0f0 := r0.free 0; have r0c1 := r0.cell 1; have r0f1 := r0.free 1; have r0c2 := r0.cell 2; have r0f2 := r0.free 2; have r0c3 := r0.cell 3; have r0f3 := r0.free 3; have r0l := r0.lt; simp at r0c0 r0c1 r0c2 r0c3; refine Blk.thru (b := w.heap.size + 1) (arr := ?_) (t := ?_) ?_ hb1 ?_; rotate_left 2; (focus (exact blk)); intro r1; have r1c0 := r1.cell 0; have r1f0 := r1.free 0; have r1c1 := r1.cell 1; have r1f1 := r1.free 1; have r1l := r1.lt; simp at r1c0 r1c1) | (go_at_call 13; (with_reducible refine (f_CheckAxis a _).mono ?_); rw [HF.out]; rintro e w1 ⟨rfl, hb1⟩; refine Blk.thru (b := w.heap.size) (arr := ?_) (t := ?_) ?_ hb1 ?_; rotate_left 2; (focus (exact blk)); intro r0; have r0c0 := r0.cell 0; have r0f0 := r0.free 0; have r0c1 := r0.cell 1; have r0f1 := r0.free 1; have r0c2 := r0.cell 2; have r0f2 := r0.free 2; have r0c3 := r0.cell 3; have r0f3 := r0.free 3; have r0l := r0.lt; simp at r0c0 r0c1 r0c2 r0c3; refine Blk.thru (b := w.heap.size + 1) (arr := ?_) (t := ?_) ?_ hb1 ?_; rotate_left 2; (focus (exact blk)); intro r1; have r1c0 := r1.cell 0; have r1f0 := r1.free 0; have r1c1 := r1.cell 1; have r1f1 := r1.free 1; have r1l := r1.lt; simp at r1c0 r1c1))
      exact bodyPost_ret (v := .tuple #[.bool false, .int .i64 70]) (by simp [results, Try.results11, go_sem]) rfl ⟨rfl, by (exact kpt)⟩
    · cases hm : inB m 0 2000
      · have hE : calmE v a m = 2 := by unfold calmE; rw [hw, ha, hm]; rfl
        simp only [calmB, hE]
        have HE := Lib.hid (show checkWind v = 0 by unfold checkWind; rw [hw]; rfl)
        have HF := Lib.hid (show checkAxis a = 0 by unfold checkAxis; rw [ha]; rfl)
        have HR := Lib.hid (show rng [m] 0 2000 = false by simp [rng, hm])
        have HI := Lib.hid hm
        clear hw ha hm hE
        go_enter Try.func11, Try.ntmps11
        go_wp2_with (first | (go_at_call 15; (with_reducible refine (f_CheckWind v _).mono ?_); rw [HE.out]; rintro e w1 ⟨rfl, hb1⟩; refine Blk.thru (b := w.heap.size) (arr := ?_) (t := ?_) ?_ hb1 ?_; rotate_left 2; (focus (exact blk)); intro r0; have r0c0 := r0.cell 0; have r0f0 := r0.free 0; have r0c1 := r0.cell 1; have r0f1 := r0.free 1; have r0c2 := r0.cell 2; have r0f2 := r0.free 2; have r0c3 := r0.cell 3; have r0f3 := r0.free 3; have r0l := r0.lt; simp at r0c0 r0c1 r0c2 r0c3; refine Blk.thru (b := w.heap.size + 1) (arr := ?_) (t := ?_) ?_ hb1 ?_; rotate_left 2; (focus (exact blk)); intro r1; have r1c0 := r1.cell 0; have r1f0 := r1.free 0; have r1c1 := r1.cell 1; have r1f1 := r1.free 1; have r1l := r1.lt; simp at r1c0 r1c1) | (go_at_call 13; (with_reducible refine (f_CheckAxis a _).mono ?_); rw [HF.out]; rintro e w1 ⟨rfl, hb1⟩; refine Blk.thru (b := w.heap.size) (arr := ?_) (t := ?_) ?_ hb1 ?_; rotate_left 2; (focus (exact blk)); intro r0; have r0c0 := r0.cell 0; have r0f0 := r0.free 0; have r0c1 := r0.cell 1; have r0f1 := r0.free 1; have r0c2 := r0.cell 2; have r0f2 := r0.free 2; have r0c3 := r0.cell 3; have r0f3 := r0.free 3; have r0l := r0.lt; simp at r0c0 r0c1 r0c2 r0c3; refine Blk.thru (b := w.heap.size + 1) (arr := ?_) (t := ?_) ?_ hb1 ?_; rotate_left 2; (focus (exact blk)); intro r1; have r1c0 := r1.cell 0; have r1f0 := r1.free 0; have r1c1 := r1.cell 1; have r1f1 := r1.free 1; have r1l := r1.lt; simp at r1c0 r1c1) | (go_at_call 51; (with_reducible refine (f_ranged_1 _ _ _ _ _ _ (by simp)).mono ?_); rw [HR.out]; rintro e w1 ⟨rfl, hb1⟩; refine Blk.thru (b := w.heap.size) (arr := ?_) (t := ?_) ?_ hb1 ?_; rotate_left 2; (focus (exact blk)); intro r0; have r0c0 := r0.cell 0; have r0f0 := r0.free 0; have r0c1 := r0.cell 1; have r0f1 := r0.free 1; have r0c2 := r0.cell 2; have r0f2 := r0.free 2; have r0c3 := r0.cell 3; have r0f3 := r0.free 3; have r0l := r0.lt; simp at r0c0 r0c1 r0c2 r0c3; refine Blk.thru (b := w.heap.size + 1) (arr := ?_) (t := ?_) ?_ hb1 ?_; rotate_left 2; (focus (exact blk)); intro r1; have r1c0 := r1.cell 0; have r1f0 := r1.free 0; have r1c1 := r1.cell 1; have r1f1 := r1.free 1; have r1l := r1.lt; simp at r1c0 r1c1))
        exact bodyPost_ret (v := .tuple #[.bool false, .int .i64 2]) (by simp [results, Try.results11, go_sem]) rfl ⟨rfl, by (exact kpt)⟩
      · have hE : calmE v a m = 0 := by unfold calmE; rw [hw, ha, hm]; rfl
        simp only [calmB, hE, if_true]
        have HE := Lib.hid (show checkWind v = 0 by unfold checkWind; rw [hw]; rfl)
        have HF := Lib.hid (show checkAxis a = 0 by unfold checkAxis; rw [ha]; rfl)
        have HR := Lib.hid (show rng [m] 0 2000 = true by simp [rng, hm])
        have HI := Lib.hid hm
        have HW := Lib.hid hw
        have HA := Lib.hid ha
        have HM := Lib.hid hm
        clear hw ha hm hE
        go_enter Try.func11, Try.ntmps11
        go_wp2_with (first | (go_at_call 15; (with_reducible refine (f_CheckWind v _).mono ?_); rw [HE.out]; rintro e w1 ⟨rfl, hb1⟩; refine Blk.thru (b := w.heap.size) (arr := ?_) (t := ?_) ?_ hb1 ?_; rotate_left 2; (focus (exact blk)); intro r0; have r0c0 := r0.cell 0; have r0f0 := r0.free 0; have r0c1 := r0.cell 1; have r0f1 := r0.free 1; have r0c2 := r0.cell 2; have r0f2 := r0.free 2; have r0c3 := r0.cell 3; have r0f3 := r0.free 3; have r0l := r0.lt; simp at r0c0 r0c1 r0c2 r0c3; refine Blk.thru (b := w.heap.size + 1) (arr := ?_) (t := ?_) ?_ hb1 ?_; rotate_left 2; (focus (exact blk)); intro r1; have r1c0 := r1.cell 0; have r1f0 := r1.free 0; have r1c1 := r1.cell 1; have r1f1 := r1.free 1; have r1l := r1.lt; simp at r1c0 r1c1) | (go_at_call 13; (with_reducible refine (f_CheckAxis a _).mono ?_); rw [HF.out]; rintro e w1 ⟨rfl, hb1⟩; refine Blk.thru (b := w.heap.size) (arr := ?_) (t := ?_) ?_ hb1 ?_; rotate_left 2; (focus (exact blk)); intro r0; have r0c0 := r0.cell 0; have r0f0 := r0.free 0; have r0c1 := r0.cell 1; have r0f1 := r0.free 1; have r0c2 := r0.cell 2; have r0f2 := r0.free 2; have r0c3 := r0.cell 3; have r0f3 := r0.free 3; have r0l := r0.lt; simp at r0c0 r0c1 r0c2 r0c3; refine Blk.thru (b := w.heap.size + 1) (arr := ?_) (t := ?_) ?_ hb1 ?_; rotate_left 2; (focus (exact blk)); intro r1; have r1c0 := r1.cell 0; have r1f0 := r1.free 0; have r1c1 := r1.cell 1; have r1f1 := r1.free 1; have r1l := r1.lt; simp at r1c0 r1c1) | (go_at_call 51; (with_reducible refine (f_ranged_1 _ _ _ _ _ _ (by simp)).mono ?_); rw [HR.out]; rintro e w1 ⟨rfl, hb1⟩; refine Blk.thru (b := w.heap.size) (arr := ?_) (t := ?_) ?_ hb1 ?_; rotate_left 2; (focus (exact blk)); intro r0; have r0c0 := r0.cell 0; have r0f0 := r0.free 0; have r0c1 := r0.cell 1; have r0f1 := r0.free 1; have r0c2 := r0.cell 2; have r0f2 := r0.free 2; have r0c3 := r0.cell 3; have r0f3 := r0.free 3; have r0l := r0.lt; simp at r0c0 r0c1 r0c2 r0c3; refine Blk.thru (b := w.heap.size + 1) (arr := ?_) (t := ?_) ?_ hb1 ?_; rotate_left 2; (focus (exact blk)); intro r1; have r1c0 := r1.cell 0; have r1f0 := r1.free 0; have r1c1 := r1.cell 1; have r1f1 := r1.free 1; have r1l := r1.lt; simp at r1c0 r1c1) | (go_at_call 52; (with_reducible refine (f_calm v a m _ HW.out HA.out HM.out).mono ?_); rintro e w1 ⟨rfl, hb1⟩; refine Blk.thru (b := w.heap.size) (arr := ?_) (t := ?_) ?_ hb1 ?_; rotate_left 2; (focus (exact blk)); intro r0; have r0c0 := r0.cell 0; have r0f0 := r0.free 0; have r0c1 := r0.cell 1; have r0f1 := r0.free 1; have r0c2 := r0.cell 2; have r0f2 := r0.free 2; have r0c3 := r0.cell 3; have r0f3 := r0.free 3; have r0l := r0.lt; simp at r0c0 r0c1 r0c2 r0c3; refine Blk.thru (b := w.heap.size + 1) (arr := ?_) (t := ?_) ?_ hb1 ?_; rotate_left 2; (focus (exact blk)); intro r1; have r1c0 := r1.cell 0; have r1f0 := r1.free 0; have r1c1 := r1.cell 1; have r1f1 := r1.free 1; have r1l := r1.lt; simp at r1c0 r1c1))
        exact bodyPost_ret (v := .tuple #[.bool (calmS v a m), .int .i64 0]) (by simp [results, Try.results11, go_sem]) rfl ⟨rfl, by (exact kpt)⟩

theorem r_calm (v : Wind) (a : Axis) (m : Int) (w : World) (hw : windB v = true) (ha : axisB a = true) (hm : inB m 0 2000 = true) :
    Calls Try.prog 54 #[.agg #[.int .i64 v.xlo, .int .i64 v.xhi, .int .i64 v.ylo, .int .i64 v.yhi], .agg #[.int .i64 a.x, .int .i64 a.y], .int .i64 m] w fun e w' => e = .returned (.bool (calmS v a m)) ∧ Kept w w' := by
  obtain ⟨l1, l2⟩ := long_pos ha
  obtain ⟨⟨n0, n1⟩, n2, _⟩ := far_bd hw ha
  simp only [inB, Bool.and_eq_true, decide_eq_true_eq] at hm
  have p1 := mul_bd (A := 2000) (B := 2000) (x := m) (y := m) (by omega) (by omega) (by omega) (by omega)
  have p2 := mul_bd (A := 4000000) (B := 2000000) (x := m * m) (y := long a) (by omega) (by omega) (by omega) (by omega)
  have p3 := mul_bd (A := 4000000) (B := 4000000) (x := far v a) (y := far v a) (by omega) (by omega) (by omega) (by omega)
  have HW := Lib.hid hw
  have HA := Lib.hid ha
  clear hw ha
  go_enter Try.func54, Try.ntmps54
  go_wp2_with (first | (go_at_call 48; (with_reducible refine (r_cross v a _ HW.out HA.out).mono ?_); rintro e w1 ⟨rfl, hb1⟩; obtain ⟨hc1, hf1, hl1⟩ := bcell3 hb1) | (go_at_call 49; (with_reducible refine (r_long a _ HA.out).mono ?_); rintro e w1 ⟨rfl, hb1⟩; obtain ⟨hc1, hf1, hl1⟩ := bcell3 hb1))
  go_ret
  exact ⟨ret_bool (by simp [calmS]), by (exact kpt)⟩

end Go.Proofs.Ytacbkbilbmkjnaa

/-
  A slice that the call owns, beside blocks of another type. No program in sight.
-/
namespace Bal
open Go Go.RowKit
theorem Blk.grown {w w' : World} {b base k n : Nat} {arr : Array Value} {t e : TypeId} {v : Value} {xs : List Value} (h : Blk w b arr t) (ho : w.ownsRow base e k v n xs) (hne : t ≠ e) (hg : w.grownBy w' v.ownBlock) : Blk w' b arr t := by
  have hl := h.lt
  unfold Blk at *
  rw [hg.block b hl ?_]
  · exact h
  · intro he
    obtain ⟨_, ⟨rfl, _⟩ | ⟨g, cap, cur, rfl, _, hh, _⟩⟩ := ho
    · cases he
    · simp only [Value.ownBlock, Option.some.injEq] at he
      subst he
      rw [h] at hh
      simp only [Option.some.injEq, Obj.cells.injEq] at hh
      exact hne hh.2.1
theorem Kept.grown {w0 w w' : World} {base k n : Nat} {e : TypeId} {v : Value} {xs : List Value} (h : Kept w0 w) (ho : w.ownsRow base e k v n xs) (hb : w0.heap.size ≤ base) (hg : w.grownBy w' v.ownBlock) : Kept w0 w' := by
  refine Below.trans h ⟨hg.os, hg.tape, hg.output, hg.size, fun i hi => hg.block i (Nat.lt_of_lt_of_le hi h.size) fun he => ?_⟩
  obtain ⟨_, ⟨rfl, _⟩ | ⟨g, cap, cur, rfl, hbg, _, _⟩⟩ := ho
  · cases he
  · simp only [Value.ownBlock, Option.some.injEq] at he
    omega
end Bal

/-
  Rows of elements: parts of them, equal lists, what a call owns. No program in sight.
-/
namespace Bal
open Go Go.RowKit
/-- one element of a row as a row of its own -/
theorem Row.sub {α : Type} {enc : α → List Value} {k B : Nat} {w : World} {b off : Nat} {xs : List α} (h : Row enc k B w (some ⟨b, off, none⟩) xs) (i : Nat) (hi : i < xs.length) :
    Row enc k B w (some ⟨b, off + i * k, none⟩) [xs[i]] := by
  intro j x hx
  have hj : j = 0 := by
    have := (List.getElem?_eq_some_iff.1 hx).1
    simp at this; omega
  subst hj
  simp at hx
  subst hx
  obtain ⟨b', off', ha, hb, hc⟩ := h i xs[i] (by simp [hi])
  simp only [Option.some.injEq, Addr.mk.injEq, and_true] at ha
  obtain ⟨rfl, rfl⟩ := ha
  exact ⟨b, off + i * k, rfl, hb, fun j v hv => by rw [Nat.zero_mul, Nat.add_zero]; exact hc j v hv⟩
/-- the first elements of a row -/
theorem Row.take {α : Type} {enc : α → List Value} {k B : Nat} {w : World} {a : Option Addr} {xs : List α} (h : Row enc k B w a xs) (n : Nat) : Row enc k B w a (xs.take n) := by
  intro i x hx
  rw [List.getElem?_take] at hx
  split at hx
  · exact h i x hx
  · cases hx
theorem Row.one {α : Type} {enc : α → List Value} {k : Nat} {w : World} {b : Nat} {arr : Array Value} {t : TypeId} {x : α} (h : Blk w b arr t) (he : arr.toList = enc x) : Row enc k w.heap.size w (some ⟨b, 0, none⟩) [x] := by
  intro j y hy
  have hj : j = 0 := by
    have := (List.getElem?_eq_some_iff.1 hy).1
    simp at this; omega
  subst hj
  simp at hy
  subst hy
  exact ⟨b, 0, rfl, h.lt, fun j v hv => by simp only [Nat.zero_mul, Nat.zero_add]; rw [h.cell, ← Array.getElem?_toList, he]; exact hv⟩
/-- a block of several elements as a row -/
theorem Row.block {α : Type} {enc : α → List Value} {k : Nat} {w : World} {b : Nat} {arr : Array Value} {t : TypeId} {xs : List α} (he : ∀ x, (enc x).length = k) (h : Blk w b arr t) (ha : arr.toList = xs.flatMap enc) : Row enc k w.heap.size w (some ⟨b, 0, none⟩) xs := by
  intro i x hx
  refine ⟨b, 0, rfl, h.lt, fun j v hj => ?_⟩
  have hjk : j < k := by rw [← he x]; exact (List.getElem?_eq_some_iff.1 hj).1
  rw [h.cell, Nat.zero_add, ← Array.getElem?_toList, ha, flatMap_get he xs i x hx j hjk]
  exact hj
/-- a slice that a call owns, as a row at an address; nil if it is empty and unmade -/
theorem owns_row {α : Type} {enc : α → List Value} {k base : Nat} {e : TypeId} {w : World} {v : Value} {xs : List α} (he : ∀ x, (enc x).length = k) (h : w.ownsRow base e k v xs.length (xs.flatMap enc)) :
    ∃ a cap, v = .slice a xs.length cap ∧ Row enc k w.heap.size w a xs ∧ xs.length ≤ cap ∧ cap ≤ maxLen := Row.of_owns he h
end Bal

/-
  A region that draws its order in which a call panics: whatever order is picked, the operations that come up ahead of it only read or call (or make a block), and then it panics. No program in sight.
-/
namespace Bal
open Go Go.RowKit

section
variable {P : Program} {ops : Array Oper} {md : Region.Mode} {C : World → Prop} {Q : Exit → Act → World → Prop}

/-- operation p panics in state a, in every world of the class -/
def DiesAt (P : Program) (ops : Array Oper) (C : World → Prop) (Q : Exit → Act → World → Prop) (p : Nat) (a : Act) : Prop := ∀ w, C w → wpOp P ops Q p (fun _ _ => False) a w
/-- one operation that panics, out of its run -/
theorem DiesAt.of {p : Nat} {o : Oper} {a : Act} (ho : ops[p]? = some o) (hg : o.guard = none) (h : ∀ w, C w → Oper.wp P o a w (fun _ _ => False) Q) : DiesAt P ops C Q p a := fun w hw => by
  unfold wpOp
  simp only [ho]
  have hwt : Region.wanted o (yielded ops a.tmps) = true := by simp [Region.wanted, hg]
  simp only [hwt, if_true]
  exact .inl (h w hw)
end
end Bal

/-
  A region that draws its order, walked once: loads (of cells that the region leaves alone till they are read) and operations that need no world are taken first; what is then left comes up one at a time: a call, a block that is made, a store; it may panic. No program in sight.
-/
namespace Bal
open Go Go.RowKit

section
variable {P : Program} {ops : Array Oper} {md : Region.Mode} {S : World → Prop} {Q : Exit → Act → World → Prop}

/-- what a walk goes on with behind one operation -/
def onward (K : Act → World → Prop) (Q : Exit → Act → World → Prop) : Exit → Act → World → Prop
  | .normal, a, w => K a w
  | .exit i, a, w => Q (.exit i) a w
  | .goto l, a, w => Q (.goto l) a w
  | .ret, a, w => Q .ret a w
  | .panic c, a, w => Q (.panic c) a w
  | .outgrown, a, w => Q .outgrown a w
theorem onward_on {K : Act → World → Prop} {a : Act} {w : World} (h : K a w) : onward K Q .normal a w := h
theorem wpOp_onward {i : Nat} {a : Act} {w : World} {K : Act → World → Prop} (h : wpOp P ops (onward K Q) i K a w) : wpOp P ops Q i K a w := by
  unfold wpOp at *
  split
  · simpa [*] using h
  · rename_i o ho
    simp only [ho] at h
    split
    · rename_i hw
      simp only [hw, if_true] at h
      rcases h with h | ⟨h1, h2⟩
      · refine .inl ?_
        unfold Oper.wp at *
        generalize (execOp a.eval o).run P w = r at *
        cases r with
        | ok n w' =>
          cases n <;> simp only [Oper.upon] at h ⊢
          case enter f args =>
            refine Calls.mono h fun e w'' he => ?_
            cases e with
            | returned u => exact he
            | panicked c => exact he
            | outgrown => exact he
          all_goals exact h
        | halt x w' =>
          cases x <;> simp only [Oper.upon] at h ⊢
          case panic u => exact h
      · exact .inr ⟨h1, h2⟩
    · rename_i hw
      simp only [hw] at h
      exact h

/-- whatever order is picked from here on, and S holds behind every operation but number n -/
def wpAnyE (P : Program) (md : Region.Mode) (ops : Array Oper) (Q : Exit → Act → World → Prop) (S : World → Prop) (n : Nat) : Nat → Array Bool → Act → World → Prop
  | 0, listed, a, w => Region.ready md ops listed = [] ∧ Q .normal a w
  | f + 1, listed, a, w =>
    (Region.ready md ops listed = [] → Q .normal a w) ∧
    ∀ i ∈ Region.ready md ops listed, wpOp P ops Q i (fun a' w' => (i = n ∨ S w') ∧ wpAnyE P md ops Q S n f (listed.setIfInBounds i true) a' w') a w

theorem wpAny_of_E {n : Nat} : ∀ (f : Nat) (listed : Array Bool) (a : Act) (w : World), wpAnyE P md ops Q S n f listed a w → wpAny P md ops Q f listed a w
  | 0, _, _, _, h => h
  | f + 1, _, _, _, h => ⟨h.1, fun i hi => wpOp_mono (fun a' w' h' => wpAny_of_E f _ a' w' h'.2) (h.2 i hi)⟩

/-- number n, if there is one, waits for all others -/
structure LastOk (md : Region.Mode) (ops : Array Oper) (n : Nat) : Prop where
  sink : n < ops.size → Region.sinkB md ops n = true
  chain : n < ops.size → Region.chainB md ops n = true
  last : n < ops.size → n + 1 = ops.size
def LastInv (md : Region.Mode) (ops : Array Oper) (n : Nat) (listed : Array Bool) : Prop := n < ops.size → HeadInv md ops n listed

theorem LastInv.set {n i : Nat} {listed : Array Bool} (hl : LastOk md ops n) (inv : LastInv md ops n listed) (hi : i ∈ Region.ready md ops listed) (hin : i ≠ n) : LastInv md ops n (listed.setIfInBounds i true) := fun hn =>
  (inv hn).set hi (by
    obtain ⟨_, o, ho, _⟩ := mem_ready.1 hi
    have := (Array.getElem?_eq_some_iff.1 ho).1
    have := hl.last hn
    omega)
/-- beside another one that may come up, n may not -/
theorem LastInv.other {n i j : Nat} {listed : Array Bool} (hl : LastOk md ops n) (inv : LastInv md ops n listed) (hi : i ∈ Region.ready md ops listed) (hin : i ≠ n) (hj : j ∈ Region.ready md ops listed) : j ≠ n := by
  rintro rfl
  obtain ⟨_, o, ho, _⟩ := mem_ready.1 hj
  have hn := (Array.getElem?_eq_some_iff.1 ho).1
  obtain ⟨hun, oi, hoi, _⟩ := mem_ready.1 hi
  have h1 := (Array.getElem?_eq_some_iff.1 hoi).1
  have h2 := hl.last hn
  exact tail_waits (hl.sink hn) (hl.chain hn) hn (inv hn) _ i rfl (by omega) hun j (Nat.le_refl _) hj

theorem wpAnyE_first {n i : Nat} {oi : Oper} {v : Value} (hl : LastOk md ops n) (hin : i ≠ n) (hi : ops[i]? = some oi) (hsel : ∀ (j : Nat) (o : Oper) cs b, ops[j]? = some o → o.op ≠ .select cs b)
    (hQ : ∀ c a w, Q (.panic c) (a.put oi.dst v) w → Q (.panic c) a w) :
    ∀ (f : Nat) (listed : Array Bool) (a : Act) (w : World), LastInv md ops n listed →
      (∀ j oj, ops[j]? = some oj → j ≠ i → listed.getD j true = false → (∀ e ∈ oj.after, Region.binds md e = true → e.on ≠ i) → oi.apart ops oj = true) →
      i ∈ Region.ready md ops listed → YieldsIf P ops S oi v a → S w →
      wpAnyE P md ops Q S n f (listed.setIfInBounds i true) (a.put oi.dst v) w → wpAnyE P md ops Q S n (f + 1) listed a w := by
  intro f
  induction f with
  | zero =>
    intro listed a w inv _ hr hy hS H
    refine ⟨fun h => (by rw [h] at hr; cases hr), fun j hj => ?_⟩
    by_cases hji : j = i
    · subst hji; exact hy.wpOp hi hS ⟨.inr hS, H⟩
    · have := ready_mono hj hji
      rw [H.1] at this
      cases this
  | succ f ih =>
    intro listed a w inv hfree hr hy hS H
    refine ⟨fun h => (by rw [h] at hr; cases hr), fun j hj => ?_⟩
    by_cases hji : j = i
    · subst hji; exact hy.wpOp hi hS ⟨.inr hS, H⟩
    · have hjn := inv.other hl hr hin hj
      have h1 := H.2 j (ready_mono hj hji)
      obtain ⟨hjun, oj, hoj, hall⟩ := mem_ready.1 hj
      have hnot : ∀ e ∈ oj.after, Region.binds md e = true → e.on ≠ i := fun e he hb heq => by
        have h1 := hall e he hb
        rw [heq, getD_both (mem_ready.1 hr).1] at h1
        cases h1
      have h2 := wpOp_putIf hoj (hfree j oj hoj hji hjun hnot) (fun cs b => hsel i oi cs b hi) (fun cs b => hsel j oj cs b hoj) hQ hy h1
      have hfree' : ∀ k ok, ops[k]? = some ok → k ≠ i → (listed.setIfInBounds j true).getD k true = false →
          (∀ e ∈ ok.after, Region.binds md e = true → e.on ≠ i) → oi.apart ops ok = true := fun k ok hk hki hun hno => by
        refine hfree k ok hk hki ?_ hno
        by_cases hjk : j = k
        · subst hjk; exact hjun
        · rw [getD_set_ne true hjk] at hun; exact hun
      refine wpOp_mono (fun a' w' h3 => ?_) h2
      have hS' : S w' := h3.2.1.resolve_left hjn
      refine ⟨.inr hS', ih (listed.setIfInBounds j true) a' w' (inv.set hl hj hjn) hfree' (ready_mono hr (Ne.symm hji)) h3.1 hS' ?_⟩
      rw [Array.setIfInBounds_comm _ _ hji]
      exact h3.2.2

/-- THE WALK: 'true' at an operation that yields in every world that meets S; the others come up one at a time -/
def Held (P : Program) (ops : Array Oper) (Q : Exit → Act → World → Prop) (S : World → Prop) : List (Bool × Oper) → Act → World → Prop
  | [], a, w => Q .normal a w
  | (true, o) :: r, a, w => ∃ v, YieldsIf P ops S o v a ∧ Held P ops Q S r (a.put o.dst v) w
  | (false, o) :: r, a, w => wpList P ops (onward (fun a' w' => (r = [] ∨ S w') ∧ Held P ops Q S r a' w') Q) [o] a w
def heldB (md : Region.Mode) (ops : Array Oper) (n : Nat) : List (Bool × Nat) → Array Bool → Bool
  | [], listed => (Region.ready md ops listed).isEmpty
  | (true, i) :: r, listed => (Region.ready md ops listed).contains i && Region.free md ops listed i && decide (i ≠ n) && heldB md ops n r (listed.setIfInBounds i true)
  | (false, i) :: r, listed => decide (Region.ready md ops listed = [i]) && (decide (i = n) == r.isEmpty) && heldB md ops n r (listed.setIfInBounds i true)

theorem wpAnyE_of_held {n : Nat} (hl : LastOk md ops n) (hsel : Region.noSelect ops = true) (hQ : ∀ c a d v w, Q (.panic c) (Act.put a d v) w → Q (.panic c) a w) :
    ∀ (is : List (Bool × Nat)) (l : List (Bool × Oper)) (listed : Array Bool) (a : Act) (w : World), is.map (fun x => (x.1, ops[x.2]?)) = l.map (fun x => (x.1, some x.2)) → LastInv md ops n listed ∨ is = [] → heldB md ops n is listed = true →
    (is = [] ∨ S w) → Held P ops Q S l a w → wpAnyE P md ops Q S n l.length listed a w
  | [], [], listed, a, w, _, _, hB, _, h => ⟨by simpa [heldB] using hB, h⟩
  | [], _ :: _, _, _, _, hm, _, _, _, _ => by simp at hm
  | _ :: _, [], _, _, _, hm, _, _, _, _ => by simp at hm
  | (true, i) :: is, (b, o) :: l, listed, a, w, hm, inv, hB, hS, h => by
    simp only [List.map_cons, List.cons.injEq, Prod.mk.injEq] at hm
    obtain ⟨⟨rfl, h0⟩, hm'⟩ := hm
    simp only [heldB, Bool.and_eq_true, decide_eq_true_eq] at hB
    obtain ⟨⟨⟨hr, hf⟩, hin⟩, hB'⟩ := hB
    obtain ⟨v, hy, hK⟩ := h
    have hr' : i ∈ Region.ready md ops listed := by simpa using hr
    have hS' : S w := hS.resolve_left (by simp)
    have inv' := inv.resolve_right (by simp)
    exact wpAnyE_first hl hin h0 (Region.noSelect_spec hsel) (fun c a w => hQ c a _ _ w) _ listed a w inv' (Region.free_spec h0 hf) hr' hy hS'
      (wpAnyE_of_held hl hsel hQ is l _ _ _ hm' (.inl (inv'.set hl hr' hin)) hB' (.inr hS') hK)
  | (false, i) :: is, (b, o) :: l, listed, a, w, hm, inv, hB, hS, h => by
    simp only [List.map_cons, List.cons.injEq, Prod.mk.injEq] at hm
    obtain ⟨⟨rfl, h0⟩, hm'⟩ := hm
    simp only [heldB, Bool.and_eq_true, decide_eq_true_eq, beq_iff_eq] at hB
    obtain ⟨⟨hr, hlast⟩, hB'⟩ := hB
    have inv' := inv.resolve_right (by simp)
    have hr' : i ∈ Region.ready md ops listed := by rw [hr]; simp
    have hnil : l = [] ↔ is = [] := by
      have := congrArg List.length hm'
      simp only [List.length_map] at this
      rw [← List.length_eq_zero_iff, ← List.length_eq_zero_iff, this]
    refine ⟨fun h1 => (by rw [hr] at h1; cases h1), fun j hj => ?_⟩
    rw [hr] at hj
    have hji : j = i := by simpa using hj
    subst hji
    have hin : j = n ↔ is = [] := by rw [← List.isEmpty_iff, ← hlast]; simp
    refine wpOp_mono (fun a' w' hh => ?_) (wpOp_onward (K := fun a' w' => (l = [] ∨ S w') ∧ Held P ops Q S l a' w') (by
      unfold wpOp
      simp only [h0]
      exact h))
    refine ⟨?_, wpAnyE_of_held hl hsel hQ is l _ _ _ hm' ?_ hB' ?_ hh.2⟩
    · rcases hh.1 with h1 | h1
      · exact .inl (hin.2 (hnil.1 h1))
      · exact .inr h1
    · by_cases hn : j = n
      · exact .inr (hin.1 hn)
      · exact .inl (inv'.set hl hr' hn)
    · rcases hh.1 with h1 | h1
      · exact .inl (hnil.1 h1)
      · exact .inr h1

/-- THE THEOREM: is: the operations as they are walked, 'true' at those that yield under S; n: the one behind which S need not hold, for it waits for all others (or any number beyond the region's). -/
theorem held_walk {P : Program} {id : Nat} {Q : Exit → Act → World → Prop} {a : Act} {w : World} {l : List Oper} (S : World → Prop) (is : List (Bool × Nat)) (n : Nat) (hm : P.follows .mixedOrders = true)
    (hB : (Region.noSelect l.toArray && heldB .any l.toArray n is (Array.replicate l.toArray.size false) && is.all (fun i => decide (i.2 < l.length)) && decide (is.length = l.length) &&
      (decide (l.toArray.size ≤ n) || (Region.sinkB .any l.toArray n && Region.chainB .any l.toArray n && decide (n + 1 = l.toArray.size)))) = true)
    (hQ : ∀ c a d v w, Q (.panic c) (Act.put a d v) w → Q (.panic c) a w) (hS : S w.drew)
    (h : Held P l.toArray Q S (is.filterMap fun x => (l[x.2]?).map fun o => (x.1, o)) a w.drew) : (Code.region id l.toArray true).wp P Q a w := by
  simp only [Bool.and_eq_true, decide_eq_true_eq, List.all_eq_true, Bool.or_eq_true] at hB
  obtain ⟨⟨⟨⟨hsel, hheld⟩, hlt⟩, hlen⟩, hlast⟩ := hB
  obtain ⟨q1, q2⟩ := filterMap_ok2 is hlt
  have hl : LastOk .any l.toArray n := by
    rcases hlast with h1 | ⟨⟨h1, h2⟩, h3⟩
    · exact ⟨fun h => by omega, fun h => by omega, fun h => by omega⟩
    · exact ⟨fun _ => h1, fun _ => h2, fun _ => h3⟩
  have inv0 : LastInv .any l.toArray n (Array.replicate l.toArray.size false) := fun _ =>
    ⟨by simp, fun j oj _ hl => (by rw [getD_replicate_false] at hl; cases hl), fun t _ ht => getD_in (by simpa using ht) (getD_replicate_false _ _)⟩
  refine wp_region_any hm (wpAny_of_E (S := S) (n := n) _ _ _ _ ?_)
  have key := wpAnyE_of_held (P := P) (S := S) (md := .any) (Q := Q) hl hsel hQ is _ _ a w.drew q1 (.inl inv0) hheld (.inr hS) h
  rw [q2, hlen] at key
  simpa using key

/-! ### The moves of a walk -/
theorem held_take {o : Oper} {r : List (Bool × Oper)} {a : Act} {w : World} (v : Value) (hw : Region.wanted o (yielded ops a.tmps) = true) (hy : ∀ w', S w' → (execOp a.eval o).run P w' = .ok (.value v) w') (h : Held P ops Q S r (a.put o.dst v) w) :
    Held P ops Q S ((true, o) :: r) a w := ⟨v, .inl ⟨hw, hy⟩, h⟩
theorem held_pass {o : Oper} {r : List (Bool × Oper)} {a : Act} {w : World} (hw : Region.wanted o (yielded ops a.tmps) = false) (h : Held P ops Q S r (a.put o.dst undef) w) :
    Held P ops Q S ((true, o) :: r) a w := ⟨undef, .inr ⟨hw, rfl⟩, h⟩
theorem held_one {o : Oper} {r : List (Bool × Oper)} {a : Act} {w : World} (h : wpList P ops (onward (fun a' w' => (r = [] ∨ S w') ∧ Held P ops Q S r a' w') Q) [o] a w) : Held P ops Q S ((false, o) :: r) a w := h
theorem held_on {r : List (Bool × Oper)} {a : Act} {w : World} (hS : S w) (h : Held P ops Q S r a w) : onward (fun a' w' => (r = [] ∨ S w') ∧ Held P ops Q S r a' w') Q .normal a w := ⟨.inr hS, h⟩
theorem held_end {a : Act} {w : World} (h : Q .normal a w) : onward (fun a' w' => (([] : List (Bool × Oper)) = [] ∨ S w') ∧ Held P ops Q S [] a' w') Q .normal a w := ⟨.inl rfl, h⟩
theorem held_nil {a : Act} {w : World} (h : Q .normal a w) : Held P ops Q S [] a w := h
end
end Bal

/-
  Rules of acts at the mast: methods of a dock.
-/
namespace Go.Proofs.Ytacbkbilbmkjnaa
open Go.RowKit Bal Bal.Trim Bal.Mast
set_option linter.unusedVariables false
set_option linter.unusedSimpArgs false
set_option maxHeartbeats 1000000
set_option maxRecDepth 10000

theorem m_away (a : Option Addr) (c : Nat) (e : Option Addr) (d : Nat) (p : Port) (k : Dock) (n : Nat) (w : World) (hd : Blk w n (dockCells a c e d p k) 126) :
    Calls Try.prog 100 #[.pointer (some ⟨n, 0, none⟩)] w fun e w' => e = .returned (.bool (away k)) ∧ Kept w w' := by
  have q := hd
  unfold dockCells at q
  have qc0 := q.cell 0
  have qf0 := q.free 0
  have ql := q.lt
  simp at qc0
  go_enter Try.func100, Try.ntmps100
  go_wp2
  all_goals (refine bodyPost_ret (v := .bool (away k)) ?_ rfl ⟨rfl, by (exact kpt)⟩)
  all_goals (first | (simp [results, Try.results100, go_sem, away]; done) | (simp [results, Try.results100, go_sem, away]; rfl) | (simp [results, Try.results100, go_sem, away, *]; done))

theorem m_lined (a : Option Addr) (c : Nat) (e : Option Addr) (d : Nat) (p : Port) (k : Dock) (n : Nat) (w : World) (hd : Blk w n (dockCells a c e d p k) 126) :
    Calls Try.prog 71 #[.pointer (some ⟨n, 0, none⟩)] w fun e w' => e = .returned (.bool (lined k)) ∧ Kept w w' := by
  have q := hd
  unfold dockCells at q
  have qc0 := q.cell 0
  have qf0 := q.free 0
  have ql := q.lt
  simp at qc0
  go_enter Try.func71, Try.ntmps71
  go_wp2
  all_goals (refine bodyPost_ret (v := .bool (lined k)) ?_ rfl ⟨rfl, by (exact kpt)⟩)
  all_goals (first | (simp [results, Try.results71, go_sem, lined]; done) | (simp [results, Try.results71, go_sem, lined]; rfl) | (simp [results, Try.results71, go_sem, lined, *]; done))

theorem m_masted (a : Option Addr) (c : Nat) (e : Option Addr) (d : Nat) (p : Port) (k : Dock) (n : Nat) (w : World) (hd : Blk w n (dockCells a c e d p k) 126) :
    Calls Try.prog 110 #[.pointer (some ⟨n, 0, none⟩)] w fun e w' => e = .returned (.bool (masted k)) ∧ Kept w w' := by
  have q := hd
  unfold dockCells at q
  have qc0 := q.cell 0
  have qf0 := q.free 0
  have ql := q.lt
  simp at qc0
  go_enter Try.func110, Try.ntmps110
  go_wp2
  all_goals (refine bodyPost_ret (v := .bool (masted k)) ?_ rfl ⟨rfl, by (exact kpt)⟩)
  all_goals (first | (simp [results, Try.results110, go_sem, masted]; done) | (simp [results, Try.results110, go_sem, masted]; rfl) | (simp [results, Try.results110, go_sem, masted, *]; done))

theorem m_walking (a : Option Addr) (c : Nat) (e : Option Addr) (d : Nat) (p : Port) (k : Dock) (n : Nat) (w : World) (hd : Blk w n (dockCells a c e d p k) 126) :
    Calls Try.prog 72 #[.pointer (some ⟨n, 0, none⟩)] w fun e w' => e = .returned (.bool (walking k)) ∧ Kept w w' := by
  have q := hd
  unfold dockCells at q
  have qc0 := q.cell 0
  have qf0 := q.free 0
  have ql := q.lt
  simp at qc0
  go_enter Try.func72, Try.ntmps72
  go_wp2
  all_goals (refine bodyPost_ret (v := .bool (walking k)) ?_ rfl ⟨rfl, by (exact kpt)⟩)
  all_goals (first | (simp [results, Try.results72, go_sem, walking]; done) | (simp [results, Try.results72, go_sem, walking]; rfl) | (simp [results, Try.results72, go_sem, walking, *]; done))

theorem m_housed (a : Option Addr) (c : Nat) (e : Option Addr) (d : Nat) (p : Port) (k : Dock) (n : Nat) (w : World) (hd : Blk w n (dockCells a c e d p k) 126) :
    Calls Try.prog 117 #[.pointer (some ⟨n, 0, none⟩)] w fun e w' => e = .returned (.bool (housed k)) ∧ Kept w w' := by
  have q := hd
  unfold dockCells at q
  have qc0 := q.cell 0
  have qf0 := q.free 0
  have ql := q.lt
  simp at qc0
  go_enter Try.func117, Try.ntmps117
  go_wp2
  all_goals (refine bodyPost_ret (v := .bool (housed k)) ?_ rfl ⟨rfl, by (exact kpt)⟩)
  all_goals (first | (simp [results, Try.results117, go_sem, housed]; done) | (simp [results, Try.results117, go_sem, housed]; rfl) | (simp [results, Try.results117, go_sem, housed, *]; done))

theorem m_held (a : Option Addr) (c : Nat) (e : Option Addr) (d : Nat) (p : Port) (k : Dock) (n : Nat) (w : World) (hd : Blk w n (dockCells a c e d p k) 126) :
    Calls Try.prog 107 #[.pointer (some ⟨n, 0, none⟩)] w fun e w' => e = .returned (.bool (gripped k)) ∧ Kept w w' := by
  have q := hd
  unfold dockCells at q
  have qc2 := q.cell 2
  have qf2 := q.free 2
  have ql := q.lt
  simp at qc2
  go_enter Try.func107, Try.ntmps107
  go_wp2
  all_goals (refine bodyPost_ret (v := .bool (gripped k)) ?_ rfl ⟨rfl, by (exact kpt)⟩)
  all_goals (first | (simp [results, Try.results107, go_sem, gripped]; done) | (simp [results, Try.results107, go_sem, gripped]; rfl) | (simp [results, Try.results107, go_sem, gripped, *]; done))

theorem m_loose (a : Option Addr) (c : Nat) (e : Option Addr) (d : Nat) (p : Port) (k : Dock) (n : Nat) (w : World) (hd : Blk w n (dockCells a c e d p k) 126) :
    Calls Try.prog 69 #[.pointer (some ⟨n, 0, none⟩)] w fun e w' => e = .returned (.bool (loose k)) ∧ Kept w w' := by
  have q := hd
  unfold dockCells at q
  have qc2 := q.cell 2
  have qf2 := q.free 2
  have ql := q.lt
  simp at qc2
  go_enter Try.func69, Try.ntmps69
  go_wp2
  all_goals (refine bodyPost_ret (v := .bool (loose k)) ?_ rfl ⟨rfl, by (exact kpt)⟩)
  all_goals (first | (simp [results, Try.results69, go_sem, loose]; done) | (simp [results, Try.results69, go_sem, loose]; rfl) | (simp [results, Try.results69, go_sem, loose, *]; done))

theorem m_wired (a : Option Addr) (c : Nat) (e : Option Addr) (d : Nat) (p : Port) (k : Dock) (n : Nat) (w : World) (hd : Blk w n (dockCells a c e d p k) 126) :
    Calls Try.prog 70 #[.pointer (some ⟨n, 0, none⟩)] w fun e w' => e = .returned (.bool (wired k)) ∧ Kept w w' := by
  have q := hd
  unfold dockCells at q
  have qc3 := q.cell 3
  have qf3 := q.free 3
  have ql := q.lt
  simp at qc3
  go_enter Try.func70, Try.ntmps70
  go_wp2
  all_goals (refine bodyPost_ret (v := .bool (wired k)) ?_ rfl ⟨rfl, by (exact kpt)⟩)
  all_goals (first | (simp [results, Try.results70, go_sem, wired]; done) | (simp [results, Try.results70, go_sem, wired]; rfl) | (simp [results, Try.results70, go_sem, wired, *]; done))

theorem m_bare (a : Option Addr) (c : Nat) (e : Option Addr) (d : Nat) (p : Port) (k : Dock) (n : Nat) (w : World) (hd : Blk w n (dockCells a c e d p k) 126) :
    Calls Try.prog 106 #[.pointer (some ⟨n, 0, none⟩)] w fun e w' => e = .returned (.bool (bare k)) ∧ Kept w w' := by
  have q := hd
  unfold dockCells at q
  have qc3 := q.cell 3
  have qf3 := q.free 3
  have ql := q.lt
  simp at qc3
  go_enter Try.func106, Try.ntmps106
  go_wp2
  all_goals (refine bodyPost_ret (v := .bool (bare k)) ?_ rfl ⟨rfl, by (exact kpt)⟩)
  all_goals (first | (simp [results, Try.results106, go_sem, bare]; done) | (simp [results, Try.results106, go_sem, bare]; rfl) | (simp [results, Try.results106, go_sem, bare, *]; done))

theorem m_open (a : Option Addr) (c : Nat) (e : Option Addr) (d : Nat) (p : Port) (k : Dock) (n : Nat) (w : World) (hd : Blk w n (dockCells a c e d p k) 126) :
    Calls Try.prog 112 #[.pointer (some ⟨n, 0, none⟩)] w fun e w' => e = .returned (.bool (opened k)) ∧ Kept w w' := by
  have q := hd
  unfold dockCells at q
  have qc4 := q.cell 4
  have qf4 := q.free 4
  have ql := q.lt
  simp at qc4
  go_enter Try.func112, Try.ntmps112
  go_wp2
  all_goals (refine bodyPost_ret (v := .bool (opened k)) ?_ rfl ⟨rfl, by (exact kpt)⟩)
  all_goals (first | (simp [results, Try.results112, go_sem, opened]; done) | (simp [results, Try.results112, go_sem, opened]; rfl) | (simp [results, Try.results112, go_sem, opened, *]; done))

theorem m_shut (a : Option Addr) (c : Nat) (e : Option Addr) (d : Nat) (p : Port) (k : Dock) (n : Nat) (w : World) (hd : Blk w n (dockCells a c e d p k) 126) :
    Calls Try.prog 73 #[.pointer (some ⟨n, 0, none⟩)] w fun e w' => e = .returned (.bool (shut k)) ∧ Kept w w' := by
  have q := hd
  unfold dockCells at q
  have qc4 := q.cell 4
  have qf4 := q.free 4
  have ql := q.lt
  simp at qc4
  go_enter Try.func73, Try.ntmps73
  go_wp2
  all_goals (refine bodyPost_ret (v := .bool (shut k)) ?_ rfl ⟨rfl, by (exact kpt)⟩)
  all_goals (first | (simp [results, Try.results73, go_sem, shut]; done) | (simp [results, Try.results73, go_sem, shut]; rfl) | (simp [results, Try.results73, go_sem, shut, *]; done))

theorem m_fast (a : Option Addr) (c : Nat) (e : Option Addr) (d : Nat) (p : Port) (k : Dock) (n : Nat) (w : World) (hd : Blk w n (dockCells a c e d p k) 126) :
    Calls Try.prog 105 #[.pointer (some ⟨n, 0, none⟩)] w fun e w' => e = .returned (.bool (fast k)) ∧ Kept w w' := by
  have q := hd
  unfold dockCells at q
  have qc0 := q.cell 0
  have qf0 := q.free 0
  have ql := q.lt
  simp at qc0
  rw [show fast k = (masted k || housed k) from rfl]
  cases hX : masted k <;> cases hY : housed k
  all_goals
    have HX := Lib.hid hX
    have HY := Lib.hid hY
    clear hX hY
    go_enter Try.func105, Try.ntmps105
    go_wp2_with (first | (go_at_call 110; (with_reducible refine (m_masted a c e d p k n _ ?_).mono ?_); (focus (exact blk)); rw [HX.out]; rintro e w1 ⟨rfl, hb1⟩) | (go_at_call 117; (with_reducible refine (m_housed a c e d p k n _ ?_).mono ?_); (focus (exact blk)); rw [HY.out]; rintro e w1 ⟨rfl, hb1⟩))
    exact bodyPost_ret (v := .bool _) (by first | (simp [results, Try.results105, go_sem]; done) | (simp [results, Try.results105, go_sem, hX]; done)) rfl ⟨rfl, by (exact kpt)⟩

theorem m_tied (a : Option Addr) (c : Nat) (e : Option Addr) (d : Nat) (p : Port) (k : Dock) (n : Nat) (w : World) (hd : Blk w n (dockCells a c e d p k) 126) :
    Calls Try.prog 74 #[.pointer (some ⟨n, 0, none⟩)] w fun e w' => e = .returned (.bool (tied k)) ∧ Kept w w' := by
  have q := hd
  unfold dockCells at q
  have qc0 := q.cell 0
  have qf0 := q.free 0
  have ql := q.lt
  simp at qc0
  rw [show tied k = (lined k || fast k) from rfl]
  cases hX : lined k <;> cases hY : fast k
  all_goals
    have HX := Lib.hid hX
    have HY := Lib.hid hY
    clear hX hY
    go_enter Try.func74, Try.ntmps74
    go_wp2_with (first | (go_at_call 71; (with_reducible refine (m_lined a c e d p k n _ ?_).mono ?_); (focus (exact blk)); rw [HX.out]; rintro e w1 ⟨rfl, hb1⟩) | (go_at_call 105; (with_reducible refine (m_fast a c e d p k n _ ?_).mono ?_); (focus (exact blk)); rw [HY.out]; rintro e w1 ⟨rfl, hb1⟩))
    exact bodyPost_ret (v := .bool _) (by first | (simp [results, Try.results74, go_sem]; done) | (simp [results, Try.results74, go_sem, hX]; done)) rfl ⟨rfl, by (exact kpt)⟩

theorem m_reached (a : Option Addr) (c : Nat) (e : Option Addr) (d : Nat) (p : Port) (k : Dock) (n : Nat) (w : World) (hd : Blk w n (dockCells a c e d p k) 126) :
    Calls Try.prog 102 #[.pointer (some ⟨n, 0, none⟩)] w fun e w' => e = .returned (.bool (reached k)) ∧ Kept w w' := by
  have q := hd
  unfold dockCells at q
  have qc0 := q.cell 0
  have qf0 := q.free 0
  have ql := q.lt
  simp at qc0
  rw [show reached k = (decide (k.b.ship = 1) || fast k) from rfl]
  cases hX : decide (k.b.ship = 1) <;> cases hY : fast k
  all_goals
    have HX := Lib.hid hX
    have HY := Lib.hid hY
    clear hY
    simp at hX
    go_enter Try.func102, Try.ntmps102
    go_wp2_with (first | (go_at_call 105; (with_reducible refine (m_fast a c e d p k n _ ?_).mono ?_); (focus (exact blk)); rw [HY.out]; rintro e w1 ⟨rfl, hb1⟩))
    exact bodyPost_ret (v := .bool _) (by first | (simp [results, Try.results102, go_sem]; done) | (simp [results, Try.results102, go_sem, hX]; done)) rfl ⟨rfl, by (exact kpt)⟩

theorem m_still (a : Option Addr) (c : Nat) (e : Option Addr) (d : Nat) (p : Port) (k : Dock) (n : Nat) (w : World) (hd : Blk w n (dockCells a c e d p k) 126) :
    Calls Try.prog 75 #[.pointer (some ⟨n, 0, none⟩)] w fun e w' => e = .returned (.bool (still k)) ∧ Kept w w' := by
  have q := hd
  unfold dockCells at q
  have qc0 := q.cell 0
  have qf0 := q.free 0
  have ql := q.lt
  simp at qc0
  go_enter Try.func75, Try.ntmps75
  go_wp2_with (first | (go_at_call 72; (with_reducible refine (m_walking a c e d p k n _ ?_).mono ?_); (focus (exact blk)); rintro e w1 ⟨rfl, hb1⟩))
  all_goals (refine bodyPost_ret (v := .bool (still k)) ?_ rfl ⟨rfl, by (exact kpt)⟩)
  all_goals (first | (simp [results, Try.results75, go_sem, still]; done) | (simp [results, Try.results75, go_sem, still]; rfl) | (simp [results, Try.results75, go_sem, still, *]; done))

end Go.Proofs.Ytacbkbilbmkjnaa

/-
  Rules of acts at the mast that read the port; what acts do.
-/
namespace Go.Proofs.Ytacbkbilbmkjnaa
open Go.RowKit Bal Bal.Trim Bal.Mast
set_option linter.unusedVariables false
set_option linter.unusedSimpArgs false
set_option maxHeartbeats 1000000
set_option maxRecDepth 10000

theorem rng_one (x lo hi : Int) : rng [x] lo hi = inB x lo hi := by simp [rng]
theorem f_rangedB (lo hi x : Int) (b : Nat) (t : TypeId) (w : World) (hb : Blk w b #[.int .i64 x] t) :
    Calls Try.prog 51 #[.int .i64 lo, .int .i64 hi, .slice (some ⟨b, 0, none⟩) 1 1] w fun e w' => e = .returned (.bool (inB x lo hi)) ∧ Kept w w' := by
  have := f_ranged lo hi (some ⟨b, 0, none⟩) 1 1 [x] w rfl (Row.one (enc := icell) hb rfl) (by decide)
  rw [rng_one] at this
  exact this
theorem m_crew (a : Option Addr) (c : Nat) (e : Option Addr) (d : Nat) (p : Port) (k : Dock) (n : Nat) (w : World) (hd : Blk w n (dockCells a c e d p k) 126) :
    Calls Try.prog 103 #[.pointer (some ⟨n, 0, none⟩)] w fun e w' => e = .returned (.bool (crew p k)) ∧ Kept w w' := by
  have q := hd
  unfold dockCells at q
  have qc6 : ∀ w', Kept w w' → w'.cell? ⟨n, 6, none⟩ = some (.int .i64 p.people) := fun w' h => by simpa using (q.keep h).cell 6
  have qc10 : ∀ w', Kept w w' → w'.cell? ⟨n, 10, none⟩ = some (.int .i64 k.need) := fun w' h => by simpa using (q.keep h).cell 10
  have qc15 : ∀ w', Kept w w' → w'.cell? ⟨n, 15, none⟩ = some (.int .i64 k.n) := fun w' h => by simpa using (q.keep h).cell 15
  have hnl := hd.lt
  go_enter Try.func103, Try.ntmps103
  go_upto_region 1 with fail
  go_cut [2] (fun s2 wx => s2 = .bool (crew p k) ∧ Kept w wx)
  case first =>
    go_region_held3 (fun w' => Kept w w') (exact kpt) (first | (go_at_call 51; (with_reducible refine (f_rangedB k.need p.people k.n _ 3 _ ?_).mono ?_); (focus (first | exact Blk.drew (Blk.new' rfl) | exact Blk.new' rfl | exact Blk.drew (Blk.new' (by simp)) | (exact blk))); rintro e w9 ⟨rfl, hb9⟩) | fail)
    all_goals (go_wp2_with fail; go_meet)
    all_goals exact ⟨rfl, by (exact kpt)⟩
  case rest =>
    obtain ⟨rfl, hk⟩ := hcut
    go_wp2
    exact bodyPost_ret (v := .bool (crew p k)) (by simp [results, Try.results103, go_sem]) rfl ⟨rfl, by (exact kpt)⟩
theorem m_other (a : Option Addr) (c : Nat) (e : Option Addr) (d : Nat) (p : Port) (k : Dock) (n : Nat) (w : World) (hd : Blk w n (dockCells a c e d p k) 126) (hl : p.axes.length ≤ 32) :
    Calls Try.prog 114 #[.pointer (some ⟨n, 0, none⟩)] w fun e w' => e = .returned (.bool (elsewhere p k)) ∧ Kept w w' := by
  have q := hd
  unfold dockCells at q
  have qc1 : ∀ w', Kept w w' → w'.cell? ⟨n, 1, none⟩ = some (.int .i64 k.b.axis) := fun w' h => by simpa using (q.keep h).cell 1
  have qc5 : ∀ w', Kept w w' → w'.cell? ⟨n, 5, none⟩ = some (.slice a p.axes.length c) := fun w' h => by simpa using (q.keep h).cell 5
  have qc15 : ∀ w', Kept w w' → w'.cell? ⟨n, 15, none⟩ = some (.int .i64 k.n) := fun w' h => by simpa using (q.keep h).cell 15
  have hnl := hd.lt
  have u1 : IntKind.i64.wrap ((p.axes.length : Int) - 1) = (p.axes.length : Int) - 1 := by rw [IntKind.wrap_i64]; omega
  obtain ⟨V, hV⟩ : ∃ V, inB k.n 0 (p.axes.length - 1) = V := ⟨_, rfl⟩
  have HV := Lib.hid hV
  obtain ⟨E, hE⟩ : ∃ E, elsewhere p k = E := ⟨_, rfl⟩
  have hE' := hE
  unfold elsewhere at hE'
  rw [hV] at hE'
  rw [hE]
  clear hV hE
  have hq := fun (w' : World) (h : Blk w' n (dockCells a c e d p k) 126) => (show Blk w' n #[.int .u8 k.b.ship, .int .i64 k.b.axis, .int .i64 k.b.held, .bool k.b.wire, .bool k.b.opn, .slice a p.axes.length c, .int .i64 p.people, .int .i64 p.most, .slice e p.pulls.length d, .int .i64 p.cross, .int .i64 k.need, .int .i64 k.wind.xlo, .int .i64 k.wind.xhi, .int .i64 k.wind.ylo, .int .i64 k.wind.yhi, .int .i64 k.n] 126 from h)
  cases V
  · rw [Bool.false_and] at hE'
    subst hE'
    clear q qc1 qc5 qc15
    go_enter Try.func114, Try.ntmps114
    go_upto_region 1 with fail
    refine held_walk (fun w' => Blk w' n (dockCells a c e d p k) 126 ∧ Kept w w') [(true, 0), (true, 1), (true, 2), (true, 3), (true, 4), (true, 5), (true, 6), (true, 7), (true, 8), (true, 9), (true, 10), (false, 11), (false, 12), (true, 13), (true, 14), (true, 15), (true, 16), (true, 17), (true, 18), (true, 19), (true, 20), (true, 21), (true, 22), (true, 23), (true, 24), (false, 25)] 25 (by kernel_rfl) (by kernel_rfl) (fun c a d v w h => by cases d <;> exact h) ⟨hd.drew, (Below.refl _ _).drew⟩ ?_
    simp only [List.filterMap_cons, List.filterMap_nil, List.getElem?_cons_zero, List.getElem?_cons_succ, Option.map_some]
    iterate 11 ((first | (refine held_take ?_ ?_ (fun w' hS => ?_) ?_; rotate_left 1; (focus rfl); (focus (first | (go_simp; done) | (go_simp; with_reducible rfl) | (obtain ⟨S1, S2⟩ := hS; have q := hq _ S1; have qc1 := q.cell 1; have qc5 := q.cell 5; have qc15 := q.cell 15; simp at qc1 qc5 qc15; first | (go_simp; done) | (go_simp; with_reducible rfl))))) | (refine held_pass ?_ ?_; (focus rfl))); simp only [Act.put, List.setIfInBounds_toArray, List.set_cons_zero, List.set_cons_succ])
    refine held_one ?_
    refine wpList_plain rfl fun K1 hK1 => ?_
    go_simp
    refine hK1 _ _ ?_
    refine held_on ⟨hd.drew.alloc _, by (exact kpt)⟩ ?_
    refine held_one ?_
    refine wpList_plain rfl fun K1 hK1 => ?_
    go_wp2_with (go_at_call 51; (with_reducible refine (f_rangedB 0 (p.axes.length - 1) k.n _ 3 _ ?_).mono ?_); (focus (first | exact Blk.drew (Blk.new' rfl) | exact Blk.new' rfl | exact Blk.drew (Blk.new' (by simp)) | (exact blk))); rw [HV.out]; rintro e w9 ⟨rfl, hb9⟩)
    refine held_on ⟨(hd.drew.alloc _).keep hb9, by (exact kpt)⟩ ?_
    iterate 12 ((first | (refine held_take ?_ ?_ (fun w' hS => ?_) ?_; rotate_left 1; (focus rfl); (focus (first | (go_simp; done) | (go_simp; with_reducible rfl) | (obtain ⟨S1, S2⟩ := hS; have q := hq _ S1; have qc1 := q.cell 1; have qc5 := q.cell 5; have qc15 := q.cell 15; simp at qc1 qc5 qc15; first | (go_simp; done) | (go_simp; with_reducible rfl))))) | (refine held_pass ?_ ?_; (focus rfl))); simp only [Act.put, List.setIfInBounds_toArray, List.set_cons_zero, List.set_cons_succ])
    refine held_one ?_
    refine wpList_plain rfl fun K1 hK1 => ?_
    go_wp2
    (first | refine held_end ?_ | (refine onward_on ?_; first | refine held_nil ?_ | refine ⟨.inl trivial, held_nil ?_⟩ | refine ⟨.inl rfl, held_nil ?_⟩))
    go_wp2
    exact bodyPost_ret (v := .bool false) (by simp [results, Try.results114, go_sem]) rfl ⟨rfl, by (exact kpt)⟩
  · rw [Bool.true_and] at hE'
    have hE2 : (!(k.n == k.b.axis)) = E := by rw [← hE']; cases hq : decide (k.n = k.b.axis) <;> simp_all
    clear hE' q qc1 qc5 qc15
    go_enter Try.func114, Try.ntmps114
    go_upto_region 1 with fail
    refine held_walk (fun w' => Blk w' n (dockCells a c e d p k) 126 ∧ Kept w w') [(true, 0), (true, 1), (true, 2), (true, 3), (true, 4), (true, 5), (true, 6), (true, 7), (true, 8), (true, 9), (true, 10), (false, 11), (false, 12), (true, 13), (true, 14), (true, 15), (true, 16), (true, 17), (true, 18), (true, 19), (true, 20), (true, 21), (true, 22), (true, 23), (true, 24), (false, 25)] 25 (by kernel_rfl) (by kernel_rfl) (fun c a d v w h => by cases d <;> exact h) ⟨hd.drew, (Below.refl _ _).drew⟩ ?_
    simp only [List.filterMap_cons, List.filterMap_nil, List.getElem?_cons_zero, List.getElem?_cons_succ, Option.map_some]
    iterate 11 ((first | (refine held_take ?_ ?_ (fun w' hS => ?_) ?_; rotate_left 1; (focus rfl); (focus (first | (go_simp; done) | (go_simp; with_reducible rfl) | (obtain ⟨S1, S2⟩ := hS; have q := hq _ S1; have qc1 := q.cell 1; have qc5 := q.cell 5; have qc15 := q.cell 15; simp at qc1 qc5 qc15; first | (go_simp; done) | (go_simp; with_reducible rfl))))) | (refine held_pass ?_ ?_; (focus rfl))); simp only [Act.put, List.setIfInBounds_toArray, List.set_cons_zero, List.set_cons_succ])
    refine held_one ?_
    refine wpList_plain rfl fun K1 hK1 => ?_
    go_simp
    refine hK1 _ _ ?_
    refine held_on ⟨hd.drew.alloc _, by (exact kpt)⟩ ?_
    refine held_one ?_
    refine wpList_plain rfl fun K1 hK1 => ?_
    go_wp2_with (go_at_call 51; (with_reducible refine (f_rangedB 0 (p.axes.length - 1) k.n _ 3 _ ?_).mono ?_); (focus (first | exact Blk.drew (Blk.new' rfl) | exact Blk.new' rfl | exact Blk.drew (Blk.new' (by simp)) | (exact blk))); rw [HV.out]; rintro e w9 ⟨rfl, hb9⟩)
    refine held_on ⟨(hd.drew.alloc _).keep hb9, by (exact kpt)⟩ ?_
    iterate 12 ((first | (refine held_take ?_ ?_ (fun w' hS => ?_) ?_; rotate_left 1; (focus rfl); (focus (first | (go_simp; done) | (go_simp; with_reducible rfl) | (obtain ⟨S1, S2⟩ := hS; have q := hq _ S1; have qc1 := q.cell 1; have qc5 := q.cell 5; have qc15 := q.cell 15; simp at qc1 qc5 qc15; first | (go_simp; done) | (go_simp; with_reducible rfl))))) | (refine held_pass ?_ ?_; (focus rfl))); simp only [Act.put, List.setIfInBounds_toArray, List.set_cons_zero, List.set_cons_succ])
    refine held_one ?_
    refine wpList_plain rfl fun K1 hK1 => ?_
    go_wp2
    (first | refine held_end ?_ | (refine onward_on ?_; first | refine held_nil ?_ | refine ⟨.inl trivial, held_nil ?_⟩ | refine ⟨.inl rfl, held_nil ?_⟩))
    go_wp2
    exact bodyPost_ret (v := .bool E) (by first | (simp [results, Try.results114, go_sem, hE2]; done) | (simp [results, Try.results114, go_sem]; exact hE2) | (simp [results, Try.results114, go_sem, ← hE2]; rfl)) rfl ⟨rfl, by (exact kpt)⟩

theorem m_quiet (a : Option Addr) (c : Nat) (e : Option Addr) (d : Nat) (p : Port) (k : Dock) (n : Nat) (w : World) (hd : Blk w n (dockCells a c e d p k) 126) (hx : Row Axis.cells 2 w.heap.size w a p.axes) (hp : portB p = true) (hw : windB k.wind = true) (h0 : 0 ≤ k.b.axis) (h1 : k.b.axis < p.axes.length) :
    Calls Try.prog 116 #[.pointer (some ⟨n, 0, none⟩)] w fun e w' => e = .returned (.bool (quiet p k)) ∧ Kept w w' := by
  obtain ⟨i, hi⟩ := Int.eq_ofNat_of_zero_le h0
  have hil : i < p.axes.length := by omega
  have hqt : quiet p k = calmS k.wind p.axes[i] p.cross := by unfold quiet; rw [hi]; simp [hil]
  rw [hqt]
  obtain ⟨_, _, hax⟩ := turnable_parts (portB_parts hp).1
  have hab := hax _ (List.getElem_mem hil)
  obtain ⟨bb, off, hae, hbb, g0, g1⟩ := Axis.row hx i hil
  obtain ⟨X, hX⟩ : ∃ X, X = p.axes[i] := ⟨_, rfl⟩
  rw [← hX] at hab g0 g1 ⊢
  have HW := Lib.hid hw
  have HA := Lib.hid hab
  have HM := Lib.hid (portB_parts hp).2.2.2.2
  have q := hd
  unfold dockCells at q
  rw [hi, hae] at q
  have qc1 := fun g : Later w => (q.later g).cell 1
  have qc5 := fun g : Later w => (q.later g).cell 5
  have qc9 := fun g : Later w => (q.later g).cell 9
  have qc11 := fun g : Later w => (q.later g).cell 11
  have qc12 := fun g : Later w => (q.later g).cell 12
  have qc13 := fun g : Later w => (q.later g).cell 13
  have qc14 := fun g : Later w => (q.later g).cell 14
  have qf1 := fun g : Later w => (q.later g).free 1
  have qf5 := fun g : Later w => (q.later g).free 5
  have qf9 := fun g : Later w => (q.later g).free 9
  have qf11 := fun g : Later w => (q.later g).free 11
  have qf12 := fun g : Later w => (q.later g).free 12
  have qf13 := fun g : Later w => (q.later g).free 13
  have qf14 := fun g : Later w => (q.later g).free 14
  have ql := fun g : Later w => (q.later g).lt
  simp at qc1 qc5 qc9 qc11 qc12 qc13 qc14
  have x0 := fun g : Later w => g.some g0
  have x1 := fun g : Later w => g.some g1
  have i0 : (0 : Int) ≤ (i : Int) := by omega
  have i1 : (i : Int) < (p.axes.length : Int) := by omega
  clear hqt hX hi hax hae hd h0 h1 hp hw hab hx q
  go_enter Try.func116, Try.ntmps116
  go_upto_region 1 with fail
  refine Later.region (by kernel_rfl) (by kernel_rfl) ?_
  repeat (first | go_big_quiet_skip | (go_big_quiet_want; go_big_quiet_op; first | go_big_quiet_on | (apply Exists.intro; refine ⟨fun g => ?_, ?_⟩; (focus (first | (go_at_call 52; with_reducible exact Later.call (f_calm k.wind X p.cross _ HW.out HA.out HM.out)))); go_big_quiet_on)))
  refine wpQuiet_nil ?_
  intro gg
  have hkg : Kept w gg.val := gg.ok
  go_wp2
  exact bodyPost_ret (v := .bool (calmS k.wind X p.cross)) (by simp [results, Try.results116, go_sem]) rfl ⟨rfl, by (exact kpt)⟩

theorem a_ship (a : Option Addr) (c : Nat) (e : Option Addr) (d : Nat) (p : Port) (k : Dock) (n : Nat) (w : World) (hd : Blk w n (dockCells a c e d p k) 126) (s : Int) (m : Nat) (hm : Blk w m #[.int .u8 s] 5) :
    Calls Try.prog 127 #[.pointer (some ⟨n, 0, none⟩), .pointer (some ⟨m, 0, none⟩)] w fun z w' => z = .returned (.tuple #[]) ∧ Blk w' n (dockCells a c e d p { k with b := toShip s k.b }) 126 ∧ Below n w w' := by
  have q := hd
  unfold dockCells at q
  have qc0 := q.cell 0
  have qc3 := q.cell 3
  have qf0 := q.free 0
  have qf3 := q.free 3
  have ql := q.lt
  simp at qc0 qc3
  have hm0 := hm.cell 0
  have hml := hm.lt
  simp at hm0
  go_enter Try.func127, Try.ntmps127
  go_wp2
  all_goals go_end0
  all_goals exact ⟨rfl, Blk.cast (((hd.set 0 _).set 3 _)) (by simp [dockCells, toShip]), by (repeat (first | with_reducible assumption | with_reducible exact Below.refl _ _ | ((with_reducible refine Below.setCell ?_ ?_ _); rotate_left 1; (focus (first | exact Nat.le_refl _ | (simp; done) | (simp; omega))))))⟩

theorem a_4 (a : Option Addr) (c : Nat) (e : Option Addr) (d : Nat) (p : Port) (k : Dock) (n : Nat) (w : World) (hd : Blk w n (dockCells a c e d p k) 126) :
    Calls Try.prog 109 #[.pointer (some ⟨n, 0, none⟩)] w fun z w' => z = .returned (.tuple #[]) ∧ Blk w' n (dockCells a c e d p { k with b := { k.b with wire := true } }) 126 ∧ Below n w w' := by
  have q := hd
  unfold dockCells at q
  have qc3 := q.cell 3
  have qf3 := q.free 3
  have ql := q.lt
  simp at qc3
  
  go_enter Try.func109, Try.ntmps109
  go_wp2
  all_goals go_end0
  all_goals exact ⟨rfl, Blk.cast ((hd.set 3 _)) (by simp [dockCells]), by (repeat (first | with_reducible assumption | with_reducible exact Below.refl _ _ | ((with_reducible refine Below.setCell ?_ ?_ _); rotate_left 1; (focus (first | exact Nat.le_refl _ | (simp; done) | (simp; omega))))))⟩

theorem a_5 (a : Option Addr) (c : Nat) (e : Option Addr) (d : Nat) (p : Port) (k : Dock) (n : Nat) (w : World) (hd : Blk w n (dockCells a c e d p k) 126) :
    Calls Try.prog 111 #[.pointer (some ⟨n, 0, none⟩)] w fun z w' => z = .returned (.tuple #[]) ∧ Blk w' n (dockCells a c e d p { k with b := { k.b with opn := true } }) 126 ∧ Below n w w' := by
  have q := hd
  unfold dockCells at q
  have qc4 := q.cell 4
  have qf4 := q.free 4
  have ql := q.lt
  simp at qc4
  
  go_enter Try.func111, Try.ntmps111
  go_wp2
  all_goals go_end0
  all_goals exact ⟨rfl, Blk.cast ((hd.set 4 _)) (by simp [dockCells]), by (repeat (first | with_reducible assumption | with_reducible exact Below.refl _ _ | ((with_reducible refine Below.setCell ?_ ?_ _); rotate_left 1; (focus (first | exact Nat.le_refl _ | (simp; done) | (simp; omega))))))⟩

theorem a_6 (a : Option Addr) (c : Nat) (e : Option Addr) (d : Nat) (p : Port) (k : Dock) (n : Nat) (w : World) (hd : Blk w n (dockCells a c e d p k) 126) :
    Calls Try.prog 113 #[.pointer (some ⟨n, 0, none⟩)] w fun z w' => z = .returned (.tuple #[]) ∧ Blk w' n (dockCells a c e d p { k with b := { k.b with opn := false } }) 126 ∧ Below n w w' := by
  have q := hd
  unfold dockCells at q
  have qc4 := q.cell 4
  have qf4 := q.free 4
  have ql := q.lt
  simp at qc4
  
  go_enter Try.func113, Try.ntmps113
  go_wp2
  all_goals go_end0
  all_goals exact ⟨rfl, Blk.cast ((hd.set 4 _)) (by simp [dockCells]), by (repeat (first | with_reducible assumption | with_reducible exact Below.refl _ _ | ((with_reducible refine Below.setCell ?_ ?_ _); rotate_left 1; (focus (first | exact Nat.le_refl _ | (simp; done) | (simp; omega))))))⟩

theorem a_7 (a : Option Addr) (c : Nat) (e : Option Addr) (d : Nat) (p : Port) (k : Dock) (n : Nat) (w : World) (hd : Blk w n (dockCells a c e d p k) 126) :
    Calls Try.prog 115 #[.pointer (some ⟨n, 0, none⟩)] w fun z w' => z = .returned (.tuple #[]) ∧ Blk w' n (dockCells a c e d p { k with b := { k.b with axis := k.n } }) 126 ∧ Below n w w' := by
  have q := hd
  unfold dockCells at q
  have qc1 := q.cell 1
  have qc15 := q.cell 15
  have qf1 := q.free 1
  have qf15 := q.free 15
  have ql := q.lt
  simp at qc1 qc15
  
  go_enter Try.func115, Try.ntmps115
  go_wp2
  all_goals go_end0
  all_goals exact ⟨rfl, Blk.cast ((hd.set 1 _)) (by simp [dockCells]), by (repeat (first | with_reducible assumption | with_reducible exact Below.refl _ _ | ((with_reducible refine Below.setCell ?_ ?_ _); rotate_left 1; (focus (first | exact Nat.le_refl _ | (simp; done) | (simp; omega))))))⟩

theorem a_2 (a : Option Addr) (c : Nat) (e : Option Addr) (d : Nat) (p : Port) (k : Dock) (n : Nat) (w : World) (hd : Blk w n (dockCells a c e d p k) 126) :
    Calls Try.prog 104 #[.pointer (some ⟨n, 0, none⟩)] w fun z w' => z = .returned (.tuple #[]) ∧ Blk w' n (dockCells a c e d p { k with b := { k.b with held := k.n, ship := if fast k then k.b.ship else 2 } }) 126 ∧ Below n w w' := by
  have q := hd
  unfold dockCells at q
  have qc0 := q.cell 0
  have qc2 := q.cell 2
  have qc15 := q.cell 15
  have qf0 := q.free 0
  have qf2 := q.free 2
  have qf15 := q.free 15
  have ql := q.lt
  simp at qc0 qc2 qc15
  cases hF : fast k
  · have HF := Lib.hid (show fast { k with b := { k.b with held := k.n } } = false from hF)
    clear hF
    go_enter Try.func104, Try.ntmps104
    go_wp2_with (go_at_call 105; (with_reducible refine (m_fast a c e d p { k with b := { k.b with held := k.n } } n _ ?_).mono ?_); (focus exact Blk.cast ((hd.set 2 _)) (by simp [dockCells])); rw [HF.out]; rintro z w1 ⟨rfl, hb1⟩; have hbn : Below n w w1 := Below.trans (Below.setCell (Below.refl n w) (Nat.le_refl n) _) (hb1.mono (by have := hd.lt; simp; omega)); have q2 := (Blk.cast ((hd.set 2 _)) (by simp [dockCells]) : Blk _ n (dockCells a c e d p { k with b := { k.b with held := k.n } }) 126).keep hb1; have q3 := q2; unfold dockCells at q3; have q3c0 := q3.cell 0; have q3f0 := q3.free 0; have q3l := q3.lt; simp at q3c0)
    go_end0
    exact ⟨rfl, Blk.cast (q2.set 0 _) (by simp [dockCells]), by (repeat (first | with_reducible assumption | with_reducible exact Below.refl _ _ | ((with_reducible refine Below.setCell ?_ ?_ _); rotate_left 1; (focus (first | exact Nat.le_refl _ | (simp; done) | (simp; omega))))))⟩
  · have HF := Lib.hid (show fast { k with b := { k.b with held := k.n } } = true from hF)
    clear hF
    go_enter Try.func104, Try.ntmps104
    go_wp2_with (go_at_call 105; (with_reducible refine (m_fast a c e d p { k with b := { k.b with held := k.n } } n _ ?_).mono ?_); (focus exact Blk.cast ((hd.set 2 _)) (by simp [dockCells])); rw [HF.out]; rintro z w1 ⟨rfl, hb1⟩; have hbn : Below n w w1 := Below.trans (Below.setCell (Below.refl n w) (Nat.le_refl n) _) (hb1.mono (by have := hd.lt; simp; omega)); have q2 := (Blk.cast ((hd.set 2 _)) (by simp [dockCells]) : Blk _ n (dockCells a c e d p { k with b := { k.b with held := k.n } }) 126).keep hb1; have q3 := q2; unfold dockCells at q3; have q3c0 := q3.cell 0; have q3f0 := q3.free 0; have q3l := q3.lt; simp at q3c0)
    go_end0
    exact ⟨rfl, Blk.cast q2 (by simp [dockCells]), by (repeat (first | with_reducible assumption | with_reducible exact Below.refl _ _ | ((with_reducible refine Below.setCell ?_ ?_ _); rotate_left 1; (focus (first | exact Nat.le_refl _ | (simp; done) | (simp; omega))))))⟩

theorem a_3 (a : Option Addr) (c : Nat) (e : Option Addr) (d : Nat) (p : Port) (k : Dock) (n : Nat) (w : World) (hd : Blk w n (dockCells a c e d p k) 126) :
    Calls Try.prog 108 #[.pointer (some ⟨n, 0, none⟩)] w fun z w' => z = .returned (.tuple #[]) ∧ Blk w' n (dockCells a c e d p { k with b := { k.b with held := 0, ship := if fast k then k.b.ship else 1 } }) 126 ∧ Below n w w' := by
  have q := hd
  unfold dockCells at q
  have qc0 := q.cell 0
  have qc2 := q.cell 2
  have qc15 := q.cell 15
  have qf0 := q.free 0
  have qf2 := q.free 2
  have qf15 := q.free 15
  have ql := q.lt
  simp at qc0 qc2 qc15
  cases hF : fast k
  · have HF := Lib.hid (show fast { k with b := { k.b with held := 0 } } = false from hF)
    clear hF
    go_enter Try.func108, Try.ntmps108
    go_wp2_with (go_at_call 105; (with_reducible refine (m_fast a c e d p { k with b := { k.b with held := 0 } } n _ ?_).mono ?_); (focus exact Blk.cast ((hd.set 2 _)) (by simp [dockCells])); rw [HF.out]; rintro z w1 ⟨rfl, hb1⟩; have hbn : Below n w w1 := Below.trans (Below.setCell (Below.refl n w) (Nat.le_refl n) _) (hb1.mono (by have := hd.lt; simp; omega)); have q2 := (Blk.cast ((hd.set 2 _)) (by simp [dockCells]) : Blk _ n (dockCells a c e d p { k with b := { k.b with held := 0 } }) 126).keep hb1; have q3 := q2; unfold dockCells at q3; have q3c0 := q3.cell 0; have q3f0 := q3.free 0; have q3l := q3.lt; simp at q3c0)
    go_end0
    exact ⟨rfl, Blk.cast (q2.set 0 _) (by simp [dockCells]), by (repeat (first | with_reducible assumption | with_reducible exact Below.refl _ _ | ((with_reducible refine Below.setCell ?_ ?_ _); rotate_left 1; (focus (first | exact Nat.le_refl _ | (simp; done) | (simp; omega))))))⟩
  · have HF := Lib.hid (show fast { k with b := { k.b with held := 0 } } = true from hF)
    clear hF
    go_enter Try.func108, Try.ntmps108
    go_wp2_with (go_at_call 105; (with_reducible refine (m_fast a c e d p { k with b := { k.b with held := 0 } } n _ ?_).mono ?_); (focus exact Blk.cast ((hd.set 2 _)) (by simp [dockCells])); rw [HF.out]; rintro z w1 ⟨rfl, hb1⟩; have hbn : Below n w w1 := Below.trans (Below.setCell (Below.refl n w) (Nat.le_refl n) _) (hb1.mono (by have := hd.lt; simp; omega)); have q2 := (Blk.cast ((hd.set 2 _)) (by simp [dockCells]) : Blk _ n (dockCells a c e d p { k with b := { k.b with held := 0 } }) 126).keep hb1; have q3 := q2; unfold dockCells at q3; have q3c0 := q3.cell 0; have q3f0 := q3.free 0; have q3l := q3.lt; simp at q3c0)
    go_end0
    exact ⟨rfl, Blk.cast q2 (by simp [dockCells]), by (repeat (first | with_reducible assumption | with_reducible exact Below.refl _ _ | ((with_reducible refine Below.setCell ?_ ?_ _); rotate_left 1; (focus (first | exact Nat.le_refl _ | (simp; done) | (simp; omega))))))⟩

end Go.Proofs.Ytacbkbilbmkjnaa

/-
  A map of bools that a call has made itself, by what its look-ups answer. No program in sight.
-/
namespace Bal
open Go Go.RowKit Go.Maps
set_option linter.unusedVariables false
/-- block b is a map of bools of at most n entries, whose look-ups answer f -/
def InSet (P : Program) (k e : TypeId) (w : World) (b n : Nat) (f : Lit → Bool) : Prop :=
  ∃ D : DataW Unit, w.ownsMap P k (plainElem P e) b n D ∧ IsMap D ∧ ∀ kl, D.atKey kl (.lit (.bool false)) = .lit (.bool (f kl))
theorem InSet.made {P : Program} {k e : TypeId} {w : World} {b : Nat} (hb : b = w.heap.size) : InSet P k e (w.alloc (.map #[] 0)) b 0 (fun _ => false) := by
  subst hb
  exact ⟨.map [], World.ownsMap_made w P k _, isMap_empty, fun kl => rfl⟩
theorem InSet.lt {P : Program} {k e : TypeId} {w : World} {b n : Nat} {f : Lit → Bool} (h : InSet P k e w b n f) : b < w.heap.size := by
  obtain ⟨D, h, _⟩ := h
  exact h.lt
theorem InSet.keep {P : Program} {k e : TypeId} {w w' : World} {b n : Nat} {f : Lit → Bool} (h : InSet P k e w b n f) (hb : Kept w w') : InSet P k e w' b n f := by
  have hl := h.lt
  obtain ⟨D, ⟨es, clock, hh, r⟩, h2⟩ := h
  exact ⟨D, ⟨es, clock, by rw [hb.block b hl]; exact hh, r⟩, h2⟩
theorem InSet.put {P : Program} {k e : TypeId} {w' : World} {b n : Nat} {f g : Lit → Bool} {D : DataW Unit} {kl : Lit} {v : Bool} (hD : IsMap D) (hf : ∀ kl, D.atKey kl (.lit (.bool false)) = .lit (.bool (f kl))) (hk : WideAt.IsKeyLit kl) (hg1 : g kl = v) (hg2 : ∀ x, x ≠ kl → g x = f x)
    (h : w'.ownsMap P k (plainElem P e) b n (D.put kl (.lit (.bool v)))) : InSet P k e w' b n g := by
  refine ⟨_, h, hD.put _ _, fun x => ?_⟩
  by_cases hx : x = kl
  · subst hx
    rw [atKey_put_same hD hk, hg1]
  · rw [atKey_put_other hx, hf, hg2 x hx]
theorem Kept.turned {w0 w w' : World} {b : Nat} (h : Kept w0 w) (hb : w0.heap.size ≤ b) (hg : w.grownBy w' (some b)) : Kept w0 w' := by
  refine Below.trans h ⟨hg.os, hg.tape, hg.output, hg.size, fun i hi => hg.block i (Nat.lt_of_lt_of_le hi h.size) fun he => ?_⟩
  simp only [Option.some.injEq] at he
  omega
theorem Blk.turned {w w' : World} {b m : Nat} {arr : Array Value} {t : TypeId} (h : Blk w m arr t) (hne : m ≠ b) (hg : w.grownBy w' (some b)) : Blk w' m arr t := by
  have hl := h.lt
  unfold Blk at *
  rw [hg.block m hl (fun he => hne (by simpa using he))]
  exact h
/-- 'm[k]' -/
theorem wpList_look_set {P : Program} (w : World) {ops : Array Oper} {rest : List Oper} {o : Oper} {a : Act} {Q : Exit → Act → World → Prop}
    (hg : o.guard = none) (m x : Operand) (t : TypeId) (hop : o.op = Op.lookup t m x false)
    (k e : TypeId) (K : Keyed P k) (ht : P.underlying t = some (.map k e)) (he : P.underlying e = some .bool) (hz : (zeroValue e).run P w = .ok (.bool false) w) (b n : Nat) (f : Lit → Bool)
    (hm : a.eval m = .map (some b)) (hset : InSet P k e w b n f) (key : Value) (kl : Lit) (hx : a.eval x = key) (hkey : keyOf P k key = some kl)
    (hK : wpList P ops Q rest (a.put o.dst (.bool (f kl))) w) :
    wpList P ops Q (o :: rest) a w := by
  refine wpList_plain hg fun K' hK' => ?_
  obtain ⟨D, hown, hD, hf⟩ := hset
  obtain ⟨v, ps, hrun, hv⟩ := hown.lookup K ht hz (plainElem_bool he false) hkey
  rw [hf kl] at hv
  have hvv : v = .bool (f kl) := by
    unfold plainElem at hv
    rw [he] at hv
    cases v <;> simp at hv
    obtain ⟨rfl, _⟩ := hv
    rfl
  unfold Oper.wp
  simp [execOp, hop, hm, hx, hrun, Result.andThen]
  exact hK' _ _ (hvv ▸ hK)
/-- 'm[k] = v' -/
theorem wpList_put_set {P : Program} (w : World) {ops : Array Oper} {rest : List Oper} {o : Oper} {a : Act} {Q : Exit → Act → World → Prop}
    (hg : o.guard = none) (m x v : Operand) (t : TypeId) (hop : o.op = Op.mapUpdate t m x v)
    (k e : TypeId) (K : Keyed P k) (ht : P.underlying t = some (.map k e)) (he : P.underlying e = some .bool) (b n : Nat) (f g : Lit → Bool)
    (hm : a.eval m = .map (some b)) (hset : InSet P k e w b n f) (hn : n < maxLen) (key : Value) (y : Bool) (kl : Lit) (hx : a.eval x = key) (hv : a.eval v = .bool y) (hkey : keyOf P k key = some kl)
    (hkl : WideAt.IsKeyLit kl) (hg1 : g kl = y) (hg2 : ∀ z, z ≠ kl → g z = f z)
    (hK : ∀ w', InSet P k e w' b (n + 1) g → w.grownBy w' (some b) → wpList P ops Q rest (a.put o.dst undef) w') :
    wpList P ops Q (o :: rest) a w := by
  obtain ⟨D, hown, hD, hf⟩ := hset
  refine wpList_mapUpdate_own w hg m x v t hop k e K ht _ b n D hm hown hn key (.bool y) kl hx hv hkey _ [] (plainElem_bool he y) ?_
  intro w' hown' hgrow
  exact hK w' (InSet.put hD hf hkl hg1 hg2 hown') hgrow
end Bal

/-
  A map that a call has made itself, by what its look-ups answer: its values are held as they are. No program in sight.
-/
namespace Bal
open Go Go.RowKit Go.Maps
set_option linter.unusedVariables false
def tokR (v : Value) : Option (DataW Value × List MemPlace) := some (.held v, [])
/-- block b is a map of at most n entries, in which f lies -/
def InMap (P : Program) (k : TypeId) (w : World) (b n : Nat) (f : Lit → Option Value) : Prop :=
  ∃ D : DataW Value, w.ownsMap P k tokR b n D ∧ IsMap D ∧ ∀ kl z, D.atKey kl z = match f kl with | some v => .held v | none => z
theorem InMap.made {P : Program} {k : TypeId} {w : World} {b : Nat} (hb : b = w.heap.size) : InMap P k (w.alloc (.map #[] 0)) b 0 (fun _ => none) := by
  subst hb
  exact ⟨.map [], World.ownsMap_made w P k _, isMap_empty, fun kl z => rfl⟩
theorem InMap.lt {P : Program} {k : TypeId} {w : World} {b n : Nat} {f : Lit → Option Value} (h : InMap P k w b n f) : b < w.heap.size := by
  obtain ⟨D, h, _⟩ := h
  exact h.lt
theorem InMap.below {P : Program} {k : TypeId} {B : Nat} {w w' : World} {b n : Nat} {f : Lit → Option Value} (h : InMap P k w b n f) (hb : Below B w w') (hB : b < B) : InMap P k w' b n f := by
  obtain ⟨D, ⟨es, clock, hh, r⟩, h2⟩ := h
  exact ⟨D, ⟨es, clock, by rw [hb.block b hB]; exact hh, r⟩, h2⟩
theorem InMap.keep {P : Program} {k : TypeId} {w w' : World} {b n : Nat} {f : Lit → Option Value} (h : InMap P k w b n f) (hb : Kept w w') : InMap P k w' b n f := h.below hb h.lt
theorem InMap.put {P : Program} {k : TypeId} {w' : World} {b n : Nat} {f g : Lit → Option Value} {D : DataW Value} {kl : Lit} {v : Value} (hD : IsMap D) (hf : ∀ kl z, D.atKey kl z = match f kl with | some v => .held v | none => z) (hk : WideAt.IsKeyLit kl) (hg1 : g kl = some v) (hg2 : ∀ x, x ≠ kl → g x = f x)
    (h : w'.ownsMap P k tokR b n (D.put kl (.held v))) : InMap P k w' b n g := by
  refine ⟨_, h, hD.put _ _, fun x z => ?_⟩
  by_cases hx : x = kl
  · subst hx
    rw [atKey_put_same hD hk, hg1]
  · rw [atKey_put_other hx, hf, hg2 x hx]
/-- 'm[k]' -/
theorem wpList_look_map {P : Program} (w : World) {ops : Array Oper} {rest : List Oper} {o : Oper} {a : Act} {Q : Exit → Act → World → Prop}
    (hg : o.guard = none) (m x : Operand) (t : TypeId) (hop : o.op = Op.lookup t m x false)
    (k e : TypeId) (K : Keyed P k) (ht : P.underlying t = some (.map k e)) (z : Value) (hz : (zeroValue e).run P w = .ok z w) (b n : Nat) (f : Lit → Option Value)
    (hm : a.eval m = .map (some b)) (hset : InMap P k w b n f) (key : Value) (kl : Lit) (hx : a.eval x = key) (hkey : keyOf P k key = some kl) (v : Value) (hv : (f kl).getD z = v)
    (hK : wpList P ops Q rest (a.put o.dst v) w) :
    wpList P ops Q (o :: rest) a w := by
  refine wpList_plain hg fun K' hK' => ?_
  obtain ⟨D, hown, hD, hf⟩ := hset
  obtain ⟨u, ps, hrun, hu⟩ := hown.lookup K ht hz (zd := .held z) (zp := []) rfl hkey
  rw [hf kl] at hu
  have hvv : u = v := by
    unfold tokR at hu
    rw [← hv]
    cases hfk : f kl with
    | none => rw [hfk] at hu; simp only [Option.some.injEq, Prod.mk.injEq, DataW.held.injEq] at hu; exact hu.1
    | some y => rw [hfk] at hu; simp only [Option.some.injEq, Prod.mk.injEq, DataW.held.injEq] at hu; exact hu.1
  unfold Oper.wp
  simp [execOp, hop, hm, hx, hrun, Result.andThen]
  exact hK' _ _ (hvv ▸ hK)
/-- 'v, ok := m[k]' -/
theorem wpList_look_ok {P : Program} (w : World) {ops : Array Oper} {rest : List Oper} {o : Oper} {a : Act} {Q : Exit → Act → World → Prop}
    (hg : o.guard = none) (m x : Operand) (t : TypeId) (hop : o.op = Op.lookup t m x true)
    (k e : TypeId) (K : Keyed P k) (ht : P.underlying t = some (.map k e)) (z : Value) (hz : (zeroValue e).run P w = .ok z w) (b n : Nat) (f : Lit → Option Value)
    (hm : a.eval m = .map (some b)) (hset : InMap P k w b n f) (key : Value) (kl : Lit) (hx : a.eval x = key) (hkey : keyOf P k key = some kl) (v : Value) (hv : (f kl).getD z = v) (y : Bool) (hy : (f kl).isSome = y)
    (hK : wpList P ops Q rest (a.put o.dst (.tuple #[v, .bool y])) w) :
    wpList P ops Q (o :: rest) a w := by
  refine wpList_plain hg fun K' hK' => ?_
  obtain ⟨D, hown, hD, hf⟩ := hset
  obtain ⟨u, ps, hrun, hu⟩ := hown.look_ok K ht hz (zd := .held z) (zp := []) rfl hkey
  have hat := hf kl
  rw [hf kl] at hu
  have hvv : u = v ∧ Maps.has D kl = y := by
    unfold tokR at hu
    rw [← hv, ← hy]
    cases hfk : f kl with
    | none =>
      rw [hfk] at hu hat
      simp only [Option.some.injEq, Prod.mk.injEq, DataW.held.injEq] at hu
      exact ⟨hu.1, has_false_of_atKey hat⟩
    | some y =>
      rw [hfk] at hu hat
      simp only [Option.some.injEq, Prod.mk.injEq, DataW.held.injEq] at hu
      exact ⟨hu.1, has_true_of_atKey hat⟩
  obtain ⟨rfl, rfl⟩ := hvv
  unfold Oper.wp
  simp [execOp, hop, hm, hx, hrun, Result.andThen]
  exact hK' _ _ hK
theorem InMap.run {P : Program} {w : World} {t k e : TypeId} (K : Keyed P k) (ht : P.underlying t = some (.map k e)) {b n : Nat} {f g : Lit → Option Value} (hset : InMap P k w b n f) (hn : n < maxLen) {key y : Value} {kl : Lit} (hkey : keyOf P k key = some kl)
    (hkl : WideAt.IsKeyLit kl) (hg1 : g kl = some y) (hg2 : ∀ z, z ≠ kl → g z = f z) : ∃ w', (Instr.mapUpdate t (.map (some b)) key y).run P w = .ok () w' ∧ InMap P k w' b (n + 1) g ∧ w.grownBy w' (some b) := by
  obtain ⟨D, hown, hD, hf⟩ := hset
  obtain ⟨w', hrun, r1, r2⟩ := hown.update K ht hn (val := y) (d := .held y) (ps := []) hkey rfl
  exact ⟨w', hrun, InMap.put hD hf hkl hg1 hg2 r1, r2⟩
/-- blocks beside a map -/
def Beside (b : Nat) (w : World) (l : List (Nat × Array Value × TypeId)) : Prop := ∀ x ∈ l, x.1 ≠ b ∧ Blk w x.1 x.2.1 x.2.2
theorem Beside.nil {b : Nat} {w : World} : Beside b w [] := fun x hx => by cases hx
theorem Beside.keep {b : Nat} {w w' : World} {l : List (Nat × Array Value × TypeId)} (h : Beside b w l) (hk : Kept w w') : Beside b w' l := fun x hx => ⟨(h x hx).1, (h x hx).2.keep hk⟩
theorem Beside.cons {b : Nat} {w : World} {l : List (Nat × Array Value × TypeId)} (h : Beside b w l) {n : Nat} {arr : Array Value} {t : TypeId} (hn : n ≠ b) (hb : Blk w n arr t) : Beside b w ((n, arr, t) :: l) := by
  intro x hx
  rcases List.mem_cons.1 hx with rfl | hx
  · exact ⟨hn, hb⟩
  · exact h x hx
theorem Beside.turned {b : Nat} {w w' : World} {l : List (Nat × Array Value × TypeId)} (h : Beside b w l) (hg : w.grownBy w' (some b)) : Beside b w' l := fun x hx => ⟨(h x hx).1, (h x hx).2.turned (h x hx).1 hg⟩
theorem Beside.at {b : Nat} {w : World} {l : List (Nat × Array Value × TypeId)} (h : Beside b w l) (i : Nat) (hi : i < l.length) : Blk w l[i].1 l[i].2.1 l[i].2.2 := (h _ (List.getElem_mem hi)).2
theorem Blk.lower {B : Nat} {w w' : World} {b : Nat} {arr : Array Value} {t : TypeId} (h : Blk w b arr t) (hb : Below B w w') (hl : b < B) : Blk w' b arr t := by
  unfold Blk at *
  rw [hb.block b hl]
  exact h
end Bal

/-
  The table of acts.
-/
namespace Go.Proofs.Ytacbkbilbmkjnaa
open Go.RowKit Bal Bal.Trim Bal.Mast
set_option linter.unusedVariables false
set_option linter.unusedSimpArgs false
set_option maxHeartbeats 2000000
set_option maxRecDepth 10000

theorem keyedU8 : Go.Maps.Keyed Try.prog 5 := Go.Maps.int_keyed Try.underlying5
def litF (g : Int → Option Value) : Lit → Option Value
  | .int .u8 n => g n
  | _ => none
def putG (g : Int → Option Value) (k : Int) (y : Value) (n : Int) : Option Value := if n = k then some y else g n
theorem litF_new (g : Int → Option Value) (k : Int) (y : Value) : litF (putG g k y) (.int .u8 k) = some y := if_pos rfl
theorem litF_old (g : Int → Option Value) (k : Int) (y : Value) (z : Lit) (hz : z ≠ .int .u8 k) : litF (putG g k y) z = litF g z := by
  unfold litF
  split
  · rename_i n
    exact if_neg fun e => hz (by rw [e])
  · rfl
theorem litF_none : litF (fun _ => none) = fun _ => none := by funext z; unfold litF; split <;> rfl
theorem keyU8 {n : Int} (h : 0 ≤ n ∧ n ≤ 255) : keyOf Try.prog 5 (.int .u8 n) = some (.int .u8 n) := Go.Maps.keyOf_int_mk Try.underlying5 (by
  simp only [Lit.wf, Bool.and_eq_true, decide_eq_true_eq]
  have e1 : IntKind.min .u8 = 0 := by decide
  have e2 : IntKind.max .u8 = 255 := by decide
  rw [e1, e2]
  exact h)
theorem zeroDeed (w : World) : (zeroValue 122).run Try.prog w = .ok (.agg #[.slice none 0 0, .nilFunc]) w := by kernel_rfl

/-- the rules of an act, as a table holds them -/
def rulesArr : Int → Array Value
  | 1 => #[.func (.func 100) #[] #[]]
  | 2 => #[.func (.func 102) #[] #[], .func (.func 69) #[] #[], .func (.func 103) #[] #[]]
  | 3 => #[.func (.func 74) #[] #[], .func (.func 106) #[] #[], .func (.func 107) #[] #[]]
  | 4 => #[.func (.func 71) #[] #[], .func (.func 106) #[] #[]]
  | 5 => #[.func (.func 71) #[] #[], .func (.func 70) #[] #[]]
  | 6 => #[.func (.func 110) #[] #[], .func (.func 69) #[] #[]]
  | 7 => #[.func (.func 73) #[] #[]]
  | 8 => #[.func (.func 112) #[] #[], .func (.func 75) #[] #[]]
  | 9 => #[.func (.func 114) #[] #[], .func (.func 73) #[] #[]]
  | 10 => #[.func (.func 110) #[] #[], .func (.func 107) #[] #[], .func (.func 112) #[] #[], .func (.func 116) #[] #[]]
  | 11 => #[.func (.func 72) #[] #[], .func (.func 116) #[] #[]]
  | 12 => #[.func (.func 117) #[] #[], .func (.func 107) #[] #[], .func (.func 112) #[] #[], .func (.func 116) #[] #[]]
  | 13 => #[.func (.func 72) #[] #[]]
  | _ => #[]
/-- an act, as a table holds it -/
def deedV (b s : Nat) : Int → Value
  | 1 => .agg #[.slice (some ⟨b, 0, none⟩) 1 1, .func (.func 127) #[] #[.pointer (some ⟨s, 0, none⟩)]]
  | 2 => .agg #[.slice (some ⟨b, 0, none⟩) 3 3, .func (.func 104) #[] #[]]
  | 3 => .agg #[.slice (some ⟨b, 0, none⟩) 3 3, .func (.func 108) #[] #[]]
  | 4 => .agg #[.slice (some ⟨b, 0, none⟩) 2 2, .func (.func 109) #[] #[]]
  | 5 => .agg #[.slice (some ⟨b, 0, none⟩) 2 2, .func (.func 127) #[] #[.pointer (some ⟨s, 0, none⟩)]]
  | 6 => .agg #[.slice (some ⟨b, 0, none⟩) 2 2, .func (.func 127) #[] #[.pointer (some ⟨s, 0, none⟩)]]
  | 7 => .agg #[.slice (some ⟨b, 0, none⟩) 1 1, .func (.func 111) #[] #[]]
  | 8 => .agg #[.slice (some ⟨b, 0, none⟩) 2 2, .func (.func 113) #[] #[]]
  | 9 => .agg #[.slice (some ⟨b, 0, none⟩) 2 2, .func (.func 115) #[] #[]]
  | 10 => .agg #[.slice (some ⟨b, 0, none⟩) 4 4, .func (.func 127) #[] #[.pointer (some ⟨s, 0, none⟩)]]
  | 11 => .agg #[.slice (some ⟨b, 0, none⟩) 2 2, .func (.func 127) #[] #[.pointer (some ⟨s, 0, none⟩)]]
  | 12 => .agg #[.slice (some ⟨b, 0, none⟩) 4 4, .func (.func 127) #[] #[.pointer (some ⟨s, 0, none⟩)]]
  | 13 => .agg #[.slice (some ⟨b, 0, none⟩) 1 1, .func (.func 127) #[] #[.pointer (some ⟨s, 0, none⟩)]]
  | _ => .nilFunc
/-- where an act makes the ship be -/
def shipTo : Int → Option Int
  | 1 => some 1
  | 5 => some 3
  | 6 => some 0
  | 10 => some 4
  | 11 => some 5
  | 12 => some 4
  | 13 => some 3
  | _ => none
/-- the table of acts lies in block M, all of it below B -/
def Table (w : World) (B M : Nat) : Prop := M < B ∧ ∃ g, InMap Try.prog 5 w M 13 (litF g) ∧ (∀ k : Int, ¬ (1 ≤ k ∧ k ≤ 13) → g k = none) ∧
  ∀ k : Int, 1 ≤ k → k ≤ 13 → ∃ b s, b < B ∧ s < B ∧ g k = some (deedV b s k) ∧ Blk w b (rulesArr k) 158 ∧ ∀ t, shipTo k = some t → Blk w s #[.int .u8 t] 5
theorem Table.below {w w' : World} {B M : Nat} (h : Table w B M) (hb : Below B w w') : Table w' B M := by
  obtain ⟨h1, g, h2, h3, h4⟩ := h
  refine ⟨h1, g, h2.below hb h1, h3, fun k k1 k2 => ?_⟩
  obtain ⟨b, s, b1, b2, b3, b4, b5⟩ := h4 k k1 k2
  exact ⟨b, s, b1, b2, b3, b4.lower hb b1, fun t ht => (b5 t ht).lower hb b2⟩
theorem Table.up {w : World} {B C M : Nat} (h : Table w B M) (hB : B ≤ C) : Table w C M := by
  obtain ⟨h1, g, h2, h3, h4⟩ := h
  refine ⟨Nat.lt_of_lt_of_le h1 hB, g, h2, h3, fun k k1 k2 => ?_⟩
  obtain ⟨b, s, b1, b2, b3⟩ := h4 k k1 k2
  exact ⟨b, s, Nat.lt_of_lt_of_le b1 hB, Nat.lt_of_lt_of_le b2 hB, b3⟩
theorem f_rules (v : Value) (w : World) (a : Option Addr) (n c : Nat) (hv : v = .slice a n c) :
    Calls Try.prog 99 #[v] w fun z w' => z = .returned v ∧ w = w' := by
  subst hv
  go_enter Try.func99, Try.ntmps99
  go_wp2
  exact bodyPost_ret (v := .slice a n c) (by simp [results, Try.results99, go_sem]) rfl ⟨rfl, rfl⟩
theorem f_ship (s : Int) (w : World) (n : Nat) (hn : n = w.heap.size) :
    Calls Try.prog 101 #[.int .u8 s] w fun z w' => z = .returned (.func (.func 127) #[] #[.pointer (some ⟨n, 0, none⟩)]) ∧ Blk w' n #[.int .u8 s] 5 ∧ Kept w w' := by
  subst hn
  go_enter Try.func101, Try.ntmps101
  go_wp2
  exact bodyPost_ret (v := .func (.func 127) #[] #[.pointer (some ⟨w.heap.size, 0, none⟩)]) (by simp [results, Try.results101, go_sem]) rfl ⟨rfl, by (exact blk), by (exact kpt)⟩

theorem f_deeds (w : World) :
    Calls Try.prog 63 #[] w fun z w' => z = .returned (.map (some w.heap.size)) ∧ Table w' w'.heap.size w.heap.size ∧ Kept w w' := by
  have hm0 : InMap Try.prog 5 (w.alloc (.map #[] 0)) w.heap.size 0 (litF (fun _ => none)) := by rw [litF_none]; exact InMap.made rfl
  obtain ⟨g0, hG0⟩ : ∃ g : Int → Option Value, g = fun _ => none := ⟨_, rfl⟩
  rw [← hG0] at hm0
  have hk0 : Kept w (w.alloc (.map #[] 0)) := Kept.alloc (Below.refl _ _) _
  have bs0 : Beside w.heap.size (w.alloc (.map #[] 0)) [] := Beside.nil
  have hmm := @run_makeMap Try.prog
  go_enter Try.func63, Try.ntmps63
  go_wp2_with (first | (go_at_call 99; (with_reducible refine (f_rules _ _ _ _ _ rfl).mono ?_); rintro z u1 ⟨rfl, rfl⟩) | (go_at_call 101; (with_reducible refine (f_ship 1 _ (w.heap.size + 1 + 1) (by simp)).mono ?_); rintro z v1 ⟨rfl, hs1, hv1⟩))
  obtain ⟨w1, hr1, hm1, hg1⟩ := InMap.run keyedU8 Try.underlying117 (w := v1) (g := litF (putG g0 1 (.agg #[.slice (some ⟨w.heap.size + 1, 0, none⟩) 1 1, .func (.func 127) #[] #[.pointer (some ⟨w.heap.size + 1 + 1, 0, none⟩)]]))) (hm0.keep (by (exact kpt))) (by simp [maxLen]) (keyU8 (n := 1) (by omega)) trivial (litF_new _ _ _) (fun z hz => litF_old _ _ _ z hz)
  rw [hr1]
  have hk1 : Kept w w1 := Kept.turned (w := v1) (by (exact kpt)) (Nat.le_refl _) hg1
  have bs1 := Beside.turned (w := v1) (((bs0.keep (by (exact kpt))).cons (n := w.heap.size + 1) (arr := #[.func (.func 100) #[] #[]]) (t := 158) (by omega) (by (exact blk))).cons (n := w.heap.size + 1 + 1) (arr := #[.int .u8 1]) (t := 5) (by omega) (by (exact blk))) hg1
  obtain ⟨g1, hG1⟩ : ∃ g, g = putG g0 1 (.agg #[.slice (some ⟨w.heap.size + 1, 0, none⟩) 1 1, .func (.func 127) #[] #[.pointer (some ⟨w.heap.size + 1 + 1, 0, none⟩)]]) := ⟨_, rfl⟩
  rw [← hG1] at hm1
  clear hm0 hg1 hr1 bs0 hs1 hv1
  go_wp2_with (first | (go_at_call 99; (with_reducible refine (f_rules _ _ _ _ _ rfl).mono ?_); rintro z u1 ⟨rfl, rfl⟩) | fail)
  obtain ⟨w2, hr2, hm2, hg2⟩ := InMap.run keyedU8 Try.underlying117 (w := (w1.alloc (.cells #[.func (.func 102) #[] #[], .func (.func 69) #[] #[], .func (.func 103) #[] #[]] 158))) (g := litF (putG g1 2 (.agg #[.slice (some ⟨w1.heap.size, 0, none⟩) 3 3, .func (.func 104) #[] #[]]))) (hm1.keep (by (exact kpt))) (by simp [maxLen]) (keyU8 (n := 2) (by omega)) trivial (litF_new _ _ _) (fun z hz => litF_old _ _ _ z hz)
  rw [hr2]
  have hk2 : Kept w w2 := Kept.turned (w := (w1.alloc (.cells #[.func (.func 102) #[] #[], .func (.func 69) #[] #[], .func (.func 103) #[] #[]] 158))) (by (exact kpt)) (Nat.le_refl _) hg2
  have bs2 := Beside.turned (w := (w1.alloc (.cells #[.func (.func 102) #[] #[], .func (.func 69) #[] #[], .func (.func 103) #[] #[]] 158))) ((bs1.keep (by (exact kpt))).cons (n := w1.heap.size) (arr := #[.func (.func 102) #[] #[], .func (.func 69) #[] #[], .func (.func 103) #[] #[]]) (t := 158) (by have := hm1.lt; omega) (by (exact blk))) hg2
  obtain ⟨g2, hG2⟩ : ∃ g, g = putG g1 2 (.agg #[.slice (some ⟨w1.heap.size, 0, none⟩) 3 3, .func (.func 104) #[] #[]]) := ⟨_, rfl⟩
  rw [← hG2] at hm2
  clear hm1 hg2 hr2 bs1
  go_wp2_with (first | (go_at_call 99; (with_reducible refine (f_rules _ _ _ _ _ rfl).mono ?_); rintro z u1 ⟨rfl, rfl⟩) | fail)
  obtain ⟨w3, hr3, hm3, hg3⟩ := InMap.run keyedU8 Try.underlying117 (w := (w2.alloc (.cells #[.func (.func 74) #[] #[], .func (.func 106) #[] #[], .func (.func 107) #[] #[]] 158))) (g := litF (putG g2 3 (.agg #[.slice (some ⟨w2.heap.size, 0, none⟩) 3 3, .func (.func 108) #[] #[]]))) (hm2.keep (by (exact kpt))) (by simp [maxLen]) (keyU8 (n := 3) (by omega)) trivial (litF_new _ _ _) (fun z hz => litF_old _ _ _ z hz)
  rw [hr3]
  have hk3 : Kept w w3 := Kept.turned (w := (w2.alloc (.cells #[.func (.func 74) #[] #[], .func (.func 106) #[] #[], .func (.func 107) #[] #[]] 158))) (by (exact kpt)) (Nat.le_refl _) hg3
  have bs3 := Beside.turned (w := (w2.alloc (.cells #[.func (.func 74) #[] #[], .func (.func 106) #[] #[], .func (.func 107) #[] #[]] 158))) ((bs2.keep (by (exact kpt))).cons (n := w2.heap.size) (arr := #[.func (.func 74) #[] #[], .func (.func 106) #[] #[], .func (.func 107) #[] #[]]) (t := 158) (by have := hm2.lt; omega) (by (exact blk))) hg3
  obtain ⟨g3, hG3⟩ : ∃ g, g = putG g2 3 (.agg #[.slice (some ⟨w2.heap.size, 0, none⟩) 3 3, .func (.func 108) #[] #[]]) := ⟨_, rfl⟩
  rw [← hG3] at hm3
  clear hm2 hg3 hr3 bs2
  go_wp2_with (first | (go_at_call 99; (with_reducible refine (f_rules _ _ _ _ _ rfl).mono ?_); rintro z u1 ⟨rfl, rfl⟩) | fail)
  obtain ⟨w4, hr4, hm4, hg4⟩ := InMap.run keyedU8 Try.underlying117 (w := (w3.alloc (.cells #[.func (.func 71) #[] #[], .func (.func 106) #[] #[]] 158))) (g := litF (putG g3 4 (.agg #[.slice (some ⟨w3.heap.size, 0, none⟩) 2 2, .func (.func 109) #[] #[]]))) (hm3.keep (by (exact kpt))) (by simp [maxLen]) (keyU8 (n := 4) (by omega)) trivial (litF_new _ _ _) (fun z hz => litF_old _ _ _ z hz)
  rw [hr4]
  have hk4 : Kept w w4 := Kept.turned (w := (w3.alloc (.cells #[.func (.func 71) #[] #[], .func (.func 106) #[] #[]] 158))) (by (exact kpt)) (Nat.le_refl _) hg4
  have bs4 := Beside.turned (w := (w3.alloc (.cells #[.func (.func 71) #[] #[], .func (.func 106) #[] #[]] 158))) ((bs3.keep (by (exact kpt))).cons (n := w3.heap.size) (arr := #[.func (.func 71) #[] #[], .func (.func 106) #[] #[]]) (t := 158) (by have := hm3.lt; omega) (by (exact blk))) hg4
  obtain ⟨g4, hG4⟩ : ∃ g, g = putG g3 4 (.agg #[.slice (some ⟨w3.heap.size, 0, none⟩) 2 2, .func (.func 109) #[] #[]]) := ⟨_, rfl⟩
  rw [← hG4] at hm4
  clear hm3 hg4 hr4 bs3
  go_wp2_with (first | (go_at_call 99; (with_reducible refine (f_rules _ _ _ _ _ rfl).mono ?_); rintro z u1 ⟨rfl, rfl⟩) | (go_at_call 101; (with_reducible refine (f_ship 3 _ (w4.heap.size + 1) (by simp)).mono ?_); rintro z v5 ⟨rfl, hs5, hv5⟩))
  obtain ⟨w5, hr5, hm5, hg5⟩ := InMap.run keyedU8 Try.underlying117 (w := v5) (g := litF (putG g4 5 (.agg #[.slice (some ⟨w4.heap.size, 0, none⟩) 2 2, .func (.func 127) #[] #[.pointer (some ⟨w4.heap.size + 1, 0, none⟩)]]))) (hm4.keep (by (exact kpt))) (by simp [maxLen]) (keyU8 (n := 5) (by omega)) trivial (litF_new _ _ _) (fun z hz => litF_old _ _ _ z hz)
  rw [hr5]
  have hk5 : Kept w w5 := Kept.turned (w := v5) (by (exact kpt)) (Nat.le_refl _) hg5
  have bs5 := Beside.turned (w := v5) (((bs4.keep (by (exact kpt))).cons (n := w4.heap.size) (arr := #[.func (.func 71) #[] #[], .func (.func 70) #[] #[]]) (t := 158) (by have := hm4.lt; omega) (by (exact blk))).cons (n := w4.heap.size + 1) (arr := #[.int .u8 3]) (t := 5) (by have := hm4.lt; omega) (by (exact blk))) hg5
  obtain ⟨g5, hG5⟩ : ∃ g, g = putG g4 5 (.agg #[.slice (some ⟨w4.heap.size, 0, none⟩) 2 2, .func (.func 127) #[] #[.pointer (some ⟨w4.heap.size + 1, 0, none⟩)]]) := ⟨_, rfl⟩
  rw [← hG5] at hm5
  clear hm4 hg5 hr5 bs4 hs5 hv5
  go_wp2_with (first | (go_at_call 99; (with_reducible refine (f_rules _ _ _ _ _ rfl).mono ?_); rintro z u1 ⟨rfl, rfl⟩) | (go_at_call 101; (with_reducible refine (f_ship 0 _ (w5.heap.size + 1) (by simp)).mono ?_); rintro z v6 ⟨rfl, hs6, hv6⟩))
  obtain ⟨w6, hr6, hm6, hg6⟩ := InMap.run keyedU8 Try.underlying117 (w := v6) (g := litF (putG g5 6 (.agg #[.slice (some ⟨w5.heap.size, 0, none⟩) 2 2, .func (.func 127) #[] #[.pointer (some ⟨w5.heap.size + 1, 0, none⟩)]]))) (hm5.keep (by (exact kpt))) (by simp [maxLen]) (keyU8 (n := 6) (by omega)) trivial (litF_new _ _ _) (fun z hz => litF_old _ _ _ z hz)
  rw [hr6]
  have hk6 : Kept w w6 := Kept.turned (w := v6) (by (exact kpt)) (Nat.le_refl _) hg6
  have bs6 := Beside.turned (w := v6) (((bs5.keep (by (exact kpt))).cons (n := w5.heap.size) (arr := #[.func (.func 110) #[] #[], .func (.func 69) #[] #[]]) (t := 158) (by have := hm5.lt; omega) (by (exact blk))).cons (n := w5.heap.size + 1) (arr := #[.int .u8 0]) (t := 5) (by have := hm5.lt; omega) (by (exact blk))) hg6
  obtain ⟨g6, hG6⟩ : ∃ g, g = putG g5 6 (.agg #[.slice (some ⟨w5.heap.size, 0, none⟩) 2 2, .func (.func 127) #[] #[.pointer (some ⟨w5.heap.size + 1, 0, none⟩)]]) := ⟨_, rfl⟩
  rw [← hG6] at hm6
  clear hm5 hg6 hr6 bs5 hs6 hv6
  go_wp2_with (first | (go_at_call 99; (with_reducible refine (f_rules _ _ _ _ _ rfl).mono ?_); rintro z u1 ⟨rfl, rfl⟩) | fail)
  obtain ⟨w7, hr7, hm7, hg7⟩ := InMap.run keyedU8 Try.underlying117 (w := (w6.alloc (.cells #[.func (.func 73) #[] #[]] 158))) (g := litF (putG g6 7 (.agg #[.slice (some ⟨w6.heap.size, 0, none⟩) 1 1, .func (.func 111) #[] #[]]))) (hm6.keep (by (exact kpt))) (by simp [maxLen]) (keyU8 (n := 7) (by omega)) trivial (litF_new _ _ _) (fun z hz => litF_old _ _ _ z hz)
  rw [hr7]
  have hk7 : Kept w w7 := Kept.turned (w := (w6.alloc (.cells #[.func (.func 73) #[] #[]] 158))) (by (exact kpt)) (Nat.le_refl _) hg7
  have bs7 := Beside.turned (w := (w6.alloc (.cells #[.func (.func 73) #[] #[]] 158))) ((bs6.keep (by (exact kpt))).cons (n := w6.heap.size) (arr := #[.func (.func 73) #[] #[]]) (t := 158) (by have := hm6.lt; omega) (by (exact blk))) hg7
  obtain ⟨g7, hG7⟩ : ∃ g, g = putG g6 7 (.agg #[.slice (some ⟨w6.heap.size, 0, none⟩) 1 1, .func (.func 111) #[] #[]]) := ⟨_, rfl⟩
  rw [← hG7] at hm7
  clear hm6 hg7 hr7 bs6
  go_wp2_with (first | (go_at_call 99; (with_reducible refine (f_rules _ _ _ _ _ rfl).mono ?_); rintro z u1 ⟨rfl, rfl⟩) | fail)
  obtain ⟨w8, hr8, hm8, hg8⟩ := InMap.run keyedU8 Try.underlying117 (w := (w7.alloc (.cells #[.func (.func 112) #[] #[], .func (.func 75) #[] #[]] 158))) (g := litF (putG g7 8 (.agg #[.slice (some ⟨w7.heap.size, 0, none⟩) 2 2, .func (.func 113) #[] #[]]))) (hm7.keep (by (exact kpt))) (by simp [maxLen]) (keyU8 (n := 8) (by omega)) trivial (litF_new _ _ _) (fun z hz => litF_old _ _ _ z hz)
  rw [hr8]
  have hk8 : Kept w w8 := Kept.turned (w := (w7.alloc (.cells #[.func (.func 112) #[] #[], .func (.func 75) #[] #[]] 158))) (by (exact kpt)) (Nat.le_refl _) hg8
  have bs8 := Beside.turned (w := (w7.alloc (.cells #[.func (.func 112) #[] #[], .func (.func 75) #[] #[]] 158))) ((bs7.keep (by (exact kpt))).cons (n := w7.heap.size) (arr := #[.func (.func 112) #[] #[], .func (.func 75) #[] #[]]) (t := 158) (by have := hm7.lt; omega) (by (exact blk))) hg8
  obtain ⟨g8, hG8⟩ : ∃ g, g = putG g7 8 (.agg #[.slice (some ⟨w7.heap.size, 0, none⟩) 2 2, .func (.func 113) #[] #[]]) := ⟨_, rfl⟩
  rw [← hG8] at hm8
  clear hm7 hg8 hr8 bs7
  go_wp2_with (first | (go_at_call 99; (with_reducible refine (f_rules _ _ _ _ _ rfl).mono ?_); rintro z u1 ⟨rfl, rfl⟩) | fail)
  obtain ⟨w9, hr9, hm9, hg9⟩ := InMap.run keyedU8 Try.underlying117 (w := (w8.alloc (.cells #[.func (.func 114) #[] #[], .func (.func 73) #[] #[]] 158))) (g := litF (putG g8 9 (.agg #[.slice (some ⟨w8.heap.size, 0, none⟩) 2 2, .func (.func 115) #[] #[]]))) (hm8.keep (by (exact kpt))) (by simp [maxLen]) (keyU8 (n := 9) (by omega)) trivial (litF_new _ _ _) (fun z hz => litF_old _ _ _ z hz)
  rw [hr9]
  have hk9 : Kept w w9 := Kept.turned (w := (w8.alloc (.cells #[.func (.func 114) #[] #[], .func (.func 73) #[] #[]] 158))) (by (exact kpt)) (Nat.le_refl _) hg9
  have bs9 := Beside.turned (w := (w8.alloc (.cells #[.func (.func 114) #[] #[], .func (.func 73) #[] #[]] 158))) ((bs8.keep (by (exact kpt))).cons (n := w8.heap.size) (arr := #[.func (.func 114) #[] #[], .func (.func 73) #[] #[]]) (t := 158) (by have := hm8.lt; omega) (by (exact blk))) hg9
  obtain ⟨g9, hG9⟩ : ∃ g, g = putG g8 9 (.agg #[.slice (some ⟨w8.heap.size, 0, none⟩) 2 2, .func (.func 115) #[] #[]]) := ⟨_, rfl⟩
  rw [← hG9] at hm9
  clear hm8 hg9 hr9 bs8
  go_wp2_with (first | (go_at_call 99; (with_reducible refine (f_rules _ _ _ _ _ rfl).mono ?_); rintro z u1 ⟨rfl, rfl⟩) | (go_at_call 101; (with_reducible refine (f_ship 4 _ (w9.heap.size + 1) (by simp)).mono ?_); rintro z v10 ⟨rfl, hs10, hv10⟩))
  obtain ⟨w10, hr10, hm10, hg10⟩ := InMap.run keyedU8 Try.underlying117 (w := v10) (g := litF (putG g9 10 (.agg #[.slice (some ⟨w9.heap.size, 0, none⟩) 4 4, .func (.func 127) #[] #[.pointer (some ⟨w9.heap.size + 1, 0, none⟩)]]))) (hm9.keep (by (exact kpt))) (by simp [maxLen]) (keyU8 (n := 10) (by omega)) trivial (litF_new _ _ _) (fun z hz => litF_old _ _ _ z hz)
  rw [hr10]
  have hk10 : Kept w w10 := Kept.turned (w := v10) (by (exact kpt)) (Nat.le_refl _) hg10
  have bs10 := Beside.turned (w := v10) (((bs9.keep (by (exact kpt))).cons (n := w9.heap.size) (arr := #[.func (.func 110) #[] #[], .func (.func 107) #[] #[], .func (.func 112) #[] #[], .func (.func 116) #[] #[]]) (t := 158) (by have := hm9.lt; omega) (by (exact blk))).cons (n := w9.heap.size + 1) (arr := #[.int .u8 4]) (t := 5) (by have := hm9.lt; omega) (by (exact blk))) hg10
  obtain ⟨g10, hG10⟩ : ∃ g, g = putG g9 10 (.agg #[.slice (some ⟨w9.heap.size, 0, none⟩) 4 4, .func (.func 127) #[] #[.pointer (some ⟨w9.heap.size + 1, 0, none⟩)]]) := ⟨_, rfl⟩
  rw [← hG10] at hm10
  clear hm9 hg10 hr10 bs9 hs10 hv10
  go_wp2_with (first | (go_at_call 99; (with_reducible refine (f_rules _ _ _ _ _ rfl).mono ?_); rintro z u1 ⟨rfl, rfl⟩) | (go_at_call 101; (with_reducible refine (f_ship 5 _ (w10.heap.size + 1) (by simp)).mono ?_); rintro z v11 ⟨rfl, hs11, hv11⟩))
  obtain ⟨w11, hr11, hm11, hg11⟩ := InMap.run keyedU8 Try.underlying117 (w := v11) (g := litF (putG g10 11 (.agg #[.slice (some ⟨w10.heap.size, 0, none⟩) 2 2, .func (.func 127) #[] #[.pointer (some ⟨w10.heap.size + 1, 0, none⟩)]]))) (hm10.keep (by (exact kpt))) (by simp [maxLen]) (keyU8 (n := 11) (by omega)) trivial (litF_new _ _ _) (fun z hz => litF_old _ _ _ z hz)
  rw [hr11]
  have hk11 : Kept w w11 := Kept.turned (w := v11) (by (exact kpt)) (Nat.le_refl _) hg11
  have bs11 := Beside.turned (w := v11) (((bs10.keep (by (exact kpt))).cons (n := w10.heap.size) (arr := #[.func (.func 72) #[] #[], .func (.func 116) #[] #[]]) (t := 158) (by have := hm10.lt; omega) (by (exact blk))).cons (n := w10.heap.size + 1) (arr := #[.int .u8 5]) (t := 5) (by have := hm10.lt; omega) (by (exact blk))) hg11
  obtain ⟨g11, hG11⟩ : ∃ g, g = putG g10 11 (.agg #[.slice (some ⟨w10.heap.size, 0, none⟩) 2 2, .func (.func 127) #[] #[.pointer (some ⟨w10.heap.size + 1, 0, none⟩)]]) := ⟨_, rfl⟩
  rw [← hG11] at hm11
  clear hm10 hg11 hr11 bs10 hs11 hv11
  go_wp2_with (first | (go_at_call 99; (with_reducible refine (f_rules _ _ _ _ _ rfl).mono ?_); rintro z u1 ⟨rfl, rfl⟩) | (go_at_call 101; (with_reducible refine (f_ship 4 _ (w11.heap.size + 1) (by simp)).mono ?_); rintro z v12 ⟨rfl, hs12, hv12⟩))
  obtain ⟨w12, hr12, hm12, hg12⟩ := InMap.run keyedU8 Try.underlying117 (w := v12) (g := litF (putG g11 12 (.agg #[.slice (some ⟨w11.heap.size, 0, none⟩) 4 4, .func (.func 127) #[] #[.pointer (some ⟨w11.heap.size + 1, 0, none⟩)]]))) (hm11.keep (by (exact kpt))) (by simp [maxLen]) (keyU8 (n := 12) (by omega)) trivial (litF_new _ _ _) (fun z hz => litF_old _ _ _ z hz)
  rw [hr12]
  have hk12 : Kept w w12 := Kept.turned (w := v12) (by (exact kpt)) (Nat.le_refl _) hg12
  have bs12 := Beside.turned (w := v12) (((bs11.keep (by (exact kpt))).cons (n := w11.heap.size) (arr := #[.func (.func 117) #[] #[], .func (.func 107) #[] #[], .func (.func 112) #[] #[], .func (.func 116) #[] #[]]) (t := 158) (by have := hm11.lt; omega) (by (exact blk))).cons (n := w11.heap.size + 1) (arr := #[.int .u8 4]) (t := 5) (by have := hm11.lt; omega) (by (exact blk))) hg12
  obtain ⟨g12, hG12⟩ : ∃ g, g = putG g11 12 (.agg #[.slice (some ⟨w11.heap.size, 0, none⟩) 4 4, .func (.func 127) #[] #[.pointer (some ⟨w11.heap.size + 1, 0, none⟩)]]) := ⟨_, rfl⟩
  rw [← hG12] at hm12
  clear hm11 hg12 hr12 bs11 hs12 hv12
  go_wp2_with (first | (go_at_call 99; (with_reducible refine (f_rules _ _ _ _ _ rfl).mono ?_); rintro z u1 ⟨rfl, rfl⟩) | (go_at_call 101; (with_reducible refine (f_ship 3 _ (w12.heap.size + 1) (by simp)).mono ?_); rintro z v13 ⟨rfl, hs13, hv13⟩))
  obtain ⟨w13, hr13, hm13, hg13⟩ := InMap.run keyedU8 Try.underlying117 (w := v13) (g := litF (putG g12 13 (.agg #[.slice (some ⟨w12.heap.size, 0, none⟩) 1 1, .func (.func 127) #[] #[.pointer (some ⟨w12.heap.size + 1, 0, none⟩)]]))) (hm12.keep (by (exact kpt))) (by simp [maxLen]) (keyU8 (n := 13) (by omega)) trivial (litF_new _ _ _) (fun z hz => litF_old _ _ _ z hz)
  rw [hr13]
  have hk13 : Kept w w13 := Kept.turned (w := v13) (by (exact kpt)) (Nat.le_refl _) hg13
  have bs13 := Beside.turned (w := v13) (((bs12.keep (by (exact kpt))).cons (n := w12.heap.size) (arr := #[.func (.func 72) #[] #[]]) (t := 158) (by have := hm12.lt; omega) (by (exact blk))).cons (n := w12.heap.size + 1) (arr := #[.int .u8 3]) (t := 5) (by have := hm12.lt; omega) (by (exact blk))) hg13
  obtain ⟨g13, hG13⟩ : ∃ g, g = putG g12 13 (.agg #[.slice (some ⟨w12.heap.size, 0, none⟩) 1 1, .func (.func 127) #[] #[.pointer (some ⟨w12.heap.size + 1, 0, none⟩)]]) := ⟨_, rfl⟩
  rw [← hG13] at hm13
  clear hm12 hg13 hr13 bs12 hs13 hv13
  go_wp2
  refine bodyPost_ret (v := .map (some w.heap.size)) (by simp [results, Try.results63, go_sem]) rfl ⟨rfl, ⟨hm13.lt, g13, hm13, fun k hk => ?_, fun k h1 h2 => ?_⟩, by (exact kpt)⟩
  · have hne : ¬ k = 1 ∧ ¬ k = 2 ∧ ¬ k = 3 ∧ ¬ k = 4 ∧ ¬ k = 5 ∧ ¬ k = 6 ∧ ¬ k = 7 ∧ ¬ k = 8 ∧ ¬ k = 9 ∧ ¬ k = 10 ∧ ¬ k = 11 ∧ ¬ k = 12 ∧ ¬ k = 13 := by omega
    obtain ⟨n1, n2, n3, n4, n5, n6, n7, n8, n9, n10, n11, n12, n13⟩ := hne
    simp only [hG13, hG12, hG11, hG10, hG9, hG8, hG7, hG6, hG5, hG4, hG3, hG2, hG1, hG0, putG, n1, n2, n3, n4, n5, n6, n7, n8, n9, n10, n11, n12, n13, if_false]
  · rcases (by omega : k = 1 ∨ k = 2 ∨ k = 3 ∨ k = 4 ∨ k = 5 ∨ k = 6 ∨ k = 7 ∨ k = 8 ∨ k = 9 ∨ k = 10 ∨ k = 11 ∨ k = 12 ∨ k = 13) with rfl | rfl | rfl | rfl | rfl | rfl | rfl | rfl | rfl | rfl | rfl | rfl | rfl
    · exact ⟨w.heap.size + 1, w.heap.size + 1 + 1, (by have := (bs13.at 19 (by simp)).lt; exact this), (by have := (bs13.at 18 (by simp)).lt; exact this), by simp [hG13, hG12, hG11, hG10, hG9, hG8, hG7, hG6, hG5, hG4, hG3, hG2, hG1, putG, deedV], bs13.at 19 (by simp), fun t ht => by simp [shipTo] at ht; subst ht; exact bs13.at 18 (by simp)⟩
    · exact ⟨w1.heap.size, w1.heap.size, (by have := (bs13.at 17 (by simp)).lt; exact this), (by have := (bs13.at 17 (by simp)).lt; exact this), by simp [hG13, hG12, hG11, hG10, hG9, hG8, hG7, hG6, hG5, hG4, hG3, hG2, hG1, putG, deedV], bs13.at 17 (by simp), fun t ht => by simp [shipTo] at ht⟩
    · exact ⟨w2.heap.size, w2.heap.size, (by have := (bs13.at 16 (by simp)).lt; exact this), (by have := (bs13.at 16 (by simp)).lt; exact this), by simp [hG13, hG12, hG11, hG10, hG9, hG8, hG7, hG6, hG5, hG4, hG3, hG2, hG1, putG, deedV], bs13.at 16 (by simp), fun t ht => by simp [shipTo] at ht⟩
    · exact ⟨w3.heap.size, w3.heap.size, (by have := (bs13.at 15 (by simp)).lt; exact this), (by have := (bs13.at 15 (by simp)).lt; exact this), by simp [hG13, hG12, hG11, hG10, hG9, hG8, hG7, hG6, hG5, hG4, hG3, hG2, hG1, putG, deedV], bs13.at 15 (by simp), fun t ht => by simp [shipTo] at ht⟩
    · exact ⟨w4.heap.size, w4.heap.size + 1, (by have := (bs13.at 14 (by simp)).lt; exact this), (by have := (bs13.at 13 (by simp)).lt; exact this), by simp [hG13, hG12, hG11, hG10, hG9, hG8, hG7, hG6, hG5, hG4, hG3, hG2, hG1, putG, deedV], bs13.at 14 (by simp), fun t ht => by simp [shipTo] at ht; subst ht; exact bs13.at 13 (by simp)⟩
    · exact ⟨w5.heap.size, w5.heap.size + 1, (by have := (bs13.at 12 (by simp)).lt; exact this), (by have := (bs13.at 11 (by simp)).lt; exact this), by simp [hG13, hG12, hG11, hG10, hG9, hG8, hG7, hG6, hG5, hG4, hG3, hG2, hG1, putG, deedV], bs13.at 12 (by simp), fun t ht => by simp [shipTo] at ht; subst ht; exact bs13.at 11 (by simp)⟩
    · exact ⟨w6.heap.size, w6.heap.size, (by have := (bs13.at 10 (by simp)).lt; exact this), (by have := (bs13.at 10 (by simp)).lt; exact this), by simp [hG13, hG12, hG11, hG10, hG9, hG8, hG7, hG6, hG5, hG4, hG3, hG2, hG1, putG, deedV], bs13.at 10 (by simp), fun t ht => by simp [shipTo] at ht⟩
    · exact ⟨w7.heap.size, w7.heap.size, (by have := (bs13.at 9 (by simp)).lt; exact this), (by have := (bs13.at 9 (by simp)).lt; exact this), by simp [hG13, hG12, hG11, hG10, hG9, hG8, hG7, hG6, hG5, hG4, hG3, hG2, hG1, putG, deedV], bs13.at 9 (by simp), fun t ht => by simp [shipTo] at ht⟩
    · exact ⟨w8.heap.size, w8.heap.size, (by have := (bs13.at 8 (by simp)).lt; exact this), (by have := (bs13.at 8 (by simp)).lt; exact this), by simp [hG13, hG12, hG11, hG10, hG9, hG8, hG7, hG6, hG5, hG4, hG3, hG2, hG1, putG, deedV], bs13.at 8 (by simp), fun t ht => by simp [shipTo] at ht⟩
    · exact ⟨w9.heap.size, w9.heap.size + 1, (by have := (bs13.at 7 (by simp)).lt; exact this), (by have := (bs13.at 6 (by simp)).lt; exact this), by simp [hG13, hG12, hG11, hG10, hG9, hG8, hG7, hG6, hG5, hG4, hG3, hG2, hG1, putG, deedV], bs13.at 7 (by simp), fun t ht => by simp [shipTo] at ht; subst ht; exact bs13.at 6 (by simp)⟩
    · exact ⟨w10.heap.size, w10.heap.size + 1, (by have := (bs13.at 5 (by simp)).lt; exact this), (by have := (bs13.at 4 (by simp)).lt; exact this), by simp [hG13, hG12, hG11, hG10, hG9, hG8, hG7, hG6, hG5, hG4, hG3, hG2, hG1, putG, deedV], bs13.at 5 (by simp), fun t ht => by simp [shipTo] at ht; subst ht; exact bs13.at 4 (by simp)⟩
    · exact ⟨w11.heap.size, w11.heap.size + 1, (by have := (bs13.at 3 (by simp)).lt; exact this), (by have := (bs13.at 2 (by simp)).lt; exact this), by simp [hG13, hG12, hG11, hG10, hG9, hG8, hG7, hG6, hG5, hG4, hG3, hG2, hG1, putG, deedV], bs13.at 3 (by simp), fun t ht => by simp [shipTo] at ht; subst ht; exact bs13.at 2 (by simp)⟩
    · exact ⟨w12.heap.size, w12.heap.size + 1, (by have := (bs13.at 1 (by simp)).lt; exact this), (by have := (bs13.at 0 (by simp)).lt; exact this), by simp [hG13, hG12, hG11, hG10, hG9, hG8, hG7, hG6, hG5, hG4, hG3, hG2, hG1, putG, deedV], bs13.at 1 (by simp), fun t ht => by simp [shipTo] at ht; subst ht; exact bs13.at 0 (by simp)⟩

end Go.Proofs.Ytacbkbilbmkjnaa

/-
  Trying an act: its rules, and what it does.
-/
namespace Go.Proofs.Ytacbkbilbmkjnaa
open Go.RowKit Bal Bal.Trim Bal.Mast
set_option linter.unusedVariables false
set_option linter.unusedSimpArgs false
set_option maxHeartbeats 4000000
set_option maxRecDepth 10000

/-- a rule of an act at a dock in block n: what it answers, in the worlds behind w -/
def RuleOk (a : Option Addr) (c : Nat) (e : Option Addr) (d : Nat) (p : Port) (k : Dock) (n : Nat) (w : World) (F : FuncId) (V : Bool) : Prop :=
  (∀ (args : Array Value) (w : World), (callFunc F args).run Try.prog w = .ok (.enter F args) w) ∧
  ∀ w', Below n w w' → Blk w' n (dockCells a c e d p k) 126 → Calls Try.prog F #[.pointer (some ⟨n, 0, none⟩)] w' fun z w'' => z = .returned (.bool V) ∧ Kept w' w''
/-- what an act does -/
def ActOk (a : Option Addr) (c : Nat) (e : Option Addr) (d : Nat) (p : Port) (k : Dock) (n : Nat) (w : World) (G : FuncId) (cs : Array Value) (b : Berth) : Prop :=
  (∀ (args : Array Value) (w : World), (callFunc G args).run Try.prog w = .ok (.enter G args) w) ∧
  ∀ w', Below n w w' → Blk w' n (dockCells a c e d p k) 126 → Calls Try.prog G (#[.pointer (some ⟨n, 0, none⟩)] ++ cs) w' fun z w'' => z = .returned (.tuple #[]) ∧ Blk w'' n (dockCells a c e d p { k with b := b }) 126 ∧ Below n w' w''
theorem field0 (v u : Value) (w : World) : (Instr.field 122 (.agg #[v, u]) 0).run Try.prog w = .ok v w := by kernel_rfl
theorem field1 (v u : Value) (w : World) : (Instr.field 122 (.agg #[v, u]) 1).run Try.prog w = .ok u w := by kernel_rfl
attribute [local go_sem] field0 field1
def ruleV (f : FuncId) : Value := .func (.func f) #[] #[]

theorem f_tryN (a : Option Addr) (c : Nat) (e : Option Addr) (d : Nat) (p : Port) (k : Dock) (n : Nat) (N : Int) (w : World) (hd : Blk w n (dockCells a c e d p k) 126)
    (t : Int) (ht : 0 ≤ t ∧ t ≤ 255) (M : Nat) (g : Int → Option Value) (hI : InMap Try.prog 5 w M 13 (litF g)) (hMn : M < n) (b : Nat) (hbn : b < n) (fs : List FuncId) (Vs : List Bool) (hl : Vs.length = fs.length) (h4 : fs.length ≤ 4) (G : FuncId)
    (hg : g t = some (.agg #[.slice (some ⟨b, 0, none⟩) fs.length fs.length, .func (.func G) #[] #[]])) (hr : Blk w b (fs.map ruleV).toArray 158) (B : Berth)
    (hrules : ∀ (i : Nat) (hi : i < fs.length), RuleOk a c e d p { k with n := N } n w fs[i] (Vs[i]'(by omega))) (hact : ActOk a c e d p { k with n := N } n w G #[] B) :
    Calls Try.prog 65 #[.pointer (some ⟨n, 0, none⟩), .agg #[.int .u8 t, .int .i64 N], .map (some M)] w fun z w' => z = .returned (.int .i64 (firstNot Vs 0)) ∧ (firstNot Vs 0 = 0 → Blk w' n (dockCells a c e d p { k with b := B, n := N }) 126) ∧ (firstNot Vs 0 ≠ 0 → Blk w' n (dockCells a c e d p { k with n := N }) 126) ∧ Below n w w' := by
  have hnl := hd.lt
  have q := hd
  unfold dockCells at q
  have qc15 := q.cell 15
  have qf15 := q.free 15
  have ql := q.lt
  simp at qc15
  have HV := Lib.hid (show (litF g (.int .u8 t)).getD (.agg #[.slice none 0 0, .nilFunc]) = .agg #[.slice (some ⟨b, 0, none⟩) fs.length fs.length, .func (.func G) #[] #[]] by show (g t).getD _ = _; rw [hg]; rfl)
  have HR := Lib.hid hrules
  have HA := Lib.hid hact.2
  have hcg := hact.1
  clear hrules hg hact
  go_enter Try.func65, Try.ntmps65
  go_upto_region 1 with fail
  go_upto_region 2 with fail
  refine at_world (S := fun V => Blk V n (dockCells a c e d p { k with n := N }) 126 ∧ Blk V w.heap.size #[.int .u8 t, .int .i64 N] 61 ∧ Below n w V) ⟨Blk.cast ((hd.set 15 _).alloc _) (by simp [dockCells]), by (exact blk), Below.alloc (Below.setCell (Below.refl n w) (Nat.le_refl n) _) (by simp; omega) _⟩ ?_
  clear q qc15 qf15 ql
  rintro W ⟨rd, ra, hk⟩
  have rac0 := ra.cell 0
  have raf0 := ra.free 0
  have rac1 := ra.cell 1
  have raf1 := ra.free 1
  have ral := ra.lt
  simp at rac0 rac1
  go_wp2_with (at_lookup; refine wpList_look_map _ rfl _ _ 117 rfl 5 122 keyedU8 Try.underlying117 _ (zeroDeed _) M _ (litF g) rfl (hI.below (by (repeat (first | with_reducible assumption | with_reducible exact Below.refl _ _ | ((with_reducible refine Below.setCell ?_ ?_ _); rotate_left 1; (focus (first | exact Nat.le_refl _ | (simp; done) | (simp; omega))))))) hMn) _ (.int .u8 t) rfl (keyU8 (by omega)) (.agg #[.slice (some ⟨b, 0, none⟩) fs.length fs.length, .func (.func G) #[] #[]]) HV.out ?_)
  go_loopw [20] (fun i wr => ∃ j : Nat, j ≤ fs.length ∧ i = .int .i64 j ∧ (∀ q (hq : q < j) (hq2 : q < Vs.length), Vs[q] = true) ∧ Blk wr n (dockCells a c e d p { k with n := N }) 126 ∧ Blk wr w.heap.size #[.int .u8 t, .int .i64 N] 61 ∧ Below n w wr) (fun i _ => fs.length - (intOf i).toNat)
  case atStart => exact ⟨0, Nat.zero_le _, rfl, fun q hq => by omega, rd, ra, hk⟩
  case round =>
    clear rd ra hk rac0 rac1 raf0 raf1 ral
    obtain ⟨j, hj, rfl, hall, rd, ra, hk⟩ := hrel
    have hz : w.heap.size < wr.heap.size := ra.lt
    by_cases hlt : j < fs.length
    · have hjv : j < Vs.length := by omega
      obtain ⟨hcf, hF⟩ := HR.out j hlt
      have HF := Lib.hid hF
      clear hF
      have hr2 : Blk wr b (fs.map ruleV).toArray 158 := hr.lower hk hbn
      have rcj := hr2.cell j
      have rbl := hr2.lt
      have rcj2 : wr.cell? ⟨b, j, none⟩ = some (.func (.func fs[j]) #[] #[]) := by rw [rcj]; simp [hlt, ruleV]
      obtain ⟨F, hFf⟩ : ∃ F, F = fs[j] := ⟨_, rfl⟩
      rw [← hFf] at hcf HF rcj2
      have HALL := Lib.hid hall
      obtain ⟨V, hV⟩ : ∃ V, V = Vs[j] := ⟨_, rfl⟩
      have HVV := Lib.hid hV
      rw [← hV] at HF
      clear hFf hr2 rcj hV hall
      have j0 : (0 : Int) ≤ (j : Int) := by omega
      have j1 : (j : Int) < (fs.length : Int) := by omega
      cases V with
      | false =>
        have HRES := Lib.hid (show firstNot Vs 0 = ((j + 1 : Nat) : Int) by rw [firstNot_at hjv (fun q hq => HALL.out q hq (by omega)) HVV.out.symm]; simp)
        go_wp2_with ((with_reducible refine (HF.out _ (by (repeat (first | with_reducible assumption | with_reducible exact Below.refl _ _ | ((with_reducible refine Below.setCell ?_ ?_ _); rotate_left 1; (focus (first | exact Nat.le_refl _ | (simp; done) | (simp; omega))))))) (by (exact blk))).mono ?_); rintro z w5 ⟨rfl, hb5⟩)
        exact bodyPost_ret (v := .int .i64 (firstNot Vs 0)) (by rw [HRES.out]; first | (simp [results, Try.results65, go_sem]; done) | (simp [results, Try.results65, go_sem]; omega)) rfl ⟨rfl, fun h => by rw [HRES.out] at h; omega, fun _ => by (exact blk), Below.trans hk (hb5.mono (Nat.le_of_lt rd.lt))⟩
      | true =>
        go_wp2_with ((with_reducible refine (HF.out _ (by (repeat (first | with_reducible assumption | with_reducible exact Below.refl _ _ | ((with_reducible refine Below.setCell ?_ ?_ _); rotate_left 1; (focus (first | exact Nat.le_refl _ | (simp; done) | (simp; omega))))))) (by (exact blk))).mono ?_); rintro z w5 ⟨rfl, hb5⟩)
        go_roundw
        case rel => exact ⟨j + 1, by omega, by go_num, fun q hq hq2 => (Nat.lt_or_ge q j).elim (fun h => HALL.out q h hq2) (fun h => (by obtain rfl : q = j := (by omega); exact HVV.out.symm)), by (exact blk), by (exact blk), Below.trans hk (hb5.mono (Nat.le_of_lt rd.lt))⟩
        case measure => simp [intOf]; omega
    · obtain rfl : fs.length = j := by omega
      have HRES := Lib.hid (show firstNot Vs 0 = 0 from firstNot_all (fun x hx => by
        obtain ⟨i, hi, rfl⟩ := List.mem_iff_getElem.1 hx
        exact hall i (by omega) hi))
      clear hall
      have rac0 := ra.cell 0
      have raf0 := ra.free 0
      have rac1 := ra.cell 1
      have raf1 := ra.free 1
      have ral := ra.lt
      simp at rac0 rac1
      have HA2 := Lib.hid (show Calls Try.prog G #[.pointer (some ⟨n, 0, none⟩)] wr _ from HA.out wr hk rd)
      go_wp2_with (first | (at_lookup; refine wpList_look_map _ rfl _ _ 117 rfl 5 122 keyedU8 Try.underlying117 _ (zeroDeed _) M _ (litF g) rfl (hI.below (by (repeat (first | with_reducible assumption | with_reducible exact Below.refl _ _ | ((with_reducible refine Below.setCell ?_ ?_ _); rotate_left 1; (focus (first | exact Nat.le_refl _ | (simp; done) | (simp; omega))))))) hMn) _ (.int .u8 t) rfl (keyU8 (by omega)) (.agg #[.slice (some ⟨b, 0, none⟩) fs.length fs.length, .func (.func G) #[] #[]]) HV.out ?_) | ((with_reducible refine (HA2.out).mono ?_); rintro z w5 ⟨rfl, hb5, hk5⟩))
      exact bodyPost_ret (v := .int .i64 (firstNot Vs 0)) (by rw [HRES.out]; simp [results, Try.results65, go_sem]) rfl ⟨rfl, fun _ => hb5, fun h => absurd HRES.out h, Below.trans hk hk5⟩

theorem f_tryS (a : Option Addr) (c : Nat) (e : Option Addr) (d : Nat) (p : Port) (k : Dock) (n : Nat) (N : Int) (w : World) (hd : Blk w n (dockCells a c e d p k) 126)
    (t : Int) (ht : 0 ≤ t ∧ t ≤ 255) (M : Nat) (g : Int → Option Value) (hI : InMap Try.prog 5 w M 13 (litF g)) (hMn : M < n) (b : Nat) (hbn : b < n) (fs : List FuncId) (Vs : List Bool) (hl : Vs.length = fs.length) (h4 : fs.length ≤ 4) (G : FuncId) (s : Nat) (hsn : s < n)
    (hg : g t = some (.agg #[.slice (some ⟨b, 0, none⟩) fs.length fs.length, .func (.func G) #[] #[.pointer (some ⟨s, 0, none⟩)]])) (hr : Blk w b (fs.map ruleV).toArray 158) (B : Berth)
    (hrules : ∀ (i : Nat) (hi : i < fs.length), RuleOk a c e d p { k with n := N } n w fs[i] (Vs[i]'(by omega))) (hact : ActOk a c e d p { k with n := N } n w G #[.pointer (some ⟨s, 0, none⟩)] B) :
    Calls Try.prog 65 #[.pointer (some ⟨n, 0, none⟩), .agg #[.int .u8 t, .int .i64 N], .map (some M)] w fun z w' => z = .returned (.int .i64 (firstNot Vs 0)) ∧ (firstNot Vs 0 = 0 → Blk w' n (dockCells a c e d p { k with b := B, n := N }) 126) ∧ (firstNot Vs 0 ≠ 0 → Blk w' n (dockCells a c e d p { k with n := N }) 126) ∧ Below n w w' := by
  have hnl := hd.lt
  have q := hd
  unfold dockCells at q
  have qc15 := q.cell 15
  have qf15 := q.free 15
  have ql := q.lt
  simp at qc15
  have HV := Lib.hid (show (litF g (.int .u8 t)).getD (.agg #[.slice none 0 0, .nilFunc]) = .agg #[.slice (some ⟨b, 0, none⟩) fs.length fs.length, .func (.func G) #[] #[.pointer (some ⟨s, 0, none⟩)]] by show (g t).getD _ = _; rw [hg]; rfl)
  have HR := Lib.hid hrules
  have HA := Lib.hid hact.2
  have hcg := hact.1
  clear hrules hg hact
  go_enter Try.func65, Try.ntmps65
  go_upto_region 1 with fail
  go_upto_region 2 with fail
  refine at_world (S := fun V => Blk V n (dockCells a c e d p { k with n := N }) 126 ∧ Blk V w.heap.size #[.int .u8 t, .int .i64 N] 61 ∧ Below n w V) ⟨Blk.cast ((hd.set 15 _).alloc _) (by simp [dockCells]), by (exact blk), Below.alloc (Below.setCell (Below.refl n w) (Nat.le_refl n) _) (by simp; omega) _⟩ ?_
  clear q qc15 qf15 ql
  rintro W ⟨rd, ra, hk⟩
  have rac0 := ra.cell 0
  have raf0 := ra.free 0
  have rac1 := ra.cell 1
  have raf1 := ra.free 1
  have ral := ra.lt
  simp at rac0 rac1
  go_wp2_with (at_lookup; refine wpList_look_map _ rfl _ _ 117 rfl 5 122 keyedU8 Try.underlying117 _ (zeroDeed _) M _ (litF g) rfl (hI.below (by (repeat (first | with_reducible assumption | with_reducible exact Below.refl _ _ | ((with_reducible refine Below.setCell ?_ ?_ _); rotate_left 1; (focus (first | exact Nat.le_refl _ | (simp; done) | (simp; omega))))))) hMn) _ (.int .u8 t) rfl (keyU8 (by omega)) (.agg #[.slice (some ⟨b, 0, none⟩) fs.length fs.length, .func (.func G) #[] #[.pointer (some ⟨s, 0, none⟩)]]) HV.out ?_)
  go_loopw [20] (fun i wr => ∃ j : Nat, j ≤ fs.length ∧ i = .int .i64 j ∧ (∀ q (hq : q < j) (hq2 : q < Vs.length), Vs[q] = true) ∧ Blk wr n (dockCells a c e d p { k with n := N }) 126 ∧ Blk wr w.heap.size #[.int .u8 t, .int .i64 N] 61 ∧ Below n w wr) (fun i _ => fs.length - (intOf i).toNat)
  case atStart => exact ⟨0, Nat.zero_le _, rfl, fun q hq => by omega, rd, ra, hk⟩
  case round =>
    clear rd ra hk rac0 rac1 raf0 raf1 ral
    obtain ⟨j, hj, rfl, hall, rd, ra, hk⟩ := hrel
    have hz : w.heap.size < wr.heap.size := ra.lt
    by_cases hlt : j < fs.length
    · have hjv : j < Vs.length := by omega
      obtain ⟨hcf, hF⟩ := HR.out j hlt
      have HF := Lib.hid hF
      clear hF
      have hr2 : Blk wr b (fs.map ruleV).toArray 158 := hr.lower hk hbn
      have rcj := hr2.cell j
      have rbl := hr2.lt
      have rcj2 : wr.cell? ⟨b, j, none⟩ = some (.func (.func fs[j]) #[] #[]) := by rw [rcj]; simp [hlt, ruleV]
      obtain ⟨F, hFf⟩ : ∃ F, F = fs[j] := ⟨_, rfl⟩
      rw [← hFf] at hcf HF rcj2
      have HALL := Lib.hid hall
      obtain ⟨V, hV⟩ : ∃ V, V = Vs[j] := ⟨_, rfl⟩
      have HVV := Lib.hid hV
      rw [← hV] at HF
      clear hFf hr2 rcj hV hall
      have j0 : (0 : Int) ≤ (j : Int) := by omega
      have j1 : (j : Int) < (fs.length : Int) := by omega
      cases V with
      | false =>
        have HRES := Lib.hid (show firstNot Vs 0 = ((j + 1 : Nat) : Int) by rw [firstNot_at hjv (fun q hq => HALL.out q hq (by omega)) HVV.out.symm]; simp)
        go_wp2_with ((with_reducible refine (HF.out _ (by (repeat (first | with_reducible assumption | with_reducible exact Below.refl _ _ | ((with_reducible refine Below.setCell ?_ ?_ _); rotate_left 1; (focus (first | exact Nat.le_refl _ | (simp; done) | (simp; omega))))))) (by (exact blk))).mono ?_); rintro z w5 ⟨rfl, hb5⟩)
        exact bodyPost_ret (v := .int .i64 (firstNot Vs 0)) (by rw [HRES.out]; first | (simp [results, Try.results65, go_sem]; done) | (simp [results, Try.results65, go_sem]; omega)) rfl ⟨rfl, fun h => by rw [HRES.out] at h; omega, fun _ => by (exact blk), Below.trans hk (hb5.mono (Nat.le_of_lt rd.lt))⟩
      | true =>
        go_wp2_with ((with_reducible refine (HF.out _ (by (repeat (first | with_reducible assumption | with_reducible exact Below.refl _ _ | ((with_reducible refine Below.setCell ?_ ?_ _); rotate_left 1; (focus (first | exact Nat.le_refl _ | (simp; done) | (simp; omega))))))) (by (exact blk))).mono ?_); rintro z w5 ⟨rfl, hb5⟩)
        go_roundw
        case rel => exact ⟨j + 1, by omega, by go_num, fun q hq hq2 => (Nat.lt_or_ge q j).elim (fun h => HALL.out q h hq2) (fun h => (by obtain rfl : q = j := (by omega); exact HVV.out.symm)), by (exact blk), by (exact blk), Below.trans hk (hb5.mono (Nat.le_of_lt rd.lt))⟩
        case measure => simp [intOf]; omega
    · obtain rfl : fs.length = j := by omega
      have HRES := Lib.hid (show firstNot Vs 0 = 0 from firstNot_all (fun x hx => by
        obtain ⟨i, hi, rfl⟩ := List.mem_iff_getElem.1 hx
        exact hall i (by omega) hi))
      clear hall
      have rac0 := ra.cell 0
      have raf0 := ra.free 0
      have rac1 := ra.cell 1
      have raf1 := ra.free 1
      have ral := ra.lt
      simp at rac0 rac1
      have HA2 := Lib.hid (show Calls Try.prog G #[.pointer (some ⟨n, 0, none⟩), .pointer (some ⟨s, 0, none⟩)] wr _ from HA.out wr hk rd)
      go_wp2_with (first | (at_lookup; refine wpList_look_map _ rfl _ _ 117 rfl 5 122 keyedU8 Try.underlying117 _ (zeroDeed _) M _ (litF g) rfl (hI.below (by (repeat (first | with_reducible assumption | with_reducible exact Below.refl _ _ | ((with_reducible refine Below.setCell ?_ ?_ _); rotate_left 1; (focus (first | exact Nat.le_refl _ | (simp; done) | (simp; omega))))))) hMn) _ (.int .u8 t) rfl (keyU8 (by omega)) (.agg #[.slice (some ⟨b, 0, none⟩) fs.length fs.length, .func (.func G) #[] #[.pointer (some ⟨s, 0, none⟩)]]) HV.out ?_) | ((with_reducible refine (HA2.out).mono ?_); rintro z w5 ⟨rfl, hb5, hk5⟩))
      exact bodyPost_ret (v := .int .i64 (firstNot Vs 0)) (by rw [HRES.out]; simp [results, Try.results65, go_sem]) rfl ⟨rfl, fun _ => hb5, fun h => absurd HRES.out h, Below.trans hk hk5⟩

theorem rule_away (a : Option Addr) (c : Nat) (e : Option Addr) (d : Nat) (p : Port) (k : Dock) (n : Nat) (w : World) : RuleOk a c e d p k n w 100 (away k) := ⟨fun _ _ => by kernel_rfl, fun w' _ hd => m_away a c e d p k n w' hd⟩
theorem rule_reached (a : Option Addr) (c : Nat) (e : Option Addr) (d : Nat) (p : Port) (k : Dock) (n : Nat) (w : World) : RuleOk a c e d p k n w 102 (reached k) := ⟨fun _ _ => by kernel_rfl, fun w' _ hd => m_reached a c e d p k n w' hd⟩
theorem rule_loose (a : Option Addr) (c : Nat) (e : Option Addr) (d : Nat) (p : Port) (k : Dock) (n : Nat) (w : World) : RuleOk a c e d p k n w 69 (loose k) := ⟨fun _ _ => by kernel_rfl, fun w' _ hd => m_loose a c e d p k n w' hd⟩
theorem rule_crew (a : Option Addr) (c : Nat) (e : Option Addr) (d : Nat) (p : Port) (k : Dock) (n : Nat) (w : World) : RuleOk a c e d p k n w 103 (crew p k) := ⟨fun _ _ => by kernel_rfl, fun w' _ hd => m_crew a c e d p k n w' hd⟩
theorem rule_tied (a : Option Addr) (c : Nat) (e : Option Addr) (d : Nat) (p : Port) (k : Dock) (n : Nat) (w : World) : RuleOk a c e d p k n w 74 (tied k) := ⟨fun _ _ => by kernel_rfl, fun w' _ hd => m_tied a c e d p k n w' hd⟩
theorem rule_bare (a : Option Addr) (c : Nat) (e : Option Addr) (d : Nat) (p : Port) (k : Dock) (n : Nat) (w : World) : RuleOk a c e d p k n w 106 (bare k) := ⟨fun _ _ => by kernel_rfl, fun w' _ hd => m_bare a c e d p k n w' hd⟩
theorem rule_held (a : Option Addr) (c : Nat) (e : Option Addr) (d : Nat) (p : Port) (k : Dock) (n : Nat) (w : World) : RuleOk a c e d p k n w 107 (gripped k) := ⟨fun _ _ => by kernel_rfl, fun w' _ hd => m_held a c e d p k n w' hd⟩
theorem rule_lined (a : Option Addr) (c : Nat) (e : Option Addr) (d : Nat) (p : Port) (k : Dock) (n : Nat) (w : World) : RuleOk a c e d p k n w 71 (lined k) := ⟨fun _ _ => by kernel_rfl, fun w' _ hd => m_lined a c e d p k n w' hd⟩
theorem rule_wired (a : Option Addr) (c : Nat) (e : Option Addr) (d : Nat) (p : Port) (k : Dock) (n : Nat) (w : World) : RuleOk a c e d p k n w 70 (wired k) := ⟨fun _ _ => by kernel_rfl, fun w' _ hd => m_wired a c e d p k n w' hd⟩
theorem rule_masted (a : Option Addr) (c : Nat) (e : Option Addr) (d : Nat) (p : Port) (k : Dock) (n : Nat) (w : World) : RuleOk a c e d p k n w 110 (masted k) := ⟨fun _ _ => by kernel_rfl, fun w' _ hd => m_masted a c e d p k n w' hd⟩
theorem rule_shut (a : Option Addr) (c : Nat) (e : Option Addr) (d : Nat) (p : Port) (k : Dock) (n : Nat) (w : World) : RuleOk a c e d p k n w 73 (shut k) := ⟨fun _ _ => by kernel_rfl, fun w' _ hd => m_shut a c e d p k n w' hd⟩
theorem rule_open (a : Option Addr) (c : Nat) (e : Option Addr) (d : Nat) (p : Port) (k : Dock) (n : Nat) (w : World) : RuleOk a c e d p k n w 112 (opened k) := ⟨fun _ _ => by kernel_rfl, fun w' _ hd => m_open a c e d p k n w' hd⟩
theorem rule_still (a : Option Addr) (c : Nat) (e : Option Addr) (d : Nat) (p : Port) (k : Dock) (n : Nat) (w : World) : RuleOk a c e d p k n w 75 (still k) := ⟨fun _ _ => by kernel_rfl, fun w' _ hd => m_still a c e d p k n w' hd⟩
theorem rule_other (a : Option Addr) (c : Nat) (e : Option Addr) (d : Nat) (p : Port) (k : Dock) (n : Nat) (w : World) (hp : portB p = true) : RuleOk a c e d p k n w 114 (elsewhere p k) := ⟨fun _ _ => by kernel_rfl, fun w' _ hd => m_other a c e d p k n w' hd (portB_bd hp).1.2⟩
theorem rule_quiet (a : Option Addr) (c : Nat) (e : Option Addr) (d : Nat) (p : Port) (k : Dock) (n : Nat) (w : World) (hx : Row Axis.cells 2 n w a p.axes) (hp : portB p = true) (hw : windB k.wind = true) (h0 : 0 ≤ k.b.axis) (h1 : k.b.axis < p.axes.length) : RuleOk a c e d p k n w 116 (quiet p k) := ⟨fun _ _ => by kernel_rfl, fun w' hb hd => m_quiet a c e d p k n w' hd ((hx.keep hb (Nat.le_refl _)).up (Nat.le_of_lt hd.lt)) hp hw h0 h1⟩
theorem rule_walking (a : Option Addr) (c : Nat) (e : Option Addr) (d : Nat) (p : Port) (k : Dock) (n : Nat) (w : World) : RuleOk a c e d p k n w 72 (walking k) := ⟨fun _ _ => by kernel_rfl, fun w' _ hd => m_walking a c e d p k n w' hd⟩
theorem rule_housed (a : Option Addr) (c : Nat) (e : Option Addr) (d : Nat) (p : Port) (k : Dock) (n : Nat) (w : World) : RuleOk a c e d p k n w 117 (housed k) := ⟨fun _ _ => by kernel_rfl, fun w' _ hd => m_housed a c e d p k n w' hd⟩
theorem act_2 (a : Option Addr) (c : Nat) (e : Option Addr) (d : Nat) (p : Port) (k : Dock) (n : Nat) (w : World) : ActOk a c e d p k n w 104 #[] { k.b with held := k.n, ship := if fast k then k.b.ship else 2 } := ⟨fun _ _ => by kernel_rfl, fun w' _ hd => a_2 a c e d p k n w' hd⟩
theorem act_3 (a : Option Addr) (c : Nat) (e : Option Addr) (d : Nat) (p : Port) (k : Dock) (n : Nat) (w : World) : ActOk a c e d p k n w 108 #[] { k.b with held := 0, ship := if fast k then k.b.ship else 1 } := ⟨fun _ _ => by kernel_rfl, fun w' _ hd => a_3 a c e d p k n w' hd⟩
theorem act_4 (a : Option Addr) (c : Nat) (e : Option Addr) (d : Nat) (p : Port) (k : Dock) (n : Nat) (w : World) : ActOk a c e d p k n w 109 #[] { k.b with wire := true } := ⟨fun _ _ => by kernel_rfl, fun w' _ hd => a_4 a c e d p k n w' hd⟩
theorem act_5 (a : Option Addr) (c : Nat) (e : Option Addr) (d : Nat) (p : Port) (k : Dock) (n : Nat) (w : World) : ActOk a c e d p k n w 111 #[] { k.b with opn := true } := ⟨fun _ _ => by kernel_rfl, fun w' _ hd => a_5 a c e d p k n w' hd⟩
theorem act_6 (a : Option Addr) (c : Nat) (e : Option Addr) (d : Nat) (p : Port) (k : Dock) (n : Nat) (w : World) : ActOk a c e d p k n w 113 #[] { k.b with opn := false } := ⟨fun _ _ => by kernel_rfl, fun w' _ hd => a_6 a c e d p k n w' hd⟩
theorem act_7 (a : Option Addr) (c : Nat) (e : Option Addr) (d : Nat) (p : Port) (k : Dock) (n : Nat) (w : World) : ActOk a c e d p k n w 115 #[] { k.b with axis := k.n } := ⟨fun _ _ => by kernel_rfl, fun w' _ hd => a_7 a c e d p k n w' hd⟩
theorem act_ship (a : Option Addr) (c : Nat) (e : Option Addr) (d : Nat) (p : Port) (k : Dock) (n : Nat) (w : World) (s : Int) (m : Nat) (hm : Blk w m #[.int .u8 s] 5) (hmn : m < n) : ActOk a c e d p k n w 127 #[.pointer (some ⟨m, 0, none⟩)] (toShip s k.b) := ⟨fun _ _ => by kernel_rfl, fun w' hb hd => a_ship a c e d p k n w' hd s m (hm.lower hb hmn)⟩
theorem f_try (a : Option Addr) (c : Nat) (e : Option Addr) (d : Nat) (p : Port) (k : Dock) (n : Nat) (t N : Int) (w : World) (hd : Blk w n (dockCells a c e d p k) 126) (M B : Nat) (hT : Table w B M) (hBn : B ≤ n)
    (hx : Row Axis.cells 2 n w a p.axes) (hp : portB p = true) (hw : windB k.wind = true) (hax : 0 ≤ k.b.axis ∧ k.b.axis < p.axes.length) (ht : 1 ≤ t ∧ t ≤ 13) :
    Calls Try.prog 65 #[.pointer (some ⟨n, 0, none⟩), .agg #[.int .u8 t, .int .i64 N], .map (some M)] w fun z w' => z = .returned (.int .i64 (tryR p { k with n := N } t)) ∧ (tryR p { k with n := N } t = 0 → Blk w' n (dockCells a c e d p { k with b := doneB { k with n := N } t, n := N }) 126) ∧ (tryR p { k with n := N } t ≠ 0 → Blk w' n (dockCells a c e d p { k with n := N }) 126) ∧ Below n w w' := by
  obtain ⟨hMB, g, hI, _, h4⟩ := hT
  have hMn : M < n := by omega
  rcases (by omega : t = 1 ∨ t = 2 ∨ t = 3 ∨ t = 4 ∨ t = 5 ∨ t = 6 ∨ t = 7 ∨ t = 8 ∨ t = 9 ∨ t = 10 ∨ t = 11 ∨ t = 12 ∨ t = 13) with rfl | rfl | rfl | rfl | rfl | rfl | rfl | rfl | rfl | rfl | rfl | rfl | rfl
  · obtain ⟨b, s, hb, hs, hg, hr, hsh⟩ := h4 1 (by omega) (by omega)
    have hbn : b < n := by omega
    exact f_tryS a c e d p k n N w hd 1 (by omega) M g hI hMn b hbn [100] (rulesOf p { k with n := N } 1) rfl (by decide) 127 s (by omega) hg hr (doneB { k with n := N } 1)
        (fun i hi => match i, hi with
        | 0, _ => rule_away _ _ _ _ _ _ _ _
        | i + 1, hi => absurd hi (by simp)) (act_ship _ _ _ _ _ _ _ _ 1 s (hsh 1 rfl) (by omega))
  · obtain ⟨b, s, hb, hs, hg, hr, hsh⟩ := h4 2 (by omega) (by omega)
    have hbn : b < n := by omega
    exact f_tryN a c e d p k n N w hd 2 (by omega) M g hI hMn b hbn [102, 69, 103] (rulesOf p { k with n := N } 2) rfl (by decide) 104 hg hr (doneB { k with n := N } 2)
        (fun i hi => match i, hi with
        | 0, _ => rule_reached _ _ _ _ _ _ _ _
        | 1, _ => rule_loose _ _ _ _ _ _ _ _
        | 2, _ => rule_crew _ _ _ _ _ _ _ _
        | i + 3, hi => absurd hi (by simp)) (act_2 _ _ _ _ _ _ _ _)
  · obtain ⟨b, s, hb, hs, hg, hr, hsh⟩ := h4 3 (by omega) (by omega)
    have hbn : b < n := by omega
    exact f_tryN a c e d p k n N w hd 3 (by omega) M g hI hMn b hbn [74, 106, 107] (rulesOf p { k with n := N } 3) rfl (by decide) 108 hg hr (doneB { k with n := N } 3)
        (fun i hi => match i, hi with
        | 0, _ => rule_tied _ _ _ _ _ _ _ _
        | 1, _ => rule_bare _ _ _ _ _ _ _ _
        | 2, _ => rule_held _ _ _ _ _ _ _ _
        | i + 3, hi => absurd hi (by simp)) (act_3 _ _ _ _ _ _ _ _)
  · obtain ⟨b, s, hb, hs, hg, hr, hsh⟩ := h4 4 (by omega) (by omega)
    have hbn : b < n := by omega
    exact f_tryN a c e d p k n N w hd 4 (by omega) M g hI hMn b hbn [71, 106] (rulesOf p { k with n := N } 4) rfl (by decide) 109 hg hr (doneB { k with n := N } 4)
        (fun i hi => match i, hi with
        | 0, _ => rule_lined _ _ _ _ _ _ _ _
        | 1, _ => rule_bare _ _ _ _ _ _ _ _
        | i + 2, hi => absurd hi (by simp)) (act_4 _ _ _ _ _ _ _ _)
  · obtain ⟨b, s, hb, hs, hg, hr, hsh⟩ := h4 5 (by omega) (by omega)
    have hbn : b < n := by omega
    exact f_tryS a c e d p k n N w hd 5 (by omega) M g hI hMn b hbn [71, 70] (rulesOf p { k with n := N } 5) rfl (by decide) 127 s (by omega) hg hr (doneB { k with n := N } 5)
        (fun i hi => match i, hi with
        | 0, _ => rule_lined _ _ _ _ _ _ _ _
        | 1, _ => rule_wired _ _ _ _ _ _ _ _
        | i + 2, hi => absurd hi (by simp)) (act_ship _ _ _ _ _ _ _ _ 3 s (hsh 3 rfl) (by omega))
  · obtain ⟨b, s, hb, hs, hg, hr, hsh⟩ := h4 6 (by omega) (by omega)
    have hbn : b < n := by omega
    exact f_tryS a c e d p k n N w hd 6 (by omega) M g hI hMn b hbn [110, 69] (rulesOf p { k with n := N } 6) rfl (by decide) 127 s (by omega) hg hr (doneB { k with n := N } 6)
        (fun i hi => match i, hi with
        | 0, _ => rule_masted _ _ _ _ _ _ _ _
        | 1, _ => rule_loose _ _ _ _ _ _ _ _
        | i + 2, hi => absurd hi (by simp)) (act_ship _ _ _ _ _ _ _ _ 0 s (hsh 0 rfl) (by omega))
  · obtain ⟨b, s, hb, hs, hg, hr, hsh⟩ := h4 7 (by omega) (by omega)
    have hbn : b < n := by omega
    exact f_tryN a c e d p k n N w hd 7 (by omega) M g hI hMn b hbn [73] (rulesOf p { k with n := N } 7) rfl (by decide) 111 hg hr (doneB { k with n := N } 7)
        (fun i hi => match i, hi with
        | 0, _ => rule_shut _ _ _ _ _ _ _ _
        | i + 1, hi => absurd hi (by simp)) (act_5 _ _ _ _ _ _ _ _)
  · obtain ⟨b, s, hb, hs, hg, hr, hsh⟩ := h4 8 (by omega) (by omega)
    have hbn : b < n := by omega
    exact f_tryN a c e d p k n N w hd 8 (by omega) M g hI hMn b hbn [112, 75] (rulesOf p { k with n := N } 8) rfl (by decide) 113 hg hr (doneB { k with n := N } 8)
        (fun i hi => match i, hi with
        | 0, _ => rule_open _ _ _ _ _ _ _ _
        | 1, _ => rule_still _ _ _ _ _ _ _ _
        | i + 2, hi => absurd hi (by simp)) (act_6 _ _ _ _ _ _ _ _)
  · obtain ⟨b, s, hb, hs, hg, hr, hsh⟩ := h4 9 (by omega) (by omega)
    have hbn : b < n := by omega
    exact f_tryN a c e d p k n N w hd 9 (by omega) M g hI hMn b hbn [114, 73] (rulesOf p { k with n := N } 9) rfl (by decide) 115 hg hr (doneB { k with n := N } 9)
        (fun i hi => match i, hi with
        | 0, _ => rule_other _ _ _ _ _ _ _ _ hp
        | 1, _ => rule_shut _ _ _ _ _ _ _ _
        | i + 2, hi => absurd hi (by simp)) (act_7 _ _ _ _ _ _ _ _)
  · obtain ⟨b, s, hb, hs, hg, hr, hsh⟩ := h4 10 (by omega) (by omega)
    have hbn : b < n := by omega
    exact f_tryS a c e d p k n N w hd 10 (by omega) M g hI hMn b hbn [110, 107, 112, 116] (rulesOf p { k with n := N } 10) rfl (by decide) 127 s (by omega) hg hr (doneB { k with n := N } 10)
        (fun i hi => match i, hi with
        | 0, _ => rule_masted _ _ _ _ _ _ _ _
        | 1, _ => rule_held _ _ _ _ _ _ _ _
        | 2, _ => rule_open _ _ _ _ _ _ _ _
        | 3, _ => rule_quiet _ _ _ _ _ _ _ _ hx hp hw hax.1 hax.2
        | i + 4, hi => absurd hi (by simp)) (act_ship _ _ _ _ _ _ _ _ 4 s (hsh 4 rfl) (by omega))
  · obtain ⟨b, s, hb, hs, hg, hr, hsh⟩ := h4 11 (by omega) (by omega)
    have hbn : b < n := by omega
    exact f_tryS a c e d p k n N w hd 11 (by omega) M g hI hMn b hbn [72, 116] (rulesOf p { k with n := N } 11) rfl (by decide) 127 s (by omega) hg hr (doneB { k with n := N } 11)
        (fun i hi => match i, hi with
        | 0, _ => rule_walking _ _ _ _ _ _ _ _
        | 1, _ => rule_quiet _ _ _ _ _ _ _ _ hx hp hw hax.1 hax.2
        | i + 2, hi => absurd hi (by simp)) (act_ship _ _ _ _ _ _ _ _ 5 s (hsh 5 rfl) (by omega))
  · obtain ⟨b, s, hb, hs, hg, hr, hsh⟩ := h4 12 (by omega) (by omega)
    have hbn : b < n := by omega
    exact f_tryS a c e d p k n N w hd 12 (by omega) M g hI hMn b hbn [117, 107, 112, 116] (rulesOf p { k with n := N } 12) rfl (by decide) 127 s (by omega) hg hr (doneB { k with n := N } 12)
        (fun i hi => match i, hi with
        | 0, _ => rule_housed _ _ _ _ _ _ _ _
        | 1, _ => rule_held _ _ _ _ _ _ _ _
        | 2, _ => rule_open _ _ _ _ _ _ _ _
        | 3, _ => rule_quiet _ _ _ _ _ _ _ _ hx hp hw hax.1 hax.2
        | i + 4, hi => absurd hi (by simp)) (act_ship _ _ _ _ _ _ _ _ 4 s (hsh 4 rfl) (by omega))
  · obtain ⟨b, s, hb, hs, hg, hr, hsh⟩ := h4 13 (by omega) (by omega)
    have hbn : b < n := by omega
    exact f_tryS a c e d p k n N w hd 13 (by omega) M g hI hMn b hbn [72] (rulesOf p { k with n := N } 13) rfl (by decide) 127 s (by omega) hg hr (doneB { k with n := N } 13)
        (fun i hi => match i, hi with
        | 0, _ => rule_walking _ _ _ _ _ _ _ _
        | i + 1, hi => absurd hi (by simp)) (act_ship _ _ _ _ _ _ _ _ 3 s (hsh 3 rfl) (by omega))

end Go.Proofs.Ytacbkbilbmkjnaa

/-
  Axes of a port, lines of a port: what is valid, in the program and in the reference.
-/
namespace Go.Proofs.Ytacbkbilbmkjnaa
open Go.RowKit Bal Bal.Trim Bal.Mast
set_option linter.unusedVariables false
set_option linter.unusedSimpArgs false
set_option maxHeartbeats 800000
set_option maxRecDepth 10000

theorem f_turnable1 (a : Axis) (w : World) :
    Calls Try.prog 97 #[.agg #[.int .i64 a.x, .int .i64 a.y]] w fun e w' => e = .returned (.bool (!axisB a)) ∧ Kept w w' := by
  have he : (!axisB a) = decide (¬ checkAxis a = 0) := by unfold checkAxis; cases axisB a <;> simp
  rw [he]
  obtain ⟨C, hC⟩ : ∃ C, C = checkAxis a := ⟨_, rfl⟩
  have HC := fun w => f_CheckAxis a w
  rw [← hC] at HC ⊢
  clear hC he
  go_enter Try.func97, Try.ntmps97
  go_wp2_with (go_at_call 13; (with_reducible refine (HC _).mono ?_); rintro e w1 ⟨rfl, hb1⟩; obtain ⟨hc1, hf1, hl1⟩ := bcell3 hb1)
  all_goals (go_ret; exact ⟨ret_bool (by first | rfl | (by_cases h : C = 0 <;> simp [h])), by (exact kpt)⟩)

def lineB (s : Span) : Bool := spanIn s.lo s.hi 0 1000000
theorem f_lines1 (a : Span) (w : World) :
    Calls Try.prog 98 #[.agg #[.int .i64 a.lo, .int .i64 a.hi]] w fun e w' => e = .returned (.bool (!lineB a)) ∧ Kept w w' := by
  have HC := fun w => f_span a.lo a.hi 0 1000000 w
  have he : lineB a = spanIn a.lo a.hi 0 1000000 := rfl
  rw [← he] at HC
  clear he
  go_enter Try.func98, Try.ntmps98
  go_wp2_with (go_at_call 55; (with_reducible refine (HC _).mono ?_); rintro e w1 ⟨rfl, hb1⟩; obtain ⟨hc1, hf1, hl1⟩ := bcell3 hb1)
  go_ret
  exact ⟨ret_bool (by first | rfl | simp), by (exact kpt)⟩

theorem s_IndexAxis (a : Option Addr) (cap : Nat) (xs : List Axis) (w : World) (hx : Row Axis.cells 2 w.heap.size w a xs) (h1 : xs.length ≤ 1000000) :
    Calls Try.prog 126 #[.slice a xs.length cap, .func (.func 97) #[] #[]] w fun e w' => (∃ r : Int, e = .returned (.int .i64 r) ∧ decide (r < 0) = xs.all axisB ∧ -1 ≤ r) ∧ Kept w w' := by
  obtain ⟨R, hR⟩ : ∃ R, R = xs.all axisB := ⟨_, rfl⟩
  have HR := Lib.hid hR
  rw [← hR]
  clear hR
  go_enter Try.func126, Try.ntmps126
  go_wp2
  go_loopw [8] (fun i wr => Upto axisB xs w i wr) (fun i _ => xs.length - (intOf i).toNat)
  case atStart => exact ⟨0, Nat.zero_le _, rfl, by simp, Below.refl _ _⟩
  case round =>
    obtain ⟨k, hk, rfl, ha', hb'⟩ := hrel
    have ha := Lib.hid ha'
    have hb := Lib.hid hb'
    clear ha'
    by_cases hlt : k < xs.length
    · obtain ⟨b, off, rfl, hbl, h0, h1⟩ := Axis.row (hx.later hb' (Nat.le_refl _)) k hlt
      have hbad : axisB xs[k] = false → R = false := fun hv => by
        rw [HR.out, Bool.eq_false_iff]
        intro h
        rw [List.all_eq_true.1 h _ (List.getElem_mem hlt)] at hv
        cases hv
      have HB := Lib.hid hbad
      clear hbad hb'
      have HT := Lib.hid (fun h => take_all (valid := axisB) hlt ha.out h)
      have hcall := fun w => f_turnable1 xs[k] w
      obtain ⟨x, hx0⟩ : ∃ x, x = xs[k] := ⟨_, rfl⟩
      rw [← hx0] at HB HT h0 h1 hcall
      clear hx0
      obtain ⟨V, hV⟩ : ∃ V, V = axisB x := ⟨_, rfl⟩
      rw [← hV] at hcall HB HT
      clear hV
      cases V with
      | false =>
        have HF := Lib.hid (HB.out rfl)
        clear HB
        go_wp2_with (go_at_call 97; refine (hcall _).mono ?_; rintro e w1 ⟨rfl, hb1⟩)
        go_ret
        refine ⟨⟨k, rfl, ?_, by omega⟩, Kept.drop hb.out (by (exact kpt))⟩
        rw [HF.out, decide_eq_false_iff_not]; omega
      | true =>
        have HF := Lib.hid (HT.out rfl)
        clear HT
        go_wp2_with (go_at_call 97; refine (hcall _).mono ?_; rintro e w1 ⟨rfl, hb1⟩)
        go_roundw
        case rel => exact ⟨k + 1, by omega, by go_num, HF.out, Kept.drop hb.out (by (exact kpt))⟩
        case measure => simp [intOf]; omega
    · obtain rfl : k = xs.length := by omega
      have HF := Lib.hid (show R = true by rw [HR.out, ← ha.out, List.take_length])
      clear hb'
      go_wp2
      go_ret
      refine ⟨⟨-1, rfl, ?_, by omega⟩, hb.out⟩
      rw [HF.out]; rfl

theorem s_ContainsAxis (a : Option Addr) (cap : Nat) (xs : List Axis) (w : World) (hx : Row Axis.cells 2 w.heap.size w a xs) (h1 : xs.length ≤ 1000000) :
    Calls Try.prog 96 #[.slice a xs.length cap, .func (.func 97) #[] #[]] w fun e w' => e = .returned (.bool (!xs.all axisB)) ∧ Kept w w' := by
  obtain ⟨R, hR⟩ : ∃ R, R = xs.all axisB := ⟨_, rfl⟩
  have hcall := s_IndexAxis a cap xs w hx h1
  rw [← hR] at hcall ⊢
  clear hR
  go_enter Try.func96, Try.ntmps96
  go_wp2_with (go_at_call 126; refine hcall.mono ?_; rintro e w1 ⟨⟨r, rfl, hr1, hr2⟩, hb1⟩)
  go_ret
  refine ⟨ret_bool ?_, hb1⟩
  rw [← hr1, ← decide_not]
  exact decide_eq_decide.2 (by omega)

theorem s_IndexSpan (a : Option Addr) (cap : Nat) (xs : List Span) (w : World) (hx : Row Span.cells 2 w.heap.size w a xs) (h1 : xs.length ≤ 1000000) :
    Calls Try.prog 124 #[.slice a xs.length cap, .func (.func 98) #[] #[]] w fun e w' => (∃ r : Int, e = .returned (.int .i64 r) ∧ decide (r < 0) = xs.all lineB ∧ -1 ≤ r) ∧ Kept w w' := by
  obtain ⟨R, hR⟩ : ∃ R, R = xs.all lineB := ⟨_, rfl⟩
  have HR := Lib.hid hR
  rw [← hR]
  clear hR
  go_enter Try.func124, Try.ntmps124
  go_wp2
  go_loopw [8] (fun i wr => Upto lineB xs w i wr) (fun i _ => xs.length - (intOf i).toNat)
  case atStart => exact ⟨0, Nat.zero_le _, rfl, by simp, Below.refl _ _⟩
  case round =>
    obtain ⟨k, hk, rfl, ha', hb'⟩ := hrel
    have ha := Lib.hid ha'
    have hb := Lib.hid hb'
    clear ha'
    by_cases hlt : k < xs.length
    · obtain ⟨b, off, rfl, hbl, h0, h1⟩ := Span.row (hx.later hb' (Nat.le_refl _)) k hlt
      have hbad : lineB xs[k] = false → R = false := fun hv => by
        rw [HR.out, Bool.eq_false_iff]
        intro h
        rw [List.all_eq_true.1 h _ (List.getElem_mem hlt)] at hv
        cases hv
      have HB := Lib.hid hbad
      clear hbad hb'
      have HT := Lib.hid (fun h => take_all (valid := lineB) hlt ha.out h)
      have hcall := fun w => f_lines1 xs[k] w
      obtain ⟨x, hx0⟩ : ∃ x, x = xs[k] := ⟨_, rfl⟩
      rw [← hx0] at HB HT h0 h1 hcall
      clear hx0
      obtain ⟨V, hV⟩ : ∃ V, V = lineB x := ⟨_, rfl⟩
      rw [← hV] at hcall HB HT
      clear hV
      cases V with
      | false =>
        have HF := Lib.hid (HB.out rfl)
        clear HB
        go_wp2_with (go_at_call 98; refine (hcall _).mono ?_; rintro e w1 ⟨rfl, hb1⟩)
        go_ret
        refine ⟨⟨k, rfl, ?_, by omega⟩, Kept.drop hb.out (by (exact kpt))⟩
        rw [HF.out, decide_eq_false_iff_not]; omega
      | true =>
        have HF := Lib.hid (HT.out rfl)
        clear HT
        go_wp2_with (go_at_call 98; refine (hcall _).mono ?_; rintro e w1 ⟨rfl, hb1⟩)
        go_roundw
        case rel => exact ⟨k + 1, by omega, by go_num, HF.out, Kept.drop hb.out (by (exact kpt))⟩
        case measure => simp [intOf]; omega
    · obtain rfl : k = xs.length := by omega
      have HF := Lib.hid (show R = true by rw [HR.out, ← ha.out, List.take_length])
      clear hb'
      go_wp2
      go_ret
      refine ⟨⟨-1, rfl, ?_, by omega⟩, hb.out⟩
      rw [HF.out]; rfl

theorem s_ContainsSpan (a : Option Addr) (cap : Nat) (xs : List Span) (w : World) (hx : Row Span.cells 2 w.heap.size w a xs) (h1 : xs.length ≤ 1000000) :
    Calls Try.prog 89 #[.slice a xs.length cap, .func (.func 98) #[] #[]] w fun e w' => e = .returned (.bool (!xs.all lineB)) ∧ Kept w w' := by
  obtain ⟨R, hR⟩ : ∃ R, R = xs.all lineB := ⟨_, rfl⟩
  have hcall := s_IndexSpan a cap xs w hx h1
  rw [← hR] at hcall ⊢
  clear hR
  go_enter Try.func89, Try.ntmps89
  go_wp2_with (go_at_call 124; refine hcall.mono ?_; rintro e w1 ⟨⟨r, rfl, hr1, hr2⟩, hb1⟩)
  go_ret
  refine ⟨ret_bool ?_, hb1⟩
  rw [← hr1, ← decide_not]
  exact decide_eq_decide.2 (by omega)

theorem turnable_rng (xs : List Axis) : turnable xs = (rng [(xs.length : Int)] 1 32 && xs.all axisB) := by
  unfold turnable
  congr 1
  rw [Bool.eq_iff_iff]
  simp [rng, inB]
  omega
theorem f_turnable (a : Option Addr) (cap : Nat) (xs : List Axis) (w : World) (hx : Row Axis.cells 2 w.heap.size w a xs) (h1 : xs.length ≤ 1000000) :
    Calls Try.prog 56 #[.slice a xs.length cap] w fun e w' => e = .returned (.bool (turnable xs)) ∧ Kept w w' := by
  rw [turnable_rng]
  have HC := fun (W : World) (hk : Kept w W) => s_ContainsAxis a cap xs W (hx.later hk (Nat.le_refl _)) h1
  obtain ⟨R, hR⟩ : ∃ R, R = xs.all axisB := ⟨_, rfl⟩
  rw [← hR] at HC ⊢
  clear hR
  go_enter Try.func56, Try.ntmps56
  go_wp2_with (first | (go_at_call 51; (with_reducible refine (f_ranged_1 _ _ _ _ _ _ (by simp)).mono ?_); rintro e w1 ⟨rfl, hb1⟩) | (go_at_call 96; refine (HC _ (by (exact kpt))).mono ?_; rintro e w1 ⟨rfl, hb1⟩))
  all_goals (go_ret; exact ⟨ret_bool (by simp [*]), by (exact kpt)⟩)

theorem f_lines (a : Option Addr) (cap : Nat) (xs : List Span) (w : World) (hx : Row Span.cells 2 w.heap.size w a xs) (h1 : xs.length ≤ 1000000) :
    Calls Try.prog 58 #[.slice a xs.length cap] w fun e w' => e = .returned (.bool (linesB xs)) ∧ Kept w w' := by
  have he : linesB xs = (decide (xs.length ≤ 8) && xs.all lineB) := rfl
  rw [he]
  have HC := fun (W : World) (hk : Kept w W) => s_ContainsSpan a cap xs W (hx.later hk (Nat.le_refl _)) h1
  obtain ⟨R, hR⟩ : ∃ R, R = xs.all lineB := ⟨_, rfl⟩
  rw [← hR] at HC ⊢
  clear hR he
  by_cases h8 : xs.length ≤ 8
  all_goals
    go_enter Try.func58, Try.ntmps58
    go_wp2_with (go_at_call 89; refine (HC _ (by (exact kpt))).mono ?_; rintro e w1 ⟨rfl, hb1⟩)
    all_goals (go_ret; exact ⟨ret_bool (by simp [h8]), by (exact kpt)⟩)

theorem r_axes (a : Option Addr) (cap : Nat) (xs : List Axis) (w : World) (hx : Row Axis.cells 2 w.heap.size w a xs) (h1 : xs.length ≤ 1000000) :
    Calls Try.prog 57 #[.slice a xs.length cap] w fun e w' => e = .returned (.bool (turnable xs)) ∧ Kept w w' := by
  rw [turnable_rng]
  obtain ⟨R, hR⟩ : ∃ R, R = xs.all axisB := ⟨_, rfl⟩
  have HR := Lib.hid hR
  rw [← hR]
  clear hR
  cases hg : rng [(xs.length : Int)] 1 32
  · have HI := Lib.hid (show inB (xs.length : Int) 1 32 = false by simpa [rng] using hg)
    clear hg
    go_enter Try.func57, Try.ntmps57
    go_wp2_with (go_at_call 53; (with_reducible refine (r_within _ _ _ _).mono ?_); rw [HI.out]; rintro e w1 ⟨rfl, rfl⟩)
    go_ret
    exact ⟨ret_bool (by simp), by (exact kpt)⟩
  have HI := Lib.hid (show inB (xs.length : Int) 1 32 = true by simpa [rng] using hg)
  clear hg
  skip
  go_enter Try.func57, Try.ntmps57
  go_wp2_with (go_at_call 53; (with_reducible refine (r_within _ _ _ _).mono ?_); rw [HI.out]; rintro e w1 ⟨rfl, rfl⟩)
  go_loopw [3] (fun i wr => Upto axisB xs w i wr) (fun i _ => xs.length - (intOf i).toNat)
  case atStart => exact ⟨0, Nat.zero_le _, rfl, by simp, by (exact kpt)⟩
  case round =>
    obtain ⟨k, hk, rfl, ha', hb'⟩ := hrel
    have ha := Lib.hid ha'
    have hb := Lib.hid hb'
    clear ha'
    by_cases hlt : k < xs.length
    · obtain ⟨b, off, rfl, hbl, h0, h1⟩ := Axis.row (hx.later hb' (Nat.le_refl _)) k hlt
      have hbad : axisB xs[k] = false → R = false := fun hv => by
        rw [HR.out, Bool.eq_false_iff]
        intro h
        rw [List.all_eq_true.1 h _ (List.getElem_mem hlt)] at hv
        cases hv
      have HB := Lib.hid hbad
      clear hbad hb'
      have HT := Lib.hid (fun h => take_all (valid := axisB) hlt ha.out h)
      have hcall := fun w => r_Axis xs[k] w
      obtain ⟨x, hx0⟩ : ∃ x, x = xs[k] := ⟨_, rfl⟩
      rw [← hx0] at HB HT h0 h1 hcall
      clear hx0
      skip
      obtain ⟨V, hV⟩ : ∃ V, V = axisB x := ⟨_, rfl⟩
      rw [← hV] at hcall HB HT
      clear hV
      cases V with
      | false =>
        have HF := Lib.hid (HB.out rfl)
        clear HB
        go_wp2_with (go_at_call 47; refine (hcall _).mono ?_; rintro e w1 ⟨rfl, hb1⟩)
        go_ret
        exact ⟨ret_bool (by rw [HF.out]; first | rfl | simp), Kept.drop hb.out (by (exact kpt))⟩
      | true =>
        have HF := Lib.hid (HT.out rfl)
        clear HT
        go_wp2_with (go_at_call 47; refine (hcall _).mono ?_; rintro e w1 ⟨rfl, hb1⟩)
        go_roundw
        case rel => exact ⟨k + 1, by omega, by go_num, HF.out, Kept.drop hb.out (by (exact kpt))⟩
        case measure => simp [intOf]; omega
    · obtain rfl : k = xs.length := by omega
      have HF := Lib.hid (show R = true by rw [HR.out, ← ha.out, List.take_length])
      clear hb'
      go_wp2
      go_ret
      exact ⟨ret_bool (by rw [HF.out]; first | rfl | simp [*]), hb.out⟩

theorem r_pulls (a : Option Addr) (cap : Nat) (xs : List Span) (w : World) (hx : Row Span.cells 2 w.heap.size w a xs) (h1 : xs.length ≤ 1000000) :
    Calls Try.prog 60 #[.slice a xs.length cap] w fun e w' => e = .returned (.bool (linesB xs)) ∧ Kept w w' := by
  have he : linesB xs = (decide (xs.length ≤ 8) && xs.all lineB) := rfl
  rw [he]
  clear he
  obtain ⟨R, hR⟩ : ∃ R, R = xs.all lineB := ⟨_, rfl⟩
  have HR := Lib.hid hR
  rw [← hR]
  clear hR
  by_cases h8 : xs.length ≤ 8
  case neg =>
    go_enter Try.func60, Try.ntmps60
    go_wp2
    go_ret
    exact ⟨ret_bool (by simp [h8]), by (exact kpt)⟩
  skip
  go_enter Try.func60, Try.ntmps60
  go_wp2
  go_loopw [3] (fun i wr => Upto lineB xs w i wr) (fun i _ => xs.length - (intOf i).toNat)
  case atStart => exact ⟨0, Nat.zero_le _, rfl, by simp, by (exact kpt)⟩
  case round =>
    obtain ⟨k, hk, rfl, ha', hb'⟩ := hrel
    have ha := Lib.hid ha'
    have hb := Lib.hid hb'
    clear ha'
    by_cases hlt : k < xs.length
    · obtain ⟨b, off, rfl, hbl, h0, h1⟩ := Span.row (hx.later hb' (Nat.le_refl _)) k hlt
      have hbad : lineB xs[k] = false → R = false := fun hv => by
        rw [HR.out, Bool.eq_false_iff]
        intro h
        rw [List.all_eq_true.1 h _ (List.getElem_mem hlt)] at hv
        cases hv
      have HB := Lib.hid hbad
      clear hbad hb'
      have HT := Lib.hid (fun h => take_all (valid := lineB) hlt ha.out h)
      have hcall := fun w => r_spanned xs[k].lo xs[k].hi 0 1000000 w
      obtain ⟨x, hx0⟩ : ∃ x, x = xs[k] := ⟨_, rfl⟩
      rw [← hx0] at HB HT h0 h1 hcall
      clear hx0
      have he : spanIn x.lo x.hi 0 1000000 = lineB x := rfl
      rw [he] at hcall
      clear he
      obtain ⟨V, hV⟩ : ∃ V, V = lineB x := ⟨_, rfl⟩
      rw [← hV] at hcall HB HT
      clear hV
      cases V with
      | false =>
        have HF := Lib.hid (HB.out rfl)
        clear HB
        go_wp2_with (go_at_call 91; refine (hcall _).mono ?_; rintro e w1 ⟨rfl, hb1⟩)
        go_ret
        exact ⟨ret_bool (by rw [HF.out]; first | rfl | simp), Kept.drop hb.out (by (exact kpt))⟩
      | true =>
        have HF := Lib.hid (HT.out rfl)
        clear HT
        go_wp2_with (go_at_call 91; refine (hcall _).mono ?_; rintro e w1 ⟨rfl, hb1⟩)
        go_roundw
        case rel => exact ⟨k + 1, by omega, by go_num, HF.out, Kept.drop hb.out (by (exact kpt))⟩
        case measure => simp [intOf]; omega
    · obtain rfl : k = xs.length := by omega
      have HF := Lib.hid (show R = true by rw [HR.out, ← ha.out, List.take_length])
      clear hb'
      go_wp2
      go_ret
      exact ⟨ret_bool (by rw [HF.out]; first | rfl | simp [*]), hb.out⟩

end Go.Proofs.Ytacbkbilbmkjnaa

/-
  The persons that lines need, in the program and in the reference.
-/
namespace Go.Proofs.Ytacbkbilbmkjnaa
open Go.RowKit Bal Bal.Trim Bal.Mast
set_option linter.unusedVariables false
set_option linter.unusedSimpArgs false
set_option maxHeartbeats 2000000
set_option maxRecDepth 10000

theorem infoI : (Try.prog.info? 3).map (fun i => (i.zero, i.size, i.bytes)) = some (some (.int .i64 0), 1, 8) := by kernel_rfl
theorem cell_one {w : World} {n : Nat} (h : n = w.heap.size) (x : Value) (t : TypeId) : ∀ j u, [x][j]? = some u → (w.alloc (.cells #[x] t)).cell? ((⟨n, 0, none⟩ : Addr).add j) = some u := by
  subst h
  intro j u hj
  match j, hj with
  | 0, hj => simp at hj; subst hj; simp [Addr.add]
  | j + 1, hj => simp at hj
theorem info_parts {P : Program} {e : TypeId} {z : Value} {s b : Nat} (h : (P.info? e).map (fun i => (i.zero, i.size, i.bytes)) = some (some z, s, b)) : ∃ i, P.info? e = some i ∧ i.zero = some z ∧ i.size = s ∧ i.bytes = b := by
  cases hi : P.info? e with
  | none => rw [hi] at h; cases h
  | some i => rw [hi] at h; simp at h; exact ⟨i, rfl, h.1, h.2.1, h.2.2⟩
theorem owns_row {α : Type} {enc : α → List Value} {k base : Nat} {e : TypeId} {w : World} {v : Value} {xs : List α} (he : ∀ x, (enc x).length = k) (h : w.ownsRow base e k v xs.length (xs.flatMap enc)) :
    ∃ a cap, v = .slice a xs.length cap ∧ Row enc k w.heap.size w a xs ∧ xs.length ≤ cap ∧ cap ≤ maxLen := Row.of_owns he h

theorem f_needed (a : Option Addr) (cap : Nat) (xs : List Span) (m : Int) (w : World) (hx : Row Span.cells 2 w.heap.size w a xs) (hn : xs.length ≤ 8) (hv : ∀ s ∈ xs, lineB s = true) (hm1 : 1 ≤ m) (hm2 : m ≤ 1000000) :
    Calls Try.prog 59 #[.slice a xs.length cap, .int .i64 m] w fun e w' => ∃ v, e = .returned (.tuple #[v, .int .i64 (total (needs m xs))]) ∧ w'.ownsRow w.heap.size 3 1 v (needs m xs).length ((needs m xs).flatMap icell) ∧ Kept w w' := by
  have HV := Lib.hid hv
  clear hv
  go_enter Try.func59, Try.ntmps59
  go_wp2
  go_loopw [6, 7, 13] (fun l s i wr => ∃ k : Nat, k ≤ xs.length ∧ i = .int .i64 k ∧ s = .int .i64 (total (needs m (xs.take k))) ∧ wr.ownsRow w.heap.size 3 1 l (needs m (xs.take k)).length ((needs m (xs.take k)).flatMap icell) ∧ Kept w wr) (fun _ _ i _ => xs.length - (intOf i).toNat)
  case atStart => exact ⟨0, Nat.zero_le _, rfl, rfl, owns_nil (α := Int) (enc := icell), Below.refl _ _⟩
  case round =>
    obtain ⟨k, hk, rfl, rfl, hown, hkk⟩ := hrel
    have hsz := hkk.size
    by_cases hlt : k < xs.length
    · skip
      obtain ⟨bb, off, rfl, hbl, h0, h1⟩ := Span.row (hx.later hkk (Nat.le_refl _)) k hlt
      have HN := Lib.hid (needs_take (m := m) hlt)
      have hb := line_bd (HV.out _ (List.getElem_mem hlt))
      have htk := total_bd (needs_bd hm1 (fun s hs => HV.out s (List.mem_of_mem_take hs)) (m := m) (l := xs.take k))
      have hll : (needs m (xs.take k)).length ≤ 8 := by rw [needs_len, List.length_take]; omega
      obtain ⟨y, hy0⟩ : ∃ y, y = xs[k] := ⟨_, rfl⟩
      rw [← hy0] at HN hb h0 h1
      clear hy0
      have hnb := need_bd hm1 hb.1 hb.2
      have HQ : (y.hi + m - 1) / m = needOf m y := rfl
      have HT : (y.hi + m - 1).tdiv m = needOf m y := by rw [Int.tdiv_eq_ediv_of_nonneg (by omega)]; rfl
      obtain ⟨q, hq⟩ : ∃ q, q = needOf m y := ⟨_, rfl⟩
      rw [← hq] at HN HQ HT hnb
      clear hq
      have HS : total (needs m (xs.take k)) + q = total (needs m (xs.take (k + 1))) := by rw [HN.out, total_snoc]
      obtain ⟨T, hT⟩ : ∃ T, T = total (needs m (xs.take k)) := ⟨_, rfl⟩
      rw [← hT] at htk HS
      rw [← hT]
      clear hT
      have HSS := Lib.hid HS
      clear HS
      go_wp2_with (at_builtin; obtain ⟨i0, hi, hz0, hz1, hz2⟩ := info_parts infoI; refine wpList_append_own _ rfl _ _ 51 rfl w.heap.size 3 i0 (.int .i64 0) 1 8 Try.underlying51 hi hz0 hz1 hz2 rfl (by decide) _ _ _ rfl ((hown.alloc _).alloc _) ⟨_, 0, none⟩ 1 1 [.int .i64 q] rfl rfl (cell_one (by simp) _ _) (fun x hx => by simp at hx; subst hx; rfl) (by unfold maxLen; omega) (by omega) (by simp only [World.size_alloc]; omega) ?_; intro v9 w9 hown9 hgrow9 hnil9; clear hi hz0 hz1 hz2)
      have hK9 : Kept w w9 := Kept.grown (by (exact kpt)) ((hown.alloc _).alloc _) (Nat.le_refl _) hgrow9
      go_roundw
      case rel => exact ⟨k + 1, by omega, by go_num, by rw [HSS.out], by rw [HN.out, List.flatMap_append, List.length_append]; exact hown9, hK9⟩
      case measure => simp [intOf]; omega
    · obtain rfl : xs.length = k := by omega
      obtain ⟨ad, cp, rfl, hrow, hcp, hcm⟩ := owns_row (enc := icell) (k := 1) (fun _ => rfl) hown
      rw [List.take_length] at hown
      go_wp2
      exact bodyPost_ret (v := .tuple #[.slice ad (needs m (xs.take xs.length)).length cp, .int .i64 (total (needs m (xs.take xs.length)))]) (by simp [results, Try.results59, go_sem]) rfl ⟨_, by first | rfl | rw [List.take_length], by first | exact hown | (rw [List.take_length]; exact hown), hkk⟩

theorem r_needs (a : Option Addr) (cap : Nat) (xs : List Span) (m : Int) (w : World) (hx : Row Span.cells 2 w.heap.size w a xs) (hn : xs.length ≤ 8) (hv : ∀ s ∈ xs, lineB s = true) (hm1 : 1 ≤ m) (hm2 : m ≤ 1000000) :
    Calls Try.prog 61 #[.slice a xs.length cap, .int .i64 m] w fun e w' => ∃ v, e = .returned v ∧ w'.ownsRow w.heap.size 3 1 v (needs m xs).length ((needs m xs).flatMap icell) ∧ Kept w w' := by
  have HV := Lib.hid hv
  clear hv
  go_enter Try.func61, Try.ntmps61
  go_wp2
  go_loopw [5, 6] (fun l i wr => ∃ k : Nat, k ≤ xs.length ∧ i = .int .i64 k ∧ wr.ownsRow w.heap.size 3 1 l (needs m (xs.take k)).length ((needs m (xs.take k)).flatMap icell) ∧ Kept w wr) (fun _ i _ => xs.length - (intOf i).toNat)
  case atStart => exact ⟨0, Nat.zero_le _, rfl, owns_nil (α := Int) (enc := icell), Below.refl _ _⟩
  case round =>
    obtain ⟨k, hk, rfl, hown, hkk⟩ := hrel
    have hsz := hkk.size
    by_cases hlt : k < xs.length
    · skip
      obtain ⟨bb, off, rfl, hbl, h0, h1⟩ := Span.row (hx.later hkk (Nat.le_refl _)) k hlt
      have HN := Lib.hid (needs_take (m := m) hlt)
      have hb := line_bd (HV.out _ (List.getElem_mem hlt))
      have htk := total_bd (needs_bd hm1 (fun s hs => HV.out s (List.mem_of_mem_take hs)) (m := m) (l := xs.take k))
      have hll : (needs m (xs.take k)).length ≤ 8 := by rw [needs_len, List.length_take]; omega
      obtain ⟨y, hy0⟩ : ∃ y, y = xs[k] := ⟨_, rfl⟩
      rw [← hy0] at HN hb h0 h1
      clear hy0
      have hnb := need_bd hm1 hb.1 hb.2
      have HQ : (y.hi + m - 1) / m = needOf m y := rfl
      have HT : (y.hi + m - 1).tdiv m = needOf m y := by rw [Int.tdiv_eq_ediv_of_nonneg (by omega)]; rfl
      obtain ⟨q, hq⟩ : ∃ q, q = needOf m y := ⟨_, rfl⟩
      rw [← hq] at HN HQ HT hnb
      clear hq
      go_wp2_with (at_builtin; obtain ⟨i0, hi, hz0, hz1, hz2⟩ := info_parts infoI; refine wpList_append_own _ rfl _ _ 51 rfl w.heap.size 3 i0 (.int .i64 0) 1 8 Try.underlying51 hi hz0 hz1 hz2 rfl (by decide) _ _ _ rfl (hown.alloc _) ⟨_, 0, none⟩ 1 1 [.int .i64 q] rfl rfl (cell_one (by simp) _ _) (fun x hx => by simp at hx; subst hx; rfl) (by unfold maxLen; omega) (by omega) (by simp only [World.size_alloc]; omega) ?_; intro v9 w9 hown9 hgrow9 hnil9; clear hi hz0 hz1 hz2)
      have hK9 : Kept w w9 := Kept.grown (by (exact kpt)) (hown.alloc _) (Nat.le_refl _) hgrow9
      go_roundw
      case rel => exact ⟨k + 1, by omega, by go_num, by rw [HN.out, List.flatMap_append, List.length_append]; exact hown9, hK9⟩
      case measure => simp [intOf]; omega
    · obtain rfl : xs.length = k := by omega
      obtain ⟨ad, cp, rfl, hrow, hcp, hcm⟩ := owns_row (enc := icell) (k := 1) (fun _ => rfl) hown
      rw [List.take_length] at hown
      go_wp2
      exact bodyPost_ret (v := .slice ad (needs m (xs.take xs.length)).length cp) (by simp [results, Try.results61, go_sem]) rfl ⟨_, by first | rfl | rw [List.take_length], by first | exact hown | (rw [List.take_length]; exact hown), hkk⟩

theorem r_total (a : Option Addr) (cap : Nat) (xs : List Int) (w : World) (hx : Row icell 1 w.heap.size w a xs) (hn : xs.length ≤ 8) (hb : ∀ x ∈ xs, 0 ≤ x ∧ x ≤ 1000000) :
    Calls Try.prog 62 #[.slice a xs.length cap] w fun e w' => e = .returned (.int .i64 (total xs)) ∧ w = w' := by
  have HB := Lib.hid hb
  clear hb
  go_enter Try.func62, Try.ntmps62
  go_wp2
  go_loop [3, 4] (fun s i => ∃ k : Nat, k ≤ xs.length ∧ i = .int .i64 k ∧ s = .int .i64 (total (xs.take k))) (fun _ i => xs.length - (intOf i).toNat)
  case atStart => exact ⟨0, Nat.zero_le _, rfl, rfl⟩
  case round =>
    obtain ⟨k, hk, rfl, rfl⟩ := hrel
    by_cases hlt : k < xs.length
    · obtain ⟨b, off, rfl, _, ck⟩ := int_row hx k hlt
      have hy := HB.out _ (List.getElem_mem hlt)
      have htk := total_bd (fun x hx => HB.out x (List.mem_of_mem_take hx)) (xs := xs.take k)
      have hlk : (xs.take k).length ≤ 8 := by rw [List.length_take]; omega
      have HS : total (xs.take k) + xs[k] = total (xs.take (k + 1)) := by rw [List.take_succ_eq_append_getElem hlt, total_snoc]
      obtain ⟨y, hy0⟩ : ∃ y, y = xs[k] := ⟨_, rfl⟩
      obtain ⟨T, hT⟩ : ∃ T, T = total (xs.take k) := ⟨_, rfl⟩
      rw [← hy0] at hy HS ck
      rw [← hT] at htk HS
      rw [← hT]
      clear hT hy0
      have HSS := Lib.hid HS
      clear HS
      go_wp2
      go_round
      case rel => exact ⟨k + 1, by omega, by go_num, by rw [HSS.out]⟩
      case measure => simp [intOf]; omega
    · obtain rfl : k = xs.length := by omega
      go_wp2
      go_ret
      exact ⟨ret_int (by first | rfl | rw [List.take_length]), rfl⟩

end Go.Proofs.Ytacbkbilbmkjnaa
