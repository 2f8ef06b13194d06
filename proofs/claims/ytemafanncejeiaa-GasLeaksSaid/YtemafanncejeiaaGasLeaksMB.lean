/-
  Facts about memory, lists and numbers that the walks use: no program in sight.
-/
import Derived.WalkKit
import Derived.WalkSpells
import Derived.WalkLawsBesides
import Derived.Lib.Hide
import Derived.ProofKit
import Derived.OpenShut
import Derived.ChangeOld
import Derived.Below
import Derived.Deep.Slices
import Derived.Deep.Fields
import Derived.Deep.Quiet
import Derived.Laws.AppendOwn
import Derived.Laws.AppendOwnNone
import Derived.Test.YtemafanncejeiaaGasLeaksMA
import Derived.StillTail
import Derived.Test.YtemafanncejeiaaProg
import Derived.Deep.QuietTactic
import Derived.BigQuiet
import Derived.Deep.RegionHeld3
import Derived.Deep.DeepCutAuto
/-
  Facts about memory, lists and numbers that the walks use: no program in sight.
-/
namespace Bal
open Go Go.RowKit Go.ChangeShapes Go.WideShapes

theorem ret_int {k : IntKind} {a b : Int} (h : a = b) : Ending.returned (.int k a) = .returned (.int k b) := by rw [h]
theorem ret_bool {a b : Bool} (h : a = b) : Ending.returned (.bool a) = .returned (.bool b) := by rw [h]

/-- What a call leaves alone: nothing that was there has changed. -/
abbrev Kept (w w' : World) : Prop := Below w.heap.size w w'

/-- The elements xs of a slice at address a, each of k cells, lie in blocks below B. -/
def Row {α : Type} (enc : α → List Value) (k B : Nat) (w : World) (a : Option Addr) (xs : List α) : Prop :=
  ∀ (i : Nat) (x : α), xs[i]? = some x → ∃ b off, a = some ⟨b, off, none⟩ ∧ b < B ∧ ∀ (j : Nat) (v : Value), (enc x)[j]? = some v → w.cell? ⟨b, off + i * k + j, none⟩ = some v

theorem Row.nil {α : Type} {enc : α → List Value} {k B : Nat} {w : World} {a : Option Addr} : Row enc k B w a [] := by
  intro i x h; simp at h

theorem Row.keep {α : Type} {enc : α → List Value} {k B C : Nat} {w w' : World} {a : Option Addr} {xs : List α} (h : Row enc k B w a xs) (hb : Below C w w') (hC : B ≤ C) : Row enc k B w' a xs := by
  intro i x hx
  obtain ⟨b, off, ha, hlt, hc⟩ := h i x hx
  exact ⟨b, off, ha, hlt, fun j v hj => by rw [hb.cell (p := ⟨b, off + i * k + j, none⟩) (show b < C by omega)]; exact hc j v hj⟩

theorem Row.up {α : Type} {enc : α → List Value} {k B C : Nat} {w : World} {a : Option Addr} {xs : List α} (h : Row enc k B w a xs) (hC : B ≤ C) : Row enc k C w a xs := by
  intro i x hx
  obtain ⟨b, off, ha, hlt, hc⟩ := h i x hx
  exact ⟨b, off, ha, by omega, hc⟩

/-- a row known below the heap of w, asked for in a later world w' -/
theorem Row.later {α : Type} {enc : α → List Value} {k B : Nat} {w w' : World} {a : Option Addr} {xs : List α} (h : Row enc k B w a xs) (hb : Below B w w') (hB : B ≤ w.heap.size) : Row enc k w'.heap.size w' a xs :=
  (h.keep hb (Nat.le_refl _)).up (Nat.le_trans hB hb.size)

theorem bcell {W w1 : World} (hb : Below W.heap.size W w1) : (∀ b o, b < W.heap.size → w1.cell? ⟨b, o, none⟩ = W.cell? ⟨b, o, none⟩) ∧ (∀ b o, b < W.heap.size → w1.frozen? ⟨b, o, none⟩ = W.frozen? ⟨b, o, none⟩) :=
  ⟨fun b o h => hb.cell (p := ⟨b, o, none⟩) h, fun b o h => hb.frozen (p := ⟨b, o, none⟩) h⟩

theorem Kept.size {w w' : World} (h : Kept w w') : w.heap.size ≤ w'.heap.size := Below.size h
/-- what a walk wants to know behind a contract -/
theorem bcell3 {W w1 : World} (hb : Below W.heap.size W w1) : (∀ b o, b < W.heap.size → w1.cell? ⟨b, o, none⟩ = W.cell? ⟨b, o, none⟩) ∧ (∀ b o, b < W.heap.size → w1.frozen? ⟨b, o, none⟩ = W.frozen? ⟨b, o, none⟩) ∧ ∀ n, n < W.heap.size → n < w1.heap.size :=
  ⟨fun b o h => hb.cell (p := ⟨b, o, none⟩) h, fun b o h => hb.frozen (p := ⟨b, o, none⟩) h, fun _ h => Nat.lt_of_lt_of_le h hb.size⟩

theorem Kept.drop {w w' w'' : World} (h : Below w.heap.size w w') (h' : Kept w' w'') : Kept w w'' := h.trans (h'.mono h.size)

/-- a loop over xs has passed k elements, all of them valid, and left alone what was there -/
def Upto {α : Type} (valid : α → Bool) (xs : List α) (w : World) (i : Value) (wr : World) : Prop :=
  ∃ k : Nat, k ≤ xs.length ∧ i = .int .i64 k ∧ (xs.take k).all valid = true ∧ Kept w wr

theorem Kept.alloc {w w' : World} (h : Kept w w') (o : Obj) : Kept w (w'.alloc o) := Below.alloc h h.size o

/-- a number as a cell -/
def icell (n : Int) : List Value := [.int .i64 n]
theorem int_row {B : Nat} {w : World} {a : Option Addr} {xs : List Int} (h : Row icell 1 B w a xs) (i : Nat) (hi : i < xs.length) :
    ∃ b off, a = some ⟨b, off, none⟩ ∧ b < B ∧ w.cell? ⟨b, off + i, none⟩ = some (.int .i64 xs[i]) := by
  obtain ⟨b, off, ha, hb, hc⟩ := h i xs[i] (by simp [hi])
  exact ⟨b, off, ha, hb, by simpa using hc 0 _ rfl⟩

/-! ### Slices that a call has made itself, element by element -/
theorem flatMap_len {α : Type} {enc : α → List Value} {k : Nat} (he : ∀ x, (enc x).length = k) (xs : List α) : (xs.flatMap enc).length = xs.length * k := by
  induction xs with
  | nil => simp
  | cons x xs ih => simp [List.flatMap_cons, ih, he, Nat.succ_mul, Nat.add_comm]

theorem flatMap_get {α : Type} {enc : α → List Value} {k : Nat} (he : ∀ x, (enc x).length = k) : ∀ (xs : List α) (i : Nat) (x : α), xs[i]? = some x → ∀ j, j < k → (xs.flatMap enc)[i * k + j]? = (enc x)[j]?
  | [], i, x, h, _, _ => by simp at h
  | y :: ys, 0, x, h, j, hj => by
    simp at h
    subst h
    rw [List.flatMap_cons, Nat.zero_mul, Nat.zero_add, List.getElem?_append_left (by rw [he]; exact hj)]
  | y :: ys, i + 1, x, h, j, hj => by
    rw [List.flatMap_cons, List.getElem?_append_right (by rw [he, Nat.succ_mul]; omega), he]
    have := flatMap_get he ys i x (by simpa using h) j hj
    rw [← this]
    congr 1
    rw [Nat.succ_mul]; omega

/-- What the call owns reads as a row. -/
theorem Row.of_owns {α : Type} {enc : α → List Value} {k base : Nat} {e : TypeId} {w : World} {v : Value} {xs : List α} (he : ∀ x, (enc x).length = k) (h : w.ownsRow base e k v xs.length (xs.flatMap enc)) :
    ∃ a cap, v = .slice a xs.length cap ∧ Row enc k w.heap.size w a xs ∧ xs.length ≤ cap ∧ cap ≤ maxLen := by
  obtain ⟨_, ⟨rfl, hn⟩ | ⟨g, cap, cur, rfl, hb, hh, hnc, hcm, hsz, ht⟩⟩ := h
  · have : xs = [] := List.length_eq_zero_iff.1 hn
    subst this
    exact ⟨none, 0, rfl, Row.nil, by simp, by simp [maxLen]⟩
  · refine ⟨some ⟨g, 0, none⟩, cap, rfl, ?_, hnc, hcm⟩
    intro i x hx
    refine ⟨g, 0, rfl, ?_, ?_⟩
    · rcases Nat.lt_or_ge g w.heap.size with h' | h'
      · exact h'
      · rw [Array.getElem?_eq_none h'] at hh; cases hh
    · intro j u hj
      have hjk : j < k := by rw [← he x]; exact (List.getElem?_eq_some_iff.1 hj).1
      have hix : i < xs.length := (List.getElem?_eq_some_iff.1 hx).1
      have h1 := flatMap_get he xs i x hx j hjk
      rw [← ht, List.getElem?_take] at h1
      split at h1
      · rw [hj] at h1
        simp only [World.cell?, hh, Nat.zero_add]
        simpa using h1
      · rw [hj] at h1; cases h1

theorem owns_nil {base : Nat} {e : TypeId} {k : Nat} {w : World} {α : Type} {enc : α → List Value} : w.ownsRow base e k (.slice none 0 0) ([] : List α).length (([] : List α).flatMap enc) :=
  ⟨by simp, .inl ⟨rfl, rfl⟩⟩

theorem owns_keep {base : Nat} {e : TypeId} {k n : Nat} {w w' : World} {v : Value} {xs : List Value} (h : w.ownsRow base e k v n xs) (hb : Below w.heap.size w w') : w'.ownsRow base e k v n xs := by
  obtain ⟨h1, h2 | ⟨g, cap, cur, hv, hg, hh, r⟩⟩ := h
  · exact ⟨h1, .inl h2⟩
  · refine ⟨h1, .inr ⟨g, cap, cur, hv, hg, ?_, r⟩⟩
    rw [hb.block g ?_]
    · exact hh
    · rcases Nat.lt_or_ge g w.heap.size with h' | h'
      · exact h'
      · rw [Array.getElem?_eq_none h'] at hh; cases hh

theorem owns_base {base base' : Nat} {e : TypeId} {k n : Nat} {w : World} {v : Value} {xs : List Value} (h : w.ownsRow base e k v n xs) (hb : base' ≤ base) : w.ownsRow base' e k v n xs := by
  obtain ⟨h1, h2 | ⟨g, cap, cur, hv, hg, hh, r⟩⟩ := h
  · exact ⟨h1, .inl h2⟩
  · exact ⟨h1, .inr ⟨g, cap, cur, hv, Nat.le_trans hb hg, hh, r⟩⟩

theorem flatMap_at {α : Type} {enc : α → List Value} {k : Nat} (hk : 0 < k) (he : ∀ x, (enc x).length = k) (xs : List α) (j : Nat) (u : Value) (h : (xs.flatMap enc)[j]? = some u) :
    ∃ x, xs[j / k]? = some x ∧ (enc x)[j % k]? = some u := by
  have hj : j < xs.length * k := by rw [← flatMap_len he xs]; exact (List.getElem?_eq_some_iff.1 h).1
  have hi : j / k < xs.length := Nat.div_lt_of_lt_mul (by rw [Nat.mul_comm]; exact hj)
  refine ⟨xs[j / k], by simp [hi], ?_⟩
  rw [← flatMap_get he xs (j / k) xs[j / k] (by simp [hi]) (j % k) (Nat.mod_lt _ hk), ← h]
  congr 1
  have := Nat.div_add_mod j k
  rw [Nat.mul_comm] at this
  omega

theorem Row.news {α : Type} {enc : α → List Value} {k B : Nat} {w : World} {ad : Addr} {ys : List α} (hk : 0 < k) (he : ∀ x, (enc x).length = k) (h : Row enc k B w (some ad) ys) :
    ∀ j u, (ys.flatMap enc)[j]? = some u → w.cell? (ad.add j) = some u := by
  intro j u hj
  obtain ⟨x, hx, hu⟩ := flatMap_at hk he ys j u hj
  obtain ⟨b, off, ha, _, hc⟩ := h _ x hx
  simp only [Option.some.injEq] at ha
  subst ha
  have h1 := hc _ u hu
  have e : (⟨b, off, none⟩ : Addr).add j = ⟨b, off + j / k * k + j % k, none⟩ := by
    have h2 : off + j / k * k + j % k = off + j := by
      have := Nat.div_add_mod j k
      rw [Nat.mul_comm] at this
      omega
    unfold Addr.add
    split
    · rename_i h0; rw [h2, h0]; rfl
    · rw [h2]
  rw [e]
  exact h1

/-- APPENDING A LIST to a slice that the call owns, wherever the list lies (nil too). -/
theorem wpList_append_list {α : Type} {enc : α → List Value} {P : Program} {w : World} {ops : Array Oper} {rest : List Oper} {o : Oper} {a : Act} {Q : Exit → Act → World → Prop} (hgd : o.guard = none) (s x : Operand) (t : TypeId)
    (ho : o.op = .call { callee := .builtin .append, args := #[s, x], argTypes := #[t, t] })
    (base : Nat) (e : TypeId) (i : TypeInfo) (z : Value) (size bytes : Nat) (ht : P.underlying t = some (.slice e)) (hi : P.info? e = some i) (hz : i.zero = some z)
    (hsize : i.size = size) (hby : i.bytes = bytes) (hzs : z.cells.size = size) (hsz : 0 < size) (he : ∀ x : α, (enc x).length = size) (h1 : ∀ (x : α), ∀ u ∈ enc x, u.oneCell' = true)
    (v : Value) (xs : List α) (hs : a.eval s = v) (hown : w.ownsRow base e size v xs.length (xs.flatMap enc))
    (ad : Option Addr) (c : Nat) (ys : List α) (hx : a.eval x = .slice ad ys.length c) (hc : ad = none → c = 0) {B : Nat} (hrow : Row enc size B w ad ys)
    (h63 : xs.length + ys.length ≤ maxLen) (hbytes : (xs.length + ys.length) * bytes ≤ 140737488355328) (hbase : base ≤ w.heap.size)
    (h : ∀ v' w', w'.ownsRow base e size v' (xs ++ ys).length ((xs ++ ys).flatMap enc) → w.grownBy w' v.ownBlock → wpList P ops Q rest (a.put o.dst v') w') : wpList P ops Q (o :: rest) a w := by
  cases ad with
  | none =>
    have hys : ys = [] := by
      cases ys with
      | nil => rfl
      | cons y ys => obtain ⟨b, off, ha, _⟩ := hrow 0 y rfl; cases ha
    subst hys
    have := hc rfl
    subst this
    exact wpList_append_own_none hgd s x t ho base e i size ht hi v xs.length _ hs hown hx (h v w (by simpa using hown) ⟨rfl, rfl, rfl, Nat.le_refl _, fun _ _ _ => rfl⟩)
  | some ad =>
    refine wpList_append_own w hgd s x t ho base e i z size bytes ht hi hz hsize hby hzs hsz v xs.length _ hs hown ad ys.length c (ys.flatMap enc) hx (flatMap_len he ys) (hrow.news hsz he) ?_ h63 hbytes hbase ?_
    · intro u hu
      obtain ⟨y, _, hy⟩ := List.mem_flatMap.1 hu
      exact h1 y u hy
    · intro v' w' ho' hg _
      exact h v' w' (by simpa [List.length_append] using ho') hg

/-! ### A block of the call's own, known whole -/
def Blk (w : World) (b : Nat) (arr : Array Value) (t : TypeId) : Prop := w.heap[b]? = some (.cells arr t (0, 0))
theorem Blk.lt {w : World} {b : Nat} {arr : Array Value} {t : TypeId} (h : Blk w b arr t) : b < w.heap.size := by
  rcases Nat.lt_or_ge b w.heap.size with h' | h'
  · exact h'
  · unfold Blk at h; rw [Array.getElem?_eq_none h'] at h; cases h
theorem Blk.cell {w : World} {b : Nat} {arr : Array Value} {t : TypeId} (h : Blk w b arr t) (i : Nat) : w.cell? ⟨b, i, none⟩ = arr[i]? := by
  unfold Blk at h
  simp [World.cell?, h]
theorem Blk.free {w : World} {b : Nat} {arr : Array Value} {t : TypeId} (h : Blk w b arr t) (i : Nat) : w.frozen? ⟨b, i, none⟩ = false := by
  unfold Blk at h
  simp [World.frozen?, h]
theorem Blk.keep {w w' : World} {b : Nat} {arr : Array Value} {t : TypeId} (h : Blk w b arr t) (hb : Kept w w') : Blk w' b arr t := by
  unfold Blk
  rw [hb.block b h.lt]
  exact h
theorem Blk.alloc {w : World} {b : Nat} {arr : Array Value} {t : TypeId} (h : Blk w b arr t) (o : Obj) : Blk (w.alloc o) b arr t :=
  h.keep ((Below.refl _ _).alloc (Nat.le_refl _) o)
theorem Blk.drew {w : World} {b : Nat} {arr : Array Value} {t : TypeId} (h : Blk w b arr t) : Blk w.drew b arr t := h
theorem Blk.new {w : World} {arr : Array Value} {t : TypeId} : Blk (w.alloc (.cells arr t)) w.heap.size arr t := by
  show (w.heap.push _)[w.heap.size]? = _
  simp
theorem Blk.set {w : World} {b : Nat} {arr : Array Value} {t : TypeId} (h : Blk w b arr t) (i : Nat) (v : Value) : Blk (w.setCell ⟨b, i, none⟩ v) b (arr.setIfInBounds i v) t := by
  unfold Blk at *
  simp [World.setCell, Array.getElem?_modify, h]
theorem Blk.other {w : World} {b : Nat} {arr : Array Value} {t : TypeId} (h : Blk w b arr t) {a : Addr} (hne : a.block ≠ b) (v : Value) : Blk (w.setCell a v) b arr t := by
  unfold Blk at *
  rw [Below.heap_setCell _ _ _ _ (Ne.symm hne)]
  exact h

/-- a new block of elements reads as a row -/
theorem Row.fresh {α : Type} {enc : α → List Value} {k : Nat} {w : World} {arr : Array Value} {e : TypeId} {xs : List α} (he : ∀ x, (enc x).length = k) (h : arr.toList = xs.flatMap enc) :
    Row enc k (w.alloc (.cells arr e)).heap.size (w.alloc (.cells arr e)) (some ⟨w.heap.size, 0, none⟩) xs := by
  intro i x hx
  refine ⟨w.heap.size, 0, rfl, by simp, fun j v hj => ?_⟩
  have hjk : j < k := by rw [← he x]; exact (List.getElem?_eq_some_iff.1 hj).1
  rw [(Blk.new (w := w) (arr := arr) (t := e)).cell, Nat.zero_add, ← Array.getElem?_toList, h, flatMap_get he xs i x hx j hjk]
  exact hj

/-! ### Cells that are numbers or bools, whatever structs they lie in -/
inductive Leaf where
  | int (k : IntKind)
  | bool
  deriving DecidableEq

def LeafOk : Leaf → Value → Prop
  | .int k, v => ∃ n, v = .int k n ∧ (Lit.int k n).wf = true
  | .bool, v => ∃ b, v = .bool b

/-- the leaves of a row of fields, each by f, the first of them at off -/
def leavesL (P : Program) (g : TypeId → Option (List Leaf)) : Nat → List Field → Option (List Leaf)
  | _, [] => some []
  | off, f :: fs => if f.offset = off then (g f.type).bind fun m => if m.length = P.cellsOf f.type then (leavesL P g (off + m.length) fs).map (m ++ ·) else none else none

/-- the leaves of a type that is made of integers, bools and structs alone -/
def leaves (P : Program) : Nat → TypeId → Option (List Leaf)
  | 0, _ => none
  | n + 1, t => match P.underlying t with
    | some (.int k) => some [.int k]
    | some .bool => some [.bool]
    | some (.struct fs) => (leavesL P (leaves P n) 0 fs.toList).bind fun l => if l.length = P.cellsOf t then some l else none
    | _ => none

/-- cells that are leaves -/
def LeavesOk (ls : List Leaf) (cs : List Value) : Prop := cs.length = ls.length ∧ ∀ (j : Nat) (f : Leaf), ls[j]? = some f → ∃ v, cs[j]? = some v ∧ LeafOk f v

theorem leavesL_ok {P : Program} {g : TypeId → Option (List Leaf)} {cs : List Value} : ∀ (fs : List Field) (off : Nat) (ls : List Leaf),
    leavesL P g off fs = some ls → (∀ f ∈ fs, ∀ m, g f.type = some m → LeavesOk m ((cs.drop f.offset).take (P.cellsOf f.type))) →
    ∀ (j : Nat) (f : Leaf), ls[j]? = some f → ∃ v, cs[off + j]? = some v ∧ LeafOk f v
  | [], off, ls, h, _, j, f, hj => by simp [leavesL] at h; subst h; simp at hj
  | f :: fs, off, ls, h, hf, j, lf, hj => by
    simp only [leavesL] at h
    split at h
    · rename_i ho
      obtain ⟨m, hm, h⟩ := Option.bind_eq_some_iff.1 h
      split at h
      · rename_i hml
        obtain ⟨rest, hr, rfl⟩ := Option.map_eq_some_iff.1 h
        by_cases hjm : j < m.length
        · rw [List.getElem?_append_left hjm] at hj
          obtain ⟨_, h2⟩ := hf f (by simp) m hm
          obtain ⟨v, hv, hok⟩ := h2 j lf hj
          refine ⟨v, ?_, hok⟩
          rw [List.getElem?_take, List.getElem?_drop] at hv
          split at hv
          · rw [← ho]; exact hv
          · simp at hv
        · rw [List.getElem?_append_right (by omega)] at hj
          obtain ⟨v, hv, hok⟩ := leavesL_ok fs (off + m.length) rest hr (fun f' hf' => hf f' (by simp [hf'])) (j - m.length) lf hj
          exact ⟨v, by rw [← hv]; congr 1; omega, hok⟩
      · simp at h
    · simp at h

section
variable {H : Type} {enc : TypeId × Value → H} {P : Program} {w : World} {base : Nat} {spare : Nat → Bool} {held : Bool}

theorem leaves_ok (n : Nat) : ∀ (t : TypeId) (ls : List Leaf) (fuel : Nat) (cs : List Value) (x : DataW H × List MemPlace), leaves P n t = some ls → DataW.trod enc P w base spare held fuel t cs = some x → LeavesOk ls cs := by
  induction n with
  | zero => intro t ls fuel cs x h; simp [leaves] at h
  | succ n ih =>
    intro t ls fuel cs x h hx
    unfold leaves at h
    split at h
    · rename_i k hk
      simp only [Option.some.injEq] at h
      subst h
      obtain ⟨q, rfl, _, hw⟩ := DataW.trod_int hk hx
      refine ⟨rfl, fun j f hj => ?_⟩
      cases j with
      | zero => simp at hj; subst hj; exact ⟨_, rfl, q, rfl, hw⟩
      | succ j => simp at hj
    · rename_i hk
      simp only [Option.some.injEq] at h
      subst h
      obtain ⟨q, rfl, _⟩ := DataW.trod_bool hk hx
      refine ⟨rfl, fun j f hj => ?_⟩
      cases j with
      | zero => simp at hj; subst hj; exact ⟨_, rfl, q, rfl⟩
      | succ j => simp at hj
    · rename_i fs hk
      obtain ⟨l, hl, h⟩ := Option.bind_eq_some_iff.1 h
      split at h
      · rename_i hlen
        simp only [Option.some.injEq] at h
        subst h
        obtain ⟨xs, m, _, _, hcl, hxl, hg⟩ := DataW.trod_struct hk hx
        refine ⟨by rw [hcl, hlen], fun j f hj => ?_⟩
        have := leavesL_ok (cs := cs) fs.toList 0 l hl (fun f' hf' q hq => by
          obtain ⟨i, hi, rfl⟩ := List.mem_iff_getElem.1 hf'
          have hi' : i < fs.size := by simpa using hi
          have h1 := hg i fs[i] (by simp [hi'])
          have hx1 : xs[i]? = some (xs[i]'(by omega)) := List.getElem?_eq_getElem (by omega)
          rw [hx1] at h1
          simpa using ih _ _ _ _ _ hq h1) j f hj
        simpa using this
      · simp at h
    · simp at h

/-- A SLICE OF SUCH ELEMENTS, OPENED: its elements' cells. -/
theorem open_leaves {t e : TypeId} {n : Nat} {ls : List Leaf} {fuel : Nat} {cs : List Value} {x : DataW H × List MemPlace} (ht : P.underlying t = some (.slice e)) (hls : leaves P n e = some ls) (hk : P.cellsOf e = ls.length) (hne : 0 < ls.length)
    (h : DataW.trod enc P w base spare held fuel t cs = some x) :
    ∃ (a : Option Addr) (cap : Nat) (xs : List (List Value)), cs = [.slice a xs.length cap] ∧ xs.length ≤ cap ∧ cap ≤ maxLen ∧ Row id ls.length w.heap.size w a xs ∧ (∀ x ∈ xs, LeavesOk ls x) ∧ (a = none → cap = 0) := by
  rcases Go.Deep.open_slice ht h with ⟨rfl, _⟩ | ⟨a, len, cap, m, q, D, Pl, rfl, hb, hl, hm, hmm, _, hi⟩
  · exact ⟨none, 0, [], rfl, by simp, by simp [maxLen], Row.nil, by simp, fun _ => rfl⟩
  · have hlm : len ≤ m := by subst hmm; split <;> omega
    obtain ⟨f, hf⟩ := Go.Deep.choose_lt (n := len) (p := fun i cs' => w.cells? base (a.add (i * P.cellsOf e)) (P.cellsOf e) = some cs' ∧ DataW.trod enc P w base spare held q e cs' = some (D i, Pl i)) (fun i hil => hi i (by omega))
    refine ⟨some a, cap, (List.range len).map f, by simp, by simpa using hl, hm, ?_, ?_, by simp⟩
    · intro i y hy
      have hil : i < len := by
        have := (List.getElem?_eq_some_iff.1 hy).1
        simpa using this
      simp [hil] at hy
      subst hy
      have hsp : a.spot = none := by
        obtain ⟨hc, ht'⟩ := hf 0 (by omega)
        obtain ⟨_, hcl, hat⟩ := World.cells?_some hc
        have h1 := hat 0 (by omega)
        have hv : (f 0)[0]? = some ((f 0)[0]'(by omega)) := List.getElem?_eq_getElem (by omega)
        rw [hv] at h1
        have := World.cell?_spot h1
        simpa [Addr.add] using this
      obtain ⟨ab, ao, asp⟩ := a
      simp at hsp
      subst hsp
      obtain ⟨hc, ht'⟩ := hf i hil
      obtain ⟨_, hcl, hat⟩ := World.cells?_some hc
      have hat' : ∀ j, j < ls.length → w.cell? ⟨ab, ao + i * ls.length + j, none⟩ = (f i)[j]? := by
        intro j hj
        have h1 := hat j (by omega)
        rw [Go.Deep.add_add, hk] at h1
        rw [← h1]
        congr 1
        unfold Addr.add
        split
        · rename_i h0
          have h3 : ao + i * ls.length + j = ao := by omega
          rw [h3]
        · simp [Nat.add_assoc]
      refine ⟨ab, ao, rfl, ?_, fun j v hj => ?_⟩
      · have h0 := hat' 0 hne
        have hv : (f i)[0]? = some ((f i)[0]'(by omega)) := List.getElem?_eq_getElem (by omega)
        rw [hv] at h0
        rcases Nat.lt_or_ge ab w.heap.size with h' | h'
        · exact h'
        · simp [World.cell?, Array.getElem?_eq_none h'] at h0
      · have hjl : j < (f i).length := (List.getElem?_eq_some_iff.1 hj).1
        rw [hat' j (by omega)]
        exact hj
    · intro y hy
      simp at hy
      obtain ⟨i, hil, rfl⟩ := hy
      obtain ⟨hc, ht'⟩ := hf i hil
      exact leaves_ok n _ _ _ _ _ hls ht'

theorem Row.of_map {α : Type} {enc : α → List Value} {k B : Nat} {w : World} {a : Option Addr} {ys : List α} (h : Row id k B w a (ys.map enc)) : Row enc k B w a ys := by
  intro i x hx
  exact h i (enc x) (by simp [hx])

theorem decode {α : Type} {enc : α → List Value} {wf : α → Prop} {ls : List Leaf} (hdec : ∀ cs, LeavesOk ls cs → ∃ x : α, cs = enc x ∧ wf x) : ∀ (xs : List (List Value)), (∀ x ∈ xs, LeavesOk ls x) →
    ∃ ys : List α, xs = ys.map enc ∧ ∀ y ∈ ys, wf y
  | [], _ => ⟨[], rfl, by simp⟩
  | c :: cs, h => by
    obtain ⟨y, rfl, hy⟩ := hdec c (h c (by simp))
    obtain ⟨ys, rfl, hys⟩ := decode hdec cs (fun x hx => h x (by simp [hx]))
    exact ⟨y :: ys, rfl, by simpa using ⟨hy, hys⟩⟩

/-- A slice that came in, opened to a list of plain things. -/
theorem open_typed {α : Type} {enc' : α → List Value} {wf : α → Prop} {ls : List Leaf} (hdec : ∀ cs, LeavesOk ls cs → ∃ x : α, cs = enc' x ∧ wf x) {t e : TypeId} {n : Nat} {fuel : Nat} {cs : List Value} {x : DataW H × List MemPlace}
    (ht : P.underlying t = some (.slice e)) (hls : leaves P n e = some ls) (hk : P.cellsOf e = ls.length) (hne : 0 < ls.length) (h : DataW.trod enc P w base spare held fuel t cs = some x) :
    ∃ (a : Option Addr) (cap : Nat) (ys : List α), cs = [.slice a ys.length cap] ∧ ys.length ≤ cap ∧ cap ≤ maxLen ∧ Row enc' ls.length w.heap.size w a ys ∧ (∀ y ∈ ys, wf y) ∧ (a = none → cap = 0) := by
  obtain ⟨a, cap, xs, rfl, h1, h2, h3, h4, h5⟩ := open_leaves ht hls hk hne h
  obtain ⟨ys, rfl, hys⟩ := decode hdec xs h4
  exact ⟨a, cap, ys, by simp, by simpa using h1, h2, h3.of_map, hys, h5⟩
end

/-! ### Regions that draw their order and only read or call: one walk of the text's order -/
/-- a world in which all that was there is as it was -/
structure Later (w : World) where
  val : World
  ok : Below w.heap.size w val
instance {w : World} : Nonempty (Later w) := ⟨⟨w, Below.refl _ _⟩⟩

theorem Later.cell {w : World} (g : Later w) {b o : Nat} (h : b < w.heap.size) : g.val.cell? ⟨b, o, none⟩ = w.cell? ⟨b, o, none⟩ := g.ok.cell (p := ⟨b, o, none⟩) h
theorem Later.some {w : World} (g : Later w) {b o : Nat} {v : Value} (h : w.cell? ⟨b, o, none⟩ = some v) : g.val.cell? ⟨b, o, none⟩ = some v := by
  rw [g.cell, h]
  rcases Nat.lt_or_ge b w.heap.size with h' | h'
  · exact h'
  · simp [World.cell?, Array.getElem?_eq_none h'] at h

theorem Later.region {P : Program} {id : Nat} {Q : Exit → Act → World → Prop} {a : Act} {w : World} {l : List Oper} (hm : P.follows .mixedOrders = true) (hB : Region.lexB .any l.toArray = true)
    (h : wpQuiet P l.toArray (fun w' => ∃ g : Later w, w' = g.val) (fun a' => ∀ g : Later w, Q .normal a' g.val) l a) : (Code.region id l.toArray true).wp P Q a w :=
  wp_region_quiet (C := fun w' => ∃ g : Later w, w' = g.val) hm hB ⟨⟨w.drew, (Below.refl _ _).drew⟩, rfl⟩ (by
    have e : (fun a' => ∀ w', (∃ g : Later w, w' = g.val) → Q .normal a' w') = (fun a' => ∀ g : Later w, Q .normal a' g.val) := by
      funext a'
      exact propext ⟨fun h g => h _ ⟨g, rfl⟩, fun h _ ⟨g, hg⟩ => hg ▸ h g⟩
    rw [e]
    simpa using h)

/-- a contract, met in such a region -/
theorem Later.call {P : Program} {f : FuncId} {args : Array Value} {w : World} {g : Later w} {v : Value}
    (h : Calls P f args g.val fun e w' => e = .returned v ∧ Kept g.val w') : Calls P f args g.val fun e w'' => e = .returned v ∧ ∃ g' : Later w, w'' = g'.val :=
  h.mono fun _ w'' ⟨he, hk⟩ => ⟨he, ⟨w'', Kept.drop g.ok hk⟩, rfl⟩
theorem Later.call_same {P : Program} {f : FuncId} {args : Array Value} {w : World} {g : Later w} {v : Value}
    (h : Calls P f args g.val fun e w' => e = .returned v ∧ g.val = w') : Calls P f args g.val fun e w'' => e = .returned v ∧ ∃ g' : Later w, w'' = g'.val :=
  h.mono fun _ _ ⟨he, hk⟩ => ⟨he, g, hk.symm⟩

end Bal

/-
  Structs as cells of memory. No program in sight.
-/
namespace Bal.Gas
open Go Go.RowKit Bal

def Cell.cells (x : Cell) : List Value := [.int .i64 x.room, .int .i64 x.helium, .int .i64 x.air, .int .i64 x.wlo, .int .i64 x.whi, .int .i64 x.leak, .int .i64 x.owed]
theorem Cell.row {B : Nat} {w : World} {a : Option Addr} {xs : List Cell} (h : Row Cell.cells 7 B w a xs) (i : Nat) (hi : i < xs.length) :
    ∃ b off, a = some ⟨b, off, none⟩ ∧ b < B ∧ w.cell? ⟨b, off + i * 7, none⟩ = some (.int .i64 xs[i].room) ∧ w.cell? ⟨b, off + i * 7 + 1, none⟩ = some (.int .i64 xs[i].helium) ∧ w.cell? ⟨b, off + i * 7 + 2, none⟩ = some (.int .i64 xs[i].air) ∧ w.cell? ⟨b, off + i * 7 + 3, none⟩ = some (.int .i64 xs[i].wlo) ∧ w.cell? ⟨b, off + i * 7 + 4, none⟩ = some (.int .i64 xs[i].whi) ∧ w.cell? ⟨b, off + i * 7 + 5, none⟩ = some (.int .i64 xs[i].leak) ∧ w.cell? ⟨b, off + i * 7 + 6, none⟩ = some (.int .i64 xs[i].owed) := by
  obtain ⟨b, off, ha, hb, hc⟩ := h i xs[i] (by simp [hi])
  exact ⟨b, off, ha, hb, hc 0 _ rfl, hc 1 _ rfl, hc 2 _ rfl, hc 3 _ rfl, hc 4 _ rfl, hc 5 _ rfl, hc 6 _ rfl⟩
theorem Cell.of_leaves {cs : List Value} (h : LeavesOk [.int .i64, .int .i64, .int .i64, .int .i64, .int .i64, .int .i64, .int .i64] cs) : ∃ x : Cell, cs = x.cells ∧ (Lit.int .i64 x.room).wf = true ∧ (Lit.int .i64 x.helium).wf = true ∧ (Lit.int .i64 x.air).wf = true ∧ (Lit.int .i64 x.wlo).wf = true ∧ (Lit.int .i64 x.whi).wf = true ∧ (Lit.int .i64 x.leak).wf = true ∧ (Lit.int .i64 x.owed).wf = true := by
  obtain ⟨hl, h⟩ := h
  match cs, hl with
  | [v0, v1, v2, v3, v4, v5, v6], _ =>
    obtain ⟨_, e0, n0, rfl, w0⟩ := h 0 (.int .i64) rfl; simp at e0; subst e0
    obtain ⟨_, e1, n1, rfl, w1⟩ := h 1 (.int .i64) rfl; simp at e1; subst e1
    obtain ⟨_, e2, n2, rfl, w2⟩ := h 2 (.int .i64) rfl; simp at e2; subst e2
    obtain ⟨_, e3, n3, rfl, w3⟩ := h 3 (.int .i64) rfl; simp at e3; subst e3
    obtain ⟨_, e4, n4, rfl, w4⟩ := h 4 (.int .i64) rfl; simp at e4; subst e4
    obtain ⟨_, e5, n5, rfl, w5⟩ := h 5 (.int .i64) rfl; simp at e5; subst e5
    obtain ⟨_, e6, n6, rfl, w6⟩ := h 6 (.int .i64) rfl; simp at e6; subst e6
    exact ⟨⟨n0, n1, n2, n3, n4, n5, n6⟩, rfl, w0, w1, w2, w3, w4, w5, w6⟩

def Air.cells (x : Air) : List Value := [.int .i64 x.plo, .int .i64 x.phi, .int .i64 x.tlo, .int .i64 x.thi]
theorem Air.row {B : Nat} {w : World} {a : Option Addr} {xs : List Air} (h : Row Air.cells 4 B w a xs) (i : Nat) (hi : i < xs.length) :
    ∃ b off, a = some ⟨b, off, none⟩ ∧ b < B ∧ w.cell? ⟨b, off + i * 4, none⟩ = some (.int .i64 xs[i].plo) ∧ w.cell? ⟨b, off + i * 4 + 1, none⟩ = some (.int .i64 xs[i].phi) ∧ w.cell? ⟨b, off + i * 4 + 2, none⟩ = some (.int .i64 xs[i].tlo) ∧ w.cell? ⟨b, off + i * 4 + 3, none⟩ = some (.int .i64 xs[i].thi) := by
  obtain ⟨b, off, ha, hb, hc⟩ := h i xs[i] (by simp [hi])
  exact ⟨b, off, ha, hb, hc 0 _ rfl, hc 1 _ rfl, hc 2 _ rfl, hc 3 _ rfl⟩
theorem Air.of_leaves {cs : List Value} (h : LeavesOk [.int .i64, .int .i64, .int .i64, .int .i64] cs) : ∃ x : Air, cs = x.cells ∧ (Lit.int .i64 x.plo).wf = true ∧ (Lit.int .i64 x.phi).wf = true ∧ (Lit.int .i64 x.tlo).wf = true ∧ (Lit.int .i64 x.thi).wf = true := by
  obtain ⟨hl, h⟩ := h
  match cs, hl with
  | [v0, v1, v2, v3], _ =>
    obtain ⟨_, e0, n0, rfl, w0⟩ := h 0 (.int .i64) rfl; simp at e0; subst e0
    obtain ⟨_, e1, n1, rfl, w1⟩ := h 1 (.int .i64) rfl; simp at e1; subst e1
    obtain ⟨_, e2, n2, rfl, w2⟩ := h 2 (.int .i64) rfl; simp at e2; subst e2
    obtain ⟨_, e3, n3, rfl, w3⟩ := h 3 (.int .i64) rfl; simp at e3; subst e3
    exact ⟨⟨n0, n1, n2, n3⟩, rfl, w0, w1, w2, w3⟩

def Hull.cells (x : Hull) : List Value := [.int .i64 x.room, .int .i64 x.gas, .int .i64 x.ballonet, .int .i64 x.bag, .int .i64 x.wlo, .int .i64 x.whi, .int .i64 x.least, .int .i64 x.most]
theorem Hull.row {B : Nat} {w : World} {a : Option Addr} {xs : List Hull} (h : Row Hull.cells 8 B w a xs) (i : Nat) (hi : i < xs.length) :
    ∃ b off, a = some ⟨b, off, none⟩ ∧ b < B ∧ w.cell? ⟨b, off + i * 8, none⟩ = some (.int .i64 xs[i].room) ∧ w.cell? ⟨b, off + i * 8 + 1, none⟩ = some (.int .i64 xs[i].gas) ∧ w.cell? ⟨b, off + i * 8 + 2, none⟩ = some (.int .i64 xs[i].ballonet) ∧ w.cell? ⟨b, off + i * 8 + 3, none⟩ = some (.int .i64 xs[i].bag) ∧ w.cell? ⟨b, off + i * 8 + 4, none⟩ = some (.int .i64 xs[i].wlo) ∧ w.cell? ⟨b, off + i * 8 + 5, none⟩ = some (.int .i64 xs[i].whi) ∧ w.cell? ⟨b, off + i * 8 + 6, none⟩ = some (.int .i64 xs[i].least) ∧ w.cell? ⟨b, off + i * 8 + 7, none⟩ = some (.int .i64 xs[i].most) := by
  obtain ⟨b, off, ha, hb, hc⟩ := h i xs[i] (by simp [hi])
  exact ⟨b, off, ha, hb, hc 0 _ rfl, hc 1 _ rfl, hc 2 _ rfl, hc 3 _ rfl, hc 4 _ rfl, hc 5 _ rfl, hc 6 _ rfl, hc 7 _ rfl⟩
theorem Hull.of_leaves {cs : List Value} (h : LeavesOk [.int .i64, .int .i64, .int .i64, .int .i64, .int .i64, .int .i64, .int .i64, .int .i64] cs) : ∃ x : Hull, cs = x.cells ∧ (Lit.int .i64 x.room).wf = true ∧ (Lit.int .i64 x.gas).wf = true ∧ (Lit.int .i64 x.ballonet).wf = true ∧ (Lit.int .i64 x.bag).wf = true ∧ (Lit.int .i64 x.wlo).wf = true ∧ (Lit.int .i64 x.whi).wf = true ∧ (Lit.int .i64 x.least).wf = true ∧ (Lit.int .i64 x.most).wf = true := by
  obtain ⟨hl, h⟩ := h
  match cs, hl with
  | [v0, v1, v2, v3, v4, v5, v6, v7], _ =>
    obtain ⟨_, e0, n0, rfl, w0⟩ := h 0 (.int .i64) rfl; simp at e0; subst e0
    obtain ⟨_, e1, n1, rfl, w1⟩ := h 1 (.int .i64) rfl; simp at e1; subst e1
    obtain ⟨_, e2, n2, rfl, w2⟩ := h 2 (.int .i64) rfl; simp at e2; subst e2
    obtain ⟨_, e3, n3, rfl, w3⟩ := h 3 (.int .i64) rfl; simp at e3; subst e3
    obtain ⟨_, e4, n4, rfl, w4⟩ := h 4 (.int .i64) rfl; simp at e4; subst e4
    obtain ⟨_, e5, n5, rfl, w5⟩ := h 5 (.int .i64) rfl; simp at e5; subst e5
    obtain ⟨_, e6, n6, rfl, w6⟩ := h 6 (.int .i64) rfl; simp at e6; subst e6
    obtain ⟨_, e7, n7, rfl, w7⟩ := h 7 (.int .i64) rfl; simp at e7; subst e7
    exact ⟨⟨n0, n1, n2, n3, n4, n5, n6, n7⟩, rfl, w0, w1, w2, w3, w4, w5, w6, w7⟩

def Ratio.cells (x : Ratio) : List Value := [.int .i64 x.num, .int .i64 x.den]
theorem Ratio.row {B : Nat} {w : World} {a : Option Addr} {xs : List Ratio} (h : Row Ratio.cells 2 B w a xs) (i : Nat) (hi : i < xs.length) :
    ∃ b off, a = some ⟨b, off, none⟩ ∧ b < B ∧ w.cell? ⟨b, off + i * 2, none⟩ = some (.int .i64 xs[i].num) ∧ w.cell? ⟨b, off + i * 2 + 1, none⟩ = some (.int .i64 xs[i].den) := by
  obtain ⟨b, off, ha, hb, hc⟩ := h i xs[i] (by simp [hi])
  exact ⟨b, off, ha, hb, hc 0 _ rfl, hc 1 _ rfl⟩
theorem Ratio.of_leaves {cs : List Value} (h : LeavesOk [.int .i64, .int .i64] cs) : ∃ x : Ratio, cs = x.cells ∧ (Lit.int .i64 x.num).wf = true ∧ (Lit.int .i64 x.den).wf = true := by
  obtain ⟨hl, h⟩ := h
  match cs, hl with
  | [v0, v1], _ =>
    obtain ⟨_, e0, n0, rfl, w0⟩ := h 0 (.int .i64) rfl; simp at e0; subst e0
    obtain ⟨_, e1, n1, rfl, w1⟩ := h 1 (.int .i64) rfl; simp at e1; subst e1
    exact ⟨⟨n0, n1⟩, rfl, w0, w1⟩

end Bal.Gas

/-
  Regions that draw their order: first operations that only read or call (calls may make memory), then operations in one forced order (stores): one walk in the text's order. No program in sight.
-/
namespace Bal
open Go Go.RowKit

theorem Blk.new' {w : World} {n : Nat} {arr : Array Value} {t : TypeId} (h : n = w.heap.size) : Blk (w.alloc (.cells arr t)) n arr t := h ▸ Blk.new
/-- the world of a walk, by what is known of it alone -/
theorem at_world {P : Program} {c : Code} {Q : Exit → Act → World → Prop} {a : Act} {S : World → Prop} {W : World} (h : S W) (k : ∀ W, S W → c.wp P Q a W) : c.wp P Q a W := k W h
theorem Blk.later {w : World} {b : Nat} {arr : Array Value} {t : TypeId} (h : Blk w b arr t) (g : Later w) : Blk g.val b arr t := h.keep g.ok
theorem Blk.cast {w : World} {b : Nat} {arr arr' : Array Value} {t : TypeId} (h : Blk w b arr t) (e : arr = arr') : Blk w b arr' t := e ▸ h
/-- a block of the call's own, behind a contract -/
theorem Blk.thru {w w' : World} {b : Nat} {arr : Array Value} {t : TypeId} {G : Prop} (h : Blk w b arr t) (hb : Kept w w') (k : Blk w' b arr t → G) : G := k (h.keep hb)

/-! ### Facts on worlds and blocks, each by one tactic that is laid here once -/
theorem kpt0 {w w' : World} (h : Kept w w' := by (repeat (first | with_reducible exact Below.refl _ _ | with_reducible assumption | with_reducible refine Kept.drop ?_ (by with_reducible assumption) | with_reducible refine Kept.alloc ?_ _ | with_reducible refine Below.drew ?_))) : Kept w w' := h
theorem kpt {w w' : World} (h : Kept w w' := by (repeat (first | with_reducible exact Below.refl _ _ | with_reducible assumption | with_reducible refine Kept.drop ?_ (by with_reducible assumption) | with_reducible refine Kept.alloc ?_ _ | ((with_reducible refine Below.setCell ?_ ?_ _); rotate_left 1; (focus (first | exact Nat.le_refl _ | (simp; done) | (simp; omega) | exact Below.size (by with_reducible assumption) | (refine Kept.size ?_; (repeat (first | with_reducible exact Below.refl _ _ | with_reducible assumption | with_reducible refine Kept.drop ?_ (by with_reducible assumption) | with_reducible refine Kept.alloc ?_ _ | with_reducible refine Below.drew ?_)))))) | with_reducible refine Below.drew ?_))) : Kept w w' := h
theorem blk0 {w : World} {b : Nat} {arr : Array Value} {t : TypeId} (h : Blk w b arr t := by (repeat (first | with_reducible assumption | ((with_reducible refine Blk.new' ?_); first | with_reducible rfl | (simp; done) | (simp [World.drew]; done)) | with_reducible refine Blk.alloc ?_ _ | with_reducible refine Blk.keep ?_ (by with_reducible assumption) | with_reducible refine Blk.drew ?_))) : Blk w b arr t := h
theorem blk {w : World} {b : Nat} {arr : Array Value} {t : TypeId} (h : Blk w b arr t := by (repeat (first | with_reducible assumption | ((with_reducible refine Blk.new' ?_); first | with_reducible rfl | (simp; done) | (simp [World.drew]; done)) | with_reducible refine Blk.alloc ?_ _ | ((with_reducible refine Blk.set (arr := ?_) ?_ _ _); rotate_left 1) | ((with_reducible refine Blk.other ?_ ?_ _); rotate_left 1; (focus (first | (simp; done) | (simp; omega) | (refine Nat.ne_of_gt (Blk.lt (arr := ?_) (t := ?_) ?_); rotate_left 2; focus (repeat (first | with_reducible assumption | ((with_reducible refine Blk.new' ?_); first | with_reducible rfl | (simp; done) | (simp [World.drew]; done)) | with_reducible refine Blk.alloc ?_ _ | with_reducible refine Blk.keep ?_ (by with_reducible assumption) | with_reducible refine Blk.drew ?_))) | (refine Nat.ne_of_lt (Blk.lt (arr := ?_) (t := ?_) ?_); rotate_left 2; focus (repeat (first | with_reducible assumption | ((with_reducible refine Blk.new' ?_); first | with_reducible rfl | (simp; done) | (simp [World.drew]; done)) | with_reducible refine Blk.alloc ?_ _ | with_reducible refine Blk.keep ?_ (by with_reducible assumption) | with_reducible refine Blk.drew ?_)))))) | with_reducible refine Blk.keep ?_ (by with_reducible assumption) | with_reducible refine Blk.drew ?_))) : Blk w b arr t := h
theorem blkc {w : World} {b : Nat} {arr : Array Value} {t : TypeId} (h : Blk w b arr t := by (refine Blk.cast (arr := ?_) ?_ ?_; rotate_left 1; (focus (repeat (first | with_reducible assumption | ((with_reducible refine Blk.new' ?_); first | with_reducible rfl | (simp; done) | (simp [World.drew]; done)) | with_reducible refine Blk.alloc ?_ _ | ((with_reducible refine Blk.set (arr := ?_) ?_ _ _); rotate_left 1) | ((with_reducible refine Blk.other ?_ ?_ _); rotate_left 1; (focus (first | (simp; done) | (simp; omega) | (refine Nat.ne_of_gt (Blk.lt (arr := ?_) (t := ?_) ?_); rotate_left 2; focus (repeat (first | with_reducible assumption | ((with_reducible refine Blk.new' ?_); first | with_reducible rfl | (simp; done) | (simp [World.drew]; done)) | with_reducible refine Blk.alloc ?_ _ | with_reducible refine Blk.keep ?_ (by with_reducible assumption) | with_reducible refine Blk.drew ?_))) | (refine Nat.ne_of_lt (Blk.lt (arr := ?_) (t := ?_) ?_); rotate_left 2; focus (repeat (first | with_reducible assumption | ((with_reducible refine Blk.new' ?_); first | with_reducible rfl | (simp; done) | (simp [World.drew]; done)) | with_reducible refine Blk.alloc ?_ _ | with_reducible refine Blk.keep ?_ (by with_reducible assumption) | with_reducible refine Blk.drew ?_)))))) | with_reducible refine Blk.keep ?_ (by with_reducible assumption) | with_reducible refine Blk.drew ?_))); (first | rfl | (simp; done)))) : Blk w b arr t := h

section
variable {P : Program} {ops : Array Oper} {md : Region.Mode} {C : World → Prop}

/-- whatever order is picked of the first n operations -/
def wpHeadQ (P : Program) (md : Region.Mode) (ops : Array Oper) (C : World → Prop) (n : Nat) (L : Array Bool → Act → Prop) : Nat → Array Bool → Act → Prop
  | 0, listed, a => L listed a
  | f + 1, listed, a =>
    Region.ready md ops listed ≠ [] ∧ ∀ i ∈ Region.ready md ops listed, i < n ∧ qOp P ops C i (wpHeadQ P md ops C n L f (listed.setIfInBounds i true)) a

theorem wpAny_of_headQ {n g : Nat} {L : Array Bool → Act → Prop} {Q' : Exit → Act → World → Prop} (hL : ∀ listed a w, C w → L listed a → wpAny P md ops Q' g listed a w) :
    ∀ (f : Nat) (listed : Array Bool) (a : Act) (w : World), C w → wpHeadQ P md ops C n L f listed a → wpAny P md ops Q' (f + g) listed a w
  | 0, listed, a, w, hw, h => by rw [Nat.zero_add]; exact hL _ _ _ hw h
  | f + 1, listed, a, w, hw, h => by
    rw [show f + 1 + g = (f + g) + 1 by omega]
    exact ⟨fun h0 => absurd h0 h.1, fun i hi => wpOp_of_qOp hw (fun a' w' hw' h' => wpAny_of_headQ hL f _ a' w' hw' h') (h.2 i hi).2⟩

theorem wpHeadQ_first {n i : Nat} {oi : Oper} {v : Value} {L : Array Bool → Act → Prop} (hi : ops[i]? = some oi) (hsel : ∀ (j : Nat) (o : Oper) cs b, ops[j]? = some o → o.op ≠ .select cs b)
    (hs : Region.sinkB md ops n = true) (hc : Region.chainB md ops n = true) (hn : n < ops.size) (hin : i < n)
    (hdone : ∀ listed a, L listed a → ∀ j ∈ Region.ready md ops listed, n ≤ j) :
    ∀ (f : Nat) (listed : Array Bool) (a : Act), HeadInv md ops n listed →
      (∀ j oj, ops[j]? = some oj → j ≠ i → listed.getD j true = false → (∀ e ∈ oj.after, Region.binds md e = true → e.on ≠ i) → oi.apart ops oj = true) →
      i ∈ Region.ready md ops listed → YieldsIn P ops C oi v a →
      wpHeadQ P md ops C n L f (listed.setIfInBounds i true) (a.put oi.dst v) → wpHeadQ P md ops C n L (f + 1) listed a := by
  intro f
  induction f with
  | zero =>
    intro listed a inv _ hr hy H
    have hun := (mem_ready.1 hr).1
    refine ⟨fun h => (by rw [h] at hr; cases hr), fun j hj => ?_⟩
    have hjn : j < n := by
      rcases Nat.lt_or_ge j n with h | h
      · exact h
      · exact absurd hj (tail_waits hs hc hn inv _ i rfl hin hun j h)
    refine ⟨hjn, ?_⟩
    by_cases hji : j = i
    · subst hji; exact hy.qOp hi H
    · have := hdone _ _ H j (ready_mono hj hji)
      omega
  | succ f ih =>
    intro listed a inv hfree hr hy H
    have hun := (mem_ready.1 hr).1
    refine ⟨fun h => (by rw [h] at hr; cases hr), fun j hj => ?_⟩
    have hjn : j < n := by
      rcases Nat.lt_or_ge j n with h | h
      · exact h
      · exact absurd hj (tail_waits hs hc hn inv _ i rfl hin hun j h)
    refine ⟨hjn, ?_⟩
    by_cases hji : j = i
    · subst hji; exact hy.qOp hi H
    · have h1 := (H.2 j (ready_mono hj hji)).2
      obtain ⟨hjun, oj, hoj, hall⟩ := mem_ready.1 hj
      have hnot : ∀ e ∈ oj.after, Region.binds md e = true → e.on ≠ i := fun e he hb heq => by
        have h1 := hall e he hb
        rw [heq, getD_both hun] at h1
        cases h1
      have h2 := qOp_put hoj (hfree j oj hoj hji hjun hnot) (fun cs b => hsel i oi cs b hi) (fun cs b => hsel j oj cs b hoj) hy h1
      have hfree' : ∀ k ok, ops[k]? = some ok → k ≠ i → (listed.setIfInBounds j true).getD k true = false →
          (∀ e ∈ ok.after, Region.binds md e = true → e.on ≠ i) → oi.apart ops ok = true := fun k ok hk hki hun hno => by
        refine hfree k ok hk hki ?_ hno
        by_cases hjk : j = k
        · subst hjk; exact hjun
        · rw [getD_set_ne true hjk] at hun; exact hun
      refine qOp_mono (fun a' h3 => ih (listed.setIfInBounds j true) a' (inv.set hj hjn) hfree' (ready_mono hr (Ne.symm hji)) h3.1 ?_) h2
      rw [Array.setIfInBounds_comm _ _ hji]
      exact h3.2

theorem wpHeadQ_lex {n g : Nat} {Lq : Act → Prop} (hsel : Region.noSelect ops = true) (hs : Region.sinkB md ops n = true) (hc : Region.chainB md ops n = true) (hn : n < ops.size) :
    ∀ (l : List Oper) (k : Nat) (listed : Array Bool) (a : Act), (∀ j, j < l.length → l[j]? = ops[k + j]?) → k + l.length = n → HeadInv md ops n listed →
    Region.lexHead md ops g l.length k listed = true → wpQuiet P ops C Lq l a →
    wpHeadQ P md ops C n (fun listed' a' => Region.seqB md ops g n listed' = true ∧ Lq a') l.length listed a
  | [], k, listed, a, _, hk, _, hB, h => by
    have : k = n := by simpa using hk
    subst this
    exact ⟨by simpa [Region.lexHead] using hB, h⟩
  | o :: l, k, listed, a, hl, hk, inv, hB, h => by
    have h0 : ops[k]? = some o := by simpa using (hl 0 (by simp)).symm
    simp only [List.length_cons, Region.lexHead, Bool.and_eq_true] at hB
    obtain ⟨⟨hr, hf⟩, hB'⟩ := hB
    have hkn : k < n := by simp only [List.length_cons] at hk; omega
    have hr' : k ∈ Region.ready md ops listed := by simpa using hr
    have hst : qOp P ops C k (wpQuiet P ops C Lq l) a := by unfold qOp; simp only [h0]; exact h
    obtain ⟨v, hy, hK⟩ := yieldsIn_of_qOp h0 hst
    exact wpHeadQ_first h0 (Region.noSelect_spec hsel) hs hc hn hkn (fun listed' a' hL => seqB_ready hL.1) l.length listed a inv (Region.free_spec h0 hf) hr' hy
      (wpHeadQ_lex hsel hs hc hn l (k + 1) _ _ (fun j hj => by have := hl (j + 1) (by simp; omega); simpa [Nat.add_assoc, Nat.add_comm 1 j] using this) (by simp only [List.length_cons] at hk; omega) (inv.set hr' hkn) hB' hK)

/-- THE THEOREM: the first n operations quiet in the class, the rest in one forced order, from every world of the class. -/
theorem Later.tail {P : Program} {id : Nat} {Q : Exit → Act → World → Prop} {a : Act} {w : World} {l : List Oper} (n : Nat) (hm : P.follows .mixedOrders = true) (hB : Region.lexTailB .any l.toArray n = true)
    (h : wpQuiet P l.toArray (fun w' => ∃ g : Later w, w' = g.val) (fun a' => ∀ g : Later w, wpList P l.toArray Q (l.drop n) a' g.val) (l.take n) a) : (Code.region id l.toArray true).wp P Q a w := by
  simp only [Region.lexTailB, Bool.and_eq_true, decide_eq_true_eq] at hB
  obtain ⟨⟨⟨⟨hsel, hn⟩, hs⟩, hc⟩, hlex⟩ := hB
  have hn' : n < l.length := by simpa using hn
  have htl : (l.take n).length = n := by simp; omega
  have hdl : (l.drop n).length = l.toArray.size - n := by simp
  have inv0 : HeadInv .any l.toArray n (Array.replicate l.toArray.size false) :=
    ⟨by simp, fun j oj _ hl => (by rw [getD_replicate_false] at hl; cases hl), fun t _ ht => getD_in (by simpa using ht) (getD_replicate_false _ _)⟩
  have H := wpHeadQ_lex (md := .any) (g := l.toArray.size - n) hsel hs hc hn (l.take n) 0 _ a (fun j hj => by
    have hj' : j < n := by rw [htl] at hj; exact hj
    simp [hj']) (by simpa using htl) inv0 (by rw [htl]; exact hlex) h
  refine wp_region_any hm ?_
  have := wpAny_of_headQ (C := fun w' => ∃ g : Later w, w' = g.val) (Q' := Q) (g := l.toArray.size - n) (fun listed a' w' hw' hL => by
    obtain ⟨g, rfl⟩ := hw'
    have := wpAny_of_seq (md := .any) (Q' := Q) (l.drop n) n listed a' g.val (fun j => by simp [List.getElem?_drop]) (by rw [hdl]; exact hL.1) (hL.2 g)
    rwa [hdl] at this) _ _ _ { w with drawn := w.drawn + 1 } ⟨⟨w.drew, (Below.refl _ _).drew⟩, rfl⟩ H
  rw [htl, show n + (l.toArray.size - n) = l.toArray.size by omega] at this
  exact this
end
end Bal

/-
  Ranges, ratios and validity of cells and air, in the program and in the reference.
-/
namespace Go.Proofs.Ytemafanncejeiaa
open Go.RowKit Bal Bal.Trim Bal.Gas
set_option linter.unusedVariables false
set_option linter.unusedSimpArgs false
set_option maxHeartbeats 400000

theorem f_ranged (lo hi : Int) (a : Option Addr) (n cap : Nat) (xs : List Int) (w : World) (hn : xs.length = n) {B : Nat} (hx : Row icell 1 B w a xs) (h1 : n ≤ 1000000) :
    Calls Try.prog 91 #[.int .i64 lo, .int .i64 hi, .slice a n cap] w fun e w' => e = .returned (.bool (rng xs lo hi)) ∧ w = w' := by
  subst hn
  go_enter Try.func91, Try.ntmps91
  go_wp2
  go_loop [11] (fun i => ∃ k : Nat, k ≤ xs.length ∧ i = .int .i64 k ∧ (xs.take k).all (fun n => inB n lo hi) = true) (fun i => xs.length - (intOf i).toNat)
  case atStart => exact ⟨0, Nat.zero_le _, rfl, by simp⟩
  case round =>
    obtain ⟨k, hk, rfl, ha'⟩ := hrel
    have ha := Lib.hid ha'
    clear ha'
    by_cases hlt : k < xs.length
    · obtain ⟨b, off, rfl, _, ck⟩ := int_row hx k hlt
      have hbad : inB xs[k] lo hi = false → rng xs lo hi = false := fun hv => by
        unfold rng
        rw [Bool.eq_false_iff]
        intro h
        rw [List.all_eq_true.1 h _ (List.getElem_mem hlt)] at hv
        cases hv
      have HB := Lib.hid hbad
      clear hbad
      by_cases c1 : xs[k] < lo
      · go_wp2
        go_ret
        exact ⟨ret_bool (HB.out (by simp [inB]; omega)).symm, rfl⟩
      · by_cases c2 : hi < xs[k]
        · go_wp2
          go_ret
          exact ⟨ret_bool (HB.out (by simp [inB]; omega)).symm, rfl⟩
        · go_wp2
          go_round
          case rel => exact ⟨k + 1, by omega, by go_num, take_all hlt ha.out (by simp [inB]; omega)⟩
          case measure => simp [intOf]; omega
    · go_wp2
      go_ret
      have he : rng xs lo hi = true := by unfold rng; rw [← ha.out, List.take_of_length_le (by omega)]
      exact ⟨ret_bool he.symm, rfl⟩

theorem f_ranged1 (lo hi p : Int) (t : TypeId) (W : World) (m : Nat) (hm : m = W.heap.size) :
    Calls Try.prog 91 #[.int .i64 lo, .int .i64 hi, .slice (some ⟨m, 0, none⟩) 1 1] (W.alloc (.cells #[.int .i64 p] t))
      fun e w' => e = .returned (.bool (rng [p] lo hi)) ∧ W.alloc (.cells #[.int .i64 p] t) = w' := by
  subst hm
  exact f_ranged lo hi _ 1 1 [p] _ rfl (Row.fresh (enc := icell) (fun _ => rfl) rfl) (by decide)

theorem f_ranged2 (lo hi p q : Int) (t : TypeId) (W : World) (m : Nat) (hm : m = W.heap.size) :
    Calls Try.prog 91 #[.int .i64 lo, .int .i64 hi, .slice (some ⟨m, 0, none⟩) 2 2] (W.alloc (.cells #[.int .i64 p, .int .i64 q] t))
      fun e w' => e = .returned (.bool (rng [p, q] lo hi)) ∧ W.alloc (.cells #[.int .i64 p, .int .i64 q] t) = w' := by
  subst hm
  exact f_ranged lo hi _ 2 2 [p, q] _ rfl (Row.fresh (enc := icell) (fun _ => rfl) rfl) (by decide)

theorem f_ranged3 (lo hi p q r : Int) (t : TypeId) (W : World) (m : Nat) (hm : m = W.heap.size) :
    Calls Try.prog 91 #[.int .i64 lo, .int .i64 hi, .slice (some ⟨m, 0, none⟩) 3 3] (W.alloc (.cells #[.int .i64 p, .int .i64 q, .int .i64 r] t))
      fun e w' => e = .returned (.bool (rng [p, q, r] lo hi)) ∧ W.alloc (.cells #[.int .i64 p, .int .i64 q, .int .i64 r] t) = w' := by
  subst hm
  exact f_ranged lo hi _ 3 3 [p, q, r] _ rfl (Row.fresh (enc := icell) (fun _ => rfl) rfl) (by decide)

theorem f_span (x y lo hi : Int) (w : World) :
    Calls Try.prog 88 #[.agg #[.int .i64 x, .int .i64 y], .int .i64 lo, .int .i64 hi] w fun e w' => e = .returned (.bool (spanIn x y lo hi)) ∧ Kept w w' := by
  go_enter Try.func88, Try.ntmps88
  go_wp2_with (go_at_call 91; (with_reducible refine (f_ranged2 _ _ _ _  _ _ _ (by simp)).mono ?_); rintro e w1 ⟨rfl, rfl⟩)
  all_goals (go_ret; refine ⟨?_, by (exact kpt)⟩; simp [spanIn, *])
  all_goals omega

theorem f_temps (x y : Int) (w : World) :
    Calls Try.prog 89 #[.agg #[.int .i64 x, .int .i64 y]] w fun e w' => e = .returned (.bool (spanIn x y 1500 3500)) ∧ Kept w w' := by
  go_enter Try.func89, Try.ntmps89
  go_wp2_with (go_at_call 88; (with_reducible refine (f_span _ _ _ _ _).mono ?_); rintro e w1 ⟨rfl, hb1⟩; obtain ⟨hc1, hf1, hl1⟩ := bcell3 hb1)
  go_ret
  exact ⟨rfl, by (exact kpt)⟩

theorem f_CheckAir (a : Air) (w : World) :
    Calls Try.prog 26 #[.agg #[.int .i64 a.plo, .int .i64 a.phi, .int .i64 a.tlo, .int .i64 a.thi]] w fun e w' => e = .returned (.int .i64 (checkAir a)) ∧ Kept w w' := by
  go_enter Try.func26, Try.ntmps26
  go_wp2_with (first | (go_at_call 88; (with_reducible refine (f_span _ _ _ _ _).mono ?_); rintro e w1 ⟨rfl, hb1⟩; obtain ⟨hc1, hf1, hl1⟩ := bcell3 hb1) | (go_at_call 89; (with_reducible refine (f_temps _ _ _).mono ?_); rintro e w1 ⟨rfl, hb1⟩; obtain ⟨hc1, hf1, hl1⟩ := bcell3 hb1))
  all_goals (go_ret; refine ⟨ret_int ?_, by (exact kpt)⟩; simp_all [checkAir, airB])

theorem f_CheckCell (c : Cell) (w : World) :
    Calls Try.prog 28 #[.agg #[.int .i64 c.room, .int .i64 c.helium, .int .i64 c.air, .int .i64 c.wlo, .int .i64 c.whi, .int .i64 c.leak, .int .i64 c.owed]] w fun e w' => e = .returned (.int .i64 (checkCell c)) ∧ Kept w w' := by
  go_enter Try.func28, Try.ntmps28
  go_wp2_with (first | (go_at_call 91; (with_reducible refine (f_ranged1 _ _ _  _ _ _ (by simp)).mono ?_); rintro e w1 ⟨rfl, rfl⟩) | (go_at_call 91; (with_reducible refine (f_ranged2 _ _ _ _  _ _ _ (by simp)).mono ?_); rintro e w1 ⟨rfl, rfl⟩) | (go_at_call 88; (with_reducible refine (f_span _ _ _ _ _).mono ?_); rintro e w1 ⟨rfl, hb1⟩; obtain ⟨hc1, hf1, hl1⟩ := bcell3 hb1))
  all_goals (go_ret; refine ⟨ret_int ?_, by (exact kpt)⟩; simp_all [checkCell, cellB, cellFits])

end Go.Proofs.Ytemafanncejeiaa

/-
  A region that draws its order, walked once in an order that is told: first operations that need no world, then operations that only read or call (calls may make memory), then the rest in one forced order. No program in sight.
-/
namespace Bal
open Go Go.RowKit

section
variable {P : Program} {ops : Array Oper} {md : Region.Mode} {C : World → Prop}

def ordTail (md : Region.Mode) (ops : Array Oper) : List Nat → Array Bool → Bool
  | [], listed => (Region.ready md ops listed).isEmpty
  | k :: r, listed => decide (Region.ready md ops listed = [k]) && ordTail md ops r (listed.setIfInBounds k true)
def ordHead (md : Region.Mode) (ops : Array Oper) (tl : List Nat) : List Nat → Array Bool → Bool
  | [], listed => ordTail md ops tl listed
  | i :: r, listed => (Region.ready md ops listed).contains i && Region.free md ops listed i && ordHead md ops tl r (listed.setIfInBounds i true)
def ordPre (md : Region.Mode) (ops : Array Oper) (tl hd : List Nat) : List Nat → Array Bool → Bool
  | [], listed => ordHead md ops tl hd listed
  | i :: r, listed => (Region.ready md ops listed).contains i && Region.free md ops listed i && ordPre md ops tl hd r (listed.setIfInBounds i true)
def sinkOrd (md : Region.Mode) (ops : Array Oper) (t0 : Nat) : List Nat → Bool
  | [] => true
  | i :: r => ((r ++ [t0]).any fun j => Region.waitsFor md ops j i) && sinkOrd md ops t0 r
def chainOrd (md : Region.Mode) (ops : Array Oper) : Nat → List Nat → Bool
  | _, [] => true
  | a, b :: r => Region.waitsFor md ops b a && chainOrd md ops b r
def ordB (md : Region.Mode) (ops : Array Oper) (pre hd : List Nat) (t0 : Nat) (tl : List Nat) : Bool :=
  Region.noSelect ops && sinkOrd md ops t0 hd && chainOrd md ops t0 tl && ((List.range ops.size).all fun i => pre.contains i || hd.contains i || (t0 :: tl).contains i) &&
    ((t0 :: tl).all fun t => !pre.contains t && !hd.contains t) && ordPre md ops (t0 :: tl) hd pre (Array.replicate ops.size false)

structure OrdInv (md : Region.Mode) (ops : Array Oper) (hd tl : List Nat) (listed : Array Bool) : Prop where
  size : listed.size = ops.size
  closed : ∀ j oj, ops[j]? = some oj → listed.getD j false = true → ∀ e ∈ oj.after, Region.binds md e = true → listed.getD e.on false = true
  tail : ∀ t, t ∈ tl → listed.getD t true = false
  cover : ∀ j, listed.getD j true = false → j ∈ hd ∨ j ∈ tl

theorem getD_not {listed : Array Bool} {i : Nat} (h : listed.getD i false = false) (hi : i < listed.size) : listed.getD i true = false := getD_in hi h

theorem OrdInv.set {hd tl : List Nat} {listed : Array Bool} {i : Nat} (inv : OrdInv md ops hd tl listed) (hi : i ∈ Region.ready md ops listed) (hn : i ∉ tl) : OrdInv md ops hd tl (listed.setIfInBounds i true) := by
  obtain ⟨_, oi, hoi, hall⟩ := mem_ready.1 hi
  refine ⟨by simp [inv.size], fun j oj hj hl e he hb => ?_, fun t ht => ?_, fun j hj => ?_⟩
  · by_cases hij : i = j
    · subst hij
      have : oj = oi := Option.some.inj (hj.symm.trans hoi)
      subst this
      exact getD_set_true (hall e he hb)
    · rw [getD_set_ne false hij] at hl
      exact getD_set_true (inv.closed j oj hj hl e he hb)
  · rw [getD_set_ne true (fun e => hn (by rw [e]; exact ht))]; exact inv.tail t ht
  · by_cases hij : i = j
    · subst hij
      exfalso
      rcases Nat.lt_or_ge i listed.size with h' | h'
      · simp [h'] at hj
      · simp [Array.getElem?_eq_none (by simpa using h' : (listed.setIfInBounds i true).size ≤ i)] at hj
    · rw [getD_set_ne true hij] at hj
      exact inv.cover j hj

theorem sink_waits {hd tl : List Nat} {t0 : Nat} {listed : Array Bool} (inv : OrdInv md ops hd (t0 :: tl) listed) :
    ∀ (s : List Nat), sinkOrd md ops t0 s = true → ∀ i ∈ s, listed.getD i true = false → t0 ∉ Region.ready md ops listed
  | [], _, _, hi, _ => by cases hi
  | x :: r, hs, i, hi, hun => by
    simp only [sinkOrd, Bool.and_eq_true] at hs
    obtain ⟨h1, h2⟩ := hs
    rcases List.mem_cons.1 hi with rfl | hi
    · obtain ⟨j, hj, hw⟩ := List.any_eq_true.1 h1
      obtain ⟨oj, hoj, e, he, hb, hon⟩ := Region.waitsFor_spec hw
      rcases List.mem_append.1 hj with hj | hj
      · cases hl : listed.getD j false with
        | true =>
          have h3 := inv.closed j oj hoj hl e he hb
          rw [hon, getD_both hun] at h3
          cases h3
        | false =>
          have hjs : j < listed.size := by rw [inv.size]; exact (Array.getElem?_eq_some_iff.1 hoj).1
          exact sink_waits inv r h2 j hj (getD_in hjs hl)
      · have : j = t0 := by simpa using hj
        subst this
        intro hr
        obtain ⟨_, o', ho', hall⟩ := mem_ready.1 hr
        have : oj = o' := Option.some.inj (hoj.symm.trans ho')
        subst this
        have h3 := hall e he hb
        rw [hon, getD_both hun] at h3
        cases h3
    · exact sink_waits inv r h2 i hi hun

theorem chain_mem : ∀ (tl : List Nat) (t0 : Nat), chainOrd md ops t0 tl = true → ∀ t ∈ tl, ∃ t' ∈ t0 :: tl, Region.waitsFor md ops t t' = true
  | [], _, _, t, ht => by cases ht
  | b :: r, t0, hc, t, ht => by
    simp only [chainOrd, Bool.and_eq_true] at hc
    rcases List.mem_cons.1 ht with rfl | ht
    · exact ⟨t0, by simp, hc.1⟩
    · obtain ⟨t', h1, h2⟩ := chain_mem r b hc.2 t ht
      exact ⟨t', List.mem_cons_of_mem _ h1, h2⟩

theorem tail_waitsO {hd tl : List Nat} {t0 i : Nat} {listed : Array Bool} (hs : sinkOrd md ops t0 hd = true) (hc : chainOrd md ops t0 tl = true) (inv : OrdInv md ops hd (t0 :: tl) listed)
    (hi : i ∈ hd) (hun : listed.getD i true = false) : ∀ t ∈ t0 :: tl, t ∉ Region.ready md ops listed := by
  intro t ht
  rcases List.mem_cons.1 ht with rfl | ht
  · exact sink_waits inv hd hs i hi hun
  · obtain ⟨t', ht', hw⟩ := chain_mem tl t0 hc t ht
    obtain ⟨oj, hoj, e, he, hb, hon⟩ := Region.waitsFor_spec hw
    intro hr
    obtain ⟨_, o', ho', hall⟩ := mem_ready.1 hr
    have : oj = o' := Option.some.inj (hoj.symm.trans ho')
    subst this
    have h3 := hall e he hb
    rw [hon, getD_both (inv.tail t' ht')] at h3
    cases h3

/-- whatever order is picked of the operations of hd -/
def wpOrdQ (P : Program) (md : Region.Mode) (ops : Array Oper) (C : World → Prop) (hd : List Nat) (L : Array Bool → Act → Prop) : Nat → Array Bool → Act → Prop
  | 0, listed, a => L listed a
  | f + 1, listed, a =>
    Region.ready md ops listed ≠ [] ∧ ∀ i ∈ Region.ready md ops listed, i ∈ hd ∧ qOp P ops C i (wpOrdQ P md ops C hd L f (listed.setIfInBounds i true)) a

theorem wpAny_of_ordQ {hd : List Nat} {g : Nat} {L : Array Bool → Act → Prop} {Q' : Exit → Act → World → Prop} (hL : ∀ listed a w, C w → L listed a → wpAny P md ops Q' g listed a w) :
    ∀ (f : Nat) (listed : Array Bool) (a : Act) (w : World), C w → wpOrdQ P md ops C hd L f listed a → wpAny P md ops Q' (f + g) listed a w
  | 0, listed, a, w, hw, h => by rw [Nat.zero_add]; exact hL _ _ _ hw h
  | f + 1, listed, a, w, hw, h => by
    rw [show f + 1 + g = (f + g) + 1 by omega]
    exact ⟨fun h0 => absurd h0 h.1, fun i hi => wpOp_of_qOp hw (fun a' w' hw' h' => wpAny_of_ordQ hL f _ a' w' hw' h') (h.2 i hi).2⟩

theorem wpOrdQ_first {hd tl : List Nat} {t0 i : Nat} {oi : Oper} {v : Value} {L : Array Bool → Act → Prop} (hi : ops[i]? = some oi) (hsel : ∀ (j : Nat) (o : Oper) cs b, ops[j]? = some o → o.op ≠ .select cs b)
    (hs : sinkOrd md ops t0 hd = true) (hc : chainOrd md ops t0 tl = true) (hdis : ∀ j ∈ hd, j ∉ t0 :: tl) (hin : i ∈ hd)
    (hdone : ∀ listed a, L listed a → ∀ j ∈ Region.ready md ops listed, j ∈ t0 :: tl) :
    ∀ (f : Nat) (listed : Array Bool) (a : Act), OrdInv md ops hd (t0 :: tl) listed →
      (∀ j oj, ops[j]? = some oj → j ≠ i → listed.getD j true = false → (∀ e ∈ oj.after, Region.binds md e = true → e.on ≠ i) → oi.apart ops oj = true) →
      i ∈ Region.ready md ops listed → YieldsIn P ops C oi v a →
      wpOrdQ P md ops C hd L f (listed.setIfInBounds i true) (a.put oi.dst v) → wpOrdQ P md ops C hd L (f + 1) listed a := by
  intro f
  induction f with
  | zero =>
    intro listed a inv _ hr hy H
    have hun := (mem_ready.1 hr).1
    refine ⟨fun h => (by rw [h] at hr; cases hr), fun j hj => ?_⟩
    have hjn : j ∈ hd := by
      rcases inv.cover j (mem_ready.1 hj).1 with h | h
      · exact h
      · exact absurd hj (tail_waitsO hs hc inv hin hun j h)
    refine ⟨hjn, ?_⟩
    by_cases hji : j = i
    · subst hji; exact hy.qOp hi H
    · exact absurd (hdone _ _ H j (ready_mono hj hji)) (hdis j hjn)
  | succ f ih =>
    intro listed a inv hfree hr hy H
    have hun := (mem_ready.1 hr).1
    refine ⟨fun h => (by rw [h] at hr; cases hr), fun j hj => ?_⟩
    have hjn : j ∈ hd := by
      rcases inv.cover j (mem_ready.1 hj).1 with h | h
      · exact h
      · exact absurd hj (tail_waitsO hs hc inv hin hun j h)
    refine ⟨hjn, ?_⟩
    by_cases hji : j = i
    · subst hji; exact hy.qOp hi H
    · have h1 := (H.2 j (ready_mono hj hji)).2
      obtain ⟨hjun, oj, hoj, hall⟩ := mem_ready.1 hj
      have hnot : ∀ e ∈ oj.after, Region.binds md e = true → e.on ≠ i := fun e he hb heq => by
        have h1 := hall e he hb
        rw [heq, getD_both hun] at h1
        cases h1
      have h2 := qOp_put hoj (hfree j oj hoj hji hjun hnot) (fun cs b => hsel i oi cs b hi) (fun cs b => hsel j oj cs b hoj) hy h1
      have hfree' : ∀ k ok, ops[k]? = some ok → k ≠ i → (listed.setIfInBounds j true).getD k true = false →
          (∀ e ∈ ok.after, Region.binds md e = true → e.on ≠ i) → oi.apart ops ok = true := fun k ok hk hki hun hno => by
        refine hfree k ok hk hki ?_ hno
        by_cases hjk : j = k
        · subst hjk; exact hjun
        · rw [getD_set_ne true hjk] at hun; exact hun
      refine qOp_mono (fun a' h3 => ih (listed.setIfInBounds j true) a' (inv.set hj (hdis j hjn)) hfree' (ready_mono hr (Ne.symm hji)) h3.1 ?_) h2
      rw [Array.setIfInBounds_comm _ _ hji]
      exact h3.2

theorem ordTail_ready {tl : List Nat} {listed : Array Bool} (h : ordTail md ops tl listed = true) : ∀ j ∈ Region.ready md ops listed, j ∈ tl := by
  cases tl with
  | nil => intro j hj; simp only [ordTail, List.isEmpty_iff] at h; rw [h] at hj; cases hj
  | cons k r =>
    intro j hj
    simp only [ordTail, Bool.and_eq_true, decide_eq_true_eq] at h
    rw [h.1] at hj
    have : j = k := by simpa using hj
    simp [this]

theorem wpOrdQ_lex {hd tl : List Nat} {t0 : Nat} {Lq : Act → Prop} (hsel : Region.noSelect ops = true) (hs : sinkOrd md ops t0 hd = true) (hc : chainOrd md ops t0 tl = true) (hdis : ∀ j ∈ hd, j ∉ t0 :: tl) :
    ∀ (is : List Nat) (l : List Oper) (listed : Array Bool) (a : Act), is.map (ops[·]?) = l.map some → (∀ i ∈ is, i ∈ hd) → OrdInv md ops hd (t0 :: tl) listed →
    ordHead md ops (t0 :: tl) is listed = true → wpQuiet P ops C Lq l a →
    wpOrdQ P md ops C hd (fun listed' a' => ordTail md ops (t0 :: tl) listed' = true ∧ Lq a') l.length listed a
  | [], [], listed, a, _, _, _, hB, h => ⟨by simpa [ordHead] using hB, h⟩
  | [], _ :: _, _, _, hm, _, _, _, _ => by simp at hm
  | _ :: _, [], _, _, hm, _, _, _, _ => by simp at hm
  | i :: is, o :: l, listed, a, hm, hin, inv, hB, h => by
    simp only [List.map_cons, List.cons.injEq] at hm
    obtain ⟨h0, hm'⟩ := hm
    simp only [ordHead, Bool.and_eq_true] at hB
    obtain ⟨⟨hr, hf⟩, hB'⟩ := hB
    have hr' : i ∈ Region.ready md ops listed := by simpa using hr
    have hst : qOp P ops C i (wpQuiet P ops C Lq l) a := by unfold qOp; simp only [h0]; exact h
    obtain ⟨v, hy, hK⟩ := yieldsIn_of_qOp h0 hst
    have hih := hin i (by simp)
    exact wpOrdQ_first h0 (Region.noSelect_spec hsel) hs hc hdis hih (fun listed' a' hL => ordTail_ready hL.1) l.length listed a inv (Region.free_spec h0 hf) hr' hy
      (wpOrdQ_lex hsel hs hc hdis is l _ _ hm' (fun j hj => hin j (by simp [hj])) (inv.set hr' (hdis i hih)) hB' hK)

theorem wpAny_of_ordTail {Q' : Exit → Act → World → Prop} : ∀ (tl : List Nat) (l : List Oper) (listed : Array Bool) (a : Act) (w : World), tl.map (ops[·]?) = l.map some →
    ordTail md ops tl listed = true → wpList P ops Q' l a w → wpAny P md ops Q' l.length listed a w
  | [], [], _, _, _, _, hB, h => ⟨by simpa [ordTail] using hB, h⟩
  | [], _ :: _, _, _, _, hm, _, _ => by simp at hm
  | _ :: _, [], _, _, _, hm, _, _ => by simp at hm
  | k :: tl, o :: l, listed, a, w, hm, hB, h => by
    simp only [List.map_cons, List.cons.injEq] at hm
    obtain ⟨h0, hm'⟩ := hm
    simp only [ordTail, Bool.and_eq_true, decide_eq_true_eq] at hB
    refine ⟨fun h1 => (by rw [hB.1] at h1; cases h1), fun i hi => ?_⟩
    rw [hB.1] at hi
    have hik : i = k := by simpa using hi
    subst hik
    have hw : wpOp P ops Q' i (wpList P ops Q' l) a w := by unfold wpOp; simp only [h0]; exact h
    exact wpOp_mono (fun a' w' h' => wpAny_of_ordTail tl l _ a' w' hm' hB.2 h') hw

/-- operations that yield their values in whatever world -/
def wpPre (P : Program) (ops : Array Oper) (K : Act → Prop) : List Oper → Act → Prop
  | [], a => K a
  | o :: r, a => ∃ v, Yields P ops o v a ∧ wpPre P ops K r (a.put o.dst v)

theorem wpPre_nil {K : Act → Prop} {a : Act} (h : K a) : wpPre P ops K [] a := h
theorem wpPre_cons {K : Act → Prop} {a : Act} {o : Oper} {r : List Oper} (v : Value) (hg : o.guard = none) (hy : ∀ w, (execOp a.eval o).run P w = .ok (.value v) w) (h : wpPre P ops K r (a.put o.dst v)) : wpPre P ops K (o :: r) a :=
  ⟨v, .inl ⟨by simp [Region.wanted, hg], hy⟩, h⟩

theorem wpAny_of_pre {hd tl : List Nat} {t0 n : Nat} {K : Act → Prop} {Q' : Exit → Act → World → Prop} (hQ : ∀ c a w, ¬ Q' (.panic c) a w) (hsel : Region.noSelect ops = true) {w : World}
    (hK : ∀ listed a, ordHead md ops (t0 :: tl) hd listed = true → OrdInv md ops hd (t0 :: tl) listed → K a → wpAny P md ops Q' n listed a w) :
    ∀ (pre : List Nat) (l : List Oper) (listed : Array Bool) (a : Act), pre.map (ops[·]?) = l.map some → (∀ p ∈ pre, p ∉ t0 :: tl) → OrdInv md ops (pre ++ hd) (t0 :: tl) listed →
    ordPre md ops (t0 :: tl) hd pre listed = true → wpPre P ops K l a → wpAny P md ops Q' (l.length + n) listed a w
  | [], [], listed, a, _, _, inv, hB, h => by
    simp only [List.length_nil, Nat.zero_add]
    exact hK listed a (by simpa [ordPre] using hB) (by simpa using inv) h
  | [], _ :: _, _, _, hm, _, _, _, _ => by simp at hm
  | _ :: _, [], _, _, hm, _, _, _, _ => by simp at hm
  | i :: pre, o :: l, listed, a, hm, hp, inv, hB, ⟨v, hy, h⟩ => by
    simp only [List.map_cons, List.cons.injEq] at hm
    obtain ⟨h0, hm'⟩ := hm
    simp only [ordPre, Bool.and_eq_true] at hB
    obtain ⟨⟨hr, hf⟩, hB'⟩ := hB
    have hr' : i ∈ Region.ready md ops listed := by simpa using hr
    rw [show (o :: l).length + n = (l.length + n) + 1 by simp only [List.length_cons]; omega]
    refine wpAny_first h0 (Region.noSelect_spec hsel) (fun c a w hq => absurd hq (hQ _ _ _)) _ _ _ _ (Region.free_spec h0 hf) hr' hy ?_
    have inv' := inv.set hr' (hp i (by simp))
    refine wpAny_of_pre hQ hsel hK pre l _ _ hm' (fun p hp' => hp p (by simp [hp'])) ⟨inv'.size, inv'.closed, inv'.tail, fun j hj => ?_⟩ hB' h
    rcases inv'.cover j hj with h' | h'
    · rcases List.mem_cons.1 (by simpa using h' : j ∈ i :: (pre ++ hd)) with rfl | h''
      · exfalso
        rcases Nat.lt_or_ge j listed.size with h1 | h1
        · simp [h1] at hj
        · simp [Array.getElem?_eq_none (by simpa using h1 : (listed.setIfInBounds j true).size ≤ j)] at hj
      · exact .inl h''
    · exact .inr h'

/-- THE THEOREM. -/
theorem later_ord {P : Program} {id : Nat} {Q : Exit → Act → World → Prop} {a : Act} {w : World} {l : List Oper} (pre hd : List Nat) (t0 : Nat) (tl : List Nat) (lp lh lt : List Oper) (hm : P.follows .mixedOrders = true)
    (hB : ordB .any l.toArray pre hd t0 tl = true) (hp : pre.map (l.toArray[·]?) = lp.map some) (hh : hd.map (l.toArray[·]?) = lh.map some) (ht : (t0 :: tl).map (l.toArray[·]?) = lt.map some) (hn : lp.length + (lh.length + lt.length) = l.length)
    (h : wpPre P l.toArray (wpQuiet P l.toArray (fun w' => ∃ g : Later w, w' = g.val) (fun a' => ∀ g : Later w, wpList P l.toArray (NoPanic Q) lt a' g.val) lh) lp a) : (Code.region id l.toArray true).wp P Q a w := by
  simp only [ordB, Bool.and_eq_true] at hB
  obtain ⟨⟨⟨⟨⟨hsel, hs⟩, hc⟩, hcov⟩, hdis⟩, hpre⟩ := hB
  have hdis' : ∀ t ∈ t0 :: tl, t ∉ pre ∧ t ∉ hd := fun t ht => by
    have := List.all_eq_true.1 hdis t ht
    simpa using this
  refine wp_region_noPanic (wp_region_any hm ?_)
  have inv0 : OrdInv .any l.toArray (pre ++ hd) (t0 :: tl) (Array.replicate l.toArray.size false) := by
    refine ⟨by simp, fun j oj _ hl => (by rw [getD_replicate_false] at hl; cases hl), fun t ht' => ?_, fun j hj => ?_⟩
    · have : ∃ o, l.toArray[t]? = some o := by
        have h1 : l.toArray[t]? ∈ lt.map some := by rw [← ht]; exact List.mem_map.2 ⟨t, ht', rfl⟩
        obtain ⟨o, _, ho⟩ := List.mem_map.1 h1
        exact ⟨o, ho.symm⟩
      obtain ⟨o, ho⟩ := this
      exact getD_in (by simpa using (Array.getElem?_eq_some_iff.1 ho).1) (getD_replicate_false _ _)
    · have hjl : j < l.toArray.size := by
        rcases Nat.lt_or_ge j l.toArray.size with h' | h'
        · exact h'
        · have hsz : (Array.replicate l.toArray.size false).size ≤ j := by simpa using h'
          have h1 : (Array.replicate l.toArray.size false).getD j true = true := by unfold Array.getD; rw [dif_neg (by omega)]
          rw [h1] at hj
          cases hj
      have := List.all_eq_true.1 hcov j (List.mem_range.2 hjl)
      simp only [Bool.or_eq_true, List.contains_iff_mem] at this
      rcases this with (h' | h') | h'
      · exact .inl (List.mem_append.2 (.inl h'))
      · exact .inl (List.mem_append.2 (.inr h'))
      · exact .inr h'
  have key := wpAny_of_pre (P := P) (md := .any) (n := lh.length + lt.length) (Q' := NoPanic Q) (w := { w with drawn := w.drawn + 1 }) (fun c a w hq => hq) hsel (fun listed a' hB' inv' hK => by
    have H := wpOrdQ_lex hsel hs hc (fun j hj hj' => (hdis' j hj').2 hj) hd lh listed a' hh (fun _ h => h) inv' hB' hK
    exact wpAny_of_ordQ (C := fun w' => ∃ g : Later w, w' = g.val) (fun listed' a'' w' hw' hL => by
      obtain ⟨g, rfl⟩ := hw'
      exact wpAny_of_ordTail (t0 :: tl) lt listed' a'' g.val ht hL.1 (hL.2 g)) _ _ _ _ ⟨⟨w.drew, (Below.refl _ _).drew⟩, rfl⟩ H) pre lp _ a hp (fun p hp' hp'' => (hdis' p hp'').1 hp') inv0 hpre h
  rw [hn] at key
  simpa using key

theorem filterMap_ok {l : List Oper} : ∀ (is : List Nat), (∀ i ∈ is, i < l.length) → is.map (l.toArray[·]?) = (is.filterMap (l[·]?)).map some ∧ (is.filterMap (l[·]?)).length = is.length
  | [], _ => ⟨rfl, rfl⟩
  | i :: is, h => by
    have hi := h i (by simp)
    obtain ⟨h1, h2⟩ := filterMap_ok is (fun j hj => h j (by simp [hj]))
    have e : l[i]? = some l[i] := by simp [hi]
    refine ⟨?_, ?_⟩
    · rw [List.map_cons, h1, List.filterMap_cons, e]
      simp [hi]
    · rw [List.filterMap_cons, e]
      simp [h2]

/-- .. the operations by their numbers -/
theorem later_ord2 {P : Program} {id : Nat} {Q : Exit → Act → World → Prop} {a : Act} {w : World} {l : List Oper} (pre hd : List Nat) (t0 : Nat) (tl : List Nat) (hm : P.follows .mixedOrders = true)
    (hB : (ordB .any l.toArray pre hd t0 tl && (pre ++ hd ++ t0 :: tl).all (fun i => decide (i < l.length)) && decide (pre.length + (hd.length + (t0 :: tl).length) = l.length)) = true)
    (h : wpPre P l.toArray (wpQuiet P l.toArray (fun w' => ∃ g : Later w, w' = g.val) (fun a' => ∀ g : Later w, wpList P l.toArray (NoPanic Q) ((t0 :: tl).filterMap (l[·]?)) a' g.val) (hd.filterMap (l[·]?))) (pre.filterMap (l[·]?)) a) :
    (Code.region id l.toArray true).wp P Q a w := by
  simp only [Bool.and_eq_true, decide_eq_true_eq, List.all_eq_true, List.mem_append] at hB
  obtain ⟨⟨h1, h2⟩, h3⟩ := hB
  obtain ⟨p1, p2⟩ := filterMap_ok pre (fun i hi => h2 i (.inl (.inl hi)))
  obtain ⟨q1, q2⟩ := filterMap_ok hd (fun i hi => h2 i (.inl (.inr hi)))
  obtain ⟨r1, r2⟩ := filterMap_ok (t0 :: tl) (fun i hi => h2 i (.inr hi))
  exact later_ord pre hd t0 tl _ _ _ hm h1 p1 q1 r1 (by rw [p2, q2, r2]; exact h3) h

/-! ### The same, with operations that need no world among the others -/

/-- is one of hd yet to come? -/
def pendB (hd : List Nat) (listed : Array Bool) : Bool := hd.any fun i => !(listed.getD i true)

theorem pendB_false {hd : List Nat} {listed : Array Bool} (h : pendB hd listed = false) : ∀ i ∈ hd, listed.getD i true = true := fun i hi => by
  unfold pendB at h
  have := List.any_eq_false.1 h i hi
  simpa using this
theorem pendB_true {hd : List Nat} {listed : Array Bool} (h : pendB hd listed = true) : ∃ i ∈ hd, listed.getD i true = false := by
  unfold pendB at h
  obtain ⟨i, hi, h'⟩ := List.any_eq_true.1 h
  exact ⟨i, hi, by simpa using h'⟩

/-- whatever order is picked: while one of hd is yet to come only operations of hd and of wl may come up; then it is as the worlds of the class have it -/
def wpMix (P : Program) (md : Region.Mode) (ops : Array Oper) (C : World → Prop) (Q : Exit → Act → World → Prop) (hd wl : List Nat) : Nat → Array Bool → Act → Prop
  | 0, listed, a => ∀ w, C w → wpAny P md ops Q 0 listed a w
  | f + 1, listed, a =>
    (pendB hd listed = true → Region.ready md ops listed ≠ [] ∧ ∀ i ∈ Region.ready md ops listed, (i ∈ hd ∨ i ∈ wl) ∧ qOp P ops C i (wpMix P md ops C Q hd wl f (listed.setIfInBounds i true)) a) ∧
    (pendB hd listed = false → (∀ w, C w → wpAny P md ops Q (f + 1) listed a w) ∧ ∀ i ∈ Region.ready md ops listed, i ∈ wl → qOp P ops C i (wpMix P md ops C Q hd wl f (listed.setIfInBounds i true)) a)

theorem wpAny_of_mix {hd wl : List Nat} {Q : Exit → Act → World → Prop} : ∀ (f : Nat) (listed : Array Bool) (a : Act), wpMix P md ops C Q hd wl f listed a → ∀ w, C w → wpAny P md ops Q f listed a w
  | 0, _, _, h, w, hw => h w hw
  | f + 1, listed, a, h, w, hw => by
    cases hp : pendB hd listed with
    | true =>
      obtain ⟨h1, h2⟩ := h.1 hp
      exact ⟨fun h0 => absurd h0 h1, fun i hi => wpOp_of_qOp hw (fun a' w' hw' h' => wpAny_of_mix f _ a' h' w' hw') (h2 i hi).2⟩
    | false => exact (h.2 hp).1 w hw

/-- what is known of an operation that is taken: its value in the class; if it is one of wl, in whatever world -/
def Taken (P : Program) (ops : Array Oper) (C : World → Prop) (wl : List Nat) (i : Nat) (o : Oper) (v : Value) (a : Act) : Prop := YieldsIn P ops C o v a ∧ (i ∈ wl → Yields P ops o v a)

theorem Yields.inClass {o : Oper} {v : Value} {a : Act} (h : Yields P ops o v a) : YieldsIn P ops C o v a := by
  rcases h with ⟨h1, h2⟩ | h
  · exact .inl ⟨h1, fun w _ => by unfold Oper.quietAt; rw [h2 w]; exact ⟨rfl, rfl⟩⟩
  · exact .inr h

theorem qOp_put_taken {wl : List Nat} {i j : Nat} {oi oj : Oper} {v : Value} (hj : ops[j]? = some oj) (hap : oi.apart ops oj = true)
    (hsi : ∀ cs b, oi.op ≠ .select cs b) (hsj : ∀ cs b, oj.op ≠ .select cs b) {K : Act → Prop} {a : Act}
    (hy : Taken P ops C wl i oi v a) (h : qOp P ops C j K (a.put oi.dst v)) :
    qOp P ops C j (fun a' => Taken P ops C wl i oi v a' ∧ K (a'.put oi.dst v)) a := by
  obtain ⟨h1, h2, h3⟩ := Oper.apart_spec hap
  have keep : ∀ (a : Act), Taken P ops C wl i oi v a → ∀ u, Taken P ops C wl i oi v (a.put oj.dst u) := fun a hy u =>
    ⟨hy.1.of_same (execOp_put oi hsi a oj.dst u h3) (wanted_put oi a oj.dst u h3), fun hw => (hy.2 hw).of_same (execOp_put oi hsi a oj.dst u h3) (wanted_put oi a oj.dst u h3)⟩
  unfold qOp at *
  simp only [hj] at *
  rw [wanted_put oj a oi.dst v h1] at h
  split
  · rename_i hw
    simp only [hw, if_true] at h
    obtain ⟨u, hu, hn⟩ := h
    refine ⟨u, fun w hw' => ?_, keep a hy u, by rw [← Act.put_comm a v u h2]; exact hn⟩
    have := hu w hw'
    unfold Oper.quietAt at *
    rwa [execOp_put oj hsj a oi.dst v h1] at this
  · rename_i hw
    simp only [hw] at h
    exact ⟨keep a hy _, by rw [← Act.put_comm a v undef h2]; exact h⟩

/-- the invariant, hd and wl together -/
theorem wpMix_first {hd wl tl : List Nat} {t0 i : Nat} {oi : Oper} {v : Value} {Q : Exit → Act → World → Prop} (hne : ∃ w, C w) (hQ : ∀ c a w, ¬ Q (.panic c) a w) (hi : ops[i]? = some oi) (hsel : ∀ (j : Nat) (o : Oper) cs b, ops[j]? = some o → o.op ≠ .select cs b)
    (hs : sinkOrd md ops t0 hd = true) (hc : chainOrd md ops t0 tl = true) (hdis : ∀ j, j ∈ hd ∨ j ∈ wl → j ∉ t0 :: tl) (hin : i ∈ hd ∨ i ∈ wl) :
    ∀ (f : Nat) (listed : Array Bool) (a : Act), OrdInv md ops (hd ++ wl) (t0 :: tl) listed →
      (∀ j oj, ops[j]? = some oj → j ≠ i → listed.getD j true = false → (∀ e ∈ oj.after, Region.binds md e = true → e.on ≠ i) → oi.apart ops oj = true) →
      i ∈ Region.ready md ops listed → Taken P ops C wl i oi v a →
      wpMix P md ops C Q hd wl f (listed.setIfInBounds i true) (a.put oi.dst v) → wpMix P md ops C Q hd wl (f + 1) listed a := by
  have sinkR : ∀ listed, OrdInv md ops (hd ++ wl) (t0 :: tl) listed → pendB hd listed = true → ∀ j ∈ Region.ready md ops listed, j ∈ hd ∨ j ∈ wl := by
    intro listed inv hp j hj
    obtain ⟨x, hx, hxu⟩ := pendB_true hp
    rcases inv.cover j (mem_ready.1 hj).1 with h | h
    · exact List.mem_append.1 h
    · exfalso
      rcases List.mem_cons.1 h with rfl | h
      · exact sink_waits inv hd hs x hx hxu hj
      · obtain ⟨t', ht', hw⟩ := chain_mem tl t0 hc j h
        obtain ⟨oj, hoj, e, he, hb, hon⟩ := Region.waitsFor_spec hw
        obtain ⟨_, o', ho', hall⟩ := mem_ready.1 hj
        have : oj = o' := Option.some.inj (hoj.symm.trans ho')
        subst this
        have h3 := hall e he hb
        rw [hon, getD_both (inv.tail t' ht')] at h3
        cases h3
  have inW : ∀ listed, pendB hd listed = false → i ∈ Region.ready md ops listed → i ∈ wl := by
    intro listed hp hr
    rcases hin with h | h
    · have h1 := pendB_false hp i h
      rw [(mem_ready.1 hr).1] at h1
      cases h1
    · exact h
  intro f
  induction f with
  | zero =>
    intro listed a inv hfree hr hy H
    have none : ∀ j, j ∈ Region.ready md ops listed → j ≠ i → False := fun j hj hji => by
      obtain ⟨w, hw⟩ := hne
      have h1 := ready_mono hj hji
      rw [(H w hw).1] at h1
      cases h1
    have one : ∀ j, j ∈ Region.ready md ops listed → qOp P ops C j (wpMix P md ops C Q hd wl 0 (listed.setIfInBounds j true)) a := fun j hj => by
      by_cases hji : j = i
      · subst hji; exact hy.1.qOp hi H
      · exact (none j hj hji).elim
    exact ⟨fun hp => ⟨fun h => (by rw [h] at hr; cases hr), fun j hj => ⟨sinkR listed inv hp j hj, one j hj⟩⟩,
      fun hp => ⟨fun w hw => wpAny_first hi hsel (fun c a w hq => absurd hq (hQ _ _ _)) 0 listed a w hfree hr (hy.2 (inW listed hp hr)) (H w hw), fun j hj _ => one j hj⟩⟩
  | succ f ih =>
    intro listed a inv hfree hr hy H
    have step : ∀ j, j ∈ Region.ready md ops listed → j ≠ i → (j ∈ hd ∨ j ∈ wl) → qOp P ops C j (wpMix P md ops C Q hd wl f ((listed.setIfInBounds i true).setIfInBounds j true)) (a.put oi.dst v) →
        qOp P ops C j (wpMix P md ops C Q hd wl (f + 1) (listed.setIfInBounds j true)) a := fun j hj hji hjn h1 => by
      obtain ⟨hjun, oj, hoj, hall⟩ := mem_ready.1 hj
      have hun := (mem_ready.1 hr).1
      have hnot : ∀ e ∈ oj.after, Region.binds md e = true → e.on ≠ i := fun e he hb heq => by
        have h1 := hall e he hb
        rw [heq, getD_both hun] at h1
        cases h1
      have h2 := qOp_put_taken hoj (hfree j oj hoj hji hjun hnot) (fun cs b => hsel i oi cs b hi) (fun cs b => hsel j oj cs b hoj) hy h1
      have hfree' : ∀ k ok, ops[k]? = some ok → k ≠ i → (listed.setIfInBounds j true).getD k true = false →
          (∀ e ∈ ok.after, Region.binds md e = true → e.on ≠ i) → oi.apart ops ok = true := fun k ok hk hki hun hno => by
        refine hfree k ok hk hki ?_ hno
        by_cases hjk : j = k
        · subst hjk; exact hjun
        · rw [getD_set_ne true hjk] at hun; exact hun
      refine qOp_mono (fun a' h3 => ih (listed.setIfInBounds j true) a' (inv.set hj (hdis j hjn)) hfree' (ready_mono hr (Ne.symm hji)) h3.1 ?_) h2
      rw [Array.setIfInBounds_comm _ _ hji]
      exact h3.2
    have pend_set : ∀ j ∈ hd, j ≠ i → listed.getD j true = false → pendB hd (listed.setIfInBounds i true) = true := fun j hj hji hju => by
      unfold pendB
      exact List.any_eq_true.2 ⟨j, hj, by rw [getD_set_ne true (Ne.symm hji), hju]; rfl⟩
    refine ⟨fun hp => ⟨fun h => (by rw [h] at hr; cases hr), fun j hj => ⟨sinkR listed inv hp j hj, ?_⟩⟩, fun hp => ⟨fun w hw => ?_, fun j hj hjw => ?_⟩⟩
    · by_cases hji : j = i
      · subst hji; exact hy.1.qOp hi H
      · have hjn := sinkR listed inv hp j hj
        have hjr := ready_mono hj hji
        cases hp' : pendB hd (listed.setIfInBounds i true) with
        | true => exact step j hj hji hjn ((H.1 hp').2 j hjr).2
        | false =>
          rcases hjn with h | h
          · rw [pend_set j h hji (mem_ready.1 hj).1] at hp'
            cases hp'
          · exact step j hj hji (.inr h) ((H.2 hp').2 j hjr h)
    · exact wpAny_first hi hsel (fun c a w hq => absurd hq (hQ _ _ _)) (f + 1) listed a w hfree hr (hy.2 (inW listed hp hr)) (wpAny_of_mix (f + 1) _ _ H w hw)
    · by_cases hji : j = i
      · subst hji; exact hy.1.qOp hi H
      · have hjr := ready_mono hj hji
        cases hp' : pendB hd (listed.setIfInBounds i true) with
        | true => exact step j hj hji (.inr hjw) ((H.1 hp').2 j hjr).2
        | false => exact step j hj hji (.inr hjw) ((H.2 hp').2 j hjr hjw)

/-- steps: an operation that needs no world, or a quiet one -/
def wpSteps (P : Program) (ops : Array Oper) (C : World → Prop) (K : Act → Prop) : List (Bool × Oper) → Act → Prop
  | [], a => K a
  | (true, o) :: r, a => ∃ v, Yields P ops o v a ∧ wpSteps P ops C K r (a.put o.dst v)
  | (false, o) :: r, a => wpQuiet P ops C (fun a' => wpSteps P ops C K r a') [o] a

theorem wpSteps_nil {K : Act → Prop} {a : Act} (h : K a) : wpSteps P ops C K [] a := h
theorem wpSteps_any {K : Act → Prop} {a : Act} {o : Oper} {r : List (Bool × Oper)} (v : Value) (hg : o.guard = none) (hy : ∀ w, (execOp a.eval o).run P w = .ok (.value v) w) (h : wpSteps P ops C K r (a.put o.dst v)) : wpSteps P ops C K ((true, o) :: r) a :=
  ⟨v, .inl ⟨by simp [Region.wanted, hg], hy⟩, h⟩
theorem wpSteps_quiet {K : Act → Prop} {a : Act} {o : Oper} {r : List (Bool × Oper)} (h : wpQuiet P ops C (fun a' => wpSteps P ops C K r a') [o] a) : wpSteps P ops C K ((false, o) :: r) a := h

def ordMixB (md : Region.Mode) (ops : Array Oper) (hd wl tl : List Nat) : List (Bool × Nat) → Array Bool → Bool
  | [], listed => !pendB hd listed && wl.all (fun i => listed.getD i true) && ordTail md ops tl listed
  | (_, i) :: r, listed => (Region.ready md ops listed).contains i && Region.free md ops listed i && ordMixB md ops hd wl tl r (listed.setIfInBounds i true)

theorem wpMix_lex {hd wl tl : List Nat} {t0 : Nat} {Q : Exit → Act → World → Prop} (hne : ∃ w, C w) (hQ : ∀ c a w, ¬ Q (.panic c) a w) (hsel : Region.noSelect ops = true) (hs : sinkOrd md ops t0 hd = true) (hc : chainOrd md ops t0 tl = true) (hdis : ∀ j, j ∈ hd ∨ j ∈ wl → j ∉ t0 :: tl)
    (hw1 : ∀ j ∈ hd, j ∉ wl) (lt : List Oper) (ht : (t0 :: tl).map (ops[·]?) = lt.map some) {K : Act → Prop} (hK : ∀ a w, C w → K a → wpList P ops Q lt a w) :
    ∀ (is : List (Bool × Nat)) (l : List (Bool × Oper)) (listed : Array Bool) (a : Act), is.map (fun x => (x.1, ops[x.2]?)) = l.map (fun x => (x.1, some x.2)) → (∀ x ∈ is, (x.1 = true → x.2 ∈ wl) ∧ (x.1 = false → x.2 ∈ hd)) → OrdInv md ops (hd ++ wl) (t0 :: tl) listed →
    ordMixB md ops hd wl (t0 :: tl) is listed = true → wpSteps P ops C K l a → wpMix P md ops C Q hd wl (l.length + lt.length) listed a
  | [], [], listed, a, _, _, _, hB, h => by
    simp only [ordMixB, Bool.and_eq_true, Bool.not_eq_true'] at hB
    obtain ⟨⟨h1, h2⟩, h3⟩ := hB
    have fin : ∀ w, C w → wpAny P md ops Q lt.length listed a w := fun w hw => wpAny_of_ordTail (t0 :: tl) lt listed a w ht h3 (hK a w hw h)
    simp only [List.length_nil, Nat.zero_add]
    cases hl : lt.length with
    | zero => intro w hw; rw [← hl]; exact fin w hw
    | succ n =>
      refine ⟨fun hp => (by rw [h1] at hp; cases hp), fun _ => ⟨fun w hw => (by rw [← hl]; exact fin w hw), fun i hi hiw => ?_⟩⟩
      have := List.all_eq_true.1 h2 i hiw
      rw [(mem_ready.1 hi).1] at this
      cases this
  | [], _ :: _, _, _, hm, _, _, _, _ => by simp at hm
  | _ :: _, [], _, _, hm, _, _, _, _ => by simp at hm
  | (b, i) :: is, (b', o) :: l, listed, a, hm, hin, inv, hB, h => by
    simp only [List.map_cons, List.cons.injEq, Prod.mk.injEq] at hm
    obtain ⟨⟨rfl, h0⟩, hm'⟩ := hm
    simp only [ordMixB, Bool.and_eq_true] at hB
    obtain ⟨⟨hr, hf⟩, hB'⟩ := hB
    have hr' : i ∈ Region.ready md ops listed := by simpa using hr
    have hmem : i ∈ hd ∨ i ∈ wl := by
      have := hin (b, i) (by simp)
      cases b with
      | true => exact .inr (this.1 rfl)
      | false => exact .inl (this.2 rfl)
    have inv' := inv.set hr' (hdis i hmem)
    rw [show ((b, o) :: l).length + lt.length = (l.length + lt.length) + 1 by simp only [List.length_cons]; omega]
    obtain ⟨v, hy, hK'⟩ : ∃ v, Taken P ops C wl i o v a ∧ wpSteps P ops C K l (a.put o.dst v) := by
      cases b with
      | true =>
        obtain ⟨v, hy, h'⟩ := h
        exact ⟨v, ⟨Yields.inClass hy, fun _ => hy⟩, h'⟩
      | false =>
        have hst : qOp P ops C i (fun a' => wpSteps P ops C K l a') a := by
          have h' : wpQuiet P ops C (fun a' => wpSteps P ops C K l a') [o] a := h
          unfold qOp; simp only [h0]; exact h'
        obtain ⟨v, hy, h'⟩ := yieldsIn_of_qOp h0 hst
        exact ⟨v, ⟨hy, fun hw => absurd hw (hw1 i ((hin (false, i) (by simp)).2 rfl))⟩, h'⟩
    exact wpMix_first hne hQ h0 (Region.noSelect_spec hsel) hs hc hdis hmem _ listed a inv (Region.free_spec h0 hf) hr' hy
      (wpMix_lex hne hQ hsel hs hc hdis hw1 lt ht hK is l _ _ hm' (fun x hx => hin x (by simp [hx])) inv' hB' hK')

def mixB (md : Region.Mode) (ops : Array Oper) (is : List (Bool × Nat)) (t0 : Nat) (tl : List Nat) : Bool :=
  let hd := (is.filter (fun x => !x.1)).map (·.2)
  let wl := (is.filter (·.1)).map (·.2)
  Region.noSelect ops && sinkOrd md ops t0 hd && chainOrd md ops t0 tl && ((List.range ops.size).all fun i => hd.contains i || wl.contains i || (t0 :: tl).contains i) &&
    ((t0 :: tl).all fun t => !hd.contains t && !wl.contains t) && (hd.all fun i => !wl.contains i) && ordMixB md ops hd wl (t0 :: tl) is (Array.replicate ops.size false)

theorem filterMap_ok2 {l : List Oper} : ∀ (is : List (Bool × Nat)), (∀ x ∈ is, x.2 < l.length) →
    is.map (fun x => (x.1, l.toArray[x.2]?)) = (is.filterMap fun x => (l[x.2]?).map fun o => (x.1, o)).map (fun x => (x.1, some x.2)) ∧ (is.filterMap fun x => (l[x.2]?).map fun o => (x.1, o)).length = is.length
  | [], _ => ⟨rfl, rfl⟩
  | (b, i) :: is, h => by
    have hi := h (b, i) (by simp)
    obtain ⟨h1, h2⟩ := filterMap_ok2 is (fun j hj => h j (by simp [hj]))
    have e : l[i]? = some l[i] := by simp [hi]
    refine ⟨?_, ?_⟩
    · rw [List.map_cons, h1, List.filterMap_cons]
      simp only [e, Option.map_some, List.map_cons]
      simp [hi]
    · rw [List.filterMap_cons]
      simp only [e, Option.map_some, List.length_cons]
      simp [h2]

/-- THE THEOREM: is: the operations in the order in which they are walked, 'true' at one that needs no world; t0, tl: the rest, in one forced order. -/
theorem later_mix {P : Program} {id : Nat} {Q : Exit → Act → World → Prop} {a : Act} {w : World} {l : List Oper} (is : List (Bool × Nat)) (t0 : Nat) (tl : List Nat) (hm : P.follows .mixedOrders = true)
    (hB : (mixB .any l.toArray is t0 tl && (is.map (·.2) ++ t0 :: tl).all (fun i => decide (i < l.length)) && decide (is.length + (t0 :: tl).length = l.length)) = true)
    (h : wpSteps P l.toArray (fun w' => ∃ g : Later w, w' = g.val) (fun a' => ∀ g : Later w, wpList P l.toArray (NoPanic Q) ((t0 :: tl).filterMap (l[·]?)) a' g.val) (is.filterMap fun x => (l[x.2]?).map fun o => (x.1, o)) a) :
    (Code.region id l.toArray true).wp P Q a w := by
  simp only [mixB, Bool.and_eq_true, decide_eq_true_eq, List.all_eq_true, List.mem_append] at hB
  obtain ⟨⟨⟨⟨⟨⟨⟨⟨hsel, hs⟩, hc⟩, hcov⟩, hdis⟩, hwd⟩, hord⟩, hlt⟩, hlen⟩ := hB
  obtain ⟨q1, q2⟩ := filterMap_ok2 is (fun x hx => hlt x.2 (.inl (List.mem_map.2 ⟨x, hx, rfl⟩)))
  obtain ⟨r1, r2⟩ := filterMap_ok (t0 :: tl) (fun i hi => hlt i (.inr hi))
  have hdis' : ∀ t ∈ t0 :: tl, t ∉ (is.filter (fun x => !x.1)).map (·.2) ∧ t ∉ (is.filter (·.1)).map (·.2) := fun t ht => by
    have := hdis t ht
    simpa only [Bool.and_eq_true, Bool.not_eq_true', List.contains_eq_mem, decide_eq_false_iff_not] using this
  refine wp_region_noPanic (wp_region_any hm ?_)
  have inv0 : OrdInv .any l.toArray ((is.filter (fun x => !x.1)).map (·.2) ++ (is.filter (·.1)).map (·.2)) (t0 :: tl) (Array.replicate l.toArray.size false) := by
    refine ⟨by simp, fun j oj _ hl => (by rw [getD_replicate_false] at hl; cases hl), fun t ht' => ?_, fun j hj => ?_⟩
    · exact getD_in (by have := hlt t (.inr ht'); simpa using this) (getD_replicate_false _ _)
    · have hjl : j < l.toArray.size := by
        rcases Nat.lt_or_ge j l.toArray.size with h' | h'
        · exact h'
        · have hsz : (Array.replicate l.toArray.size false).size ≤ j := by simpa using h'
          have h1 : (Array.replicate l.toArray.size false).getD j true = true := by unfold Array.getD; rw [dif_neg (by omega)]
          rw [h1] at hj
          cases hj
      have := hcov j (List.mem_range.2 hjl)
      simp only [Bool.or_eq_true, List.contains_iff_mem] at this
      rcases this with (h' | h') | h'
      · exact .inl (List.mem_append.2 (.inl h'))
      · exact .inl (List.mem_append.2 (.inr h'))
      · exact .inr h'
  have key := wpMix_lex (P := P) (md := .any) (C := fun w' => ∃ g : Later w, w' = g.val) (Q := NoPanic Q) ⟨w, ⟨w, Below.refl _ _⟩, rfl⟩ (fun c a w hq => hq) hsel hs hc (fun j hj hj' => by
      rcases hj with h' | h'
      · exact (hdis' j hj').1 h'
      · exact (hdis' j hj').2 h') (fun j hj hj' => by
      have := hwd j hj
      simp only [Bool.not_eq_true', List.contains_eq_mem, decide_eq_false_iff_not] at this
      exact this hj') _ r1 (fun a' w' hw' hg => by obtain ⟨g, rfl⟩ := hw'; exact hg g) is _ _ a q1 (fun x hx => ⟨fun hb => List.mem_map.2 ⟨x, List.mem_filter.2 ⟨hx, hb⟩, rfl⟩, fun hb => List.mem_map.2 ⟨x, List.mem_filter.2 ⟨hx, by simp [hb]⟩, rfl⟩⟩) inv0 hord h
  have := wpAny_of_mix _ _ _ key { w with drawn := w.drawn + 1 } ⟨⟨w.drew, (Below.refl _ _).drew⟩, rfl⟩
  rw [q2, r2, hlen] at this
  simpa using this
end
end Bal

/-
  Ratios and their least spans.
-/
namespace Go.Proofs.Ytemafanncejeiaa
open Go.RowKit Bal Bal.Trim Bal.Gas
set_option linter.unusedVariables false
set_option linter.unusedSimpArgs false
set_option maxHeartbeats 400000

theorem f_heated (x y u v : Int) (w : World) :
    Calls Try.prog 93 #[.agg #[.int .i64 x, .int .i64 y], .agg #[.int .i64 u, .int .i64 v]] w fun e w' => e = .returned (.agg #[.int .i64 (wrap64 (x + u)), .int .i64 (wrap64 (y + v))]) ∧ Kept w w' := by
  go_enter Try.func93, Try.ntmps93
  go_wp2
  exact bodyPost_ret (v := .agg #[.int .i64 (wrap64 (x + u)), .int .i64 (wrap64 (y + v))]) (by simp [results, Try.results93, go_sem]) rfl ⟨rfl, by (exact kpt)⟩

theorem f_down (r : Ratio) (w : World) (h0 : 0 < r.den) (h1 : r.den ≤ 1000000000000000) (h2 : -1000000000000000 ≤ r.num) (h3 : r.num ≤ 1000000000000000) :
    Calls Try.prog 95 #[.agg #[.int .i64 r.num, .int .i64 r.den]] w fun e w' => e = .returned (.int .i64 (down r)) ∧ Kept w w' := by
  obtain ⟨d1, d2⟩ := div_bd (N := 1000000000000000) h2 h3 h0 (by omega)
  by_cases hn : r.num < 0
  · have ht := tdiv_down hn h0
    have b1 : -1000000000000001 ≤ r.num.tdiv r.den := by split at ht <;> omega
    have b2 : r.num.tdiv r.den ≤ 1000000000000001 := by split at ht <;> omega
    have HT := Lib.hid ht
    clear ht
    go_enter Try.func95, Try.ntmps95
    go_wp2
    all_goals
      go_ret
      refine ⟨ret_int ?_, by (exact kpt)⟩
      have ht := HT.out
      simp_all [down]
  · have HT := Lib.hid (tdiv_pos (b := r.den) (show 0 ≤ r.num by omega))
    go_enter Try.func95, Try.ntmps95
    go_wp2
    go_ret
    exact ⟨ret_int (by simp [down]), by (exact kpt)⟩

theorem f_up (r : Ratio) (w : World) (h0 : 0 < r.den) (h1 : r.den ≤ 1000000000000000) (h2 : -1000000000000000 ≤ r.num) (h3 : r.num ≤ 1000000000000000) :
    Calls Try.prog 133 #[.agg #[.int .i64 r.num, .int .i64 r.den]] w fun e w' => e = .returned (.int .i64 (up r)) ∧ Kept w w' := by
  obtain ⟨d1, d2⟩ := div_bd (N := 1000000000000000) (a := -r.num) (b := r.den) (by omega) (by omega) h0 (by omega)
  go_enter Try.func133, Try.ntmps133
  go_wp2_with (go_at_call 95; (with_reducible refine (f_down ⟨-r.num, r.den⟩ _ h0 h1 (by simp; omega) (by simp; omega)).mono ?_); rintro e w1 ⟨rfl, hb1⟩; simp only [down])
  go_ret
  exact ⟨ret_int (by simp [up]), by (exact kpt)⟩

def ratioOk (r : Ratio) : Prop := 0 < r.den ∧ r.den ≤ 1000000000000000 ∧ -1000000000000000 ≤ r.num ∧ r.num ≤ 1000000000000000
/-- a span lies in a block of the call's own, the result's block is there -/
def Made (w : World) (lo hi : Int) (s : Value) (wx : World) : Prop :=
  ∃ g, s = .pointer (some ⟨g, 0, none⟩) ∧ w.heap.size < g ∧ Blk wx g #[.int .i64 lo, .int .i64 hi] 23 ∧ Blk wx w.heap.size #[.int .i64 0, .int .i64 0] 23 ∧ Kept w wx
def LeastRel (w : World) (g : Nat) (xs : List Ratio) (i : Value) (wx : World) : Prop :=
  ∃ k : Nat, k + 1 ≤ xs.length ∧ i = .int .i64 k ∧ Blk wx g #[.int .i64 (leastLo (xs.take (k + 1))), .int .i64 (leastHi (xs.take (k + 1)))] 23 ∧ Blk wx w.heap.size #[.int .i64 0, .int .i64 0] 23 ∧ Kept w wx

theorem f_least (a : Option Addr) (n cap : Nat) (xs : List Ratio) (w : World) (hn : xs.length = n) {B : Nat} (hx : Row Ratio.cells 2 w.heap.size w a xs) (h0 : 2 ≤ n) (h1 : n ≤ cap) (h2 : cap ≤ 9223372036854775807) (hv : ∀ x ∈ xs, ratioOk x) :
    Calls Try.prog 81 #[.slice a n cap] w fun e w' => e = .returned (.agg #[.int .i64 (leastLo xs), .int .i64 (leastHi xs)]) ∧ Kept w w' := by
  subst hn
  have HV := Lib.hid hv
  clear hv
  obtain ⟨b, off, rfl, hb, c0, c1⟩ := Ratio.row hx 0 (by omega)
  have c00 : w.cell? ⟨b, off, none⟩ = some (.int .i64 xs[0].num) := by simpa using c0
  have c01 : w.cell? ⟨b, off + 1, none⟩ = some (.int .i64 xs[0].den) := by simpa using c1
  clear c0 c1
  have hlt1 : (0 : Int) < xs.length := by omega
  have hlt0 : 0 < xs.length := by omega
  have k0 : ∀ w', Kept w w' → w'.cell? ⟨b, off, none⟩ = some (.int .i64 xs[0].num) := fun w' h => by rw [h.cell (p := ⟨b, off, none⟩) hb]; exact c00
  have k1 : ∀ w', Kept w w' → w'.cell? ⟨b, off + 1, none⟩ = some (.int .i64 xs[0].den) := fun w' h => by rw [h.cell (p := ⟨b, off + 1, none⟩) hb]; exact c01
  go_enter Try.func81, Try.ntmps81
  go_upto_region 1 with fail
  go_cut [3] (fun s3 wx => Made w (down xs[0]) (up xs[0]) s3 wx)
  case first =>
    obtain ⟨v0, v1, v2, v3⟩ := HV.out xs[0] (List.getElem_mem (by omega))
    go_region_held3 (fun w' => Kept w w') (exact kpt) (first | (go_at_call 95; (with_reducible refine (f_down xs[0] _ v0 v1 v2 v3).mono ?_); rintro e w1 ⟨rfl, hb1⟩; obtain ⟨hc1, hf1, hl1⟩ := bcell3 hb1) | (go_at_call 133; (with_reducible refine (f_up xs[0] _ v0 v1 v2 v3).mono ?_); rintro e w1 ⟨rfl, hb1⟩; obtain ⟨hc1, hf1, hl1⟩ := bcell3 hb1))
    all_goals (go_wp2_with fail; go_meet)
    all_goals
      refine ⟨_, rfl, ?_, ?_, ?_, ?_⟩
      · first | (simp; done) | (refine Blk.lt (arr := ?_) (t := ?_) ?_; rotate_left 2; focus (exact blk))
      · (exact blkc)
      · (exact blkc)
      · (exact kpt)
  case rest =>
    obtain ⟨g, rfl, hg, q1, q0, hk⟩ := hcut
    have ecap : (1 : Int) < cap := by omega
    go_wp2
    go_loopw [18] (fun i wr => LeastRel w g xs i wr) (fun i _ => xs.length - (intOf i).toNat)
    case atStart => exact ⟨0, by omega, rfl, by rw [List.take_succ_eq_append_getElem hlt0]; simpa [leastLo, leastHi, lmin, lmax] using q1, q0, hk⟩
    case round =>
      obtain ⟨k, hkl, rfl, q1, q0, hk'⟩ := hrel
      by_cases hlt : k < xs.length - 1
      · have hlt' : k + 1 < xs.length := by omega
        obtain ⟨b', off', hab, hb', e0, e1⟩ := Ratio.row (hx.later hk' (Nat.le_refl _)) (k + 1) hlt'
        simp only [Option.some.injEq, Addr.mk.injEq, and_true] at hab
        obtain ⟨rfl, rfl⟩ := hab
        rw [show off + (k + 1) * 2 = off + 2 + k * 2 by omega] at e0 e1
        obtain ⟨v0, v1, v2, v3⟩ := HV.out xs[k + 1] (List.getElem_mem hlt')
        go_wp2
        refine at_world (S := fun W => Blk W g #[.int .i64 (leastLo (xs.take (k + 1))), .int .i64 (leastHi (xs.take (k + 1)))] 23 ∧ Blk W wr.heap.size #[.int .i64 xs[k + 1].num, .int .i64 xs[k + 1].den] 149 ∧ Blk W w.heap.size #[.int .i64 0, .int .i64 0] 23 ∧ Kept w W) ⟨by (exact blk), by (exact blk), by (exact blk), by (exact kpt)⟩ ?_
        rintro W ⟨r1, r2, r0, hkW⟩
        have r1c0 := fun g : Later W => (r1.later g).cell 0
        have r1f0 := fun g : Later W => (r1.later g).free 0
        have r1c1 := fun g : Later W => (r1.later g).cell 1
        have r1f1 := fun g : Later W => (r1.later g).free 1
        have r1l := fun g : Later W => (r1.later g).lt
        simp at r1c0 r1c1
        have r2c0 := fun g : Later W => (r2.later g).cell 0
        have r2f0 := fun g : Later W => (r2.later g).free 0
        have r2c1 := fun g : Later W => (r2.later g).cell 1
        have r2f1 := fun g : Later W => (r2.later g).free 1
        have r2l := fun g : Later W => (r2.later g).lt
        simp at r2c0 r2c1
        refine later_mix [(false, 0), (false, 1), (false, 2), (false, 3), (false, 4), (false, 5), (false, 6), (false, 7), (false, 8), (false, 10), (true, 9)] 11 [12, 13] (by kernel_rfl) (by kernel_rfl) ?_
        simp only [List.filterMap_cons, List.filterMap_nil, List.getElem?_cons_zero, List.getElem?_cons_succ, Option.map_some]
        repeat (refine wpSteps_quiet ?_; (first | go_big_quiet_skip | (go_big_quiet_want; go_big_quiet_op; first | go_big_quiet_on | (apply Exists.intro; refine ⟨fun g => ?_, ?_⟩; (focus (first | (go_at_call 95; exact Later.call (f_down xs[k + 1] _ v0 v1 v2 v3)) | (go_at_call 133; exact Later.call (f_up xs[k + 1] _ v0 v1 v2 v3)))); go_big_quiet_on))); refine wpQuiet_nil ?_)
        refine wpSteps_any (.int .i64 (max (leastHi (xs.take (k + 1))) (up xs[k + 1]))) rfl (fun w => ?_) ?_
        · first | (go_simp; done) | (go_simp; simp [ite_max])
        simp only [Act.put, List.setIfInBounds_toArray, List.set_cons_zero, List.set_cons_succ]
        refine wpSteps_nil ?_
        intro gg
        simp only [ite_min, ite_max]
        have hkg := Kept.drop hkW gg.ok
        have p1 := r1.later gg
        have p0 := r0.later gg
        have c2 := p1.cell 0
        have c3 := p1.cell 1
        have f2 := p1.free 0
        have f3 := p1.free 1
        simp at c2 c3
        go_wp2
        refine NoPanic.normal ?_
        go_wp2
        go_round
        case rel =>
          refine ⟨k + 1, by omega, by go_num, ?_, ?_, by (exact kpt)⟩
          · refine Blk.cast (arr := ?_) ?_ ?_
            rotate_left 1
            · focus (exact blk)
            · have hne : xs.take (k + 1) ≠ [] := by intro h; have h2 : (xs.take (k + 1)).length = 0 := (by rw [h]; rfl); rw [List.length_take] at h2; omega
              rw [List.take_succ_eq_append_getElem hlt', leastLo_snoc _ hne, leastHi_snoc _ hne]
              simp [ite_min, ite_max]
          · (exact blkc)
        case measure => simp [intOf]; omega
      · have hk1 : k + 1 = xs.length := by omega
        have c2 := q1.cell 0
        have c3 := q1.cell 1
        have c4 := q0.cell 0
        have c5 := q0.cell 1
        have f4 := q0.free 0
        have f5 := q0.free 1
        rw [List.take_of_length_le (by omega)] at c2 c3
        simp at c2 c3 c4 c5
        go_wp2
        exact bodyPost_ret (v := .agg #[.int .i64 (leastLo xs), .int .i64 (leastHi xs)]) (by simp [results, Try.results81, go_sem, c4, c5, f4, f5]) rfl ⟨rfl, by (exact kpt)⟩

end Go.Proofs.Ytemafanncejeiaa

/-
  A cell in air: its volumes, and how it fits.
-/
namespace Go.Proofs.Ytemafanncejeiaa
open Go.RowKit Bal Bal.Trim Bal.Gas
set_option linter.unusedVariables false
set_option linter.unusedSimpArgs false
set_option maxHeartbeats 400000

theorem f_put_bad (c : Cell) (a : Air) (w : World) (hv : cellB c = false) :
    Calls Try.prog 80 #[.agg #[.int .i64 c.room, .int .i64 c.helium, .int .i64 c.air, .int .i64 c.wlo, .int .i64 c.whi, .int .i64 c.leak, .int .i64 c.owed], .agg #[.int .i64 a.plo, .int .i64 a.phi, .int .i64 a.tlo, .int .i64 a.thi]] w fun e w' => e = .returned (.tuple #[.agg #[.int .i64 0, .int .i64 0, .int .i64 0, .int .i64 0, .int .i64 0, .int .i64 0, .int .i64 0, .int .i64 0, .int .i64 0, .int .i64 0, .int .i64 0, .int .i64 0, .int .i64 0, .int .i64 0], .int .i64 31]) ∧ Kept w w' := by
  have he : checkCell c = 31 := by unfold checkCell; rw [hv]; rfl
  go_enter Try.func80, Try.ntmps80
  go_wp2_with (go_at_call 28; (with_reducible refine (f_CheckCell _ _).mono ?_); rintro e w1 ⟨rfl, hb1⟩; obtain ⟨hc1, hf1, hl1⟩ := bcell3 hb1)
  exact bodyPost_ret (v := .tuple #[.agg #[.int .i64 0, .int .i64 0, .int .i64 0, .int .i64 0, .int .i64 0, .int .i64 0, .int .i64 0, .int .i64 0, .int .i64 0, .int .i64 0, .int .i64 0, .int .i64 0, .int .i64 0, .int .i64 0], .int .i64 31]) (by simp [results, Try.results80, go_sem, hc1, hf1]) rfl ⟨rfl, by (exact kpt)⟩

theorem f_put_ok (c : Cell) (a : Air) (w : World) (hv : cellB c = true) :
    Calls Try.prog 80 #[.agg #[.int .i64 c.room, .int .i64 c.helium, .int .i64 c.air, .int .i64 c.wlo, .int .i64 c.whi, .int .i64 c.leak, .int .i64 c.owed], .agg #[.int .i64 a.plo, .int .i64 a.phi, .int .i64 a.tlo, .int .i64 a.thi]] w fun e w' => e = .returned (.tuple #[.agg #[.int .i64 c.room, .int .i64 c.helium, .int .i64 c.air, .int .i64 c.wlo, .int .i64 c.whi, .int .i64 c.leak, .int .i64 c.owed, .int .i64 a.plo, .int .i64 a.phi, .int .i64 a.tlo, .int .i64 a.thi, .int .i64 (c.helium + c.air), .int .i64 (wrap64 (a.tlo + c.wlo)), .int .i64 (wrap64 (a.thi + c.whi))], .int .i64 (checkAir a)]) ∧ Kept w w' := by
  have he : checkCell c = 0 := by unfold checkCell; rw [hv]; rfl
  obtain ⟨_, ⟨u1, u2⟩, ⟨u3, u4⟩, _⟩ := cellB_iff.1 hv
  clear hv
  go_enter Try.func80, Try.ntmps80
  go_wp2_with (go_at_call 28; (with_reducible refine (f_CheckCell _ _).mono ?_); rintro e w1 ⟨rfl, hb1⟩)
  refine at_world (S := fun W => Blk W w.heap.size #[.int .i64 c.room, .int .i64 c.helium, .int .i64 c.air, .int .i64 c.wlo, .int .i64 c.whi, .int .i64 c.leak, .int .i64 c.owed] 25 ∧ Blk W (w.heap.size + 1) #[.int .i64 a.plo, .int .i64 a.phi, .int .i64 a.tlo, .int .i64 a.thi] 27 ∧ Blk W (w.heap.size + 1 + 1) #[.int .i64 0, .int .i64 0, .int .i64 0, .int .i64 0, .int .i64 0, .int .i64 0, .int .i64 0, .int .i64 0, .int .i64 0, .int .i64 0, .int .i64 0, .int .i64 0, .int .i64 0, .int .i64 0] 144 ∧ Kept w W) ⟨by (exact blk), by (exact blk), by (exact blk), by (exact kpt)⟩ ?_
  rintro W ⟨r0, r1, r2, hk⟩
  have r0c0 := fun g : Later W => (r0.later g).cell 0
  have r0f0 := fun g : Later W => (r0.later g).free 0
  have r0c1 := fun g : Later W => (r0.later g).cell 1
  have r0f1 := fun g : Later W => (r0.later g).free 1
  have r0c2 := fun g : Later W => (r0.later g).cell 2
  have r0f2 := fun g : Later W => (r0.later g).free 2
  have r0c3 := fun g : Later W => (r0.later g).cell 3
  have r0f3 := fun g : Later W => (r0.later g).free 3
  have r0c4 := fun g : Later W => (r0.later g).cell 4
  have r0f4 := fun g : Later W => (r0.later g).free 4
  have r0c5 := fun g : Later W => (r0.later g).cell 5
  have r0f5 := fun g : Later W => (r0.later g).free 5
  have r0c6 := fun g : Later W => (r0.later g).cell 6
  have r0f6 := fun g : Later W => (r0.later g).free 6
  have r0l := fun g : Later W => (r0.later g).lt
  simp at r0c0 r0c1 r0c2 r0c3 r0c4 r0c5 r0c6
  have r1c0 := fun g : Later W => (r1.later g).cell 0
  have r1f0 := fun g : Later W => (r1.later g).free 0
  have r1c1 := fun g : Later W => (r1.later g).cell 1
  have r1f1 := fun g : Later W => (r1.later g).free 1
  have r1c2 := fun g : Later W => (r1.later g).cell 2
  have r1f2 := fun g : Later W => (r1.later g).free 2
  have r1c3 := fun g : Later W => (r1.later g).cell 3
  have r1f3 := fun g : Later W => (r1.later g).free 3
  have r1l := fun g : Later W => (r1.later g).lt
  simp at r1c0 r1c1 r1c2 r1c3
  have r2c0 := fun g : Later W => (r2.later g).cell 0
  have r2f0 := fun g : Later W => (r2.later g).free 0
  have r2c1 := fun g : Later W => (r2.later g).cell 1
  have r2f1 := fun g : Later W => (r2.later g).free 1
  have r2c2 := fun g : Later W => (r2.later g).cell 2
  have r2f2 := fun g : Later W => (r2.later g).free 2
  have r2c3 := fun g : Later W => (r2.later g).cell 3
  have r2f3 := fun g : Later W => (r2.later g).free 3
  have r2c4 := fun g : Later W => (r2.later g).cell 4
  have r2f4 := fun g : Later W => (r2.later g).free 4
  have r2c5 := fun g : Later W => (r2.later g).cell 5
  have r2f5 := fun g : Later W => (r2.later g).free 5
  have r2c6 := fun g : Later W => (r2.later g).cell 6
  have r2f6 := fun g : Later W => (r2.later g).free 6
  have r2c7 := fun g : Later W => (r2.later g).cell 7
  have r2f7 := fun g : Later W => (r2.later g).free 7
  have r2c8 := fun g : Later W => (r2.later g).cell 8
  have r2f8 := fun g : Later W => (r2.later g).free 8
  have r2c9 := fun g : Later W => (r2.later g).cell 9
  have r2f9 := fun g : Later W => (r2.later g).free 9
  have r2c10 := fun g : Later W => (r2.later g).cell 10
  have r2f10 := fun g : Later W => (r2.later g).free 10
  have r2c11 := fun g : Later W => (r2.later g).cell 11
  have r2f11 := fun g : Later W => (r2.later g).free 11
  have r2c12 := fun g : Later W => (r2.later g).cell 12
  have r2f12 := fun g : Later W => (r2.later g).free 12
  have r2c13 := fun g : Later W => (r2.later g).cell 13
  have r2f13 := fun g : Later W => (r2.later g).free 13
  have r2l := fun g : Later W => (r2.later g).lt
  simp at r2c0 r2c1 r2c2 r2c3 r2c4 r2c5 r2c6 r2c7 r2c8 r2c9 r2c10 r2c11 r2c12 r2c13
  refine later_mix [(false, 0), (false, 1), (false, 2), (false, 3), (false, 4), (false, 5), (false, 6), (false, 7), (false, 8), (false, 9), (false, 10), (false, 11), (false, 12), (false, 13), (false, 14)] 15 [16] (by kernel_rfl) (by kernel_rfl) ?_
  simp only [List.filterMap_cons, List.filterMap_nil, List.getElem?_cons_zero, List.getElem?_cons_succ, Option.map_some]
  repeat (refine wpSteps_quiet ?_; (first | go_big_quiet_skip | (go_big_quiet_want; go_big_quiet_op; first | go_big_quiet_on | (apply Exists.intro; refine ⟨fun g => ?_, ?_⟩; (focus (first | (go_at_call 93; exact Later.call (f_heated _ _ _ _ _)) | (go_at_call 26; exact Later.call (f_CheckAir a _)))); go_big_quiet_on))); refine wpQuiet_nil ?_)
  refine wpSteps_nil ?_
  intro gg
  have hkg := Kept.drop hk gg.ok
  go_wp2
  refine NoPanic.normal ?_
  go_wp2
  exact bodyPost_ret (v := .tuple #[.agg #[.int .i64 c.room, .int .i64 c.helium, .int .i64 c.air, .int .i64 c.wlo, .int .i64 c.whi, .int .i64 c.leak, .int .i64 c.owed, .int .i64 a.plo, .int .i64 a.phi, .int .i64 a.tlo, .int .i64 a.thi, .int .i64 (c.helium + c.air), .int .i64 (wrap64 (a.tlo + c.wlo)), .int .i64 (wrap64 (a.thi + c.whi))], .int .i64 (checkAir a)]) (by simp [results, Try.results80, go_sem, r2c0, r2f0, r2c1, r2f1, r2c2, r2f2, r2c3, r2f3, r2c4, r2f4, r2c5, r2f5, r2c6, r2f6, r2c7, r2f7, r2c8, r2f8, r2c9, r2f9, r2c10, r2f10, r2c11, r2f11, r2c12, r2f12, r2c13, r2f13]) rfl ⟨rfl, by (exact kpt)⟩

end Go.Proofs.Ytemafanncejeiaa

/-
  The reference of gas: its small functions.
-/
namespace Go.Proofs.Ytemafanncejeiaa
open Go.RowKit Bal Bal.Trim Bal.Gas
set_option linter.unusedVariables false
set_option linter.unusedSimpArgs false
set_option maxHeartbeats 400000

theorem w64_in (n : Int) (h : -9223372036854775808 ≤ n ∧ n ≤ 9223372036854775807) : wrap64 n = n := by unfold wrap64; omega

theorem r_within (n lo hi : Int) (w : World) :
    Calls Try.prog 104 #[.int .i64 n, .int .i64 lo, .int .i64 hi] w fun e w' => e = .returned (.bool (inB n lo hi)) ∧ w = w' := by
  go_enter Try.func104, Try.ntmps104
  go_wp2
  all_goals (go_ret; exact ⟨ret_bool (by first | (simp_all [inB]; done) | (simp_all [inB]; omega)), rfl⟩)

theorem r_spanned (x y lo hi : Int) (w : World) :
    Calls Try.prog 129 #[.agg #[.int .i64 x, .int .i64 y], .int .i64 lo, .int .i64 hi] w fun e w' => e = .returned (.bool (spanIn x y lo hi)) ∧ Kept w w' := by
  have he : spanIn x y lo hi = (decide (lo ≤ x) && decide (x ≤ y) && decide (y ≤ hi)) := by
    simp only [spanIn, rng, inB, List.all_cons, List.all_nil, Bool.and_true]
    rw [Bool.eq_iff_iff]
    simp
    omega
  rw [he]
  by_cases h1 : lo ≤ x <;> by_cases h2 : x ≤ y <;> by_cases h3 : y ≤ hi
  all_goals
    go_enter Try.func129, Try.ntmps129
    go_wp2
    all_goals (go_ret; refine ⟨ret_bool ?_, by (exact kpt)⟩; simp_all)

theorem r_warm (x y : Int) (w : World) :
    Calls Try.prog 134 #[.agg #[.int .i64 x, .int .i64 y]] w fun e w' => e = .returned (.bool (spanIn x y (-300) (300))) ∧ Kept w w' := by
  go_enter Try.func134, Try.ntmps134
  go_wp2_with (go_at_call 129; (with_reducible refine (r_spanned _ _ _ _ _).mono ?_); rintro e w1 ⟨rfl, hb1⟩; obtain ⟨hc1, hf1, hl1⟩ := bcell3 hb1)
  go_ret
  exact ⟨rfl, by (exact kpt)⟩

theorem r_Temp (x y : Int) (w : World) :
    Calls Try.prog 94 #[.agg #[.int .i64 x, .int .i64 y]] w fun e w' => e = .returned (.bool (spanIn x y (1500) (3500))) ∧ Kept w w' := by
  go_enter Try.func94, Try.ntmps94
  go_wp2_with (go_at_call 129; (with_reducible refine (r_spanned _ _ _ _ _).mono ?_); rintro e w1 ⟨rfl, hb1⟩; obtain ⟨hc1, hf1, hl1⟩ := bcell3 hb1)
  go_ret
  exact ⟨rfl, by (exact kpt)⟩

theorem r_Air (a : Air) (w : World) :
    Calls Try.prog 90 #[.agg #[.int .i64 a.plo, .int .i64 a.phi, .int .i64 a.tlo, .int .i64 a.thi]] w fun e w' => e = .returned (.bool (airB a)) ∧ Kept w w' := by
  go_enter Try.func90, Try.ntmps90
  go_wp2_with (first | (go_at_call 129; (with_reducible refine (r_spanned _ _ _ _ _).mono ?_); rintro e w1 ⟨rfl, hb1⟩; obtain ⟨hc1, hf1, hl1⟩ := bcell3 hb1) | (go_at_call 94; (with_reducible refine (r_Temp _ _ _).mono ?_); rintro e w1 ⟨rfl, hb1⟩; obtain ⟨hc1, hf1, hl1⟩ := bcell3 hb1))
  all_goals (go_ret; refine ⟨ret_bool ?_, by (exact kpt)⟩; simp_all [airB])

theorem r_CheckAir (a : Air) (w : World) :
    Calls Try.prog 27 #[.agg #[.int .i64 a.plo, .int .i64 a.phi, .int .i64 a.tlo, .int .i64 a.thi]] w fun e w' => e = .returned (.int .i64 (checkAir a)) ∧ Kept w w' := by
  cases hv : airB a
  all_goals
    go_enter Try.func27, Try.ntmps27
    go_wp2_with (go_at_call 90; (with_reducible refine (r_Air a _).mono ?_); rw [hv]; rintro e w1 ⟨rfl, hb1⟩; obtain ⟨hc1, hf1, hl1⟩ := bcell3 hb1)
    all_goals (go_ret; refine ⟨ret_int ?_, by (exact kpt)⟩; simp_all [checkAir])

theorem r_Cell (c : Cell) (w : World) :
    Calls Try.prog 92 #[.agg #[.int .i64 c.room, .int .i64 c.helium, .int .i64 c.air, .int .i64 c.wlo, .int .i64 c.whi, .int .i64 c.leak, .int .i64 c.owed]] w fun e w' => e = .returned (.bool (cellB c)) ∧ Kept w w' := by
  go_enter Try.func92, Try.ntmps92
  go_wp2_with (first | (go_at_call 104; (with_reducible refine (r_within _ _ _ _).mono ?_); rintro e w1 ⟨rfl, rfl⟩) | (go_at_call 134; (with_reducible refine (r_warm _ _ _).mono ?_); rintro e w1 ⟨rfl, hb1⟩; obtain ⟨hc1, hf1, hl1⟩ := bcell3 hb1))
  all_goals (go_ret; refine ⟨ret_bool ?_, by (exact kpt)⟩; simp_all [cellB, cellFits, rng])

theorem r_CheckCell (c : Cell) (w : World) :
    Calls Try.prog 29 #[.agg #[.int .i64 c.room, .int .i64 c.helium, .int .i64 c.air, .int .i64 c.wlo, .int .i64 c.whi, .int .i64 c.leak, .int .i64 c.owed]] w fun e w' => e = .returned (.int .i64 (checkCell c)) ∧ Kept w w' := by
  cases hv : cellB c
  all_goals
    go_enter Try.func29, Try.ntmps29
    go_wp2_with (go_at_call 92; (with_reducible refine (r_Cell c _).mono ?_); rw [hv]; rintro e w1 ⟨rfl, hb1⟩; obtain ⟨hc1, hf1, hl1⟩ := bcell3 hb1)
    all_goals (go_ret; refine ⟨ret_int ?_, by (exact kpt)⟩; simp_all [checkCell])

theorem r_asked (c : Cell) (a : Air) (w : World) :
    Calls Try.prog 82 #[.agg #[.int .i64 c.room, .int .i64 c.helium, .int .i64 c.air, .int .i64 c.wlo, .int .i64 c.whi, .int .i64 c.leak, .int .i64 c.owed], .agg #[.int .i64 a.plo, .int .i64 a.phi, .int .i64 a.tlo, .int .i64 a.thi]] w fun e w' => e = .returned (.int .i64 (asked c a)) ∧ Kept w w' := by
  cases hv : cellB c
  all_goals
    go_enter Try.func82, Try.ntmps82
    go_wp2_with (first | (go_at_call 92; (with_reducible refine (r_Cell c _).mono ?_); rw [hv]; rintro e w1 ⟨rfl, hb1⟩; obtain ⟨hc1, hf1, hl1⟩ := bcell3 hb1) | (go_at_call 27; (with_reducible refine (r_CheckAir a _).mono ?_); rintro e w1 ⟨rfl, hb1⟩; obtain ⟨hc1, hf1, hl1⟩ := bcell3 hb1))
    all_goals (go_ret; refine ⟨ret_int ?_, by (exact kpt)⟩; simp_all [asked])

theorem r_floor (a b : Int) (w : World) (h0 : 0 < b) (h1 : b ≤ 1000000000000000) (h2 : -1000000000000000 ≤ a) (h3 : a ≤ 1000000000000000) :
    Calls Try.prog 84 #[.int .i64 a, .int .i64 b] w fun e w' => e = .returned (.int .i64 (a / b)) ∧ w = w' := by
  have HF := Lib.hid (floor_eq (a := a) h0)
  obtain ⟨⟨b1, b2⟩, b3, b4⟩ := tdiv_bd h2 h3 h0 (by omega)
  by_cases hg : a.tdiv b * b > a
  all_goals
    have HG := Lib.hid hg
    go_enter Try.func84, Try.ntmps84
    go_wp2
    go_ret
    exact ⟨ret_int (by have hf := HF.out; first | (rw [if_pos HG.out] at hf; exact hf) | (rw [if_neg (Int.not_lt.2 HG.out)] at hf; exact hf)), rfl⟩

theorem r_ceil (a b : Int) (w : World) (h0 : 0 < b) (h1 : b ≤ 1000000000000000) (h2 : -1000000000000000 ≤ a) (h3 : a ≤ 1000000000000000) :
    Calls Try.prog 86 #[.int .i64 a, .int .i64 b] w fun e w' => e = .returned (.int .i64 (-((-a) / b))) ∧ w = w' := by
  obtain ⟨d1, d2⟩ := div_bd (N := 1000000000000000) (a := -a) (b := b) (by omega) (by omega) h0 (by omega)
  go_enter Try.func86, Try.ntmps86
  go_wp2_with (go_at_call 84; (with_reducible refine (r_floor (-a) b _ h0 h1 (by omega) (by omega)).mono ?_); rintro e w1 ⟨rfl, rfl⟩)
  go_ret
  exact ⟨rfl, rfl⟩

theorem r_heat (x y u v : Int) (w : World) :
    Calls Try.prog 83 #[.agg #[.int .i64 x, .int .i64 y], .agg #[.int .i64 u, .int .i64 v]] w fun e w' => e = .returned (.agg #[.int .i64 (wrap64 (x + u)), .int .i64 (wrap64 (y + v))]) ∧ Kept w w' := by
  go_enter Try.func83, Try.ntmps83
  go_wp2
  exact bodyPost_ret (v := .agg #[.int .i64 (wrap64 (x + u)), .int .i64 (wrap64 (y + v))]) (by simp [results, Try.results83, go_sem]) rfl ⟨rfl, by (exact kpt)⟩

theorem r_heat_ok (x y u v : Int) (w : World) (h : -1000000 ≤ x ∧ x ≤ 1000000 ∧ -1000000 ≤ y ∧ y ≤ 1000000 ∧ -1000000 ≤ u ∧ u ≤ 1000000 ∧ -1000000 ≤ v ∧ v ≤ 1000000) :
    Calls Try.prog 83 #[.agg #[.int .i64 x, .int .i64 y], .agg #[.int .i64 u, .int .i64 v]] w fun e w' => e = .returned (.agg #[.int .i64 (x + u), .int .i64 (y + v)]) ∧ Kept w w' := by
  have := r_heat x y u v w
  rwa [w64_in (x + u) (by omega), w64_in (y + v) (by omega)] at this

theorem r_amount (c : Cell) (w : World) (h : cellB c = true) :
    Calls Try.prog 85 #[.agg #[.int .i64 c.room, .int .i64 c.helium, .int .i64 c.air, .int .i64 c.wlo, .int .i64 c.whi, .int .i64 c.leak, .int .i64 c.owed]] w fun e w' => e = .returned (.int .i64 (amount c)) ∧ Kept w w' := by
  obtain ⟨_, ⟨u1, u2⟩, ⟨u3, u4⟩, _⟩ := cellB_iff.1 h
  clear h
  go_enter Try.func85, Try.ntmps85
  go_wp2
  go_ret
  exact ⟨rfl, by (exact kpt)⟩

theorem f_put_good (c : Cell) (a : Air) (w : World) (hv : cellB c = true) (ha : airB a = true) :
    Calls Try.prog 80 #[.agg #[.int .i64 c.room, .int .i64 c.helium, .int .i64 c.air, .int .i64 c.wlo, .int .i64 c.whi, .int .i64 c.leak, .int .i64 c.owed], .agg #[.int .i64 a.plo, .int .i64 a.phi, .int .i64 a.tlo, .int .i64 a.thi]] w fun e w' => e = .returned (.tuple #[.agg #[.int .i64 c.room, .int .i64 c.helium, .int .i64 c.air, .int .i64 c.wlo, .int .i64 c.whi, .int .i64 c.leak, .int .i64 c.owed, .int .i64 a.plo, .int .i64 a.phi, .int .i64 a.tlo, .int .i64 a.thi, .int .i64 (amount c), .int .i64 (heatLo c a), .int .i64 (heatHi c a)], .int .i64 0]) ∧ Kept w w' := by
  obtain ⟨h1, h2, h3, h4, h5, h6⟩ := cellB_iff.1 hv
  obtain ⟨h7, h8⟩ := airB_iff.1 ha
  have := f_put_ok c a w hv
  rwa [show checkAir a = 0 by simp [checkAir, ha], w64_in (a.tlo + c.wlo) (by omega), w64_in (a.thi + c.whi) (by omega)] at this

theorem f_least2 (r s : Ratio) (t : TypeId) (W : World) (m : Nat) (hm : m = W.heap.size) (hr : ratioOk r) (hs : ratioOk s) :
    Calls Try.prog 81 #[.slice (some ⟨m, 0, none⟩) 2 2] (W.alloc (.cells #[.int .i64 r.num, .int .i64 r.den, .int .i64 s.num, .int .i64 s.den] t)) fun e w' => e = .returned (.agg #[.int .i64 (leastLo [r, s]), .int .i64 (leastHi [r, s])]) ∧ Kept (W.alloc (.cells #[.int .i64 r.num, .int .i64 r.den, .int .i64 s.num, .int .i64 s.den] t)) w' := by
  subst hm
  exact f_least _ 2 2 [r, s] _ rfl (B := 0) (Row.fresh (enc := Ratio.cells) (fun _ => rfl) rfl) (by decide) (by decide) (by decide) (by intro x hx; simp at hx; rcases hx with rfl | rfl <;> assumption)

end Go.Proofs.Ytemafanncejeiaa

/-
  Structs as cells of memory. No program in sight.
-/
namespace Bal.Gas
open Go Go.RowKit Bal

def Sp.cells (x : Sp) : List Value := [.int .i64 x.lo, .int .i64 x.hi]
theorem Sp.row {B : Nat} {w : World} {a : Option Addr} {xs : List Sp} (h : Row Sp.cells 2 B w a xs) (i : Nat) (hi : i < xs.length) :
    ∃ b off, a = some ⟨b, off, none⟩ ∧ b < B ∧ w.cell? ⟨b, off + i * 2, none⟩ = some (.int .i64 xs[i].lo) ∧ w.cell? ⟨b, off + i * 2 + 1, none⟩ = some (.int .i64 xs[i].hi) := by
  obtain ⟨b, off, ha, hb, hc⟩ := h i xs[i] (by simp [hi])
  exact ⟨b, off, ha, hb, hc 0 _ rfl, hc 1 _ rfl⟩
theorem Sp.of_leaves {cs : List Value} (h : LeavesOk [.int .i64, .int .i64] cs) : ∃ x : Sp, cs = x.cells ∧ (Lit.int .i64 x.lo).wf = true ∧ (Lit.int .i64 x.hi).wf = true := by
  obtain ⟨hl, h⟩ := h
  match cs, hl with
  | [v0, v1], _ =>
    obtain ⟨_, e0, n0, rfl, w0⟩ := h 0 (.int .i64) rfl; simp at e0; subst e0
    obtain ⟨_, e1, n1, rfl, w1⟩ := h 1 (.int .i64) rfl; simp at e1; subst e1
    exact ⟨⟨n0, n1⟩, rfl, w0, w1⟩

def Flow.cells (x : Flow) : List Value := [.int .i64 x.time, .int .i64 x.cell, .int .i64 x.n]
theorem Flow.row {B : Nat} {w : World} {a : Option Addr} {xs : List Flow} (h : Row Flow.cells 3 B w a xs) (i : Nat) (hi : i < xs.length) :
    ∃ b off, a = some ⟨b, off, none⟩ ∧ b < B ∧ w.cell? ⟨b, off + i * 3, none⟩ = some (.int .i64 xs[i].time) ∧ w.cell? ⟨b, off + i * 3 + 1, none⟩ = some (.int .i64 xs[i].cell) ∧ w.cell? ⟨b, off + i * 3 + 2, none⟩ = some (.int .i64 xs[i].n) := by
  obtain ⟨b, off, ha, hb, hc⟩ := h i xs[i] (by simp [hi])
  exact ⟨b, off, ha, hb, hc 0 _ rfl, hc 1 _ rfl, hc 2 _ rfl⟩
theorem Flow.of_leaves {cs : List Value} (h : LeavesOk [.int .i64, .int .i64, .int .i64] cs) : ∃ x : Flow, cs = x.cells ∧ (Lit.int .i64 x.time).wf = true ∧ (Lit.int .i64 x.cell).wf = true ∧ (Lit.int .i64 x.n).wf = true := by
  obtain ⟨hl, h⟩ := h
  match cs, hl with
  | [v0, v1, v2], _ =>
    obtain ⟨_, e0, n0, rfl, w0⟩ := h 0 (.int .i64) rfl; simp at e0; subst e0
    obtain ⟨_, e1, n1, rfl, w1⟩ := h 1 (.int .i64) rfl; simp at e1; subst e1
    obtain ⟨_, e2, n2, rfl, w2⟩ := h 2 (.int .i64) rfl; simp at e2; subst e2
    exact ⟨⟨n0, n1, n2⟩, rfl, w0, w1, w2⟩

end Bal.Gas

/-
  A history as cells of memory: warm, gauges with their volumes, flows. No program in sight.
-/
namespace Bal.Gas
open Go Go.RowKit Bal Bal.Trim
set_option linter.unusedVariables false
def gv (g : Gauge) : Option Addr := g.va.map fun p => ⟨p.1, p.2.1, p.2.2⟩
def Gauge.cells (g : Gauge) : List Value := [.int .i64 g.time, .int .i64 g.air.plo, .int .i64 g.air.phi, .int .i64 g.air.tlo, .int .i64 g.air.thi, .slice (gv g) g.vols.length g.vc]
theorem Gauge.row {B : Nat} {w : World} {a : Option Addr} {xs : List Gauge} (h : Row Gauge.cells 6 B w a xs) (i : Nat) (hi : i < xs.length) :
    ∃ b off, a = some ⟨b, off, none⟩ ∧ b < B ∧ w.cell? ⟨b, off + i * 6, none⟩ = some (.int .i64 xs[i].time) ∧ w.cell? ⟨b, off + i * 6 + 1, none⟩ = some (.int .i64 xs[i].air.plo) ∧ w.cell? ⟨b, off + i * 6 + 2, none⟩ = some (.int .i64 xs[i].air.phi) ∧
      w.cell? ⟨b, off + i * 6 + 3, none⟩ = some (.int .i64 xs[i].air.tlo) ∧ w.cell? ⟨b, off + i * 6 + 4, none⟩ = some (.int .i64 xs[i].air.thi) ∧ w.cell? ⟨b, off + i * 6 + 5, none⟩ = some (.slice (gv xs[i]) xs[i].vols.length xs[i].vc) := by
  obtain ⟨b, off, ha, hb, hc⟩ := h i xs[i] (by simp [hi])
  exact ⟨b, off, ha, hb, hc 0 _ rfl, hc 1 _ rfl, hc 2 _ rfl, hc 3 _ rfl, hc 4 _ rfl, hc 5 _ rfl⟩
/-- where a history lies -/
structure Spot where
  aw : Option Addr
  ag : Option Addr
  af : Option Addr
  cw : Nat
  cg : Nat
  cf : Nat
def histV (s : Spot) (h : Hist) : Array Value := #[.slice s.aw h.warm.length s.cw, .slice s.ag h.gauges.length s.cg, .slice s.af h.flows.length s.cf]
structure HistAt (h : Hist) (s : Spot) (w : World) : Prop where
  warm : Row Sp.cells 2 w.heap.size w s.aw h.warm
  gauges : Row Gauge.cells 6 w.heap.size w s.ag h.gauges
  flows : Row Flow.cells 3 w.heap.size w s.af h.flows
  vols : ∀ g ∈ h.gauges, Row Sp.cells 2 w.heap.size w (gv g) g.vols
  wc : h.warm.length ≤ s.cw
  gc : h.gauges.length ≤ s.cg
  fc : h.flows.length ≤ s.cf
  wm : s.cw ≤ maxLen
  gm : s.cg ≤ maxLen
  fm : s.cf ≤ maxLen
  vc : ∀ g ∈ h.gauges, g.vols.length ≤ g.vc ∧ g.vc ≤ maxLen
theorem HistAt.later {h : Hist} {s : Spot} {w w' : World} (k : HistAt h s w) (hb : Kept w w') : HistAt h s w' :=
  ⟨k.warm.later hb (Nat.le_refl _), k.gauges.later hb (Nat.le_refl _), k.flows.later hb (Nat.le_refl _), fun g hg => (k.vols g hg).later hb (Nat.le_refl _), k.wc, k.gc, k.fc, k.wm, k.gm, k.fm, k.vc⟩
theorem HistAt.volsAt {h : Hist} {s : Spot} {w : World} (k : HistAt h s w) (i : Nat) (hi : i < h.gauges.length) : Row Sp.cells 2 w.heap.size w (gv (gAt h i)) (gAt h i).vols := by
  have e : gAt h i = h.gauges[i] := by simp [gAt, hi]
  rw [e]
  exact k.vols _ (List.getElem_mem hi)
theorem gAt_get {h : Hist} {i : Nat} (hi : i < h.gauges.length) : h.gauges[i] = gAt h i := by simp [gAt, hi]
theorem wAt_get {h : Hist} {c : Nat} (hc : c < h.warm.length) : h.warm[c] = wAt h c := by simp [wAt, hc]
theorem vAt_get {g : Gauge} {c : Nat} (hc : c < g.vols.length) : g.vols[c] = vAt g c := by simp [vAt, hc]
end Bal.Gas

/-
  The reference: great histories; lists that are the same.
-/
namespace Go.Proofs.Ytemafanncejeiaa
open Go.RowKit Bal Bal.Trim Bal.Gas
set_option linter.unusedVariables false
set_option linter.unusedSimpArgs false
set_option maxHeartbeats 4000000
set_option maxRecDepth 100000

theorem r_SameSpans (a b : Option Addr) (c d : Nat) (xs : List Sp) (w : World) (hx : Row Sp.cells 2 w.heap.size w a xs) (hy : Row Sp.cells 2 w.heap.size w b xs) (hc : xs.length ≤ c) (hd : xs.length ≤ d) (hM : c ≤ maxLen) (hN : d ≤ maxLen) :
    Calls Try.prog 66 #[.slice a xs.length c, .slice b xs.length d] w fun e w' => e = .returned (.bool true) ∧ Kept w w' := by
  unfold maxLen at hM hN
  go_enter Try.func66, Try.ntmps66
  go_wp2
  go_loopw [5] (fun i wr => ∃ k : Nat, k ≤ xs.length ∧ i = .int .i64 k ∧ Kept w wr) (fun i _ => xs.length - (intOf i).toNat)
  case atStart => exact ⟨0, Nat.zero_le _, rfl, Below.refl _ _⟩
  case round =>
    obtain ⟨k, hk, rfl, hkk⟩ := hrel
    by_cases hlt : k < xs.length
    · obtain ⟨b1, o1, rfl, hb1, h0, h1⟩ := Sp.row (hx.later hkk (Nat.le_refl _)) k hlt
      obtain ⟨b2, o2, rfl, hb2, j0, j1⟩ := Sp.row (hy.later hkk (Nat.le_refl _)) k hlt
      have x0 := fun g : Later wr => g.some h0
      have y0 := fun g : Later wr => g.some j0
      have x1 := fun g : Later wr => g.some h1
      have y1 := fun g : Later wr => g.some j1
      go_upto_region 6 with fail
      refine Later.region (by kernel_rfl) (by kernel_rfl) ?_
      repeat (first | go_big_quiet_skip | (go_big_quiet_want; go_big_quiet_op; first | go_big_quiet_on | (apply Exists.intro; refine ⟨fun g => ?_, ?_⟩; (focus (first | fail)); go_big_quiet_on)))
      refine wpQuiet_nil ?_
      intro gg
      have hkgg := Kept.drop hkk gg.ok
      go_wp2
      go_round
      case rel => exact ⟨k + 1, by omega, by go_num, by (exact kpt)⟩
      case measure => simp [intOf]; omega
    · obtain rfl : k = xs.length := by omega
      go_wp2
      go_ret
      exact ⟨rfl, hkk⟩

theorem r_SameInts (a b : Option Addr) (c d : Nat) (xs : List Int) (w : World) (hx : Row icell 1 w.heap.size w a xs) (hy : Row icell 1 w.heap.size w b xs) (hc : xs.length ≤ c) (hd : xs.length ≤ d) (hM : c ≤ maxLen) (hN : d ≤ maxLen) :
    Calls Try.prog 67 #[.slice a xs.length c, .slice b xs.length d] w fun e w' => e = .returned (.bool true) ∧ Kept w w' := by
  unfold maxLen at hM hN
  go_enter Try.func67, Try.ntmps67
  go_wp2
  go_loopw [5] (fun i wr => ∃ k : Nat, k ≤ xs.length ∧ i = .int .i64 k ∧ Kept w wr) (fun i _ => xs.length - (intOf i).toNat)
  case atStart => exact ⟨0, Nat.zero_le _, rfl, Below.refl _ _⟩
  case round =>
    obtain ⟨k, hk, rfl, hkk⟩ := hrel
    by_cases hlt : k < xs.length
    · obtain ⟨b1, o1, rfl, hb1, h0⟩ := int_row (hx.later hkk (Nat.le_refl _)) k hlt
      obtain ⟨b2, o2, rfl, hb2, j0⟩ := int_row (hy.later hkk (Nat.le_refl _)) k hlt
      have x0 := fun g : Later wr => g.some h0
      have y0 := fun g : Later wr => g.some j0
      go_upto_region 6 with fail
      refine Later.region (by kernel_rfl) (by kernel_rfl) ?_
      repeat (first | go_big_quiet_skip | (go_big_quiet_want; go_big_quiet_op; first | go_big_quiet_on | (apply Exists.intro; refine ⟨fun g => ?_, ?_⟩; (focus (first | fail)); go_big_quiet_on)))
      refine wpQuiet_nil ?_
      intro gg
      have hkgg := Kept.drop hkk gg.ok
      go_wp2
      go_round
      case rel => exact ⟨k + 1, by omega, by go_num, by (exact kpt)⟩
      case measure => simp [intOf]; omega
    · obtain rfl : k = xs.length := by omega
      go_wp2
      go_ret
      exact ⟨rfl, hkk⟩

theorem r_GreatH (h : Hist) (s : Spot) (w : World) (hh : HistAt h s w) :
    Calls Try.prog 55 #[.agg #[.slice s.aw h.warm.length s.cw, .slice s.ag h.gauges.length s.cg, .slice s.af h.flows.length s.cf]] w fun e w' => e = .returned (.bool (greatH h)) ∧ Kept w w' := by
  have hcw := hh.wc
  have hcm := hh.wm
  have hgc := hh.gc
  have hgm := hh.gm
  have hfc := hh.fc
  have hfm := hh.fm
  unfold maxLen at hcm hgm hfm
  by_cases h1 : 20 < h.warm.length
  · have e1 : decide ((20 : Int) < (h.warm.length : Int)) = true := by simp; omega
    have HG := Lib.hid (show greatH h = true by simp [greatH, h1])
    go_enter Try.func55, Try.ntmps55
    go_wp2
    go_ret
    exact ⟨ret_bool HG.out.symm, by (exact kpt)⟩
  · have e1 : decide ((20 : Int) < (h.warm.length : Int)) = false := by simp; omega
    by_cases h2 : 40 < h.gauges.length
    · have e2 : decide ((40 : Int) < (h.gauges.length : Int)) = true := by simp; omega
      have HG := Lib.hid (show greatH h = true by simp [greatH, h2])
      go_enter Try.func55, Try.ntmps55
      go_wp2
      go_ret
      exact ⟨ret_bool HG.out.symm, by (exact kpt)⟩
    · have e2 : decide ((40 : Int) < (h.gauges.length : Int)) = false := by simp; omega
      by_cases h3 : 120 < h.flows.length
      · have e3 : decide ((120 : Int) < (h.flows.length : Int)) = true := by simp; omega
        have HG := Lib.hid (show greatH h = true by simp [greatH, h3])
        go_enter Try.func55, Try.ntmps55
        go_wp2
        go_ret
        exact ⟨ret_bool HG.out.symm, by (exact kpt)⟩
      · have e3 : decide ((120 : Int) < (h.flows.length : Int)) = false := by simp; omega
        have HQ := Lib.hid (show greatH h = h.gauges.any fun g => decide (20 < g.vols.length) by simp [greatH, h1, h2, h3])
        go_enter Try.func55, Try.ntmps55
        go_wp2
        clear e1 e2 e3
        go_loopw [3] (fun i wr => ∃ k : Nat, k ≤ h.gauges.length ∧ i = .int .i64 k ∧ (∀ j (hj : j < h.gauges.length), j < k → h.gauges[j].vols.length ≤ 20) ∧ Blk wr w.heap.size #[.slice s.aw h.warm.length s.cw, .slice s.ag h.gauges.length s.cg, .slice s.af h.flows.length s.cf] 85 ∧ Kept w wr) (fun i _ => h.gauges.length - (intOf i).toNat)
        case atStart => exact ⟨0, Nat.zero_le _, rfl, fun j _ hj => by omega, by (exact blkc), by (exact kpt)⟩
        case round =>
          obtain ⟨k, hk, rfl, hall, q0, hkk⟩ := hrel
          have HALL := Lib.hid hall
          clear hall
          have q0c0 := q0.cell 0
          have q0f0 := q0.free 0
          have q0c1 := q0.cell 1
          have q0f1 := q0.free 1
          have q0c2 := q0.cell 2
          have q0f2 := q0.free 2
          have q0l := q0.lt
          simp at q0c0 q0c1 q0c2
          by_cases hlt : k < h.gauges.length
          · obtain ⟨b1, o1, hag, hb1, c0, c1, c2, c3, c4, c5⟩ := Gauge.row ((hh.later hkk).gauges) k hlt
            have hvc := (hh.vc _ (List.getElem_mem hlt))
            obtain ⟨g, hg⟩ : ∃ g, g = h.gauges[k] := ⟨_, rfl⟩
            rw [← hg] at c5 hvc
            obtain ⟨hv1, hv2⟩ := hvc
            unfold maxLen at hv2
            have HGK := Lib.hid hg
            clear hg c0 c1 c2 c3 c4
            rw [hag] at q0c1
            clear hag
            by_cases hb : 20 < g.vols.length
            · have e4 : decide ((20 : Int) < (g.vols.length : Int)) = true := by simp; omega
              have HG := Lib.hid (show greatH h = true by rw [HQ.out, List.any_eq_true]; exact ⟨g, by rw [HGK.out]; exact List.getElem_mem hlt, by simpa using hb⟩)
              go_wp2
              go_ret
              exact ⟨ret_bool HG.out.symm, hkk⟩
            · have e4 : decide ((20 : Int) < (g.vols.length : Int)) = false := by simp; omega
              go_wp2
              go_round
              case rel =>
                refine ⟨k + 1, by omega, by go_num, fun j hj hjk => ?_, q0, hkk⟩
                by_cases hjj : j < k
                · exact HALL.out j hj hjj
                · obtain rfl : j = k := by omega
                  rw [← HGK.out]; omega
              case measure => simp [intOf]; omega
          · obtain rfl : k = h.gauges.length := by omega
            have HG := Lib.hid (show greatH h = false by
              rw [HQ.out, Bool.eq_false_iff]
              intro hc
              rw [List.any_eq_true] at hc
              obtain ⟨g, hgm, hb⟩ := hc
              obtain ⟨j, hj, rfl⟩ := List.mem_iff_getElem.1 hgm
              have := HALL.out j hj hj
              simp at hb
              omega)
            go_wp2
            go_ret
            exact ⟨ret_bool HG.out.symm, hkk⟩

end Go.Proofs.Ytemafanncejeiaa

/-
  The reference: whether a history is valid.
-/
namespace Go.Proofs.Ytemafanncejeiaa
open Go.RowKit Bal Bal.Trim Bal.Gas
set_option linter.unusedVariables false
set_option linter.unusedSimpArgs false
set_option maxHeartbeats 4000000
set_option maxRecDepth 100000

theorem i64_inH {n : Int} (h : -9223372036854775808 ≤ n ∧ n ≤ 9223372036854775807) : IntKind.i64.wrap n = n := by rw [IntKind.wrap_i64]; have := w64_in n h; unfold wrap64 at this; omega
theorem r_withinQ (n lo hi : Int) (b : Bool) (h : inB n lo hi = b) (w : World) : Calls Try.prog 104 #[.int .i64 n, .int .i64 lo, .int .i64 hi] w fun e w' => e = .returned (.bool b) ∧ w = w' := by rw [← h]; exact r_within n lo hi w
theorem r_AirQ (a : Air) (b : Bool) (h : airB a = b) (w : World) : Calls Try.prog 90 #[.agg #[.int .i64 a.plo, .int .i64 a.phi, .int .i64 a.tlo, .int .i64 a.thi]] w fun e w' => e = .returned (.bool b) ∧ Kept w w' := by rw [← h]; exact r_Air a w
theorem r_History_sizes (h : Hist) (s : Spot) (w : World) (hh : HistAt h s w) (hs : sizesB h = false) :
    Calls Try.prog 126 #[.agg #[.slice s.aw h.warm.length s.cw, .slice s.ag h.gauges.length s.cg, .slice s.af h.flows.length s.cf]] w fun e w' => e = .returned (.bool (histB h)) ∧ Kept w w' := by
  have hcw := hh.wc
  have hcm := hh.wm
  have hgc := hh.gc
  have hgm := hh.gm
  have hfc := hh.fc
  have hfm := hh.fm
  unfold maxLen at hcm hgm hfm
  have HF := Lib.hid (histB_sizes hs)
  cases h1 : inB h.warm.length 1 12
  · have H1 := Lib.hid h1
    clear h1 hs
    go_enter Try.func126, Try.ntmps126
    go_wp2_with (go_at_call 104; (with_reducible refine (r_within (h.warm.length : Int) _ _ _).mono ?_); rw [H1.out]; rintro e w9 ⟨rfl, rfl⟩)
    go_ret
    exact ⟨ret_bool (by rw [HF.out]), by (exact kpt)⟩
  · have H1 := Lib.hid h1
    cases h2 : inB h.gauges.length 1 30
    · have H2 := Lib.hid h2
      clear h1 h2 hs
      go_enter Try.func126, Try.ntmps126
      go_wp2_with (first | (go_at_call 104; (with_reducible refine (r_within (h.warm.length : Int) _ _ _).mono ?_); rw [H1.out]; rintro e w9 ⟨rfl, rfl⟩) | (go_at_call 104; (with_reducible refine (r_within (h.gauges.length : Int) _ _ _).mono ?_); rw [H2.out]; rintro e w9 ⟨rfl, rfl⟩))
      go_ret
      exact ⟨ret_bool (by rw [HF.out]), by (exact kpt)⟩
    · have H2 := Lib.hid h2
      have e3 : decide ((100 : Int) < (h.flows.length : Int)) = true := by simp [sizesB, h1, h2] at hs; simp; omega
      clear h1 h2 hs
      go_enter Try.func126, Try.ntmps126
      go_wp2_with (first | (go_at_call 104; (with_reducible refine (r_within (h.warm.length : Int) _ _ _).mono ?_); rw [H1.out]; rintro e w9 ⟨rfl, rfl⟩) | (go_at_call 104; (with_reducible refine (r_within (h.gauges.length : Int) _ _ _).mono ?_); rw [H2.out]; rintro e w9 ⟨rfl, rfl⟩))
      go_ret
      exact ⟨ret_bool (by rw [HF.out]), by (exact kpt)⟩

theorem r_History_main (h : Hist) (s : Spot) (w : World) (hh : HistAt h s w) (hs : sizesB h = true) :
    Calls Try.prog 126 #[.agg #[.slice s.aw h.warm.length s.cw, .slice s.ag h.gauges.length s.cg, .slice s.af h.flows.length s.cf]] w fun e w' => e = .returned (.bool (histB h)) ∧ Kept w w' := by
  have hcw := hh.wc
  have hcm := hh.wm
  have hgc := hh.gc
  have hgm := hh.gm
  have hfc := hh.fc
  have hfm := hh.fm
  unfold maxLen at hcm hgm hfm
  obtain ⟨⟨w1_, w2_⟩, ⟨g1_, g2_⟩, f2_⟩ := sizesB_iff.1 hs
  have HS := Lib.hid hs
  have H1 := Lib.hid (show inB h.warm.length 1 12 = true by simp [inB]; omega)
  have H2 := Lib.hid (show inB h.gauges.length 1 30 = true by simp [inB]; omega)
  have e3 : decide ((100 : Int) < (h.flows.length : Int)) = false := by simp; omega
  clear hs
  go_enter Try.func126, Try.ntmps126
  go_wp2_with (first | (go_at_call 104; (with_reducible refine (r_within (h.warm.length : Int) _ _ _).mono ?_); rw [H1.out]; rintro e w9 ⟨rfl, rfl⟩) | (go_at_call 104; (with_reducible refine (r_within (h.gauges.length : Int) _ _ _).mono ?_); rw [H2.out]; rintro e w9 ⟨rfl, rfl⟩))
  clear e3
  go_loopw [4] (fun i wr => ∃ k : Nat, k ≤ h.warm.length ∧ i = .int .i64 k ∧ (∀ c, c < k → warmB (wAt h c) = true) ∧ Blk wr w.heap.size #[.slice s.aw h.warm.length s.cw, .slice s.ag h.gauges.length s.cg, .slice s.af h.flows.length s.cf] 85 ∧ Kept w wr) (fun i _ => h.warm.length - (intOf i).toNat)
  case atStart => exact ⟨0, Nat.zero_le _, rfl, fun c hc => by omega, by (exact blkc), by (exact kpt)⟩
  case round =>
    obtain ⟨k, hk, rfl, hall, q0, hkk⟩ := hrel
    have HALL := Lib.hid hall
    clear hall
    have q0c0 := q0.cell 0
    have q0f0 := q0.free 0
    have q0c1 := q0.cell 1
    have q0f1 := q0.free 1
    have q0c2 := q0.cell 2
    have q0f2 := q0.free 2
    have q0l := q0.lt
    simp at q0c0 q0c1 q0c2
    by_cases hlt : k < h.warm.length
    · obtain ⟨b1, o1, haw, hb1, c0, c1⟩ := Sp.row ((hh.later hkk).warm) k hlt
      obtain ⟨x, hx⟩ : ∃ x, x = wAt h k := ⟨_, rfl⟩
      rw [wAt_get hlt, ← hx] at c0 c1
      rw [haw] at q0c0
      have HX := Lib.hid hx
      clear hx haw
      cases hv : warmB x
      · have HV_ := Lib.hid (show spanIn x.lo x.hi (-300) 300 = false from hv)
        have HF := Lib.hid (show histB h = false from histB_warm hlt (by rw [← HX.out]; exact hv))
        clear hv
        go_wp2_with (go_at_call 134; (with_reducible refine (r_warm x.lo x.hi _).mono ?_); rw [HV_.out]; rintro e w9 ⟨rfl, hb9⟩)
        go_ret
        exact ⟨ret_bool (by rw [HF.out]), by (exact kpt)⟩
      · have HV_ := Lib.hid (show spanIn x.lo x.hi (-300) 300 = true from hv)
        have HVV := Lib.hid hv
        clear hv
        go_wp2_with (go_at_call 134; (with_reducible refine (r_warm x.lo x.hi _).mono ?_); rw [HV_.out]; rintro e w9 ⟨rfl, hb9⟩)
        have z0 := q0.keep hb9
        go_round
        case rel =>
          refine ⟨k + 1, by omega, by go_num, fun c hc => ?_, z0, by (exact kpt)⟩
          by_cases hck : c < k
          · exact HALL.out c hck
          · obtain rfl : c = k := by omega
            rw [← HX.out]; exact HVV.out
        case measure => simp [intOf]; omega
    · obtain rfl : k = h.warm.length := by omega
      have HWARM := HALL
      clear HALL hk hlt
      go_wp2
      clear q0c0 q0f0 q0c1 q0f1 q0c2 q0f2 q0l
      go_loopw [5] (fun i wr => ∃ k : Nat, k ≤ h.gauges.length ∧ i = .int .i64 k ∧ (∀ j, j < k → okG h j = true) ∧ Blk wr w.heap.size #[.slice s.aw h.warm.length s.cw, .slice s.ag h.gauges.length s.cg, .slice s.af h.flows.length s.cf] 85 ∧ Kept w wr) (fun i _ => h.gauges.length - (intOf i).toNat)
      case atStart => exact ⟨0, Nat.zero_le _, rfl, fun c hc => by omega, q0, hkk⟩
      case round =>
        clear q0 hkk
        obtain ⟨k, hk, rfl, hall, q0, hkk⟩ := hrel
        have HOKS := Lib.hid hall
        have q0c0 := q0.cell 0
        have q0f0 := q0.free 0
        have q0c1 := q0.cell 1
        have q0f1 := q0.free 1
        have q0c2 := q0.cell 2
        have q0f2 := q0.free 2
        have q0l := q0.lt
        simp at q0c0 q0c1 q0c2
        by_cases hlt : k < h.gauges.length
        · have htp : k ≠ 0 → 0 ≤ tt h (k - 1) := fun h0 => times_pos k hall (k - 1) (by omega)
          have HPARTS := Lib.hid (okG_parts htp)
          clear hall htp
          obtain ⟨b1, o1, hag, hb1, c0, c1, c2, c3, c4, c5⟩ := Gauge.row ((hh.later hkk).gauges) k hlt
          rw [hag] at q0c1
          have HAG := Lib.hid hag
          clear hag
          have HVR0 := fun (W : World) (hW : Kept w W) => (hh.later hW).volsAt k hlt
          obtain ⟨g, hg⟩ : ∃ g, g = gAt h k := ⟨_, rfl⟩
          rw [gAt_get hlt, ← hg] at c0 c1 c2 c3 c4 c5
          rw [← hg] at HVR0
          have HVR := Lib.hid HVR0
          have HGA := Lib.hid hg.symm
          have HTT := Lib.hid (show tt h k = g.time by unfold tt; rw [← hg])
          clear hg HVR0
          go_upto_region 13 with fail
          clear c0 c1 c2 c3 c4 c5
          refine at_world (S := fun V => Blk V w.heap.size #[.slice s.aw h.warm.length s.cw, .slice s.ag h.gauges.length s.cg, .slice s.af h.flows.length s.cf] 85 ∧ Blk V wr.heap.size #[.int .i64 g.time, .int .i64 g.air.plo, .int .i64 g.air.phi, .int .i64 g.air.tlo, .int .i64 g.air.thi, .slice (gv g) g.vols.length g.vc] 124 ∧ Kept w V) ⟨by (exact blkc), by (exact blkc), by (exact kpt)⟩ ?_
          clear q0 hkk q0c0 q0f0 q0c1 q0f1 q0c2 q0f2 q0l
          rintro V ⟨q0, q6, hkV⟩
          have q0c0 := fun g : Later V => (q0.later g).cell 0
          have q0f0 := fun g : Later V => (q0.later g).free 0
          have q0c1 := fun g : Later V => (q0.later g).cell 1
          have q0f1 := fun g : Later V => (q0.later g).free 1
          have q0c2 := fun g : Later V => (q0.later g).cell 2
          have q0f2 := fun g : Later V => (q0.later g).free 2
          have q0l := fun g : Later V => (q0.later g).lt
          simp at q0c0 q0c1 q0c2
          have q6c0 := fun g : Later V => (q6.later g).cell 0
          have q6f0 := fun g : Later V => (q6.later g).free 0
          have q6c1 := fun g : Later V => (q6.later g).cell 1
          have q6f1 := fun g : Later V => (q6.later g).free 1
          have q6c2 := fun g : Later V => (q6.later g).cell 2
          have q6f2 := fun g : Later V => (q6.later g).free 2
          have q6c3 := fun g : Later V => (q6.later g).cell 3
          have q6f3 := fun g : Later V => (q6.later g).free 3
          have q6c4 := fun g : Later V => (q6.later g).cell 4
          have q6f4 := fun g : Later V => (q6.later g).free 4
          have q6c5 := fun g : Later V => (q6.later g).cell 5
          have q6f5 := fun g : Later V => (q6.later g).free 5
          have q6l := fun g : Later V => (q6.later g).lt
          simp at q6c0 q6c1 q6c2 q6c3 q6c4 q6c5
          simp only [HAG.out] at q0c1
          cases kt : inB g.time 0 1000000
          · have KT := r_withinQ g.time 0 1000000 false kt
            have HF := Lib.hid (show histB h = false from histB_gauge hlt (by rw [HPARTS.out, HGA.out, HTT.out]; simp [kt]))
            clear kt
            refine Later.region (by kernel_rfl) (by kernel_rfl) ?_
            repeat (first | go_big_quiet_skip | (go_big_quiet_want; go_big_quiet_op; first | go_big_quiet_on | (apply Exists.intro; refine ⟨fun g_ => ?_, ?_⟩; (focus (first | (go_at_call 104; with_reducible exact Later.call_same (KT _)))); go_big_quiet_on)))
            refine wpQuiet_nil ?_
            intro gg
            have hkg := Kept.drop hkV gg.ok
            go_wp2
            go_ret
            exact ⟨ret_bool (by rw [HF.out]), by (exact kpt)⟩
          · have KT := r_withinQ g.time 0 1000000 true kt
            have HKT := Lib.hid kt
            clear kt
            by_cases hk0 : k = 0
            · have HK0 := Lib.hid hk0
              have e5 : decide ((0 : Int) < (k : Int)) = false := by simp; omega
              have e5b : decide (0 < k) = false := by simp; omega
              clear hk0
              cases ha : airB g.air
              · have KA := r_AirQ g.air false ha
                have HF := Lib.hid (show histB h = false from histB_gauge hlt (by rw [HPARTS.out, HGA.out, HTT.out]; simp [ha]))
                clear ha
                refine Later.region (by kernel_rfl) (by kernel_rfl) ?_
                repeat (first | go_big_quiet_skip | (go_big_quiet_want; go_big_quiet_op; first | go_big_quiet_on | (apply Exists.intro; refine ⟨fun g_ => ?_, ?_⟩; (focus (first | (go_at_call 104; with_reducible exact Later.call_same (KT _)) | (go_at_call 90; with_reducible exact Later.call (KA _)))); go_big_quiet_on)))
                refine wpQuiet_nil ?_
                intro gg
                have hkg := Kept.drop hkV gg.ok
                go_wp2
                go_ret
                exact ⟨ret_bool (by rw [HF.out]), by (exact kpt)⟩
              · have KA := r_AirQ g.air true ha
                by_cases hl : g.vols.length = h.warm.length
                · have HVL := Lib.hid hl
                  have HPRE := Lib.hid (show (inB (tt h k) 0 1000000 && (decide (k = 0) || decide (tt h (k - 1) < tt h k)) && airB (gAt h k).air && decide ((gAt h k).vols.length = h.warm.length)) = true by rw [HGA.out, HTT.out]; simp [HKT.out, HK0.out, ha, hl])
                  have e8 : ((g.vols.length : Int) != (h.warm.length : Int)) = false := by simp [hl]
                  have e9 : ((g.vols.length : Int) == (h.warm.length : Int)) = true := by simp [hl]
                  clear ha hl
                  refine Later.region (by kernel_rfl) (by kernel_rfl) ?_
                  repeat (first | go_big_quiet_skip | (go_big_quiet_want; go_big_quiet_op; first | go_big_quiet_on | (apply Exists.intro; refine ⟨fun g_ => ?_, ?_⟩; (focus (first | (go_at_call 104; with_reducible exact Later.call_same (KT _)) | (go_at_call 90; with_reducible exact Later.call (KA _)))); go_big_quiet_on)))
                  refine wpQuiet_nil ?_
                  intro gg
                  have hkg := Kept.drop hkV gg.ok
                  have n0 := q0.later gg
                  have n6 := q6.later gg
                  obtain ⟨Y, hY⟩ : ∃ Y : World, Y = gg.val := ⟨_, rfl⟩
                  rw [← hY] at n0 n6 hkg ⊢
                  clear hY q0 q6 hkV q0c0 q0f0 q0c1 q0f1 q0c2 q0f2 q0l q6c0 q6f0 q6c1 q6f1 q6c2 q6f2 q6c3 q6f3 q6c4 q6f4 q6c5 q6f5 q6l
                  go_wp2
                  go_loopw [7] (fun i wr => ∃ m : Nat, m ≤ h.warm.length ∧ i = .int .i64 m ∧ (∀ c, c < m → volB (vAt g c) = true) ∧ Kept Y wr) (fun i _ => h.warm.length - (intOf i).toNat)
                  case atStart => exact ⟨0, Nat.zero_le _, rfl, fun c hc => by omega, Below.refl _ _⟩
                  case round =>
                    obtain ⟨m, hm, rfl, hall, hkY⟩ := hrel
                    have HALL := Lib.hid hall
                    clear hall
                    have m6 := n6.keep hkY
                    have m6c0 := m6.cell 0
                    have m6f0 := m6.free 0
                    have m6c1 := m6.cell 1
                    have m6f1 := m6.free 1
                    have m6c2 := m6.cell 2
                    have m6f2 := m6.free 2
                    have m6c3 := m6.cell 3
                    have m6f3 := m6.free 3
                    have m6c4 := m6.cell 4
                    have m6f4 := m6.free 4
                    have m6c5 := m6.cell 5
                    have m6f5 := m6.free 5
                    have m6l := m6.lt
                    simp at m6c0 m6c1 m6c2 m6c3 m6c4 m6c5
                    by_cases hlt2 : m < h.warm.length
                    · have hmv : m < g.vols.length := by rw [HVL.out]; exact hlt2
                      obtain ⟨bv, ov, hgv, hbv, v0, v1⟩ := Sp.row ((HVR.out _ (Kept.drop hkg hkY))) m hmv
                      rw [hgv] at m6c5
                      clear hgv
                      obtain ⟨x, hx⟩ : ∃ x, x = vAt g m := ⟨_, rfl⟩
                      rw [vAt_get hmv, ← hx] at v0 v1
                      have HX := Lib.hid hx
                      clear hx
                      cases hvb : volB x
                      · have HF := Lib.hid (show histB h = false from histB_gauge hlt (by rw [HPARTS.out]; simp only [Bool.and_eq_false_iff]; refine .inr ?_; rw [HGA.out, Bool.eq_false_iff]; intro hc; rw [List.all_eq_true] at hc; have := hc _ (List.getElem_mem hmv); rw [vAt_get hmv, ← HX.out, hvb] at this; cases this))
                        have HSP := Lib.hid (show spanIn x.lo x.hi 0 10000000 = false from hvb)
                        clear hvb
                        go_wp2_with (go_at_call 129; (with_reducible refine (r_spanned x.lo x.hi _ _ _).mono ?_); rw [HSP.out]; rintro e w9 ⟨rfl, hb9⟩)
                        go_ret
                        exact ⟨ret_bool (by rw [HF.out]), by (exact kpt)⟩
                      · have HVB := Lib.hid hvb
                        have HSP := Lib.hid (show spanIn x.lo x.hi 0 10000000 = true from hvb)
                        clear hvb
                        go_wp2_with (go_at_call 129; (with_reducible refine (r_spanned x.lo x.hi _ _ _).mono ?_); rw [HSP.out]; rintro e w9 ⟨rfl, hb9⟩)
                        go_round
                        case rel =>
                          refine ⟨m + 1, by omega, by go_num, fun c hc => ?_, by (exact kpt)⟩
                          by_cases hcm_ : c < m
                          · exact HALL.out c hcm_
                          · obtain rfl : c = m := by omega
                            rw [← HX.out]; exact HVB.out
                        case measure => simp [intOf]; omega
                    · obtain rfl : m = h.warm.length := by omega
                      have HOKK := Lib.hid (show okG h k = true by rw [HPARTS.out, Bool.and_eq_true]; refine ⟨HPRE.out, ?_⟩; rw [HGA.out, List.all_eq_true]; intro v hv; obtain ⟨c, hc, rfl⟩ := List.mem_iff_getElem.1 hv; rw [vAt_get hc]; exact HALL.out c (by rw [← HVL.out]; exact hc))
                      have z0 := n0.keep hkY
                      have hkz := Kept.drop hkg hkY
                      go_wp2
                      go_round
                      case rel =>
                        refine ⟨k + 1, by omega, by go_num, fun j hj => ?_, z0, hkz⟩
                        by_cases hjk : j < k
                        · exact HOKS.out j hjk
                        · obtain rfl : j = k := by omega
                          exact HOKK.out
                      case measure => simp [intOf]; omega
                · have HF := Lib.hid (show histB h = false from histB_gauge hlt (by rw [HPARTS.out, HGA.out, HTT.out]; simp [hl]))
                  have e8 : ((g.vols.length : Int) != (h.warm.length : Int)) = true := by simp; omega
                  have e9 : ((g.vols.length : Int) == (h.warm.length : Int)) = false := by simp; omega
                  clear ha hl
                  refine Later.region (by kernel_rfl) (by kernel_rfl) ?_
                  repeat (first | go_big_quiet_skip | (go_big_quiet_want; go_big_quiet_op; first | go_big_quiet_on | (apply Exists.intro; refine ⟨fun g_ => ?_, ?_⟩; (focus (first | (go_at_call 104; with_reducible exact Later.call_same (KT _)) | (go_at_call 90; with_reducible exact Later.call (KA _)))); go_big_quiet_on)))
                  refine wpQuiet_nil ?_
                  intro gg
                  have hkg := Kept.drop hkV gg.ok
                  go_wp2
                  go_ret
                  exact ⟨ret_bool (by rw [HF.out]), by (exact kpt)⟩
            · have HK0 := Lib.hid hk0
              have e5 : decide ((0 : Int) < (k : Int)) = true := by simp; omega
              have e5b : decide (0 < k) = true := by simp; omega
              obtain ⟨b2, o2, hag2, hb2, p0, _⟩ := Gauge.row ((hh.later hkV).gauges) (k - 1) (by omega)
              cases HAG.out.symm.trans hag2
              obtain ⟨PT, hPT⟩ : ∃ n, n = tt h (k - 1) := ⟨_, rfl⟩
              rw [gAt_get (show k - 1 < h.gauges.length by omega), show (gAt h (k - 1)).time = PT by rw [hPT]; rfl] at p0
              have HPT := Lib.hid hPT.symm
              clear hPT hag2
              have x0 := fun g_ : Later V => g_.some p0
              have g1 : IntKind.i64.wrap ((k : Int) - 1) = (k : Int) - 1 := i64_inH (by omega)
              have g2 : ((k : Int) - 1).toNat = k - 1 := by omega
              have g3 : (0 : Int) ≤ (k : Int) - 1 := by omega
              have g4 : (k : Int) - 1 < (h.gauges.length : Int) := by omega
              clear hk0 p0
              by_cases hpt : PT < g.time
              · have HLT := Lib.hid hpt
                have e6 : decide (g.time ≤ PT) = false := by simp; omega
                clear hpt
                cases ha : airB g.air
                · have KA := r_AirQ g.air false ha
                  have HF := Lib.hid (show histB h = false from histB_gauge hlt (by rw [HPARTS.out, HGA.out, HTT.out]; simp [ha]))
                  clear ha
                  refine Later.region (by kernel_rfl) (by kernel_rfl) ?_
                  repeat (first | go_big_quiet_skip | (go_big_quiet_want; go_big_quiet_op; first | go_big_quiet_on | (apply Exists.intro; refine ⟨fun g_ => ?_, ?_⟩; (focus (first | (go_at_call 104; with_reducible exact Later.call_same (KT _)) | (go_at_call 90; with_reducible exact Later.call (KA _)))); go_big_quiet_on)))
                  refine wpQuiet_nil ?_
                  intro gg
                  have hkg := Kept.drop hkV gg.ok
                  go_wp2
                  go_ret
                  exact ⟨ret_bool (by rw [HF.out]), by (exact kpt)⟩
                · have KA := r_AirQ g.air true ha
                  by_cases hl : g.vols.length = h.warm.length
                  · have HVL := Lib.hid hl
                    have HPRE := Lib.hid (show (inB (tt h k) 0 1000000 && (decide (k = 0) || decide (tt h (k - 1) < tt h k)) && airB (gAt h k).air && decide ((gAt h k).vols.length = h.warm.length)) = true by rw [HGA.out, HTT.out, HPT.out]; simp [HKT.out, HK0.out, HLT.out, ha, hl])
                    have e8 : ((g.vols.length : Int) != (h.warm.length : Int)) = false := by simp [hl]
                    have e9 : ((g.vols.length : Int) == (h.warm.length : Int)) = true := by simp [hl]
                    clear ha hl
                    refine Later.region (by kernel_rfl) (by kernel_rfl) ?_
                    repeat (first | go_big_quiet_skip | (go_big_quiet_want; go_big_quiet_op; first | go_big_quiet_on | (apply Exists.intro; refine ⟨fun g_ => ?_, ?_⟩; (focus (first | (go_at_call 104; with_reducible exact Later.call_same (KT _)) | (go_at_call 90; with_reducible exact Later.call (KA _)))); go_big_quiet_on)))
                    refine wpQuiet_nil ?_
                    intro gg
                    have hkg := Kept.drop hkV gg.ok
                    have n0 := q0.later gg
                    have n6 := q6.later gg
                    obtain ⟨Y, hY⟩ : ∃ Y : World, Y = gg.val := ⟨_, rfl⟩
                    rw [← hY] at n0 n6 hkg ⊢
                    clear hY q0 q6 hkV q0c0 q0f0 q0c1 q0f1 q0c2 q0f2 q0l q6c0 q6f0 q6c1 q6f1 q6c2 q6f2 q6c3 q6f3 q6c4 q6f4 q6c5 q6f5 q6l
                    go_wp2
                    go_loopw [7] (fun i wr => ∃ m : Nat, m ≤ h.warm.length ∧ i = .int .i64 m ∧ (∀ c, c < m → volB (vAt g c) = true) ∧ Kept Y wr) (fun i _ => h.warm.length - (intOf i).toNat)
                    case atStart => exact ⟨0, Nat.zero_le _, rfl, fun c hc => by omega, Below.refl _ _⟩
                    case round =>
                      obtain ⟨m, hm, rfl, hall, hkY⟩ := hrel
                      have HALL := Lib.hid hall
                      clear hall
                      have m6 := n6.keep hkY
                      have m6c0 := m6.cell 0
                      have m6f0 := m6.free 0
                      have m6c1 := m6.cell 1
                      have m6f1 := m6.free 1
                      have m6c2 := m6.cell 2
                      have m6f2 := m6.free 2
                      have m6c3 := m6.cell 3
                      have m6f3 := m6.free 3
                      have m6c4 := m6.cell 4
                      have m6f4 := m6.free 4
                      have m6c5 := m6.cell 5
                      have m6f5 := m6.free 5
                      have m6l := m6.lt
                      simp at m6c0 m6c1 m6c2 m6c3 m6c4 m6c5
                      by_cases hlt2 : m < h.warm.length
                      · have hmv : m < g.vols.length := by rw [HVL.out]; exact hlt2
                        obtain ⟨bv, ov, hgv, hbv, v0, v1⟩ := Sp.row ((HVR.out _ (Kept.drop hkg hkY))) m hmv
                        rw [hgv] at m6c5
                        clear hgv
                        obtain ⟨x, hx⟩ : ∃ x, x = vAt g m := ⟨_, rfl⟩
                        rw [vAt_get hmv, ← hx] at v0 v1
                        have HX := Lib.hid hx
                        clear hx
                        cases hvb : volB x
                        · have HF := Lib.hid (show histB h = false from histB_gauge hlt (by rw [HPARTS.out]; simp only [Bool.and_eq_false_iff]; refine .inr ?_; rw [HGA.out, Bool.eq_false_iff]; intro hc; rw [List.all_eq_true] at hc; have := hc _ (List.getElem_mem hmv); rw [vAt_get hmv, ← HX.out, hvb] at this; cases this))
                          have HSP := Lib.hid (show spanIn x.lo x.hi 0 10000000 = false from hvb)
                          clear hvb
                          go_wp2_with (go_at_call 129; (with_reducible refine (r_spanned x.lo x.hi _ _ _).mono ?_); rw [HSP.out]; rintro e w9 ⟨rfl, hb9⟩)
                          go_ret
                          exact ⟨ret_bool (by rw [HF.out]), by (exact kpt)⟩
                        · have HVB := Lib.hid hvb
                          have HSP := Lib.hid (show spanIn x.lo x.hi 0 10000000 = true from hvb)
                          clear hvb
                          go_wp2_with (go_at_call 129; (with_reducible refine (r_spanned x.lo x.hi _ _ _).mono ?_); rw [HSP.out]; rintro e w9 ⟨rfl, hb9⟩)
                          go_round
                          case rel =>
                            refine ⟨m + 1, by omega, by go_num, fun c hc => ?_, by (exact kpt)⟩
                            by_cases hcm_ : c < m
                            · exact HALL.out c hcm_
                            · obtain rfl : c = m := by omega
                              rw [← HX.out]; exact HVB.out
                          case measure => simp [intOf]; omega
                      · obtain rfl : m = h.warm.length := by omega
                        have HOKK := Lib.hid (show okG h k = true by rw [HPARTS.out, Bool.and_eq_true]; refine ⟨HPRE.out, ?_⟩; rw [HGA.out, List.all_eq_true]; intro v hv; obtain ⟨c, hc, rfl⟩ := List.mem_iff_getElem.1 hv; rw [vAt_get hc]; exact HALL.out c (by rw [← HVL.out]; exact hc))
                        have z0 := n0.keep hkY
                        have hkz := Kept.drop hkg hkY
                        go_wp2
                        go_round
                        case rel =>
                          refine ⟨k + 1, by omega, by go_num, fun j hj => ?_, z0, hkz⟩
                          by_cases hjk : j < k
                          · exact HOKS.out j hjk
                          · obtain rfl : j = k := by omega
                            exact HOKK.out
                        case measure => simp [intOf]; omega
                  · have HF := Lib.hid (show histB h = false from histB_gauge hlt (by rw [HPARTS.out, HGA.out, HTT.out]; simp [hl]))
                    have e8 : ((g.vols.length : Int) != (h.warm.length : Int)) = true := by simp; omega
                    have e9 : ((g.vols.length : Int) == (h.warm.length : Int)) = false := by simp; omega
                    clear ha hl
                    refine Later.region (by kernel_rfl) (by kernel_rfl) ?_
                    repeat (first | go_big_quiet_skip | (go_big_quiet_want; go_big_quiet_op; first | go_big_quiet_on | (apply Exists.intro; refine ⟨fun g_ => ?_, ?_⟩; (focus (first | (go_at_call 104; with_reducible exact Later.call_same (KT _)) | (go_at_call 90; with_reducible exact Later.call (KA _)))); go_big_quiet_on)))
                    refine wpQuiet_nil ?_
                    intro gg
                    have hkg := Kept.drop hkV gg.ok
                    go_wp2
                    go_ret
                    exact ⟨ret_bool (by rw [HF.out]), by (exact kpt)⟩
              · have e6 : decide (g.time ≤ PT) = true := by simp; omega
                have HF := Lib.hid (show histB h = false from histB_gauge hlt (by rw [HPARTS.out, HGA.out, HTT.out, HPT.out]; simp [HK0.out, hpt]))
                clear hpt
                refine Later.region (by kernel_rfl) (by kernel_rfl) ?_
                repeat (first | go_big_quiet_skip | (go_big_quiet_want; go_big_quiet_op; first | go_big_quiet_on | (apply Exists.intro; refine ⟨fun g_ => ?_, ?_⟩; (focus (first | (go_at_call 104; with_reducible exact Later.call_same (KT _)))); go_big_quiet_on)))
                refine wpQuiet_nil ?_
                intro gg
                have hkg := Kept.drop hkV gg.ok
                go_wp2
                go_ret
                exact ⟨ret_bool (by rw [HF.out]), by (exact kpt)⟩
        · obtain rfl : k = h.gauges.length := by omega
          clear hall hk hlt
          go_wp2
          clear q0c0 q0f0 q0c1 q0f1 q0c2 q0f2 q0l
          go_loopw [8] (fun i wr => ∃ k : Nat, k ≤ h.flows.length ∧ i = .int .i64 k ∧ (∀ j (hj : j < h.flows.length), j < k → flowB h.warm.length h.flows[j] = true) ∧ Blk wr w.heap.size #[.slice s.aw h.warm.length s.cw, .slice s.ag h.gauges.length s.cg, .slice s.af h.flows.length s.cf] 85 ∧ Kept w wr) (fun i _ => h.flows.length - (intOf i).toNat)
          case atStart => exact ⟨0, Nat.zero_le _, rfl, fun c _ hc => by omega, q0, hkk⟩
          case round =>
            clear q0 hkk
            obtain ⟨k, hk, rfl, hall, q0, hkk⟩ := hrel
            have HFLS := Lib.hid hall
            clear hall
            have q0c0 := q0.cell 0
            have q0f0 := q0.free 0
            have q0c1 := q0.cell 1
            have q0f1 := q0.free 1
            have q0c2 := q0.cell 2
            have q0f2 := q0.free 2
            have q0l := q0.lt
            simp at q0c0 q0c1 q0c2
            by_cases hlt : k < h.flows.length
            · obtain ⟨b1, o1, haf, hb1, c0, c1, c2⟩ := Flow.row ((hh.later hkk).flows) k hlt
              rw [haf] at q0c2
              clear haf
              obtain ⟨x, hx⟩ : ∃ x, x = h.flows[k] := ⟨_, rfl⟩
              rw [← hx] at c0 c1 c2
              have HX := Lib.hid hx
              clear hx
              cases t1 : inB x.time 0 1000000
              · have T1 := Lib.hid t1
                have HF := Lib.hid (show histB h = false from histB_flow hlt (by rw [← HX.out]; simp [flowB, t1]))
                clear t1
                go_wp2_with (go_at_call 104; (with_reducible refine (r_within x.time _ _ _).mono ?_); rw [T1.out]; rintro e w9 ⟨rfl, rfl⟩)
                go_ret
                exact ⟨ret_bool (by rw [HF.out]), by (exact kpt)⟩
              · have T1 := Lib.hid t1
                cases t2 : inB x.cell 0 (h.warm.length - 1)
                · have T2 := Lib.hid t2
                  have HF := Lib.hid (show histB h = false from histB_flow hlt (by rw [← HX.out]; simp [flowB, t2]))
                  clear t1 t2
                  go_wp2_with (first | (go_at_call 104; (with_reducible refine (r_within x.time _ _ _).mono ?_); rw [T1.out]; rintro e w9 ⟨rfl, rfl⟩) | (go_at_call 104; (with_reducible refine (r_within x.cell _ _ _).mono ?_); rw [T2.out]; rintro e w9 ⟨rfl, rfl⟩))
                  go_ret
                  exact ⟨ret_bool (by rw [HF.out]), by (exact kpt)⟩
                · have T2 := Lib.hid t2
                  cases t3 : inB x.n (-10000000) 10000000
                  · have T3 := Lib.hid t3
                    have HF := Lib.hid (show histB h = false from histB_flow hlt (by rw [← HX.out]; simp [flowB, t3]))
                    clear t1 t2 t3
                    go_wp2_with (first | (go_at_call 104; (with_reducible refine (r_within x.time _ _ _).mono ?_); rw [T1.out]; rintro e w9 ⟨rfl, rfl⟩) | (go_at_call 104; (with_reducible refine (r_within x.cell _ _ _).mono ?_); rw [T2.out]; rintro e w9 ⟨rfl, rfl⟩) | (go_at_call 104; (with_reducible refine (r_within x.n _ _ _).mono ?_); rw [T3.out]; rintro e w9 ⟨rfl, rfl⟩))
                    go_ret
                    exact ⟨ret_bool (by rw [HF.out]), by (exact kpt)⟩
                  · have T3 := Lib.hid t3
                    have HFL := Lib.hid (show flowB h.warm.length x = true by simp [flowB, t1, t2, t3])
                    clear t1 t2 t3
                    go_wp2_with (first | (go_at_call 104; (with_reducible refine (r_within x.time _ _ _).mono ?_); rw [T1.out]; rintro e w9 ⟨rfl, rfl⟩) | (go_at_call 104; (with_reducible refine (r_within x.cell _ _ _).mono ?_); rw [T2.out]; rintro e w9 ⟨rfl, rfl⟩) | (go_at_call 104; (with_reducible refine (r_within x.n _ _ _).mono ?_); rw [T3.out]; rintro e w9 ⟨rfl, rfl⟩))
                    go_round
                    case rel =>
                      refine ⟨k + 1, by omega, by go_num, fun j hj hjk => ?_, by (exact blkc), by (exact kpt)⟩
                      by_cases hjj : j < k
                      · exact HFLS.out j hj hjj
                      · obtain rfl : j = k := by omega
                        rw [← HX.out]; exact HFL.out
                    case measure => simp [intOf]; omega
            · obtain rfl : k = h.flows.length := by omega
              have HT := Lib.hid (histB_true HS.out HWARM.out HOKS.out (fun j hj => HFLS.out j hj hj))
              go_wp2
              go_ret
              exact ⟨ret_bool (by rw [HT.out]), by (exact kpt)⟩
theorem r_History (h : Hist) (s : Spot) (w : World) (hh : HistAt h s w) : Calls Try.prog 126 #[.agg #[.slice s.aw h.warm.length s.cw, .slice s.ag h.gauges.length s.cg, .slice s.af h.flows.length s.cf]] w fun e w' => e = .returned (.bool (histB h)) ∧ Kept w w' := by
  cases hs : sizesB h
  · exact r_History_sizes h s w hh hs
  · exact r_History_main h s w hh hs

end Go.Proofs.Ytemafanncejeiaa

/-
  CheckHistory: the program, the reference.
-/
namespace Go.Proofs.Ytemafanncejeiaa
open Go.RowKit Bal Bal.Trim Bal.Gas
set_option linter.unusedVariables false
set_option linter.unusedSimpArgs false
set_option maxHeartbeats 4000000
set_option maxRecDepth 100000

theorem r_CheckHistory (h : Hist) (s : Spot) (w : World) (hh : HistAt h s w) :
    Calls Try.prog 65 #[.agg #[.slice s.aw h.warm.length s.cw, .slice s.ag h.gauges.length s.cg, .slice s.af h.flows.length s.cf]] w fun e w' => e = .returned (.int .i64 (histE h)) ∧ Kept w w' := by
  cases hb : histB h
  all_goals
    have HB := Lib.hid hb
    clear hb
    go_enter Try.func65, Try.ntmps65
    go_wp2_with (go_at_call 126; (with_reducible refine (r_History h s _ (hh.later (by (exact kpt)))).mono ?_); rw [HB.out]; rintro e w1 ⟨rfl, hb1⟩)
    go_ret
    exact ⟨ret_int (by unfold histE; rw [HB.out]; rfl), by (exact kpt)⟩
theorem rng_oneH (a lo hi : Int) : rng [a] lo hi = inB a lo hi := by simp [rng]
theorem f_rangedQ (p lo hi : Int) (b : Bool) (h : inB p lo hi = b) (t : TypeId) (W : World) (m : Nat) (hm : m = W.heap.size) :
    Calls Try.prog 91 #[.int .i64 lo, .int .i64 hi, .slice (some ⟨m, 0, none⟩) 1 1] (W.alloc (.cells #[.int .i64 p] t)) fun e w' => e = .returned (.bool b) ∧ W.alloc (.cells #[.int .i64 p] t) = w' := by
  have k := f_ranged1 lo hi p t W m hm
  rwa [rng_oneH, h] at k
def lastT (h : Hist) (k : Nat) : Int := if k = 0 then -1 else tt h (k - 1)
theorem lastT_bd {h : Hist} {k : Nat} (hk : ∀ j, j < k → okG h j = true) : -1 ≤ lastT h k ∧ lastT h k ≤ 1000000 := by
  unfold lastT
  split
  · omega
  · rename_i h0
    have h1 := times_pos k hk (k - 1) (by omega)
    have h2 := hk (k - 1) (by omega)
    rw [okG_parts (fun h3 => times_pos k hk (k - 1 - 1) (by omega))] at h2
    simp only [Bool.and_eq_true, inB_iff] at h2
    omega
theorem f_CheckHistory_sizes (h : Hist) (s : Spot) (w : World) (hh : HistAt h s w) (hs : sizesB h = false) :
    Calls Try.prog 64 #[.agg #[.slice s.aw h.warm.length s.cw, .slice s.ag h.gauges.length s.cg, .slice s.af h.flows.length s.cf]] w fun e w' => e = .returned (.int .i64 (histE h)) ∧ Kept w w' := by
  have hcw := hh.wc
  have hcm := hh.wm
  have hgc := hh.gc
  have hgm := hh.gm
  have hfc := hh.fc
  have hfm := hh.fm
  unfold maxLen at hcm hgm hfm
  have HF := Lib.hid (show histE h = 34 by unfold histE; rw [histB_sizes hs]; rfl)
  cases h1 : inB h.warm.length 1 12
  · have H1 := Lib.hid h1
    clear h1 hs
    go_enter Try.func64, Try.ntmps64
    go_wp2_with (go_at_call 91; (with_reducible refine (f_rangedQ h.warm.length 1 12 _ H1.out _ _ _ (by simp)).mono ?_); rintro e w9 ⟨rfl, rfl⟩)
    go_ret
    exact ⟨ret_int (by rw [HF.out]), by (exact kpt)⟩
  · have H1 := Lib.hid h1
    cases h2 : inB h.gauges.length 1 30
    · have H2 := Lib.hid h2
      clear h1 h2 hs
      go_enter Try.func64, Try.ntmps64
      go_wp2_with (first | (go_at_call 91; (with_reducible refine (f_rangedQ h.warm.length 1 12 _ H1.out _ _ _ (by simp)).mono ?_); rintro e w9 ⟨rfl, rfl⟩) | (go_at_call 91; (with_reducible refine (f_rangedQ h.gauges.length 1 30 _ H2.out _ _ _ (by simp)).mono ?_); rintro e w9 ⟨rfl, rfl⟩))
      go_ret
      exact ⟨ret_int (by rw [HF.out]), by (exact kpt)⟩
    · have H2 := Lib.hid h2
      have e3 : decide ((100 : Int) < (h.flows.length : Int)) = true := by simp [sizesB, h1, h2] at hs; simp; omega
      clear h1 h2 hs
      go_enter Try.func64, Try.ntmps64
      go_wp2_with (first | (go_at_call 91; (with_reducible refine (f_rangedQ h.warm.length 1 12 _ H1.out _ _ _ (by simp)).mono ?_); rintro e w9 ⟨rfl, rfl⟩) | (go_at_call 91; (with_reducible refine (f_rangedQ h.gauges.length 1 30 _ H2.out _ _ _ (by simp)).mono ?_); rintro e w9 ⟨rfl, rfl⟩))
      go_ret
      exact ⟨ret_int (by rw [HF.out]), by (exact kpt)⟩

theorem f_CheckHistory_main (h : Hist) (s : Spot) (w : World) (hh : HistAt h s w) (hs : sizesB h = true) :
    Calls Try.prog 64 #[.agg #[.slice s.aw h.warm.length s.cw, .slice s.ag h.gauges.length s.cg, .slice s.af h.flows.length s.cf]] w fun e w' => e = .returned (.int .i64 (histE h)) ∧ Kept w w' := by
  have hcw := hh.wc
  have hcm := hh.wm
  have hgc := hh.gc
  have hgm := hh.gm
  have hfc := hh.fc
  have hfm := hh.fm
  unfold maxLen at hcm hgm hfm
  obtain ⟨aw, ag, af, cw, cg, cf⟩ := s
  simp only at hcw hcm hgc hgm hfc hfm
  have R1 := Lib.hid (show ∀ W, Kept w W → Row Sp.cells 2 W.heap.size W aw h.warm from fun W hW => (hh.later hW).warm)
  have R2 := Lib.hid (show ∀ W, Kept w W → Row Gauge.cells 6 W.heap.size W ag h.gauges from fun W hW => (hh.later hW).gauges)
  have R3 := Lib.hid (show ∀ W, Kept w W → Row Flow.cells 3 W.heap.size W af h.flows from fun W hW => (hh.later hW).flows)
  obtain ⟨⟨w1_, w2_⟩, ⟨g1_, g2_⟩, f2_⟩ := sizesB_iff.1 hs
  have HS := Lib.hid hs
  have H1 := Lib.hid (show inB h.warm.length 1 12 = true by simp [inB]; omega)
  have H2 := Lib.hid (show inB h.gauges.length 1 30 = true by simp [inB]; omega)
  have e3 : decide ((100 : Int) < (h.flows.length : Int)) = false := by simp; omega
  clear hs
  go_enter Try.func64, Try.ntmps64
  go_wp2_with (first | (go_at_call 91; (with_reducible refine (f_rangedQ h.warm.length 1 12 _ H1.out _ _ _ (by simp)).mono ?_); rintro e w9 ⟨rfl, rfl⟩) | (go_at_call 91; (with_reducible refine (f_rangedQ h.gauges.length 1 30 _ H2.out _ _ _ (by simp)).mono ?_); rintro e w9 ⟨rfl, rfl⟩))
  clear e3
  go_loopw [35] (fun i wr => ∃ k : Nat, k ≤ h.warm.length ∧ i = .int .i64 k ∧ (∀ c, c < k → warmB (wAt h c) = true) ∧ Blk wr w.heap.size #[.slice aw h.warm.length cw, .slice ag h.gauges.length cg, .slice af h.flows.length cf] 85 ∧ Kept w wr) (fun i _ => h.warm.length - (intOf i).toNat)
  case atStart => exact ⟨0, Nat.zero_le _, rfl, fun c hc => by omega, by (exact blkc), by (exact kpt)⟩
  case round =>
    obtain ⟨k, hk, rfl, hall, q0, hkk⟩ := hrel
    have HALL := Lib.hid hall
    clear hall
    by_cases hlt : k < h.warm.length
    · obtain ⟨b1, o1, rfl, hb1, c0, c1⟩ := Sp.row (R1.out _ hkk) k hlt
      obtain ⟨x, hx⟩ : ∃ x, x = wAt h k := ⟨_, rfl⟩
      rw [wAt_get hlt, ← hx] at c0 c1
      have HX := Lib.hid hx
      clear hx
      cases hv : warmB x
      · have HV_ := Lib.hid (show spanIn x.lo x.hi (-300) 300 = false from hv)
        have HF := Lib.hid (show histE h = 34 by unfold histE; rw [histB_warm hlt (by rw [← HX.out]; exact hv)]; rfl)
        clear hv
        go_wp2_with (go_at_call 88; (with_reducible refine (f_span x.lo x.hi _ _ _).mono ?_); rw [HV_.out]; rintro e w9 ⟨rfl, hb9⟩)
        go_ret
        exact ⟨ret_int (by rw [HF.out]), by (exact kpt)⟩
      · have HV_ := Lib.hid (show spanIn x.lo x.hi (-300) 300 = true from hv)
        have HVV := Lib.hid hv
        clear hv
        go_wp2_with (go_at_call 88; (with_reducible refine (f_span x.lo x.hi _ _ _).mono ?_); rw [HV_.out]; rintro e w9 ⟨rfl, hb9⟩)
        go_round
        case rel =>
          refine ⟨k + 1, by omega, by go_num, fun c hc => ?_, by (exact blkc), by (exact kpt)⟩
          by_cases hck : c < k
          · exact HALL.out c hck
          · obtain rfl : c = k := by omega
            rw [← HX.out]; exact HVV.out
        case measure => simp [intOf]; omega
    · obtain rfl : k = h.warm.length := by omega
      have HWARM := HALL
      clear HALL hk hlt
      have q0c0 := q0.cell 0
      have q0f0 := q0.free 0
      have q0c1 := q0.cell 1
      have q0f1 := q0.free 1
      have q0c2 := q0.cell 2
      have q0f2 := q0.free 2
      have q0l := q0.lt
      simp at q0c0 q0c1 q0c2
      go_wp2
      clear q0c0 q0f0 q0c1 q0f1 q0c2 q0f2 q0l
      go_loopw [5, 46] (fun l i wr => ∃ k : Nat, k ≤ h.gauges.length ∧ i = .int .i64 k ∧ l = .int .i64 (lastT h k) ∧ (∀ j, j < k → okG h j = true) ∧ Blk wr w.heap.size #[.slice aw h.warm.length cw, .slice ag h.gauges.length cg, .slice af h.flows.length cf] 85 ∧ Kept w wr) (fun _ i _ => h.gauges.length - (intOf i).toNat)
      case atStart => exact ⟨0, Nat.zero_le _, rfl, rfl, fun c hc => by omega, q0, hkk⟩
      case round =>
        clear q0 hkk
        obtain ⟨k, hk, rfl, rfl, hall, q0, hkk⟩ := hrel
        have HOKS := Lib.hid hall
        have hlb := lastT_bd hall
        have q0c0 := q0.cell 0
        have q0f0 := q0.free 0
        have q0c1 := q0.cell 1
        have q0f1 := q0.free 1
        have q0c2 := q0.cell 2
        have q0f2 := q0.free 2
        have q0l := q0.lt
        simp at q0c0 q0c1 q0c2
        by_cases hlt : k < h.gauges.length
        · clear hall
          obtain ⟨b1, o1, rfl, hb1, c0, c1, c2, c3, c4, c5⟩ := Gauge.row (R2.out _ hkk) k hlt
          have HVR0 := fun (W : World) (hW : Kept w W) => (hh.later hW).volsAt k hlt
          obtain ⟨g, hg⟩ : ∃ g, g = gAt h k := ⟨_, rfl⟩
          rw [gAt_get hlt, ← hg] at c0 c1 c2 c3 c4 c5
          rw [← hg] at HVR0
          obtain ⟨va, hva⟩ : ∃ v, v = gv g := ⟨_, rfl⟩
          rw [← hva] at HVR0 c5
          have HVR := Lib.hid HVR0
          have HGA := Lib.hid hg.symm
          obtain ⟨LT, hLT⟩ : ∃ n, n = lastT h k := ⟨_, rfl⟩
          have HPARTS := Lib.hid (show okG h k = (inB g.time (LT + 1) 1000000 && airB g.air && decide (g.vols.length = h.warm.length) && g.vols.all volB) by rw [hLT, hg]; rfl)
          rw [← hLT] at hlb ⊢
          have HLT := Lib.hid hLT
          have HTT := Lib.hid (show lastT h (k + 1) = g.time by rw [hg]; rfl)
          clear hg HVR0 hva hLT
          have e5w : (-1 : Int) ≤ LT := hlb.1
          cases k1 : inB g.time (LT + 1) 1000000
          · have K1 := Lib.hid k1
            have HF := Lib.hid (show histE h = 34 by unfold histE; rw [histB_gauge hlt (by rw [HPARTS.out]; simp [k1])]; rfl)
            clear k1
            go_wp2_with (go_at_call 91; (with_reducible refine (f_rangedQ g.time (LT + 1) 1000000 _ K1.out _ _ _ (by simp)).mono ?_); rintro e w9 ⟨rfl, rfl⟩)
            go_ret
            exact ⟨ret_int (by rw [HF.out]), by (exact kpt)⟩
          · have K1 := Lib.hid k1
            cases ha : airB g.air
            · have HCA := Lib.hid (show checkAir g.air = 30 by unfold checkAir; rw [ha]; rfl)
              have HF := Lib.hid (show histE h = 34 by unfold histE; rw [histB_gauge hlt (by rw [HPARTS.out]; simp [ha])]; rfl)
              clear k1 ha
              go_wp2_with (first | (go_at_call 91; (with_reducible refine (f_rangedQ g.time (LT + 1) 1000000 _ K1.out _ _ _ (by simp)).mono ?_); rintro e w9 ⟨rfl, rfl⟩) | (go_at_call 26; (with_reducible refine (f_CheckAir g.air _).mono ?_); rw [HCA.out]; rintro e w9 ⟨rfl, hb9⟩; refine Blk.thru (b := w.heap.size) (arr := ?_) (t := ?_) ?_ hb9 ?_; rotate_left 2; (focus (exact blk)); intro rr; have rrc0 := rr.cell 0; have rrf0 := rr.free 0; have rrc1 := rr.cell 1; have rrf1 := rr.free 1; have rrc2 := rr.cell 2; have rrf2 := rr.free 2; have rrl := rr.lt; simp at rrc0 rrc1 rrc2; refine Blk.thru (b := wr.heap.size) (arr := ?_) (t := ?_) ?_ hb9 ?_; rotate_left 2; (focus (exact blk)); intro rg; have rgc0 := rg.cell 0; have rgf0 := rg.free 0; have rgc1 := rg.cell 1; have rgf1 := rg.free 1; have rgc2 := rg.cell 2; have rgf2 := rg.free 2; have rgc3 := rg.cell 3; have rgf3 := rg.free 3; have rgc4 := rg.cell 4; have rgf4 := rg.free 4; have rgc5 := rg.cell 5; have rgf5 := rg.free 5; have rgl := rg.lt; simp at rgc0 rgc1 rgc2 rgc3 rgc4 rgc5))
              go_ret
              exact ⟨ret_int (by rw [HF.out]), by (exact kpt)⟩
            · have HCA := Lib.hid (show checkAir g.air = 0 by unfold checkAir; rw [ha]; rfl)
              by_cases hl : g.vols.length = h.warm.length
              · have HVL := Lib.hid hl
                have hv12 : g.vols.length ≤ 12 := by omega
                have HPRE := Lib.hid (show (inB g.time (LT + 1) 1000000 && airB g.air && decide (g.vols.length = h.warm.length)) = true by simp [k1, ha, hl])
                have e8 : ((g.vols.length : Int) != (h.warm.length : Int)) = false := by simp [hl]
                have e9 : ((g.vols.length : Int) == (h.warm.length : Int)) = true := by simp [hl]
                clear k1 ha hl
                go_upto_region 15 with (first | (go_at_call 91; (with_reducible refine (f_rangedQ g.time (LT + 1) 1000000 _ K1.out _ _ _ (by simp)).mono ?_); rintro e w9 ⟨rfl, rfl⟩) | (go_at_call 26; (with_reducible refine (f_CheckAir g.air _).mono ?_); rw [HCA.out]; rintro e w9 ⟨rfl, hb9⟩; refine Blk.thru (b := w.heap.size) (arr := ?_) (t := ?_) ?_ hb9 ?_; rotate_left 2; (focus (exact blk)); intro rr; have rrc0 := rr.cell 0; have rrf0 := rr.free 0; have rrc1 := rr.cell 1; have rrf1 := rr.free 1; have rrc2 := rr.cell 2; have rrf2 := rr.free 2; have rrl := rr.lt; simp at rrc0 rrc1 rrc2; refine Blk.thru (b := wr.heap.size) (arr := ?_) (t := ?_) ?_ hb9 ?_; rotate_left 2; (focus (exact blk)); intro rg; have rgc0 := rg.cell 0; have rgf0 := rg.free 0; have rgc1 := rg.cell 1; have rgf1 := rg.free 1; have rgc2 := rg.cell 2; have rgf2 := rg.free 2; have rgc3 := rg.cell 3; have rgf3 := rg.free 3; have rgc4 := rg.cell 4; have rgf4 := rg.free 4; have rgc5 := rg.cell 5; have rgf5 := rg.free 5; have rgl := rg.lt; simp at rgc0 rgc1 rgc2 rgc3 rgc4 rgc5))
                refine at_world (S := fun V => Blk V w.heap.size #[.slice aw h.warm.length cw, .slice (some ⟨b1, o1, none⟩) h.gauges.length cg, .slice af h.flows.length cf] 85 ∧ Blk V wr.heap.size #[.int .i64 g.time, .int .i64 g.air.plo, .int .i64 g.air.phi, .int .i64 g.air.tlo, .int .i64 g.air.thi, .slice va g.vols.length g.vc] 124 ∧ Kept w V) ⟨by (exact blkc), by (exact blkc), by (exact kpt)⟩ ?_
                clear q0 hkk c0 c1 c2 c3 c4 c5 q0c0 q0f0 q0c1 q0f1 q0c2 q0f2 q0l
                rintro V ⟨q0, q6, hkV⟩
                have q6c0 := q6.cell 0
                have q6f0 := q6.free 0
                have q6c1 := q6.cell 1
                have q6f1 := q6.free 1
                have q6c2 := q6.cell 2
                have q6f2 := q6.free 2
                have q6c3 := q6.cell 3
                have q6f3 := q6.free 3
                have q6c4 := q6.cell 4
                have q6f4 := q6.free 4
                have q6c5 := q6.cell 5
                have q6f5 := q6.free 5
                have q6l := q6.lt
                simp at q6c0 q6c1 q6c2 q6c3 q6c4 q6c5
                go_wp2
                go_loopw [77] (fun i wr => ∃ m : Nat, m ≤ g.vols.length ∧ i = .int .i64 m ∧ (∀ c, c < m → volB (vAt g c) = true) ∧ Kept V wr) (fun i _ => g.vols.length - (intOf i).toNat)
                case atStart => exact ⟨0, Nat.zero_le _, rfl, fun c hc => by omega, Below.refl _ _⟩
                case round =>
                  obtain ⟨m, hm, rfl, hall, hkY⟩ := hrel
                  have HALL := Lib.hid hall
                  clear hall
                  by_cases hmv : m < g.vols.length
                  · obtain ⟨bv, ov, rfl, hbv, v0, v1⟩ := Sp.row (HVR.out _ (Kept.drop hkV hkY)) m hmv
                    obtain ⟨x, hx⟩ : ∃ x, x = vAt g m := ⟨_, rfl⟩
                    rw [vAt_get hmv, ← hx] at v0 v1
                    have HX := Lib.hid hx
                    clear hx
                    cases hvb : volB x
                    · have HF := Lib.hid (show histE h = 34 by
                        unfold histE
                        rw [histB_gauge hlt (by
                          rw [HPARTS.out]
                          simp only [Bool.and_eq_false_iff]
                          refine .inr ?_
                          rw [Bool.eq_false_iff]
                          intro hc
                          rw [List.all_eq_true] at hc
                          have := hc _ (List.getElem_mem hmv)
                          rw [vAt_get hmv, ← HX.out, hvb] at this
                          cases this)]
                        rfl)
                      have HV_ := Lib.hid (show spanIn x.lo x.hi 0 10000000 = false from hvb)
                      clear hvb
                      go_wp2_with (go_at_call 88; (with_reducible refine (f_span x.lo x.hi _ _ _).mono ?_); rw [HV_.out]; rintro e w9 ⟨rfl, hb9⟩)
                      go_ret
                      exact ⟨ret_int (by rw [HF.out]), by (exact kpt)⟩
                    · have HVB := Lib.hid hvb
                      have HV_ := Lib.hid (show spanIn x.lo x.hi 0 10000000 = true from hvb)
                      clear hvb
                      go_wp2_with (go_at_call 88; (with_reducible refine (f_span x.lo x.hi _ _ _).mono ?_); rw [HV_.out]; rintro e w9 ⟨rfl, hb9⟩)
                      go_round
                      case rel =>
                        refine ⟨m + 1, by omega, by go_num, fun c hc => ?_, by (exact kpt)⟩
                        by_cases hcm_ : c < m
                        · exact HALL.out c hcm_
                        · obtain rfl : c = m := by omega
                          rw [← HX.out]; exact HVB.out
                      case measure => simp [intOf]; omega
                  · obtain rfl : m = g.vols.length := by omega
                    have HOKK := Lib.hid (show okG h k = true by
                      rw [HPARTS.out, Bool.and_eq_true]
                      refine ⟨HPRE.out, ?_⟩
                      rw [List.all_eq_true]
                      intro v hv
                      obtain ⟨c, hc, rfl⟩ := List.mem_iff_getElem.1 hv
                      rw [vAt_get hc]; exact HALL.out c hc)
                    have z0 := q0.keep hkY
                    have hkz := Kept.drop hkV hkY
                    go_wp2
                    go_round
                    case rel =>
                      refine ⟨k + 1, by omega, by go_num, by rw [HTT.out], fun j hj => ?_, z0, hkz⟩
                      by_cases hjk : j < k
                      · exact HOKS.out j hjk
                      · obtain rfl : j = k := by omega
                        exact HOKK.out
                    case measure => simp [intOf]; omega
              · have HF := Lib.hid (show histE h = 34 by unfold histE; rw [histB_gauge hlt (by rw [HPARTS.out]; simp [hl])]; rfl)
                have e8 : ((g.vols.length : Int) != (h.warm.length : Int)) = true := by simp; omega
                have e9 : ((g.vols.length : Int) == (h.warm.length : Int)) = false := by simp; omega
                clear k1 ha hl
                go_wp2_with (first | (go_at_call 91; (with_reducible refine (f_rangedQ g.time (LT + 1) 1000000 _ K1.out _ _ _ (by simp)).mono ?_); rintro e w9 ⟨rfl, rfl⟩) | (go_at_call 26; (with_reducible refine (f_CheckAir g.air _).mono ?_); rw [HCA.out]; rintro e w9 ⟨rfl, hb9⟩; refine Blk.thru (b := w.heap.size) (arr := ?_) (t := ?_) ?_ hb9 ?_; rotate_left 2; (focus (exact blk)); intro rr; have rrc0 := rr.cell 0; have rrf0 := rr.free 0; have rrc1 := rr.cell 1; have rrf1 := rr.free 1; have rrc2 := rr.cell 2; have rrf2 := rr.free 2; have rrl := rr.lt; simp at rrc0 rrc1 rrc2; refine Blk.thru (b := wr.heap.size) (arr := ?_) (t := ?_) ?_ hb9 ?_; rotate_left 2; (focus (exact blk)); intro rg; have rgc0 := rg.cell 0; have rgf0 := rg.free 0; have rgc1 := rg.cell 1; have rgf1 := rg.free 1; have rgc2 := rg.cell 2; have rgf2 := rg.free 2; have rgc3 := rg.cell 3; have rgf3 := rg.free 3; have rgc4 := rg.cell 4; have rgf4 := rg.free 4; have rgc5 := rg.cell 5; have rgf5 := rg.free 5; have rgl := rg.lt; simp at rgc0 rgc1 rgc2 rgc3 rgc4 rgc5))
                go_ret
                exact ⟨ret_int (by rw [HF.out]), by (exact kpt)⟩
        · obtain rfl : k = h.gauges.length := by omega
          clear hall hk hlt hlb
          go_wp2
          clear q0c0 q0f0 q0c1 q0f1 q0c2 q0f2 q0l
          go_loopw [89] (fun i wr => ∃ k : Nat, k ≤ h.flows.length ∧ i = .int .i64 k ∧ (∀ j (hj : j < h.flows.length), j < k → flowB h.warm.length h.flows[j] = true) ∧ Blk wr w.heap.size #[.slice aw h.warm.length cw, .slice ag h.gauges.length cg, .slice af h.flows.length cf] 85 ∧ Kept w wr) (fun i _ => h.flows.length - (intOf i).toNat)
          case atStart => exact ⟨0, Nat.zero_le _, rfl, fun c _ hc => by omega, q0, hkk⟩
          case round =>
            clear q0 hkk
            obtain ⟨k, hk, rfl, hall, q0, hkk⟩ := hrel
            have HFLS := Lib.hid hall
            clear hall
            have q0c0 := q0.cell 0
            have q0f0 := q0.free 0
            have q0c1 := q0.cell 1
            have q0f1 := q0.free 1
            have q0c2 := q0.cell 2
            have q0f2 := q0.free 2
            have q0l := q0.lt
            simp at q0c0 q0c1 q0c2
            by_cases hlt : k < h.flows.length
            · obtain ⟨b1, o1, rfl, hb1, c0, c1, c2⟩ := Flow.row (R3.out _ hkk) k hlt
              obtain ⟨x, hx⟩ : ∃ x, x = h.flows[k] := ⟨_, rfl⟩
              rw [← hx] at c0 c1 c2
              have HX := Lib.hid hx
              clear hx
              cases t1 : inB x.time 0 1000000
              · have T1 := Lib.hid t1
                have HF := Lib.hid (show histE h = 34 by unfold histE; rw [histB_flow hlt (by rw [← HX.out]; simp [flowB, t1])]; rfl)
                clear t1
                go_wp2_with (go_at_call 91; (with_reducible refine (f_rangedQ x.time 0 1000000 _ T1.out _ _ _ (by simp)).mono ?_); rintro e w9 ⟨rfl, rfl⟩)
                go_ret
                exact ⟨ret_int (by rw [HF.out]), by (exact kpt)⟩
              · have T1 := Lib.hid t1
                cases t2 : inB x.cell 0 (h.warm.length - 1)
                · have T2 := Lib.hid t2
                  have HF := Lib.hid (show histE h = 34 by unfold histE; rw [histB_flow hlt (by rw [← HX.out]; simp [flowB, t2])]; rfl)
                  clear t1 t2
                  go_wp2_with (first | (go_at_call 91; (with_reducible refine (f_rangedQ x.time 0 1000000 _ T1.out _ _ _ (by simp)).mono ?_); rintro e w9 ⟨rfl, rfl⟩) | (go_at_call 91; (with_reducible refine (f_rangedQ x.cell 0 (h.warm.length - 1) _ T2.out _ _ _ (by simp)).mono ?_); rintro e w9 ⟨rfl, rfl⟩))
                  go_ret
                  exact ⟨ret_int (by rw [HF.out]), by (exact kpt)⟩
                · have T2 := Lib.hid t2
                  cases t3 : inB x.n (-10000000) 10000000
                  · have T3 := Lib.hid t3
                    have HF := Lib.hid (show histE h = 34 by unfold histE; rw [histB_flow hlt (by rw [← HX.out]; simp [flowB, t3])]; rfl)
                    clear t1 t2 t3
                    go_wp2_with (first | (go_at_call 91; (with_reducible refine (f_rangedQ x.time 0 1000000 _ T1.out _ _ _ (by simp)).mono ?_); rintro e w9 ⟨rfl, rfl⟩) | (go_at_call 91; (with_reducible refine (f_rangedQ x.cell 0 (h.warm.length - 1) _ T2.out _ _ _ (by simp)).mono ?_); rintro e w9 ⟨rfl, rfl⟩) | (go_at_call 91; (with_reducible refine (f_rangedQ x.n (-10000000) 10000000 _ T3.out _ _ _ (by simp)).mono ?_); rintro e w9 ⟨rfl, rfl⟩))
                    go_ret
                    exact ⟨ret_int (by rw [HF.out]), by (exact kpt)⟩
                  · have T3 := Lib.hid t3
                    have HFL := Lib.hid (show flowB h.warm.length x = true by simp [flowB, t1, t2, t3])
                    clear t1 t2 t3
                    go_wp2_with (first | (go_at_call 91; (with_reducible refine (f_rangedQ x.time 0 1000000 _ T1.out _ _ _ (by simp)).mono ?_); rintro e w9 ⟨rfl, rfl⟩) | (go_at_call 91; (with_reducible refine (f_rangedQ x.cell 0 (h.warm.length - 1) _ T2.out _ _ _ (by simp)).mono ?_); rintro e w9 ⟨rfl, rfl⟩) | (go_at_call 91; (with_reducible refine (f_rangedQ x.n (-10000000) 10000000 _ T3.out _ _ _ (by simp)).mono ?_); rintro e w9 ⟨rfl, rfl⟩))
                    go_round
                    case rel =>
                      refine ⟨k + 1, by omega, by go_num, fun j hj hjk => ?_, by (exact blkc), by (exact kpt)⟩
                      by_cases hjj : j < k
                      · exact HFLS.out j hj hjj
                      · obtain rfl : j = k := by omega
                        rw [← HX.out]; exact HFL.out
                    case measure => simp [intOf]; omega
            · obtain rfl : k = h.flows.length := by omega
              have HT := Lib.hid (show histE h = 0 by unfold histE; rw [histB_true HS.out HWARM.out HOKS.out (fun j hj => HFLS.out j hj hj)]; rfl)
              go_wp2
              go_ret
              exact ⟨ret_int (by rw [HT.out]), by (exact kpt)⟩
theorem f_CheckHistory (h : Hist) (s : Spot) (w : World) (hh : HistAt h s w) : Calls Try.prog 64 #[.agg #[.slice s.aw h.warm.length s.cw, .slice s.ag h.gauges.length s.cg, .slice s.af h.flows.length s.cf]] w fun e w' => e = .returned (.int .i64 (histE h)) ∧ Kept w w' := by
  cases hs : sizesB h
  · exact f_CheckHistory_sizes h s w hh hs
  · exact f_CheckHistory_main h s w hh hs

end Go.Proofs.Ytemafanncejeiaa

/-
  The reference: flows between two gauges.
-/
namespace Go.Proofs.Ytemafanncejeiaa
open Go.RowKit Bal Bal.Trim Bal.Gas
set_option linter.unusedVariables false
set_option linter.unusedSimpArgs false
set_option maxHeartbeats 4000000
set_option maxRecDepth 100000

theorem r_Come (h : Hist) (s : Spot) (w : World) (hh : HistAt h s w) (ho : HistOk h) (c p t : Nat) (hp : p < h.gauges.length) (ht : t < h.gauges.length) (hc : c < h.warm.length) :
    Calls Try.prog 140 #[.agg #[.slice s.aw h.warm.length s.cw, .slice s.ag h.gauges.length s.cg, .slice s.af h.flows.length s.cf], .int .i64 c, .int .i64 p, .int .i64 t] w fun e w' => e = .returned (.int .i64 (come h c (tt h p) (tt h t))) ∧ Kept w w' := by
  have hcw := hh.wc
  have hcm := hh.wm
  have hgc := hh.gc
  have hgm := hh.gm
  have hfc := hh.fc
  have hfm := hh.fm
  unfold maxLen at hcm hgm hfm
  obtain ⟨aw, ag, af, cw, cg, cf⟩ := s
  simp only at hcw hcm hgc hgm hfc hfm
  have R2 := Lib.hid (show ∀ W, Kept w W → Row Gauge.cells 6 W.heap.size W ag h.gauges from fun W hW => (hh.later hW).gauges)
  have R3 := Lib.hid (show ∀ W, Kept w W → Row Flow.cells 3 W.heap.size W af h.flows from fun W hW => (hh.later hW).flows)
  obtain ⟨A, hA⟩ : ∃ n, n = tt h p := ⟨_, rfl⟩
  obtain ⟨B, hB⟩ : ∃ n, n = tt h t := ⟨_, rfl⟩
  have HBD := Lib.hid (fun k => come_bd ho c A B k)
  have hfl2 := ho.f2
  have HFLO := Lib.hid ho.flow
  have HCM := Lib.hid (come_all h c A B)
  rw [← hA, ← hB]
  have HA := Lib.hid hA
  have HB := Lib.hid hB
  clear hA hB
  go_enter Try.func140, Try.ntmps140
  go_wp2
  go_loopw [9, 10] (fun v i wr => ∃ k : Nat, k ≤ h.flows.length ∧ i = .int .i64 k ∧ v = .int .i64 (sumBy (flowN c A B) (h.flows.take k)) ∧ Blk wr w.heap.size #[.slice aw h.warm.length cw, .slice ag h.gauges.length cg, .slice af h.flows.length cf] 85 ∧ Kept w wr) (fun _ i _ => h.flows.length - (intOf i).toNat)
  case atStart => exact ⟨0, Nat.zero_le _, rfl, rfl, by (exact blkc), by (exact kpt)⟩
  case round =>
    obtain ⟨k, hk, rfl, rfl, q0, hkk⟩ := hrel
    obtain ⟨s1, s2⟩ := HBD.out k
    have q0c0 := q0.cell 0
    have q0f0 := q0.free 0
    have q0c1 := q0.cell 1
    have q0f1 := q0.free 1
    have q0c2 := q0.cell 2
    have q0f2 := q0.free 2
    have q0l := q0.lt
    simp at q0c0 q0c1 q0c2
    by_cases hlt : k < h.flows.length
    · obtain ⟨b1, o1, rfl, hb1, c0, c1, c2⟩ := Flow.row (R3.out _ hkk) k hlt
      obtain ⟨x, hx⟩ : ∃ x, x = h.flows[k] := ⟨_, rfl⟩
      have hxb := HFLO.out x (by rw [hx]; exact List.getElem_mem hlt)
      obtain ⟨⟨x1, x2⟩, ⟨x3, x4⟩, x5, x6⟩ := hxb
      rw [← hx] at c0 c1 c2
      have HX := Lib.hid hx
      clear hx
      go_upto_region 6 with fail
      clear c0 c1 c2
      refine at_world (S := fun V => Blk V w.heap.size #[.slice aw h.warm.length cw, .slice ag h.gauges.length cg, .slice (some ⟨b1, o1, none⟩) h.flows.length cf] 85 ∧ Blk V wr.heap.size #[.int .i64 x.time, .int .i64 x.cell, .int .i64 x.n] 128 ∧ Kept w V) ⟨by (exact blkc), by (exact blkc), by (exact kpt)⟩ ?_
      clear q0 hkk q0c0 q0f0 q0c1 q0f1 q0c2 q0f2 q0l
      rintro V ⟨q0, q6, hkV⟩
      obtain ⟨bg, og, hag, hbg, g0, _⟩ := Gauge.row (R2.out _ hkV) p hp
      obtain ⟨bt, ot, hat, hbt, e0, _⟩ := Gauge.row (R2.out _ hkV) t ht
      obtain ⟨rfl, rfl⟩ : bg = bt ∧ og = ot := by rw [hag] at hat; simpa using hat
      rw [gAt_get hp, show (gAt h p).time = A from HA.out.symm] at g0
      rw [gAt_get ht, show (gAt h t).time = B from HB.out.symm] at e0
      have y0 := fun g_ : Later V => g_.some g0
      have y1 := fun g_ : Later V => g_.some e0
      have q0c0 := fun g : Later V => (q0.later g).cell 0
      have q0f0 := fun g : Later V => (q0.later g).free 0
      have q0c1 := fun g : Later V => (q0.later g).cell 1
      have q0f1 := fun g : Later V => (q0.later g).free 1
      have q0c2 := fun g : Later V => (q0.later g).cell 2
      have q0f2 := fun g : Later V => (q0.later g).free 2
      have q0l := fun g : Later V => (q0.later g).lt
      simp at q0c0 q0c1 q0c2
      have q6c0 := fun g : Later V => (q6.later g).cell 0
      have q6f0 := fun g : Later V => (q6.later g).free 0
      have q6c1 := fun g : Later V => (q6.later g).cell 1
      have q6f1 := fun g : Later V => (q6.later g).free 1
      have q6c2 := fun g : Later V => (q6.later g).cell 2
      have q6f2 := fun g : Later V => (q6.later g).free 2
      have q6l := fun g : Later V => (q6.later g).lt
      simp at q6c0 q6c1 q6c2
      rw [hag] at q0c1
      clear hag hat g0 e0
      by_cases k1 : x.cell = (c : Int)
      · have e1 : (x.cell == (c : Int)) = true := by simp [k1]
        have e2 : decide (x.cell = (c : Int)) = true := by simp [k1]
        by_cases k2 : A < x.time
        · have e3 : decide (A < x.time) = true := by simp [k2]
          by_cases k3 : x.time ≤ B
          · have e4 : decide (x.time ≤ B) = true := by simp [k3]
            have HFN := Lib.hid (show flowN c A B x = x.n by simp [flowN, flowIn, k1, k2, k3])
            clear k1 k2 k3
            refine Later.region (by kernel_rfl) (by kernel_rfl) ?_
            repeat (first | go_big_quiet_skip | (go_big_quiet_want; go_big_quiet_op; first | go_big_quiet_on | (apply Exists.intro; refine ⟨fun g_ => ?_, ?_⟩; (focus (first | fail)); go_big_quiet_on)))
            refine wpQuiet_nil ?_
            intro gg
            have n0 := q0.later gg
            have n6 := q6.later gg
            have hkg := Kept.drop hkV gg.ok
            have n6c0 := n6.cell 0
            have n6f0 := n6.free 0
            have n6c1 := n6.cell 1
            have n6f1 := n6.free 1
            have n6c2 := n6.cell 2
            have n6f2 := n6.free 2
            have n6l := n6.lt
            simp at n6c0 n6c1 n6c2
            go_wp2
            go_round
            case rel => exact ⟨k + 1, by omega, by go_num, by rw [sumBy_take _ _ _ hlt, ← HX.out, HFN.out], n0, hkg⟩
            case measure => simp [intOf]; omega
          · have e4 : decide (x.time ≤ B) = false := by simp; omega
            have HFN := Lib.hid (show flowN c A B x = 0 by simp [flowN, flowIn, k1, k2, k3])
            clear k1 k2 k3
            refine Later.region (by kernel_rfl) (by kernel_rfl) ?_
            repeat (first | go_big_quiet_skip | (go_big_quiet_want; go_big_quiet_op; first | go_big_quiet_on | (apply Exists.intro; refine ⟨fun g_ => ?_, ?_⟩; (focus (first | fail)); go_big_quiet_on)))
            refine wpQuiet_nil ?_
            intro gg
            have n0 := q0.later gg
            have n6 := q6.later gg
            have hkg := Kept.drop hkV gg.ok
            have n6c0 := n6.cell 0
            have n6f0 := n6.free 0
            have n6c1 := n6.cell 1
            have n6f1 := n6.free 1
            have n6c2 := n6.cell 2
            have n6f2 := n6.free 2
            have n6l := n6.lt
            simp at n6c0 n6c1 n6c2
            go_wp2
            go_round
            case rel => exact ⟨k + 1, by omega, by go_num, by rw [sumBy_take _ _ _ hlt, ← HX.out, HFN.out, Int.add_zero], n0, hkg⟩
            case measure => simp [intOf]; omega
        · have e3 : decide (A < x.time) = false := by simp; omega
          have HFN := Lib.hid (show flowN c A B x = 0 by simp [flowN, flowIn, k1, k2])
          clear k1 k2
          refine Later.region (by kernel_rfl) (by kernel_rfl) ?_
          repeat (first | go_big_quiet_skip | (go_big_quiet_want; go_big_quiet_op; first | go_big_quiet_on | (apply Exists.intro; refine ⟨fun g_ => ?_, ?_⟩; (focus (first | fail)); go_big_quiet_on)))
          refine wpQuiet_nil ?_
          intro gg
          have n0 := q0.later gg
          have n6 := q6.later gg
          have hkg := Kept.drop hkV gg.ok
          have n6c0 := n6.cell 0
          have n6f0 := n6.free 0
          have n6c1 := n6.cell 1
          have n6f1 := n6.free 1
          have n6c2 := n6.cell 2
          have n6f2 := n6.free 2
          have n6l := n6.lt
          simp at n6c0 n6c1 n6c2
          go_wp2
          go_round
          case rel => exact ⟨k + 1, by omega, by go_num, by rw [sumBy_take _ _ _ hlt, ← HX.out, HFN.out, Int.add_zero], n0, hkg⟩
          case measure => simp [intOf]; omega
      · have e1 : (x.cell == (c : Int)) = false := by simp [k1]
        have e2 : decide (x.cell = (c : Int)) = false := by simp [k1]
        have HFN := Lib.hid (show flowN c A B x = 0 by simp [flowN, flowIn, k1])
        clear k1
        refine Later.region (by kernel_rfl) (by kernel_rfl) ?_
        repeat (first | go_big_quiet_skip | (go_big_quiet_want; go_big_quiet_op; first | go_big_quiet_on | (apply Exists.intro; refine ⟨fun g_ => ?_, ?_⟩; (focus (first | fail)); go_big_quiet_on)))
        refine wpQuiet_nil ?_
        intro gg
        have n0 := q0.later gg
        have n6 := q6.later gg
        have hkg := Kept.drop hkV gg.ok
        have n6c0 := n6.cell 0
        have n6f0 := n6.free 0
        have n6c1 := n6.cell 1
        have n6f1 := n6.free 1
        have n6c2 := n6.cell 2
        have n6f2 := n6.free 2
        have n6l := n6.lt
        simp at n6c0 n6c1 n6c2
        go_wp2
        go_round
        case rel => exact ⟨k + 1, by omega, by go_num, by rw [sumBy_take _ _ _ hlt, ← HX.out, HFN.out, Int.add_zero], n0, hkg⟩
        case measure => simp [intOf]; omega
    · obtain rfl : k = h.flows.length := by omega
      go_wp2
      go_ret
      exact ⟨ret_int HCM.out.symm, hkk⟩

end Go.Proofs.Ytemafanncejeiaa

/-
  What a gauge allows of a cell: the reference.
-/
namespace Go.Proofs.Ytemafanncejeiaa
open Go.RowKit Bal Bal.Trim Bal.Gas
set_option linter.unusedVariables false
set_option linter.unusedSimpArgs false
set_option maxHeartbeats 4000000
set_option maxRecDepth 100000

theorem r_Allowed (h : Hist) (s : Spot) (w : World) (hh : HistAt h s w) (ho : HistOk h) (i c : Nat) (hi : i < h.gauges.length) (hc : c < h.warm.length) :
    Calls Try.prog 127 #[.agg #[.slice s.aw h.warm.length s.cw, .slice s.ag h.gauges.length s.cg, .slice s.af h.flows.length s.cf], .int .i64 i, .int .i64 c] w fun e w' => e = .returned (.agg #[.int .i64 (alLo h i c), .int .i64 (alHi h i c)]) ∧ Kept w w' := by
  have hcw := hh.wc
  have hcm := hh.wm
  have hgc := hh.gc
  have hgm := hh.gm
  have hfc := hh.fc
  have hfm := hh.fm
  unfold maxLen at hcm hgm hfm
  obtain ⟨aw, ag, af, cw, cg, cf⟩ := s
  simp only at hcw hcm hgc hgm hfc hfm
  have R1 := Lib.hid (show ∀ W, Kept w W → Row Sp.cells 2 W.heap.size W aw h.warm from fun W hW => (hh.later hW).warm)
  have R2 := Lib.hid (show ∀ W, Kept w W → Row Gauge.cells 6 W.heap.size W ag h.gauges from fun W hW => (hh.later hW).gauges)
  have RV0 := fun (W : World) (hW : Kept w W) => (hh.later hW).volsAt i hi
  have hbd := al_bd ho hi hc
  have hvl := ho.vlen i hi
  have hvc := hh.vc _ (List.getElem_mem hi)
  rw [gAt_get hi] at hvc
  have hai := airB_iff.1 (ho.air i hi)
  have hwb := ho.warm c hc
  have HLO0 : alLo h i c = -((-((vAt (gAt h i) c).lo * (gAt h i).air.plo)) / ((gAt h i).air.thi + (wAt h c).hi)) := rfl
  have HHI0 : alHi h i c = (vAt (gAt h i) c).hi * (gAt h i).air.phi / ((gAt h i).air.tlo + (wAt h c).lo) := rfl
  obtain ⟨g, hg⟩ : ∃ g, g = gAt h i := ⟨_, rfl⟩
  obtain ⟨x, hx⟩ : ∃ x, x = wAt h c := ⟨_, rfl⟩
  rw [← hg] at RV0 hvl hvc hbd hai HLO0 HHI0
  rw [← hx] at hbd hwb HLO0 HHI0
  obtain ⟨y, hy⟩ : ∃ y, y = vAt g c := ⟨_, rfl⟩
  rw [← hy] at hbd HLO0 HHI0
  obtain ⟨va, hva⟩ : ∃ v, v = gv g := ⟨_, rfl⟩
  rw [← hva] at RV0
  have hcv : c < g.vols.length := by omega
  have hv12 : g.vols.length ≤ 12 := by have := ho.w2; omega
  have hg30 : h.gauges.length ≤ 30 := ho.g2
  have hw12 : h.warm.length ≤ 12 := ho.w2
  have RV := Lib.hid RV0
  have HLO := Lib.hid HLO0
  have HHI := Lib.hid HHI0
  have HG := Lib.hid hg
  have HX := Lib.hid hx
  have HY := Lib.hid hy
  have HVA := Lib.hid hva
  obtain ⟨⟨d0, d1, d2⟩, ⟨m0, m1⟩, ⟨m2, m3⟩, ⟨l0_, l1_⟩, l2_, l3_⟩ := hbd
  clear hg hx hy hva RV0 HLO0 HHI0 hvl l0_ l1_ l2_ l3_
  obtain ⟨bg, og, hag, hbg, g0, g1, g2, g3, g4, g5⟩ := Gauge.row (R2.out _ (Below.refl _ _)) i hi
  rw [gAt_get hi, ← HG.out] at g0 g1 g2 g3 g4 g5
  rw [← HVA.out] at g5
  subst hag
  go_enter Try.func127, Try.ntmps127
  go_upto_region 2 with fail
  clear g0 g1 g2 g3 g4 g5
  refine at_world (S := fun V => Blk V w.heap.size #[.slice aw h.warm.length cw, .slice (some ⟨bg, og, none⟩) h.gauges.length cg, .slice af h.flows.length cf] 85 ∧ Blk V (w.heap.size + 1) #[.int .i64 0, .int .i64 0] 23 ∧ Blk V (w.heap.size + 1 + 1) #[.int .i64 g.time, .int .i64 g.air.plo, .int .i64 g.air.phi, .int .i64 g.air.tlo, .int .i64 g.air.thi, .slice va g.vols.length g.vc] 124 ∧ Kept w V) ⟨by (exact blkc), by (exact blkc), by (exact blkc), by (exact kpt)⟩ ?_
  rintro V ⟨q0, q1, q6, hkV⟩
  go_cut [8] (fun s8 wx => ∃ n8, s8 = .pointer (some ⟨n8, 0, none⟩) ∧ Blk wx n8 #[.int .i64 (g.air.tlo + x.lo), .int .i64 (g.air.thi + x.hi)] 23 ∧ Blk wx w.heap.size #[.slice aw h.warm.length cw, .slice (some ⟨bg, og, none⟩) h.gauges.length cg, .slice af h.flows.length cf] 85 ∧ Blk wx (w.heap.size + 1) #[.int .i64 0, .int .i64 0] 23 ∧ Blk wx (w.heap.size + 1 + 1) #[.int .i64 g.time, .int .i64 g.air.plo, .int .i64 g.air.phi, .int .i64 g.air.tlo, .int .i64 g.air.thi, .slice va g.vols.length g.vc] 124 ∧ Kept w wx)
  case first =>
    have q0k0 : ∀ w', Kept V w' → w'.cell? ⟨w.heap.size, 0, none⟩ = _ := fun w' h => (q0.keep h).cell 0
    have q0k1 : ∀ w', Kept V w' → w'.cell? ⟨w.heap.size, 1, none⟩ = _ := fun w' h => (q0.keep h).cell 1
    have q0k2 : ∀ w', Kept V w' → w'.cell? ⟨w.heap.size, 2, none⟩ = _ := fun w' h => (q0.keep h).cell 2
    simp at q0k0 q0k1 q0k2
    have q6k0 : ∀ w', Kept V w' → w'.cell? ⟨(w.heap.size + 1 + 1), 0, none⟩ = _ := fun w' h => (q6.keep h).cell 0
    have q6k1 : ∀ w', Kept V w' → w'.cell? ⟨(w.heap.size + 1 + 1), 1, none⟩ = _ := fun w' h => (q6.keep h).cell 1
    have q6k2 : ∀ w', Kept V w' → w'.cell? ⟨(w.heap.size + 1 + 1), 2, none⟩ = _ := fun w' h => (q6.keep h).cell 2
    have q6k3 : ∀ w', Kept V w' → w'.cell? ⟨(w.heap.size + 1 + 1), 3, none⟩ = _ := fun w' h => (q6.keep h).cell 3
    have q6k4 : ∀ w', Kept V w' → w'.cell? ⟨(w.heap.size + 1 + 1), 4, none⟩ = _ := fun w' h => (q6.keep h).cell 4
    have q6k5 : ∀ w', Kept V w' → w'.cell? ⟨(w.heap.size + 1 + 1), 5, none⟩ = _ := fun w' h => (q6.keep h).cell 5
    simp at q6k0 q6k1 q6k2 q6k3 q6k4 q6k5
    obtain ⟨bw, ow, haw, hbw, c0, c1⟩ := Sp.row (R1.out _ hkV) c hc
    rw [wAt_get hc, ← HX.out] at c0 c1
    subst haw
    have y0 : ∀ w', Kept V w' → w'.cell? ⟨bw, ow + c * 2, none⟩ = _ := fun w' h => (h.cell (p := ⟨bw, ow + c * 2, none⟩) hbw).trans c0
    have y1 : ∀ w', Kept V w' → w'.cell? ⟨bw, ow + c * 2 + 1, none⟩ = _ := fun w' h => (h.cell (p := ⟨bw, ow + c * 2 + 1, none⟩) hbw).trans c1
    have l0 := q0.lt
    have l1 := q1.lt
    have l6 := q6.lt
    clear c0 c1
    go_region_held3 (fun w' => Kept V w') (exact kpt) (first | (go_at_call 83; (with_reducible refine (r_heat_ok g.air.tlo g.air.thi x.lo x.hi _ ?_).mono ?_); (focus omega); rintro e w3 ⟨rfl, hb3⟩; (first | (refine Blk.thru (b := V.heap.size) (arr := #[.int .i64 0, .int .i64 0]) (t := 23) ?_ hb3 ?_; (focus (first | with_reducible assumption | (refine Blk.new' ?_; (focus (simp; done))) | (refine Blk.drew (Blk.new' ?_); (focus (simp; done))) | (refine Blk.alloc (Blk.new' ?_) _; (focus (simp; done))) | (refine Blk.drew (Blk.alloc (Blk.new' ?_) _); (focus (simp; done))) | (refine Blk.alloc (Blk.drew (Blk.new' ?_)) _; (focus (simp; done))) | (refine Blk.alloc ?_ _; with_reducible assumption) | (refine Blk.drew ?_; with_reducible assumption) | (refine Blk.drew (Blk.alloc ?_ _); with_reducible assumption) | fail)); intro ta; have tac0 := ta.cell 0; have taf0 := ta.free 0; have tac1 := ta.cell 1; have taf1 := ta.free 1; have tal := ta.lt; simp at tac0 tac1) | skip)) | fail)
    all_goals (go_wp2_with fail; go_meet)
    all_goals exact ⟨_, rfl, by (exact blkc), by (exact blkc), by (exact blkc), by (exact blkc), by (exact kpt)⟩
  case rest =>
    clear q0 q1 q6 hkV
    obtain ⟨n8, rfl, q8, q0, q1, q6, hk⟩ := hcut
    go_upto_region 3 with fail
    refine at_world (S := fun Y => Blk Y n8 #[.int .i64 (g.air.tlo + x.lo), .int .i64 (g.air.thi + x.hi)] 23 ∧ Blk Y w.heap.size #[.slice aw h.warm.length cw, .slice (some ⟨bg, og, none⟩) h.gauges.length cg, .slice af h.flows.length cf] 85 ∧ Blk Y (w.heap.size + 1) #[.int .i64 0, .int .i64 0] 23 ∧ Blk Y (w.heap.size + 1 + 1) #[.int .i64 g.time, .int .i64 g.air.plo, .int .i64 g.air.phi, .int .i64 g.air.tlo, .int .i64 g.air.thi, .slice va g.vols.length g.vc] 124 ∧ Kept w Y) ⟨q8, q0, q1, q6, hk⟩ ?_
    clear q8 q0 q1 q6 hk
    rintro Y ⟨q8, q0, q1, q6, hkY⟩
    obtain ⟨bv, ov, hva2, hbv, c0, c1⟩ := Sp.row (RV.out _ hkY) c hcv
    rw [vAt_get hcv, ← HY.out] at c0 c1
    subst hva2
    have y0 := fun g_ : Later Y => g_.some c0
    have y1 := fun g_ : Later Y => g_.some c1
    clear c0 c1
    have q8c0 := fun g : Later Y => (q8.later g).cell 0
    have q8f0 := fun g : Later Y => (q8.later g).free 0
    have q8c1 := fun g : Later Y => (q8.later g).cell 1
    have q8f1 := fun g : Later Y => (q8.later g).free 1
    have q8l := fun g : Later Y => (q8.later g).lt
    simp at q8c0 q8c1
    have q6c0 := fun g : Later Y => (q6.later g).cell 0
    have q6f0 := fun g : Later Y => (q6.later g).free 0
    have q6c1 := fun g : Later Y => (q6.later g).cell 1
    have q6f1 := fun g : Later Y => (q6.later g).free 1
    have q6c2 := fun g : Later Y => (q6.later g).cell 2
    have q6f2 := fun g : Later Y => (q6.later g).free 2
    have q6c3 := fun g : Later Y => (q6.later g).cell 3
    have q6f3 := fun g : Later Y => (q6.later g).free 3
    have q6c4 := fun g : Later Y => (q6.later g).cell 4
    have q6f4 := fun g : Later Y => (q6.later g).free 4
    have q6c5 := fun g : Later Y => (q6.later g).cell 5
    have q6f5 := fun g : Later Y => (q6.later g).free 5
    have q6l := fun g : Later Y => (q6.later g).lt
    simp at q6c0 q6c1 q6c2 q6c3 q6c4 q6c5
    have w1 := i64_inH (n := y.lo * g.air.plo) (by omega)
    have w2 := i64_inH (n := y.hi * g.air.phi) (by omega)
    have KC := fun (W : World) => r_ceil (y.lo * g.air.plo) (g.air.thi + x.hi) W (by omega) (by omega) (by omega) (by omega)
    rw [← HLO.out] at KC
    have KF := fun (W : World) => r_floor (y.hi * g.air.phi) (g.air.tlo + x.lo) W (by omega) (by omega) (by omega) (by omega)
    rw [← HHI.out] at KF
    obtain ⟨L, hL⟩ : ∃ n, n = alLo h i c := ⟨_, rfl⟩
    obtain ⟨H, hH⟩ : ∃ n, n = alHi h i c := ⟨_, rfl⟩
    rw [← hL] at KC
    rw [← hH] at KF
    have HL := Lib.hid hL
    have HH := Lib.hid hH
    clear hL hH
    refine Later.tail 29 (by kernel_rfl) (by kernel_rfl) ?_
    simp only [List.take_succ_cons, List.take_zero, List.drop_succ_cons, List.drop_zero]
    repeat (first | go_big_quiet_skip | (go_big_quiet_want; go_big_quiet_op; first | go_big_quiet_on | (apply Exists.intro; refine ⟨fun g_ => ?_, ?_⟩; (focus (first | (go_at_call 86; with_reducible exact Later.call_same (KC _)) | (go_at_call 84; with_reducible exact Later.call_same (KF _)))); go_big_quiet_on)))
    refine wpQuiet_nil ?_
    intro gg
    refine wpList_plain rfl fun K1 hK1 => ?_
    clear q8c0 q8f0 q8c1 q8f1 q8l q6c0 q6f0 q6c1 q6f1 q6c2 q6f2 q6c3 q6f3 q6c4 q6f4 q6c5 q6f5 q6l
    have n1 := q1.later gg
    have hkg := Kept.drop hkY gg.ok
    have n1c0 := n1.cell 0
    have n1f0 := n1.free 0
    have n1c1 := n1.cell 1
    have n1f1 := n1.free 1
    have n1l := n1.lt
    simp at n1c0 n1c1
    go_wp2
    exact bodyPost_ret (v := .agg #[.int .i64 L, .int .i64 H]) (by simp [results, Try.results127, go_sem, n1c0, n1f0, n1c1, n1f1]) rfl ⟨by rw [HL.out, HH.out], by (exact kpt)⟩

end Go.Proofs.Ytemafanncejeiaa

/-
  Volumes and fits.
-/
namespace Go.Proofs.Ytemafanncejeiaa
open Go.RowKit Bal Bal.Trim Bal.Gas
set_option linter.unusedVariables false
set_option linter.unusedSimpArgs false
set_option maxHeartbeats 400000

theorem f_put_air (c : Cell) (a : Air) (w : World) (hv : cellB c = true) (ha : airB a = false) :
    Calls Try.prog 80 #[.agg #[.int .i64 c.room, .int .i64 c.helium, .int .i64 c.air, .int .i64 c.wlo, .int .i64 c.whi, .int .i64 c.leak, .int .i64 c.owed], .agg #[.int .i64 a.plo, .int .i64 a.phi, .int .i64 a.tlo, .int .i64 a.thi]] w fun e w' => e = .returned (.tuple #[.agg #[.int .i64 c.room, .int .i64 c.helium, .int .i64 c.air, .int .i64 c.wlo, .int .i64 c.whi, .int .i64 c.leak, .int .i64 c.owed, .int .i64 a.plo, .int .i64 a.phi, .int .i64 a.tlo, .int .i64 a.thi, .int .i64 (amount c), .int .i64 (wrap64 (a.tlo + c.wlo)), .int .i64 (wrap64 (a.thi + c.whi))], .int .i64 30]) ∧ Kept w w' := by
  have := f_put_ok c a w hv
  rwa [show checkAir a = 30 by simp [checkAir, ha]] at this

theorem f_Volume_bad (c : Cell) (a : Air) (w : World) (hv : cellB c = false) :
    Calls Try.prog 22 #[.agg #[.int .i64 c.room, .int .i64 c.helium, .int .i64 c.air, .int .i64 c.wlo, .int .i64 c.whi, .int .i64 c.leak, .int .i64 c.owed], .agg #[.int .i64 a.plo, .int .i64 a.phi, .int .i64 a.tlo, .int .i64 a.thi]] w fun e w' => e = .returned (.tuple #[.agg #[.int .i64 0, .int .i64 0], .int .i64 31]) ∧ Kept w w' := by
  go_enter Try.func22, Try.ntmps22
  go_wp2_with (go_at_call 80; (with_reducible refine (f_put_bad c a _ hv).mono ?_); rintro e w1 ⟨rfl, hb1⟩; obtain ⟨hc1, hf1, hl1⟩ := bcell3 hb1)
  exact bodyPost_ret (v := .tuple #[.agg #[.int .i64 0, .int .i64 0], .int .i64 31]) (by simp [results, Try.results22, go_sem, hc1, hf1, hl1]) rfl ⟨rfl, by (exact kpt)⟩

theorem f_Volume_air (c : Cell) (a : Air) (w : World) (hv : cellB c = true) (ha : airB a = false) :
    Calls Try.prog 22 #[.agg #[.int .i64 c.room, .int .i64 c.helium, .int .i64 c.air, .int .i64 c.wlo, .int .i64 c.whi, .int .i64 c.leak, .int .i64 c.owed], .agg #[.int .i64 a.plo, .int .i64 a.phi, .int .i64 a.tlo, .int .i64 a.thi]] w fun e w' => e = .returned (.tuple #[.agg #[.int .i64 0, .int .i64 0], .int .i64 30]) ∧ Kept w w' := by
  go_enter Try.func22, Try.ntmps22
  go_wp2_with (go_at_call 80; (with_reducible refine (f_put_air c a _ hv ha).mono ?_); rintro e w1 ⟨rfl, hb1⟩; obtain ⟨hc1, hf1, hl1⟩ := bcell3 hb1)
  exact bodyPost_ret (v := .tuple #[.agg #[.int .i64 0, .int .i64 0], .int .i64 30]) (by simp [results, Try.results22, go_sem, hc1, hf1, hl1]) rfl ⟨rfl, by (exact kpt)⟩

theorem f_Volume_ok (c : Cell) (a : Air) (w : World) (hv : cellB c = true) (ha : airB a = true) :
    Calls Try.prog 22 #[.agg #[.int .i64 c.room, .int .i64 c.helium, .int .i64 c.air, .int .i64 c.wlo, .int .i64 c.whi, .int .i64 c.leak, .int .i64 c.owed], .agg #[.int .i64 a.plo, .int .i64 a.phi, .int .i64 a.tlo, .int .i64 a.thi]] w fun e w' => e = .returned (.tuple #[.agg #[.int .i64 (volLo c a), .int .i64 (volHi c a)], .int .i64 0]) ∧ Kept w w' := by
  obtain ⟨n0, n1, ⟨p0, p1, p2⟩, q0, q1, q2, q3⟩ := prod_bd hv ha
  obtain ⟨⟨h7, h8, h9⟩, h10⟩ := airB_iff.1 ha
  have E1 := Lib.hid (vol_lo hv ha)
  have E2 := Lib.hid (vol_hi hv ha)
  have K1 := Lib.hid (show ratioOk ⟨amount c * heatLo c a, a.phi⟩ from ⟨by simp; omega, by simp; omega, by simp; omega, by simp; omega⟩)
  have K2 := Lib.hid (show ratioOk ⟨amount c * heatHi c a, a.plo⟩ from ⟨by simp; omega, by simp; omega, by simp; omega, by simp; omega⟩)
  have HV := Lib.hid hv
  have HA := Lib.hid ha
  clear hv ha
  go_enter Try.func22, Try.ntmps22
  go_wp2_with (first | (go_at_call 80; (with_reducible refine (f_put_good c a _ HV.out HA.out).mono ?_); rintro e w1 ⟨rfl, hb1⟩; obtain ⟨hc1, hf1, hl1⟩ := bcell3 hb1) | (go_at_call 81; (with_reducible refine (f_least2 ⟨amount c * heatLo c a, a.phi⟩ ⟨amount c * heatHi c a, a.plo⟩ _ _ _ (by simp) K1.out K2.out).mono ?_); rintro e w1 ⟨rfl, hb1⟩; obtain ⟨hc1, hf1, hl1⟩ := bcell3 hb1; refine Blk.thru (b := w.heap.size + 1 + 1) (arr := ?_) (t := ?_) ?_ hb1 ?_; rotate_left 2; (focus (exact blk)); intro qq; have qqc0 := qq.cell 0; have qqf0 := qq.free 0; have qqc1 := qq.cell 1; have qqf1 := qq.free 1; have qql := qq.lt; simp at qqc0 qqc1))
  exact bodyPost_ret (v := .tuple #[.agg #[.int .i64 (leastLo [⟨amount c * heatLo c a, a.phi⟩, ⟨amount c * heatHi c a, a.plo⟩]), .int .i64 (leastHi [⟨amount c * heatLo c a, a.phi⟩, ⟨amount c * heatHi c a, a.plo⟩])], .int .i64 0]) (by simp [results, Try.results22, go_sem, qqc0, qqc1, qqf0, qqf1]) rfl ⟨by rw [E1.out, E2.out], by (exact kpt)⟩

theorem f_Fits_bad (c : Cell) (a : Air) (w : World) (hv : cellB c = false) :
    Calls Try.prog 24 #[.agg #[.int .i64 c.room, .int .i64 c.helium, .int .i64 c.air, .int .i64 c.wlo, .int .i64 c.whi, .int .i64 c.leak, .int .i64 c.owed], .agg #[.int .i64 a.plo, .int .i64 a.phi, .int .i64 a.tlo, .int .i64 a.thi]] w fun e w' => e = .returned (.tuple #[.int .u8 0, .int .i64 31]) ∧ Kept w w' := by
  go_enter Try.func24, Try.ntmps24
  go_wp2_with (go_at_call 80; (with_reducible refine (f_put_bad c a _ hv).mono ?_); rintro e w1 ⟨rfl, hb1⟩; obtain ⟨hc1, hf1, hl1⟩ := bcell3 hb1)
  first | (go_ret; exact ⟨rfl, by (exact kpt)⟩) | exact bodyPost_ret (v := .tuple #[.int .u8 0, .int .i64 31]) (by simp [results, Try.results24, go_sem, hc1, hf1, hl1]) rfl ⟨rfl, by (exact kpt)⟩

theorem f_Fits_air (c : Cell) (a : Air) (w : World) (hv : cellB c = true) (ha : airB a = false) :
    Calls Try.prog 24 #[.agg #[.int .i64 c.room, .int .i64 c.helium, .int .i64 c.air, .int .i64 c.wlo, .int .i64 c.whi, .int .i64 c.leak, .int .i64 c.owed], .agg #[.int .i64 a.plo, .int .i64 a.phi, .int .i64 a.tlo, .int .i64 a.thi]] w fun e w' => e = .returned (.tuple #[.int .u8 0, .int .i64 30]) ∧ Kept w w' := by
  go_enter Try.func24, Try.ntmps24
  go_wp2_with (go_at_call 80; (with_reducible refine (f_put_air c a _ hv ha).mono ?_); rintro e w1 ⟨rfl, hb1⟩; obtain ⟨hc1, hf1, hl1⟩ := bcell3 hb1)
  first | (go_ret; exact ⟨rfl, by (exact kpt)⟩) | exact bodyPost_ret (v := .tuple #[.int .u8 0, .int .i64 30]) (by simp [results, Try.results24, go_sem, hc1, hf1, hl1]) rfl ⟨rfl, by (exact kpt)⟩

theorem f_Fits_ok (c : Cell) (a : Air) (w : World) (hv : cellB c = true) (ha : airB a = true) :
    Calls Try.prog 24 #[.agg #[.int .i64 c.room, .int .i64 c.helium, .int .i64 c.air, .int .i64 c.wlo, .int .i64 c.whi, .int .i64 c.leak, .int .i64 c.owed], .agg #[.int .i64 a.plo, .int .i64 a.phi, .int .i64 a.tlo, .int .i64 a.thi]] w fun e w' => e = .returned (.tuple #[.int .u8 (state c a), .int .i64 0]) ∧ Kept w w' := by
  obtain ⟨n0, n1, ⟨p0, p1, p2⟩, q0, q1, q2, q3⟩ := prod_bd hv ha
  have HV := Lib.hid hv
  have HA := Lib.hid ha
  clear hv ha
  by_cases c1 : amount c * heatHi c a ≤ c.room * a.plo <;> by_cases c2 : c.room * a.phi < amount c * heatLo c a
  all_goals
    unfold state
    simp only [c1, c2, if_true, if_false]
    go_enter Try.func24, Try.ntmps24
    go_wp2_with (go_at_call 80; (with_reducible refine (f_put_good c a _ HV.out HA.out).mono ?_); rintro e w1 ⟨rfl, hb1⟩; obtain ⟨hc1, hf1, hl1⟩ := bcell3 hb1)
    exact bodyPost_ret (by simp [results, Try.results24, go_sem]) rfl ⟨rfl, by (exact kpt)⟩

end Go.Proofs.Ytemafanncejeiaa
