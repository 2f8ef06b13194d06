/-
  Facts about memory, lists and numbers that the walks use: no program in sight.
-/
import Derived.WalkKit
import Derived.WalkSpells
import Derived.WalkLawsBesides
import Derived.Lib.Hide
import Derived.ProofKit
import Derived.OpenShut
import Derived.ChangeOld
import Derived.Below
import Derived.Deep.Slices
import Derived.Deep.Fields
import Derived.Deep.Quiet
import Derived.Laws.AppendOwn
import Derived.Laws.AppendOwnNone
import Derived.Test.YtheahhmlmpameaaTopLiftedZA
import Derived.StillTail
import Derived.Test.YtheahhmlmpameaaProg
import Derived.Deep.QuietTactic
import Derived.BigQuiet
import Derived.Deep.RegionHeld3
import Derived.Deep.DeepCutAuto
import Derived.WalkSmall
import Derived.OwnWalk
/-
  Facts about memory, lists and numbers that the walks use: no program in sight.
-/
namespace Bal
open Go Go.RowKit Go.ChangeShapes Go.WideShapes

theorem ret_int {k : IntKind} {a b : Int} (h : a = b) : Ending.returned (.int k a) = .returned (.int k b) := by rw [h]
theorem ret_bool {a b : Bool} (h : a = b) : Ending.returned (.bool a) = .returned (.bool b) := by rw [h]

/-- What a call leaves alone: nothing that was there has changed. -/
abbrev Kept (w w' : World) : Prop := Below w.heap.size w w'

/-- The elements xs of a slice at address a, each of k cells, lie in blocks below B. -/
def Row {α : Type} (enc : α → List Value) (k B : Nat) (w : World) (a : Option Addr) (xs : List α) : Prop :=
  ∀ (i : Nat) (x : α), xs[i]? = some x → ∃ b off, a = some ⟨b, off, none⟩ ∧ b < B ∧ ∀ (j : Nat) (v : Value), (enc x)[j]? = some v → w.cell? ⟨b, off + i * k + j, none⟩ = some v

theorem Row.nil {α : Type} {enc : α → List Value} {k B : Nat} {w : World} {a : Option Addr} : Row enc k B w a [] := by
  intro i x h; simp at h

theorem Row.keep {α : Type} {enc : α → List Value} {k B C : Nat} {w w' : World} {a : Option Addr} {xs : List α} (h : Row enc k B w a xs) (hb : Below C w w') (hC : B ≤ C) : Row enc k B w' a xs := by
  intro i x hx
  obtain ⟨b, off, ha, hlt, hc⟩ := h i x hx
  exact ⟨b, off, ha, hlt, fun j v hj => by rw [hb.cell (p := ⟨b, off + i * k + j, none⟩) (show b < C by omega)]; exact hc j v hj⟩

theorem Row.up {α : Type} {enc : α → List Value} {k B C : Nat} {w : World} {a : Option Addr} {xs : List α} (h : Row enc k B w a xs) (hC : B ≤ C) : Row enc k C w a xs := by
  intro i x hx
  obtain ⟨b, off, ha, hlt, hc⟩ := h i x hx
  exact ⟨b, off, ha, by omega, hc⟩

/-- a row known below the heap of w, asked for in a later world w' -/
theorem Row.later {α : Type} {enc : α → List Value} {k B : Nat} {w w' : World} {a : Option Addr} {xs : List α} (h : Row enc k B w a xs) (hb : Below B w w') (hB : B ≤ w.heap.size) : Row enc k w'.heap.size w' a xs :=
  (h.keep hb (Nat.le_refl _)).up (Nat.le_trans hB hb.size)

theorem bcell {W w1 : World} (hb : Below W.heap.size W w1) : (∀ b o, b < W.heap.size → w1.cell? ⟨b, o, none⟩ = W.cell? ⟨b, o, none⟩) ∧ (∀ b o, b < W.heap.size → w1.frozen? ⟨b, o, none⟩ = W.frozen? ⟨b, o, none⟩) :=
  ⟨fun b o h => hb.cell (p := ⟨b, o, none⟩) h, fun b o h => hb.frozen (p := ⟨b, o, none⟩) h⟩

theorem Kept.size {w w' : World} (h : Kept w w') : w.heap.size ≤ w'.heap.size := Below.size h
/-- what a walk wants to know behind a contract -/
theorem bcell3 {W w1 : World} (hb : Below W.heap.size W w1) : (∀ b o, b < W.heap.size → w1.cell? ⟨b, o, none⟩ = W.cell? ⟨b, o, none⟩) ∧ (∀ b o, b < W.heap.size → w1.frozen? ⟨b, o, none⟩ = W.frozen? ⟨b, o, none⟩) ∧ ∀ n, n < W.heap.size → n < w1.heap.size :=
  ⟨fun b o h => hb.cell (p := ⟨b, o, none⟩) h, fun b o h => hb.frozen (p := ⟨b, o, none⟩) h, fun _ h => Nat.lt_of_lt_of_le h hb.size⟩

theorem Kept.drop {w w' w'' : World} (h : Below w.heap.size w w') (h' : Kept w' w'') : Kept w w'' := h.trans (h'.mono h.size)

/-- a loop over xs has passed k elements, all of them valid, and left alone what was there -/
def Upto {α : Type} (valid : α → Bool) (xs : List α) (w : World) (i : Value) (wr : World) : Prop :=
  ∃ k : Nat, k ≤ xs.length ∧ i = .int .i64 k ∧ (xs.take k).all valid = true ∧ Kept w wr

theorem Kept.alloc {w w' : World} (h : Kept w w') (o : Obj) : Kept w (w'.alloc o) := Below.alloc h h.size o

/-- a number as a cell -/
def icell (n : Int) : List Value := [.int .i64 n]
theorem int_row {B : Nat} {w : World} {a : Option Addr} {xs : List Int} (h : Row icell 1 B w a xs) (i : Nat) (hi : i < xs.length) :
    ∃ b off, a = some ⟨b, off, none⟩ ∧ b < B ∧ w.cell? ⟨b, off + i, none⟩ = some (.int .i64 xs[i]) := by
  obtain ⟨b, off, ha, hb, hc⟩ := h i xs[i] (by simp [hi])
  exact ⟨b, off, ha, hb, by simpa using hc 0 _ rfl⟩

/-! ### Slices that a call has made itself, element by element -/
theorem flatMap_len {α : Type} {enc : α → List Value} {k : Nat} (he : ∀ x, (enc x).length = k) (xs : List α) : (xs.flatMap enc).length = xs.length * k := by
  induction xs with
  | nil => simp
  | cons x xs ih => simp [List.flatMap_cons, ih, he, Nat.succ_mul, Nat.add_comm]

theorem flatMap_get {α : Type} {enc : α → List Value} {k : Nat} (he : ∀ x, (enc x).length = k) : ∀ (xs : List α) (i : Nat) (x : α), xs[i]? = some x → ∀ j, j < k → (xs.flatMap enc)[i * k + j]? = (enc x)[j]?
  | [], i, x, h, _, _ => by simp at h
  | y :: ys, 0, x, h, j, hj => by
    simp at h
    subst h
    rw [List.flatMap_cons, Nat.zero_mul, Nat.zero_add, List.getElem?_append_left (by rw [he]; exact hj)]
  | y :: ys, i + 1, x, h, j, hj => by
    rw [List.flatMap_cons, List.getElem?_append_right (by rw [he, Nat.succ_mul]; omega), he]
    have := flatMap_get he ys i x (by simpa using h) j hj
    rw [← this]
    congr 1
    rw [Nat.succ_mul]; omega

/-- What the call owns reads as a row. -/
theorem Row.of_owns {α : Type} {enc : α → List Value} {k base : Nat} {e : TypeId} {w : World} {v : Value} {xs : List α} (he : ∀ x, (enc x).length = k) (h : w.ownsRow base e k v xs.length (xs.flatMap enc)) :
    ∃ a cap, v = .slice a xs.length cap ∧ Row enc k w.heap.size w a xs ∧ xs.length ≤ cap ∧ cap ≤ maxLen := by
  obtain ⟨_, ⟨rfl, hn⟩ | ⟨g, cap, cur, rfl, hb, hh, hnc, hcm, hsz, ht⟩⟩ := h
  · have : xs = [] := List.length_eq_zero_iff.1 hn
    subst this
    exact ⟨none, 0, rfl, Row.nil, by simp, by simp [maxLen]⟩
  · refine ⟨some ⟨g, 0, none⟩, cap, rfl, ?_, hnc, hcm⟩
    intro i x hx
    refine ⟨g, 0, rfl, ?_, ?_⟩
    · rcases Nat.lt_or_ge g w.heap.size with h' | h'
      · exact h'
      · rw [Array.getElem?_eq_none h'] at hh; cases hh
    · intro j u hj
      have hjk : j < k := by rw [← he x]; exact (List.getElem?_eq_some_iff.1 hj).1
      have hix : i < xs.length := (List.getElem?_eq_some_iff.1 hx).1
      have h1 := flatMap_get he xs i x hx j hjk
      rw [← ht, List.getElem?_take] at h1
      split at h1
      · rw [hj] at h1
        simp only [World.cell?, hh, Nat.zero_add]
        simpa using h1
      · rw [hj] at h1; cases h1

theorem owns_nil {base : Nat} {e : TypeId} {k : Nat} {w : World} {α : Type} {enc : α → List Value} : w.ownsRow base e k (.slice none 0 0) ([] : List α).length (([] : List α).flatMap enc) :=
  ⟨by simp, .inl ⟨rfl, rfl⟩⟩

theorem owns_keep {base : Nat} {e : TypeId} {k n : Nat} {w w' : World} {v : Value} {xs : List Value} (h : w.ownsRow base e k v n xs) (hb : Below w.heap.size w w') : w'.ownsRow base e k v n xs := by
  obtain ⟨h1, h2 | ⟨g, cap, cur, hv, hg, hh, r⟩⟩ := h
  · exact ⟨h1, .inl h2⟩
  · refine ⟨h1, .inr ⟨g, cap, cur, hv, hg, ?_, r⟩⟩
    rw [hb.block g ?_]
    · exact hh
    · rcases Nat.lt_or_ge g w.heap.size with h' | h'
      · exact h'
      · rw [Array.getElem?_eq_none h'] at hh; cases hh

theorem owns_base {base base' : Nat} {e : TypeId} {k n : Nat} {w : World} {v : Value} {xs : List Value} (h : w.ownsRow base e k v n xs) (hb : base' ≤ base) : w.ownsRow base' e k v n xs := by
  obtain ⟨h1, h2 | ⟨g, cap, cur, hv, hg, hh, r⟩⟩ := h
  · exact ⟨h1, .inl h2⟩
  · exact ⟨h1, .inr ⟨g, cap, cur, hv, Nat.le_trans hb hg, hh, r⟩⟩

theorem flatMap_at {α : Type} {enc : α → List Value} {k : Nat} (hk : 0 < k) (he : ∀ x, (enc x).length = k) (xs : List α) (j : Nat) (u : Value) (h : (xs.flatMap enc)[j]? = some u) :
    ∃ x, xs[j / k]? = some x ∧ (enc x)[j % k]? = some u := by
  have hj : j < xs.length * k := by rw [← flatMap_len he xs]; exact (List.getElem?_eq_some_iff.1 h).1
  have hi : j / k < xs.length := Nat.div_lt_of_lt_mul (by rw [Nat.mul_comm]; exact hj)
  refine ⟨xs[j / k], by simp [hi], ?_⟩
  rw [← flatMap_get he xs (j / k) xs[j / k] (by simp [hi]) (j % k) (Nat.mod_lt _ hk), ← h]
  congr 1
  have := Nat.div_add_mod j k
  rw [Nat.mul_comm] at this
  omega

theorem Row.news {α : Type} {enc : α → List Value} {k B : Nat} {w : World} {ad : Addr} {ys : List α} (hk : 0 < k) (he : ∀ x, (enc x).length = k) (h : Row enc k B w (some ad) ys) :
    ∀ j u, (ys.flatMap enc)[j]? = some u → w.cell? (ad.add j) = some u := by
  intro j u hj
  obtain ⟨x, hx, hu⟩ := flatMap_at hk he ys j u hj
  obtain ⟨b, off, ha, _, hc⟩ := h _ x hx
  simp only [Option.some.injEq] at ha
  subst ha
  have h1 := hc _ u hu
  have e : (⟨b, off, none⟩ : Addr).add j = ⟨b, off + j / k * k + j % k, none⟩ := by
    have h2 : off + j / k * k + j % k = off + j := by
      have := Nat.div_add_mod j k
      rw [Nat.mul_comm] at this
      omega
    unfold Addr.add
    split
    · rename_i h0; rw [h2, h0]; rfl
    · rw [h2]
  rw [e]
  exact h1

/-- APPENDING A LIST to a slice that the call owns, wherever the list lies (nil too). -/
theorem wpList_append_list {α : Type} {enc : α → List Value} {P : Program} {w : World} {ops : Array Oper} {rest : List Oper} {o : Oper} {a : Act} {Q : Exit → Act → World → Prop} (hgd : o.guard = none) (s x : Operand) (t : TypeId)
    (ho : o.op = .call { callee := .builtin .append, args := #[s, x], argTypes := #[t, t] })
    (base : Nat) (e : TypeId) (i : TypeInfo) (z : Value) (size bytes : Nat) (ht : P.underlying t = some (.slice e)) (hi : P.info? e = some i) (hz : i.zero = some z)
    (hsize : i.size = size) (hby : i.bytes = bytes) (hzs : z.cells.size = size) (hsz : 0 < size) (he : ∀ x : α, (enc x).length = size) (h1 : ∀ (x : α), ∀ u ∈ enc x, u.oneCell' = true)
    (v : Value) (xs : List α) (hs : a.eval s = v) (hown : w.ownsRow base e size v xs.length (xs.flatMap enc))
    (ad : Option Addr) (c : Nat) (ys : List α) (hx : a.eval x = .slice ad ys.length c) (hc : ad = none → c = 0) {B : Nat} (hrow : Row enc size B w ad ys)
    (h63 : xs.length + ys.length ≤ maxLen) (hbytes : (xs.length + ys.length) * bytes ≤ 140737488355328) (hbase : base ≤ w.heap.size)
    (h : ∀ v' w', w'.ownsRow base e size v' (xs ++ ys).length ((xs ++ ys).flatMap enc) → w.grownBy w' v.ownBlock → wpList P ops Q rest (a.put o.dst v') w') : wpList P ops Q (o :: rest) a w := by
  cases ad with
  | none =>
    have hys : ys = [] := by
      cases ys with
      | nil => rfl
      | cons y ys => obtain ⟨b, off, ha, _⟩ := hrow 0 y rfl; cases ha
    subst hys
    have := hc rfl
    subst this
    exact wpList_append_own_none hgd s x t ho base e i size ht hi v xs.length _ hs hown hx (h v w (by simpa using hown) ⟨rfl, rfl, rfl, Nat.le_refl _, fun _ _ _ => rfl⟩)
  | some ad =>
    refine wpList_append_own w hgd s x t ho base e i z size bytes ht hi hz hsize hby hzs hsz v xs.length _ hs hown ad ys.length c (ys.flatMap enc) hx (flatMap_len he ys) (hrow.news hsz he) ?_ h63 hbytes hbase ?_
    · intro u hu
      obtain ⟨y, _, hy⟩ := List.mem_flatMap.1 hu
      exact h1 y u hy
    · intro v' w' ho' hg _
      exact h v' w' (by simpa [List.length_append] using ho') hg

/-! ### A block of the call's own, known whole -/
def Blk (w : World) (b : Nat) (arr : Array Value) (t : TypeId) : Prop := w.heap[b]? = some (.cells arr t (0, 0))
theorem Blk.lt {w : World} {b : Nat} {arr : Array Value} {t : TypeId} (h : Blk w b arr t) : b < w.heap.size := by
  rcases Nat.lt_or_ge b w.heap.size with h' | h'
  · exact h'
  · unfold Blk at h; rw [Array.getElem?_eq_none h'] at h; cases h
theorem Blk.cell {w : World} {b : Nat} {arr : Array Value} {t : TypeId} (h : Blk w b arr t) (i : Nat) : w.cell? ⟨b, i, none⟩ = arr[i]? := by
  unfold Blk at h
  simp [World.cell?, h]
theorem Blk.free {w : World} {b : Nat} {arr : Array Value} {t : TypeId} (h : Blk w b arr t) (i : Nat) : w.frozen? ⟨b, i, none⟩ = false := by
  unfold Blk at h
  simp [World.frozen?, h]
theorem Blk.keep {w w' : World} {b : Nat} {arr : Array Value} {t : TypeId} (h : Blk w b arr t) (hb : Kept w w') : Blk w' b arr t := by
  unfold Blk
  rw [hb.block b h.lt]
  exact h
theorem Blk.alloc {w : World} {b : Nat} {arr : Array Value} {t : TypeId} (h : Blk w b arr t) (o : Obj) : Blk (w.alloc o) b arr t :=
  h.keep ((Below.refl _ _).alloc (Nat.le_refl _) o)
theorem Blk.drew {w : World} {b : Nat} {arr : Array Value} {t : TypeId} (h : Blk w b arr t) : Blk w.drew b arr t := h
theorem Blk.new {w : World} {arr : Array Value} {t : TypeId} : Blk (w.alloc (.cells arr t)) w.heap.size arr t := by
  show (w.heap.push _)[w.heap.size]? = _
  simp
theorem Blk.set {w : World} {b : Nat} {arr : Array Value} {t : TypeId} (h : Blk w b arr t) (i : Nat) (v : Value) : Blk (w.setCell ⟨b, i, none⟩ v) b (arr.setIfInBounds i v) t := by
  unfold Blk at *
  simp [World.setCell, Array.getElem?_modify, h]
theorem Blk.other {w : World} {b : Nat} {arr : Array Value} {t : TypeId} (h : Blk w b arr t) {a : Addr} (hne : a.block ≠ b) (v : Value) : Blk (w.setCell a v) b arr t := by
  unfold Blk at *
  rw [Below.heap_setCell _ _ _ _ (Ne.symm hne)]
  exact h

/-- a new block of elements reads as a row -/
theorem Row.fresh {α : Type} {enc : α → List Value} {k : Nat} {w : World} {arr : Array Value} {e : TypeId} {xs : List α} (he : ∀ x, (enc x).length = k) (h : arr.toList = xs.flatMap enc) :
    Row enc k (w.alloc (.cells arr e)).heap.size (w.alloc (.cells arr e)) (some ⟨w.heap.size, 0, none⟩) xs := by
  intro i x hx
  refine ⟨w.heap.size, 0, rfl, by simp, fun j v hj => ?_⟩
  have hjk : j < k := by rw [← he x]; exact (List.getElem?_eq_some_iff.1 hj).1
  rw [(Blk.new (w := w) (arr := arr) (t := e)).cell, Nat.zero_add, ← Array.getElem?_toList, h, flatMap_get he xs i x hx j hjk]
  exact hj

/-! ### Cells that are numbers or bools, whatever structs they lie in -/
inductive Leaf where
  | int (k : IntKind)
  | bool
  deriving DecidableEq

def LeafOk : Leaf → Value → Prop
  | .int k, v => ∃ n, v = .int k n ∧ (Lit.int k n).wf = true
  | .bool, v => ∃ b, v = .bool b

/-- the leaves of a row of fields, each by f, the first of them at off -/
def leavesL (P : Program) (g : TypeId → Option (List Leaf)) : Nat → List Field → Option (List Leaf)
  | _, [] => some []
  | off, f :: fs => if f.offset = off then (g f.type).bind fun m => if m.length = P.cellsOf f.type then (leavesL P g (off + m.length) fs).map (m ++ ·) else none else none

/-- the leaves of a type that is made of integers, bools and structs alone -/
def leaves (P : Program) : Nat → TypeId → Option (List Leaf)
  | 0, _ => none
  | n + 1, t => match P.underlying t with
    | some (.int k) => some [.int k]
    | some .bool => some [.bool]
    | some (.struct fs) => (leavesL P (leaves P n) 0 fs.toList).bind fun l => if l.length = P.cellsOf t then some l else none
    | _ => none

/-- cells that are leaves -/
def LeavesOk (ls : List Leaf) (cs : List Value) : Prop := cs.length = ls.length ∧ ∀ (j : Nat) (f : Leaf), ls[j]? = some f → ∃ v, cs[j]? = some v ∧ LeafOk f v

theorem leavesL_ok {P : Program} {g : TypeId → Option (List Leaf)} {cs : List Value} : ∀ (fs : List Field) (off : Nat) (ls : List Leaf),
    leavesL P g off fs = some ls → (∀ f ∈ fs, ∀ m, g f.type = some m → LeavesOk m ((cs.drop f.offset).take (P.cellsOf f.type))) →
    ∀ (j : Nat) (f : Leaf), ls[j]? = some f → ∃ v, cs[off + j]? = some v ∧ LeafOk f v
  | [], off, ls, h, _, j, f, hj => by simp [leavesL] at h; subst h; simp at hj
  | f :: fs, off, ls, h, hf, j, lf, hj => by
    simp only [leavesL] at h
    split at h
    · rename_i ho
      obtain ⟨m, hm, h⟩ := Option.bind_eq_some_iff.1 h
      split at h
      · rename_i hml
        obtain ⟨rest, hr, rfl⟩ := Option.map_eq_some_iff.1 h
        by_cases hjm : j < m.length
        · rw [List.getElem?_append_left hjm] at hj
          obtain ⟨_, h2⟩ := hf f (by simp) m hm
          obtain ⟨v, hv, hok⟩ := h2 j lf hj
          refine ⟨v, ?_, hok⟩
          rw [List.getElem?_take, List.getElem?_drop] at hv
          split at hv
          · rw [← ho]; exact hv
          · simp at hv
        · rw [List.getElem?_append_right (by omega)] at hj
          obtain ⟨v, hv, hok⟩ := leavesL_ok fs (off + m.length) rest hr (fun f' hf' => hf f' (by simp [hf'])) (j - m.length) lf hj
          exact ⟨v, by rw [← hv]; congr 1; omega, hok⟩
      · simp at h
    · simp at h

section
variable {H : Type} {enc : TypeId × Value → H} {P : Program} {w : World} {base : Nat} {spare : Nat → Bool} {held : Bool}

theorem leaves_ok (n : Nat) : ∀ (t : TypeId) (ls : List Leaf) (fuel : Nat) (cs : List Value) (x : DataW H × List MemPlace), leaves P n t = some ls → DataW.trod enc P w base spare held fuel t cs = some x → LeavesOk ls cs := by
  induction n with
  | zero => intro t ls fuel cs x h; simp [leaves] at h
  | succ n ih =>
    intro t ls fuel cs x h hx
    unfold leaves at h
    split at h
    · rename_i k hk
      simp only [Option.some.injEq] at h
      subst h
      obtain ⟨q, rfl, _, hw⟩ := DataW.trod_int hk hx
      refine ⟨rfl, fun j f hj => ?_⟩
      cases j with
      | zero => simp at hj; subst hj; exact ⟨_, rfl, q, rfl, hw⟩
      | succ j => simp at hj
    · rename_i hk
      simp only [Option.some.injEq] at h
      subst h
      obtain ⟨q, rfl, _⟩ := DataW.trod_bool hk hx
      refine ⟨rfl, fun j f hj => ?_⟩
      cases j with
      | zero => simp at hj; subst hj; exact ⟨_, rfl, q, rfl⟩
      | succ j => simp at hj
    · rename_i fs hk
      obtain ⟨l, hl, h⟩ := Option.bind_eq_some_iff.1 h
      split at h
      · rename_i hlen
        simp only [Option.some.injEq] at h
        subst h
        obtain ⟨xs, m, _, _, hcl, hxl, hg⟩ := DataW.trod_struct hk hx
        refine ⟨by rw [hcl, hlen], fun j f hj => ?_⟩
        have := leavesL_ok (cs := cs) fs.toList 0 l hl (fun f' hf' q hq => by
          obtain ⟨i, hi, rfl⟩ := List.mem_iff_getElem.1 hf'
          have hi' : i < fs.size := by simpa using hi
          have h1 := hg i fs[i] (by simp [hi'])
          have hx1 : xs[i]? = some (xs[i]'(by omega)) := List.getElem?_eq_getElem (by omega)
          rw [hx1] at h1
          simpa using ih _ _ _ _ _ hq h1) j f hj
        simpa using this
      · simp at h
    · simp at h

/-- A SLICE OF SUCH ELEMENTS, OPENED: its elements' cells. -/
theorem open_leaves {t e : TypeId} {n : Nat} {ls : List Leaf} {fuel : Nat} {cs : List Value} {x : DataW H × List MemPlace} (ht : P.underlying t = some (.slice e)) (hls : leaves P n e = some ls) (hk : P.cellsOf e = ls.length) (hne : 0 < ls.length)
    (h : DataW.trod enc P w base spare held fuel t cs = some x) :
    ∃ (a : Option Addr) (cap : Nat) (xs : List (List Value)), cs = [.slice a xs.length cap] ∧ xs.length ≤ cap ∧ cap ≤ maxLen ∧ Row id ls.length w.heap.size w a xs ∧ (∀ x ∈ xs, LeavesOk ls x) ∧ (a = none → cap = 0) := by
  rcases Go.Deep.open_slice ht h with ⟨rfl, _⟩ | ⟨a, len, cap, m, q, D, Pl, rfl, hb, hl, hm, hmm, _, hi⟩
  · exact ⟨none, 0, [], rfl, by simp, by simp [maxLen], Row.nil, by simp, fun _ => rfl⟩
  · have hlm : len ≤ m := by subst hmm; split <;> omega
    obtain ⟨f, hf⟩ := Go.Deep.choose_lt (n := len) (p := fun i cs' => w.cells? base (a.add (i * P.cellsOf e)) (P.cellsOf e) = some cs' ∧ DataW.trod enc P w base spare held q e cs' = some (D i, Pl i)) (fun i hil => hi i (by omega))
    refine ⟨some a, cap, (List.range len).map f, by simp, by simpa using hl, hm, ?_, ?_, by simp⟩
    · intro i y hy
      have hil : i < len := by
        have := (List.getElem?_eq_some_iff.1 hy).1
        simpa using this
      simp [hil] at hy
      subst hy
      have hsp : a.spot = none := by
        obtain ⟨hc, ht'⟩ := hf 0 (by omega)
        obtain ⟨_, hcl, hat⟩ := World.cells?_some hc
        have h1 := hat 0 (by omega)
        have hv : (f 0)[0]? = some ((f 0)[0]'(by omega)) := List.getElem?_eq_getElem (by omega)
        rw [hv] at h1
        have := World.cell?_spot h1
        simpa [Addr.add] using this
      obtain ⟨ab, ao, asp⟩ := a
      simp at hsp
      subst hsp
      obtain ⟨hc, ht'⟩ := hf i hil
      obtain ⟨_, hcl, hat⟩ := World.cells?_some hc
      have hat' : ∀ j, j < ls.length → w.cell? ⟨ab, ao + i * ls.length + j, none⟩ = (f i)[j]? := by
        intro j hj
        have h1 := hat j (by omega)
        rw [Go.Deep.add_add, hk] at h1
        rw [← h1]
        congr 1
        unfold Addr.add
        split
        · rename_i h0
          have h3 : ao + i * ls.length + j = ao := by omega
          rw [h3]
        · simp [Nat.add_assoc]
      refine ⟨ab, ao, rfl, ?_, fun j v hj => ?_⟩
      · have h0 := hat' 0 hne
        have hv : (f i)[0]? = some ((f i)[0]'(by omega)) := List.getElem?_eq_getElem (by omega)
        rw [hv] at h0
        rcases Nat.lt_or_ge ab w.heap.size with h' | h'
        · exact h'
        · simp [World.cell?, Array.getElem?_eq_none h'] at h0
      · have hjl : j < (f i).length := (List.getElem?_eq_some_iff.1 hj).1
        rw [hat' j (by omega)]
        exact hj
    · intro y hy
      simp at hy
      obtain ⟨i, hil, rfl⟩ := hy
      obtain ⟨hc, ht'⟩ := hf i hil
      exact leaves_ok n _ _ _ _ _ hls ht'

theorem Row.of_map {α : Type} {enc : α → List Value} {k B : Nat} {w : World} {a : Option Addr} {ys : List α} (h : Row id k B w a (ys.map enc)) : Row enc k B w a ys := by
  intro i x hx
  exact h i (enc x) (by simp [hx])

theorem decode {α : Type} {enc : α → List Value} {wf : α → Prop} {ls : List Leaf} (hdec : ∀ cs, LeavesOk ls cs → ∃ x : α, cs = enc x ∧ wf x) : ∀ (xs : List (List Value)), (∀ x ∈ xs, LeavesOk ls x) →
    ∃ ys : List α, xs = ys.map enc ∧ ∀ y ∈ ys, wf y
  | [], _ => ⟨[], rfl, by simp⟩
  | c :: cs, h => by
    obtain ⟨y, rfl, hy⟩ := hdec c (h c (by simp))
    obtain ⟨ys, rfl, hys⟩ := decode hdec cs (fun x hx => h x (by simp [hx]))
    exact ⟨y :: ys, rfl, by simpa using ⟨hy, hys⟩⟩

/-- A slice that came in, opened to a list of plain things. -/
theorem open_typed {α : Type} {enc' : α → List Value} {wf : α → Prop} {ls : List Leaf} (hdec : ∀ cs, LeavesOk ls cs → ∃ x : α, cs = enc' x ∧ wf x) {t e : TypeId} {n : Nat} {fuel : Nat} {cs : List Value} {x : DataW H × List MemPlace}
    (ht : P.underlying t = some (.slice e)) (hls : leaves P n e = some ls) (hk : P.cellsOf e = ls.length) (hne : 0 < ls.length) (h : DataW.trod enc P w base spare held fuel t cs = some x) :
    ∃ (a : Option Addr) (cap : Nat) (ys : List α), cs = [.slice a ys.length cap] ∧ ys.length ≤ cap ∧ cap ≤ maxLen ∧ Row enc' ls.length w.heap.size w a ys ∧ (∀ y ∈ ys, wf y) ∧ (a = none → cap = 0) := by
  obtain ⟨a, cap, xs, rfl, h1, h2, h3, h4, h5⟩ := open_leaves ht hls hk hne h
  obtain ⟨ys, rfl, hys⟩ := decode hdec xs h4
  exact ⟨a, cap, ys, by simp, by simpa using h1, h2, h3.of_map, hys, h5⟩
end

/-! ### Regions that draw their order and only read or call: one walk of the text's order -/
/-- a world in which all that was there is as it was -/
structure Later (w : World) where
  val : World
  ok : Below w.heap.size w val
instance {w : World} : Nonempty (Later w) := ⟨⟨w, Below.refl _ _⟩⟩

theorem Later.cell {w : World} (g : Later w) {b o : Nat} (h : b < w.heap.size) : g.val.cell? ⟨b, o, none⟩ = w.cell? ⟨b, o, none⟩ := g.ok.cell (p := ⟨b, o, none⟩) h
theorem Later.some {w : World} (g : Later w) {b o : Nat} {v : Value} (h : w.cell? ⟨b, o, none⟩ = some v) : g.val.cell? ⟨b, o, none⟩ = some v := by
  rw [g.cell, h]
  rcases Nat.lt_or_ge b w.heap.size with h' | h'
  · exact h'
  · simp [World.cell?, Array.getElem?_eq_none h'] at h

theorem Later.region {P : Program} {id : Nat} {Q : Exit → Act → World → Prop} {a : Act} {w : World} {l : List Oper} (hm : P.follows .mixedOrders = true) (hB : Region.lexB .any l.toArray = true)
    (h : wpQuiet P l.toArray (fun w' => ∃ g : Later w, w' = g.val) (fun a' => ∀ g : Later w, Q .normal a' g.val) l a) : (Code.region id l.toArray true).wp P Q a w :=
  wp_region_quiet (C := fun w' => ∃ g : Later w, w' = g.val) hm hB ⟨⟨w.drew, (Below.refl _ _).drew⟩, rfl⟩ (by
    have e : (fun a' => ∀ w', (∃ g : Later w, w' = g.val) → Q .normal a' w') = (fun a' => ∀ g : Later w, Q .normal a' g.val) := by
      funext a'
      exact propext ⟨fun h g => h _ ⟨g, rfl⟩, fun h _ ⟨g, hg⟩ => hg ▸ h g⟩
    rw [e]
    simpa using h)

/-- a contract, met in such a region -/
theorem Later.call {P : Program} {f : FuncId} {args : Array Value} {w : World} {g : Later w} {v : Value}
    (h : Calls P f args g.val fun e w' => e = .returned v ∧ Kept g.val w') : Calls P f args g.val fun e w'' => e = .returned v ∧ ∃ g' : Later w, w'' = g'.val :=
  h.mono fun _ w'' ⟨he, hk⟩ => ⟨he, ⟨w'', Kept.drop g.ok hk⟩, rfl⟩
theorem Later.call_same {P : Program} {f : FuncId} {args : Array Value} {w : World} {g : Later w} {v : Value}
    (h : Calls P f args g.val fun e w' => e = .returned v ∧ g.val = w') : Calls P f args g.val fun e w'' => e = .returned v ∧ ∃ g' : Later w, w'' = g'.val :=
  h.mono fun _ _ ⟨he, hk⟩ => ⟨he, g, hk.symm⟩

end Bal

/-
  Structs as cells of memory. No program in sight.
-/
namespace Bal.Gas
open Go Go.RowKit Bal

def Cell.cells (x : Cell) : List Value := [.int .i64 x.room, .int .i64 x.helium, .int .i64 x.air, .int .i64 x.wlo, .int .i64 x.whi, .int .i64 x.leak, .int .i64 x.owed]
theorem Cell.row {B : Nat} {w : World} {a : Option Addr} {xs : List Cell} (h : Row Cell.cells 7 B w a xs) (i : Nat) (hi : i < xs.length) :
    ∃ b off, a = some ⟨b, off, none⟩ ∧ b < B ∧ w.cell? ⟨b, off + i * 7, none⟩ = some (.int .i64 xs[i].room) ∧ w.cell? ⟨b, off + i * 7 + 1, none⟩ = some (.int .i64 xs[i].helium) ∧ w.cell? ⟨b, off + i * 7 + 2, none⟩ = some (.int .i64 xs[i].air) ∧ w.cell? ⟨b, off + i * 7 + 3, none⟩ = some (.int .i64 xs[i].wlo) ∧ w.cell? ⟨b, off + i * 7 + 4, none⟩ = some (.int .i64 xs[i].whi) ∧ w.cell? ⟨b, off + i * 7 + 5, none⟩ = some (.int .i64 xs[i].leak) ∧ w.cell? ⟨b, off + i * 7 + 6, none⟩ = some (.int .i64 xs[i].owed) := by
  obtain ⟨b, off, ha, hb, hc⟩ := h i xs[i] (by simp [hi])
  exact ⟨b, off, ha, hb, hc 0 _ rfl, hc 1 _ rfl, hc 2 _ rfl, hc 3 _ rfl, hc 4 _ rfl, hc 5 _ rfl, hc 6 _ rfl⟩
theorem Cell.of_leaves {cs : List Value} (h : LeavesOk [.int .i64, .int .i64, .int .i64, .int .i64, .int .i64, .int .i64, .int .i64] cs) : ∃ x : Cell, cs = x.cells ∧ (Lit.int .i64 x.room).wf = true ∧ (Lit.int .i64 x.helium).wf = true ∧ (Lit.int .i64 x.air).wf = true ∧ (Lit.int .i64 x.wlo).wf = true ∧ (Lit.int .i64 x.whi).wf = true ∧ (Lit.int .i64 x.leak).wf = true ∧ (Lit.int .i64 x.owed).wf = true := by
  obtain ⟨hl, h⟩ := h
  match cs, hl with
  | [v0, v1, v2, v3, v4, v5, v6], _ =>
    obtain ⟨_, e0, n0, rfl, w0⟩ := h 0 (.int .i64) rfl; simp at e0; subst e0
    obtain ⟨_, e1, n1, rfl, w1⟩ := h 1 (.int .i64) rfl; simp at e1; subst e1
    obtain ⟨_, e2, n2, rfl, w2⟩ := h 2 (.int .i64) rfl; simp at e2; subst e2
    obtain ⟨_, e3, n3, rfl, w3⟩ := h 3 (.int .i64) rfl; simp at e3; subst e3
    obtain ⟨_, e4, n4, rfl, w4⟩ := h 4 (.int .i64) rfl; simp at e4; subst e4
    obtain ⟨_, e5, n5, rfl, w5⟩ := h 5 (.int .i64) rfl; simp at e5; subst e5
    obtain ⟨_, e6, n6, rfl, w6⟩ := h 6 (.int .i64) rfl; simp at e6; subst e6
    exact ⟨⟨n0, n1, n2, n3, n4, n5, n6⟩, rfl, w0, w1, w2, w3, w4, w5, w6⟩

def Air.cells (x : Air) : List Value := [.int .i64 x.plo, .int .i64 x.phi, .int .i64 x.tlo, .int .i64 x.thi]
theorem Air.row {B : Nat} {w : World} {a : Option Addr} {xs : List Air} (h : Row Air.cells 4 B w a xs) (i : Nat) (hi : i < xs.length) :
    ∃ b off, a = some ⟨b, off, none⟩ ∧ b < B ∧ w.cell? ⟨b, off + i * 4, none⟩ = some (.int .i64 xs[i].plo) ∧ w.cell? ⟨b, off + i * 4 + 1, none⟩ = some (.int .i64 xs[i].phi) ∧ w.cell? ⟨b, off + i * 4 + 2, none⟩ = some (.int .i64 xs[i].tlo) ∧ w.cell? ⟨b, off + i * 4 + 3, none⟩ = some (.int .i64 xs[i].thi) := by
  obtain ⟨b, off, ha, hb, hc⟩ := h i xs[i] (by simp [hi])
  exact ⟨b, off, ha, hb, hc 0 _ rfl, hc 1 _ rfl, hc 2 _ rfl, hc 3 _ rfl⟩
theorem Air.of_leaves {cs : List Value} (h : LeavesOk [.int .i64, .int .i64, .int .i64, .int .i64] cs) : ∃ x : Air, cs = x.cells ∧ (Lit.int .i64 x.plo).wf = true ∧ (Lit.int .i64 x.phi).wf = true ∧ (Lit.int .i64 x.tlo).wf = true ∧ (Lit.int .i64 x.thi).wf = true := by
  obtain ⟨hl, h⟩ := h
  match cs, hl with
  | [v0, v1, v2, v3], _ =>
    obtain ⟨_, e0, n0, rfl, w0⟩ := h 0 (.int .i64) rfl; simp at e0; subst e0
    obtain ⟨_, e1, n1, rfl, w1⟩ := h 1 (.int .i64) rfl; simp at e1; subst e1
    obtain ⟨_, e2, n2, rfl, w2⟩ := h 2 (.int .i64) rfl; simp at e2; subst e2
    obtain ⟨_, e3, n3, rfl, w3⟩ := h 3 (.int .i64) rfl; simp at e3; subst e3
    exact ⟨⟨n0, n1, n2, n3⟩, rfl, w0, w1, w2, w3⟩

def Hull.cells (x : Hull) : List Value := [.int .i64 x.room, .int .i64 x.gas, .int .i64 x.ballonet, .int .i64 x.bag, .int .i64 x.wlo, .int .i64 x.whi, .int .i64 x.least, .int .i64 x.most]
theorem Hull.row {B : Nat} {w : World} {a : Option Addr} {xs : List Hull} (h : Row Hull.cells 8 B w a xs) (i : Nat) (hi : i < xs.length) :
    ∃ b off, a = some ⟨b, off, none⟩ ∧ b < B ∧ w.cell? ⟨b, off + i * 8, none⟩ = some (.int .i64 xs[i].room) ∧ w.cell? ⟨b, off + i * 8 + 1, none⟩ = some (.int .i64 xs[i].gas) ∧ w.cell? ⟨b, off + i * 8 + 2, none⟩ = some (.int .i64 xs[i].ballonet) ∧ w.cell? ⟨b, off + i * 8 + 3, none⟩ = some (.int .i64 xs[i].bag) ∧ w.cell? ⟨b, off + i * 8 + 4, none⟩ = some (.int .i64 xs[i].wlo) ∧ w.cell? ⟨b, off + i * 8 + 5, none⟩ = some (.int .i64 xs[i].whi) ∧ w.cell? ⟨b, off + i * 8 + 6, none⟩ = some (.int .i64 xs[i].least) ∧ w.cell? ⟨b, off + i * 8 + 7, none⟩ = some (.int .i64 xs[i].most) := by
  obtain ⟨b, off, ha, hb, hc⟩ := h i xs[i] (by simp [hi])
  exact ⟨b, off, ha, hb, hc 0 _ rfl, hc 1 _ rfl, hc 2 _ rfl, hc 3 _ rfl, hc 4 _ rfl, hc 5 _ rfl, hc 6 _ rfl, hc 7 _ rfl⟩
theorem Hull.of_leaves {cs : List Value} (h : LeavesOk [.int .i64, .int .i64, .int .i64, .int .i64, .int .i64, .int .i64, .int .i64, .int .i64] cs) : ∃ x : Hull, cs = x.cells ∧ (Lit.int .i64 x.room).wf = true ∧ (Lit.int .i64 x.gas).wf = true ∧ (Lit.int .i64 x.ballonet).wf = true ∧ (Lit.int .i64 x.bag).wf = true ∧ (Lit.int .i64 x.wlo).wf = true ∧ (Lit.int .i64 x.whi).wf = true ∧ (Lit.int .i64 x.least).wf = true ∧ (Lit.int .i64 x.most).wf = true := by
  obtain ⟨hl, h⟩ := h
  match cs, hl with
  | [v0, v1, v2, v3, v4, v5, v6, v7], _ =>
    obtain ⟨_, e0, n0, rfl, w0⟩ := h 0 (.int .i64) rfl; simp at e0; subst e0
    obtain ⟨_, e1, n1, rfl, w1⟩ := h 1 (.int .i64) rfl; simp at e1; subst e1
    obtain ⟨_, e2, n2, rfl, w2⟩ := h 2 (.int .i64) rfl; simp at e2; subst e2
    obtain ⟨_, e3, n3, rfl, w3⟩ := h 3 (.int .i64) rfl; simp at e3; subst e3
    obtain ⟨_, e4, n4, rfl, w4⟩ := h 4 (.int .i64) rfl; simp at e4; subst e4
    obtain ⟨_, e5, n5, rfl, w5⟩ := h 5 (.int .i64) rfl; simp at e5; subst e5
    obtain ⟨_, e6, n6, rfl, w6⟩ := h 6 (.int .i64) rfl; simp at e6; subst e6
    obtain ⟨_, e7, n7, rfl, w7⟩ := h 7 (.int .i64) rfl; simp at e7; subst e7
    exact ⟨⟨n0, n1, n2, n3, n4, n5, n6, n7⟩, rfl, w0, w1, w2, w3, w4, w5, w6, w7⟩

def Ratio.cells (x : Ratio) : List Value := [.int .i64 x.num, .int .i64 x.den]
theorem Ratio.row {B : Nat} {w : World} {a : Option Addr} {xs : List Ratio} (h : Row Ratio.cells 2 B w a xs) (i : Nat) (hi : i < xs.length) :
    ∃ b off, a = some ⟨b, off, none⟩ ∧ b < B ∧ w.cell? ⟨b, off + i * 2, none⟩ = some (.int .i64 xs[i].num) ∧ w.cell? ⟨b, off + i * 2 + 1, none⟩ = some (.int .i64 xs[i].den) := by
  obtain ⟨b, off, ha, hb, hc⟩ := h i xs[i] (by simp [hi])
  exact ⟨b, off, ha, hb, hc 0 _ rfl, hc 1 _ rfl⟩
theorem Ratio.of_leaves {cs : List Value} (h : LeavesOk [.int .i64, .int .i64] cs) : ∃ x : Ratio, cs = x.cells ∧ (Lit.int .i64 x.num).wf = true ∧ (Lit.int .i64 x.den).wf = true := by
  obtain ⟨hl, h⟩ := h
  match cs, hl with
  | [v0, v1], _ =>
    obtain ⟨_, e0, n0, rfl, w0⟩ := h 0 (.int .i64) rfl; simp at e0; subst e0
    obtain ⟨_, e1, n1, rfl, w1⟩ := h 1 (.int .i64) rfl; simp at e1; subst e1
    exact ⟨⟨n0, n1⟩, rfl, w0, w1⟩

end Bal.Gas

/-
  Regions that draw their order: first operations that only read or call (calls may make memory), then operations in one forced order (stores): one walk in the text's order. No program in sight.
-/
namespace Bal
open Go Go.RowKit

theorem Blk.new' {w : World} {n : Nat} {arr : Array Value} {t : TypeId} (h : n = w.heap.size) : Blk (w.alloc (.cells arr t)) n arr t := h ▸ Blk.new
/-- the world of a walk, by what is known of it alone -/
theorem at_world {P : Program} {c : Code} {Q : Exit → Act → World → Prop} {a : Act} {S : World → Prop} {W : World} (h : S W) (k : ∀ W, S W → c.wp P Q a W) : c.wp P Q a W := k W h
theorem Blk.later {w : World} {b : Nat} {arr : Array Value} {t : TypeId} (h : Blk w b arr t) (g : Later w) : Blk g.val b arr t := h.keep g.ok
theorem Blk.cast {w : World} {b : Nat} {arr arr' : Array Value} {t : TypeId} (h : Blk w b arr t) (e : arr = arr') : Blk w b arr' t := e ▸ h
/-- a block of the call's own, behind a contract -/
theorem Blk.thru {w w' : World} {b : Nat} {arr : Array Value} {t : TypeId} {G : Prop} (h : Blk w b arr t) (hb : Kept w w') (k : Blk w' b arr t → G) : G := k (h.keep hb)

/-! ### Facts on worlds and blocks, each by one tactic that is laid here once -/
theorem kpt0 {w w' : World} (h : Kept w w' := by (repeat (first | with_reducible exact Below.refl _ _ | with_reducible assumption | with_reducible refine Kept.drop ?_ (by with_reducible assumption) | with_reducible refine Kept.alloc ?_ _ | with_reducible refine Below.drew ?_))) : Kept w w' := h
theorem kpt {w w' : World} (h : Kept w w' := by (repeat (first | with_reducible exact Below.refl _ _ | with_reducible assumption | with_reducible refine Kept.drop ?_ (by with_reducible assumption) | with_reducible refine Kept.alloc ?_ _ | ((with_reducible refine Below.setCell ?_ ?_ _); rotate_left 1; (focus (first | exact Nat.le_refl _ | (simp; done) | (simp; omega) | exact Below.size (by with_reducible assumption) | (refine Kept.size ?_; (repeat (first | with_reducible exact Below.refl _ _ | with_reducible assumption | with_reducible refine Kept.drop ?_ (by with_reducible assumption) | with_reducible refine Kept.alloc ?_ _ | with_reducible refine Below.drew ?_)))))) | with_reducible refine Below.drew ?_))) : Kept w w' := h
theorem blk0 {w : World} {b : Nat} {arr : Array Value} {t : TypeId} (h : Blk w b arr t := by (repeat (first | with_reducible assumption | ((with_reducible refine Blk.new' ?_); first | with_reducible rfl | (simp; done) | (simp [World.drew]; done)) | with_reducible refine Blk.alloc ?_ _ | with_reducible refine Blk.keep ?_ (by with_reducible assumption) | with_reducible refine Blk.drew ?_))) : Blk w b arr t := h
theorem blk {w : World} {b : Nat} {arr : Array Value} {t : TypeId} (h : Blk w b arr t := by (repeat (first | with_reducible assumption | ((with_reducible refine Blk.new' ?_); first | with_reducible rfl | (simp; done) | (simp [World.drew]; done)) | with_reducible refine Blk.alloc ?_ _ | ((with_reducible refine Blk.set (arr := ?_) ?_ _ _); rotate_left 1) | ((with_reducible refine Blk.other ?_ ?_ _); rotate_left 1; (focus (first | (simp; done) | (simp; omega) | (refine Nat.ne_of_gt (Blk.lt (arr := ?_) (t := ?_) ?_); rotate_left 2; focus (repeat (first | with_reducible assumption | ((with_reducible refine Blk.new' ?_); first | with_reducible rfl | (simp; done) | (simp [World.drew]; done)) | with_reducible refine Blk.alloc ?_ _ | with_reducible refine Blk.keep ?_ (by with_reducible assumption) | with_reducible refine Blk.drew ?_))) | (refine Nat.ne_of_lt (Blk.lt (arr := ?_) (t := ?_) ?_); rotate_left 2; focus (repeat (first | with_reducible assumption | ((with_reducible refine Blk.new' ?_); first | with_reducible rfl | (simp; done) | (simp [World.drew]; done)) | with_reducible refine Blk.alloc ?_ _ | with_reducible refine Blk.keep ?_ (by with_reducible assumption) | with_reducible refine Blk.drew ?_)))))) | with_reducible refine Blk.keep ?_ (by with_reducible assumption) | with_reducible refine Blk.drew ?_))) : Blk w b arr t := h
theorem blkc {w : World} {b : Nat} {arr : Array Value} {t : TypeId} (h : Blk w b arr t := by (refine Blk.cast (arr := ?_) ?_ ?_; rotate_left 1; (focus (repeat (first | with_reducible assumption | ((with_reducible refine Blk.new' ?_); first | with_reducible rfl | (simp; done) | (simp [World.drew]; done)) | with_reducible refine Blk.alloc ?_ _ | ((with_reducible refine Blk.set (arr := ?_) ?_ _ _); rotate_left 1) | ((with_reducible refine Blk.other ?_ ?_ _); rotate_left 1; (focus (first | (simp; done) | (simp; omega) | (refine Nat.ne_of_gt (Blk.lt (arr := ?_) (t := ?_) ?_); rotate_left 2; focus (repeat (first | with_reducible assumption | ((with_reducible refine Blk.new' ?_); first | with_reducible rfl | (simp; done) | (simp [World.drew]; done)) | with_reducible refine Blk.alloc ?_ _ | with_reducible refine Blk.keep ?_ (by with_reducible assumption) | with_reducible refine Blk.drew ?_))) | (refine Nat.ne_of_lt (Blk.lt (arr := ?_) (t := ?_) ?_); rotate_left 2; focus (repeat (first | with_reducible assumption | ((with_reducible refine Blk.new' ?_); first | with_reducible rfl | (simp; done) | (simp [World.drew]; done)) | with_reducible refine Blk.alloc ?_ _ | with_reducible refine Blk.keep ?_ (by with_reducible assumption) | with_reducible refine Blk.drew ?_)))))) | with_reducible refine Blk.keep ?_ (by with_reducible assumption) | with_reducible refine Blk.drew ?_))); (first | rfl | (simp; done)))) : Blk w b arr t := h

section
variable {P : Program} {ops : Array Oper} {md : Region.Mode} {C : World → Prop}

/-- whatever order is picked of the first n operations -/
def wpHeadQ (P : Program) (md : Region.Mode) (ops : Array Oper) (C : World → Prop) (n : Nat) (L : Array Bool → Act → Prop) : Nat → Array Bool → Act → Prop
  | 0, listed, a => L listed a
  | f + 1, listed, a =>
    Region.ready md ops listed ≠ [] ∧ ∀ i ∈ Region.ready md ops listed, i < n ∧ qOp P ops C i (wpHeadQ P md ops C n L f (listed.setIfInBounds i true)) a

theorem wpAny_of_headQ {n g : Nat} {L : Array Bool → Act → Prop} {Q' : Exit → Act → World → Prop} (hL : ∀ listed a w, C w → L listed a → wpAny P md ops Q' g listed a w) :
    ∀ (f : Nat) (listed : Array Bool) (a : Act) (w : World), C w → wpHeadQ P md ops C n L f listed a → wpAny P md ops Q' (f + g) listed a w
  | 0, listed, a, w, hw, h => by rw [Nat.zero_add]; exact hL _ _ _ hw h
  | f + 1, listed, a, w, hw, h => by
    rw [show f + 1 + g = (f + g) + 1 by omega]
    exact ⟨fun h0 => absurd h0 h.1, fun i hi => wpOp_of_qOp hw (fun a' w' hw' h' => wpAny_of_headQ hL f _ a' w' hw' h') (h.2 i hi).2⟩

theorem wpHeadQ_first {n i : Nat} {oi : Oper} {v : Value} {L : Array Bool → Act → Prop} (hi : ops[i]? = some oi) (hsel : ∀ (j : Nat) (o : Oper) cs b, ops[j]? = some o → o.op ≠ .select cs b)
    (hs : Region.sinkB md ops n = true) (hc : Region.chainB md ops n = true) (hn : n < ops.size) (hin : i < n)
    (hdone : ∀ listed a, L listed a → ∀ j ∈ Region.ready md ops listed, n ≤ j) :
    ∀ (f : Nat) (listed : Array Bool) (a : Act), HeadInv md ops n listed →
      (∀ j oj, ops[j]? = some oj → j ≠ i → listed.getD j true = false → (∀ e ∈ oj.after, Region.binds md e = true → e.on ≠ i) → oi.apart ops oj = true) →
      i ∈ Region.ready md ops listed → YieldsIn P ops C oi v a →
      wpHeadQ P md ops C n L f (listed.setIfInBounds i true) (a.put oi.dst v) → wpHeadQ P md ops C n L (f + 1) listed a := by
  intro f
  induction f with
  | zero =>
    intro listed a inv _ hr hy H
    have hun := (mem_ready.1 hr).1
    refine ⟨fun h => (by rw [h] at hr; cases hr), fun j hj => ?_⟩
    have hjn : j < n := by
      rcases Nat.lt_or_ge j n with h | h
      · exact h
      · exact absurd hj (tail_waits hs hc hn inv _ i rfl hin hun j h)
    refine ⟨hjn, ?_⟩
    by_cases hji : j = i
    · subst hji; exact hy.qOp hi H
    · have := hdone _ _ H j (ready_mono hj hji)
      omega
  | succ f ih =>
    intro listed a inv hfree hr hy H
    have hun := (mem_ready.1 hr).1
    refine ⟨fun h => (by rw [h] at hr; cases hr), fun j hj => ?_⟩
    have hjn : j < n := by
      rcases Nat.lt_or_ge j n with h | h
      · exact h
      · exact absurd hj (tail_waits hs hc hn inv _ i rfl hin hun j h)
    refine ⟨hjn, ?_⟩
    by_cases hji : j = i
    · subst hji; exact hy.qOp hi H
    · have h1 := (H.2 j (ready_mono hj hji)).2
      obtain ⟨hjun, oj, hoj, hall⟩ := mem_ready.1 hj
      have hnot : ∀ e ∈ oj.after, Region.binds md e = true → e.on ≠ i := fun e he hb heq => by
        have h1 := hall e he hb
        rw [heq, getD_both hun] at h1
        cases h1
      have h2 := qOp_put hoj (hfree j oj hoj hji hjun hnot) (fun cs b => hsel i oi cs b hi) (fun cs b => hsel j oj cs b hoj) hy h1
      have hfree' : ∀ k ok, ops[k]? = some ok → k ≠ i → (listed.setIfInBounds j true).getD k true = false →
          (∀ e ∈ ok.after, Region.binds md e = true → e.on ≠ i) → oi.apart ops ok = true := fun k ok hk hki hun hno => by
        refine hfree k ok hk hki ?_ hno
        by_cases hjk : j = k
        · subst hjk; exact hjun
        · rw [getD_set_ne true hjk] at hun; exact hun
      refine qOp_mono (fun a' h3 => ih (listed.setIfInBounds j true) a' (inv.set hj hjn) hfree' (ready_mono hr (Ne.symm hji)) h3.1 ?_) h2
      rw [Array.setIfInBounds_comm _ _ hji]
      exact h3.2

theorem wpHeadQ_lex {n g : Nat} {Lq : Act → Prop} (hsel : Region.noSelect ops = true) (hs : Region.sinkB md ops n = true) (hc : Region.chainB md ops n = true) (hn : n < ops.size) :
    ∀ (l : List Oper) (k : Nat) (listed : Array Bool) (a : Act), (∀ j, j < l.length → l[j]? = ops[k + j]?) → k + l.length = n → HeadInv md ops n listed →
    Region.lexHead md ops g l.length k listed = true → wpQuiet P ops C Lq l a →
    wpHeadQ P md ops C n (fun listed' a' => Region.seqB md ops g n listed' = true ∧ Lq a') l.length listed a
  | [], k, listed, a, _, hk, _, hB, h => by
    have : k = n := by simpa using hk
    subst this
    exact ⟨by simpa [Region.lexHead] using hB, h⟩
  | o :: l, k, listed, a, hl, hk, inv, hB, h => by
    have h0 : ops[k]? = some o := by simpa using (hl 0 (by simp)).symm
    simp only [List.length_cons, Region.lexHead, Bool.and_eq_true] at hB
    obtain ⟨⟨hr, hf⟩, hB'⟩ := hB
    have hkn : k < n := by simp only [List.length_cons] at hk; omega
    have hr' : k ∈ Region.ready md ops listed := by simpa using hr
    have hst : qOp P ops C k (wpQuiet P ops C Lq l) a := by unfold qOp; simp only [h0]; exact h
    obtain ⟨v, hy, hK⟩ := yieldsIn_of_qOp h0 hst
    exact wpHeadQ_first h0 (Region.noSelect_spec hsel) hs hc hn hkn (fun listed' a' hL => seqB_ready hL.1) l.length listed a inv (Region.free_spec h0 hf) hr' hy
      (wpHeadQ_lex hsel hs hc hn l (k + 1) _ _ (fun j hj => by have := hl (j + 1) (by simp; omega); simpa [Nat.add_assoc, Nat.add_comm 1 j] using this) (by simp only [List.length_cons] at hk; omega) (inv.set hr' hkn) hB' hK)

/-- THE THEOREM: the first n operations quiet in the class, the rest in one forced order, from every world of the class. -/
theorem Later.tail {P : Program} {id : Nat} {Q : Exit → Act → World → Prop} {a : Act} {w : World} {l : List Oper} (n : Nat) (hm : P.follows .mixedOrders = true) (hB : Region.lexTailB .any l.toArray n = true)
    (h : wpQuiet P l.toArray (fun w' => ∃ g : Later w, w' = g.val) (fun a' => ∀ g : Later w, wpList P l.toArray Q (l.drop n) a' g.val) (l.take n) a) : (Code.region id l.toArray true).wp P Q a w := by
  simp only [Region.lexTailB, Bool.and_eq_true, decide_eq_true_eq] at hB
  obtain ⟨⟨⟨⟨hsel, hn⟩, hs⟩, hc⟩, hlex⟩ := hB
  have hn' : n < l.length := by simpa using hn
  have htl : (l.take n).length = n := by simp; omega
  have hdl : (l.drop n).length = l.toArray.size - n := by simp
  have inv0 : HeadInv .any l.toArray n (Array.replicate l.toArray.size false) :=
    ⟨by simp, fun j oj _ hl => (by rw [getD_replicate_false] at hl; cases hl), fun t _ ht => getD_in (by simpa using ht) (getD_replicate_false _ _)⟩
  have H := wpHeadQ_lex (md := .any) (g := l.toArray.size - n) hsel hs hc hn (l.take n) 0 _ a (fun j hj => by
    have hj' : j < n := by rw [htl] at hj; exact hj
    simp [hj']) (by simpa using htl) inv0 (by rw [htl]; exact hlex) h
  refine wp_region_any hm ?_
  have := wpAny_of_headQ (C := fun w' => ∃ g : Later w, w' = g.val) (Q' := Q) (g := l.toArray.size - n) (fun listed a' w' hw' hL => by
    obtain ⟨g, rfl⟩ := hw'
    have := wpAny_of_seq (md := .any) (Q' := Q) (l.drop n) n listed a' g.val (fun j => by simp [List.getElem?_drop]) (by rw [hdl]; exact hL.1) (hL.2 g)
    rwa [hdl] at this) _ _ _ { w with drawn := w.drawn + 1 } ⟨⟨w.drew, (Below.refl _ _).drew⟩, rfl⟩ H
  rw [htl, show n + (l.toArray.size - n) = l.toArray.size by omega] at this
  exact this
end
end Bal

/-
  Ranges, ratios and validity of cells and air, in the program and in the reference.
-/
namespace Go.Proofs.Ytheahhmlmpameaa
open Go.RowKit Bal Bal.Trim Bal.Gas
set_option linter.unusedVariables false
set_option linter.unusedSimpArgs false
set_option maxHeartbeats 400000

theorem f_ranged (lo hi : Int) (a : Option Addr) (n cap : Nat) (xs : List Int) (w : World) (hn : xs.length = n) {B : Nat} (hx : Row icell 1 B w a xs) (h1 : n ≤ 1000000) :
    Calls Try.prog 37 #[.int .i64 lo, .int .i64 hi, .slice a n cap] w fun e w' => e = .returned (.bool (rng xs lo hi)) ∧ w = w' := by
  subst hn
  go_enter Try.func37, Try.ntmps37
  go_wp2
  go_loop [11] (fun i => ∃ k : Nat, k ≤ xs.length ∧ i = .int .i64 k ∧ (xs.take k).all (fun n => inB n lo hi) = true) (fun i => xs.length - (intOf i).toNat)
  case atStart => exact ⟨0, Nat.zero_le _, rfl, by simp⟩
  case round =>
    obtain ⟨k, hk, rfl, ha'⟩ := hrel
    have ha := Lib.hid ha'
    clear ha'
    by_cases hlt : k < xs.length
    · obtain ⟨b, off, rfl, _, ck⟩ := int_row hx k hlt
      have hbad : inB xs[k] lo hi = false → rng xs lo hi = false := fun hv => by
        unfold rng
        rw [Bool.eq_false_iff]
        intro h
        rw [List.all_eq_true.1 h _ (List.getElem_mem hlt)] at hv
        cases hv
      have HB := Lib.hid hbad
      clear hbad
      by_cases c1 : xs[k] < lo
      · go_wp2
        go_ret
        exact ⟨ret_bool (HB.out (by simp [inB]; omega)).symm, rfl⟩
      · by_cases c2 : hi < xs[k]
        · go_wp2
          go_ret
          exact ⟨ret_bool (HB.out (by simp [inB]; omega)).symm, rfl⟩
        · go_wp2
          go_round
          case rel => exact ⟨k + 1, by omega, by go_num, take_all hlt ha.out (by simp [inB]; omega)⟩
          case measure => simp [intOf]; omega
    · go_wp2
      go_ret
      have he : rng xs lo hi = true := by unfold rng; rw [← ha.out, List.take_of_length_le (by omega)]
      exact ⟨ret_bool he.symm, rfl⟩

theorem f_ranged1 (lo hi p : Int) (t : TypeId) (W : World) (m : Nat) (hm : m = W.heap.size) :
    Calls Try.prog 37 #[.int .i64 lo, .int .i64 hi, .slice (some ⟨m, 0, none⟩) 1 1] (W.alloc (.cells #[.int .i64 p] t))
      fun e w' => e = .returned (.bool (rng [p] lo hi)) ∧ W.alloc (.cells #[.int .i64 p] t) = w' := by
  subst hm
  exact f_ranged lo hi _ 1 1 [p] _ rfl (Row.fresh (enc := icell) (fun _ => rfl) rfl) (by decide)

theorem f_ranged2 (lo hi p q : Int) (t : TypeId) (W : World) (m : Nat) (hm : m = W.heap.size) :
    Calls Try.prog 37 #[.int .i64 lo, .int .i64 hi, .slice (some ⟨m, 0, none⟩) 2 2] (W.alloc (.cells #[.int .i64 p, .int .i64 q] t))
      fun e w' => e = .returned (.bool (rng [p, q] lo hi)) ∧ W.alloc (.cells #[.int .i64 p, .int .i64 q] t) = w' := by
  subst hm
  exact f_ranged lo hi _ 2 2 [p, q] _ rfl (Row.fresh (enc := icell) (fun _ => rfl) rfl) (by decide)

theorem f_ranged3 (lo hi p q r : Int) (t : TypeId) (W : World) (m : Nat) (hm : m = W.heap.size) :
    Calls Try.prog 37 #[.int .i64 lo, .int .i64 hi, .slice (some ⟨m, 0, none⟩) 3 3] (W.alloc (.cells #[.int .i64 p, .int .i64 q, .int .i64 r] t))
      fun e w' => e = .returned (.bool (rng [p, q, r] lo hi)) ∧ W.alloc (.cells #[.int .i64 p, .int .i64 q, .int .i64 r] t) = w' := by
  subst hm
  exact f_ranged lo hi _ 3 3 [p, q, r] _ rfl (Row.fresh (enc := icell) (fun _ => rfl) rfl) (by decide)

theorem f_span (x y lo hi : Int) (w : World) :
    Calls Try.prog 38 #[.agg #[.int .i64 x, .int .i64 y], .int .i64 lo, .int .i64 hi] w fun e w' => e = .returned (.bool (spanIn x y lo hi)) ∧ Kept w w' := by
  go_enter Try.func38, Try.ntmps38
  go_wp2_with (go_at_call 37; (with_reducible refine (f_ranged2 _ _ _ _  _ _ _ (by simp)).mono ?_); rintro e w1 ⟨rfl, rfl⟩)
  all_goals (go_ret; refine ⟨?_, by (exact kpt)⟩; simp [spanIn, *])
  all_goals omega

theorem f_temps (x y : Int) (w : World) :
    Calls Try.prog 39 #[.agg #[.int .i64 x, .int .i64 y]] w fun e w' => e = .returned (.bool (spanIn x y 1500 3500)) ∧ Kept w w' := by
  go_enter Try.func39, Try.ntmps39
  go_wp2_with (go_at_call 38; (with_reducible refine (f_span _ _ _ _ _).mono ?_); rintro e w1 ⟨rfl, hb1⟩; obtain ⟨hc1, hf1, hl1⟩ := bcell3 hb1)
  go_ret
  exact ⟨rfl, by (exact kpt)⟩

theorem f_CheckAir (a : Air) (w : World) :
    Calls Try.prog 29 #[.agg #[.int .i64 a.plo, .int .i64 a.phi, .int .i64 a.tlo, .int .i64 a.thi]] w fun e w' => e = .returned (.int .i64 (checkAir a)) ∧ Kept w w' := by
  go_enter Try.func29, Try.ntmps29
  go_wp2_with (first | (go_at_call 38; (with_reducible refine (f_span _ _ _ _ _).mono ?_); rintro e w1 ⟨rfl, hb1⟩; obtain ⟨hc1, hf1, hl1⟩ := bcell3 hb1) | (go_at_call 39; (with_reducible refine (f_temps _ _ _).mono ?_); rintro e w1 ⟨rfl, hb1⟩; obtain ⟨hc1, hf1, hl1⟩ := bcell3 hb1))
  all_goals (go_ret; refine ⟨ret_int ?_, by (exact kpt)⟩; simp_all [checkAir, airB])

theorem f_CheckCell (c : Cell) (w : World) :
    Calls Try.prog 27 #[.agg #[.int .i64 c.room, .int .i64 c.helium, .int .i64 c.air, .int .i64 c.wlo, .int .i64 c.whi, .int .i64 c.leak, .int .i64 c.owed]] w fun e w' => e = .returned (.int .i64 (checkCell c)) ∧ Kept w w' := by
  go_enter Try.func27, Try.ntmps27
  go_wp2_with (first | (go_at_call 37; (with_reducible refine (f_ranged1 _ _ _  _ _ _ (by simp)).mono ?_); rintro e w1 ⟨rfl, rfl⟩) | (go_at_call 37; (with_reducible refine (f_ranged2 _ _ _ _  _ _ _ (by simp)).mono ?_); rintro e w1 ⟨rfl, rfl⟩) | (go_at_call 38; (with_reducible refine (f_span _ _ _ _ _).mono ?_); rintro e w1 ⟨rfl, hb1⟩; obtain ⟨hc1, hf1, hl1⟩ := bcell3 hb1))
  all_goals (go_ret; refine ⟨ret_int ?_, by (exact kpt)⟩; simp_all [checkCell, cellB, cellFits])

end Go.Proofs.Ytheahhmlmpameaa

/-
  A region that draws its order, walked once in an order that is told: first operations that need no world, then operations that only read or call (calls may make memory), then the rest in one forced order. No program in sight.
-/
namespace Bal
open Go Go.RowKit

section
variable {P : Program} {ops : Array Oper} {md : Region.Mode} {C : World → Prop}

def ordTail (md : Region.Mode) (ops : Array Oper) : List Nat → Array Bool → Bool
  | [], listed => (Region.ready md ops listed).isEmpty
  | k :: r, listed => decide (Region.ready md ops listed = [k]) && ordTail md ops r (listed.setIfInBounds k true)
def ordHead (md : Region.Mode) (ops : Array Oper) (tl : List Nat) : List Nat → Array Bool → Bool
  | [], listed => ordTail md ops tl listed
  | i :: r, listed => (Region.ready md ops listed).contains i && Region.free md ops listed i && ordHead md ops tl r (listed.setIfInBounds i true)
def ordPre (md : Region.Mode) (ops : Array Oper) (tl hd : List Nat) : List Nat → Array Bool → Bool
  | [], listed => ordHead md ops tl hd listed
  | i :: r, listed => (Region.ready md ops listed).contains i && Region.free md ops listed i && ordPre md ops tl hd r (listed.setIfInBounds i true)
def sinkOrd (md : Region.Mode) (ops : Array Oper) (t0 : Nat) : List Nat → Bool
  | [] => true
  | i :: r => ((r ++ [t0]).any fun j => Region.waitsFor md ops j i) && sinkOrd md ops t0 r
def chainOrd (md : Region.Mode) (ops : Array Oper) : Nat → List Nat → Bool
  | _, [] => true
  | a, b :: r => Region.waitsFor md ops b a && chainOrd md ops b r
def ordB (md : Region.Mode) (ops : Array Oper) (pre hd : List Nat) (t0 : Nat) (tl : List Nat) : Bool :=
  Region.noSelect ops && sinkOrd md ops t0 hd && chainOrd md ops t0 tl && ((List.range ops.size).all fun i => pre.contains i || hd.contains i || (t0 :: tl).contains i) &&
    ((t0 :: tl).all fun t => !pre.contains t && !hd.contains t) && ordPre md ops (t0 :: tl) hd pre (Array.replicate ops.size false)

structure OrdInv (md : Region.Mode) (ops : Array Oper) (hd tl : List Nat) (listed : Array Bool) : Prop where
  size : listed.size = ops.size
  closed : ∀ j oj, ops[j]? = some oj → listed.getD j false = true → ∀ e ∈ oj.after, Region.binds md e = true → listed.getD e.on false = true
  tail : ∀ t, t ∈ tl → listed.getD t true = false
  cover : ∀ j, listed.getD j true = false → j ∈ hd ∨ j ∈ tl

theorem getD_not {listed : Array Bool} {i : Nat} (h : listed.getD i false = false) (hi : i < listed.size) : listed.getD i true = false := getD_in hi h

theorem OrdInv.set {hd tl : List Nat} {listed : Array Bool} {i : Nat} (inv : OrdInv md ops hd tl listed) (hi : i ∈ Region.ready md ops listed) (hn : i ∉ tl) : OrdInv md ops hd tl (listed.setIfInBounds i true) := by
  obtain ⟨_, oi, hoi, hall⟩ := mem_ready.1 hi
  refine ⟨by simp [inv.size], fun j oj hj hl e he hb => ?_, fun t ht => ?_, fun j hj => ?_⟩
  · by_cases hij : i = j
    · subst hij
      have : oj = oi := Option.some.inj (hj.symm.trans hoi)
      subst this
      exact getD_set_true (hall e he hb)
    · rw [getD_set_ne false hij] at hl
      exact getD_set_true (inv.closed j oj hj hl e he hb)
  · rw [getD_set_ne true (fun e => hn (by rw [e]; exact ht))]; exact inv.tail t ht
  · by_cases hij : i = j
    · subst hij
      exfalso
      rcases Nat.lt_or_ge i listed.size with h' | h'
      · simp [h'] at hj
      · simp [Array.getElem?_eq_none (by simpa using h' : (listed.setIfInBounds i true).size ≤ i)] at hj
    · rw [getD_set_ne true hij] at hj
      exact inv.cover j hj

theorem sink_waits {hd tl : List Nat} {t0 : Nat} {listed : Array Bool} (inv : OrdInv md ops hd (t0 :: tl) listed) :
    ∀ (s : List Nat), sinkOrd md ops t0 s = true → ∀ i ∈ s, listed.getD i true = false → t0 ∉ Region.ready md ops listed
  | [], _, _, hi, _ => by cases hi
  | x :: r, hs, i, hi, hun => by
    simp only [sinkOrd, Bool.and_eq_true] at hs
    obtain ⟨h1, h2⟩ := hs
    rcases List.mem_cons.1 hi with rfl | hi
    · obtain ⟨j, hj, hw⟩ := List.any_eq_true.1 h1
      obtain ⟨oj, hoj, e, he, hb, hon⟩ := Region.waitsFor_spec hw
      rcases List.mem_append.1 hj with hj | hj
      · cases hl : listed.getD j false with
        | true =>
          have h3 := inv.closed j oj hoj hl e he hb
          rw [hon, getD_both hun] at h3
          cases h3
        | false =>
          have hjs : j < listed.size := by rw [inv.size]; exact (Array.getElem?_eq_some_iff.1 hoj).1
          exact sink_waits inv r h2 j hj (getD_in hjs hl)
      · have : j = t0 := by simpa using hj
        subst this
        intro hr
        obtain ⟨_, o', ho', hall⟩ := mem_ready.1 hr
        have : oj = o' := Option.some.inj (hoj.symm.trans ho')
        subst this
        have h3 := hall e he hb
        rw [hon, getD_both hun] at h3
        cases h3
    · exact sink_waits inv r h2 i hi hun

theorem chain_mem : ∀ (tl : List Nat) (t0 : Nat), chainOrd md ops t0 tl = true → ∀ t ∈ tl, ∃ t' ∈ t0 :: tl, Region.waitsFor md ops t t' = true
  | [], _, _, t, ht => by cases ht
  | b :: r, t0, hc, t, ht => by
    simp only [chainOrd, Bool.and_eq_true] at hc
    rcases List.mem_cons.1 ht with rfl | ht
    · exact ⟨t0, by simp, hc.1⟩
    · obtain ⟨t', h1, h2⟩ := chain_mem r b hc.2 t ht
      exact ⟨t', List.mem_cons_of_mem _ h1, h2⟩

theorem tail_waitsO {hd tl : List Nat} {t0 i : Nat} {listed : Array Bool} (hs : sinkOrd md ops t0 hd = true) (hc : chainOrd md ops t0 tl = true) (inv : OrdInv md ops hd (t0 :: tl) listed)
    (hi : i ∈ hd) (hun : listed.getD i true = false) : ∀ t ∈ t0 :: tl, t ∉ Region.ready md ops listed := by
  intro t ht
  rcases List.mem_cons.1 ht with rfl | ht
  · exact sink_waits inv hd hs i hi hun
  · obtain ⟨t', ht', hw⟩ := chain_mem tl t0 hc t ht
    obtain ⟨oj, hoj, e, he, hb, hon⟩ := Region.waitsFor_spec hw
    intro hr
    obtain ⟨_, o', ho', hall⟩ := mem_ready.1 hr
    have : oj = o' := Option.some.inj (hoj.symm.trans ho')
    subst this
    have h3 := hall e he hb
    rw [hon, getD_both (inv.tail t' ht')] at h3
    cases h3

/-- whatever order is picked of the operations of hd -/
def wpOrdQ (P : Program) (md : Region.Mode) (ops : Array Oper) (C : World → Prop) (hd : List Nat) (L : Array Bool → Act → Prop) : Nat → Array Bool → Act → Prop
  | 0, listed, a => L listed a
  | f + 1, listed, a =>
    Region.ready md ops listed ≠ [] ∧ ∀ i ∈ Region.ready md ops listed, i ∈ hd ∧ qOp P ops C i (wpOrdQ P md ops C hd L f (listed.setIfInBounds i true)) a

theorem wpAny_of_ordQ {hd : List Nat} {g : Nat} {L : Array Bool → Act → Prop} {Q' : Exit → Act → World → Prop} (hL : ∀ listed a w, C w → L listed a → wpAny P md ops Q' g listed a w) :
    ∀ (f : Nat) (listed : Array Bool) (a : Act) (w : World), C w → wpOrdQ P md ops C hd L f listed a → wpAny P md ops Q' (f + g) listed a w
  | 0, listed, a, w, hw, h => by rw [Nat.zero_add]; exact hL _ _ _ hw h
  | f + 1, listed, a, w, hw, h => by
    rw [show f + 1 + g = (f + g) + 1 by omega]
    exact ⟨fun h0 => absurd h0 h.1, fun i hi => wpOp_of_qOp hw (fun a' w' hw' h' => wpAny_of_ordQ hL f _ a' w' hw' h') (h.2 i hi).2⟩

theorem wpOrdQ_first {hd tl : List Nat} {t0 i : Nat} {oi : Oper} {v : Value} {L : Array Bool → Act → Prop} (hi : ops[i]? = some oi) (hsel : ∀ (j : Nat) (o : Oper) cs b, ops[j]? = some o → o.op ≠ .select cs b)
    (hs : sinkOrd md ops t0 hd = true) (hc : chainOrd md ops t0 tl = true) (hdis : ∀ j ∈ hd, j ∉ t0 :: tl) (hin : i ∈ hd)
    (hdone : ∀ listed a, L listed a → ∀ j ∈ Region.ready md ops listed, j ∈ t0 :: tl) :
    ∀ (f : Nat) (listed : Array Bool) (a : Act), OrdInv md ops hd (t0 :: tl) listed →
      (∀ j oj, ops[j]? = some oj → j ≠ i → listed.getD j true = false → (∀ e ∈ oj.after, Region.binds md e = true → e.on ≠ i) → oi.apart ops oj = true) →
      i ∈ Region.ready md ops listed → YieldsIn P ops C oi v a →
      wpOrdQ P md ops C hd L f (listed.setIfInBounds i true) (a.put oi.dst v) → wpOrdQ P md ops C hd L (f + 1) listed a := by
  intro f
  induction f with
  | zero =>
    intro listed a inv _ hr hy H
    have hun := (mem_ready.1 hr).1
    refine ⟨fun h => (by rw [h] at hr; cases hr), fun j hj => ?_⟩
    have hjn : j ∈ hd := by
      rcases inv.cover j (mem_ready.1 hj).1 with h | h
      · exact h
      · exact absurd hj (tail_waitsO hs hc inv hin hun j h)
    refine ⟨hjn, ?_⟩
    by_cases hji : j = i
    · subst hji; exact hy.qOp hi H
    · exact absurd (hdone _ _ H j (ready_mono hj hji)) (hdis j hjn)
  | succ f ih =>
    intro listed a inv hfree hr hy H
    have hun := (mem_ready.1 hr).1
    refine ⟨fun h => (by rw [h] at hr; cases hr), fun j hj => ?_⟩
    have hjn : j ∈ hd := by
      rcases inv.cover j (mem_ready.1 hj).1 with h | h
      · exact h
      · exact absurd hj (tail_waitsO hs hc inv hin hun j h)
    refine ⟨hjn, ?_⟩
    by_cases hji : j = i
    · subst hji; exact hy.qOp hi H
    · have h1 := (H.2 j (ready_mono hj hji)).2
      obtain ⟨hjun, oj, hoj, hall⟩ := mem_ready.1 hj
      have hnot : ∀ e ∈ oj.after, Region.binds md e = true → e.on ≠ i := fun e he hb heq => by
        have h1 := hall e he hb
        rw [heq, getD_both hun] at h1
        cases h1
      have h2 := qOp_put hoj (hfree j oj hoj hji hjun hnot) (fun cs b => hsel i oi cs b hi) (fun cs b => hsel j oj cs b hoj) hy h1
      have hfree' : ∀ k ok, ops[k]? = some ok → k ≠ i → (listed.setIfInBounds j true).getD k true = false →
          (∀ e ∈ ok.after, Region.binds md e = true → e.on ≠ i) → oi.apart ops ok = true := fun k ok hk hki hun hno => by
        refine hfree k ok hk hki ?_ hno
        by_cases hjk : j = k
        · subst hjk; exact hjun
        · rw [getD_set_ne true hjk] at hun; exact hun
      refine qOp_mono (fun a' h3 => ih (listed.setIfInBounds j true) a' (inv.set hj (hdis j hjn)) hfree' (ready_mono hr (Ne.symm hji)) h3.1 ?_) h2
      rw [Array.setIfInBounds_comm _ _ hji]
      exact h3.2

theorem ordTail_ready {tl : List Nat} {listed : Array Bool} (h : ordTail md ops tl listed = true) : ∀ j ∈ Region.ready md ops listed, j ∈ tl := by
  cases tl with
  | nil => intro j hj; simp only [ordTail, List.isEmpty_iff] at h; rw [h] at hj; cases hj
  | cons k r =>
    intro j hj
    simp only [ordTail, Bool.and_eq_true, decide_eq_true_eq] at h
    rw [h.1] at hj
    have : j = k := by simpa using hj
    simp [this]

theorem wpOrdQ_lex {hd tl : List Nat} {t0 : Nat} {Lq : Act → Prop} (hsel : Region.noSelect ops = true) (hs : sinkOrd md ops t0 hd = true) (hc : chainOrd md ops t0 tl = true) (hdis : ∀ j ∈ hd, j ∉ t0 :: tl) :
    ∀ (is : List Nat) (l : List Oper) (listed : Array Bool) (a : Act), is.map (ops[·]?) = l.map some → (∀ i ∈ is, i ∈ hd) → OrdInv md ops hd (t0 :: tl) listed →
    ordHead md ops (t0 :: tl) is listed = true → wpQuiet P ops C Lq l a →
    wpOrdQ P md ops C hd (fun listed' a' => ordTail md ops (t0 :: tl) listed' = true ∧ Lq a') l.length listed a
  | [], [], listed, a, _, _, _, hB, h => ⟨by simpa [ordHead] using hB, h⟩
  | [], _ :: _, _, _, hm, _, _, _, _ => by simp at hm
  | _ :: _, [], _, _, hm, _, _, _, _ => by simp at hm
  | i :: is, o :: l, listed, a, hm, hin, inv, hB, h => by
    simp only [List.map_cons, List.cons.injEq] at hm
    obtain ⟨h0, hm'⟩ := hm
    simp only [ordHead, Bool.and_eq_true] at hB
    obtain ⟨⟨hr, hf⟩, hB'⟩ := hB
    have hr' : i ∈ Region.ready md ops listed := by simpa using hr
    have hst : qOp P ops C i (wpQuiet P ops C Lq l) a := by unfold qOp; simp only [h0]; exact h
    obtain ⟨v, hy, hK⟩ := yieldsIn_of_qOp h0 hst
    have hih := hin i (by simp)
    exact wpOrdQ_first h0 (Region.noSelect_spec hsel) hs hc hdis hih (fun listed' a' hL => ordTail_ready hL.1) l.length listed a inv (Region.free_spec h0 hf) hr' hy
      (wpOrdQ_lex hsel hs hc hdis is l _ _ hm' (fun j hj => hin j (by simp [hj])) (inv.set hr' (hdis i hih)) hB' hK)

theorem wpAny_of_ordTail {Q' : Exit → Act → World → Prop} : ∀ (tl : List Nat) (l : List Oper) (listed : Array Bool) (a : Act) (w : World), tl.map (ops[·]?) = l.map some →
    ordTail md ops tl listed = true → wpList P ops Q' l a w → wpAny P md ops Q' l.length listed a w
  | [], [], _, _, _, _, hB, h => ⟨by simpa [ordTail] using hB, h⟩
  | [], _ :: _, _, _, _, hm, _, _ => by simp at hm
  | _ :: _, [], _, _, _, hm, _, _ => by simp at hm
  | k :: tl, o :: l, listed, a, w, hm, hB, h => by
    simp only [List.map_cons, List.cons.injEq] at hm
    obtain ⟨h0, hm'⟩ := hm
    simp only [ordTail, Bool.and_eq_true, decide_eq_true_eq] at hB
    refine ⟨fun h1 => (by rw [hB.1] at h1; cases h1), fun i hi => ?_⟩
    rw [hB.1] at hi
    have hik : i = k := by simpa using hi
    subst hik
    have hw : wpOp P ops Q' i (wpList P ops Q' l) a w := by unfold wpOp; simp only [h0]; exact h
    exact wpOp_mono (fun a' w' h' => wpAny_of_ordTail tl l _ a' w' hm' hB.2 h') hw

/-- operations that yield their values in whatever world -/
def wpPre (P : Program) (ops : Array Oper) (K : Act → Prop) : List Oper → Act → Prop
  | [], a => K a
  | o :: r, a => ∃ v, Yields P ops o v a ∧ wpPre P ops K r (a.put o.dst v)

theorem wpPre_nil {K : Act → Prop} {a : Act} (h : K a) : wpPre P ops K [] a := h
theorem wpPre_cons {K : Act → Prop} {a : Act} {o : Oper} {r : List Oper} (v : Value) (hg : o.guard = none) (hy : ∀ w, (execOp a.eval o).run P w = .ok (.value v) w) (h : wpPre P ops K r (a.put o.dst v)) : wpPre P ops K (o :: r) a :=
  ⟨v, .inl ⟨by simp [Region.wanted, hg], hy⟩, h⟩

theorem wpAny_of_pre {hd tl : List Nat} {t0 n : Nat} {K : Act → Prop} {Q' : Exit → Act → World → Prop} (hQ : ∀ c a w, ¬ Q' (.panic c) a w) (hsel : Region.noSelect ops = true) {w : World}
    (hK : ∀ listed a, ordHead md ops (t0 :: tl) hd listed = true → OrdInv md ops hd (t0 :: tl) listed → K a → wpAny P md ops Q' n listed a w) :
    ∀ (pre : List Nat) (l : List Oper) (listed : Array Bool) (a : Act), pre.map (ops[·]?) = l.map some → (∀ p ∈ pre, p ∉ t0 :: tl) → OrdInv md ops (pre ++ hd) (t0 :: tl) listed →
    ordPre md ops (t0 :: tl) hd pre listed = true → wpPre P ops K l a → wpAny P md ops Q' (l.length + n) listed a w
  | [], [], listed, a, _, _, inv, hB, h => by
    simp only [List.length_nil, Nat.zero_add]
    exact hK listed a (by simpa [ordPre] using hB) (by simpa using inv) h
  | [], _ :: _, _, _, hm, _, _, _, _ => by simp at hm
  | _ :: _, [], _, _, hm, _, _, _, _ => by simp at hm
  | i :: pre, o :: l, listed, a, hm, hp, inv, hB, ⟨v, hy, h⟩ => by
    simp only [List.map_cons, List.cons.injEq] at hm
    obtain ⟨h0, hm'⟩ := hm
    simp only [ordPre, Bool.and_eq_true] at hB
    obtain ⟨⟨hr, hf⟩, hB'⟩ := hB
    have hr' : i ∈ Region.ready md ops listed := by simpa using hr
    rw [show (o :: l).length + n = (l.length + n) + 1 by simp only [List.length_cons]; omega]
    refine wpAny_first h0 (Region.noSelect_spec hsel) (fun c a w hq => absurd hq (hQ _ _ _)) _ _ _ _ (Region.free_spec h0 hf) hr' hy ?_
    have inv' := inv.set hr' (hp i (by simp))
    refine wpAny_of_pre hQ hsel hK pre l _ _ hm' (fun p hp' => hp p (by simp [hp'])) ⟨inv'.size, inv'.closed, inv'.tail, fun j hj => ?_⟩ hB' h
    rcases inv'.cover j hj with h' | h'
    · rcases List.mem_cons.1 (by simpa using h' : j ∈ i :: (pre ++ hd)) with rfl | h''
      · exfalso
        rcases Nat.lt_or_ge j listed.size with h1 | h1
        · simp [h1] at hj
        · simp [Array.getElem?_eq_none (by simpa using h1 : (listed.setIfInBounds j true).size ≤ j)] at hj
      · exact .inl h''
    · exact .inr h'

/-- THE THEOREM. -/
theorem later_ord {P : Program} {id : Nat} {Q : Exit → Act → World → Prop} {a : Act} {w : World} {l : List Oper} (pre hd : List Nat) (t0 : Nat) (tl : List Nat) (lp lh lt : List Oper) (hm : P.follows .mixedOrders = true)
    (hB : ordB .any l.toArray pre hd t0 tl = true) (hp : pre.map (l.toArray[·]?) = lp.map some) (hh : hd.map (l.toArray[·]?) = lh.map some) (ht : (t0 :: tl).map (l.toArray[·]?) = lt.map some) (hn : lp.length + (lh.length + lt.length) = l.length)
    (h : wpPre P l.toArray (wpQuiet P l.toArray (fun w' => ∃ g : Later w, w' = g.val) (fun a' => ∀ g : Later w, wpList P l.toArray (NoPanic Q) lt a' g.val) lh) lp a) : (Code.region id l.toArray true).wp P Q a w := by
  simp only [ordB, Bool.and_eq_true] at hB
  obtain ⟨⟨⟨⟨⟨hsel, hs⟩, hc⟩, hcov⟩, hdis⟩, hpre⟩ := hB
  have hdis' : ∀ t ∈ t0 :: tl, t ∉ pre ∧ t ∉ hd := fun t ht => by
    have := List.all_eq_true.1 hdis t ht
    simpa using this
  refine wp_region_noPanic (wp_region_any hm ?_)
  have inv0 : OrdInv .any l.toArray (pre ++ hd) (t0 :: tl) (Array.replicate l.toArray.size false) := by
    refine ⟨by simp, fun j oj _ hl => (by rw [getD_replicate_false] at hl; cases hl), fun t ht' => ?_, fun j hj => ?_⟩
    · have : ∃ o, l.toArray[t]? = some o := by
        have h1 : l.toArray[t]? ∈ lt.map some := by rw [← ht]; exact List.mem_map.2 ⟨t, ht', rfl⟩
        obtain ⟨o, _, ho⟩ := List.mem_map.1 h1
        exact ⟨o, ho.symm⟩
      obtain ⟨o, ho⟩ := this
      exact getD_in (by simpa using (Array.getElem?_eq_some_iff.1 ho).1) (getD_replicate_false _ _)
    · have hjl : j < l.toArray.size := by
        rcases Nat.lt_or_ge j l.toArray.size with h' | h'
        · exact h'
        · have hsz : (Array.replicate l.toArray.size false).size ≤ j := by simpa using h'
          have h1 : (Array.replicate l.toArray.size false).getD j true = true := by unfold Array.getD; rw [dif_neg (by omega)]
          rw [h1] at hj
          cases hj
      have := List.all_eq_true.1 hcov j (List.mem_range.2 hjl)
      simp only [Bool.or_eq_true, List.contains_iff_mem] at this
      rcases this with (h' | h') | h'
      · exact .inl (List.mem_append.2 (.inl h'))
      · exact .inl (List.mem_append.2 (.inr h'))
      · exact .inr h'
  have key := wpAny_of_pre (P := P) (md := .any) (n := lh.length + lt.length) (Q' := NoPanic Q) (w := { w with drawn := w.drawn + 1 }) (fun c a w hq => hq) hsel (fun listed a' hB' inv' hK => by
    have H := wpOrdQ_lex hsel hs hc (fun j hj hj' => (hdis' j hj').2 hj) hd lh listed a' hh (fun _ h => h) inv' hB' hK
    exact wpAny_of_ordQ (C := fun w' => ∃ g : Later w, w' = g.val) (fun listed' a'' w' hw' hL => by
      obtain ⟨g, rfl⟩ := hw'
      exact wpAny_of_ordTail (t0 :: tl) lt listed' a'' g.val ht hL.1 (hL.2 g)) _ _ _ _ ⟨⟨w.drew, (Below.refl _ _).drew⟩, rfl⟩ H) pre lp _ a hp (fun p hp' hp'' => (hdis' p hp'').1 hp') inv0 hpre h
  rw [hn] at key
  simpa using key

theorem filterMap_ok {l : List Oper} : ∀ (is : List Nat), (∀ i ∈ is, i < l.length) → is.map (l.toArray[·]?) = (is.filterMap (l[·]?)).map some ∧ (is.filterMap (l[·]?)).length = is.length
  | [], _ => ⟨rfl, rfl⟩
  | i :: is, h => by
    have hi := h i (by simp)
    obtain ⟨h1, h2⟩ := filterMap_ok is (fun j hj => h j (by simp [hj]))
    have e : l[i]? = some l[i] := by simp [hi]
    refine ⟨?_, ?_⟩
    · rw [List.map_cons, h1, List.filterMap_cons, e]
      simp [hi]
    · rw [List.filterMap_cons, e]
      simp [h2]

/-- .. the operations by their numbers -/
theorem later_ord2 {P : Program} {id : Nat} {Q : Exit → Act → World → Prop} {a : Act} {w : World} {l : List Oper} (pre hd : List Nat) (t0 : Nat) (tl : List Nat) (hm : P.follows .mixedOrders = true)
    (hB : (ordB .any l.toArray pre hd t0 tl && (pre ++ hd ++ t0 :: tl).all (fun i => decide (i < l.length)) && decide (pre.length + (hd.length + (t0 :: tl).length) = l.length)) = true)
    (h : wpPre P l.toArray (wpQuiet P l.toArray (fun w' => ∃ g : Later w, w' = g.val) (fun a' => ∀ g : Later w, wpList P l.toArray (NoPanic Q) ((t0 :: tl).filterMap (l[·]?)) a' g.val) (hd.filterMap (l[·]?))) (pre.filterMap (l[·]?)) a) :
    (Code.region id l.toArray true).wp P Q a w := by
  simp only [Bool.and_eq_true, decide_eq_true_eq, List.all_eq_true, List.mem_append] at hB
  obtain ⟨⟨h1, h2⟩, h3⟩ := hB
  obtain ⟨p1, p2⟩ := filterMap_ok pre (fun i hi => h2 i (.inl (.inl hi)))
  obtain ⟨q1, q2⟩ := filterMap_ok hd (fun i hi => h2 i (.inl (.inr hi)))
  obtain ⟨r1, r2⟩ := filterMap_ok (t0 :: tl) (fun i hi => h2 i (.inr hi))
  exact later_ord pre hd t0 tl _ _ _ hm h1 p1 q1 r1 (by rw [p2, q2, r2]; exact h3) h

/-! ### The same, with operations that need no world among the others -/

/-- is one of hd yet to come? -/
def pendB (hd : List Nat) (listed : Array Bool) : Bool := hd.any fun i => !(listed.getD i true)

theorem pendB_false {hd : List Nat} {listed : Array Bool} (h : pendB hd listed = false) : ∀ i ∈ hd, listed.getD i true = true := fun i hi => by
  unfold pendB at h
  have := List.any_eq_false.1 h i hi
  simpa using this
theorem pendB_true {hd : List Nat} {listed : Array Bool} (h : pendB hd listed = true) : ∃ i ∈ hd, listed.getD i true = false := by
  unfold pendB at h
  obtain ⟨i, hi, h'⟩ := List.any_eq_true.1 h
  exact ⟨i, hi, by simpa using h'⟩

/-- whatever order is picked: while one of hd is yet to come only operations of hd and of wl may come up; then it is as the worlds of the class have it -/
def wpMix (P : Program) (md : Region.Mode) (ops : Array Oper) (C : World → Prop) (Q : Exit → Act → World → Prop) (hd wl : List Nat) : Nat → Array Bool → Act → Prop
  | 0, listed, a => ∀ w, C w → wpAny P md ops Q 0 listed a w
  | f + 1, listed, a =>
    (pendB hd listed = true → Region.ready md ops listed ≠ [] ∧ ∀ i ∈ Region.ready md ops listed, (i ∈ hd ∨ i ∈ wl) ∧ qOp P ops C i (wpMix P md ops C Q hd wl f (listed.setIfInBounds i true)) a) ∧
    (pendB hd listed = false → (∀ w, C w → wpAny P md ops Q (f + 1) listed a w) ∧ ∀ i ∈ Region.ready md ops listed, i ∈ wl → qOp P ops C i (wpMix P md ops C Q hd wl f (listed.setIfInBounds i true)) a)

theorem wpAny_of_mix {hd wl : List Nat} {Q : Exit → Act → World → Prop} : ∀ (f : Nat) (listed : Array Bool) (a : Act), wpMix P md ops C Q hd wl f listed a → ∀ w, C w → wpAny P md ops Q f listed a w
  | 0, _, _, h, w, hw => h w hw
  | f + 1, listed, a, h, w, hw => by
    cases hp : pendB hd listed with
    | true =>
      obtain ⟨h1, h2⟩ := h.1 hp
      exact ⟨fun h0 => absurd h0 h1, fun i hi => wpOp_of_qOp hw (fun a' w' hw' h' => wpAny_of_mix f _ a' h' w' hw') (h2 i hi).2⟩
    | false => exact (h.2 hp).1 w hw

/-- what is known of an operation that is taken: its value in the class; if it is one of wl, in whatever world -/
def Taken (P : Program) (ops : Array Oper) (C : World → Prop) (wl : List Nat) (i : Nat) (o : Oper) (v : Value) (a : Act) : Prop := YieldsIn P ops C o v a ∧ (i ∈ wl → Yields P ops o v a)

theorem Yields.inClass {o : Oper} {v : Value} {a : Act} (h : Yields P ops o v a) : YieldsIn P ops C o v a := by
  rcases h with ⟨h1, h2⟩ | h
  · exact .inl ⟨h1, fun w _ => by unfold Oper.quietAt; rw [h2 w]; exact ⟨rfl, rfl⟩⟩
  · exact .inr h

theorem qOp_put_taken {wl : List Nat} {i j : Nat} {oi oj : Oper} {v : Value} (hj : ops[j]? = some oj) (hap : oi.apart ops oj = true)
    (hsi : ∀ cs b, oi.op ≠ .select cs b) (hsj : ∀ cs b, oj.op ≠ .select cs b) {K : Act → Prop} {a : Act}
    (hy : Taken P ops C wl i oi v a) (h : qOp P ops C j K (a.put oi.dst v)) :
    qOp P ops C j (fun a' => Taken P ops C wl i oi v a' ∧ K (a'.put oi.dst v)) a := by
  obtain ⟨h1, h2, h3⟩ := Oper.apart_spec hap
  have keep : ∀ (a : Act), Taken P ops C wl i oi v a → ∀ u, Taken P ops C wl i oi v (a.put oj.dst u) := fun a hy u =>
    ⟨hy.1.of_same (execOp_put oi hsi a oj.dst u h3) (wanted_put oi a oj.dst u h3), fun hw => (hy.2 hw).of_same (execOp_put oi hsi a oj.dst u h3) (wanted_put oi a oj.dst u h3)⟩
  unfold qOp at *
  simp only [hj] at *
  rw [wanted_put oj a oi.dst v h1] at h
  split
  · rename_i hw
    simp only [hw, if_true] at h
    obtain ⟨u, hu, hn⟩ := h
    refine ⟨u, fun w hw' => ?_, keep a hy u, by rw [← Act.put_comm a v u h2]; exact hn⟩
    have := hu w hw'
    unfold Oper.quietAt at *
    rwa [execOp_put oj hsj a oi.dst v h1] at this
  · rename_i hw
    simp only [hw] at h
    exact ⟨keep a hy _, by rw [← Act.put_comm a v undef h2]; exact h⟩

/-- the invariant, hd and wl together -/
theorem wpMix_first {hd wl tl : List Nat} {t0 i : Nat} {oi : Oper} {v : Value} {Q : Exit → Act → World → Prop} (hne : ∃ w, C w) (hQ : ∀ c a w, ¬ Q (.panic c) a w) (hi : ops[i]? = some oi) (hsel : ∀ (j : Nat) (o : Oper) cs b, ops[j]? = some o → o.op ≠ .select cs b)
    (hs : sinkOrd md ops t0 hd = true) (hc : chainOrd md ops t0 tl = true) (hdis : ∀ j, j ∈ hd ∨ j ∈ wl → j ∉ t0 :: tl) (hin : i ∈ hd ∨ i ∈ wl) :
    ∀ (f : Nat) (listed : Array Bool) (a : Act), OrdInv md ops (hd ++ wl) (t0 :: tl) listed →
      (∀ j oj, ops[j]? = some oj → j ≠ i → listed.getD j true = false → (∀ e ∈ oj.after, Region.binds md e = true → e.on ≠ i) → oi.apart ops oj = true) →
      i ∈ Region.ready md ops listed → Taken P ops C wl i oi v a →
      wpMix P md ops C Q hd wl f (listed.setIfInBounds i true) (a.put oi.dst v) → wpMix P md ops C Q hd wl (f + 1) listed a := by
  have sinkR : ∀ listed, OrdInv md ops (hd ++ wl) (t0 :: tl) listed → pendB hd listed = true → ∀ j ∈ Region.ready md ops listed, j ∈ hd ∨ j ∈ wl := by
    intro listed inv hp j hj
    obtain ⟨x, hx, hxu⟩ := pendB_true hp
    rcases inv.cover j (mem_ready.1 hj).1 with h | h
    · exact List.mem_append.1 h
    · exfalso
      rcases List.mem_cons.1 h with rfl | h
      · exact sink_waits inv hd hs x hx hxu hj
      · obtain ⟨t', ht', hw⟩ := chain_mem tl t0 hc j h
        obtain ⟨oj, hoj, e, he, hb, hon⟩ := Region.waitsFor_spec hw
        obtain ⟨_, o', ho', hall⟩ := mem_ready.1 hj
        have : oj = o' := Option.some.inj (hoj.symm.trans ho')
        subst this
        have h3 := hall e he hb
        rw [hon, getD_both (inv.tail t' ht')] at h3
        cases h3
  have inW : ∀ listed, pendB hd listed = false → i ∈ Region.ready md ops listed → i ∈ wl := by
    intro listed hp hr
    rcases hin with h | h
    · have h1 := pendB_false hp i h
      rw [(mem_ready.1 hr).1] at h1
      cases h1
    · exact h
  intro f
  induction f with
  | zero =>
    intro listed a inv hfree hr hy H
    have none : ∀ j, j ∈ Region.ready md ops listed → j ≠ i → False := fun j hj hji => by
      obtain ⟨w, hw⟩ := hne
      have h1 := ready_mono hj hji
      rw [(H w hw).1] at h1
      cases h1
    have one : ∀ j, j ∈ Region.ready md ops listed → qOp P ops C j (wpMix P md ops C Q hd wl 0 (listed.setIfInBounds j true)) a := fun j hj => by
      by_cases hji : j = i
      · subst hji; exact hy.1.qOp hi H
      · exact (none j hj hji).elim
    exact ⟨fun hp => ⟨fun h => (by rw [h] at hr; cases hr), fun j hj => ⟨sinkR listed inv hp j hj, one j hj⟩⟩,
      fun hp => ⟨fun w hw => wpAny_first hi hsel (fun c a w hq => absurd hq (hQ _ _ _)) 0 listed a w hfree hr (hy.2 (inW listed hp hr)) (H w hw), fun j hj _ => one j hj⟩⟩
  | succ f ih =>
    intro listed a inv hfree hr hy H
    have step : ∀ j, j ∈ Region.ready md ops listed → j ≠ i → (j ∈ hd ∨ j ∈ wl) → qOp P ops C j (wpMix P md ops C Q hd wl f ((listed.setIfInBounds i true).setIfInBounds j true)) (a.put oi.dst v) →
        qOp P ops C j (wpMix P md ops C Q hd wl (f + 1) (listed.setIfInBounds j true)) a := fun j hj hji hjn h1 => by
      obtain ⟨hjun, oj, hoj, hall⟩ := mem_ready.1 hj
      have hun := (mem_ready.1 hr).1
      have hnot : ∀ e ∈ oj.after, Region.binds md e = true → e.on ≠ i := fun e he hb heq => by
        have h1 := hall e he hb
        rw [heq, getD_both hun] at h1
        cases h1
      have h2 := qOp_put_taken hoj (hfree j oj hoj hji hjun hnot) (fun cs b => hsel i oi cs b hi) (fun cs b => hsel j oj cs b hoj) hy h1
      have hfree' : ∀ k ok, ops[k]? = some ok → k ≠ i → (listed.setIfInBounds j true).getD k true = false →
          (∀ e ∈ ok.after, Region.binds md e = true → e.on ≠ i) → oi.apart ops ok = true := fun k ok hk hki hun hno => by
        refine hfree k ok hk hki ?_ hno
        by_cases hjk : j = k
        · subst hjk; exact hjun
        · rw [getD_set_ne true hjk] at hun; exact hun
      refine qOp_mono (fun a' h3 => ih (listed.setIfInBounds j true) a' (inv.set hj (hdis j hjn)) hfree' (ready_mono hr (Ne.symm hji)) h3.1 ?_) h2
      rw [Array.setIfInBounds_comm _ _ hji]
      exact h3.2
    have pend_set : ∀ j ∈ hd, j ≠ i → listed.getD j true = false → pendB hd (listed.setIfInBounds i true) = true := fun j hj hji hju => by
      unfold pendB
      exact List.any_eq_true.2 ⟨j, hj, by rw [getD_set_ne true (Ne.symm hji), hju]; rfl⟩
    refine ⟨fun hp => ⟨fun h => (by rw [h] at hr; cases hr), fun j hj => ⟨sinkR listed inv hp j hj, ?_⟩⟩, fun hp => ⟨fun w hw => ?_, fun j hj hjw => ?_⟩⟩
    · by_cases hji : j = i
      · subst hji; exact hy.1.qOp hi H
      · have hjn := sinkR listed inv hp j hj
        have hjr := ready_mono hj hji
        cases hp' : pendB hd (listed.setIfInBounds i true) with
        | true => exact step j hj hji hjn ((H.1 hp').2 j hjr).2
        | false =>
          rcases hjn with h | h
          · rw [pend_set j h hji (mem_ready.1 hj).1] at hp'
            cases hp'
          · exact step j hj hji (.inr h) ((H.2 hp').2 j hjr h)
    · exact wpAny_first hi hsel (fun c a w hq => absurd hq (hQ _ _ _)) (f + 1) listed a w hfree hr (hy.2 (inW listed hp hr)) (wpAny_of_mix (f + 1) _ _ H w hw)
    · by_cases hji : j = i
      · subst hji; exact hy.1.qOp hi H
      · have hjr := ready_mono hj hji
        cases hp' : pendB hd (listed.setIfInBounds i true) with
        | true => exact step j hj hji (.inr hjw) ((H.1 hp').2 j hjr).2
        | false => exact step j hj hji (.inr hjw) ((H.2 hp').2 j hjr hjw)

/-- steps: an operation that needs no world, or a quiet one -/
def wpSteps (P : Program) (ops : Array Oper) (C : World → Prop) (K : Act → Prop) : List (Bool × Oper) → Act → Prop
  | [], a => K a
  | (true, o) :: r, a => ∃ v, Yields P ops o v a ∧ wpSteps P ops C K r (a.put o.dst v)
  | (false, o) :: r, a => wpQuiet P ops C (fun a' => wpSteps P ops C K r a') [o] a

theorem wpSteps_nil {K : Act → Prop} {a : Act} (h : K a) : wpSteps P ops C K [] a := h
theorem wpSteps_any {K : Act → Prop} {a : Act} {o : Oper} {r : List (Bool × Oper)} (v : Value) (hg : o.guard = none) (hy : ∀ w, (execOp a.eval o).run P w = .ok (.value v) w) (h : wpSteps P ops C K r (a.put o.dst v)) : wpSteps P ops C K ((true, o) :: r) a :=
  ⟨v, .inl ⟨by simp [Region.wanted, hg], hy⟩, h⟩
theorem wpSteps_quiet {K : Act → Prop} {a : Act} {o : Oper} {r : List (Bool × Oper)} (h : wpQuiet P ops C (fun a' => wpSteps P ops C K r a') [o] a) : wpSteps P ops C K ((false, o) :: r) a := h

def ordMixB (md : Region.Mode) (ops : Array Oper) (hd wl tl : List Nat) : List (Bool × Nat) → Array Bool → Bool
  | [], listed => !pendB hd listed && wl.all (fun i => listed.getD i true) && ordTail md ops tl listed
  | (_, i) :: r, listed => (Region.ready md ops listed).contains i && Region.free md ops listed i && ordMixB md ops hd wl tl r (listed.setIfInBounds i true)

theorem wpMix_lex {hd wl tl : List Nat} {t0 : Nat} {Q : Exit → Act → World → Prop} (hne : ∃ w, C w) (hQ : ∀ c a w, ¬ Q (.panic c) a w) (hsel : Region.noSelect ops = true) (hs : sinkOrd md ops t0 hd = true) (hc : chainOrd md ops t0 tl = true) (hdis : ∀ j, j ∈ hd ∨ j ∈ wl → j ∉ t0 :: tl)
    (hw1 : ∀ j ∈ hd, j ∉ wl) (lt : List Oper) (ht : (t0 :: tl).map (ops[·]?) = lt.map some) {K : Act → Prop} (hK : ∀ a w, C w → K a → wpList P ops Q lt a w) :
    ∀ (is : List (Bool × Nat)) (l : List (Bool × Oper)) (listed : Array Bool) (a : Act), is.map (fun x => (x.1, ops[x.2]?)) = l.map (fun x => (x.1, some x.2)) → (∀ x ∈ is, (x.1 = true → x.2 ∈ wl) ∧ (x.1 = false → x.2 ∈ hd)) → OrdInv md ops (hd ++ wl) (t0 :: tl) listed →
    ordMixB md ops hd wl (t0 :: tl) is listed = true → wpSteps P ops C K l a → wpMix P md ops C Q hd wl (l.length + lt.length) listed a
  | [], [], listed, a, _, _, _, hB, h => by
    simp only [ordMixB, Bool.and_eq_true, Bool.not_eq_true'] at hB
    obtain ⟨⟨h1, h2⟩, h3⟩ := hB
    have fin : ∀ w, C w → wpAny P md ops Q lt.length listed a w := fun w hw => wpAny_of_ordTail (t0 :: tl) lt listed a w ht h3 (hK a w hw h)
    simp only [List.length_nil, Nat.zero_add]
    cases hl : lt.length with
    | zero => intro w hw; rw [← hl]; exact fin w hw
    | succ n =>
      refine ⟨fun hp => (by rw [h1] at hp; cases hp), fun _ => ⟨fun w hw => (by rw [← hl]; exact fin w hw), fun i hi hiw => ?_⟩⟩
      have := List.all_eq_true.1 h2 i hiw
      rw [(mem_ready.1 hi).1] at this
      cases this
  | [], _ :: _, _, _, hm, _, _, _, _ => by simp at hm
  | _ :: _, [], _, _, hm, _, _, _, _ => by simp at hm
  | (b, i) :: is, (b', o) :: l, listed, a, hm, hin, inv, hB, h => by
    simp only [List.map_cons, List.cons.injEq, Prod.mk.injEq] at hm
    obtain ⟨⟨rfl, h0⟩, hm'⟩ := hm
    simp only [ordMixB, Bool.and_eq_true] at hB
    obtain ⟨⟨hr, hf⟩, hB'⟩ := hB
    have hr' : i ∈ Region.ready md ops listed := by simpa using hr
    have hmem : i ∈ hd ∨ i ∈ wl := by
      have := hin (b, i) (by simp)
      cases b with
      | true => exact .inr (this.1 rfl)
      | false => exact .inl (this.2 rfl)
    have inv' := inv.set hr' (hdis i hmem)
    rw [show ((b, o) :: l).length + lt.length = (l.length + lt.length) + 1 by simp only [List.length_cons]; omega]
    obtain ⟨v, hy, hK'⟩ : ∃ v, Taken P ops C wl i o v a ∧ wpSteps P ops C K l (a.put o.dst v) := by
      cases b with
      | true =>
        obtain ⟨v, hy, h'⟩ := h
        exact ⟨v, ⟨Yields.inClass hy, fun _ => hy⟩, h'⟩
      | false =>
        have hst : qOp P ops C i (fun a' => wpSteps P ops C K l a') a := by
          have h' : wpQuiet P ops C (fun a' => wpSteps P ops C K l a') [o] a := h
          unfold qOp; simp only [h0]; exact h'
        obtain ⟨v, hy, h'⟩ := yieldsIn_of_qOp h0 hst
        exact ⟨v, ⟨hy, fun hw => absurd hw (hw1 i ((hin (false, i) (by simp)).2 rfl))⟩, h'⟩
    exact wpMix_first hne hQ h0 (Region.noSelect_spec hsel) hs hc hdis hmem _ listed a inv (Region.free_spec h0 hf) hr' hy
      (wpMix_lex hne hQ hsel hs hc hdis hw1 lt ht hK is l _ _ hm' (fun x hx => hin x (by simp [hx])) inv' hB' hK')

def mixB (md : Region.Mode) (ops : Array Oper) (is : List (Bool × Nat)) (t0 : Nat) (tl : List Nat) : Bool :=
  let hd := (is.filter (fun x => !x.1)).map (·.2)
  let wl := (is.filter (·.1)).map (·.2)
  Region.noSelect ops && sinkOrd md ops t0 hd && chainOrd md ops t0 tl && ((List.range ops.size).all fun i => hd.contains i || wl.contains i || (t0 :: tl).contains i) &&
    ((t0 :: tl).all fun t => !hd.contains t && !wl.contains t) && (hd.all fun i => !wl.contains i) && ordMixB md ops hd wl (t0 :: tl) is (Array.replicate ops.size false)

theorem filterMap_ok2 {l : List Oper} : ∀ (is : List (Bool × Nat)), (∀ x ∈ is, x.2 < l.length) →
    is.map (fun x => (x.1, l.toArray[x.2]?)) = (is.filterMap fun x => (l[x.2]?).map fun o => (x.1, o)).map (fun x => (x.1, some x.2)) ∧ (is.filterMap fun x => (l[x.2]?).map fun o => (x.1, o)).length = is.length
  | [], _ => ⟨rfl, rfl⟩
  | (b, i) :: is, h => by
    have hi := h (b, i) (by simp)
    obtain ⟨h1, h2⟩ := filterMap_ok2 is (fun j hj => h j (by simp [hj]))
    have e : l[i]? = some l[i] := by simp [hi]
    refine ⟨?_, ?_⟩
    · rw [List.map_cons, h1, List.filterMap_cons]
      simp only [e, Option.map_some, List.map_cons]
      simp [hi]
    · rw [List.filterMap_cons]
      simp only [e, Option.map_some, List.length_cons]
      simp [h2]

/-- THE THEOREM: is: the operations in the order in which they are walked, 'true' at one that needs no world; t0, tl: the rest, in one forced order. -/
theorem later_mix {P : Program} {id : Nat} {Q : Exit → Act → World → Prop} {a : Act} {w : World} {l : List Oper} (is : List (Bool × Nat)) (t0 : Nat) (tl : List Nat) (hm : P.follows .mixedOrders = true)
    (hB : (mixB .any l.toArray is t0 tl && (is.map (·.2) ++ t0 :: tl).all (fun i => decide (i < l.length)) && decide (is.length + (t0 :: tl).length = l.length)) = true)
    (h : wpSteps P l.toArray (fun w' => ∃ g : Later w, w' = g.val) (fun a' => ∀ g : Later w, wpList P l.toArray (NoPanic Q) ((t0 :: tl).filterMap (l[·]?)) a' g.val) (is.filterMap fun x => (l[x.2]?).map fun o => (x.1, o)) a) :
    (Code.region id l.toArray true).wp P Q a w := by
  simp only [mixB, Bool.and_eq_true, decide_eq_true_eq, List.all_eq_true, List.mem_append] at hB
  obtain ⟨⟨⟨⟨⟨⟨⟨⟨hsel, hs⟩, hc⟩, hcov⟩, hdis⟩, hwd⟩, hord⟩, hlt⟩, hlen⟩ := hB
  obtain ⟨q1, q2⟩ := filterMap_ok2 is (fun x hx => hlt x.2 (.inl (List.mem_map.2 ⟨x, hx, rfl⟩)))
  obtain ⟨r1, r2⟩ := filterMap_ok (t0 :: tl) (fun i hi => hlt i (.inr hi))
  have hdis' : ∀ t ∈ t0 :: tl, t ∉ (is.filter (fun x => !x.1)).map (·.2) ∧ t ∉ (is.filter (·.1)).map (·.2) := fun t ht => by
    have := hdis t ht
    simpa only [Bool.and_eq_true, Bool.not_eq_true', List.contains_eq_mem, decide_eq_false_iff_not] using this
  refine wp_region_noPanic (wp_region_any hm ?_)
  have inv0 : OrdInv .any l.toArray ((is.filter (fun x => !x.1)).map (·.2) ++ (is.filter (·.1)).map (·.2)) (t0 :: tl) (Array.replicate l.toArray.size false) := by
    refine ⟨by simp, fun j oj _ hl => (by rw [getD_replicate_false] at hl; cases hl), fun t ht' => ?_, fun j hj => ?_⟩
    · exact getD_in (by have := hlt t (.inr ht'); simpa using this) (getD_replicate_false _ _)
    · have hjl : j < l.toArray.size := by
        rcases Nat.lt_or_ge j l.toArray.size with h' | h'
        · exact h'
        · have hsz : (Array.replicate l.toArray.size false).size ≤ j := by simpa using h'
          have h1 : (Array.replicate l.toArray.size false).getD j true = true := by unfold Array.getD; rw [dif_neg (by omega)]
          rw [h1] at hj
          cases hj
      have := hcov j (List.mem_range.2 hjl)
      simp only [Bool.or_eq_true, List.contains_iff_mem] at this
      rcases this with (h' | h') | h'
      · exact .inl (List.mem_append.2 (.inl h'))
      · exact .inl (List.mem_append.2 (.inr h'))
      · exact .inr h'
  have key := wpMix_lex (P := P) (md := .any) (C := fun w' => ∃ g : Later w, w' = g.val) (Q := NoPanic Q) ⟨w, ⟨w, Below.refl _ _⟩, rfl⟩ (fun c a w hq => hq) hsel hs hc (fun j hj hj' => by
      rcases hj with h' | h'
      · exact (hdis' j hj').1 h'
      · exact (hdis' j hj').2 h') (fun j hj hj' => by
      have := hwd j hj
      simp only [Bool.not_eq_true', List.contains_eq_mem, decide_eq_false_iff_not] at this
      exact this hj') _ r1 (fun a' w' hw' hg => by obtain ⟨g, rfl⟩ := hw'; exact hg g) is _ _ a q1 (fun x hx => ⟨fun hb => List.mem_map.2 ⟨x, List.mem_filter.2 ⟨hx, hb⟩, rfl⟩, fun hb => List.mem_map.2 ⟨x, List.mem_filter.2 ⟨hx, by simp [hb]⟩, rfl⟩⟩) inv0 hord h
  have := wpAny_of_mix _ _ _ key { w with drawn := w.drawn + 1 } ⟨⟨w.drew, (Below.refl _ _).drew⟩, rfl⟩
  rw [q2, r2, hlen] at this
  simpa using this
end
end Bal

/-
  Ratios and their least spans.
-/
namespace Go.Proofs.Ytheahhmlmpameaa
open Go.RowKit Bal Bal.Trim Bal.Gas
set_option linter.unusedVariables false
set_option linter.unusedSimpArgs false
set_option maxHeartbeats 400000

theorem f_heated (x y u v : Int) (w : World) :
    Calls Try.prog 28 #[.agg #[.int .i64 x, .int .i64 y], .agg #[.int .i64 u, .int .i64 v]] w fun e w' => e = .returned (.agg #[.int .i64 (wrap64 (x + u)), .int .i64 (wrap64 (y + v))]) ∧ Kept w w' := by
  go_enter Try.func28, Try.ntmps28
  go_wp2
  exact bodyPost_ret (v := .agg #[.int .i64 (wrap64 (x + u)), .int .i64 (wrap64 (y + v))]) (by simp [results, Try.results28, go_sem]) rfl ⟨rfl, by (exact kpt)⟩

theorem f_down (r : Ratio) (w : World) (h0 : 0 < r.den) (h1 : r.den ≤ 1000000000000000) (h2 : -1000000000000000 ≤ r.num) (h3 : r.num ≤ 1000000000000000) :
    Calls Try.prog 30 #[.agg #[.int .i64 r.num, .int .i64 r.den]] w fun e w' => e = .returned (.int .i64 (down r)) ∧ Kept w w' := by
  obtain ⟨d1, d2⟩ := div_bd (N := 1000000000000000) h2 h3 h0 (by omega)
  by_cases hn : r.num < 0
  · have ht := tdiv_down hn h0
    have b1 : -1000000000000001 ≤ r.num.tdiv r.den := by split at ht <;> omega
    have b2 : r.num.tdiv r.den ≤ 1000000000000001 := by split at ht <;> omega
    have HT := Lib.hid ht
    clear ht
    go_enter Try.func30, Try.ntmps30
    go_wp2
    all_goals
      go_ret
      refine ⟨ret_int ?_, by (exact kpt)⟩
      have ht := HT.out
      simp_all [down]
  · have HT := Lib.hid (tdiv_pos (b := r.den) (show 0 ≤ r.num by omega))
    go_enter Try.func30, Try.ntmps30
    go_wp2
    go_ret
    exact ⟨ret_int (by simp [down]), by (exact kpt)⟩

theorem f_up (r : Ratio) (w : World) (h0 : 0 < r.den) (h1 : r.den ≤ 1000000000000000) (h2 : -1000000000000000 ≤ r.num) (h3 : r.num ≤ 1000000000000000) :
    Calls Try.prog 31 #[.agg #[.int .i64 r.num, .int .i64 r.den]] w fun e w' => e = .returned (.int .i64 (up r)) ∧ Kept w w' := by
  obtain ⟨d1, d2⟩ := div_bd (N := 1000000000000000) (a := -r.num) (b := r.den) (by omega) (by omega) h0 (by omega)
  go_enter Try.func31, Try.ntmps31
  go_wp2_with (go_at_call 30; (with_reducible refine (f_down ⟨-r.num, r.den⟩ _ h0 h1 (by simp; omega) (by simp; omega)).mono ?_); rintro e w1 ⟨rfl, hb1⟩; simp only [down])
  go_ret
  exact ⟨ret_int (by simp [up]), by (exact kpt)⟩

def ratioOk (r : Ratio) : Prop := 0 < r.den ∧ r.den ≤ 1000000000000000 ∧ -1000000000000000 ≤ r.num ∧ r.num ≤ 1000000000000000
/-- a span lies in a block of the call's own, the result's block is there -/
def Made (w : World) (lo hi : Int) (s : Value) (wx : World) : Prop :=
  ∃ g, s = .pointer (some ⟨g, 0, none⟩) ∧ w.heap.size < g ∧ Blk wx g #[.int .i64 lo, .int .i64 hi] 25 ∧ Blk wx w.heap.size #[.int .i64 0, .int .i64 0] 25 ∧ Kept w wx
def LeastRel (w : World) (g : Nat) (xs : List Ratio) (i : Value) (wx : World) : Prop :=
  ∃ k : Nat, k + 1 ≤ xs.length ∧ i = .int .i64 k ∧ Blk wx g #[.int .i64 (leastLo (xs.take (k + 1))), .int .i64 (leastHi (xs.take (k + 1)))] 25 ∧ Blk wx w.heap.size #[.int .i64 0, .int .i64 0] 25 ∧ Kept w wx

theorem f_least (a : Option Addr) (n cap : Nat) (xs : List Ratio) (w : World) (hn : xs.length = n) {B : Nat} (hx : Row Ratio.cells 2 w.heap.size w a xs) (h0 : 2 ≤ n) (h1 : n ≤ cap) (h2 : cap ≤ 9223372036854775807) (hv : ∀ x ∈ xs, ratioOk x) :
    Calls Try.prog 18 #[.slice a n cap] w fun e w' => e = .returned (.agg #[.int .i64 (leastLo xs), .int .i64 (leastHi xs)]) ∧ Kept w w' := by
  subst hn
  have HV := Lib.hid hv
  clear hv
  obtain ⟨b, off, rfl, hb, c0, c1⟩ := Ratio.row hx 0 (by omega)
  have c00 : w.cell? ⟨b, off, none⟩ = some (.int .i64 xs[0].num) := by simpa using c0
  have c01 : w.cell? ⟨b, off + 1, none⟩ = some (.int .i64 xs[0].den) := by simpa using c1
  clear c0 c1
  have hlt1 : (0 : Int) < xs.length := by omega
  have hlt0 : 0 < xs.length := by omega
  have k0 : ∀ w', Kept w w' → w'.cell? ⟨b, off, none⟩ = some (.int .i64 xs[0].num) := fun w' h => by rw [h.cell (p := ⟨b, off, none⟩) hb]; exact c00
  have k1 : ∀ w', Kept w w' → w'.cell? ⟨b, off + 1, none⟩ = some (.int .i64 xs[0].den) := fun w' h => by rw [h.cell (p := ⟨b, off + 1, none⟩) hb]; exact c01
  go_enter Try.func18, Try.ntmps18
  go_upto_region 1 with fail
  go_cut [3] (fun s3 wx => Made w (down xs[0]) (up xs[0]) s3 wx)
  case first =>
    obtain ⟨v0, v1, v2, v3⟩ := HV.out xs[0] (List.getElem_mem (by omega))
    go_region_held3 (fun w' => Kept w w') (exact kpt) (first | (go_at_call 30; (with_reducible refine (f_down xs[0] _ v0 v1 v2 v3).mono ?_); rintro e w1 ⟨rfl, hb1⟩; obtain ⟨hc1, hf1, hl1⟩ := bcell3 hb1) | (go_at_call 31; (with_reducible refine (f_up xs[0] _ v0 v1 v2 v3).mono ?_); rintro e w1 ⟨rfl, hb1⟩; obtain ⟨hc1, hf1, hl1⟩ := bcell3 hb1))
    all_goals (go_wp2_with fail; go_meet)
    all_goals
      refine ⟨_, rfl, ?_, ?_, ?_, ?_⟩
      · first | (simp; done) | (refine Blk.lt (arr := ?_) (t := ?_) ?_; rotate_left 2; focus (exact blk))
      · (exact blkc)
      · (exact blkc)
      · (exact kpt)
  case rest =>
    obtain ⟨g, rfl, hg, q1, q0, hk⟩ := hcut
    have ecap : (1 : Int) < cap := by omega
    go_wp2
    go_loopw [18] (fun i wr => LeastRel w g xs i wr) (fun i _ => xs.length - (intOf i).toNat)
    case atStart => exact ⟨0, by omega, rfl, by rw [List.take_succ_eq_append_getElem hlt0]; simpa [leastLo, leastHi, lmin, lmax] using q1, q0, hk⟩
    case round =>
      obtain ⟨k, hkl, rfl, q1, q0, hk'⟩ := hrel
      by_cases hlt : k < xs.length - 1
      · have hlt' : k + 1 < xs.length := by omega
        obtain ⟨b', off', hab, hb', e0, e1⟩ := Ratio.row (hx.later hk' (Nat.le_refl _)) (k + 1) hlt'
        simp only [Option.some.injEq, Addr.mk.injEq, and_true] at hab
        obtain ⟨rfl, rfl⟩ := hab
        rw [show off + (k + 1) * 2 = off + 2 + k * 2 by omega] at e0 e1
        obtain ⟨v0, v1, v2, v3⟩ := HV.out xs[k + 1] (List.getElem_mem hlt')
        go_wp2
        refine at_world (S := fun W => Blk W g #[.int .i64 (leastLo (xs.take (k + 1))), .int .i64 (leastHi (xs.take (k + 1)))] 25 ∧ Blk W wr.heap.size #[.int .i64 xs[k + 1].num, .int .i64 xs[k + 1].den] 65 ∧ Blk W w.heap.size #[.int .i64 0, .int .i64 0] 25 ∧ Kept w W) ⟨by (exact blk), by (exact blk), by (exact blk), by (exact kpt)⟩ ?_
        rintro W ⟨r1, r2, r0, hkW⟩
        have r1c0 := fun g : Later W => (r1.later g).cell 0
        have r1f0 := fun g : Later W => (r1.later g).free 0
        have r1c1 := fun g : Later W => (r1.later g).cell 1
        have r1f1 := fun g : Later W => (r1.later g).free 1
        have r1l := fun g : Later W => (r1.later g).lt
        simp at r1c0 r1c1
        have r2c0 := fun g : Later W => (r2.later g).cell 0
        have r2f0 := fun g : Later W => (r2.later g).free 0
        have r2c1 := fun g : Later W => (r2.later g).cell 1
        have r2f1 := fun g : Later W => (r2.later g).free 1
        have r2l := fun g : Later W => (r2.later g).lt
        simp at r2c0 r2c1
        refine later_mix [(false, 0), (false, 1), (false, 2), (false, 3), (false, 4), (false, 5), (false, 6), (false, 7), (false, 8), (false, 10), (true, 9)] 11 [12, 13] (by kernel_rfl) (by kernel_rfl) ?_
        simp only [List.filterMap_cons, List.filterMap_nil, List.getElem?_cons_zero, List.getElem?_cons_succ, Option.map_some]
        repeat (refine wpSteps_quiet ?_; (first | go_big_quiet_skip | (go_big_quiet_want; go_big_quiet_op; first | go_big_quiet_on | (apply Exists.intro; refine ⟨fun g => ?_, ?_⟩; (focus (first | (go_at_call 30; exact Later.call (f_down xs[k + 1] _ v0 v1 v2 v3)) | (go_at_call 31; exact Later.call (f_up xs[k + 1] _ v0 v1 v2 v3)))); go_big_quiet_on))); refine wpQuiet_nil ?_)
        refine wpSteps_any (.int .i64 (max (leastHi (xs.take (k + 1))) (up xs[k + 1]))) rfl (fun w => ?_) ?_
        · first | (go_simp; done) | (go_simp; simp [ite_max])
        simp only [Act.put, List.setIfInBounds_toArray, List.set_cons_zero, List.set_cons_succ]
        refine wpSteps_nil ?_
        intro gg
        simp only [ite_min, ite_max]
        have hkg := Kept.drop hkW gg.ok
        have p1 := r1.later gg
        have p0 := r0.later gg
        have c2 := p1.cell 0
        have c3 := p1.cell 1
        have f2 := p1.free 0
        have f3 := p1.free 1
        simp at c2 c3
        go_wp2
        refine NoPanic.normal ?_
        go_wp2
        go_round
        case rel =>
          refine ⟨k + 1, by omega, by go_num, ?_, ?_, by (exact kpt)⟩
          · refine Blk.cast (arr := ?_) ?_ ?_
            rotate_left 1
            · focus (exact blk)
            · have hne : xs.take (k + 1) ≠ [] := by intro h; have h2 : (xs.take (k + 1)).length = 0 := (by rw [h]; rfl); rw [List.length_take] at h2; omega
              rw [List.take_succ_eq_append_getElem hlt', leastLo_snoc _ hne, leastHi_snoc _ hne]
              simp [ite_min, ite_max]
          · (exact blkc)
        case measure => simp [intOf]; omega
      · have hk1 : k + 1 = xs.length := by omega
        have c2 := q1.cell 0
        have c3 := q1.cell 1
        have c4 := q0.cell 0
        have c5 := q0.cell 1
        have f4 := q0.free 0
        have f5 := q0.free 1
        rw [List.take_of_length_le (by omega)] at c2 c3
        simp at c2 c3 c4 c5
        go_wp2
        exact bodyPost_ret (v := .agg #[.int .i64 (leastLo xs), .int .i64 (leastHi xs)]) (by simp [results, Try.results18, go_sem, c4, c5, f4, f5]) rfl ⟨rfl, by (exact kpt)⟩

end Go.Proofs.Ytheahhmlmpameaa

/-
  A cell in air: its volumes, and how it fits.
-/
namespace Go.Proofs.Ytheahhmlmpameaa
open Go.RowKit Bal Bal.Trim Bal.Gas
set_option linter.unusedVariables false
set_option linter.unusedSimpArgs false
set_option maxHeartbeats 400000

theorem f_put_bad (c : Cell) (a : Air) (w : World) (hv : cellB c = false) :
    Calls Try.prog 17 #[.agg #[.int .i64 c.room, .int .i64 c.helium, .int .i64 c.air, .int .i64 c.wlo, .int .i64 c.whi, .int .i64 c.leak, .int .i64 c.owed], .agg #[.int .i64 a.plo, .int .i64 a.phi, .int .i64 a.tlo, .int .i64 a.thi]] w fun e w' => e = .returned (.tuple #[.agg #[.int .i64 0, .int .i64 0, .int .i64 0, .int .i64 0, .int .i64 0, .int .i64 0, .int .i64 0, .int .i64 0, .int .i64 0, .int .i64 0, .int .i64 0, .int .i64 0, .int .i64 0, .int .i64 0], .int .i64 31]) ∧ Kept w w' := by
  have he : checkCell c = 31 := by unfold checkCell; rw [hv]; rfl
  go_enter Try.func17, Try.ntmps17
  go_wp2_with (go_at_call 27; (with_reducible refine (f_CheckCell _ _).mono ?_); rintro e w1 ⟨rfl, hb1⟩; obtain ⟨hc1, hf1, hl1⟩ := bcell3 hb1)
  exact bodyPost_ret (v := .tuple #[.agg #[.int .i64 0, .int .i64 0, .int .i64 0, .int .i64 0, .int .i64 0, .int .i64 0, .int .i64 0, .int .i64 0, .int .i64 0, .int .i64 0, .int .i64 0, .int .i64 0, .int .i64 0, .int .i64 0], .int .i64 31]) (by simp [results, Try.results17, go_sem, hc1, hf1]) rfl ⟨rfl, by (exact kpt)⟩

theorem f_put_ok (c : Cell) (a : Air) (w : World) (hv : cellB c = true) :
    Calls Try.prog 17 #[.agg #[.int .i64 c.room, .int .i64 c.helium, .int .i64 c.air, .int .i64 c.wlo, .int .i64 c.whi, .int .i64 c.leak, .int .i64 c.owed], .agg #[.int .i64 a.plo, .int .i64 a.phi, .int .i64 a.tlo, .int .i64 a.thi]] w fun e w' => e = .returned (.tuple #[.agg #[.int .i64 c.room, .int .i64 c.helium, .int .i64 c.air, .int .i64 c.wlo, .int .i64 c.whi, .int .i64 c.leak, .int .i64 c.owed, .int .i64 a.plo, .int .i64 a.phi, .int .i64 a.tlo, .int .i64 a.thi, .int .i64 (c.helium + c.air), .int .i64 (wrap64 (a.tlo + c.wlo)), .int .i64 (wrap64 (a.thi + c.whi))], .int .i64 (checkAir a)]) ∧ Kept w w' := by
  have he : checkCell c = 0 := by unfold checkCell; rw [hv]; rfl
  obtain ⟨_, ⟨u1, u2⟩, ⟨u3, u4⟩, _⟩ := cellB_iff.1 hv
  clear hv
  go_enter Try.func17, Try.ntmps17
  go_wp2_with (go_at_call 27; (with_reducible refine (f_CheckCell _ _).mono ?_); rintro e w1 ⟨rfl, hb1⟩)
  refine at_world (S := fun W => Blk W w.heap.size #[.int .i64 c.room, .int .i64 c.helium, .int .i64 c.air, .int .i64 c.wlo, .int .i64 c.whi, .int .i64 c.leak, .int .i64 c.owed] 38 ∧ Blk W (w.heap.size + 1) #[.int .i64 a.plo, .int .i64 a.phi, .int .i64 a.tlo, .int .i64 a.thi] 27 ∧ Blk W (w.heap.size + 1 + 1) #[.int .i64 0, .int .i64 0, .int .i64 0, .int .i64 0, .int .i64 0, .int .i64 0, .int .i64 0, .int .i64 0, .int .i64 0, .int .i64 0, .int .i64 0, .int .i64 0, .int .i64 0, .int .i64 0] 60 ∧ Kept w W) ⟨by (exact blk), by (exact blk), by (exact blk), by (exact kpt)⟩ ?_
  rintro W ⟨r0, r1, r2, hk⟩
  have r0c0 := fun g : Later W => (r0.later g).cell 0
  have r0f0 := fun g : Later W => (r0.later g).free 0
  have r0c1 := fun g : Later W => (r0.later g).cell 1
  have r0f1 := fun g : Later W => (r0.later g).free 1
  have r0c2 := fun g : Later W => (r0.later g).cell 2
  have r0f2 := fun g : Later W => (r0.later g).free 2
  have r0c3 := fun g : Later W => (r0.later g).cell 3
  have r0f3 := fun g : Later W => (r0.later g).free 3
  have r0c4 := fun g : Later W => (r0.later g).cell 4
  have r0f4 := fun g : Later W => (r0.later g).free 4
  have r0c5 := fun g : Later W => (r0.later g).cell 5
  have r0f5 := fun g : Later W => (r0.later g).free 5
  have r0c6 := fun g : Later W => (r0.later g).cell 6
  have r0f6 := fun g : Later W => (r0.later g).free 6
  have r0l := fun g : Later W => (r0.later g).lt
  simp at r0c0 r0c1 r0c2 r0c3 r0c4 r0c5 r0c6
  have r1c0 := fun g : Later W => (r1.later g).cell 0
  have r1f0 := fun g : Later W => (r1.later g).free 0
  have r1c1 := fun g : Later W => (r1.later g).cell 1
  have r1f1 := fun g : Later W => (r1.later g).free 1
  have r1c2 := fun g : Later W => (r1.later g).cell 2
  have r1f2 := fun g : Later W => (r1.later g).free 2
  have r1c3 := fun g : Later W => (r1.later g).cell 3
  have r1f3 := fun g : Later W => (r1.later g).free 3
  have r1l := fun g : Later W => (r1.later g).lt
  simp at r1c0 r1c1 r1c2 r1c3
  have r2c0 := fun g : Later W => (r2.later g).cell 0
  have r2f0 := fun g : Later W => (r2.later g).free 0
  have r2c1 := fun g : Later W => (r2.later g).cell 1
  have r2f1 := fun g : Later W => (r2.later g).free 1
  have r2c2 := fun g : Later W => (r2.later g).cell 2
  have r2f2 := fun g : Later W => (r2.later g).free 2
  have r2c3 := fun g : Later W => (r2.later g).cell 3
  have r2f3 := fun g : Later W => (r2.later g).free 3
  have r2c4 := fun g : Later W => (r2.later g).cell 4
  have r2f4 := fun g : Later W => (r2.later g).free 4
  have r2c5 := fun g : Later W => (r2.later g).cell 5
  have r2f5 := fun g : Later W => (r2.later g).free 5
  have r2c6 := fun g : Later W => (r2.later g).cell 6
  have r2f6 := fun g : Later W => (r2.later g).free 6
  have r2c7 := fun g : Later W => (r2.later g).cell 7
  have r2f7 := fun g : Later W => (r2.later g).free 7
  have r2c8 := fun g : Later W => (r2.later g).cell 8
  have r2f8 := fun g : Later W => (r2.later g).free 8
  have r2c9 := fun g : Later W => (r2.later g).cell 9
  have r2f9 := fun g : Later W => (r2.later g).free 9
  have r2c10 := fun g : Later W => (r2.later g).cell 10
  have r2f10 := fun g : Later W => (r2.later g).free 10
  have r2c11 := fun g : Later W => (r2.later g).cell 11
  have r2f11 := fun g : Later W => (r2.later g).free 11
  have r2c12 := fun g : Later W => (r2.later g).cell 12
  have r2f12 := fun g : Later W => (r2.later g).free 12
  have r2c13 := fun g : Later W => (r2.later g).cell 13
  have r2f13 := fun g : Later W => (r2.later g).free 13
  have r2l := fun g : Later W => (r2.later g).lt
  simp at r2c0 r2c1 r2c2 r2c3 r2c4 r2c5 r2c6 r2c7 r2c8 r2c9 r2c10 r2c11 r2c12 r2c13
  refine later_mix [(false, 0), (false, 1), (false, 2), (false, 3), (false, 4), (false, 5), (false, 6), (false, 7), (false, 8), (false, 9), (false, 10), (false, 11), (false, 12), (false, 13), (false, 14)] 15 [16] (by kernel_rfl) (by kernel_rfl) ?_
  simp only [List.filterMap_cons, List.filterMap_nil, List.getElem?_cons_zero, List.getElem?_cons_succ, Option.map_some]
  repeat (refine wpSteps_quiet ?_; (first | go_big_quiet_skip | (go_big_quiet_want; go_big_quiet_op; first | go_big_quiet_on | (apply Exists.intro; refine ⟨fun g => ?_, ?_⟩; (focus (first | (go_at_call 28; exact Later.call (f_heated _ _ _ _ _)) | (go_at_call 29; exact Later.call (f_CheckAir a _)))); go_big_quiet_on))); refine wpQuiet_nil ?_)
  refine wpSteps_nil ?_
  intro gg
  have hkg := Kept.drop hk gg.ok
  go_wp2
  refine NoPanic.normal ?_
  go_wp2
  exact bodyPost_ret (v := .tuple #[.agg #[.int .i64 c.room, .int .i64 c.helium, .int .i64 c.air, .int .i64 c.wlo, .int .i64 c.whi, .int .i64 c.leak, .int .i64 c.owed, .int .i64 a.plo, .int .i64 a.phi, .int .i64 a.tlo, .int .i64 a.thi, .int .i64 (c.helium + c.air), .int .i64 (wrap64 (a.tlo + c.wlo)), .int .i64 (wrap64 (a.thi + c.whi))], .int .i64 (checkAir a)]) (by simp [results, Try.results17, go_sem, r2c0, r2f0, r2c1, r2f1, r2c2, r2f2, r2c3, r2f3, r2c4, r2f4, r2c5, r2f5, r2c6, r2f6, r2c7, r2f7, r2c8, r2f8, r2c9, r2f9, r2c10, r2f10, r2c11, r2f11, r2c12, r2f12, r2c13, r2f13]) rfl ⟨rfl, by (exact kpt)⟩

end Go.Proofs.Ytheahhmlmpameaa

/-
  The reference of gas: its small functions.
-/
namespace Go.Proofs.Ytheahhmlmpameaa
open Go.RowKit Bal Bal.Trim Bal.Gas
set_option linter.unusedVariables false
set_option linter.unusedSimpArgs false
set_option maxHeartbeats 400000

theorem w64_in (n : Int) (h : -9223372036854775808 ≤ n ∧ n ≤ 9223372036854775807) : wrap64 n = n := by unfold wrap64; omega

theorem r_spanned (x y lo hi : Int) (w : World) :
    Calls Try.prog 25 #[.agg #[.int .i64 x, .int .i64 y], .int .i64 lo, .int .i64 hi] w fun e w' => e = .returned (.bool (spanIn x y lo hi)) ∧ Kept w w' := by
  have he : spanIn x y lo hi = (decide (lo ≤ x) && decide (x ≤ y) && decide (y ≤ hi)) := by
    simp only [spanIn, rng, inB, List.all_cons, List.all_nil, Bool.and_true]
    rw [Bool.eq_iff_iff]
    simp
    omega
  rw [he]
  by_cases h1 : lo ≤ x <;> by_cases h2 : x ≤ y <;> by_cases h3 : y ≤ hi
  all_goals
    go_enter Try.func25, Try.ntmps25
    go_wp2
    all_goals (go_ret; refine ⟨ret_bool ?_, by (exact kpt)⟩; simp_all)

theorem r_Temp (x y : Int) (w : World) :
    Calls Try.prog 26 #[.agg #[.int .i64 x, .int .i64 y]] w fun e w' => e = .returned (.bool (spanIn x y (1500) (3500))) ∧ Kept w w' := by
  go_enter Try.func26, Try.ntmps26
  go_wp2_with (go_at_call 25; (with_reducible refine (r_spanned _ _ _ _ _).mono ?_); rintro e w1 ⟨rfl, hb1⟩; obtain ⟨hc1, hf1, hl1⟩ := bcell3 hb1)
  go_ret
  exact ⟨rfl, by (exact kpt)⟩

theorem r_Air (a : Air) (w : World) :
    Calls Try.prog 13 #[.agg #[.int .i64 a.plo, .int .i64 a.phi, .int .i64 a.tlo, .int .i64 a.thi]] w fun e w' => e = .returned (.bool (airB a)) ∧ Kept w w' := by
  go_enter Try.func13, Try.ntmps13
  go_wp2_with (first | (go_at_call 25; (with_reducible refine (r_spanned _ _ _ _ _).mono ?_); rintro e w1 ⟨rfl, hb1⟩; obtain ⟨hc1, hf1, hl1⟩ := bcell3 hb1) | (go_at_call 26; (with_reducible refine (r_Temp _ _ _).mono ?_); rintro e w1 ⟨rfl, hb1⟩; obtain ⟨hc1, hf1, hl1⟩ := bcell3 hb1))
  all_goals (go_ret; refine ⟨ret_bool ?_, by (exact kpt)⟩; simp_all [airB])

theorem r_CheckAir (a : Air) (w : World) :
    Calls Try.prog 5 #[.agg #[.int .i64 a.plo, .int .i64 a.phi, .int .i64 a.tlo, .int .i64 a.thi]] w fun e w' => e = .returned (.int .i64 (checkAir a)) ∧ Kept w w' := by
  cases hv : airB a
  all_goals
    go_enter Try.func5, Try.ntmps5
    go_wp2_with (go_at_call 13; (with_reducible refine (r_Air a _).mono ?_); rw [hv]; rintro e w1 ⟨rfl, hb1⟩; obtain ⟨hc1, hf1, hl1⟩ := bcell3 hb1)
    all_goals (go_ret; refine ⟨ret_int ?_, by (exact kpt)⟩; simp_all [checkAir])

theorem f_put_good (c : Cell) (a : Air) (w : World) (hv : cellB c = true) (ha : airB a = true) :
    Calls Try.prog 17 #[.agg #[.int .i64 c.room, .int .i64 c.helium, .int .i64 c.air, .int .i64 c.wlo, .int .i64 c.whi, .int .i64 c.leak, .int .i64 c.owed], .agg #[.int .i64 a.plo, .int .i64 a.phi, .int .i64 a.tlo, .int .i64 a.thi]] w fun e w' => e = .returned (.tuple #[.agg #[.int .i64 c.room, .int .i64 c.helium, .int .i64 c.air, .int .i64 c.wlo, .int .i64 c.whi, .int .i64 c.leak, .int .i64 c.owed, .int .i64 a.plo, .int .i64 a.phi, .int .i64 a.tlo, .int .i64 a.thi, .int .i64 (amount c), .int .i64 (heatLo c a), .int .i64 (heatHi c a)], .int .i64 0]) ∧ Kept w w' := by
  obtain ⟨h1, h2, h3, h4, h5, h6⟩ := cellB_iff.1 hv
  obtain ⟨h7, h8⟩ := airB_iff.1 ha
  have := f_put_ok c a w hv
  rwa [show checkAir a = 0 by simp [checkAir, ha], w64_in (a.tlo + c.wlo) (by omega), w64_in (a.thi + c.whi) (by omega)] at this

theorem f_least2 (r s : Ratio) (t : TypeId) (W : World) (m : Nat) (hm : m = W.heap.size) (hr : ratioOk r) (hs : ratioOk s) :
    Calls Try.prog 18 #[.slice (some ⟨m, 0, none⟩) 2 2] (W.alloc (.cells #[.int .i64 r.num, .int .i64 r.den, .int .i64 s.num, .int .i64 s.den] t)) fun e w' => e = .returned (.agg #[.int .i64 (leastLo [r, s]), .int .i64 (leastHi [r, s])]) ∧ Kept (W.alloc (.cells #[.int .i64 r.num, .int .i64 r.den, .int .i64 s.num, .int .i64 s.den] t)) w' := by
  subst hm
  exact f_least _ 2 2 [r, s] _ rfl (B := 0) (Row.fresh (enc := Ratio.cells) (fun _ => rfl) rfl) (by decide) (by decide) (by decide) (by intro x hx; simp at hx; rcases hx with rfl | rfl <;> assumption)

end Go.Proofs.Ytheahhmlmpameaa

/-
  Volumes and fits.
-/
namespace Go.Proofs.Ytheahhmlmpameaa
open Go.RowKit Bal Bal.Trim Bal.Gas
set_option linter.unusedVariables false
set_option linter.unusedSimpArgs false
set_option maxHeartbeats 400000

theorem f_put_air (c : Cell) (a : Air) (w : World) (hv : cellB c = true) (ha : airB a = false) :
    Calls Try.prog 17 #[.agg #[.int .i64 c.room, .int .i64 c.helium, .int .i64 c.air, .int .i64 c.wlo, .int .i64 c.whi, .int .i64 c.leak, .int .i64 c.owed], .agg #[.int .i64 a.plo, .int .i64 a.phi, .int .i64 a.tlo, .int .i64 a.thi]] w fun e w' => e = .returned (.tuple #[.agg #[.int .i64 c.room, .int .i64 c.helium, .int .i64 c.air, .int .i64 c.wlo, .int .i64 c.whi, .int .i64 c.leak, .int .i64 c.owed, .int .i64 a.plo, .int .i64 a.phi, .int .i64 a.tlo, .int .i64 a.thi, .int .i64 (amount c), .int .i64 (wrap64 (a.tlo + c.wlo)), .int .i64 (wrap64 (a.thi + c.whi))], .int .i64 30]) ∧ Kept w w' := by
  have := f_put_ok c a w hv
  rwa [show checkAir a = 30 by simp [checkAir, ha]] at this

end Go.Proofs.Ytheahhmlmpameaa

/-
  A slice that the call owns, beside blocks of another type. No program in sight.
-/
namespace Bal
open Go Go.RowKit
theorem Blk.grown {w w' : World} {b base k n : Nat} {arr : Array Value} {t e : TypeId} {v : Value} {xs : List Value} (h : Blk w b arr t) (ho : w.ownsRow base e k v n xs) (hne : t ≠ e) (hg : w.grownBy w' v.ownBlock) : Blk w' b arr t := by
  have hl := h.lt
  unfold Blk at *
  rw [hg.block b hl ?_]
  · exact h
  · intro he
    obtain ⟨_, ⟨rfl, _⟩ | ⟨g, cap, cur, rfl, _, hh, _⟩⟩ := ho
    · cases he
    · simp only [Value.ownBlock, Option.some.injEq] at he
      subst he
      rw [h] at hh
      simp only [Option.some.injEq, Obj.cells.injEq] at hh
      exact hne hh.2.1
theorem Kept.grown {w0 w w' : World} {base k n : Nat} {e : TypeId} {v : Value} {xs : List Value} (h : Kept w0 w) (ho : w.ownsRow base e k v n xs) (hb : w0.heap.size ≤ base) (hg : w.grownBy w' v.ownBlock) : Kept w0 w' := by
  refine Below.trans h ⟨hg.os, hg.tape, hg.output, hg.size, fun i hi => hg.block i (Nat.lt_of_lt_of_le hi h.size) fun he => ?_⟩
  obtain ⟨_, ⟨rfl, _⟩ | ⟨g, cap, cur, rfl, hbg, _, _⟩⟩ := ho
  · cases he
  · simp only [Value.ownBlock, Option.some.injEq] at he
    omega
theorem owns_set {w : World} {b base k n i : Nat} {arr : Array Value} {t e : TypeId} {v u : Value} {xs : List Value} (h : Blk w b arr t) (ho : w.ownsRow base e k v n xs) (hne : t ≠ e) : (w.setCell ⟨b, i, none⟩ u).ownsRow base e k v n xs := by
  obtain ⟨h1, h2 | ⟨g, cap, cur, hv, hg, hh, r⟩⟩ := ho
  · exact ⟨h1, .inl h2⟩
  · have hgb : g ≠ b := by
      intro he
      subst he
      unfold Blk at h
      rw [h] at hh
      simp only [Option.some.injEq, Obj.cells.injEq] at hh
      exact hne hh.2.1
    refine ⟨h1, .inr ⟨g, cap, cur, hv, hg, ?_, r⟩⟩
    have := Blk.other (w := w) (b := g) (arr := cur) (t := e) (a := ⟨b, i, none⟩) hh (by simpa using fun h => hgb h.symm) u
    exact this
end Bal

/-
  The lifts of a cell.
-/
namespace Go.Proofs.Ytheahhmlmpameaa
open Go.RowKit Bal Bal.Trim Bal.Gas
set_option linter.unusedVariables false
set_option linter.unusedSimpArgs false
set_option maxHeartbeats 800000

theorem f_Lift_bad (c : Cell) (a : Air) (w : World) (hv : cellB c = false) :
    Calls Try.prog 7 #[.agg #[.int .i64 c.room, .int .i64 c.helium, .int .i64 c.air, .int .i64 c.wlo, .int .i64 c.whi, .int .i64 c.leak, .int .i64 c.owed], .agg #[.int .i64 a.plo, .int .i64 a.phi, .int .i64 a.tlo, .int .i64 a.thi]] w fun e w' => e = .returned (.tuple #[.agg #[.int .i64 0, .int .i64 0], .int .i64 31]) ∧ Kept w w' := by
  go_enter Try.func7, Try.ntmps7
  go_wp2_with (go_at_call 17; (with_reducible refine (f_put_bad c a _ hv).mono ?_); rintro e w1 ⟨rfl, hb1⟩; obtain ⟨hc1, hf1, hl1⟩ := bcell3 hb1)
  exact bodyPost_ret (v := .tuple #[.agg #[.int .i64 0, .int .i64 0], .int .i64 31]) (by simp [results, Try.results7, go_sem, hc1, hf1, hl1]) rfl ⟨rfl, by (exact kpt)⟩

theorem f_Lift_air (c : Cell) (a : Air) (w : World) (hv : cellB c = true) (ha : airB a = false) :
    Calls Try.prog 7 #[.agg #[.int .i64 c.room, .int .i64 c.helium, .int .i64 c.air, .int .i64 c.wlo, .int .i64 c.whi, .int .i64 c.leak, .int .i64 c.owed], .agg #[.int .i64 a.plo, .int .i64 a.phi, .int .i64 a.tlo, .int .i64 a.thi]] w fun e w' => e = .returned (.tuple #[.agg #[.int .i64 0, .int .i64 0], .int .i64 30]) ∧ Kept w w' := by
  go_enter Try.func7, Try.ntmps7
  go_wp2_with (go_at_call 17; (with_reducible refine (f_put_air c a _ hv ha).mono ?_); rintro e w1 ⟨rfl, hb1⟩; obtain ⟨hc1, hf1, hl1⟩ := bcell3 hb1)
  exact bodyPost_ret (v := .tuple #[.agg #[.int .i64 0, .int .i64 0], .int .i64 30]) (by simp [results, Try.results7, go_sem, hc1, hf1, hl1]) rfl ⟨rfl, by (exact kpt)⟩

set_option maxRecDepth 10000
theorem i64_inA {n : Int} (h : -9223372036854775808 ≤ n ∧ n ≤ 9223372036854775807) : IntKind.i64.wrap n = n := by rw [IntKind.wrap_i64]; have := w64_in n h; unfold wrap64 at this; omega
theorem infoR : (Try.prog.info? 65).map (fun i => (i.zero, i.size, i.bytes)) = some (some (.agg #[.int .i64 0, .int .i64 0]), 2, 16) := by kernel_rfl
/-- what stands around the lift's loops: the arguments' boxes, the result, the cell in air, the two superheats -/
def LiftB (w w1 W : World) (c : Cell) (a : Air) : Prop :=
  Blk W w.heap.size #[.int .i64 c.room, .int .i64 c.helium, .int .i64 c.air, .int .i64 c.wlo, .int .i64 c.whi, .int .i64 c.leak, .int .i64 c.owed] 38 ∧ Blk W (w.heap.size + 1) #[.int .i64 a.plo, .int .i64 a.phi, .int .i64 a.tlo, .int .i64 a.thi] 27 ∧ Blk W (w.heap.size + 1 + 1) #[.int .i64 0, .int .i64 0] 25 ∧ Blk W w1.heap.size #[.int .i64 c.room, .int .i64 c.helium, .int .i64 c.air, .int .i64 c.wlo, .int .i64 c.whi, .int .i64 c.leak, .int .i64 c.owed, .int .i64 a.plo, .int .i64 a.phi, .int .i64 a.tlo, .int .i64 a.thi, .int .i64 (amount c), .int .i64 (heatLo c a), .int .i64 (heatHi c a)] 60 ∧ Kept w W
theorem LiftB.keep {w w1 W W' : World} {c : Cell} {a : Air} (h : LiftB w w1 W c a) (k : Kept W W') : LiftB w w1 W' c a :=
  ⟨h.1.keep k, h.2.1.keep k, h.2.2.1.keep k, h.2.2.2.1.keep k, Kept.drop h.2.2.2.2 k⟩
theorem LiftB.grown {w w1 W W' : World} {c : Cell} {a : Air} {k n : Nat} {v : Value} {xs : List Value} (h : LiftB w w1 W c a) (ho : W.ownsRow w.heap.size 65 k v n xs) (hg : W.grownBy W' v.ownBlock) : LiftB w w1 W' c a :=
  ⟨h.1.grown ho (by decide) hg, h.2.1.grown ho (by decide) hg, h.2.2.1.grown ho (by decide) hg, h.2.2.2.1.grown ho (by decide) hg, h.2.2.2.2.grown ho (Nat.le_refl _) hg⟩
def LiftOut (w w1 : World) (c : Cell) (a : Air) (s i : Value) (W : World) : Prop :=
  ∃ k : Nat, k ≤ 2 ∧ i = .int .i64 k ∧ W.ownsRow w.heap.size 65 2 s (2 * k) (((liftR c a).take (2 * k)).flatMap Ratio.cells) ∧ LiftB w w1 W c a ∧ Blk W (w1.heap.size + 1) #[.int .i64 c.wlo, .int .i64 c.whi] 3
def LiftIn (w w1 wr : World) (c : Cell) (a : Air) (k : Nat) (s j : Value) (W : World) : Prop :=
  ∃ m : Nat, m ≤ 2 ∧ j = .int .i64 m ∧ W.ownsRow w.heap.size 65 2 s (2 * k + m) (((liftR c a).take (2 * k + m)).flatMap Ratio.cells) ∧ LiftB w w1 W c a ∧ Blk W (w1.heap.size + 1) #[.int .i64 c.wlo, .int .i64 c.whi] 3 ∧ Blk W wr.heap.size #[.int .i64 a.tlo, .int .i64 a.thi] 3

theorem f_Lift_ok (c : Cell) (a : Air) (w : World) (hv : cellB c = true) (ha : airB a = true) :
    Calls Try.prog 7 #[.agg #[.int .i64 c.room, .int .i64 c.helium, .int .i64 c.air, .int .i64 c.wlo, .int .i64 c.whi, .int .i64 c.leak, .int .i64 c.owed], .agg #[.int .i64 a.plo, .int .i64 a.phi, .int .i64 a.tlo, .int .i64 a.thi]] w fun e w' => e = .returned (.tuple #[.agg #[.int .i64 (liftLo c a), .int .i64 (liftHi c a)], .int .i64 0]) ∧ Kept w w' := by
  obtain ⟨n0, n1, _⟩ := prod_bd hv ha
  obtain ⟨⟨h7, h8, h9⟩, h10, h11, h12⟩ := airB_iff.1 ha
  obtain ⟨_, ⟨u1, u2⟩, _, _, _, u3, u4, u5⟩ := cellB_iff.1 hv
  have b1 := pull_bd (x := c.wlo) hv (by omega)
  have b2 := pull_bd (x := c.whi) hv (by omega)
  have E1 := Lib.hid (lift_lo hv ha)
  have E2 := Lib.hid (lift_hi hv ha)
  have HR := Lib.hid (show ∀ x ∈ liftR c a, ratioOk x by intro x hx; simp only [liftR, List.mem_cons, List.not_mem_nil, or_false] at hx; rcases hx with rfl | rfl | rfl | rfl <;> refine ⟨?_, ?_, ?_, ?_⟩ <;> simp only <;> omega)
  have l1 : -1000000000000 ≤ liftLo c a ∧ liftLo c a ≤ 1000000000000 := by
    have d1 := div_bd (N := 174000000000) b1.1 b1.2 (show 0 < a.tlo by omega) (by omega)
    have d2 := div_bd (N := 174000000000) b1.1 b1.2 (show 0 < a.thi by omega) (by omega)
    unfold liftLo; omega
  have l2 : -1000000000000 ≤ liftHi c a ∧ liftHi c a ≤ 1000000000000 := by
    have d1 := div_bd (N := 174000000000) (a := -pull c c.whi) (by omega) (by omega) (show 0 < a.tlo by omega) (by omega)
    have d2 := div_bd (N := 174000000000) (a := -pull c c.whi) (by omega) (by omega) (show 0 < a.thi by omega) (by omega)
    unfold liftHi; omega
  have HV := Lib.hid hv
  have HA := Lib.hid ha
  clear hv ha
  unfold pull at b1 b2
  go_enter Try.func7, Try.ntmps7
  go_wp2_with (go_at_call 17; (with_reducible refine (f_put_good c a _ HV.out HA.out).mono ?_); rintro e w1 ⟨rfl, hb1⟩; obtain ⟨hc1, hf1, hl1⟩ := bcell3 hb1; refine Blk.thru (b := w.heap.size) (arr := ?_) (t := ?_) ?_ hb1 ?_; rotate_left 2; (focus (exact blk)); intro qa; have qac0 := qa.cell 0; have qaf0 := qa.free 0; have qac1 := qa.cell 1; have qaf1 := qa.free 1; have qac2 := qa.cell 2; have qaf2 := qa.free 2; have qac3 := qa.cell 3; have qaf3 := qa.free 3; have qac4 := qa.cell 4; have qaf4 := qa.free 4; have qac5 := qa.cell 5; have qaf5 := qa.free 5; have qac6 := qa.cell 6; have qaf6 := qa.free 6; have qal := qa.lt; simp at qac0 qac1 qac2 qac3 qac4 qac5 qac6; refine Blk.thru (b := w.heap.size + 1) (arr := ?_) (t := ?_) ?_ hb1 ?_; rotate_left 2; (focus (exact blk)); intro qb; have qbc0 := qb.cell 0; have qbf0 := qb.free 0; have qbc1 := qb.cell 1; have qbf1 := qb.free 1; have qbc2 := qb.cell 2; have qbf2 := qb.free 2; have qbc3 := qb.cell 3; have qbf3 := qb.free 3; have qbl := qb.lt; simp at qbc0 qbc1 qbc2 qbc3)
  refine at_world (S := fun W => LiftB w w1 W c a ∧ Blk W (w1.heap.size + 1) #[.int .i64 c.wlo, .int .i64 c.whi] 3) ⟨⟨by (exact blk), by (exact blk), by (exact blk), by (exact blkc), by (exact kpt)⟩, by (exact blkc)⟩ ?_
  clear hc1 hf1 hl1 qac0 qaf0 qac1 qaf1 qac2 qaf2 qac3 qaf3 qac4 qaf4 qac5 qaf5 qac6 qaf6 qbc0 qbf0 qbc1 qbf1 qbc2 qbf2 qbc3 qbf3 qal qbl qa qb
  rintro W ⟨hb, q1⟩
  go_loopw [8, 33] (fun s i wr => LiftOut w w1 c a s i wr) (fun _ i _ => 2 - (intOf i).toNat)
  case atStart => exact ⟨0, by omega, rfl, owns_nil (α := Ratio) (enc := Ratio.cells), hb, q1⟩
  case round =>
    clear hb q1
    obtain ⟨k, hk2, rfl, hown, hb, q1⟩ := hrel
    rcases (show k = 0 ∨ k = 1 ∨ k = 2 by omega) with rfl | rfl | rfl
    · skip
      obtain ⟨r0, r1, r2, r3, hk⟩ := hb
      have r1c0 := r1.cell 0
      have r1f0 := r1.free 0
      have r1c1 := r1.cell 1
      have r1f1 := r1.free 1
      have r1c2 := r1.cell 2
      have r1f2 := r1.free 2
      have r1c3 := r1.cell 3
      have r1f3 := r1.free 3
      have r1l := r1.lt
      simp at r1c0 r1c1 r1c2 r1c3
      have q1c0 := q1.cell 0
      have q1f0 := q1.free 0
      have q1c1 := q1.cell 1
      have q1f1 := q1.free 1
      have q1l := q1.lt
      simp at q1c0 q1c1
      have sz := hk.size
      go_wp2
      have hown2 := hown.alloc (.cells #[.int .i64 a.tlo, .int .i64 a.thi] 3)
      go_loopw [8, 45] (fun s j wq => LiftIn w w1 wr c a 0 s j wq) (fun _ j _ => 2 - (intOf j).toNat)
      case atStart => exact ⟨0, by omega, rfl, hown2, LiftB.keep ⟨r0, r1, r2, r3, hk⟩ (Kept.alloc (Below.refl _ _) _), Blk.alloc q1 _, Blk.new⟩
      case round =>
        clear r0 r1 r2 r3 hk q1 hown hown2 r1c0 r1f0 r1c1 r1f1 r1c2 r1f2 r1c3 r1f3 q1c0 q1c1 q1f0 q1f1 r1l q1l
        obtain ⟨m, hm, rfl, hown, hb, q1, q2⟩ := hrel
        rcases (show m = 0 ∨ m = 1 ∨ m = 2 by omega) with rfl | rfl | rfl
        · skip
          obtain ⟨r0, r1, r2, r3, hk⟩ := hb
          have r3c0 := r3.cell 0
          have r3f0 := r3.free 0
          have r3c1 := r3.cell 1
          have r3f1 := r3.free 1
          have r3c2 := r3.cell 2
          have r3f2 := r3.free 2
          have r3c3 := r3.cell 3
          have r3f3 := r3.free 3
          have r3c4 := r3.cell 4
          have r3f4 := r3.free 4
          have r3c5 := r3.cell 5
          have r3f5 := r3.free 5
          have r3c6 := r3.cell 6
          have r3f6 := r3.free 6
          have r3c7 := r3.cell 7
          have r3f7 := r3.free 7
          have r3c8 := r3.cell 8
          have r3f8 := r3.free 8
          have r3c9 := r3.cell 9
          have r3f9 := r3.free 9
          have r3c10 := r3.cell 10
          have r3f10 := r3.free 10
          have r3c11 := r3.cell 11
          have r3f11 := r3.free 11
          have r3l := r3.lt
          simp at r3c0 r3c1 r3c2 r3c3 r3c4 r3c5 r3c6 r3c7 r3c8 r3c9 r3c10 r3c11
          have q1c0 := q1.cell 0
          have q1f0 := q1.free 0
          have q1c1 := q1.cell 1
          have q1f1 := q1.free 1
          have q1l := q1.lt
          simp at q1c0 q1c1
          have q2c0 := q2.cell 0
          have q2f0 := q2.free 0
          have q2c1 := q2.cell 1
          have q2f1 := q2.free 1
          have q2l := q2.lt
          simp at q2c0 q2c1
          have sz := hk.size
          go_wp2_with (at_builtin; obtain ⟨i0, hi, hz0, hz1, hz2⟩ := info_parts infoR; refine wpList_append_own _ rfl _ _ 63 rfl w.heap.size 65 i0 (.agg #[.int .i64 0, .int .i64 0]) 2 16 Try.underlying63 hi hz0 hz1 hz2 rfl (by decide) _ _ _ rfl (hown.alloc _) ⟨wr.heap.size, 0, none⟩ 1 1 [.int .i64 (pull c c.wlo), .int .i64 a.tlo] rfl rfl (cell_two_new _ _ _ _) (fun x hx => by simp at hx; rcases hx with rfl | rfl <;> rfl) (by unfold maxLen; omega) (by omega) (by simp; omega) ?_; intro v' w3 hown' hgrow hnil; clear hi hz0 hz1 hz2)
          go_roundw
          case rel =>
            have hb2 : LiftB w w1 w3 c a := LiftB.grown (LiftB.keep ⟨r0, r1, r2, r3, hk⟩ (Kept.alloc (Below.refl _ _) _)) (hown.alloc _) hgrow
            repeat (apply Exists.intro)
            refine ⟨?_, rfl⟩
            refine ⟨0 + 1, by omega, by go_num, ?_, hb2, (Blk.alloc q1 _).grown (hown.alloc _) (by decide) hgrow, (Blk.alloc q2 _).grown (hown.alloc _) (by decide) hgrow⟩
            simpa [liftR, Ratio.cells] using hown'
          case measure => simp [intOf]
        · skip
          obtain ⟨r0, r1, r2, r3, hk⟩ := hb
          have r3c0 := r3.cell 0
          have r3f0 := r3.free 0
          have r3c1 := r3.cell 1
          have r3f1 := r3.free 1
          have r3c2 := r3.cell 2
          have r3f2 := r3.free 2
          have r3c3 := r3.cell 3
          have r3f3 := r3.free 3
          have r3c4 := r3.cell 4
          have r3f4 := r3.free 4
          have r3c5 := r3.cell 5
          have r3f5 := r3.free 5
          have r3c6 := r3.cell 6
          have r3f6 := r3.free 6
          have r3c7 := r3.cell 7
          have r3f7 := r3.free 7
          have r3c8 := r3.cell 8
          have r3f8 := r3.free 8
          have r3c9 := r3.cell 9
          have r3f9 := r3.free 9
          have r3c10 := r3.cell 10
          have r3f10 := r3.free 10
          have r3c11 := r3.cell 11
          have r3f11 := r3.free 11
          have r3l := r3.lt
          simp at r3c0 r3c1 r3c2 r3c3 r3c4 r3c5 r3c6 r3c7 r3c8 r3c9 r3c10 r3c11
          have q1c0 := q1.cell 0
          have q1f0 := q1.free 0
          have q1c1 := q1.cell 1
          have q1f1 := q1.free 1
          have q1l := q1.lt
          simp at q1c0 q1c1
          have q2c0 := q2.cell 0
          have q2f0 := q2.free 0
          have q2c1 := q2.cell 1
          have q2f1 := q2.free 1
          have q2l := q2.lt
          simp at q2c0 q2c1
          have sz := hk.size
          go_wp2_with (at_builtin; obtain ⟨i0, hi, hz0, hz1, hz2⟩ := info_parts infoR; refine wpList_append_own _ rfl _ _ 63 rfl w.heap.size 65 i0 (.agg #[.int .i64 0, .int .i64 0]) 2 16 Try.underlying63 hi hz0 hz1 hz2 rfl (by decide) _ _ _ rfl (hown.alloc _) ⟨wr.heap.size, 0, none⟩ 1 1 [.int .i64 (pull c c.wlo), .int .i64 a.thi] rfl rfl (cell_two_new _ _ _ _) (fun x hx => by simp at hx; rcases hx with rfl | rfl <;> rfl) (by unfold maxLen; omega) (by omega) (by simp; omega) ?_; intro v' w3 hown' hgrow hnil; clear hi hz0 hz1 hz2)
          go_roundw
          case rel =>
            have hb2 : LiftB w w1 w3 c a := LiftB.grown (LiftB.keep ⟨r0, r1, r2, r3, hk⟩ (Kept.alloc (Below.refl _ _) _)) (hown.alloc _) hgrow
            repeat (apply Exists.intro)
            refine ⟨?_, rfl⟩
            refine ⟨1 + 1, by omega, by go_num, ?_, hb2, (Blk.alloc q1 _).grown (hown.alloc _) (by decide) hgrow, (Blk.alloc q2 _).grown (hown.alloc _) (by decide) hgrow⟩
            simpa [liftR, Ratio.cells] using hown'
          case measure => simp [intOf]
        · go_wp2
          go_roundw
          case rel =>
            first
            | exact ⟨0 + 1, by omega, by go_num, hown, hb, q1⟩
            | (apply Exists.intro; repeat (apply Exists.intro); refine ⟨?_, rfl⟩; exact ⟨0 + 1, by omega, by go_num, hown, hb, q1⟩)
          case measure => simp [intOf]
    · skip
      obtain ⟨r0, r1, r2, r3, hk⟩ := hb
      have r1c0 := r1.cell 0
      have r1f0 := r1.free 0
      have r1c1 := r1.cell 1
      have r1f1 := r1.free 1
      have r1c2 := r1.cell 2
      have r1f2 := r1.free 2
      have r1c3 := r1.cell 3
      have r1f3 := r1.free 3
      have r1l := r1.lt
      simp at r1c0 r1c1 r1c2 r1c3
      have q1c0 := q1.cell 0
      have q1f0 := q1.free 0
      have q1c1 := q1.cell 1
      have q1f1 := q1.free 1
      have q1l := q1.lt
      simp at q1c0 q1c1
      have sz := hk.size
      go_wp2
      have hown2 := hown.alloc (.cells #[.int .i64 a.tlo, .int .i64 a.thi] 3)
      go_loopw [8, 45] (fun s j wq => LiftIn w w1 wr c a 1 s j wq) (fun _ j _ => 2 - (intOf j).toNat)
      case atStart => exact ⟨0, by omega, rfl, hown2, LiftB.keep ⟨r0, r1, r2, r3, hk⟩ (Kept.alloc (Below.refl _ _) _), Blk.alloc q1 _, Blk.new⟩
      case round =>
        clear r0 r1 r2 r3 hk q1 hown hown2 r1c0 r1f0 r1c1 r1f1 r1c2 r1f2 r1c3 r1f3 q1c0 q1c1 q1f0 q1f1 r1l q1l
        obtain ⟨m, hm, rfl, hown, hb, q1, q2⟩ := hrel
        rcases (show m = 0 ∨ m = 1 ∨ m = 2 by omega) with rfl | rfl | rfl
        · skip
          obtain ⟨r0, r1, r2, r3, hk⟩ := hb
          have r3c0 := r3.cell 0
          have r3f0 := r3.free 0
          have r3c1 := r3.cell 1
          have r3f1 := r3.free 1
          have r3c2 := r3.cell 2
          have r3f2 := r3.free 2
          have r3c3 := r3.cell 3
          have r3f3 := r3.free 3
          have r3c4 := r3.cell 4
          have r3f4 := r3.free 4
          have r3c5 := r3.cell 5
          have r3f5 := r3.free 5
          have r3c6 := r3.cell 6
          have r3f6 := r3.free 6
          have r3c7 := r3.cell 7
          have r3f7 := r3.free 7
          have r3c8 := r3.cell 8
          have r3f8 := r3.free 8
          have r3c9 := r3.cell 9
          have r3f9 := r3.free 9
          have r3c10 := r3.cell 10
          have r3f10 := r3.free 10
          have r3c11 := r3.cell 11
          have r3f11 := r3.free 11
          have r3l := r3.lt
          simp at r3c0 r3c1 r3c2 r3c3 r3c4 r3c5 r3c6 r3c7 r3c8 r3c9 r3c10 r3c11
          have q1c0 := q1.cell 0
          have q1f0 := q1.free 0
          have q1c1 := q1.cell 1
          have q1f1 := q1.free 1
          have q1l := q1.lt
          simp at q1c0 q1c1
          have q2c0 := q2.cell 0
          have q2f0 := q2.free 0
          have q2c1 := q2.cell 1
          have q2f1 := q2.free 1
          have q2l := q2.lt
          simp at q2c0 q2c1
          have sz := hk.size
          go_wp2_with (at_builtin; obtain ⟨i0, hi, hz0, hz1, hz2⟩ := info_parts infoR; refine wpList_append_own _ rfl _ _ 63 rfl w.heap.size 65 i0 (.agg #[.int .i64 0, .int .i64 0]) 2 16 Try.underlying63 hi hz0 hz1 hz2 rfl (by decide) _ _ _ rfl (hown.alloc _) ⟨wr.heap.size, 0, none⟩ 1 1 [.int .i64 (pull c c.whi), .int .i64 a.tlo] rfl rfl (cell_two_new _ _ _ _) (fun x hx => by simp at hx; rcases hx with rfl | rfl <;> rfl) (by unfold maxLen; omega) (by omega) (by simp; omega) ?_; intro v' w3 hown' hgrow hnil; clear hi hz0 hz1 hz2)
          go_roundw
          case rel =>
            have hb2 : LiftB w w1 w3 c a := LiftB.grown (LiftB.keep ⟨r0, r1, r2, r3, hk⟩ (Kept.alloc (Below.refl _ _) _)) (hown.alloc _) hgrow
            repeat (apply Exists.intro)
            refine ⟨?_, rfl⟩
            refine ⟨0 + 1, by omega, by go_num, ?_, hb2, (Blk.alloc q1 _).grown (hown.alloc _) (by decide) hgrow, (Blk.alloc q2 _).grown (hown.alloc _) (by decide) hgrow⟩
            simpa [liftR, Ratio.cells] using hown'
          case measure => simp [intOf]
        · skip
          obtain ⟨r0, r1, r2, r3, hk⟩ := hb
          have r3c0 := r3.cell 0
          have r3f0 := r3.free 0
          have r3c1 := r3.cell 1
          have r3f1 := r3.free 1
          have r3c2 := r3.cell 2
          have r3f2 := r3.free 2
          have r3c3 := r3.cell 3
          have r3f3 := r3.free 3
          have r3c4 := r3.cell 4
          have r3f4 := r3.free 4
          have r3c5 := r3.cell 5
          have r3f5 := r3.free 5
          have r3c6 := r3.cell 6
          have r3f6 := r3.free 6
          have r3c7 := r3.cell 7
          have r3f7 := r3.free 7
          have r3c8 := r3.cell 8
          have r3f8 := r3.free 8
          have r3c9 := r3.cell 9
          have r3f9 := r3.free 9
          have r3c10 := r3.cell 10
          have r3f10 := r3.free 10
          have r3c11 := r3.cell 11
          have r3f11 := r3.free 11
          have r3l := r3.lt
          simp at r3c0 r3c1 r3c2 r3c3 r3c4 r3c5 r3c6 r3c7 r3c8 r3c9 r3c10 r3c11
          have q1c0 := q1.cell 0
          have q1f0 := q1.free 0
          have q1c1 := q1.cell 1
          have q1f1 := q1.free 1
          have q1l := q1.lt
          simp at q1c0 q1c1
          have q2c0 := q2.cell 0
          have q2f0 := q2.free 0
          have q2c1 := q2.cell 1
          have q2f1 := q2.free 1
          have q2l := q2.lt
          simp at q2c0 q2c1
          have sz := hk.size
          go_wp2_with (at_builtin; obtain ⟨i0, hi, hz0, hz1, hz2⟩ := info_parts infoR; refine wpList_append_own _ rfl _ _ 63 rfl w.heap.size 65 i0 (.agg #[.int .i64 0, .int .i64 0]) 2 16 Try.underlying63 hi hz0 hz1 hz2 rfl (by decide) _ _ _ rfl (hown.alloc _) ⟨wr.heap.size, 0, none⟩ 1 1 [.int .i64 (pull c c.whi), .int .i64 a.thi] rfl rfl (cell_two_new _ _ _ _) (fun x hx => by simp at hx; rcases hx with rfl | rfl <;> rfl) (by unfold maxLen; omega) (by omega) (by simp; omega) ?_; intro v' w3 hown' hgrow hnil; clear hi hz0 hz1 hz2)
          go_roundw
          case rel =>
            have hb2 : LiftB w w1 w3 c a := LiftB.grown (LiftB.keep ⟨r0, r1, r2, r3, hk⟩ (Kept.alloc (Below.refl _ _) _)) (hown.alloc _) hgrow
            repeat (apply Exists.intro)
            refine ⟨?_, rfl⟩
            refine ⟨1 + 1, by omega, by go_num, ?_, hb2, (Blk.alloc q1 _).grown (hown.alloc _) (by decide) hgrow, (Blk.alloc q2 _).grown (hown.alloc _) (by decide) hgrow⟩
            simpa [liftR, Ratio.cells] using hown'
          case measure => simp [intOf]
        · go_wp2
          go_roundw
          case rel =>
            first
            | exact ⟨1 + 1, by omega, by go_num, hown, hb, q1⟩
            | (apply Exists.intro; repeat (apply Exists.intro); refine ⟨?_, rfl⟩; exact ⟨1 + 1, by omega, by go_num, hown, hb, q1⟩)
          case measure => simp [intOf]
    · obtain ⟨r0, r1, r2, r3, hk⟩ := hb
      have hown' : wr.ownsRow w.heap.size 65 2 _ (liftR c a).length ((liftR c a).flatMap Ratio.cells) := hown
      obtain ⟨ad, cap, rfl, hrow, hc4, hcm⟩ := Row.of_owns (enc := Ratio.cells) (k := 2) (fun _ => rfl) hown'
      have HW := i64_inA (n := 25 * c.helium) (by omega)
      have hc2 : 2 ≤ (liftR c a).length := by simp [liftR]
      have hcm2 : cap ≤ 9223372036854775807 := by unfold maxLen at hcm; omega
      have k0 : ∀ w', Kept wr w' → w'.cell? ⟨w.heap.size, 1, none⟩ = some (.int .i64 c.helium) := fun w' h => by rw [(r0.keep h).cell 1]; rfl
      go_wp2
      go_upto_region 14 with fail
      go_cut [13, 14] (fun s13 s14 wx => ∃ g, s13 = .pointer (some ⟨g, 0, none⟩) ∧ s14 = .int .i64 (25 * c.helium) ∧ Blk wx g #[.int .i64 (leastLo (liftR c a)), .int .i64 (leastHi (liftR c a))] 25 ∧ Blk wx (w.heap.size + 1 + 1) #[.int .i64 0, .int .i64 0] 25 ∧ Kept w wx)
      case first =>
        go_region_held3 (fun w' => Kept wr w') (exact kpt) (first | (go_at_call 18; (with_reducible refine (f_least _ _ _ (liftR c a) _ rfl (B := 0) (hrow.later (by (exact kpt)) (Nat.le_refl _)) hc2 hc4 hcm2 HR.out).mono ?_); rintro e w1 ⟨rfl, hb1⟩; obtain ⟨hc1, hf1, hl1⟩ := bcell3 hb1))
        all_goals (go_wp2_with fail; go_meet)
        all_goals
          refine ⟨_, rfl, rfl, ?_, ?_, ?_⟩
          · (exact blkc)
          · (exact blkc)
          · (exact kpt)
      case rest =>
        obtain ⟨g, rfl, rfl, p1, p0, hkx⟩ := hcut
        have p1c0 := p1.cell 0
        have p1f0 := p1.free 0
        have p1c1 := p1.cell 1
        have p1f1 := p1.free 1
        have p1l := p1.lt
        simp at p1c0 p1c1
        have p0c0 := p0.cell 0
        have p0f0 := p0.free 0
        have p0c1 := p0.cell 1
        have p0f1 := p0.free 1
        have p0l := p0.lt
        simp at p0c0 p0c1
        have e1 := E1.out
        have e2 := E2.out
        go_wp2
        exact bodyPost_ret (v := .tuple #[.agg #[.int .i64 (liftLo c a), .int .i64 (liftHi c a)], .int .i64 0]) (by simp [results, Try.results7, go_sem, p0c0, p0c1, p0f0, p0f1]) rfl ⟨rfl, by (exact kpt)⟩

end Go.Proofs.Ytheahhmlmpameaa

/-
  The structs of the trim statements as cells of memory. No program in sight.
-/
namespace Bal.Trim
open Go Go.RowKit

def Load.cells (x : Load) : List Value := [.int .i64 x.alo, .int .i64 x.ahi, .int .i64 x.wlo, .int .i64 x.whi]
theorem Load.row {B : Nat} {w : World} {a : Option Addr} {xs : List Load} (h : Row Load.cells 4 B w a xs) (i : Nat) (hi : i < xs.length) :
    ∃ b off, a = some ⟨b, off, none⟩ ∧ b < B ∧ w.cell? ⟨b, off + i * 4, none⟩ = some (.int .i64 xs[i].alo) ∧ w.cell? ⟨b, off + i * 4 + 1, none⟩ = some (.int .i64 xs[i].ahi) ∧ w.cell? ⟨b, off + i * 4 + 2, none⟩ = some (.int .i64 xs[i].wlo) ∧ w.cell? ⟨b, off + i * 4 + 3, none⟩ = some (.int .i64 xs[i].whi) := by
  obtain ⟨b, off, ha, hb, hc⟩ := h i xs[i] (by simp [hi])
  exact ⟨b, off, ha, hb, hc 0 _ rfl, hc 1 _ rfl, hc 2 _ rfl, hc 3 _ rfl⟩
theorem Load.of_leaves {cs : List Value} (h : LeavesOk [.int .i64, .int .i64, .int .i64, .int .i64] cs) : ∃ x : Load, cs = x.cells ∧ (Lit.int .i64 x.alo).wf = true ∧ (Lit.int .i64 x.ahi).wf = true ∧ (Lit.int .i64 x.wlo).wf = true ∧ (Lit.int .i64 x.whi).wf = true := by
  obtain ⟨hl, h⟩ := h
  match cs, hl with
  | [v0, v1, v2, v3], _ =>
    obtain ⟨_, e0, n0, rfl, w0⟩ := h 0 (.int .i64) rfl; simp at e0; subst e0
    obtain ⟨_, e1, n1, rfl, w1⟩ := h 1 (.int .i64) rfl; simp at e1; subst e1
    obtain ⟨_, e2, n2, rfl, w2⟩ := h 2 (.int .i64) rfl; simp at e2; subst e2
    obtain ⟨_, e3, n3, rfl, w3⟩ := h 3 (.int .i64) rfl; simp at e3; subst e3
    exact ⟨⟨n0, n1, n2, n3⟩, rfl, w0, w1, w2, w3⟩

def Limit.cells (x : Limit) : List Value := [.int .i64 x.a, .int .i64 x.b, .int .i64 x.c]
theorem Limit.row {B : Nat} {w : World} {a : Option Addr} {xs : List Limit} (h : Row Limit.cells 3 B w a xs) (i : Nat) (hi : i < xs.length) :
    ∃ b off, a = some ⟨b, off, none⟩ ∧ b < B ∧ w.cell? ⟨b, off + i * 3, none⟩ = some (.int .i64 xs[i].a) ∧ w.cell? ⟨b, off + i * 3 + 1, none⟩ = some (.int .i64 xs[i].b) ∧ w.cell? ⟨b, off + i * 3 + 2, none⟩ = some (.int .i64 xs[i].c) := by
  obtain ⟨b, off, ha, hb, hc⟩ := h i xs[i] (by simp [hi])
  exact ⟨b, off, ha, hb, hc 0 _ rfl, hc 1 _ rfl, hc 2 _ rfl⟩
theorem Limit.of_leaves {cs : List Value} (h : LeavesOk [.int .i64, .int .i64, .int .i64] cs) : ∃ x : Limit, cs = x.cells ∧ (Lit.int .i64 x.a).wf = true ∧ (Lit.int .i64 x.b).wf = true ∧ (Lit.int .i64 x.c).wf = true := by
  obtain ⟨hl, h⟩ := h
  match cs, hl with
  | [v0, v1, v2], _ =>
    obtain ⟨_, e0, n0, rfl, w0⟩ := h 0 (.int .i64) rfl; simp at e0; subst e0
    obtain ⟨_, e1, n1, rfl, w1⟩ := h 1 (.int .i64) rfl; simp at e1; subst e1
    obtain ⟨_, e2, n2, rfl, w2⟩ := h 2 (.int .i64) rfl; simp at e2; subst e2
    exact ⟨⟨n0, n1, n2⟩, rfl, w0, w1, w2⟩

def Frm.cells (x : Frm) : List Value := [.int .i64 x.pos, .int .i64 x.shear, .int .i64 x.bend]
theorem Frm.row {B : Nat} {w : World} {a : Option Addr} {xs : List Frm} (h : Row Frm.cells 3 B w a xs) (i : Nat) (hi : i < xs.length) :
    ∃ b off, a = some ⟨b, off, none⟩ ∧ b < B ∧ w.cell? ⟨b, off + i * 3, none⟩ = some (.int .i64 xs[i].pos) ∧ w.cell? ⟨b, off + i * 3 + 1, none⟩ = some (.int .i64 xs[i].shear) ∧ w.cell? ⟨b, off + i * 3 + 2, none⟩ = some (.int .i64 xs[i].bend) := by
  obtain ⟨b, off, ha, hb, hc⟩ := h i xs[i] (by simp [hi])
  exact ⟨b, off, ha, hb, hc 0 _ rfl, hc 1 _ rfl, hc 2 _ rfl⟩
theorem Frm.of_leaves {cs : List Value} (h : LeavesOk [.int .i64, .int .i64, .int .i64] cs) : ∃ x : Frm, cs = x.cells ∧ (Lit.int .i64 x.pos).wf = true ∧ (Lit.int .i64 x.shear).wf = true ∧ (Lit.int .i64 x.bend).wf = true := by
  obtain ⟨hl, h⟩ := h
  match cs, hl with
  | [v0, v1, v2], _ =>
    obtain ⟨_, e0, n0, rfl, w0⟩ := h 0 (.int .i64) rfl; simp at e0; subst e0
    obtain ⟨_, e1, n1, rfl, w1⟩ := h 1 (.int .i64) rfl; simp at e1; subst e1
    obtain ⟨_, e2, n2, rfl, w2⟩ := h 2 (.int .i64) rfl; simp at e2; subst e2
    exact ⟨⟨n0, n1, n2⟩, rfl, w0, w1, w2⟩

def Put.cells (x : Put) : List Value := [.int .i64 x.pos, .int .i64 x.wt]
theorem Put.row {B : Nat} {w : World} {a : Option Addr} {xs : List Put} (h : Row Put.cells 2 B w a xs) (i : Nat) (hi : i < xs.length) :
    ∃ b off, a = some ⟨b, off, none⟩ ∧ b < B ∧ w.cell? ⟨b, off + i * 2, none⟩ = some (.int .i64 xs[i].pos) ∧ w.cell? ⟨b, off + i * 2 + 1, none⟩ = some (.int .i64 xs[i].wt) := by
  obtain ⟨b, off, ha, hb, hc⟩ := h i xs[i] (by simp [hi])
  exact ⟨b, off, ha, hb, hc 0 _ rfl, hc 1 _ rfl⟩
theorem Put.of_leaves {cs : List Value} (h : LeavesOk [.int .i64, .int .i64] cs) : ∃ x : Put, cs = x.cells ∧ (Lit.int .i64 x.pos).wf = true ∧ (Lit.int .i64 x.wt).wf = true := by
  obtain ⟨hl, h⟩ := h
  match cs, hl with
  | [v0, v1], _ =>
    obtain ⟨_, e0, n0, rfl, w0⟩ := h 0 (.int .i64) rfl; simp at e0; subst e0
    obtain ⟨_, e1, n1, rfl, w1⟩ := h 1 (.int .i64) rfl; simp at e1; subst e1
    exact ⟨⟨n0, n1⟩, rfl, w0, w1⟩

def Hold.cells (x : Hold) : List Value := [.int .i64 x.pos, .int .i64 x.room]
theorem Hold.row {B : Nat} {w : World} {a : Option Addr} {xs : List Hold} (h : Row Hold.cells 2 B w a xs) (i : Nat) (hi : i < xs.length) :
    ∃ b off, a = some ⟨b, off, none⟩ ∧ b < B ∧ w.cell? ⟨b, off + i * 2, none⟩ = some (.int .i64 xs[i].pos) ∧ w.cell? ⟨b, off + i * 2 + 1, none⟩ = some (.int .i64 xs[i].room) := by
  obtain ⟨b, off, ha, hb, hc⟩ := h i xs[i] (by simp [hi])
  exact ⟨b, off, ha, hb, hc 0 _ rfl, hc 1 _ rfl⟩
theorem Hold.of_leaves {cs : List Value} (h : LeavesOk [.int .i64, .int .i64] cs) : ∃ x : Hold, cs = x.cells ∧ (Lit.int .i64 x.pos).wf = true ∧ (Lit.int .i64 x.room).wf = true := by
  obtain ⟨hl, h⟩ := h
  match cs, hl with
  | [v0, v1], _ =>
    obtain ⟨_, e0, n0, rfl, w0⟩ := h 0 (.int .i64) rfl; simp at e0; subst e0
    obtain ⟨_, e1, n1, rfl, w1⟩ := h 1 (.int .i64) rfl; simp at e1; subst e1
    exact ⟨⟨n0, n1⟩, rfl, w0, w1⟩

def Parcel.cells (x : Parcel) : List Value := [.int .i64 x.wt, .int .i64 x.cls]
theorem Parcel.row {B : Nat} {w : World} {a : Option Addr} {xs : List Parcel} (h : Row Parcel.cells 2 B w a xs) (i : Nat) (hi : i < xs.length) :
    ∃ b off, a = some ⟨b, off, none⟩ ∧ b < B ∧ w.cell? ⟨b, off + i * 2, none⟩ = some (.int .i64 xs[i].wt) ∧ w.cell? ⟨b, off + i * 2 + 1, none⟩ = some (.int .i64 xs[i].cls) := by
  obtain ⟨b, off, ha, hb, hc⟩ := h i xs[i] (by simp [hi])
  exact ⟨b, off, ha, hb, hc 0 _ rfl, hc 1 _ rfl⟩
theorem Parcel.of_leaves {cs : List Value} (h : LeavesOk [.int .i64, .int .i64] cs) : ∃ x : Parcel, cs = x.cells ∧ (Lit.int .i64 x.wt).wf = true ∧ (Lit.int .i64 x.cls).wf = true := by
  obtain ⟨hl, h⟩ := h
  match cs, hl with
  | [v0, v1], _ =>
    obtain ⟨_, e0, n0, rfl, w0⟩ := h 0 (.int .i64) rfl; simp at e0; subst e0
    obtain ⟨_, e1, n1, rfl, w1⟩ := h 1 (.int .i64) rfl; simp at e1; subst e1
    exact ⟨⟨n0, n1⟩, rfl, w0, w1⟩

def Rule.cells (x : Rule) : List Value := [.int .i64 x.a, .int .i64 x.b, .int .i64 x.apart]
theorem Rule.row {B : Nat} {w : World} {a : Option Addr} {xs : List Rule} (h : Row Rule.cells 3 B w a xs) (i : Nat) (hi : i < xs.length) :
    ∃ b off, a = some ⟨b, off, none⟩ ∧ b < B ∧ w.cell? ⟨b, off + i * 3, none⟩ = some (.int .i64 xs[i].a) ∧ w.cell? ⟨b, off + i * 3 + 1, none⟩ = some (.int .i64 xs[i].b) ∧ w.cell? ⟨b, off + i * 3 + 2, none⟩ = some (.int .i64 xs[i].apart) := by
  obtain ⟨b, off, ha, hb, hc⟩ := h i xs[i] (by simp [hi])
  exact ⟨b, off, ha, hb, hc 0 _ rfl, hc 1 _ rfl, hc 2 _ rfl⟩
theorem Rule.of_leaves {cs : List Value} (h : LeavesOk [.int .i64, .int .i64, .int .i64] cs) : ∃ x : Rule, cs = x.cells ∧ (Lit.int .i64 x.a).wf = true ∧ (Lit.int .i64 x.b).wf = true ∧ (Lit.int .i64 x.apart).wf = true := by
  obtain ⟨hl, h⟩ := h
  match cs, hl with
  | [v0, v1, v2], _ =>
    obtain ⟨_, e0, n0, rfl, w0⟩ := h 0 (.int .i64) rfl; simp at e0; subst e0
    obtain ⟨_, e1, n1, rfl, w1⟩ := h 1 (.int .i64) rfl; simp at e1; subst e1
    obtain ⟨_, e2, n2, rfl, w2⟩ := h 2 (.int .i64) rfl; simp at e2; subst e2
    exact ⟨⟨n0, n1, n2⟩, rfl, w0, w1, w2⟩

end Bal.Trim

/-
  What the checks of loads, limits and frames compute, in the program and in the reference.
-/
namespace Go.Proofs.Ytheahhmlmpameaa.Trim04
open Go.RowKit Bal Bal.Trim
set_option linter.unusedVariables false
set_option linter.unusedSimpArgs false
set_option maxHeartbeats 400000

theorem f_ranged (n lo hi : Int) (w : World) :
    Calls Try.prog 43 #[.int .i64 n, .int .i64 lo, .int .i64 hi] w fun e w' => e = .returned (.bool (inB n lo hi)) ∧ w = w' := by
  go_enter Try.func43, Try.ntmps43
  go_wp2
  all_goals (go_ret; refine ⟨?_, rfl⟩; simp [inB, *])
  all_goals omega

theorem f_span (lo hi m : Int) (w : World) (h0 : 0 ≤ m) (h1 : m ≤ 1000000000000000000) :
    Calls Try.prog 16 #[.agg #[.int .i64 lo, .int .i64 hi], .int .i64 m] w fun e w' => e = .returned (.bool (spanB lo hi m)) ∧ Kept w w' := by
  go_enter Try.func16, Try.ntmps16
  go_wp2
  all_goals (go_ret; refine ⟨?_, (Below.refl _ _).alloc (Nat.le_refl _) _⟩; simp [spanB, *])
  all_goals omega

theorem f_load (x : Load) (w : World) :
    Calls Try.prog 15 #[.agg #[.int .i64 x.alo, .int .i64 x.ahi, .int .i64 x.wlo, .int .i64 x.whi]] w fun e w' => e = .returned (.bool (loadB x)) ∧ Kept w w' := by
  go_enter Try.func15, Try.ntmps15
  go_wp2_with (first | (go_at_call 16; refine (f_span _ _ _ _ (by omega) (by omega)).mono ?_; rintro e w1 ⟨rfl, hb1⟩; obtain ⟨hc1, hf1⟩ := bcell hb1))
  all_goals (go_ret; refine ⟨?_, by (repeat (first | exact Below.refl _ _ | assumption | (refine Kept.drop ?_ (by assumption)) | (refine Kept.alloc ?_ _) | (refine Below.setCell ?_ (by first | exact Nat.le_refl _ | (simp; done) | (simp; omega) | exact Below.size (by assumption)) _) | (refine Below.drew ?_)))⟩; simp [loadB, *])

theorem f_limited (x : Limit) (w : World) :
    Calls Try.prog 41 #[.agg #[.int .i64 x.a, .int .i64 x.b, .int .i64 x.c]] w fun e w' => e = .returned (.bool (limitB x)) ∧ Kept w w' := by
  go_enter Try.func41, Try.ntmps41
  go_wp2_with (first | (go_at_call 43; refine (f_ranged _ _ _ _).mono ?_; rintro e w1 ⟨rfl, rfl⟩))
  all_goals (go_ret; refine ⟨?_, by (repeat (first | exact Below.refl _ _ | assumption | (refine Kept.drop ?_ (by assumption)) | (refine Kept.alloc ?_ _) | (refine Below.setCell ?_ (by first | exact Nat.le_refl _ | (simp; done) | (simp; omega) | exact Below.size (by assumption)) _) | (refine Below.drew ?_)))⟩; simp [limitB, *])

theorem f_checked_Load (a : Option Addr) (cap : Nat) (xs : List Load) (w : World) (hx : Row Load.cells 4 w.heap.size w a xs) (hc : xs.length ≤ cap) (hM : cap ≤ maxLen) :
    Calls Try.prog 14 #[.slice a xs.length cap, .int .i64 40, .func (.func 15) #[] #[], .int .i64 40] w
      fun e w' => e = .returned (.int .i64 (checkList loadB 40 40 xs)) ∧ Kept w w' := by
  unfold maxLen at hM
  by_cases hm : 40 < xs.length
  · rw [checkList_many hm]
    go_enter Try.func14, Try.ntmps14
    go_wp2
    go_ret
    exact ⟨rfl, Below.refl _ _⟩
  · go_enter Try.func14, Try.ntmps14
    go_wp2
    go_loopw [17] (fun i wr => Upto loadB xs w i wr) (fun i _ => xs.length - (intOf i).toNat)
    case atStart => exact ⟨0, Nat.zero_le _, rfl, by simp, Below.refl _ _⟩
    case round =>
      obtain ⟨k, hk, rfl, ha', hbel⟩ := hrel
      have ha := Lib.hid ha'
      clear ha'
      by_cases hlt : k < xs.length
      · obtain ⟨b, off, rfl, hb, h0, h1, h2, h3⟩ := Load.row (hx.later hbel (Nat.le_refl _)) k hlt
        cases hv : loadB xs[k]
        all_goals
          go_wp2_with (go_at_call 15; refine (f_load xs[k] _).mono ?_; rintro e w1 ⟨rfl, hb1⟩)
        · go_ret
          exact ⟨ret_int (checkList_bad hm k hlt hv).symm, by (repeat (first | exact Below.refl _ _ | assumption | (refine Kept.drop ?_ (by assumption)) | (refine Kept.alloc ?_ _) | (refine Below.setCell ?_ (by first | exact Nat.le_refl _ | (simp; done) | (simp; omega) | exact Below.size (by assumption)) _) | (refine Below.drew ?_)))⟩
        · go_round
          case rel => exact ⟨k + 1, by omega, by go_num, take_all hlt ha.out hv, by (repeat (first | exact Below.refl _ _ | assumption | (refine Kept.drop ?_ (by assumption)) | (refine Kept.alloc ?_ _) | (refine Below.setCell ?_ (by first | exact Nat.le_refl _ | (simp; done) | (simp; omega) | exact Below.size (by assumption)) _) | (refine Below.drew ?_)))⟩
          case measure => simp [intOf]; omega
      · go_wp2
        go_ret
        exact ⟨ret_int (checkList_ok hm (by rw [← ha.out, List.take_of_length_le (by omega)])).symm, hbel⟩

theorem f_checked_Limit (a : Option Addr) (cap : Nat) (xs : List Limit) (w : World) (hx : Row Limit.cells 3 w.heap.size w a xs) (hc : xs.length ≤ cap) (hM : cap ≤ maxLen) :
    Calls Try.prog 40 #[.slice a xs.length cap, .int .i64 12, .func (.func 41) #[] #[], .int .i64 41] w
      fun e w' => e = .returned (.int .i64 (checkList limitB 12 41 xs)) ∧ Kept w w' := by
  unfold maxLen at hM
  by_cases hm : 12 < xs.length
  · rw [checkList_many hm]
    go_enter Try.func40, Try.ntmps40
    go_wp2
    go_ret
    exact ⟨rfl, Below.refl _ _⟩
  · go_enter Try.func40, Try.ntmps40
    go_wp2
    go_loopw [17] (fun i wr => Upto limitB xs w i wr) (fun i _ => xs.length - (intOf i).toNat)
    case atStart => exact ⟨0, Nat.zero_le _, rfl, by simp, Below.refl _ _⟩
    case round =>
      obtain ⟨k, hk, rfl, ha', hbel⟩ := hrel
      have ha := Lib.hid ha'
      clear ha'
      by_cases hlt : k < xs.length
      · obtain ⟨b, off, rfl, hb, h0, h1, h2⟩ := Limit.row (hx.later hbel (Nat.le_refl _)) k hlt
        cases hv : limitB xs[k]
        all_goals
          go_wp2_with (go_at_call 41; refine (f_limited xs[k] _).mono ?_; rintro e w1 ⟨rfl, hb1⟩)
        · go_ret
          exact ⟨ret_int (checkList_bad hm k hlt hv).symm, by (repeat (first | exact Below.refl _ _ | assumption | (refine Kept.drop ?_ (by assumption)) | (refine Kept.alloc ?_ _) | (refine Below.setCell ?_ (by first | exact Nat.le_refl _ | (simp; done) | (simp; omega) | exact Below.size (by assumption)) _) | (refine Below.drew ?_)))⟩
        · go_round
          case rel => exact ⟨k + 1, by omega, by go_num, take_all hlt ha.out hv, by (repeat (first | exact Below.refl _ _ | assumption | (refine Kept.drop ?_ (by assumption)) | (refine Kept.alloc ?_ _) | (refine Below.setCell ?_ (by first | exact Nat.le_refl _ | (simp; done) | (simp; omega) | exact Below.size (by assumption)) _) | (refine Below.drew ?_)))⟩
          case measure => simp [intOf]; omega
      · go_wp2
        go_ret
        exact ⟨ret_int (checkList_ok hm (by rw [← ha.out, List.take_of_length_le (by omega)])).symm, hbel⟩

theorem f_CheckLoads (a : Option Addr) (cap : Nat) (xs : List Load) (w : World) (hx : Row Load.cells 4 w.heap.size w a xs) (hc : xs.length ≤ cap) (hM : cap ≤ maxLen) :
    Calls Try.prog 6 #[.slice a xs.length cap] w fun e w' => e = .returned (.int .i64 (checkLoads xs)) ∧ Kept w w' := by
  go_enter Try.func6, Try.ntmps6
  go_wp2_with (go_at_call 14; refine (f_checked_Load _ _ _ _ hx hc hM).mono ?_; rintro e w1 ⟨rfl, hb1⟩)
  go_ret
  exact ⟨rfl, hb1⟩

theorem f_CheckLimits (a : Option Addr) (cap : Nat) (xs : List Limit) (w : World) (hx : Row Limit.cells 3 w.heap.size w a xs) (hc : xs.length ≤ cap) (hM : cap ≤ maxLen) :
    Calls Try.prog 32 #[.slice a xs.length cap] w fun e w' => e = .returned (.int .i64 (checkLimits xs)) ∧ Kept w w' := by
  go_enter Try.func32, Try.ntmps32
  go_wp2_with (go_at_call 40; refine (f_checked_Limit _ _ _ _ hx hc hM).mono ?_; rintro e w1 ⟨rfl, hb1⟩)
  go_ret
  exact ⟨rfl, hb1⟩

end Go.Proofs.Ytheahhmlmpameaa.Trim04

/-
  Heaviness and moment, in the program and in the reference.
-/
namespace Go.Proofs.Ytheahhmlmpameaa.Trim04
open Go.RowKit Bal Bal.Trim
set_option linter.unusedVariables false
set_option linter.unusedSimpArgs false
set_option maxHeartbeats 400000

theorem s_min (a : Option Addr) (n cap : Nat) (xs : List Int) (w : World) (hn : xs.length = n) {B : Nat} (hx : Row icell 1 B w a xs) (h0 : 0 < n) (h1 : n ≤ 1000000) :
    Calls Try.prog 35 #[.slice a n cap] w fun e w' => e = .returned (.int .i64 (lmin xs)) ∧ w = w' := by
  subst hn
  obtain ⟨b, off, rfl, hb, c0⟩ := int_row hx 0 h0
  have c00 : w.cell? ⟨b, off, none⟩ = some (.int .i64 xs[0]) := by simpa using c0
  clear c0
  have hlt1 : (0 : Int) < xs.length := by omega
  go_enter Try.func35, Try.ntmps35
  go_wp2
  go_loop [3, 4] (fun m i => ∃ k : Nat, 0 < k ∧ k ≤ xs.length ∧ i = .int .i64 k ∧ m = .int .i64 (lmin (xs.take k))) (fun _ i => xs.length - (intOf i).toNat)
  case atStart => exact ⟨1, by omega, by omega, rfl, by cases xs with | nil => simp at h0 | cons x xs => simp [lmin]⟩
  case round =>
    obtain ⟨k, hk0, hk, rfl, rfl⟩ := hrel
    by_cases hlt : k < xs.length
    · obtain ⟨b', off', hab, _, ck⟩ := int_row hx k hlt
      simp only [Option.some.injEq, Addr.mk.injEq, and_true] at hab
      obtain ⟨rfl, rfl⟩ := hab
      have HT := Lib.hid (lmin_take hk0 hlt)
      go_wp2
      all_goals
        go_round
        case rel => exact ⟨k + 1, by omega, by omega, by go_num, by rw [HT.out, ite_min]⟩
        case measure => simp [intOf]; omega
    · go_wp2
      go_ret
      exact ⟨ret_int (by rw [List.take_of_length_le (by omega)]), rfl⟩

theorem s_max (a : Option Addr) (n cap : Nat) (xs : List Int) (w : World) (hn : xs.length = n) {B : Nat} (hx : Row icell 1 B w a xs) (h0 : 0 < n) (h1 : n ≤ 1000000) :
    Calls Try.prog 36 #[.slice a n cap] w fun e w' => e = .returned (.int .i64 (lmax xs)) ∧ w = w' := by
  subst hn
  obtain ⟨b, off, rfl, hb, c0⟩ := int_row hx 0 h0
  have c00 : w.cell? ⟨b, off, none⟩ = some (.int .i64 xs[0]) := by simpa using c0
  clear c0
  have hlt1 : (0 : Int) < xs.length := by omega
  go_enter Try.func36, Try.ntmps36
  go_wp2
  go_loop [3, 4] (fun m i => ∃ k : Nat, 0 < k ∧ k ≤ xs.length ∧ i = .int .i64 k ∧ m = .int .i64 (lmax (xs.take k))) (fun _ i => xs.length - (intOf i).toNat)
  case atStart => exact ⟨1, by omega, by omega, rfl, by cases xs with | nil => simp at h0 | cons x xs => simp [lmax]⟩
  case round =>
    obtain ⟨k, hk0, hk, rfl, rfl⟩ := hrel
    by_cases hlt : k < xs.length
    · obtain ⟨b', off', hab, _, ck⟩ := int_row hx k hlt
      simp only [Option.some.injEq, Addr.mk.injEq, and_true] at hab
      obtain ⟨rfl, rfl⟩ := hab
      have HT := Lib.hid (lmax_take hk0 hlt)
      go_wp2
      all_goals
        go_round
        case rel => exact ⟨k + 1, by omega, by omega, by go_num, by rw [HT.out, ite_max]⟩
        case measure => simp [intOf]; omega
    · go_wp2
      go_ret
      exact ⟨ret_int (by rw [List.take_of_length_le (by omega)]), rfl⟩

theorem f_bal1 (x : Load) (w : World) :
    Calls Try.prog 22 #[.agg #[.int .i64 x.alo, .int .i64 x.ahi, .int .i64 x.wlo, .int .i64 x.whi]] w fun e w' => e = .returned (.agg #[.int .i64 (x.wlo), .int .i64 (x.whi)]) ∧ Kept w w' := by
  go_enter Try.func22, Try.ntmps22
  go_wp2
  exact bodyPost_ret (v := .agg #[.int .i64 (x.wlo), .int .i64 (x.whi)]) (by simp [results, Try.results22, go_sem]) rfl ⟨rfl, by (exact kpt)⟩

theorem s_min4 (p q r s : Int) (t : TypeId) (W : World) (n : Nat) (hn : n = W.heap.size) :
    Calls Try.prog 35 #[.slice (some ⟨n, 0, none⟩) 4 4] (W.alloc (.cells #[.int .i64 p, .int .i64 q, .int .i64 r, .int .i64 s] t))
      fun e w' => e = .returned (.int .i64 (min (min (min p q) r) s)) ∧ W.alloc (.cells #[.int .i64 p, .int .i64 q, .int .i64 r, .int .i64 s] t) = w' := by
  subst hn
  exact s_min _ 4 4 [p, q, r, s] _ rfl (Row.fresh (enc := icell) (fun _ => rfl) rfl) (by decide) (by decide)

theorem s_max4 (p q r s : Int) (t : TypeId) (W : World) (n : Nat) (hn : n = W.heap.size) :
    Calls Try.prog 36 #[.slice (some ⟨n, 0, none⟩) 4 4] (W.alloc (.cells #[.int .i64 p, .int .i64 q, .int .i64 r, .int .i64 s] t))
      fun e w' => e = .returned (.int .i64 (max (max (max p q) r) s)) ∧ W.alloc (.cells #[.int .i64 p, .int .i64 q, .int .i64 r, .int .i64 s] t) = w' := by
  subst hn
  exact s_max _ 4 4 [p, q, r, s] _ rfl (Row.fresh (enc := icell) (fun _ => rfl) rfl) (by decide) (by decide)

theorem f_times (a b c d : Int) (w : World) (h1 : -40000 ≤ a) (h2 : a ≤ 40000) (h3 : -40000 ≤ b) (h4 : b ≤ 40000) (h5 : -1073741824 ≤ c) (h6 : c ≤ 1073741824) (h7 : -1073741824 ≤ d) (h8 : d ≤ 1073741824) :
    Calls Try.prog 24 #[.agg #[.int .i64 (a), .int .i64 (b)], .agg #[.int .i64 (c), .int .i64 (d)]] w fun e w' => e = .returned (.agg #[.int .i64 (tLo a b c d), .int .i64 (tHi a b c d)]) ∧ Kept w w' := by
  obtain ⟨p1, p2⟩ := mul_bd (A := 40000) (B := 1073741824) h1 h2 h5 h6
  obtain ⟨p3, p4⟩ := mul_bd (A := 40000) (B := 1073741824) h1 h2 h7 h8
  obtain ⟨p5, p6⟩ := mul_bd (A := 40000) (B := 1073741824) h3 h4 h5 h6
  obtain ⟨p7, p8⟩ := mul_bd (A := 40000) (B := 1073741824) h3 h4 h7 h8
  go_enter Try.func24, Try.ntmps24
  go_wp2_with (first | (go_at_call 35; refine (s_min4 _ _ _ _ _ _ _ (by simp)).mono ?_; rintro e w1 ⟨rfl, rfl⟩) | (go_at_call 36; refine (s_max4 _ _ _ _ _ _ _ (by simp)).mono ?_; rintro e w1 ⟨rfl, rfl⟩))
  exact bodyPost_ret (v := .agg #[.int .i64 (tLo a b c d), .int .i64 (tHi a b c d)]) (by simp [results, Try.results24, go_sem, tLo, tHi]) rfl ⟨rfl, by (exact kpt)⟩

theorem f_bal2 (x : Load) (w : World) (hv : loadB x = true) :
    Calls Try.prog 23 #[.agg #[.int .i64 x.alo, .int .i64 x.ahi, .int .i64 x.wlo, .int .i64 x.whi]] w fun e w' => e = .returned (.agg #[.int .i64 (mLo x), .int .i64 (mHi x)]) ∧ Kept w w' := by
  obtain ⟨⟨h1, h2, h3, h4⟩, ⟨h5, h6, h7, h8⟩, _⟩ := loadB_bd hv
  clear hv
  go_enter Try.func23, Try.ntmps23
  go_wp2_with (go_at_call 24; (with_reducible refine (f_times _ _ _ _ _ (by omega) (by omega) (by omega) (by omega) (by omega) (by omega) (by omega) (by omega)).mono ?_); rintro e w1 ⟨rfl, hb1⟩; obtain ⟨hc1, hf1, hl1⟩ := bcell3 hb1)
  exact bodyPost_ret (v := .agg #[.int .i64 (mLo x), .int .i64 (mHi x)]) (by simp [results, Try.results23, go_sem, hc1, hf1, mLo, mHi]) rfl ⟨rfl, by (exact kpt)⟩

/-- added has passed k loads: the sums so far lie in the second block of its own -/
def Added (gLo gHi : Load → Int) (xs : List Load) (w : World) (i : Value) (wr : World) : Prop :=
  ∃ k : Nat, k ≤ xs.length ∧ i = .int .i64 k ∧ Blk wr (w.heap.size + 1) #[.int .i64 (sumBy gLo (xs.take k)), .int .i64 (sumBy gHi (xs.take k))] 25 ∧ Blk wr w.heap.size #[.int .i64 0, .int .i64 0] 25 ∧ Kept w wr

theorem f_added_bal1 (a : Option Addr) (cap : Nat) (xs : List Load) (w : World) (hx : Row Load.cells 4 w.heap.size w a xs) (hc : xs.length ≤ cap) (hM : cap ≤ maxLen) (hn : xs.length ≤ 40) (hv : ∀ x ∈ xs, loadB x = true)
    (hg : ∀ x, loadB x = true → (-50000000000000 ≤ Load.wlo x ∧ Load.wlo x ≤ 50000000000000) ∧ (-50000000000000 ≤ Load.whi x ∧ Load.whi x ≤ 50000000000000)) :
    Calls Try.prog 21 #[.slice a xs.length cap, .func (.func 22) #[] #[]] w fun e w' => e = .returned (.agg #[.int .i64 (sumBy (Load.wlo) xs), .int .i64 (sumBy (Load.whi) xs)]) ∧ Kept w w' := by
  unfold maxLen at hM
  have bLo := fun k => sumBy_take_bd (Load.wlo) 50000000000000 2000000000000000 xs 40 hn (by omega) (by omega) (fun x h => (hg x (hv x h)).1) k
  have bHi := fun k => sumBy_take_bd (Load.whi) 50000000000000 2000000000000000 xs 40 hn (by omega) (by omega) (fun x h => (hg x (hv x h)).2) k
  have HLo := Lib.hid bLo
  have HHi := Lib.hid bHi
  clear bLo bHi
  have HG := Lib.hid hg
  have HV := Lib.hid hv
  clear hg hv
  go_enter Try.func21, Try.ntmps21
  go_wp2
  go_loopw [11] (fun i wr => Added (Load.wlo) (Load.whi) xs w i wr) (fun i _ => xs.length - (intOf i).toNat)
  case atStart => exact ⟨0, Nat.zero_le _, rfl, by simpa using Blk.new (w := w.alloc (.cells #[.int .i64 0, .int .i64 0] 25)), Blk.alloc Blk.new _, by (exact kpt)⟩
  case round =>
    obtain ⟨k, hk, rfl, q1, q0, hbel⟩ := hrel
    have t0 := q1.cell 0
    have t1 := q1.cell 1
    have t2 := q1.free 0
    have t3 := q1.free 1
    have t4 := q0.cell 0
    have t5 := q0.cell 1
    have t6 := q0.free 0
    have t7 := q0.free 1
    have l1 := q1.lt
    have l0 := q0.lt
    simp at t0 t1 t4 t5
    by_cases hlt : k < xs.length
    · obtain ⟨b, off, rfl, hb, h0, h1, h2, h3⟩ := Load.row (hx.later hbel (Nat.le_refl _)) k hlt
      obtain ⟨u1, u2⟩ := HLo.out k
      obtain ⟨u3, u4⟩ := HHi.out k
      obtain ⟨⟨u5, u6⟩, u7, u8⟩ := HG.out xs[k] (HV.out _ (List.getElem_mem hlt))
      go_wp2_with (go_at_call 22; refine (f_bal1 xs[k] _).mono ?_; rintro e w1 ⟨rfl, hb1⟩; have q1' := (q1.alloc _).keep hb1; have q0' := (q0.alloc _).keep hb1; have t0' := q1'.cell 0; have t1' := q1'.cell 1; have t2' := q1'.free 0; have t3' := q1'.free 1; have l1' := q1'.lt; simp at t0' t1')
      go_round
      case rel =>
        refine ⟨k + 1, by omega, by go_num, ?_, ?_, by (exact kpt)⟩
        · rw [sumBy_take _ _ _ hlt, sumBy_take _ _ _ hlt]
          exact Blk.alloc (by simpa using (q1'.set 0 (.int .i64 (sumBy (Load.wlo) (xs.take k) + Load.wlo xs[k]))).set 1 (.int .i64 (sumBy (Load.whi) (xs.take k) + Load.whi xs[k]))) _
        · exact Blk.alloc ((q0'.other (by simp) _).other (by simp) _) _
      case measure => simp [intOf]; omega
    · have hk' : k = xs.length := by omega
      subst hk'
      rw [List.take_length] at t0 t1
      go_wp2
      exact bodyPost_ret (v := .agg #[.int .i64 (sumBy (Load.wlo) xs), .int .i64 (sumBy (Load.whi) xs)]) (by simp [results, Try.results21, go_sem, t4, t5, t6, t7]) rfl ⟨rfl, by (exact kpt)⟩

theorem f_added_bal2 (a : Option Addr) (cap : Nat) (xs : List Load) (w : World) (hx : Row Load.cells 4 w.heap.size w a xs) (hc : xs.length ≤ cap) (hM : cap ≤ maxLen) (hn : xs.length ≤ 40) (hv : ∀ x ∈ xs, loadB x = true)
    (hg : ∀ x, loadB x = true → (-50000000000000 ≤ mLo x ∧ mLo x ≤ 50000000000000) ∧ (-50000000000000 ≤ mHi x ∧ mHi x ≤ 50000000000000)) :
    Calls Try.prog 21 #[.slice a xs.length cap, .func (.func 23) #[] #[]] w fun e w' => e = .returned (.agg #[.int .i64 (sumBy (mLo) xs), .int .i64 (sumBy (mHi) xs)]) ∧ Kept w w' := by
  unfold maxLen at hM
  have bLo := fun k => sumBy_take_bd (mLo) 50000000000000 2000000000000000 xs 40 hn (by omega) (by omega) (fun x h => (hg x (hv x h)).1) k
  have bHi := fun k => sumBy_take_bd (mHi) 50000000000000 2000000000000000 xs 40 hn (by omega) (by omega) (fun x h => (hg x (hv x h)).2) k
  have HLo := Lib.hid bLo
  have HHi := Lib.hid bHi
  clear bLo bHi
  have HG := Lib.hid hg
  have HV := Lib.hid hv
  clear hg hv
  go_enter Try.func21, Try.ntmps21
  go_wp2
  go_loopw [11] (fun i wr => Added (mLo) (mHi) xs w i wr) (fun i _ => xs.length - (intOf i).toNat)
  case atStart => exact ⟨0, Nat.zero_le _, rfl, by simpa using Blk.new (w := w.alloc (.cells #[.int .i64 0, .int .i64 0] 25)), Blk.alloc Blk.new _, by (exact kpt)⟩
  case round =>
    obtain ⟨k, hk, rfl, q1, q0, hbel⟩ := hrel
    have t0 := q1.cell 0
    have t1 := q1.cell 1
    have t2 := q1.free 0
    have t3 := q1.free 1
    have t4 := q0.cell 0
    have t5 := q0.cell 1
    have t6 := q0.free 0
    have t7 := q0.free 1
    have l1 := q1.lt
    have l0 := q0.lt
    simp at t0 t1 t4 t5
    by_cases hlt : k < xs.length
    · obtain ⟨b, off, rfl, hb, h0, h1, h2, h3⟩ := Load.row (hx.later hbel (Nat.le_refl _)) k hlt
      obtain ⟨u1, u2⟩ := HLo.out k
      obtain ⟨u3, u4⟩ := HHi.out k
      obtain ⟨⟨u5, u6⟩, u7, u8⟩ := HG.out xs[k] (HV.out _ (List.getElem_mem hlt))
      go_wp2_with (go_at_call 23; refine (f_bal2 xs[k] _ (HV.out _ (List.getElem_mem hlt))).mono ?_; rintro e w1 ⟨rfl, hb1⟩; have q1' := (q1.alloc _).keep hb1; have q0' := (q0.alloc _).keep hb1; have t0' := q1'.cell 0; have t1' := q1'.cell 1; have t2' := q1'.free 0; have t3' := q1'.free 1; have l1' := q1'.lt; simp at t0' t1')
      go_round
      case rel =>
        refine ⟨k + 1, by omega, by go_num, ?_, ?_, by (exact kpt)⟩
        · rw [sumBy_take _ _ _ hlt, sumBy_take _ _ _ hlt]
          exact Blk.alloc (by simpa using (q1'.set 0 (.int .i64 (sumBy (mLo) (xs.take k) + mLo xs[k]))).set 1 (.int .i64 (sumBy (mHi) (xs.take k) + mHi xs[k]))) _
        · exact Blk.alloc ((q0'.other (by simp) _).other (by simp) _) _
      case measure => simp [intOf]; omega
    · have hk' : k = xs.length := by omega
      subst hk'
      rw [List.take_length] at t0 t1
      go_wp2
      exact bodyPost_ret (v := .agg #[.int .i64 (sumBy (mLo) xs), .int .i64 (sumBy (mHi) xs)]) (by simp [results, Try.results21, go_sem, t4, t5, t6, t7]) rfl ⟨rfl, by (exact kpt)⟩

theorem bal1_bd (x : Load) (h : loadB x = true) : (-50000000000000 ≤ x.wlo ∧ x.wlo ≤ 50000000000000) ∧ (-50000000000000 ≤ x.whi ∧ x.whi ≤ 50000000000000) := by
  have := loadB_bd h
  omega
theorem bal2_bd (x : Load) (h : loadB x = true) : (-50000000000000 ≤ mLo x ∧ mLo x ≤ 50000000000000) ∧ (-50000000000000 ≤ mHi x ∧ mHi x ≤ 50000000000000) := by
  have h1 := loadB_bd h
  have h2 := t_bd (A := 20000) (B := 1073741824) (a := x.alo) (b := x.ahi) (c := x.wlo) (d := x.whi) (by omega) (by omega)
  unfold mLo mHi
  omega

theorem f_Balance (a : Option Addr) (cap : Nat) (xs : List Load) (w : World) (hx : Row Load.cells 4 w.heap.size w a xs) (hc : xs.length ≤ cap) (hM : cap ≤ maxLen) :
    Calls Try.prog 12 #[.slice a xs.length cap] w fun e w' => e = .returned (.tuple #[.agg #[.int .i64 (ifOk (checkLoads xs) (sumBy Load.wlo xs)), .int .i64 (ifOk (checkLoads xs) (sumBy Load.whi xs))], .agg #[.int .i64 (ifOk (checkLoads xs) (sumBy mLo xs)), .int .i64 (ifOk (checkLoads xs) (sumBy mHi xs))], .int .i64 (checkLoads xs)]) ∧ Kept w w' := by
  by_cases he : checkLoads xs = 0
  · obtain ⟨hn, hv⟩ := checkLoads_ok he
    have HE := Lib.hid he
    have hb : (checkLoads xs != 0) = false := by simp [he]
    have HV := Lib.hid hv
    clear hv he
    go_enter Try.func12, Try.ntmps12
    go_wp2_with (first | (go_at_call 6; refine (f_CheckLoads _ _ _ _ (hx.later (by (exact kpt)) (Nat.le_refl _)) hc hM).mono ?_; rintro e w1 ⟨rfl, hb1⟩; refine Blk.thru (b := w.heap.size) (arr := ?_) (t := ?_) ?_ hb1 ?_; rotate_left 2; (focus (exact blk)); intro r0; have r0c0 := r0.cell 0; have r0f0 := r0.free 0; have r0c1 := r0.cell 1; have r0f1 := r0.free 1; have r0l := r0.lt; simp at r0c0 r0c1; refine Blk.thru (b := w.heap.size + 1) (arr := ?_) (t := ?_) ?_ hb1 ?_; rotate_left 2; (focus (exact blk)); intro r1; have r1c0 := r1.cell 0; have r1f0 := r1.free 0; have r1c1 := r1.cell 1; have r1f1 := r1.free 1; have r1l := r1.lt; simp at r1c0 r1c1) | (go_at_call 21; refine (f_added_bal1 _ _ _ _ (hx.later (by (exact kpt)) (Nat.le_refl _)) hc hM hn HV.out bal1_bd).mono ?_; rintro e w1 ⟨rfl, hb1⟩; refine Blk.thru (b := w.heap.size) (arr := ?_) (t := ?_) ?_ hb1 ?_; rotate_left 2; (focus (exact blk)); intro r0; have r0c0 := r0.cell 0; have r0f0 := r0.free 0; have r0c1 := r0.cell 1; have r0f1 := r0.free 1; have r0l := r0.lt; simp at r0c0 r0c1; refine Blk.thru (b := w.heap.size + 1) (arr := ?_) (t := ?_) ?_ hb1 ?_; rotate_left 2; (focus (exact blk)); intro r1; have r1c0 := r1.cell 0; have r1f0 := r1.free 0; have r1c1 := r1.cell 1; have r1f1 := r1.free 1; have r1l := r1.lt; simp at r1c0 r1c1))
    refine at_world (S := fun W => Blk W w.heap.size #[.int .i64 (sumBy Load.wlo xs), .int .i64 (sumBy Load.whi xs)] 25 ∧ Blk W (w.heap.size + 1) #[.int .i64 0, .int .i64 0] 25 ∧ Kept w W) ?_ ?_
    · exact ⟨by simpa using (r0.set 0 (.int .i64 (sumBy Load.wlo xs))).set 1 (.int .i64 (sumBy Load.whi xs)), (r1.other (by simp) _).other (by simp) _, by (exact kpt)⟩
    rintro W ⟨r0, r1, hk⟩
    have r0c0 := fun g : Later W => (r0.later g).cell 0
    have r0f0 := fun g : Later W => (r0.later g).free 0
    have r0c1 := fun g : Later W => (r0.later g).cell 1
    have r0f1 := fun g : Later W => (r0.later g).free 1
    have r0l := fun g : Later W => (r0.later g).lt
    simp at r0c0 r0c1
    have r1c0 := fun g : Later W => (r1.later g).cell 0
    have r1f0 := fun g : Later W => (r1.later g).free 0
    have r1c1 := fun g : Later W => (r1.later g).cell 1
    have r1f1 := fun g : Later W => (r1.later g).free 1
    have r1l := fun g : Later W => (r1.later g).lt
    simp at r1c0 r1c1
    refine Later.tail 3 (by kernel_rfl) (by kernel_rfl) ?_
    simp only [List.take_succ_cons, List.take_zero, List.drop_succ_cons, List.drop_zero]
    repeat (first | go_big_quiet_skip | (go_big_quiet_want; go_big_quiet_op; first | go_big_quiet_on | (apply Exists.intro; refine ⟨fun g => ?_, ?_⟩; (focus (first | (go_at_call 21; exact Later.call (f_added_bal2 _ _ _ _ (hx.later (Kept.drop hk g.ok) (Nat.le_refl _)) hc hM hn HV.out bal2_bd)))); go_big_quiet_on)))
    refine wpQuiet_nil ?_
    intro g
    have hkg := Kept.drop hk g.ok
    go_wp2
    have z : ∀ v, ifOk (checkLoads xs) v = v := fun v => if_pos HE.out
    simp only [z]
    exact bodyPost_ret (v := .tuple #[.agg #[.int .i64 (sumBy Load.wlo xs), .int .i64 (sumBy Load.whi xs)], .agg #[.int .i64 (sumBy mLo xs), .int .i64 (sumBy mHi xs)], .int .i64 0]) (by simp [results, Try.results12, go_sem, r0c0, r0c1, r1c0, r1c1, r0f0, r0f1, r1f0, r1f1]) rfl ⟨by rw [HE.out], by (exact kpt)⟩
  · have hb : (checkLoads xs != 0) = true := by simp [he]
    have HE := Lib.hid he
    clear he
    go_enter Try.func12, Try.ntmps12
    go_wp2_with (first | (go_at_call 6; refine (f_CheckLoads _ _ _ _ (hx.later (by (exact kpt)) (Nat.le_refl _)) hc hM).mono ?_; rintro e w1 ⟨rfl, hb1⟩; refine Blk.thru (b := w.heap.size) (arr := ?_) (t := ?_) ?_ hb1 ?_; rotate_left 2; (focus (exact blk)); intro r0; have r0c0 := r0.cell 0; have r0f0 := r0.free 0; have r0c1 := r0.cell 1; have r0f1 := r0.free 1; have r0l := r0.lt; simp at r0c0 r0c1; refine Blk.thru (b := w.heap.size + 1) (arr := ?_) (t := ?_) ?_ hb1 ?_; rotate_left 2; (focus (exact blk)); intro r1; have r1c0 := r1.cell 0; have r1f0 := r1.free 0; have r1c1 := r1.cell 1; have r1f1 := r1.free 1; have r1l := r1.lt; simp at r1c0 r1c1))
    have z : ∀ v, ifOk (checkLoads xs) v = 0 := fun v => if_neg HE.out
    simp only [z]
    exact bodyPost_ret (v := .tuple #[.agg #[.int .i64 (0), .int .i64 (0)], .agg #[.int .i64 (0), .int .i64 (0)], .int .i64 (checkLoads xs)]) (by simp [results, Try.results12, go_sem, r0c0, r0c1, r1c0, r1c1]) rfl ⟨rfl, by (exact kpt)⟩

end Go.Proofs.Ytheahhmlmpameaa.Trim04

/-
  Rows of elements: parts of them, equal lists, what a call owns. No program in sight.
-/
namespace Bal
open Go Go.RowKit
/-- one element of a row as a row of its own -/
theorem Row.sub {α : Type} {enc : α → List Value} {k B : Nat} {w : World} {b off : Nat} {xs : List α} (h : Row enc k B w (some ⟨b, off, none⟩) xs) (i : Nat) (hi : i < xs.length) :
    Row enc k B w (some ⟨b, off + i * k, none⟩) [xs[i]] := by
  intro j x hx
  have hj : j = 0 := by
    have := (List.getElem?_eq_some_iff.1 hx).1
    simp at this; omega
  subst hj
  simp at hx
  subst hx
  obtain ⟨b', off', ha, hb, hc⟩ := h i xs[i] (by simp [hi])
  simp only [Option.some.injEq, Addr.mk.injEq, and_true] at ha
  obtain ⟨rfl, rfl⟩ := ha
  exact ⟨b, off + i * k, rfl, hb, fun j v hv => by rw [Nat.zero_mul, Nat.add_zero]; exact hc j v hv⟩
/-- the first elements of a row -/
theorem Row.take {α : Type} {enc : α → List Value} {k B : Nat} {w : World} {a : Option Addr} {xs : List α} (h : Row enc k B w a xs) (n : Nat) : Row enc k B w a (xs.take n) := by
  intro i x hx
  rw [List.getElem?_take] at hx
  split at hx
  · exact h i x hx
  · cases hx
theorem Row.one {α : Type} {enc : α → List Value} {k : Nat} {w : World} {b : Nat} {arr : Array Value} {t : TypeId} {x : α} (h : Blk w b arr t) (he : arr.toList = enc x) : Row enc k w.heap.size w (some ⟨b, 0, none⟩) [x] := by
  intro j y hy
  have hj : j = 0 := by
    have := (List.getElem?_eq_some_iff.1 hy).1
    simp at this; omega
  subst hj
  simp at hy
  subst hy
  exact ⟨b, 0, rfl, h.lt, fun j v hv => by simp only [Nat.zero_mul, Nat.zero_add]; rw [h.cell, ← Array.getElem?_toList, he]; exact hv⟩
/-- a block of several elements as a row -/
theorem Row.block {α : Type} {enc : α → List Value} {k : Nat} {w : World} {b : Nat} {arr : Array Value} {t : TypeId} {xs : List α} (he : ∀ x, (enc x).length = k) (h : Blk w b arr t) (ha : arr.toList = xs.flatMap enc) : Row enc k w.heap.size w (some ⟨b, 0, none⟩) xs := by
  intro i x hx
  refine ⟨b, 0, rfl, h.lt, fun j v hj => ?_⟩
  have hjk : j < k := by rw [← he x]; exact (List.getElem?_eq_some_iff.1 hj).1
  rw [h.cell, Nat.zero_add, ← Array.getElem?_toList, ha, flatMap_get he xs i x hx j hjk]
  exact hj
theorem cell_two_at {w : World} {n : Nat} (h : n = w.heap.size) (a b : Value) (t : TypeId) : ∀ j u, [a, b][j]? = some u → (w.alloc (.cells #[a, b] t)).cell? ((⟨n, 0, none⟩ : Addr).add j) = some u := h ▸ cell_two_new w a b t
theorem cell_one_at {w : World} {n : Nat} (h : n = w.heap.size) (a : Value) (t : TypeId) : ∀ j u, [a][j]? = some u → (w.alloc (.cells #[a] t)).cell? ((⟨n, 0, none⟩ : Addr).add j) = some u := by
  subst h
  intro j u hj
  have hj0 : j = 0 := by
    have := (List.getElem?_eq_some_iff.1 hj).1
    simp at this; omega
  subst hj0
  simp at hj
  subst hj
  simp [Addr.add]
theorem owns_lt {w : World} {base k n g : Nat} {e : TypeId} {v : Value} {xs : List Value} (ho : w.ownsRow base e k v n xs) (h : v.ownBlock = some g) : g < w.heap.size := by
  obtain ⟨_, ⟨rfl, _⟩ | ⟨g', cap, cur, rfl, _, hh, _⟩⟩ := ho
  · cases h
  · simp only [Value.ownBlock, Option.some.injEq] at h
    subst h
    rcases Nat.lt_or_ge g' w.heap.size with h' | h'
    · exact h'
    · rw [Array.getElem?_eq_none h'] at hh; cases hh
theorem owns_setB {w : World} {base k n b i : Nat} {e : TypeId} {v u : Value} {xs : List Value} (ho : w.ownsRow base e k v n xs) (hne : v.ownBlock ≠ some b) : (w.setCell ⟨b, i, none⟩ u).ownsRow base e k v n xs := by
  obtain ⟨h1, h2 | ⟨g, cap, cur, hv, hg, hh, r⟩⟩ := ho
  · exact ⟨h1, .inl h2⟩
  · refine ⟨h1, .inr ⟨g, cap, cur, hv, hg, ?_, r⟩⟩
    have hgb : b ≠ g := by
      rintro rfl
      exact hne (by rw [hv]; rfl)
    exact Blk.other (w := w) (b := g) (arr := cur) (t := e) (a := ⟨b, i, none⟩) hh (by simpa using hgb) u
/-- two lists are equal as far as they were compared -/
theorem eq_take_succ {α : Type} {xs ys : List α} {k : Nat} (h1 : k < xs.length) (h2 : k < ys.length) (h : xs.take k = ys.take k) (he : xs[k] = ys[k]) : xs.take (k + 1) = ys.take (k + 1) := by
  rw [List.take_succ_eq_append_getElem h1, List.take_succ_eq_append_getElem h2, h, he]
theorem ne_of_get {α : Type} {xs ys : List α} {k : Nat} (h1 : k < xs.length) (h2 : k < ys.length) (he : xs[k] ≠ ys[k]) : xs ≠ ys := by
  rintro rfl; exact he rfl
theorem ne_of_len {α : Type} {xs ys : List α} (h : xs.length ≠ ys.length) : xs ≠ ys := by rintro rfl; exact h rfl
theorem eq_of_take {α : Type} {xs ys : List α} (hl : xs.length = ys.length) (h : xs.take xs.length = ys.take xs.length) : xs = ys := by
  rw [List.take_length, hl, List.take_length] at h; exact h
/-- a slice that a call owns, as a row at an address; nil if it is empty and unmade -/
theorem owns_row {α : Type} {enc : α → List Value} {k base : Nat} {e : TypeId} {w : World} {v : Value} {xs : List α} (he : ∀ x, (enc x).length = k) (h : w.ownsRow base e k v xs.length (xs.flatMap enc)) :
    ∃ a cap, v = .slice a xs.length cap ∧ Row enc k w.heap.size w a xs ∧ xs.length ≤ cap ∧ cap ≤ maxLen := Row.of_owns he h
end Bal

/-
  Limits at work, in the program: the value of a put, the worst corner of a load, the worst choice.
-/
namespace Go.Proofs.Ytheahhmlmpameaa.Trim04
open Go.RowKit Bal Bal.Trim
set_option linter.unusedVariables false
set_option linter.unusedSimpArgs false
set_option maxHeartbeats 800000

set_option maxRecDepth 10000

theorem f_value (m : Limit) (p : Put) (w : World) (hm : limitB m = true) (hp : putB p) :
    Calls Try.prog 42 #[.agg #[.int .i64 m.a, .int .i64 m.b, .int .i64 m.c], .agg #[.int .i64 p.pos, .int .i64 p.wt]] w fun e w' => e = .returned (.int .i64 (vOf m p)) ∧ Kept w w' := by
  obtain ⟨⟨h1, h2⟩, ⟨h3, h4⟩, h5, h6⟩ := put_bd hm hp
  clear hm hp
  go_enter Try.func42, Try.ntmps42
  go_wp2
  go_ret
  exact ⟨rfl, by (exact kpt)⟩

/-- the best corner so far -/
def bestK (m : Limit) (x : Load) : Nat → Put
  | 0 => ⟨x.alo, x.wlo⟩
  | 1 => best1 m x
  | 2 => best2 m x
  | _ => best m x
def nextC (x : Load) : Nat → Put
  | 0 => ⟨x.ahi, x.wlo⟩
  | 1 => ⟨x.alo, x.whi⟩
  | _ => ⟨x.ahi, x.whi⟩
theorem bestK_succ (m : Limit) (x : Load) (k : Nat) (hk : k < 3) : bestK m x (k + 1) = better m (bestK m x k) (nextC x k) := by
  rcases (show k = 0 ∨ k = 1 ∨ k = 2 by omega) with rfl | rfl | rfl <;> rfl
theorem bestK_B {m : Limit} {x : Load} (h : loadB x = true) (k : Nat) : putB (bestK m x k) := by
  match k with
  | 0 => exact corner_B h (by simp [bestK, corners])
  | 1 => exact corner_B h (best1_mem m x)
  | 2 => exact corner_B h (best2_mem m x)
  | (n + 3) => exact corner_B h (best_mem m x)
theorem nextC_B {x : Load} (h : loadB x = true) (k : Nat) : putB (nextC x k) := by
  match k with
  | 0 => exact corner_B h (by simp [nextC, corners])
  | 1 => exact corner_B h (by simp [nextC, corners])
  | (n + 2) => exact corner_B h (by simp [nextC, corners])
theorem better_lt {m : Limit} {b p : Put} (h : vOf m b < vOf m p) : better m b p = p := if_pos h
theorem better_ge {m : Limit} {b p : Put} (h : ¬ vOf m b < vOf m p) : better m b p = b := if_neg h
def CornerW (w w1 : World) (m : Limit) (x : Load) (B : Put) (wr : World) : Prop :=
  Blk wr w.heap.size #[.int .i64 m.a, .int .i64 m.b, .int .i64 m.c] 83 ∧ Blk wr (w.heap.size + 1 + 1) #[.int .i64 0, .int .i64 0] 89 ∧ Blk wr (w.heap.size + 1 + 1 + 1) #[.int .i64 B.pos, .int .i64 B.wt] 89 ∧ Blk wr w1.heap.size #[.int .i64 x.ahi, .int .i64 x.wlo, .int .i64 x.alo, .int .i64 x.whi, .int .i64 x.ahi, .int .i64 x.whi] 89 ∧ Kept w wr
def CornerRel (w w1 : World) (m : Limit) (x : Load) (mo i : Value) (wr : World) : Prop :=
  ∃ (k : Nat) (B : Put), k ≤ 3 ∧ i = .int .i64 k ∧ B = bestK m x k ∧ mo = .int .i64 (vOf m B) ∧ CornerW w w1 m x B wr

theorem f_corner (m : Limit) (x : Load) (w : World) (hm : limitB m = true) (hx : loadB x = true) :
    Calls Try.prog 34 #[.agg #[.int .i64 m.a, .int .i64 m.b, .int .i64 m.c], .agg #[.int .i64 x.alo, .int .i64 x.ahi, .int .i64 x.wlo, .int .i64 x.whi]] w fun e w' => e = .returned (.tuple #[.agg #[.int .i64 (best m x).pos, .int .i64 (best m x).wt], .int .i64 (vOf m (best m x))]) ∧ Kept w w' := by
  have HM := Lib.hid hm
  have HX := Lib.hid hx
  have HB0 := Lib.hid (show putB ⟨x.alo, x.wlo⟩ from corner_B hx (by simp [corners]))
  clear hm hx
  go_enter Try.func34, Try.ntmps34
  go_wp2_with (go_at_call 42; (with_reducible refine (f_value m ⟨x.alo, x.wlo⟩ _ HM.out HB0.out).mono ?_); rintro e w1 ⟨rfl, hb1⟩; obtain ⟨hc1, hf1, hl1⟩ := bcell3 hb1; refine Blk.thru (b := w.heap.size + 1) (arr := ?_) (t := ?_) ?_ hb1 ?_; rotate_left 2; (focus (exact blk)); intro qx; have qxc0 := qx.cell 0; have qxf0 := qx.free 0; have qxc1 := qx.cell 1; have qxf1 := qx.free 1; have qxc2 := qx.cell 2; have qxf2 := qx.free 2; have qxc3 := qx.cell 3; have qxf3 := qx.free 3; have qxl := qx.lt; simp at qxc0 qxc1 qxc2 qxc3; refine Blk.thru (b := w.heap.size) (arr := ?_) (t := ?_) ?_ hb1 ?_; rotate_left 2; (focus (exact blk)); intro qs; have qsc0 := qs.cell 0; have qsf0 := qs.free 0; have qsc1 := qs.cell 1; have qsf1 := qs.free 1; have qsc2 := qs.cell 2; have qsf2 := qs.free 2; have qsl := qs.lt; simp at qsc0 qsc1 qsc2)
  go_loopw [7, 44] (fun mo i wr => CornerRel w w1 m x mo i wr) (fun _ i _ => 3 - (intOf i).toNat)
  case atStart => exact ⟨0, ⟨x.alo, x.wlo⟩, by omega, rfl, rfl, rfl, by (exact blk), by (exact blk), by (exact blkc), by (exact blkc), by (exact kpt)⟩
  case round =>
    clear hc1 hf1 hl1
    obtain ⟨k, Bk, hk3, rfl, hBk, rfl, q0, q2, q3, q4, hk⟩ := hrel
    by_cases hk' : k < 3
    · have HS := Lib.hid (bestK_succ m x k hk')
      have HB := Lib.hid (bestK_B (m := m) HX.out k)
      have HN := Lib.hid (nextC_B HX.out k)
      rw [← hBk] at HS HB
      clear hBk
      by_cases hc : vOf m Bk < vOf m (nextC x k)
      · have HC := Lib.hid (better_lt hc)
        rcases (show k = 0 ∨ k = 1 ∨ k = 2 by omega) with rfl | rfl | rfl
        · simp only [nextC] at hc HC HN HS
          have q0c0 := q0.cell 0
          have q0f0 := q0.free 0
          have q0c1 := q0.cell 1
          have q0f1 := q0.free 1
          have q0c2 := q0.cell 2
          have q0f2 := q0.free 2
          have q0l := q0.lt
          simp at q0c0 q0c1 q0c2
          have q2c0 := q2.cell 0
          have q2f0 := q2.free 0
          have q2c1 := q2.cell 1
          have q2f1 := q2.free 1
          have q2l := q2.lt
          simp at q2c0 q2c1
          have q3c0 := q3.cell 0
          have q3f0 := q3.free 0
          have q3c1 := q3.cell 1
          have q3f1 := q3.free 1
          have q3l := q3.lt
          simp at q3c0 q3c1
          have q4c0 := q4.cell 0
          have q4f0 := q4.free 0
          have q4c1 := q4.cell 1
          have q4f1 := q4.free 1
          have q4c2 := q4.cell 2
          have q4f2 := q4.free 2
          have q4c3 := q4.cell 3
          have q4f3 := q4.free 3
          have q4c4 := q4.cell 4
          have q4f4 := q4.free 4
          have q4c5 := q4.cell 5
          have q4f5 := q4.free 5
          have q4l := q4.lt
          simp at q4c0 q4c1 q4c2 q4c3 q4c4 q4c5
          go_wp2_with (first | (go_at_call 42; (with_reducible refine (f_value m ⟨x.ahi, x.wlo⟩ _ HM.out HN.out).mono ?_); rintro e w1 ⟨rfl, hb1⟩; obtain ⟨hc1, hf1, hl1⟩ := bcell3 hb1; refine Blk.thru (b := wr.heap.size) (arr := ?_) (t := ?_) ?_ hb1 ?_; rotate_left 2; (focus (exact blk)); intro qy; have qyc0 := qy.cell 0; have qyf0 := qy.free 0; have qyc1 := qy.cell 1; have qyf1 := qy.free 1; have qyl := qy.lt; simp at qyc0 qyc1) | (go_at_call 42; (with_reducible refine (f_value m ⟨x.alo, x.whi⟩ _ HM.out HN.out).mono ?_); rintro e w1 ⟨rfl, hb1⟩; obtain ⟨hc1, hf1, hl1⟩ := bcell3 hb1; refine Blk.thru (b := wr.heap.size) (arr := ?_) (t := ?_) ?_ hb1 ?_; rotate_left 2; (focus (exact blk)); intro qy; have qyc0 := qy.cell 0; have qyf0 := qy.free 0; have qyc1 := qy.cell 1; have qyf1 := qy.free 1; have qyl := qy.lt; simp at qyc0 qyc1) | (go_at_call 42; (with_reducible refine (f_value m ⟨x.ahi, x.whi⟩ _ HM.out HN.out).mono ?_); rintro e w1 ⟨rfl, hb1⟩; obtain ⟨hc1, hf1, hl1⟩ := bcell3 hb1; refine Blk.thru (b := wr.heap.size) (arr := ?_) (t := ?_) ?_ hb1 ?_; rotate_left 2; (focus (exact blk)); intro qy; have qyc0 := qy.cell 0; have qyf0 := qy.free 0; have qyc1 := qy.cell 1; have qyf1 := qy.free 1; have qyl := qy.lt; simp at qyc0 qyc1))
          go_round
          case rel => exact ⟨1, ⟨x.ahi, x.wlo⟩, by omega, by go_num, by rw [HS.out, HC.out], rfl, by (exact blk), by (exact blk), by (exact blkc), by (exact blk), by (exact kpt)⟩
          case measure => simp [intOf]
        · simp only [nextC] at hc HC HN HS
          have q0c0 := q0.cell 0
          have q0f0 := q0.free 0
          have q0c1 := q0.cell 1
          have q0f1 := q0.free 1
          have q0c2 := q0.cell 2
          have q0f2 := q0.free 2
          have q0l := q0.lt
          simp at q0c0 q0c1 q0c2
          have q2c0 := q2.cell 0
          have q2f0 := q2.free 0
          have q2c1 := q2.cell 1
          have q2f1 := q2.free 1
          have q2l := q2.lt
          simp at q2c0 q2c1
          have q3c0 := q3.cell 0
          have q3f0 := q3.free 0
          have q3c1 := q3.cell 1
          have q3f1 := q3.free 1
          have q3l := q3.lt
          simp at q3c0 q3c1
          have q4c0 := q4.cell 0
          have q4f0 := q4.free 0
          have q4c1 := q4.cell 1
          have q4f1 := q4.free 1
          have q4c2 := q4.cell 2
          have q4f2 := q4.free 2
          have q4c3 := q4.cell 3
          have q4f3 := q4.free 3
          have q4c4 := q4.cell 4
          have q4f4 := q4.free 4
          have q4c5 := q4.cell 5
          have q4f5 := q4.free 5
          have q4l := q4.lt
          simp at q4c0 q4c1 q4c2 q4c3 q4c4 q4c5
          go_wp2_with (first | (go_at_call 42; (with_reducible refine (f_value m ⟨x.ahi, x.wlo⟩ _ HM.out HN.out).mono ?_); rintro e w1 ⟨rfl, hb1⟩; obtain ⟨hc1, hf1, hl1⟩ := bcell3 hb1; refine Blk.thru (b := wr.heap.size) (arr := ?_) (t := ?_) ?_ hb1 ?_; rotate_left 2; (focus (exact blk)); intro qy; have qyc0 := qy.cell 0; have qyf0 := qy.free 0; have qyc1 := qy.cell 1; have qyf1 := qy.free 1; have qyl := qy.lt; simp at qyc0 qyc1) | (go_at_call 42; (with_reducible refine (f_value m ⟨x.alo, x.whi⟩ _ HM.out HN.out).mono ?_); rintro e w1 ⟨rfl, hb1⟩; obtain ⟨hc1, hf1, hl1⟩ := bcell3 hb1; refine Blk.thru (b := wr.heap.size) (arr := ?_) (t := ?_) ?_ hb1 ?_; rotate_left 2; (focus (exact blk)); intro qy; have qyc0 := qy.cell 0; have qyf0 := qy.free 0; have qyc1 := qy.cell 1; have qyf1 := qy.free 1; have qyl := qy.lt; simp at qyc0 qyc1) | (go_at_call 42; (with_reducible refine (f_value m ⟨x.ahi, x.whi⟩ _ HM.out HN.out).mono ?_); rintro e w1 ⟨rfl, hb1⟩; obtain ⟨hc1, hf1, hl1⟩ := bcell3 hb1; refine Blk.thru (b := wr.heap.size) (arr := ?_) (t := ?_) ?_ hb1 ?_; rotate_left 2; (focus (exact blk)); intro qy; have qyc0 := qy.cell 0; have qyf0 := qy.free 0; have qyc1 := qy.cell 1; have qyf1 := qy.free 1; have qyl := qy.lt; simp at qyc0 qyc1))
          go_round
          case rel => exact ⟨2, ⟨x.alo, x.whi⟩, by omega, by go_num, by rw [HS.out, HC.out], rfl, by (exact blk), by (exact blk), by (exact blkc), by (exact blk), by (exact kpt)⟩
          case measure => simp [intOf]
        · simp only [nextC] at hc HC HN HS
          have q0c0 := q0.cell 0
          have q0f0 := q0.free 0
          have q0c1 := q0.cell 1
          have q0f1 := q0.free 1
          have q0c2 := q0.cell 2
          have q0f2 := q0.free 2
          have q0l := q0.lt
          simp at q0c0 q0c1 q0c2
          have q2c0 := q2.cell 0
          have q2f0 := q2.free 0
          have q2c1 := q2.cell 1
          have q2f1 := q2.free 1
          have q2l := q2.lt
          simp at q2c0 q2c1
          have q3c0 := q3.cell 0
          have q3f0 := q3.free 0
          have q3c1 := q3.cell 1
          have q3f1 := q3.free 1
          have q3l := q3.lt
          simp at q3c0 q3c1
          have q4c0 := q4.cell 0
          have q4f0 := q4.free 0
          have q4c1 := q4.cell 1
          have q4f1 := q4.free 1
          have q4c2 := q4.cell 2
          have q4f2 := q4.free 2
          have q4c3 := q4.cell 3
          have q4f3 := q4.free 3
          have q4c4 := q4.cell 4
          have q4f4 := q4.free 4
          have q4c5 := q4.cell 5
          have q4f5 := q4.free 5
          have q4l := q4.lt
          simp at q4c0 q4c1 q4c2 q4c3 q4c4 q4c5
          go_wp2_with (first | (go_at_call 42; (with_reducible refine (f_value m ⟨x.ahi, x.wlo⟩ _ HM.out HN.out).mono ?_); rintro e w1 ⟨rfl, hb1⟩; obtain ⟨hc1, hf1, hl1⟩ := bcell3 hb1; refine Blk.thru (b := wr.heap.size) (arr := ?_) (t := ?_) ?_ hb1 ?_; rotate_left 2; (focus (exact blk)); intro qy; have qyc0 := qy.cell 0; have qyf0 := qy.free 0; have qyc1 := qy.cell 1; have qyf1 := qy.free 1; have qyl := qy.lt; simp at qyc0 qyc1) | (go_at_call 42; (with_reducible refine (f_value m ⟨x.alo, x.whi⟩ _ HM.out HN.out).mono ?_); rintro e w1 ⟨rfl, hb1⟩; obtain ⟨hc1, hf1, hl1⟩ := bcell3 hb1; refine Blk.thru (b := wr.heap.size) (arr := ?_) (t := ?_) ?_ hb1 ?_; rotate_left 2; (focus (exact blk)); intro qy; have qyc0 := qy.cell 0; have qyf0 := qy.free 0; have qyc1 := qy.cell 1; have qyf1 := qy.free 1; have qyl := qy.lt; simp at qyc0 qyc1) | (go_at_call 42; (with_reducible refine (f_value m ⟨x.ahi, x.whi⟩ _ HM.out HN.out).mono ?_); rintro e w1 ⟨rfl, hb1⟩; obtain ⟨hc1, hf1, hl1⟩ := bcell3 hb1; refine Blk.thru (b := wr.heap.size) (arr := ?_) (t := ?_) ?_ hb1 ?_; rotate_left 2; (focus (exact blk)); intro qy; have qyc0 := qy.cell 0; have qyf0 := qy.free 0; have qyc1 := qy.cell 1; have qyf1 := qy.free 1; have qyl := qy.lt; simp at qyc0 qyc1))
          go_round
          case rel => exact ⟨3, ⟨x.ahi, x.whi⟩, by omega, by go_num, by rw [HS.out, HC.out], rfl, by (exact blk), by (exact blk), by (exact blkc), by (exact blk), by (exact kpt)⟩
          case measure => simp [intOf]
      · have HC := Lib.hid (better_ge hc)
        rcases (show k = 0 ∨ k = 1 ∨ k = 2 by omega) with rfl | rfl | rfl
        · simp only [nextC] at hc HC HN HS
          have q0c0 := q0.cell 0
          have q0f0 := q0.free 0
          have q0c1 := q0.cell 1
          have q0f1 := q0.free 1
          have q0c2 := q0.cell 2
          have q0f2 := q0.free 2
          have q0l := q0.lt
          simp at q0c0 q0c1 q0c2
          have q2c0 := q2.cell 0
          have q2f0 := q2.free 0
          have q2c1 := q2.cell 1
          have q2f1 := q2.free 1
          have q2l := q2.lt
          simp at q2c0 q2c1
          have q3c0 := q3.cell 0
          have q3f0 := q3.free 0
          have q3c1 := q3.cell 1
          have q3f1 := q3.free 1
          have q3l := q3.lt
          simp at q3c0 q3c1
          have q4c0 := q4.cell 0
          have q4f0 := q4.free 0
          have q4c1 := q4.cell 1
          have q4f1 := q4.free 1
          have q4c2 := q4.cell 2
          have q4f2 := q4.free 2
          have q4c3 := q4.cell 3
          have q4f3 := q4.free 3
          have q4c4 := q4.cell 4
          have q4f4 := q4.free 4
          have q4c5 := q4.cell 5
          have q4f5 := q4.free 5
          have q4l := q4.lt
          simp at q4c0 q4c1 q4c2 q4c3 q4c4 q4c5
          go_wp2_with (first | (go_at_call 42; (with_reducible refine (f_value m ⟨x.ahi, x.wlo⟩ _ HM.out HN.out).mono ?_); rintro e w1 ⟨rfl, hb1⟩; obtain ⟨hc1, hf1, hl1⟩ := bcell3 hb1; refine Blk.thru (b := wr.heap.size) (arr := ?_) (t := ?_) ?_ hb1 ?_; rotate_left 2; (focus (exact blk)); intro qy; have qyc0 := qy.cell 0; have qyf0 := qy.free 0; have qyc1 := qy.cell 1; have qyf1 := qy.free 1; have qyl := qy.lt; simp at qyc0 qyc1) | (go_at_call 42; (with_reducible refine (f_value m ⟨x.alo, x.whi⟩ _ HM.out HN.out).mono ?_); rintro e w1 ⟨rfl, hb1⟩; obtain ⟨hc1, hf1, hl1⟩ := bcell3 hb1; refine Blk.thru (b := wr.heap.size) (arr := ?_) (t := ?_) ?_ hb1 ?_; rotate_left 2; (focus (exact blk)); intro qy; have qyc0 := qy.cell 0; have qyf0 := qy.free 0; have qyc1 := qy.cell 1; have qyf1 := qy.free 1; have qyl := qy.lt; simp at qyc0 qyc1) | (go_at_call 42; (with_reducible refine (f_value m ⟨x.ahi, x.whi⟩ _ HM.out HN.out).mono ?_); rintro e w1 ⟨rfl, hb1⟩; obtain ⟨hc1, hf1, hl1⟩ := bcell3 hb1; refine Blk.thru (b := wr.heap.size) (arr := ?_) (t := ?_) ?_ hb1 ?_; rotate_left 2; (focus (exact blk)); intro qy; have qyc0 := qy.cell 0; have qyf0 := qy.free 0; have qyc1 := qy.cell 1; have qyf1 := qy.free 1; have qyl := qy.lt; simp at qyc0 qyc1))
          go_round
          case rel => exact ⟨1, Bk, by omega, by go_num, by rw [HS.out, HC.out], rfl, by (exact blk), by (exact blk), by (exact blk), by (exact blk), by (exact kpt)⟩
          case measure => simp [intOf]
        · simp only [nextC] at hc HC HN HS
          have q0c0 := q0.cell 0
          have q0f0 := q0.free 0
          have q0c1 := q0.cell 1
          have q0f1 := q0.free 1
          have q0c2 := q0.cell 2
          have q0f2 := q0.free 2
          have q0l := q0.lt
          simp at q0c0 q0c1 q0c2
          have q2c0 := q2.cell 0
          have q2f0 := q2.free 0
          have q2c1 := q2.cell 1
          have q2f1 := q2.free 1
          have q2l := q2.lt
          simp at q2c0 q2c1
          have q3c0 := q3.cell 0
          have q3f0 := q3.free 0
          have q3c1 := q3.cell 1
          have q3f1 := q3.free 1
          have q3l := q3.lt
          simp at q3c0 q3c1
          have q4c0 := q4.cell 0
          have q4f0 := q4.free 0
          have q4c1 := q4.cell 1
          have q4f1 := q4.free 1
          have q4c2 := q4.cell 2
          have q4f2 := q4.free 2
          have q4c3 := q4.cell 3
          have q4f3 := q4.free 3
          have q4c4 := q4.cell 4
          have q4f4 := q4.free 4
          have q4c5 := q4.cell 5
          have q4f5 := q4.free 5
          have q4l := q4.lt
          simp at q4c0 q4c1 q4c2 q4c3 q4c4 q4c5
          go_wp2_with (first | (go_at_call 42; (with_reducible refine (f_value m ⟨x.ahi, x.wlo⟩ _ HM.out HN.out).mono ?_); rintro e w1 ⟨rfl, hb1⟩; obtain ⟨hc1, hf1, hl1⟩ := bcell3 hb1; refine Blk.thru (b := wr.heap.size) (arr := ?_) (t := ?_) ?_ hb1 ?_; rotate_left 2; (focus (exact blk)); intro qy; have qyc0 := qy.cell 0; have qyf0 := qy.free 0; have qyc1 := qy.cell 1; have qyf1 := qy.free 1; have qyl := qy.lt; simp at qyc0 qyc1) | (go_at_call 42; (with_reducible refine (f_value m ⟨x.alo, x.whi⟩ _ HM.out HN.out).mono ?_); rintro e w1 ⟨rfl, hb1⟩; obtain ⟨hc1, hf1, hl1⟩ := bcell3 hb1; refine Blk.thru (b := wr.heap.size) (arr := ?_) (t := ?_) ?_ hb1 ?_; rotate_left 2; (focus (exact blk)); intro qy; have qyc0 := qy.cell 0; have qyf0 := qy.free 0; have qyc1 := qy.cell 1; have qyf1 := qy.free 1; have qyl := qy.lt; simp at qyc0 qyc1) | (go_at_call 42; (with_reducible refine (f_value m ⟨x.ahi, x.whi⟩ _ HM.out HN.out).mono ?_); rintro e w1 ⟨rfl, hb1⟩; obtain ⟨hc1, hf1, hl1⟩ := bcell3 hb1; refine Blk.thru (b := wr.heap.size) (arr := ?_) (t := ?_) ?_ hb1 ?_; rotate_left 2; (focus (exact blk)); intro qy; have qyc0 := qy.cell 0; have qyf0 := qy.free 0; have qyc1 := qy.cell 1; have qyf1 := qy.free 1; have qyl := qy.lt; simp at qyc0 qyc1))
          go_round
          case rel => exact ⟨2, Bk, by omega, by go_num, by rw [HS.out, HC.out], rfl, by (exact blk), by (exact blk), by (exact blk), by (exact blk), by (exact kpt)⟩
          case measure => simp [intOf]
        · simp only [nextC] at hc HC HN HS
          have q0c0 := q0.cell 0
          have q0f0 := q0.free 0
          have q0c1 := q0.cell 1
          have q0f1 := q0.free 1
          have q0c2 := q0.cell 2
          have q0f2 := q0.free 2
          have q0l := q0.lt
          simp at q0c0 q0c1 q0c2
          have q2c0 := q2.cell 0
          have q2f0 := q2.free 0
          have q2c1 := q2.cell 1
          have q2f1 := q2.free 1
          have q2l := q2.lt
          simp at q2c0 q2c1
          have q3c0 := q3.cell 0
          have q3f0 := q3.free 0
          have q3c1 := q3.cell 1
          have q3f1 := q3.free 1
          have q3l := q3.lt
          simp at q3c0 q3c1
          have q4c0 := q4.cell 0
          have q4f0 := q4.free 0
          have q4c1 := q4.cell 1
          have q4f1 := q4.free 1
          have q4c2 := q4.cell 2
          have q4f2 := q4.free 2
          have q4c3 := q4.cell 3
          have q4f3 := q4.free 3
          have q4c4 := q4.cell 4
          have q4f4 := q4.free 4
          have q4c5 := q4.cell 5
          have q4f5 := q4.free 5
          have q4l := q4.lt
          simp at q4c0 q4c1 q4c2 q4c3 q4c4 q4c5
          go_wp2_with (first | (go_at_call 42; (with_reducible refine (f_value m ⟨x.ahi, x.wlo⟩ _ HM.out HN.out).mono ?_); rintro e w1 ⟨rfl, hb1⟩; obtain ⟨hc1, hf1, hl1⟩ := bcell3 hb1; refine Blk.thru (b := wr.heap.size) (arr := ?_) (t := ?_) ?_ hb1 ?_; rotate_left 2; (focus (exact blk)); intro qy; have qyc0 := qy.cell 0; have qyf0 := qy.free 0; have qyc1 := qy.cell 1; have qyf1 := qy.free 1; have qyl := qy.lt; simp at qyc0 qyc1) | (go_at_call 42; (with_reducible refine (f_value m ⟨x.alo, x.whi⟩ _ HM.out HN.out).mono ?_); rintro e w1 ⟨rfl, hb1⟩; obtain ⟨hc1, hf1, hl1⟩ := bcell3 hb1; refine Blk.thru (b := wr.heap.size) (arr := ?_) (t := ?_) ?_ hb1 ?_; rotate_left 2; (focus (exact blk)); intro qy; have qyc0 := qy.cell 0; have qyf0 := qy.free 0; have qyc1 := qy.cell 1; have qyf1 := qy.free 1; have qyl := qy.lt; simp at qyc0 qyc1) | (go_at_call 42; (with_reducible refine (f_value m ⟨x.ahi, x.whi⟩ _ HM.out HN.out).mono ?_); rintro e w1 ⟨rfl, hb1⟩; obtain ⟨hc1, hf1, hl1⟩ := bcell3 hb1; refine Blk.thru (b := wr.heap.size) (arr := ?_) (t := ?_) ?_ hb1 ?_; rotate_left 2; (focus (exact blk)); intro qy; have qyc0 := qy.cell 0; have qyf0 := qy.free 0; have qyc1 := qy.cell 1; have qyf1 := qy.free 1; have qyl := qy.lt; simp at qyc0 qyc1))
          go_round
          case rel => exact ⟨3, Bk, by omega, by go_num, by rw [HS.out, HC.out], rfl, by (exact blk), by (exact blk), by (exact blk), by (exact blk), by (exact kpt)⟩
          case measure => simp [intOf]
    · obtain rfl : k = 3 := by omega
      have q2c0 := q2.cell 0
      have q2f0 := q2.free 0
      have q2c1 := q2.cell 1
      have q2f1 := q2.free 1
      have q2l := q2.lt
      simp at q2c0 q2c1
      have q3c0 := q3.cell 0
      have q3f0 := q3.free 0
      have q3c1 := q3.cell 1
      have q3f1 := q3.free 1
      have q3l := q3.lt
      simp at q3c0 q3c1
      obtain rfl : Bk = best m x := hBk
      go_wp2
      exact bodyPost_ret (v := .tuple #[.agg #[.int .i64 (best m x).pos, .int .i64 (best m x).wt], .int .i64 (vOf m (best m x))]) (by simp [results, Try.results34, go_sem, q2c0, q2c1, q2f0, q2f1, q3c0, q3c1, q2l, q3l]) rfl ⟨rfl, by (exact kpt)⟩

theorem infoP : (Try.prog.info? 89).map (fun i => (i.zero, i.size, i.bytes)) = some (some (.agg #[.int .i64 0, .int .i64 0]), 2, 16) := by kernel_rfl
def WorstRel (w : World) (m : Limit) (xs : List Load) (s cv i : Value) (wr : World) : Prop :=
  ∃ k : Nat, k ≤ xs.length ∧ i = .int .i64 k ∧ s = .int .i64 (sumBy (fun x => vOf m (best m x)) (xs.take k)) ∧ wr.ownsRow w.heap.size 89 2 cv k ((choice m (xs.take k)).flatMap Put.cells) ∧ Kept w wr
theorem choice_snoc (m : Limit) (xs : List Load) (k : Nat) (hk : k < xs.length) : (choice m (xs.take (k + 1))).flatMap Put.cells = (choice m (xs.take k)).flatMap Put.cells ++ [.int .i64 (best m xs[k]).pos, .int .i64 (best m xs[k]).wt] := by
  rw [List.take_succ_eq_append_getElem hk]
  simp only [choice, List.map_append, List.map_cons, List.map_nil, List.flatMap_append, List.flatMap_cons, List.flatMap_nil, List.append_nil]
  rfl

theorem f_worst (m : Limit) (a : Option Addr) (cap : Nat) (xs : List Load) (w : World) (hx : Row Load.cells 4 w.heap.size w a xs) (hc : xs.length ≤ cap) (hM : cap ≤ maxLen) (hn : xs.length ≤ 40) (hm : limitB m = true) (hv : ∀ x ∈ xs, loadB x = true) :
    Calls Try.prog 33 #[.slice a xs.length cap, .func (.func 34) #[.agg #[.int .i64 m.a, .int .i64 m.b, .int .i64 m.c]] #[]] w fun e w' =>
      ∃ v, e = .returned (.tuple #[.int .i64 (worstV m xs), v]) ∧ w'.ownsRow w.heap.size 89 2 v (choice m xs).length ((choice m xs).flatMap Put.cells) ∧ Kept w w' := by
  unfold maxLen at hM
  have HSUM := Lib.hid (fun k => sumBy_take_bd (fun x => vOf m (best m x)) 22000000000000000 880000000000000000 xs 40 hn (by omega) (by omega) (fun x h => best_bd hm (hv x h)) k)
  have HW := Lib.hid (worstV_eq m xs)
  have HM := Lib.hid hm
  have HV := Lib.hid hv
  clear hm hv
  go_enter Try.func33, Try.ntmps33
  go_wp2
  go_loopw [6, 7, 14] (fun s cv i wr => WorstRel w m xs s cv i wr) (fun _ _ i _ => xs.length - (intOf i).toNat)
  case atStart => exact ⟨0, Nat.zero_le _, rfl, rfl, owns_nil (α := Put) (enc := Put.cells), Below.refl _ _⟩
  case round =>
    obtain ⟨k, hk, rfl, rfl, hown, hkk⟩ := hrel
    by_cases hlt : k < xs.length
    · obtain ⟨b, off, rfl, hb, h0, h1, h2, h3⟩ := Load.row (hx.later hkk (Nat.le_refl _)) k hlt
      obtain ⟨u1, u2⟩ := HSUM.out k
      have HX := Lib.hid (HV.out xs[k] (List.getElem_mem hlt))
      obtain ⟨u3, u4⟩ := best_bd HM.out HX.out
      have hks := hkk.size
      go_wp2_with (first | (go_at_call 34; (with_reducible refine (f_corner m xs[k] _ HM.out HX.out).mono ?_); rintro e w1 ⟨rfl, hb1⟩; obtain ⟨hc1, hf1, hl1⟩ := bcell3 hb1; have hs1 := hb1.size; simp at hs1) | (at_builtin; obtain ⟨i0, hi, hz0, hz1, hz2⟩ := info_parts infoP; refine wpList_append_own _ rfl _ _ 44 rfl w.heap.size 89 i0 (.agg #[.int .i64 0, .int .i64 0]) 2 16 Try.underlying44 hi hz0 hz1 hz2 rfl (by decide) _ _ _ rfl (((owns_keep (hown.alloc _) hb1).alloc _).alloc _) ⟨w1.heap.size + 1, 0, none⟩ 1 1 [.int .i64 (best m xs[k]).pos, .int .i64 (best m xs[k]).wt] rfl rfl (cell_two_at (by simp) _ _ _) (fun x hx => by simp at hx; rcases hx with rfl | rfl <;> rfl) (by unfold maxLen; omega) (by omega) (by simp; omega) ?_; intro v' w3 hown' hgrow hnil; clear hi hz0 hz1 hz2))
      have hk3 : Kept w w3 := Kept.grown (Kept.alloc (Kept.alloc (Kept.drop (Kept.alloc hkk _) hb1) _) _) (((owns_keep (hown.alloc _) hb1).alloc _).alloc _) (Nat.le_refl _) hgrow
      go_roundw
      case rel =>
        have hown2 : w3.ownsRow w.heap.size 89 2 v' (k + 1) ((choice m (xs.take (k + 1))).flatMap Put.cells) := by rw [choice_snoc m xs k hlt]; exact hown'
        first
        | exact ⟨k + 1, by omega, by go_num, by rw [sumBy_take _ _ _ hlt], hown2, hk3⟩
        | (apply Exists.intro; repeat (apply Exists.intro); refine ⟨?_, rfl⟩; exact ⟨k + 1, by omega, by go_num, by rw [sumBy_take _ _ _ hlt], hown2, hk3⟩)
      case measure => simp [intOf]; omega
    · obtain rfl : k = xs.length := by omega
      rw [List.take_length] at hown
      have hown2 := hown
      rw [show xs.length = (choice m xs).length from (choice_len m xs).symm] at hown2
      obtain ⟨ad, cp, rfl, _⟩ := owns_row (enc := Put.cells) (k := 2) (fun _ => rfl) hown2
      go_wp2
      exact bodyPost_ret (v := .tuple #[.int .i64 (sumBy (fun x => vOf m (best m x)) (xs.take xs.length)), .slice ad (choice m xs).length cp]) (by simp [results, Try.results33, go_sem]) rfl ⟨_, by rw [HW.out, List.take_length], hown2, hkk⟩

def worstE (m : Limit) (xs : List Load) : Int := if checkLoads xs = 0 then (if limitB m = true then 0 else 41) else checkLoads xs
def worstP (m : Limit) (xs : List Load) : List Put := if worstE m xs = 0 then choice m xs else []
def WorstPost (w : World) (m : Limit) (xs : List Load) (e : Ending) (w' : World) : Prop :=
  ∃ v, e = .returned (.tuple #[.int .i64 (ifOk (worstE m xs) (worstV m xs)), v, .int .i64 (worstE m xs)]) ∧ w'.ownsRow w.heap.size 89 2 v (worstP m xs).length ((worstP m xs).flatMap Put.cells) ∧ Kept w w'
end Go.Proofs.Ytheahhmlmpameaa.Trim04

/-
  Breaches, in the program.
-/
namespace Go.Proofs.Ytheahhmlmpameaa.Trim04
open Go.RowKit Bal Bal.Trim
set_option linter.unusedVariables false
set_option linter.unusedSimpArgs false
set_option maxHeartbeats 800000

set_option maxRecDepth 10000

theorem inB_iff {n lo hi : Int} : inB n lo hi = true ↔ lo ≤ n ∧ n ≤ hi := by simp [inB]

theorem f_both (a : Option Addr) (cap : Nat) (xs : List Load) (b : Option Addr) (cb : Nat) (ms : List Limit) (w : World) (hx : Row Load.cells 4 w.heap.size w a xs) (hc : xs.length ≤ cap) (hM : cap ≤ maxLen) (hy : Row Limit.cells 3 w.heap.size w b ms) (hd : ms.length ≤ cb) (hN : cb ≤ maxLen) :
    Calls Try.prog 19 #[.slice a xs.length cap, .slice b ms.length cb] w fun e w' => e = .returned (.int .i64 (both xs ms)) ∧ Kept w w' := by
  unfold both
  by_cases he : checkLoads xs = 0
  · rw [if_pos he]
    have HE := Lib.hid he
    clear he
    go_enter Try.func19, Try.ntmps19
    go_wp2_with (first | (go_at_call 6; (with_reducible refine (f_CheckLoads _ _ _ _ (hx.later (by (exact kpt)) (Nat.le_refl _)) hc hM).mono ?_); rw [HE.out]; rintro e w1 ⟨rfl, hb1⟩; obtain ⟨hc1, hf1, hl1⟩ := bcell3 hb1) | (go_at_call 32; (with_reducible refine (f_CheckLimits _ _ _ _ (hy.later (by (exact kpt)) (Nat.le_refl _)) hd hN).mono ?_); rintro e w2 ⟨rfl, hb2⟩; obtain ⟨hc2, hf2, hl2⟩ := bcell3 hb2))
    go_ret
    exact ⟨rfl, by (exact kpt)⟩
  · rw [if_neg he]
    have hb : (checkLoads xs != 0) = true := by simp [he]
    obtain ⟨E, hEE⟩ : ∃ E, E = checkLoads xs := ⟨_, rfl⟩
    have HE := Lib.hid hEE.symm
    rw [← hEE] at he hb ⊢
    clear hEE
    go_enter Try.func19, Try.ntmps19
    go_wp2_with (go_at_call 6; (with_reducible refine (f_CheckLoads _ _ _ _ (hx.later (by (exact kpt)) (Nat.le_refl _)) hc hM).mono ?_); rw [HE.out]; rintro e w1 ⟨rfl, hb1⟩; obtain ⟨hc1, hf1, hl1⟩ := bcell3 hb1)
    go_ret
    exact ⟨rfl, by (exact kpt)⟩

def BrokenRel (w : World) (xs : List Load) (ms : List Limit) (i : Value) (wr : World) : Prop :=
  ∃ k : Nat, k ≤ ms.length ∧ i = .int .i64 k ∧ (∀ j, j < k → brk xs ms j = false) ∧ Blk wr w.heap.size #[.int .i64 0, .slice none 0 0] 46 ∧ Kept w wr
theorem f_broken (a : Option Addr) (cap : Nat) (xs : List Load) (b : Option Addr) (cb : Nat) (ms : List Limit) (w : World) (hx : Row Load.cells 4 w.heap.size w a xs) (hc : xs.length ≤ cap) (hM : cap ≤ maxLen) (hy : Row Limit.cells 3 w.heap.size w b ms) (hd : ms.length ≤ cb) (hN : cb ≤ maxLen) (he : both xs ms = 0) :
    Calls Try.prog 20 #[.slice a xs.length cap, .slice b ms.length cb] w fun e w' => ∃ v, e = .returned (.tuple #[.agg #[.int .i64 (optN (broken xs ms)), v], .bool (broken xs ms).isSome]) ∧
      w'.ownsRow w.heap.size 89 2 v (brP xs ms (broken xs ms)).length ((brP xs ms (broken xs ms)).flatMap Put.cells) ∧ Kept w w' := by
  obtain ⟨he1, he2⟩ := both_ok he
  obtain ⟨hn, hv⟩ := checkLoads_ok he1
  obtain ⟨hn2, hv2⟩ := checkLimits_ok he2
  obtain ⟨Ob, hOb⟩ : ∃ O, O = broken xs ms := ⟨_, rfl⟩
  have HSOME := Lib.hid (fun (k : Nat) (hk : k < ms.length) hb hh => @broken_some xs ms k hk hb hh)
  have HNONE := Lib.hid (fun hb => @broken_none xs ms hb)
  rw [← hOb] at HSOME HNONE ⊢
  clear hOb
  have HN := Lib.hid hn
  have HV := Lib.hid hv
  have HV2 := Lib.hid hv2
  have hNN := hN
  unfold maxLen at hNN
  clear he he1 he2 hv hv2
  go_enter Try.func20, Try.ntmps20
  go_wp2
  go_loopw [12] (fun i wr => BrokenRel w xs ms i wr) (fun i _ => ms.length - (intOf i).toNat)
  case atStart => exact ⟨0, Nat.zero_le _, rfl, fun j hj => by omega, by (exact blk), by (exact kpt)⟩
  case round =>
    obtain ⟨k, hk, rfl, hno, q0, hkk⟩ := hrel
    have HNO := Lib.hid hno
    clear hno
    by_cases hlt : k < ms.length
    · obtain ⟨bm, om, rfl, hbm, l0, l1, l2⟩ := Limit.row (hy.later hkk (Nat.le_refl _)) k hlt
      have HM := Lib.hid (HV2.out ms[k] (List.getElem_mem hlt))
      have HSK := Lib.hid (HSOME.out k hlt HNO.out)
      have HBF := Lib.hid (fun h => @brk_false xs ms k hlt h)
      have HBP := Lib.hid (brP_at (xs := xs) hlt)
      obtain ⟨m, hm0⟩ : ∃ m, m = ms[k] := ⟨_, rfl⟩
      rw [← hm0] at HM HSK HBF HBP l0 l1 l2
      clear hm0
      have q0lt := q0.lt
      by_cases hgt : m.c < worstV m xs
      · have HS := Lib.hid (HSK.out hgt)
        go_wp2_with (go_at_call 33; (with_reducible refine (f_worst m _ _ xs _ (hx.later (by (exact kpt)) (Nat.le_refl _)) hc hM HN.out HM.out HV.out).mono ?_); rintro e w2 ⟨v, rfl, ho, hb2⟩; obtain ⟨ad, cp, rfl, hrow, hcp, hcm⟩ := owns_row (enc := Put.cells) (k := 2) (fun _ => rfl) ho; refine Blk.thru (b := w.heap.size) (arr := ?_) (t := ?_) ?_ hb2 ?_; rotate_left 2; (focus (exact blk)); intro z0; have z0c0 := z0.cell 0; have z0f0 := z0.free 0; have z0c1 := z0.cell 1; have z0f1 := z0.free 1; have z0l := z0.lt; simp at z0c0 z0c1; refine Blk.thru (b := wr.heap.size) (arr := ?_) (t := ?_) ?_ hb2 ?_; rotate_left 2; (focus (exact blk)); intro qm; have qmc0 := qm.cell 0; have qmf0 := qm.free 0; have qmc1 := qm.cell 1; have qmf1 := qm.free 1; have qmc2 := qm.cell 2; have qmf2 := qm.free 2; have qml := qm.lt; simp at qmc0 qmc1 qmc2)
        have HP := HBP.out
        rw [← HS.out] at HP
        exact bodyPost_ret (v := .tuple #[.agg #[.int .i64 k, .slice ad (choice m xs).length cp], .bool true]) (by simp [results, Try.results20, go_sem, z0l, z0c0, z0c1, z0f0, z0f1]) rfl ⟨_, by rw [HS.out]; rfl, by rw [HP]; exact owns_base (owns_set (z0.set 0 _) (owns_set z0 ho (by decide)) (by decide)) (by have := hkk.size; simp; omega), by (exact kpt)⟩
      · have HF := Lib.hid (HBF.out hgt)
        go_wp2_with (go_at_call 33; (with_reducible refine (f_worst m _ _ xs _ (hx.later (by (exact kpt)) (Nat.le_refl _)) hc hM HN.out HM.out HV.out).mono ?_); rintro e w2 ⟨v, rfl, ho, hb2⟩; obtain ⟨ad, cp, rfl, hrow, hcp, hcm⟩ := owns_row (enc := Put.cells) (k := 2) (fun _ => rfl) ho; refine Blk.thru (b := w.heap.size) (arr := ?_) (t := ?_) ?_ hb2 ?_; rotate_left 2; (focus (exact blk)); intro z0; have z0c0 := z0.cell 0; have z0f0 := z0.free 0; have z0c1 := z0.cell 1; have z0f1 := z0.free 1; have z0l := z0.lt; simp at z0c0 z0c1; refine Blk.thru (b := wr.heap.size) (arr := ?_) (t := ?_) ?_ hb2 ?_; rotate_left 2; (focus (exact blk)); intro qm; have qmc0 := qm.cell 0; have qmf0 := qm.free 0; have qmc1 := qm.cell 1; have qmf1 := qm.free 1; have qmc2 := qm.cell 2; have qmf2 := qm.free 2; have qml := qm.lt; simp at qmc0 qmc1 qmc2)
        go_round
        case rel =>
          refine ⟨k + 1, by omega, by go_num, ?_, by (exact blk), by (exact kpt)⟩
          intro j hj
          by_cases hjk : j < k
          · exact HNO.out j hjk
          · obtain rfl : j = k := by omega
            exact HF.out
        case measure => simp [intOf]; omega
    · obtain rfl : k = ms.length := by omega
      have HS := Lib.hid (HNONE.out HNO.out)
      have q0c0 := q0.cell 0
      have q0f0 := q0.free 0
      have q0c1 := q0.cell 1
      have q0f1 := q0.free 1
      have q0l := q0.lt
      simp at q0c0 q0c1
      go_wp2
      obtain rfl := HS.out
      exact bodyPost_ret (v := .tuple #[.agg #[.int .i64 0, .slice none 0 0], .bool false]) (by simp [results, Try.results20, go_sem, q0c0, q0c1, q0f0, q0f1]) rfl ⟨_, rfl, owns_nil (α := Put) (enc := Put.cells), by (exact kpt)⟩

def BreachPost (w : World) (xs : List Load) (ms : List Limit) (e : Ending) (w' : World) : Prop :=
  ∃ v, e = .returned (.tuple #[.agg #[.int .i64 (breachN xs ms), v], .int .i64 (breachE xs ms)]) ∧ w'.ownsRow w.heap.size 89 2 v (breachP xs ms).length ((breachP xs ms).flatMap Put.cells) ∧ Kept w w'
theorem f_Breach (a : Option Addr) (cap : Nat) (xs : List Load) (b : Option Addr) (cb : Nat) (ms : List Limit) (w : World) (hx : Row Load.cells 4 w.heap.size w a xs) (hc : xs.length ≤ cap) (hM : cap ≤ maxLen) (hy : Row Limit.cells 3 w.heap.size w b ms) (hd : ms.length ≤ cb) (hN : cb ≤ maxLen) :
    Calls Try.prog 9 #[.slice a xs.length cap, .slice b ms.length cb] w fun e w' => BreachPost w xs ms e w' := by
  unfold BreachPost breachN breachE breachP
  by_cases he : both xs ms = 0
  · rw [if_pos he, if_pos he, if_pos he]
    have HE := Lib.hid he
    clear he
    cases hb : broken xs ms with
    | none =>
      have HB := Lib.hid hb
      clear hb
      go_enter Try.func9, Try.ntmps9
      go_wp2_with (first | (go_at_call 19; (with_reducible refine (f_both a cap xs b cb ms _ (hx.later (by (exact kpt)) (Nat.le_refl _)) hc hM (hy.later (by (exact kpt)) (Nat.le_refl _)) hd hN).mono ?_); rw [HE.out]; rintro e w1 ⟨rfl, hb1⟩; refine Blk.thru (b := w.heap.size) (arr := ?_) (t := ?_) ?_ hb1 ?_; rotate_left 2; (focus (exact blk)); intro z0; have z0c0 := z0.cell 0; have z0f0 := z0.free 0; have z0c1 := z0.cell 1; have z0f1 := z0.free 1; have z0l := z0.lt; simp at z0c0 z0c1) | (go_at_call 20; (with_reducible refine (f_broken a cap xs b cb ms _ (hx.later (by (exact kpt)) (Nat.le_refl _)) hc hM (hy.later (by (exact kpt)) (Nat.le_refl _)) hd hN HE.out).mono ?_); simp only [HB.out, optN, Option.isSome]; rintro e w2 ⟨v, rfl, ho, hb2⟩; obtain ⟨ad, cp, rfl, hrow, hcp, hcm⟩ := owns_row (enc := Put.cells) (k := 2) (fun _ => rfl) ho; refine Blk.thru (b := w.heap.size) (arr := ?_) (t := ?_) ?_ hb2 ?_; rotate_left 2; (focus (exact blk)); intro z0; have z0c0 := z0.cell 0; have z0f0 := z0.free 0; have z0c1 := z0.cell 1; have z0f1 := z0.free 1; have z0l := z0.lt; simp at z0c0 z0c1))
      exact bodyPost_ret (v := .tuple #[.agg #[.int .i64 0, .slice none 0 0], .int .i64 6]) (by simp [results, Try.results9, go_sem, z0c0, z0c1, z0f0, z0f1, z0l]) rfl ⟨_, rfl, owns_nil (α := Put) (enc := Put.cells), by (exact kpt)⟩
    | some k =>
      have HB := Lib.hid hb
      clear hb
      go_enter Try.func9, Try.ntmps9
      go_wp2_with (first | (go_at_call 19; (with_reducible refine (f_both a cap xs b cb ms _ (hx.later (by (exact kpt)) (Nat.le_refl _)) hc hM (hy.later (by (exact kpt)) (Nat.le_refl _)) hd hN).mono ?_); rw [HE.out]; rintro e w1 ⟨rfl, hb1⟩; refine Blk.thru (b := w.heap.size) (arr := ?_) (t := ?_) ?_ hb1 ?_; rotate_left 2; (focus (exact blk)); intro z0; have z0c0 := z0.cell 0; have z0f0 := z0.free 0; have z0c1 := z0.cell 1; have z0f1 := z0.free 1; have z0l := z0.lt; simp at z0c0 z0c1) | (go_at_call 20; (with_reducible refine (f_broken a cap xs b cb ms _ (hx.later (by (exact kpt)) (Nat.le_refl _)) hc hM (hy.later (by (exact kpt)) (Nat.le_refl _)) hd hN HE.out).mono ?_); simp only [HB.out, optN, Option.isSome]; rintro e w2 ⟨v, rfl, ho, hb2⟩; obtain ⟨ad, cp, rfl, hrow, hcp, hcm⟩ := owns_row (enc := Put.cells) (k := 2) (fun _ => rfl) ho; refine Blk.thru (b := w.heap.size) (arr := ?_) (t := ?_) ?_ hb2 ?_; rotate_left 2; (focus (exact blk)); intro z0; have z0c0 := z0.cell 0; have z0f0 := z0.free 0; have z0c1 := z0.cell 1; have z0f1 := z0.free 1; have z0l := z0.lt; simp at z0c0 z0c1))
      exact bodyPost_ret (v := .tuple #[.agg #[.int .i64 k, .slice ad (brP xs ms (some k)).length cp], .int .i64 0]) (by simp [results, Try.results9, go_sem, z0c0, z0c1, z0f0, z0f1, z0l]) rfl ⟨_, rfl, owns_base ((owns_set (z0.set 0 _) (owns_set z0 ho (by decide)) (by decide)).alloc _) (by have := hb1.size; simp at this; omega), by (exact kpt)⟩
  · rw [if_neg he, if_neg he, if_neg he]
    have hb : (both xs ms != 0) = true := by simp [he]
    obtain ⟨E, hEE⟩ : ∃ E, E = both xs ms := ⟨_, rfl⟩
    have HE := Lib.hid hEE.symm
    rw [← hEE] at he hb ⊢
    clear hEE
    go_enter Try.func9, Try.ntmps9
    go_wp2_with (go_at_call 19; (with_reducible refine (f_both a cap xs b cb ms _ (hx.later (by (exact kpt)) (Nat.le_refl _)) hc hM (hy.later (by (exact kpt)) (Nat.le_refl _)) hd hN).mono ?_); rw [HE.out]; rintro e w1 ⟨rfl, hb1⟩; refine Blk.thru (b := w.heap.size) (arr := ?_) (t := ?_) ?_ hb1 ?_; rotate_left 2; (focus (exact blk)); intro z0; have z0c0 := z0.cell 0; have z0f0 := z0.free 0; have z0c1 := z0.cell 1; have z0f1 := z0.free 1; have z0l := z0.lt; simp at z0c0 z0c1)
    exact bodyPost_ret (v := .tuple #[.agg #[.int .i64 0, .slice none 0 0], .int .i64 E]) (by simp [results, Try.results9, go_sem, z0c0, z0c1, z0f0, z0f1, z0l]) rfl ⟨_, rfl, owns_nil (α := Put) (enc := Put.cells), by (exact kpt)⟩

def CheckRel (w : World) (sb : Nat) (m : Limit) (xs : List Load) (ps : List Put) (s i : Value) (wr : World) : Prop :=
  ∃ (k : Nat) (v : Int), k ≤ xs.length ∧ i = .int .i64 k ∧ s = .int .i64 v ∧ v = sumBy (vOf m) (ps.take k) ∧ (∀ j, j < k → badAt xs ps j = false) ∧ Blk wr sb #[.int .i64 m.a, .int .i64 m.b, .int .i64 m.c] 83 ∧ Kept w wr

end Go.Proofs.Ytheahhmlmpameaa.Trim04

/-
  An empty slice that a call has made, and lists appended to it. No program in sight.
-/
namespace Bal
open Go Go.RowKit
set_option linter.unusedVariables false
theorem owns_made {α : Type} {enc : α → List Value} {base k n : Nat} {e : TypeId} {w : World} (hn : n = w.heap.size) (hb : base ≤ w.heap.size) : (w.alloc (.cells #[] e)).ownsRow base e k (.slice (some ⟨n, 0, none⟩) 0 0) ([] : List α).length (([] : List α).flatMap enc) := by
  subst hn
  refine ⟨by simp, .inr ⟨w.heap.size, 0, #[], rfl, hb, Blk.new, Nat.le_refl _, by simp [maxLen], by simp, by simp⟩⟩
/-- THE COPY OF A LIST: append to an empty slice of the call's own -/
theorem wpList_copy {α : Type} {enc : α → List Value} {P : Program} {w0 w : World} {ops : Array Oper} {rest : List Oper} {o : Oper} {a : Act} {Q : Exit → Act → World → Prop} (hgd : o.guard = none) (s x : Operand) (t : TypeId)
    (ho : o.op = .call { callee := .builtin .append, args := #[s, x], argTypes := #[t, t] })
    (base : Nat) (e : TypeId) (z : Value) (size bytes : Nat) (ht : P.underlying t = some (.slice e)) (hinfo : (P.info? e).map (fun i => (i.zero, i.size, i.bytes)) = some (some z, size, bytes))
    (hzs : z.cells.size = size) (hsz : 0 < size) (he : ∀ x : α, (enc x).length = size) (h1 : ∀ (x : α), ∀ u ∈ enc x, u.oneCell' = true)
    (n : Nat) (hn : n = w.heap.size) (hs : a.eval s = .slice (some ⟨n, 0, none⟩) 0 0)
    (ad : Option Addr) (c : Nat) (ys : List α) (hx : a.eval x = .slice ad ys.length c) (hc : ad = none → c = 0) (hrow : Row enc size w0.heap.size w0 ad ys) (hk : Kept w0 w) (hbase : base = w0.heap.size)
    (h63 : ys.length ≤ 1000000) (hbytes : bytes ≤ 100000)
    (h : ∀ ad' cp w', Row enc size w'.heap.size w' ad' ys → ys.length ≤ cp → cp ≤ maxLen → Kept w0 w' → Kept w w' → wpList P ops Q rest (a.put o.dst (.slice ad' ys.length cp)) w') :
    wpList P ops Q (o :: rest) a (w.alloc (.cells #[] e)) := by
  subst hbase
  obtain ⟨i, hi, hz, hsize, hby⟩ := info_parts hinfo
  have hsz0 := hk.size
  have hown0 : (w.alloc (.cells #[] e)).ownsRow w0.heap.size e size (.slice (some ⟨n, 0, none⟩) 0 0) ([] : List α).length (([] : List α).flatMap enc) := owns_made hn hsz0
  have hm : ys.length * bytes ≤ 1000000 * 100000 := Nat.mul_le_mul h63 hbytes
  refine wpList_append_list hgd s x t ho w0.heap.size e i z size bytes ht hi hz hsize hby hzs hsz he h1 _ [] hs hown0 ad c ys hx hc (hrow.keep (Kept.alloc hk _) (Nat.le_refl _)) (by simp [maxLen]; omega) (by simp; omega) (by show w0.heap.size ≤ (w.heap.push _).size; simp; omega) ?_
  intro v' w' hown hgrow
  have hk' : Kept w0 w' := Kept.grown (Kept.alloc hk _) hown0 (Nat.le_refl _) hgrow
  have hk2 : Kept w w' := by
    have hown1 : (w.alloc (.cells #[] e)).ownsRow w.heap.size e size (.slice (some ⟨n, 0, none⟩) 0 0) ([] : List α).length (([] : List α).flatMap enc) := owns_made hn (Nat.le_refl _)
    exact Kept.grown (Kept.alloc (Below.refl _ _) _) hown1 (Nat.le_refl _) hgrow
  rw [List.nil_append] at hown
  obtain ⟨ad', cp', rfl, hrow', h5, h6⟩ := Row.of_owns he hown
  exact h ad' cp' w' hrow' h5 h6 hk' hk2
end Bal

/-
  A list copied by append to an empty slice of the call's own: what was there ahead of it stays. No program in sight.
-/
namespace Bal
open Go Go.RowKit
set_option linter.unusedVariables false
theorem owns_none {w : World} {base k n m c : Nat} {e : TypeId} {a : Option Addr} {xs : List Value} (h : w.ownsRow base e k (.slice a n c) m xs) : a = none → c = 0 := by
  rintro rfl
  obtain ⟨_, ⟨hv, _⟩ | ⟨g, cap, cur, hv, _⟩⟩ := h
  · cases hv; rfl
  · cases hv
theorem wpList_copyZ {α : Type} {enc : α → List Value} {P : Program} {w0 w : World} {ops : Array Oper} {rest : List Oper} {o : Oper} {a : Act} {Q : Exit → Act → World → Prop} (hgd : o.guard = none) (s x : Operand) (t : TypeId)
    (ho : o.op = .call { callee := .builtin .append, args := #[s, x], argTypes := #[t, t] })
    (base : Nat) (e : TypeId) (z : Value) (size bytes : Nat) (ht : P.underlying t = some (.slice e)) (hinfo : (P.info? e).map (fun i => (i.zero, i.size, i.bytes)) = some (some z, size, bytes))
    (hzs : z.cells.size = size) (hsz : 0 < size) (he : ∀ x : α, (enc x).length = size) (h1 : ∀ (x : α), ∀ u ∈ enc x, u.oneCell' = true)
    (n : Nat) (hn : n = w.heap.size) (hs : a.eval s = .slice (some ⟨n, 0, none⟩) 0 0)
    (ad : Option Addr) (c : Nat) (ys : List α) (hx : a.eval x = .slice ad ys.length c) (hc : ad = none → c = 0) (hrow : Row enc size w0.heap.size w0 ad ys) (hk : Kept w0 w) (hbase : base = w0.heap.size)
    (h63 : ys.length ≤ 1000000) (hbytes : bytes ≤ 100000)
    (h : ∀ ad' cp w', Row enc size w'.heap.size w' ad' ys → ys.length ≤ cp → cp ≤ maxLen → Kept w0 w' → Kept w w' → (ad' = none → cp = 0) → wpList P ops Q rest (a.put o.dst (.slice ad' ys.length cp)) w') :
    wpList P ops Q (o :: rest) a (w.alloc (.cells #[] e)) := by
  subst hbase
  obtain ⟨i, hi, hz, hsize, hby⟩ := info_parts hinfo
  have hsz0 := hk.size
  have hown0 : (w.alloc (.cells #[] e)).ownsRow w0.heap.size e size (.slice (some ⟨n, 0, none⟩) 0 0) ([] : List α).length (([] : List α).flatMap enc) := owns_made hn hsz0
  have hm : ys.length * bytes ≤ 1000000 * 100000 := Nat.mul_le_mul h63 hbytes
  refine wpList_append_list hgd s x t ho w0.heap.size e i z size bytes ht hi hz hsize hby hzs hsz he h1 _ [] hs hown0 ad c ys hx hc (hrow.keep (Kept.alloc hk _) (Nat.le_refl _)) (by simp [maxLen]; omega) (by simp; omega) (by show w0.heap.size ≤ (w.heap.push _).size; simp; omega) ?_
  intro v' w' hown hgrow
  have hk' : Kept w0 w' := Kept.grown (Kept.alloc hk _) hown0 (Nat.le_refl _) hgrow
  have hk2 : Kept w w' := by
    have hown1 : (w.alloc (.cells #[] e)).ownsRow w.heap.size e size (.slice (some ⟨n, 0, none⟩) 0 0) ([] : List α).length (([] : List α).flatMap enc) := owns_made hn (Nat.le_refl _)
    exact Kept.grown (Kept.alloc (Below.refl _ _) _) hown1 (Nat.le_refl _) hgrow
  rw [List.nil_append] at hown
  obtain ⟨ad', cp', rfl, hrow', h5, h6⟩ := Row.of_owns he hown
  exact h ad' cp' w' hrow' h5 h6 hk' hk2 (owns_none hown)
end Bal
