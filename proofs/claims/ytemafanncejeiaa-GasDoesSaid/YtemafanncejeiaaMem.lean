/-
  Facts about memory, lists and numbers that the walks use: no program in sight.
-/
import Derived.WalkKit
import Derived.WalkSpells
import Derived.WalkLawsBesides
import Derived.Lib.Hide
import Derived.ProofKit
import Derived.OpenShut
import Derived.ChangeOld
import Derived.Below
import Derived.Deep.Slices
import Derived.Deep.Fields
import Derived.Deep.Quiet
import Derived.Laws.AppendOwn
import Derived.Laws.AppendOwnNone
namespace Bal
open Go Go.RowKit Go.ChangeShapes Go.WideShapes

theorem ret_int {k : IntKind} {a b : Int} (h : a = b) : Ending.returned (.int k a) = .returned (.int k b) := by rw [h]
theorem ret_bool {a b : Bool} (h : a = b) : Ending.returned (.bool a) = .returned (.bool b) := by rw [h]

/-- What a call leaves alone: nothing that was there has changed. -/
abbrev Kept (w w' : World) : Prop := Below w.heap.size w w'

/-- The elements xs of a slice at address a, each of k cells, lie in blocks below B. -/
def Row {α : Type} (enc : α → List Value) (k B : Nat) (w : World) (a : Option Addr) (xs : List α) : Prop :=
  ∀ (i : Nat) (x : α), xs[i]? = some x → ∃ b off, a = some ⟨b, off, none⟩ ∧ b < B ∧ ∀ (j : Nat) (v : Value), (enc x)[j]? = some v → w.cell? ⟨b, off + i * k + j, none⟩ = some v

theorem Row.nil {α : Type} {enc : α → List Value} {k B : Nat} {w : World} {a : Option Addr} : Row enc k B w a [] := by
  intro i x h; simp at h

theorem Row.keep {α : Type} {enc : α → List Value} {k B C : Nat} {w w' : World} {a : Option Addr} {xs : List α} (h : Row enc k B w a xs) (hb : Below C w w') (hC : B ≤ C) : Row enc k B w' a xs := by
  intro i x hx
  obtain ⟨b, off, ha, hlt, hc⟩ := h i x hx
  exact ⟨b, off, ha, hlt, fun j v hj => by rw [hb.cell (p := ⟨b, off + i * k + j, none⟩) (show b < C by omega)]; exact hc j v hj⟩

theorem Row.up {α : Type} {enc : α → List Value} {k B C : Nat} {w : World} {a : Option Addr} {xs : List α} (h : Row enc k B w a xs) (hC : B ≤ C) : Row enc k C w a xs := by
  intro i x hx
  obtain ⟨b, off, ha, hlt, hc⟩ := h i x hx
  exact ⟨b, off, ha, by omega, hc⟩

/-- a row known below the heap of w, asked for in a later world w' -/
theorem Row.later {α : Type} {enc : α → List Value} {k B : Nat} {w w' : World} {a : Option Addr} {xs : List α} (h : Row enc k B w a xs) (hb : Below B w w') (hB : B ≤ w.heap.size) : Row enc k w'.heap.size w' a xs :=
  (h.keep hb (Nat.le_refl _)).up (Nat.le_trans hB hb.size)

theorem bcell {W w1 : World} (hb : Below W.heap.size W w1) : (∀ b o, b < W.heap.size → w1.cell? ⟨b, o, none⟩ = W.cell? ⟨b, o, none⟩) ∧ (∀ b o, b < W.heap.size → w1.frozen? ⟨b, o, none⟩ = W.frozen? ⟨b, o, none⟩) :=
  ⟨fun b o h => hb.cell (p := ⟨b, o, none⟩) h, fun b o h => hb.frozen (p := ⟨b, o, none⟩) h⟩

theorem Kept.size {w w' : World} (h : Kept w w') : w.heap.size ≤ w'.heap.size := Below.size h
/-- what a walk wants to know behind a contract -/
theorem bcell3 {W w1 : World} (hb : Below W.heap.size W w1) : (∀ b o, b < W.heap.size → w1.cell? ⟨b, o, none⟩ = W.cell? ⟨b, o, none⟩) ∧ (∀ b o, b < W.heap.size → w1.frozen? ⟨b, o, none⟩ = W.frozen? ⟨b, o, none⟩) ∧ ∀ n, n < W.heap.size → n < w1.heap.size :=
  ⟨fun b o h => hb.cell (p := ⟨b, o, none⟩) h, fun b o h => hb.frozen (p := ⟨b, o, none⟩) h, fun _ h => Nat.lt_of_lt_of_le h hb.size⟩

theorem Kept.drop {w w' w'' : World} (h : Below w.heap.size w w') (h' : Kept w' w'') : Kept w w'' := h.trans (h'.mono h.size)

/-- a loop over xs has passed k elements, all of them valid, and left alone what was there -/
def Upto {α : Type} (valid : α → Bool) (xs : List α) (w : World) (i : Value) (wr : World) : Prop :=
  ∃ k : Nat, k ≤ xs.length ∧ i = .int .i64 k ∧ (xs.take k).all valid = true ∧ Kept w wr

theorem Kept.alloc {w w' : World} (h : Kept w w') (o : Obj) : Kept w (w'.alloc o) := Below.alloc h h.size o

/-- a number as a cell -/
def icell (n : Int) : List Value := [.int .i64 n]
theorem int_row {B : Nat} {w : World} {a : Option Addr} {xs : List Int} (h : Row icell 1 B w a xs) (i : Nat) (hi : i < xs.length) :
    ∃ b off, a = some ⟨b, off, none⟩ ∧ b < B ∧ w.cell? ⟨b, off + i, none⟩ = some (.int .i64 xs[i]) := by
  obtain ⟨b, off, ha, hb, hc⟩ := h i xs[i] (by simp [hi])
  exact ⟨b, off, ha, hb, by simpa using hc 0 _ rfl⟩

/-! ### Slices that a call has made itself, element by element -/
theorem flatMap_len {α : Type} {enc : α → List Value} {k : Nat} (he : ∀ x, (enc x).length = k) (xs : List α) : (xs.flatMap enc).length = xs.length * k := by
  induction xs with
  | nil => simp
  | cons x xs ih => simp [List.flatMap_cons, ih, he, Nat.succ_mul, Nat.add_comm]

theorem flatMap_get {α : Type} {enc : α → List Value} {k : Nat} (he : ∀ x, (enc x).length = k) : ∀ (xs : List α) (i : Nat) (x : α), xs[i]? = some x → ∀ j, j < k → (xs.flatMap enc)[i * k + j]? = (enc x)[j]?
  | [], i, x, h, _, _ => by simp at h
  | y :: ys, 0, x, h, j, hj => by
    simp at h
    subst h
    rw [List.flatMap_cons, Nat.zero_mul, Nat.zero_add, List.getElem?_append_left (by rw [he]; exact hj)]
  | y :: ys, i + 1, x, h, j, hj => by
    rw [List.flatMap_cons, List.getElem?_append_right (by rw [he, Nat.succ_mul]; omega), he]
    have := flatMap_get he ys i x (by simpa using h) j hj
    rw [← this]
    congr 1
    rw [Nat.succ_mul]; omega

/-- What the call owns reads as a row. -/
theorem Row.of_owns {α : Type} {enc : α → List Value} {k base : Nat} {e : TypeId} {w : World} {v : Value} {xs : List α} (he : ∀ x, (enc x).length = k) (h : w.ownsRow base e k v xs.length (xs.flatMap enc)) :
    ∃ a cap, v = .slice a xs.length cap ∧ Row enc k w.heap.size w a xs ∧ xs.length ≤ cap ∧ cap ≤ maxLen := by
  obtain ⟨_, ⟨rfl, hn⟩ | ⟨g, cap, cur, rfl, hb, hh, hnc, hcm, hsz, ht⟩⟩ := h
  · have : xs = [] := List.length_eq_zero_iff.1 hn
    subst this
    exact ⟨none, 0, rfl, Row.nil, by simp, by simp [maxLen]⟩
  · refine ⟨some ⟨g, 0, none⟩, cap, rfl, ?_, hnc, hcm⟩
    intro i x hx
    refine ⟨g, 0, rfl, ?_, ?_⟩
    · rcases Nat.lt_or_ge g w.heap.size with h' | h'
      · exact h'
      · rw [Array.getElem?_eq_none h'] at hh; cases hh
    · intro j u hj
      have hjk : j < k := by rw [← he x]; exact (List.getElem?_eq_some_iff.1 hj).1
      have hix : i < xs.length := (List.getElem?_eq_some_iff.1 hx).1
      have h1 := flatMap_get he xs i x hx j hjk
      rw [← ht, List.getElem?_take] at h1
      split at h1
      · rw [hj] at h1
        simp only [World.cell?, hh, Nat.zero_add]
        simpa using h1
      · rw [hj] at h1; cases h1

theorem owns_nil {base : Nat} {e : TypeId} {k : Nat} {w : World} {α : Type} {enc : α → List Value} : w.ownsRow base e k (.slice none 0 0) ([] : List α).length (([] : List α).flatMap enc) :=
  ⟨by simp, .inl ⟨rfl, rfl⟩⟩

theorem owns_keep {base : Nat} {e : TypeId} {k n : Nat} {w w' : World} {v : Value} {xs : List Value} (h : w.ownsRow base e k v n xs) (hb : Below w.heap.size w w') : w'.ownsRow base e k v n xs := by
  obtain ⟨h1, h2 | ⟨g, cap, cur, hv, hg, hh, r⟩⟩ := h
  · exact ⟨h1, .inl h2⟩
  · refine ⟨h1, .inr ⟨g, cap, cur, hv, hg, ?_, r⟩⟩
    rw [hb.block g ?_]
    · exact hh
    · rcases Nat.lt_or_ge g w.heap.size with h' | h'
      · exact h'
      · rw [Array.getElem?_eq_none h'] at hh; cases hh

theorem owns_base {base base' : Nat} {e : TypeId} {k n : Nat} {w : World} {v : Value} {xs : List Value} (h : w.ownsRow base e k v n xs) (hb : base' ≤ base) : w.ownsRow base' e k v n xs := by
  obtain ⟨h1, h2 | ⟨g, cap, cur, hv, hg, hh, r⟩⟩ := h
  · exact ⟨h1, .inl h2⟩
  · exact ⟨h1, .inr ⟨g, cap, cur, hv, Nat.le_trans hb hg, hh, r⟩⟩

theorem flatMap_at {α : Type} {enc : α → List Value} {k : Nat} (hk : 0 < k) (he : ∀ x, (enc x).length = k) (xs : List α) (j : Nat) (u : Value) (h : (xs.flatMap enc)[j]? = some u) :
    ∃ x, xs[j / k]? = some x ∧ (enc x)[j % k]? = some u := by
  have hj : j < xs.length * k := by rw [← flatMap_len he xs]; exact (List.getElem?_eq_some_iff.1 h).1
  have hi : j / k < xs.length := Nat.div_lt_of_lt_mul (by rw [Nat.mul_comm]; exact hj)
  refine ⟨xs[j / k], by simp [hi], ?_⟩
  rw [← flatMap_get he xs (j / k) xs[j / k] (by simp [hi]) (j % k) (Nat.mod_lt _ hk), ← h]
  congr 1
  have := Nat.div_add_mod j k
  rw [Nat.mul_comm] at this
  omega

theorem Row.news {α : Type} {enc : α → List Value} {k B : Nat} {w : World} {ad : Addr} {ys : List α} (hk : 0 < k) (he : ∀ x, (enc x).length = k) (h : Row enc k B w (some ad) ys) :
    ∀ j u, (ys.flatMap enc)[j]? = some u → w.cell? (ad.add j) = some u := by
  intro j u hj
  obtain ⟨x, hx, hu⟩ := flatMap_at hk he ys j u hj
  obtain ⟨b, off, ha, _, hc⟩ := h _ x hx
  simp only [Option.some.injEq] at ha
  subst ha
  have h1 := hc _ u hu
  have e : (⟨b, off, none⟩ : Addr).add j = ⟨b, off + j / k * k + j % k, none⟩ := by
    have h2 : off + j / k * k + j % k = off + j := by
      have := Nat.div_add_mod j k
      rw [Nat.mul_comm] at this
      omega
    unfold Addr.add
    split
    · rename_i h0; rw [h2, h0]; rfl
    · rw [h2]
  rw [e]
  exact h1

/-- APPENDING A LIST to a slice that the call owns, wherever the list lies (nil too). -/
theorem wpList_append_list {α : Type} {enc : α → List Value} {P : Program} {w : World} {ops : Array Oper} {rest : List Oper} {o : Oper} {a : Act} {Q : Exit → Act → World → Prop} (hgd : o.guard = none) (s x : Operand) (t : TypeId)
    (ho : o.op = .call { callee := .builtin .append, args := #[s, x], argTypes := #[t, t] })
    (base : Nat) (e : TypeId) (i : TypeInfo) (z : Value) (size bytes : Nat) (ht : P.underlying t = some (.slice e)) (hi : P.info? e = some i) (hz : i.zero = some z)
    (hsize : i.size = size) (hby : i.bytes = bytes) (hzs : z.cells.size = size) (hsz : 0 < size) (he : ∀ x : α, (enc x).length = size) (h1 : ∀ (x : α), ∀ u ∈ enc x, u.oneCell' = true)
    (v : Value) (xs : List α) (hs : a.eval s = v) (hown : w.ownsRow base e size v xs.length (xs.flatMap enc))
    (ad : Option Addr) (c : Nat) (ys : List α) (hx : a.eval x = .slice ad ys.length c) (hc : ad = none → c = 0) {B : Nat} (hrow : Row enc size B w ad ys)
    (h63 : xs.length + ys.length ≤ maxLen) (hbytes : (xs.length + ys.length) * bytes ≤ 140737488355328) (hbase : base ≤ w.heap.size)
    (h : ∀ v' w', w'.ownsRow base e size v' (xs ++ ys).length ((xs ++ ys).flatMap enc) → w.grownBy w' v.ownBlock → wpList P ops Q rest (a.put o.dst v') w') : wpList P ops Q (o :: rest) a w := by
  cases ad with
  | none =>
    have hys : ys = [] := by
      cases ys with
      | nil => rfl
      | cons y ys => obtain ⟨b, off, ha, _⟩ := hrow 0 y rfl; cases ha
    subst hys
    have := hc rfl
    subst this
    exact wpList_append_own_none hgd s x t ho base e i size ht hi v xs.length _ hs hown hx (h v w (by simpa using hown) ⟨rfl, rfl, rfl, Nat.le_refl _, fun _ _ _ => rfl⟩)
  | some ad =>
    refine wpList_append_own w hgd s x t ho base e i z size bytes ht hi hz hsize hby hzs hsz v xs.length _ hs hown ad ys.length c (ys.flatMap enc) hx (flatMap_len he ys) (hrow.news hsz he) ?_ h63 hbytes hbase ?_
    · intro u hu
      obtain ⟨y, _, hy⟩ := List.mem_flatMap.1 hu
      exact h1 y u hy
    · intro v' w' ho' hg _
      exact h v' w' (by simpa [List.length_append] using ho') hg

/-! ### A block of the call's own, known whole -/
def Blk (w : World) (b : Nat) (arr : Array Value) (t : TypeId) : Prop := w.heap[b]? = some (.cells arr t (0, 0))
theorem Blk.lt {w : World} {b : Nat} {arr : Array Value} {t : TypeId} (h : Blk w b arr t) : b < w.heap.size := by
  rcases Nat.lt_or_ge b w.heap.size with h' | h'
  · exact h'
  · unfold Blk at h; rw [Array.getElem?_eq_none h'] at h; cases h
theorem Blk.cell {w : World} {b : Nat} {arr : Array Value} {t : TypeId} (h : Blk w b arr t) (i : Nat) : w.cell? ⟨b, i, none⟩ = arr[i]? := by
  unfold Blk at h
  simp [World.cell?, h]
theorem Blk.free {w : World} {b : Nat} {arr : Array Value} {t : TypeId} (h : Blk w b arr t) (i : Nat) : w.frozen? ⟨b, i, none⟩ = false := by
  unfold Blk at h
  simp [World.frozen?, h]
theorem Blk.keep {w w' : World} {b : Nat} {arr : Array Value} {t : TypeId} (h : Blk w b arr t) (hb : Kept w w') : Blk w' b arr t := by
  unfold Blk
  rw [hb.block b h.lt]
  exact h
theorem Blk.alloc {w : World} {b : Nat} {arr : Array Value} {t : TypeId} (h : Blk w b arr t) (o : Obj) : Blk (w.alloc o) b arr t :=
  h.keep ((Below.refl _ _).alloc (Nat.le_refl _) o)
theorem Blk.drew {w : World} {b : Nat} {arr : Array Value} {t : TypeId} (h : Blk w b arr t) : Blk w.drew b arr t := h
theorem Blk.new {w : World} {arr : Array Value} {t : TypeId} : Blk (w.alloc (.cells arr t)) w.heap.size arr t := by
  show (w.heap.push _)[w.heap.size]? = _
  simp
theorem Blk.set {w : World} {b : Nat} {arr : Array Value} {t : TypeId} (h : Blk w b arr t) (i : Nat) (v : Value) : Blk (w.setCell ⟨b, i, none⟩ v) b (arr.setIfInBounds i v) t := by
  unfold Blk at *
  simp [World.setCell, Array.getElem?_modify, h]
theorem Blk.other {w : World} {b : Nat} {arr : Array Value} {t : TypeId} (h : Blk w b arr t) {a : Addr} (hne : a.block ≠ b) (v : Value) : Blk (w.setCell a v) b arr t := by
  unfold Blk at *
  rw [Below.heap_setCell _ _ _ _ (Ne.symm hne)]
  exact h

/-- a new block of elements reads as a row -/
theorem Row.fresh {α : Type} {enc : α → List Value} {k : Nat} {w : World} {arr : Array Value} {e : TypeId} {xs : List α} (he : ∀ x, (enc x).length = k) (h : arr.toList = xs.flatMap enc) :
    Row enc k (w.alloc (.cells arr e)).heap.size (w.alloc (.cells arr e)) (some ⟨w.heap.size, 0, none⟩) xs := by
  intro i x hx
  refine ⟨w.heap.size, 0, rfl, by simp, fun j v hj => ?_⟩
  have hjk : j < k := by rw [← he x]; exact (List.getElem?_eq_some_iff.1 hj).1
  rw [(Blk.new (w := w) (arr := arr) (t := e)).cell, Nat.zero_add, ← Array.getElem?_toList, h, flatMap_get he xs i x hx j hjk]
  exact hj

/-! ### Cells that are numbers or bools, whatever structs they lie in -/
inductive Leaf where
  | int (k : IntKind)
  | bool
  deriving DecidableEq

def LeafOk : Leaf → Value → Prop
  | .int k, v => ∃ n, v = .int k n ∧ (Lit.int k n).wf = true
  | .bool, v => ∃ b, v = .bool b

/-- the leaves of a row of fields, each by f, the first of them at off -/
def leavesL (P : Program) (g : TypeId → Option (List Leaf)) : Nat → List Field → Option (List Leaf)
  | _, [] => some []
  | off, f :: fs => if f.offset = off then (g f.type).bind fun m => if m.length = P.cellsOf f.type then (leavesL P g (off + m.length) fs).map (m ++ ·) else none else none

/-- the leaves of a type that is made of integers, bools and structs alone -/
def leaves (P : Program) : Nat → TypeId → Option (List Leaf)
  | 0, _ => none
  | n + 1, t => match P.underlying t with
    | some (.int k) => some [.int k]
    | some .bool => some [.bool]
    | some (.struct fs) => (leavesL P (leaves P n) 0 fs.toList).bind fun l => if l.length = P.cellsOf t then some l else none
    | _ => none

/-- cells that are leaves -/
def LeavesOk (ls : List Leaf) (cs : List Value) : Prop := cs.length = ls.length ∧ ∀ (j : Nat) (f : Leaf), ls[j]? = some f → ∃ v, cs[j]? = some v ∧ LeafOk f v

theorem leavesL_ok {P : Program} {g : TypeId → Option (List Leaf)} {cs : List Value} : ∀ (fs : List Field) (off : Nat) (ls : List Leaf),
    leavesL P g off fs = some ls → (∀ f ∈ fs, ∀ m, g f.type = some m → LeavesOk m ((cs.drop f.offset).take (P.cellsOf f.type))) →
    ∀ (j : Nat) (f : Leaf), ls[j]? = some f → ∃ v, cs[off + j]? = some v ∧ LeafOk f v
  | [], off, ls, h, _, j, f, hj => by simp [leavesL] at h; subst h; simp at hj
  | f :: fs, off, ls, h, hf, j, lf, hj => by
    simp only [leavesL] at h
    split at h
    · rename_i ho
      obtain ⟨m, hm, h⟩ := Option.bind_eq_some_iff.1 h
      split at h
      · rename_i hml
        obtain ⟨rest, hr, rfl⟩ := Option.map_eq_some_iff.1 h
        by_cases hjm : j < m.length
        · rw [List.getElem?_append_left hjm] at hj
          obtain ⟨_, h2⟩ := hf f (by simp) m hm
          obtain ⟨v, hv, hok⟩ := h2 j lf hj
          refine ⟨v, ?_, hok⟩
          rw [List.getElem?_take, List.getElem?_drop] at hv
          split at hv
          · rw [← ho]; exact hv
          · simp at hv
        · rw [List.getElem?_append_right (by omega)] at hj
          obtain ⟨v, hv, hok⟩ := leavesL_ok fs (off + m.length) rest hr (fun f' hf' => hf f' (by simp [hf'])) (j - m.length) lf hj
          exact ⟨v, by rw [← hv]; congr 1; omega, hok⟩
      · simp at h
    · simp at h

section
variable {H : Type} {enc : TypeId × Value → H} {P : Program} {w : World} {base : Nat} {spare : Nat → Bool} {held : Bool}

theorem leaves_ok (n : Nat) : ∀ (t : TypeId) (ls : List Leaf) (fuel : Nat) (cs : List Value) (x : DataW H × List MemPlace), leaves P n t = some ls → DataW.trod enc P w base spare held fuel t cs = some x → LeavesOk ls cs := by
  induction n with
  | zero => intro t ls fuel cs x h; simp [leaves] at h
  | succ n ih =>
    intro t ls fuel cs x h hx
    unfold leaves at h
    split at h
    · rename_i k hk
      simp only [Option.some.injEq] at h
      subst h
      obtain ⟨q, rfl, _, hw⟩ := DataW.trod_int hk hx
      refine ⟨rfl, fun j f hj => ?_⟩
      cases j with
      | zero => simp at hj; subst hj; exact ⟨_, rfl, q, rfl, hw⟩
      | succ j => simp at hj
    · rename_i hk
      simp only [Option.some.injEq] at h
      subst h
      obtain ⟨q, rfl, _⟩ := DataW.trod_bool hk hx
      refine ⟨rfl, fun j f hj => ?_⟩
      cases j with
      | zero => simp at hj; subst hj; exact ⟨_, rfl, q, rfl⟩
      | succ j => simp at hj
    · rename_i fs hk
      obtain ⟨l, hl, h⟩ := Option.bind_eq_some_iff.1 h
      split at h
      · rename_i hlen
        simp only [Option.some.injEq] at h
        subst h
        obtain ⟨xs, m, _, _, hcl, hxl, hg⟩ := DataW.trod_struct hk hx
        refine ⟨by rw [hcl, hlen], fun j f hj => ?_⟩
        have := leavesL_ok (cs := cs) fs.toList 0 l hl (fun f' hf' q hq => by
          obtain ⟨i, hi, rfl⟩ := List.mem_iff_getElem.1 hf'
          have hi' : i < fs.size := by simpa using hi
          have h1 := hg i fs[i] (by simp [hi'])
          have hx1 : xs[i]? = some (xs[i]'(by omega)) := List.getElem?_eq_getElem (by omega)
          rw [hx1] at h1
          simpa using ih _ _ _ _ _ hq h1) j f hj
        simpa using this
      · simp at h
    · simp at h

/-- A SLICE OF SUCH ELEMENTS, OPENED: its elements' cells. -/
theorem open_leaves {t e : TypeId} {n : Nat} {ls : List Leaf} {fuel : Nat} {cs : List Value} {x : DataW H × List MemPlace} (ht : P.underlying t = some (.slice e)) (hls : leaves P n e = some ls) (hk : P.cellsOf e = ls.length) (hne : 0 < ls.length)
    (h : DataW.trod enc P w base spare held fuel t cs = some x) :
    ∃ (a : Option Addr) (cap : Nat) (xs : List (List Value)), cs = [.slice a xs.length cap] ∧ xs.length ≤ cap ∧ cap ≤ maxLen ∧ Row id ls.length w.heap.size w a xs ∧ (∀ x ∈ xs, LeavesOk ls x) ∧ (a = none → cap = 0) := by
  rcases Go.Deep.open_slice ht h with ⟨rfl, _⟩ | ⟨a, len, cap, m, q, D, Pl, rfl, hb, hl, hm, hmm, _, hi⟩
  · exact ⟨none, 0, [], rfl, by simp, by simp [maxLen], Row.nil, by simp, fun _ => rfl⟩
  · have hlm : len ≤ m := by subst hmm; split <;> omega
    obtain ⟨f, hf⟩ := Go.Deep.choose_lt (n := len) (p := fun i cs' => w.cells? base (a.add (i * P.cellsOf e)) (P.cellsOf e) = some cs' ∧ DataW.trod enc P w base spare held q e cs' = some (D i, Pl i)) (fun i hil => hi i (by omega))
    refine ⟨some a, cap, (List.range len).map f, by simp, by simpa using hl, hm, ?_, ?_, by simp⟩
    · intro i y hy
      have hil : i < len := by
        have := (List.getElem?_eq_some_iff.1 hy).1
        simpa using this
      simp [hil] at hy
      subst hy
      have hsp : a.spot = none := by
        obtain ⟨hc, ht'⟩ := hf 0 (by omega)
        obtain ⟨_, hcl, hat⟩ := World.cells?_some hc
        have h1 := hat 0 (by omega)
        have hv : (f 0)[0]? = some ((f 0)[0]'(by omega)) := List.getElem?_eq_getElem (by omega)
        rw [hv] at h1
        have := World.cell?_spot h1
        simpa [Addr.add] using this
      obtain ⟨ab, ao, asp⟩ := a
      simp at hsp
      subst hsp
      obtain ⟨hc, ht'⟩ := hf i hil
      obtain ⟨_, hcl, hat⟩ := World.cells?_some hc
      have hat' : ∀ j, j < ls.length → w.cell? ⟨ab, ao + i * ls.length + j, none⟩ = (f i)[j]? := by
        intro j hj
        have h1 := hat j (by omega)
        rw [Go.Deep.add_add, hk] at h1
        rw [← h1]
        congr 1
        unfold Addr.add
        split
        · rename_i h0
          have h3 : ao + i * ls.length + j = ao := by omega
          rw [h3]
        · simp [Nat.add_assoc]
      refine ⟨ab, ao, rfl, ?_, fun j v hj => ?_⟩
      · have h0 := hat' 0 hne
        have hv : (f i)[0]? = some ((f i)[0]'(by omega)) := List.getElem?_eq_getElem (by omega)
        rw [hv] at h0
        rcases Nat.lt_or_ge ab w.heap.size with h' | h'
        · exact h'
        · simp [World.cell?, Array.getElem?_eq_none h'] at h0
      · have hjl : j < (f i).length := (List.getElem?_eq_some_iff.1 hj).1
        rw [hat' j (by omega)]
        exact hj
    · intro y hy
      simp at hy
      obtain ⟨i, hil, rfl⟩ := hy
      obtain ⟨hc, ht'⟩ := hf i hil
      exact leaves_ok n _ _ _ _ _ hls ht'

theorem Row.of_map {α : Type} {enc : α → List Value} {k B : Nat} {w : World} {a : Option Addr} {ys : List α} (h : Row id k B w a (ys.map enc)) : Row enc k B w a ys := by
  intro i x hx
  exact h i (enc x) (by simp [hx])

theorem decode {α : Type} {enc : α → List Value} {wf : α → Prop} {ls : List Leaf} (hdec : ∀ cs, LeavesOk ls cs → ∃ x : α, cs = enc x ∧ wf x) : ∀ (xs : List (List Value)), (∀ x ∈ xs, LeavesOk ls x) →
    ∃ ys : List α, xs = ys.map enc ∧ ∀ y ∈ ys, wf y
  | [], _ => ⟨[], rfl, by simp⟩
  | c :: cs, h => by
    obtain ⟨y, rfl, hy⟩ := hdec c (h c (by simp))
    obtain ⟨ys, rfl, hys⟩ := decode hdec cs (fun x hx => h x (by simp [hx]))
    exact ⟨y :: ys, rfl, by simpa using ⟨hy, hys⟩⟩

/-- A slice that came in, opened to a list of plain things. -/
theorem open_typed {α : Type} {enc' : α → List Value} {wf : α → Prop} {ls : List Leaf} (hdec : ∀ cs, LeavesOk ls cs → ∃ x : α, cs = enc' x ∧ wf x) {t e : TypeId} {n : Nat} {fuel : Nat} {cs : List Value} {x : DataW H × List MemPlace}
    (ht : P.underlying t = some (.slice e)) (hls : leaves P n e = some ls) (hk : P.cellsOf e = ls.length) (hne : 0 < ls.length) (h : DataW.trod enc P w base spare held fuel t cs = some x) :
    ∃ (a : Option Addr) (cap : Nat) (ys : List α), cs = [.slice a ys.length cap] ∧ ys.length ≤ cap ∧ cap ≤ maxLen ∧ Row enc' ls.length w.heap.size w a ys ∧ (∀ y ∈ ys, wf y) ∧ (a = none → cap = 0) := by
  obtain ⟨a, cap, xs, rfl, h1, h2, h3, h4, h5⟩ := open_leaves ht hls hk hne h
  obtain ⟨ys, rfl, hys⟩ := decode hdec xs h4
  exact ⟨a, cap, ys, by simp, by simpa using h1, h2, h3.of_map, hys, h5⟩
end

/-! ### Regions that draw their order and only read or call: one walk of the text's order -/
/-- a world in which all that was there is as it was -/
structure Later (w : World) where
  val : World
  ok : Below w.heap.size w val
instance {w : World} : Nonempty (Later w) := ⟨⟨w, Below.refl _ _⟩⟩

theorem Later.cell {w : World} (g : Later w) {b o : Nat} (h : b < w.heap.size) : g.val.cell? ⟨b, o, none⟩ = w.cell? ⟨b, o, none⟩ := g.ok.cell (p := ⟨b, o, none⟩) h
theorem Later.some {w : World} (g : Later w) {b o : Nat} {v : Value} (h : w.cell? ⟨b, o, none⟩ = some v) : g.val.cell? ⟨b, o, none⟩ = some v := by
  rw [g.cell, h]
  rcases Nat.lt_or_ge b w.heap.size with h' | h'
  · exact h'
  · simp [World.cell?, Array.getElem?_eq_none h'] at h

theorem Later.region {P : Program} {id : Nat} {Q : Exit → Act → World → Prop} {a : Act} {w : World} {l : List Oper} (hm : P.follows .mixedOrders = true) (hB : Region.lexB .any l.toArray = true)
    (h : wpQuiet P l.toArray (fun w' => ∃ g : Later w, w' = g.val) (fun a' => ∀ g : Later w, Q .normal a' g.val) l a) : (Code.region id l.toArray true).wp P Q a w :=
  wp_region_quiet (C := fun w' => ∃ g : Later w, w' = g.val) hm hB ⟨⟨w.drew, (Below.refl _ _).drew⟩, rfl⟩ (by
    have e : (fun a' => ∀ w', (∃ g : Later w, w' = g.val) → Q .normal a' w') = (fun a' => ∀ g : Later w, Q .normal a' g.val) := by
      funext a'
      exact propext ⟨fun h g => h _ ⟨g, rfl⟩, fun h _ ⟨g, hg⟩ => hg ▸ h g⟩
    rw [e]
    simpa using h)

/-- a contract, met in such a region -/
theorem Later.call {P : Program} {f : FuncId} {args : Array Value} {w : World} {g : Later w} {v : Value}
    (h : Calls P f args g.val fun e w' => e = .returned v ∧ Kept g.val w') : Calls P f args g.val fun e w'' => e = .returned v ∧ ∃ g' : Later w, w'' = g'.val :=
  h.mono fun _ w'' ⟨he, hk⟩ => ⟨he, ⟨w'', Kept.drop g.ok hk⟩, rfl⟩
theorem Later.call_same {P : Program} {f : FuncId} {args : Array Value} {w : World} {g : Later w} {v : Value}
    (h : Calls P f args g.val fun e w' => e = .returned v ∧ g.val = w') : Calls P f args g.val fun e w'' => e = .returned v ∧ ∃ g' : Later w, w'' = g'.val :=
  h.mono fun _ _ ⟨he, hk⟩ => ⟨he, g, hk.symm⟩

end Bal
