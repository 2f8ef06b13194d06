/-
  Facts about memory, lists and numbers that the walks use: no program in sight.
-/
import Derived.WalkKit
import Derived.WalkSpells
import Derived.WalkLawsBesides
import Derived.Lib.Hide
import Derived.ProofKit
import Derived.OpenShut
import Derived.ChangeOld
import Derived.Below
import Derived.Deep.Slices
import Derived.Deep.Fields
import Derived.Deep.Quiet
import Derived.Laws.AppendOwn
import Derived.Laws.AppendOwnNone
import Derived.StillTail
import Derived.Test.YtacbkbilbmkjnaaGreatProg
import Derived.Deep.QuietTactic
import Derived.BigQuiet
import Derived.Lib.SlicesCompact
import Derived.WalkSmall
import Derived.OwnWalk
import Derived.Deep.RegionHeld3
import Derived.OrdersHeld
import Derived.Deep.CutBlock
import Derived.Deep.DeepCutAuto
import Derived.Maps.OwnSet
import Derived.Laws.EntriesVeiled
import Derived.Test.YtacbkbilbmkjnaaGreatMastBaseZMA
set_option linter.unusedVariables false
set_option linter.unusedSimpArgs false
/-
  Facts about memory, lists and numbers that the walks use: no program in sight.
-/
namespace Bal
open Go Go.RowKit Go.ChangeShapes Go.WideShapes

theorem ret_int {k : IntKind} {a b : Int} (h : a = b) : Ending.returned (.int k a) = .returned (.int k b) := by rw [h]
theorem ret_bool {a b : Bool} (h : a = b) : Ending.returned (.bool a) = .returned (.bool b) := by rw [h]

/-- What a call leaves alone: nothing that was there has changed. -/
abbrev Kept (w w' : World) : Prop := Below w.heap.size w w'

/-- The elements xs of a slice at address a, each of k cells, lie in blocks below B. -/
def Row {α : Type} (enc : α → List Value) (k B : Nat) (w : World) (a : Option Addr) (xs : List α) : Prop :=
  ∀ (i : Nat) (x : α), xs[i]? = some x → ∃ b off, a = some ⟨b, off, none⟩ ∧ b < B ∧ ∀ (j : Nat) (v : Value), (enc x)[j]? = some v → w.cell? ⟨b, off + i * k + j, none⟩ = some v

theorem Row.nil {α : Type} {enc : α → List Value} {k B : Nat} {w : World} {a : Option Addr} : Row enc k B w a [] := by
  intro i x h; simp at h

theorem Row.keep {α : Type} {enc : α → List Value} {k B C : Nat} {w w' : World} {a : Option Addr} {xs : List α} (h : Row enc k B w a xs) (hb : Below C w w') (hC : B ≤ C) : Row enc k B w' a xs := by
  intro i x hx
  obtain ⟨b, off, ha, hlt, hc⟩ := h i x hx
  exact ⟨b, off, ha, hlt, fun j v hj => by rw [hb.cell (p := ⟨b, off + i * k + j, none⟩) (show b < C by omega)]; exact hc j v hj⟩

theorem Row.up {α : Type} {enc : α → List Value} {k B C : Nat} {w : World} {a : Option Addr} {xs : List α} (h : Row enc k B w a xs) (hC : B ≤ C) : Row enc k C w a xs := by
  intro i x hx
  obtain ⟨b, off, ha, hlt, hc⟩ := h i x hx
  exact ⟨b, off, ha, by omega, hc⟩

/-- a row known below the heap of w, asked for in a later world w' -/
theorem Row.later {α : Type} {enc : α → List Value} {k B : Nat} {w w' : World} {a : Option Addr} {xs : List α} (h : Row enc k B w a xs) (hb : Below B w w') (hB : B ≤ w.heap.size) : Row enc k w'.heap.size w' a xs :=
  (h.keep hb (Nat.le_refl _)).up (Nat.le_trans hB hb.size)

theorem Kept.size {w w' : World} (h : Kept w w') : w.heap.size ≤ w'.heap.size := Below.size h
/-- what a walk wants to know behind a contract -/
theorem bcell3 {W w1 : World} (hb : Below W.heap.size W w1) : (∀ b o, b < W.heap.size → w1.cell? ⟨b, o, none⟩ = W.cell? ⟨b, o, none⟩) ∧ (∀ b o, b < W.heap.size → w1.frozen? ⟨b, o, none⟩ = W.frozen? ⟨b, o, none⟩) ∧ ∀ n, n < W.heap.size → n < w1.heap.size :=
  ⟨fun b o h => hb.cell (p := ⟨b, o, none⟩) h, fun b o h => hb.frozen (p := ⟨b, o, none⟩) h, fun _ h => Nat.lt_of_lt_of_le h hb.size⟩

theorem Kept.drop {w w' w'' : World} (h : Below w.heap.size w w') (h' : Kept w' w'') : Kept w w'' := h.trans (h'.mono h.size)

/-- a loop over xs has passed k elements, all of them valid, and left alone what was there -/
def Upto {α : Type} (valid : α → Bool) (xs : List α) (w : World) (i : Value) (wr : World) : Prop :=
  ∃ k : Nat, k ≤ xs.length ∧ i = .int .i64 k ∧ (xs.take k).all valid = true ∧ Kept w wr

theorem Kept.alloc {w w' : World} (h : Kept w w') (o : Obj) : Kept w (w'.alloc o) := Below.alloc h h.size o

/-- a number as a cell -/
def icell (n : Int) : List Value := [.int .i64 n]
theorem int_row {B : Nat} {w : World} {a : Option Addr} {xs : List Int} (h : Row icell 1 B w a xs) (i : Nat) (hi : i < xs.length) :
    ∃ b off, a = some ⟨b, off, none⟩ ∧ b < B ∧ w.cell? ⟨b, off + i, none⟩ = some (.int .i64 xs[i]) := by
  obtain ⟨b, off, ha, hb, hc⟩ := h i xs[i] (by simp [hi])
  exact ⟨b, off, ha, hb, by simpa using hc 0 _ rfl⟩

/-! ### Slices that a call has made itself, element by element -/
theorem flatMap_len {α : Type} {enc : α → List Value} {k : Nat} (he : ∀ x, (enc x).length = k) (xs : List α) : (xs.flatMap enc).length = xs.length * k := by
  induction xs with
  | nil => simp
  | cons x xs ih => simp [List.flatMap_cons, ih, he, Nat.succ_mul, Nat.add_comm]

theorem flatMap_get {α : Type} {enc : α → List Value} {k : Nat} (he : ∀ x, (enc x).length = k) : ∀ (xs : List α) (i : Nat) (x : α), xs[i]? = some x → ∀ j, j < k → (xs.flatMap enc)[i * k + j]? = (enc x)[j]?
  | [], i, x, h, _, _ => by simp at h
  | y :: ys, 0, x, h, j, hj => by
    simp at h
    subst h
    rw [List.flatMap_cons, Nat.zero_mul, Nat.zero_add, List.getElem?_append_left (by rw [he]; exact hj)]
  | y :: ys, i + 1, x, h, j, hj => by
    rw [List.flatMap_cons, List.getElem?_append_right (by rw [he, Nat.succ_mul]; omega), he]
    have := flatMap_get he ys i x (by simpa using h) j hj
    rw [← this]
    congr 1
    rw [Nat.succ_mul]; omega

/-- What the call owns reads as a row. -/
theorem Row.of_owns {α : Type} {enc : α → List Value} {k base : Nat} {e : TypeId} {w : World} {v : Value} {xs : List α} (he : ∀ x, (enc x).length = k) (h : w.ownsRow base e k v xs.length (xs.flatMap enc)) :
    ∃ a cap, v = .slice a xs.length cap ∧ Row enc k w.heap.size w a xs ∧ xs.length ≤ cap ∧ cap ≤ maxLen := by
  obtain ⟨_, ⟨rfl, hn⟩ | ⟨g, cap, cur, rfl, hb, hh, hnc, hcm, hsz, ht⟩⟩ := h
  · have : xs = [] := List.length_eq_zero_iff.1 hn
    subst this
    exact ⟨none, 0, rfl, Row.nil, by simp, by simp [maxLen]⟩
  · refine ⟨some ⟨g, 0, none⟩, cap, rfl, ?_, hnc, hcm⟩
    intro i x hx
    refine ⟨g, 0, rfl, ?_, ?_⟩
    · rcases Nat.lt_or_ge g w.heap.size with h' | h'
      · exact h'
      · rw [Array.getElem?_eq_none h'] at hh; cases hh
    · intro j u hj
      have hjk : j < k := by rw [← he x]; exact (List.getElem?_eq_some_iff.1 hj).1
      have hix : i < xs.length := (List.getElem?_eq_some_iff.1 hx).1
      have h1 := flatMap_get he xs i x hx j hjk
      rw [← ht, List.getElem?_take] at h1
      split at h1
      · rw [hj] at h1
        simp only [World.cell?, hh, Nat.zero_add]
        simpa using h1
      · rw [hj] at h1; cases h1

theorem owns_nil {base : Nat} {e : TypeId} {k : Nat} {w : World} {α : Type} {enc : α → List Value} : w.ownsRow base e k (.slice none 0 0) ([] : List α).length (([] : List α).flatMap enc) :=
  ⟨by simp, .inl ⟨rfl, rfl⟩⟩

theorem owns_keep {base : Nat} {e : TypeId} {k n : Nat} {w w' : World} {v : Value} {xs : List Value} (h : w.ownsRow base e k v n xs) (hb : Below w.heap.size w w') : w'.ownsRow base e k v n xs := by
  obtain ⟨h1, h2 | ⟨g, cap, cur, hv, hg, hh, r⟩⟩ := h
  · exact ⟨h1, .inl h2⟩
  · refine ⟨h1, .inr ⟨g, cap, cur, hv, hg, ?_, r⟩⟩
    rw [hb.block g ?_]
    · exact hh
    · rcases Nat.lt_or_ge g w.heap.size with h' | h'
      · exact h'
      · rw [Array.getElem?_eq_none h'] at hh; cases hh

theorem owns_base {base base' : Nat} {e : TypeId} {k n : Nat} {w : World} {v : Value} {xs : List Value} (h : w.ownsRow base e k v n xs) (hb : base' ≤ base) : w.ownsRow base' e k v n xs := by
  obtain ⟨h1, h2 | ⟨g, cap, cur, hv, hg, hh, r⟩⟩ := h
  · exact ⟨h1, .inl h2⟩
  · exact ⟨h1, .inr ⟨g, cap, cur, hv, Nat.le_trans hb hg, hh, r⟩⟩

theorem flatMap_at {α : Type} {enc : α → List Value} {k : Nat} (hk : 0 < k) (he : ∀ x, (enc x).length = k) (xs : List α) (j : Nat) (u : Value) (h : (xs.flatMap enc)[j]? = some u) :
    ∃ x, xs[j / k]? = some x ∧ (enc x)[j % k]? = some u := by
  have hj : j < xs.length * k := by rw [← flatMap_len he xs]; exact (List.getElem?_eq_some_iff.1 h).1
  have hi : j / k < xs.length := Nat.div_lt_of_lt_mul (by rw [Nat.mul_comm]; exact hj)
  refine ⟨xs[j / k], by simp [hi], ?_⟩
  rw [← flatMap_get he xs (j / k) xs[j / k] (by simp [hi]) (j % k) (Nat.mod_lt _ hk), ← h]
  congr 1
  have := Nat.div_add_mod j k
  rw [Nat.mul_comm] at this
  omega

theorem Row.news {α : Type} {enc : α → List Value} {k B : Nat} {w : World} {ad : Addr} {ys : List α} (hk : 0 < k) (he : ∀ x, (enc x).length = k) (h : Row enc k B w (some ad) ys) :
    ∀ j u, (ys.flatMap enc)[j]? = some u → w.cell? (ad.add j) = some u := by
  intro j u hj
  obtain ⟨x, hx, hu⟩ := flatMap_at hk he ys j u hj
  obtain ⟨b, off, ha, _, hc⟩ := h _ x hx
  simp only [Option.some.injEq] at ha
  subst ha
  have h1 := hc _ u hu
  have e : (⟨b, off, none⟩ : Addr).add j = ⟨b, off + j / k * k + j % k, none⟩ := by
    have h2 : off + j / k * k + j % k = off + j := by
      have := Nat.div_add_mod j k
      rw [Nat.mul_comm] at this
      omega
    unfold Addr.add
    split
    · rename_i h0; rw [h2, h0]; rfl
    · rw [h2]
  rw [e]
  exact h1

/-- APPENDING A LIST to a slice that the call owns, wherever the list lies (nil too). -/
theorem wpList_append_list {α : Type} {enc : α → List Value} {P : Program} {w : World} {ops : Array Oper} {rest : List Oper} {o : Oper} {a : Act} {Q : Exit → Act → World → Prop} (hgd : o.guard = none) (s x : Operand) (t : TypeId)
    (ho : o.op = .call { callee := .builtin .append, args := #[s, x], argTypes := #[t, t] })
    (base : Nat) (e : TypeId) (i : TypeInfo) (z : Value) (size bytes : Nat) (ht : P.underlying t = some (.slice e)) (hi : P.info? e = some i) (hz : i.zero = some z)
    (hsize : i.size = size) (hby : i.bytes = bytes) (hzs : z.cells.size = size) (hsz : 0 < size) (he : ∀ x : α, (enc x).length = size) (h1 : ∀ (x : α), ∀ u ∈ enc x, u.oneCell' = true)
    (v : Value) (xs : List α) (hs : a.eval s = v) (hown : w.ownsRow base e size v xs.length (xs.flatMap enc))
    (ad : Option Addr) (c : Nat) (ys : List α) (hx : a.eval x = .slice ad ys.length c) (hc : ad = none → c = 0) {B : Nat} (hrow : Row enc size B w ad ys)
    (h63 : xs.length + ys.length ≤ maxLen) (hbytes : (xs.length + ys.length) * bytes ≤ 140737488355328) (hbase : base ≤ w.heap.size)
    (h : ∀ v' w', w'.ownsRow base e size v' (xs ++ ys).length ((xs ++ ys).flatMap enc) → w.grownBy w' v.ownBlock → wpList P ops Q rest (a.put o.dst v') w') : wpList P ops Q (o :: rest) a w := by
  cases ad with
  | none =>
    have hys : ys = [] := by
      cases ys with
      | nil => rfl
      | cons y ys => obtain ⟨b, off, ha, _⟩ := hrow 0 y rfl; cases ha
    subst hys
    have := hc rfl
    subst this
    exact wpList_append_own_none hgd s x t ho base e i size ht hi v xs.length _ hs hown hx (h v w (by simpa using hown) ⟨rfl, rfl, rfl, Nat.le_refl _, fun _ _ _ => rfl⟩)
  | some ad =>
    refine wpList_append_own w hgd s x t ho base e i z size bytes ht hi hz hsize hby hzs hsz v xs.length _ hs hown ad ys.length c (ys.flatMap enc) hx (flatMap_len he ys) (hrow.news hsz he) ?_ h63 hbytes hbase ?_
    · intro u hu
      obtain ⟨y, _, hy⟩ := List.mem_flatMap.1 hu
      exact h1 y u hy
    · intro v' w' ho' hg _
      exact h v' w' (by simpa [List.length_append] using ho') hg

/-! ### A block of the call's own, known whole -/
def Blk (w : World) (b : Nat) (arr : Array Value) (t : TypeId) : Prop := w.heap[b]? = some (.cells arr t (0, 0))
theorem Blk.lt {w : World} {b : Nat} {arr : Array Value} {t : TypeId} (h : Blk w b arr t) : b < w.heap.size := by
  rcases Nat.lt_or_ge b w.heap.size with h' | h'
  · exact h'
  · unfold Blk at h; rw [Array.getElem?_eq_none h'] at h; cases h
theorem Blk.cell {w : World} {b : Nat} {arr : Array Value} {t : TypeId} (h : Blk w b arr t) (i : Nat) : w.cell? ⟨b, i, none⟩ = arr[i]? := by
  unfold Blk at h
  simp [World.cell?, h]
theorem Blk.free {w : World} {b : Nat} {arr : Array Value} {t : TypeId} (h : Blk w b arr t) (i : Nat) : w.frozen? ⟨b, i, none⟩ = false := by
  unfold Blk at h
  simp [World.frozen?, h]
theorem Blk.keep {w w' : World} {b : Nat} {arr : Array Value} {t : TypeId} (h : Blk w b arr t) (hb : Kept w w') : Blk w' b arr t := by
  unfold Blk
  rw [hb.block b h.lt]
  exact h
theorem Blk.alloc {w : World} {b : Nat} {arr : Array Value} {t : TypeId} (h : Blk w b arr t) (o : Obj) : Blk (w.alloc o) b arr t :=
  h.keep ((Below.refl _ _).alloc (Nat.le_refl _) o)
theorem Blk.drew {w : World} {b : Nat} {arr : Array Value} {t : TypeId} (h : Blk w b arr t) : Blk w.drew b arr t := h
theorem Blk.new {w : World} {arr : Array Value} {t : TypeId} : Blk (w.alloc (.cells arr t)) w.heap.size arr t := by
  show (w.heap.push _)[w.heap.size]? = _
  simp
theorem Blk.set {w : World} {b : Nat} {arr : Array Value} {t : TypeId} (h : Blk w b arr t) (i : Nat) (v : Value) : Blk (w.setCell ⟨b, i, none⟩ v) b (arr.setIfInBounds i v) t := by
  unfold Blk at *
  simp [World.setCell, Array.getElem?_modify, h]
theorem Blk.other {w : World} {b : Nat} {arr : Array Value} {t : TypeId} (h : Blk w b arr t) {a : Addr} (hne : a.block ≠ b) (v : Value) : Blk (w.setCell a v) b arr t := by
  unfold Blk at *
  rw [Below.heap_setCell _ _ _ _ (Ne.symm hne)]
  exact h

/-- a new block of elements reads as a row -/
theorem Row.fresh {α : Type} {enc : α → List Value} {k : Nat} {w : World} {arr : Array Value} {e : TypeId} {xs : List α} (he : ∀ x, (enc x).length = k) (h : arr.toList = xs.flatMap enc) :
    Row enc k (w.alloc (.cells arr e)).heap.size (w.alloc (.cells arr e)) (some ⟨w.heap.size, 0, none⟩) xs := by
  intro i x hx
  refine ⟨w.heap.size, 0, rfl, by simp, fun j v hj => ?_⟩
  have hjk : j < k := by rw [← he x]; exact (List.getElem?_eq_some_iff.1 hj).1
  rw [(Blk.new (w := w) (arr := arr) (t := e)).cell, Nat.zero_add, ← Array.getElem?_toList, h, flatMap_get he xs i x hx j hjk]
  exact hj

/-! ### Cells that are numbers or bools, whatever structs they lie in -/
inductive Leaf where
  | int (k : IntKind)
  | bool
  deriving DecidableEq

def LeafOk : Leaf → Value → Prop
  | .int k, v => ∃ n, v = .int k n ∧ (Lit.int k n).wf = true
  | .bool, v => ∃ b, v = .bool b

/-- the leaves of a row of fields, each by f, the first of them at off -/
def leavesL (P : Program) (g : TypeId → Option (List Leaf)) : Nat → List Field → Option (List Leaf)
  | _, [] => some []
  | off, f :: fs => if f.offset = off then (g f.type).bind fun m => if m.length = P.cellsOf f.type then (leavesL P g (off + m.length) fs).map (m ++ ·) else none else none

/-- the leaves of a type that is made of integers, bools and structs alone -/
def leaves (P : Program) : Nat → TypeId → Option (List Leaf)
  | 0, _ => none
  | n + 1, t => match P.underlying t with
    | some (.int k) => some [.int k]
    | some .bool => some [.bool]
    | some (.struct fs) => (leavesL P (leaves P n) 0 fs.toList).bind fun l => if l.length = P.cellsOf t then some l else none
    | _ => none

/-- cells that are leaves -/
def LeavesOk (ls : List Leaf) (cs : List Value) : Prop := cs.length = ls.length ∧ ∀ (j : Nat) (f : Leaf), ls[j]? = some f → ∃ v, cs[j]? = some v ∧ LeafOk f v

theorem leavesL_ok {P : Program} {g : TypeId → Option (List Leaf)} {cs : List Value} : ∀ (fs : List Field) (off : Nat) (ls : List Leaf),
    leavesL P g off fs = some ls → (∀ f ∈ fs, ∀ m, g f.type = some m → LeavesOk m ((cs.drop f.offset).take (P.cellsOf f.type))) →
    ∀ (j : Nat) (f : Leaf), ls[j]? = some f → ∃ v, cs[off + j]? = some v ∧ LeafOk f v
  | [], off, ls, h, _, j, f, hj => by simp [leavesL] at h; subst h; simp at hj
  | f :: fs, off, ls, h, hf, j, lf, hj => by
    simp only [leavesL] at h
    split at h
    · rename_i ho
      obtain ⟨m, hm, h⟩ := Option.bind_eq_some_iff.1 h
      split at h
      · rename_i hml
        obtain ⟨rest, hr, rfl⟩ := Option.map_eq_some_iff.1 h
        by_cases hjm : j < m.length
        · rw [List.getElem?_append_left hjm] at hj
          obtain ⟨_, h2⟩ := hf f (by simp) m hm
          obtain ⟨v, hv, hok⟩ := h2 j lf hj
          refine ⟨v, ?_, hok⟩
          rw [List.getElem?_take, List.getElem?_drop] at hv
          split at hv
          · rw [← ho]; exact hv
          · simp at hv
        · rw [List.getElem?_append_right (by omega)] at hj
          obtain ⟨v, hv, hok⟩ := leavesL_ok fs (off + m.length) rest hr (fun f' hf' => hf f' (by simp [hf'])) (j - m.length) lf hj
          exact ⟨v, by rw [← hv]; congr 1; omega, hok⟩
      · simp at h
    · simp at h

section
variable {H : Type} {enc : TypeId × Value → H} {P : Program} {w : World} {base : Nat} {spare : Nat → Bool} {held : Bool}

theorem leaves_ok (n : Nat) : ∀ (t : TypeId) (ls : List Leaf) (fuel : Nat) (cs : List Value) (x : DataW H × List MemPlace), leaves P n t = some ls → DataW.trod enc P w base spare held fuel t cs = some x → LeavesOk ls cs := by
  induction n with
  | zero => intro t ls fuel cs x h; simp [leaves] at h
  | succ n ih =>
    intro t ls fuel cs x h hx
    unfold leaves at h
    split at h
    · rename_i k hk
      simp only [Option.some.injEq] at h
      subst h
      obtain ⟨q, rfl, _, hw⟩ := DataW.trod_int hk hx
      refine ⟨rfl, fun j f hj => ?_⟩
      cases j with
      | zero => simp at hj; subst hj; exact ⟨_, rfl, q, rfl, hw⟩
      | succ j => simp at hj
    · rename_i hk
      simp only [Option.some.injEq] at h
      subst h
      obtain ⟨q, rfl, _⟩ := DataW.trod_bool hk hx
      refine ⟨rfl, fun j f hj => ?_⟩
      cases j with
      | zero => simp at hj; subst hj; exact ⟨_, rfl, q, rfl⟩
      | succ j => simp at hj
    · rename_i fs hk
      obtain ⟨l, hl, h⟩ := Option.bind_eq_some_iff.1 h
      split at h
      · rename_i hlen
        simp only [Option.some.injEq] at h
        subst h
        obtain ⟨xs, m, _, _, hcl, hxl, hg⟩ := DataW.trod_struct hk hx
        refine ⟨by rw [hcl, hlen], fun j f hj => ?_⟩
        have := leavesL_ok (cs := cs) fs.toList 0 l hl (fun f' hf' q hq => by
          obtain ⟨i, hi, rfl⟩ := List.mem_iff_getElem.1 hf'
          have hi' : i < fs.size := by simpa using hi
          have h1 := hg i fs[i] (by simp [hi'])
          have hx1 : xs[i]? = some (xs[i]'(by omega)) := List.getElem?_eq_getElem (by omega)
          rw [hx1] at h1
          simpa using ih _ _ _ _ _ hq h1) j f hj
        simpa using this
      · simp at h
    · simp at h

/-- A SLICE OF SUCH ELEMENTS, OPENED: its elements' cells. -/
theorem open_leaves {t e : TypeId} {n : Nat} {ls : List Leaf} {fuel : Nat} {cs : List Value} {x : DataW H × List MemPlace} (ht : P.underlying t = some (.slice e)) (hls : leaves P n e = some ls) (hk : P.cellsOf e = ls.length) (hne : 0 < ls.length)
    (h : DataW.trod enc P w base spare held fuel t cs = some x) :
    ∃ (a : Option Addr) (cap : Nat) (xs : List (List Value)), cs = [.slice a xs.length cap] ∧ xs.length ≤ cap ∧ cap ≤ maxLen ∧ Row id ls.length w.heap.size w a xs ∧ (∀ x ∈ xs, LeavesOk ls x) ∧ (a = none → cap = 0) := by
  rcases Go.Deep.open_slice ht h with ⟨rfl, _⟩ | ⟨a, len, cap, m, q, D, Pl, rfl, hb, hl, hm, hmm, _, hi⟩
  · exact ⟨none, 0, [], rfl, by simp, by simp [maxLen], Row.nil, by simp, fun _ => rfl⟩
  · have hlm : len ≤ m := by subst hmm; split <;> omega
    obtain ⟨f, hf⟩ := Go.Deep.choose_lt (n := len) (p := fun i cs' => w.cells? base (a.add (i * P.cellsOf e)) (P.cellsOf e) = some cs' ∧ DataW.trod enc P w base spare held q e cs' = some (D i, Pl i)) (fun i hil => hi i (by omega))
    refine ⟨some a, cap, (List.range len).map f, by simp, by simpa using hl, hm, ?_, ?_, by simp⟩
    · intro i y hy
      have hil : i < len := by
        have := (List.getElem?_eq_some_iff.1 hy).1
        simpa using this
      simp [hil] at hy
      subst hy
      have hsp : a.spot = none := by
        obtain ⟨hc, ht'⟩ := hf 0 (by omega)
        obtain ⟨_, hcl, hat⟩ := World.cells?_some hc
        have h1 := hat 0 (by omega)
        have hv : (f 0)[0]? = some ((f 0)[0]'(by omega)) := List.getElem?_eq_getElem (by omega)
        rw [hv] at h1
        have := World.cell?_spot h1
        simpa [Addr.add] using this
      obtain ⟨ab, ao, asp⟩ := a
      simp at hsp
      subst hsp
      obtain ⟨hc, ht'⟩ := hf i hil
      obtain ⟨_, hcl, hat⟩ := World.cells?_some hc
      have hat' : ∀ j, j < ls.length → w.cell? ⟨ab, ao + i * ls.length + j, none⟩ = (f i)[j]? := by
        intro j hj
        have h1 := hat j (by omega)
        rw [Go.Deep.add_add, hk] at h1
        rw [← h1]
        congr 1
        unfold Addr.add
        split
        · rename_i h0
          have h3 : ao + i * ls.length + j = ao := by omega
          rw [h3]
        · simp [Nat.add_assoc]
      refine ⟨ab, ao, rfl, ?_, fun j v hj => ?_⟩
      · have h0 := hat' 0 hne
        have hv : (f i)[0]? = some ((f i)[0]'(by omega)) := List.getElem?_eq_getElem (by omega)
        rw [hv] at h0
        rcases Nat.lt_or_ge ab w.heap.size with h' | h'
        · exact h'
        · simp [World.cell?, Array.getElem?_eq_none h'] at h0
      · have hjl : j < (f i).length := (List.getElem?_eq_some_iff.1 hj).1
        rw [hat' j (by omega)]
        exact hj
    · intro y hy
      simp at hy
      obtain ⟨i, hil, rfl⟩ := hy
      obtain ⟨hc, ht'⟩ := hf i hil
      exact leaves_ok n _ _ _ _ _ hls ht'

theorem Row.of_map {α : Type} {enc : α → List Value} {k B : Nat} {w : World} {a : Option Addr} {ys : List α} (h : Row id k B w a (ys.map enc)) : Row enc k B w a ys := by
  intro i x hx
  exact h i (enc x) (by simp [hx])

theorem decode {α : Type} {enc : α → List Value} {wf : α → Prop} {ls : List Leaf} (hdec : ∀ cs, LeavesOk ls cs → ∃ x : α, cs = enc x ∧ wf x) : ∀ (xs : List (List Value)), (∀ x ∈ xs, LeavesOk ls x) →
    ∃ ys : List α, xs = ys.map enc ∧ ∀ y ∈ ys, wf y
  | [], _ => ⟨[], rfl, by simp⟩
  | c :: cs, h => by
    obtain ⟨y, rfl, hy⟩ := hdec c (h c (by simp))
    obtain ⟨ys, rfl, hys⟩ := decode hdec cs (fun x hx => h x (by simp [hx]))
    exact ⟨y :: ys, rfl, by simpa using ⟨hy, hys⟩⟩

/-- A slice that came in, opened to a list of plain things. -/
theorem open_typed {α : Type} {enc' : α → List Value} {wf : α → Prop} {ls : List Leaf} (hdec : ∀ cs, LeavesOk ls cs → ∃ x : α, cs = enc' x ∧ wf x) {t e : TypeId} {n : Nat} {fuel : Nat} {cs : List Value} {x : DataW H × List MemPlace}
    (ht : P.underlying t = some (.slice e)) (hls : leaves P n e = some ls) (hk : P.cellsOf e = ls.length) (hne : 0 < ls.length) (h : DataW.trod enc P w base spare held fuel t cs = some x) :
    ∃ (a : Option Addr) (cap : Nat) (ys : List α), cs = [.slice a ys.length cap] ∧ ys.length ≤ cap ∧ cap ≤ maxLen ∧ Row enc' ls.length w.heap.size w a ys ∧ (∀ y ∈ ys, wf y) ∧ (a = none → cap = 0) := by
  obtain ⟨a, cap, xs, rfl, h1, h2, h3, h4, h5⟩ := open_leaves ht hls hk hne h
  obtain ⟨ys, rfl, hys⟩ := decode hdec xs h4
  exact ⟨a, cap, ys, by simp, by simpa using h1, h2, h3.of_map, hys, h5⟩
end

/-! ### Regions that draw their order and only read or call: one walk of the text's order -/
/-- a world in which all that was there is as it was -/
structure Later (w : World) where
  val : World
  ok : Below w.heap.size w val
instance {w : World} : Nonempty (Later w) := ⟨⟨w, Below.refl _ _⟩⟩

theorem Later.cell {w : World} (g : Later w) {b o : Nat} (h : b < w.heap.size) : g.val.cell? ⟨b, o, none⟩ = w.cell? ⟨b, o, none⟩ := g.ok.cell (p := ⟨b, o, none⟩) h
theorem Later.some {w : World} (g : Later w) {b o : Nat} {v : Value} (h : w.cell? ⟨b, o, none⟩ = some v) : g.val.cell? ⟨b, o, none⟩ = some v := by
  rw [g.cell, h]
  rcases Nat.lt_or_ge b w.heap.size with h' | h'
  · exact h'
  · simp [World.cell?, Array.getElem?_eq_none h'] at h

theorem Later.region {P : Program} {id : Nat} {Q : Exit → Act → World → Prop} {a : Act} {w : World} {l : List Oper} (hm : P.follows .mixedOrders = true) (hB : Region.lexB .any l.toArray = true)
    (h : wpQuiet P l.toArray (fun w' => ∃ g : Later w, w' = g.val) (fun a' => ∀ g : Later w, Q .normal a' g.val) l a) : (Code.region id l.toArray true).wp P Q a w :=
  wp_region_quiet (C := fun w' => ∃ g : Later w, w' = g.val) hm hB ⟨⟨w.drew, (Below.refl _ _).drew⟩, rfl⟩ (by
    have e : (fun a' => ∀ w', (∃ g : Later w, w' = g.val) → Q .normal a' w') = (fun a' => ∀ g : Later w, Q .normal a' g.val) := by
      funext a'
      exact propext ⟨fun h g => h _ ⟨g, rfl⟩, fun h _ ⟨g, hg⟩ => hg ▸ h g⟩
    rw [e]
    simpa using h)

/-- a contract, met in such a region -/
theorem Later.call {P : Program} {f : FuncId} {args : Array Value} {w : World} {g : Later w} {v : Value}
    (h : Calls P f args g.val fun e w' => e = .returned v ∧ Kept g.val w') : Calls P f args g.val fun e w'' => e = .returned v ∧ ∃ g' : Later w, w'' = g'.val :=
  h.mono fun _ w'' ⟨he, hk⟩ => ⟨he, ⟨w'', Kept.drop g.ok hk⟩, rfl⟩
end Bal

/-
  Structs as cells of memory. No program in sight.
-/
namespace Bal.Mast
open Go Go.RowKit Bal

def Wind.cells (x : Wind) : List Value := [.int .i64 x.xlo, .int .i64 x.xhi, .int .i64 x.ylo, .int .i64 x.yhi]
theorem Wind.row {B : Nat} {w : World} {a : Option Addr} {xs : List Wind} (h : Row Wind.cells 4 B w a xs) (i : Nat) (hi : i < xs.length) :
    ∃ b off, a = some ⟨b, off, none⟩ ∧ b < B ∧ w.cell? ⟨b, off + i * 4, none⟩ = some (.int .i64 xs[i].xlo) ∧ w.cell? ⟨b, off + i * 4 + 1, none⟩ = some (.int .i64 xs[i].xhi) ∧ w.cell? ⟨b, off + i * 4 + 2, none⟩ = some (.int .i64 xs[i].ylo) ∧ w.cell? ⟨b, off + i * 4 + 3, none⟩ = some (.int .i64 xs[i].yhi) := by
  obtain ⟨b, off, ha, hb, hc⟩ := h i xs[i] (by simp [hi])
  exact ⟨b, off, ha, hb, hc 0 _ rfl, hc 1 _ rfl, hc 2 _ rfl, hc 3 _ rfl⟩
theorem Wind.of_leaves {cs : List Value} (h : LeavesOk [.int .i64, .int .i64, .int .i64, .int .i64] cs) : ∃ x : Wind, cs = x.cells ∧ (Lit.int .i64 x.xlo).wf = true ∧ (Lit.int .i64 x.xhi).wf = true ∧ (Lit.int .i64 x.ylo).wf = true ∧ (Lit.int .i64 x.yhi).wf = true := by
  obtain ⟨hl, h⟩ := h
  match cs, hl with
  | [v0, v1, v2, v3], _ =>
    obtain ⟨_, e0, n0, rfl, w0⟩ := h 0 (.int .i64) rfl; simp at e0; subst e0
    obtain ⟨_, e1, n1, rfl, w1⟩ := h 1 (.int .i64) rfl; simp at e1; subst e1
    obtain ⟨_, e2, n2, rfl, w2⟩ := h 2 (.int .i64) rfl; simp at e2; subst e2
    obtain ⟨_, e3, n3, rfl, w3⟩ := h 3 (.int .i64) rfl; simp at e3; subst e3
    exact ⟨⟨n0, n1, n2, n3⟩, rfl, w0, w1, w2, w3⟩

def Axis.cells (x : Axis) : List Value := [.int .i64 x.x, .int .i64 x.y]
theorem Axis.row {B : Nat} {w : World} {a : Option Addr} {xs : List Axis} (h : Row Axis.cells 2 B w a xs) (i : Nat) (hi : i < xs.length) :
    ∃ b off, a = some ⟨b, off, none⟩ ∧ b < B ∧ w.cell? ⟨b, off + i * 2, none⟩ = some (.int .i64 xs[i].x) ∧ w.cell? ⟨b, off + i * 2 + 1, none⟩ = some (.int .i64 xs[i].y) := by
  obtain ⟨b, off, ha, hb, hc⟩ := h i xs[i] (by simp [hi])
  exact ⟨b, off, ha, hb, hc 0 _ rfl, hc 1 _ rfl⟩
theorem Axis.of_leaves {cs : List Value} (h : LeavesOk [.int .i64, .int .i64] cs) : ∃ x : Axis, cs = x.cells ∧ (Lit.int .i64 x.x).wf = true ∧ (Lit.int .i64 x.y).wf = true := by
  obtain ⟨hl, h⟩ := h
  match cs, hl with
  | [v0, v1], _ =>
    obtain ⟨_, e0, n0, rfl, w0⟩ := h 0 (.int .i64) rfl; simp at e0; subst e0
    obtain ⟨_, e1, n1, rfl, w1⟩ := h 1 (.int .i64) rfl; simp at e1; subst e1
    exact ⟨⟨n0, n1⟩, rfl, w0, w1⟩

def Span.cells (x : Span) : List Value := [.int .i64 x.lo, .int .i64 x.hi]
theorem Span.row {B : Nat} {w : World} {a : Option Addr} {xs : List Span} (h : Row Span.cells 2 B w a xs) (i : Nat) (hi : i < xs.length) :
    ∃ b off, a = some ⟨b, off, none⟩ ∧ b < B ∧ w.cell? ⟨b, off + i * 2, none⟩ = some (.int .i64 xs[i].lo) ∧ w.cell? ⟨b, off + i * 2 + 1, none⟩ = some (.int .i64 xs[i].hi) := by
  obtain ⟨b, off, ha, hb, hc⟩ := h i xs[i] (by simp [hi])
  exact ⟨b, off, ha, hb, hc 0 _ rfl, hc 1 _ rfl⟩
theorem Span.of_leaves {cs : List Value} (h : LeavesOk [.int .i64, .int .i64] cs) : ∃ x : Span, cs = x.cells ∧ (Lit.int .i64 x.lo).wf = true ∧ (Lit.int .i64 x.hi).wf = true := by
  obtain ⟨hl, h⟩ := h
  match cs, hl with
  | [v0, v1], _ =>
    obtain ⟨_, e0, n0, rfl, w0⟩ := h 0 (.int .i64) rfl; simp at e0; subst e0
    obtain ⟨_, e1, n1, rfl, w1⟩ := h 1 (.int .i64) rfl; simp at e1; subst e1
    exact ⟨⟨n0, n1⟩, rfl, w0, w1⟩

end Bal.Mast

/-
  Ports, berths and docks as cells of memory. No program in sight.
-/
namespace Bal.Mast
open Go Go.RowKit Bal
/-- a dock's own block: a berth, a port, a need, a wind, a number -/
def dockCells (a : Option Addr) (c : Nat) (e : Option Addr) (d : Nat) (p : Port) (k : Dock) : Array Value :=
  #[.int .u8 k.b.ship, .int .i64 k.b.axis, .int .i64 k.b.held, .bool k.b.wire, .bool k.b.opn, .slice a p.axes.length c, .int .i64 p.people, .int .i64 p.most, .slice e p.pulls.length d, .int .i64 p.cross, .int .i64 k.need, .int .i64 k.wind.xlo, .int .i64 k.wind.xhi, .int .i64 k.wind.ylo, .int .i64 k.wind.yhi, .int .i64 k.n]
end Bal.Mast

/-
  Regions that draw their order: first operations that only read or call (calls may make memory), then operations in one forced order (stores): one walk in the text's order. No program in sight.
-/
namespace Bal
open Go Go.RowKit

theorem Blk.new' {w : World} {n : Nat} {arr : Array Value} {t : TypeId} (h : n = w.heap.size) : Blk (w.alloc (.cells arr t)) n arr t := h ▸ Blk.new
/-- the world of a walk, by what is known of it alone -/
theorem at_world {P : Program} {c : Code} {Q : Exit → Act → World → Prop} {a : Act} {S : World → Prop} {W : World} (h : S W) (k : ∀ W, S W → c.wp P Q a W) : c.wp P Q a W := k W h
theorem Blk.later {w : World} {b : Nat} {arr : Array Value} {t : TypeId} (h : Blk w b arr t) (g : Later w) : Blk g.val b arr t := h.keep g.ok
theorem Blk.cast {w : World} {b : Nat} {arr arr' : Array Value} {t : TypeId} (h : Blk w b arr t) (e : arr = arr') : Blk w b arr' t := e ▸ h
/-- a block of the call's own, behind a contract -/
theorem Blk.thru {w w' : World} {b : Nat} {arr : Array Value} {t : TypeId} {G : Prop} (h : Blk w b arr t) (hb : Kept w w') (k : Blk w' b arr t → G) : G := k (h.keep hb)

/-! ### Facts on worlds and blocks, each by one tactic that is laid here once -/
theorem kpt {w w' : World} (h : Kept w w' := by (repeat (first | with_reducible exact Below.refl _ _ | with_reducible assumption | with_reducible refine Kept.drop ?_ (by with_reducible assumption) | with_reducible refine Kept.alloc ?_ _ | ((with_reducible refine Below.setCell ?_ ?_ _); rotate_left 1; (focus (first | exact Nat.le_refl _ | (simp; done) | (simp; omega) | exact Below.size (by with_reducible assumption) | (refine Kept.size ?_; (repeat (first | with_reducible exact Below.refl _ _ | with_reducible assumption | with_reducible refine Kept.drop ?_ (by with_reducible assumption) | with_reducible refine Kept.alloc ?_ _ | with_reducible refine Below.drew ?_)))))) | with_reducible refine Below.drew ?_))) : Kept w w' := h
theorem blk {w : World} {b : Nat} {arr : Array Value} {t : TypeId} (h : Blk w b arr t := by (repeat (first | with_reducible assumption | ((with_reducible refine Blk.new' ?_); first | with_reducible rfl | (simp; done) | (simp [World.drew]; done)) | with_reducible refine Blk.alloc ?_ _ | ((with_reducible refine Blk.set (arr := ?_) ?_ _ _); rotate_left 1) | ((with_reducible refine Blk.other ?_ ?_ _); rotate_left 1; (focus (first | (simp; done) | (simp; omega) | (refine Nat.ne_of_gt (Blk.lt (arr := ?_) (t := ?_) ?_); rotate_left 2; focus (repeat (first | with_reducible assumption | ((with_reducible refine Blk.new' ?_); first | with_reducible rfl | (simp; done) | (simp [World.drew]; done)) | with_reducible refine Blk.alloc ?_ _ | with_reducible refine Blk.keep ?_ (by with_reducible assumption) | with_reducible refine Blk.drew ?_))) | (refine Nat.ne_of_lt (Blk.lt (arr := ?_) (t := ?_) ?_); rotate_left 2; focus (repeat (first | with_reducible assumption | ((with_reducible refine Blk.new' ?_); first | with_reducible rfl | (simp; done) | (simp [World.drew]; done)) | with_reducible refine Blk.alloc ?_ _ | with_reducible refine Blk.keep ?_ (by with_reducible assumption) | with_reducible refine Blk.drew ?_)))))) | with_reducible refine Blk.keep ?_ (by with_reducible assumption) | with_reducible refine Blk.drew ?_))) : Blk w b arr t := h
theorem blkc {w : World} {b : Nat} {arr : Array Value} {t : TypeId} (h : Blk w b arr t := by (refine Blk.cast (arr := ?_) ?_ ?_; rotate_left 1; (focus (repeat (first | with_reducible assumption | ((with_reducible refine Blk.new' ?_); first | with_reducible rfl | (simp; done) | (simp [World.drew]; done)) | with_reducible refine Blk.alloc ?_ _ | ((with_reducible refine Blk.set (arr := ?_) ?_ _ _); rotate_left 1) | ((with_reducible refine Blk.other ?_ ?_ _); rotate_left 1; (focus (first | (simp; done) | (simp; omega) | (refine Nat.ne_of_gt (Blk.lt (arr := ?_) (t := ?_) ?_); rotate_left 2; focus (repeat (first | with_reducible assumption | ((with_reducible refine Blk.new' ?_); first | with_reducible rfl | (simp; done) | (simp [World.drew]; done)) | with_reducible refine Blk.alloc ?_ _ | with_reducible refine Blk.keep ?_ (by with_reducible assumption) | with_reducible refine Blk.drew ?_))) | (refine Nat.ne_of_lt (Blk.lt (arr := ?_) (t := ?_) ?_); rotate_left 2; focus (repeat (first | with_reducible assumption | ((with_reducible refine Blk.new' ?_); first | with_reducible rfl | (simp; done) | (simp [World.drew]; done)) | with_reducible refine Blk.alloc ?_ _ | with_reducible refine Blk.keep ?_ (by with_reducible assumption) | with_reducible refine Blk.drew ?_)))))) | with_reducible refine Blk.keep ?_ (by with_reducible assumption) | with_reducible refine Blk.drew ?_))); (first | rfl | (simp; done)))) : Blk w b arr t := h

section
variable {P : Program} {ops : Array Oper} {md : Region.Mode} {C : World → Prop}

/-- whatever order is picked of the first n operations -/
def wpHeadQ (P : Program) (md : Region.Mode) (ops : Array Oper) (C : World → Prop) (n : Nat) (L : Array Bool → Act → Prop) : Nat → Array Bool → Act → Prop
  | 0, listed, a => L listed a
  | f + 1, listed, a =>
    Region.ready md ops listed ≠ [] ∧ ∀ i ∈ Region.ready md ops listed, i < n ∧ qOp P ops C i (wpHeadQ P md ops C n L f (listed.setIfInBounds i true)) a

theorem wpAny_of_headQ {n g : Nat} {L : Array Bool → Act → Prop} {Q' : Exit → Act → World → Prop} (hL : ∀ listed a w, C w → L listed a → wpAny P md ops Q' g listed a w) :
    ∀ (f : Nat) (listed : Array Bool) (a : Act) (w : World), C w → wpHeadQ P md ops C n L f listed a → wpAny P md ops Q' (f + g) listed a w
  | 0, listed, a, w, hw, h => by rw [Nat.zero_add]; exact hL _ _ _ hw h
  | f + 1, listed, a, w, hw, h => by
    rw [show f + 1 + g = (f + g) + 1 by omega]
    exact ⟨fun h0 => absurd h0 h.1, fun i hi => wpOp_of_qOp hw (fun a' w' hw' h' => wpAny_of_headQ hL f _ a' w' hw' h') (h.2 i hi).2⟩

theorem wpHeadQ_first {n i : Nat} {oi : Oper} {v : Value} {L : Array Bool → Act → Prop} (hi : ops[i]? = some oi) (hsel : ∀ (j : Nat) (o : Oper) cs b, ops[j]? = some o → o.op ≠ .select cs b)
    (hs : Region.sinkB md ops n = true) (hc : Region.chainB md ops n = true) (hn : n < ops.size) (hin : i < n)
    (hdone : ∀ listed a, L listed a → ∀ j ∈ Region.ready md ops listed, n ≤ j) :
    ∀ (f : Nat) (listed : Array Bool) (a : Act), HeadInv md ops n listed →
      (∀ j oj, ops[j]? = some oj → j ≠ i → listed.getD j true = false → (∀ e ∈ oj.after, Region.binds md e = true → e.on ≠ i) → oi.apart ops oj = true) →
      i ∈ Region.ready md ops listed → YieldsIn P ops C oi v a →
      wpHeadQ P md ops C n L f (listed.setIfInBounds i true) (a.put oi.dst v) → wpHeadQ P md ops C n L (f + 1) listed a := by
  intro f
  induction f with
  | zero =>
    intro listed a inv _ hr hy H
    have hun := (mem_ready.1 hr).1
    refine ⟨fun h => (by rw [h] at hr; cases hr), fun j hj => ?_⟩
    have hjn : j < n := by
      rcases Nat.lt_or_ge j n with h | h
      · exact h
      · exact absurd hj (tail_waits hs hc hn inv _ i rfl hin hun j h)
    refine ⟨hjn, ?_⟩
    by_cases hji : j = i
    · subst hji; exact hy.qOp hi H
    · have := hdone _ _ H j (ready_mono hj hji)
      omega
  | succ f ih =>
    intro listed a inv hfree hr hy H
    have hun := (mem_ready.1 hr).1
    refine ⟨fun h => (by rw [h] at hr; cases hr), fun j hj => ?_⟩
    have hjn : j < n := by
      rcases Nat.lt_or_ge j n with h | h
      · exact h
      · exact absurd hj (tail_waits hs hc hn inv _ i rfl hin hun j h)
    refine ⟨hjn, ?_⟩
    by_cases hji : j = i
    · subst hji; exact hy.qOp hi H
    · have h1 := (H.2 j (ready_mono hj hji)).2
      obtain ⟨hjun, oj, hoj, hall⟩ := mem_ready.1 hj
      have hnot : ∀ e ∈ oj.after, Region.binds md e = true → e.on ≠ i := fun e he hb heq => by
        have h1 := hall e he hb
        rw [heq, getD_both hun] at h1
        cases h1
      have h2 := qOp_put hoj (hfree j oj hoj hji hjun hnot) (fun cs b => hsel i oi cs b hi) (fun cs b => hsel j oj cs b hoj) hy h1
      have hfree' : ∀ k ok, ops[k]? = some ok → k ≠ i → (listed.setIfInBounds j true).getD k true = false →
          (∀ e ∈ ok.after, Region.binds md e = true → e.on ≠ i) → oi.apart ops ok = true := fun k ok hk hki hun hno => by
        refine hfree k ok hk hki ?_ hno
        by_cases hjk : j = k
        · subst hjk; exact hjun
        · rw [getD_set_ne true hjk] at hun; exact hun
      refine qOp_mono (fun a' h3 => ih (listed.setIfInBounds j true) a' (inv.set hj hjn) hfree' (ready_mono hr (Ne.symm hji)) h3.1 ?_) h2
      rw [Array.setIfInBounds_comm _ _ hji]
      exact h3.2

theorem wpHeadQ_lex {n g : Nat} {Lq : Act → Prop} (hsel : Region.noSelect ops = true) (hs : Region.sinkB md ops n = true) (hc : Region.chainB md ops n = true) (hn : n < ops.size) :
    ∀ (l : List Oper) (k : Nat) (listed : Array Bool) (a : Act), (∀ j, j < l.length → l[j]? = ops[k + j]?) → k + l.length = n → HeadInv md ops n listed →
    Region.lexHead md ops g l.length k listed = true → wpQuiet P ops C Lq l a →
    wpHeadQ P md ops C n (fun listed' a' => Region.seqB md ops g n listed' = true ∧ Lq a') l.length listed a
  | [], k, listed, a, _, hk, _, hB, h => by
    have : k = n := by simpa using hk
    subst this
    exact ⟨by simpa [Region.lexHead] using hB, h⟩
  | o :: l, k, listed, a, hl, hk, inv, hB, h => by
    have h0 : ops[k]? = some o := by simpa using (hl 0 (by simp)).symm
    simp only [List.length_cons, Region.lexHead, Bool.and_eq_true] at hB
    obtain ⟨⟨hr, hf⟩, hB'⟩ := hB
    have hkn : k < n := by simp only [List.length_cons] at hk; omega
    have hr' : k ∈ Region.ready md ops listed := by simpa using hr
    have hst : qOp P ops C k (wpQuiet P ops C Lq l) a := by unfold qOp; simp only [h0]; exact h
    obtain ⟨v, hy, hK⟩ := yieldsIn_of_qOp h0 hst
    exact wpHeadQ_first h0 (Region.noSelect_spec hsel) hs hc hn hkn (fun listed' a' hL => seqB_ready hL.1) l.length listed a inv (Region.free_spec h0 hf) hr' hy
      (wpHeadQ_lex hsel hs hc hn l (k + 1) _ _ (fun j hj => by have := hl (j + 1) (by simp; omega); simpa [Nat.add_assoc, Nat.add_comm 1 j] using this) (by simp only [List.length_cons] at hk; omega) (inv.set hr' hkn) hB' hK)

/-- THE THEOREM: the first n operations quiet in the class, the rest in one forced order, from every world of the class. -/
theorem Later.tail {P : Program} {id : Nat} {Q : Exit → Act → World → Prop} {a : Act} {w : World} {l : List Oper} (n : Nat) (hm : P.follows .mixedOrders = true) (hB : Region.lexTailB .any l.toArray n = true)
    (h : wpQuiet P l.toArray (fun w' => ∃ g : Later w, w' = g.val) (fun a' => ∀ g : Later w, wpList P l.toArray Q (l.drop n) a' g.val) (l.take n) a) : (Code.region id l.toArray true).wp P Q a w := by
  simp only [Region.lexTailB, Bool.and_eq_true, decide_eq_true_eq] at hB
  obtain ⟨⟨⟨⟨hsel, hn⟩, hs⟩, hc⟩, hlex⟩ := hB
  have hn' : n < l.length := by simpa using hn
  have htl : (l.take n).length = n := by simp; omega
  have hdl : (l.drop n).length = l.toArray.size - n := by simp
  have inv0 : HeadInv .any l.toArray n (Array.replicate l.toArray.size false) :=
    ⟨by simp, fun j oj _ hl => (by rw [getD_replicate_false] at hl; cases hl), fun t _ ht => getD_in (by simpa using ht) (getD_replicate_false _ _)⟩
  have H := wpHeadQ_lex (md := .any) (g := l.toArray.size - n) hsel hs hc hn (l.take n) 0 _ a (fun j hj => by
    have hj' : j < n := by rw [htl] at hj; exact hj
    simp [hj']) (by simpa using htl) inv0 (by rw [htl]; exact hlex) h
  refine wp_region_any hm ?_
  have := wpAny_of_headQ (C := fun w' => ∃ g : Later w, w' = g.val) (Q' := Q) (g := l.toArray.size - n) (fun listed a' w' hw' hL => by
    obtain ⟨g, rfl⟩ := hw'
    have := wpAny_of_seq (md := .any) (Q' := Q) (l.drop n) n listed a' g.val (fun j => by simp [List.getElem?_drop]) (by rw [hdl]; exact hL.1) (hL.2 g)
    rwa [hdl] at this) _ _ _ { w with drawn := w.drawn + 1 } ⟨⟨w.drew, (Below.refl _ _).drew⟩, rfl⟩ H
  rw [htl, show n + (l.toArray.size - n) = l.toArray.size by omega] at this
  exact this
end
end Bal

/-
  Ranges, axes, winds and roots, in the program and in the reference.
-/
namespace Go.Proofs.YtacbkbilbmkjnaaGreat
open Go.RowKit Bal Bal.Trim Bal.Mast
set_option linter.unusedVariables false
set_option linter.unusedSimpArgs false
set_option maxHeartbeats 800000
set_option maxRecDepth 10000

theorem f_ranged1 (lo hi n : Int) (w : World) (bl bh : Nat) (hl : w.cell? ⟨bl, 0, none⟩ = some (.int .i64 lo)) (hh : w.cell? ⟨bh, 0, none⟩ = some (.int .i64 hi)) :
    Calls Tryz.prog 78 #[.int .i64 n, .pointer (some ⟨bl, 0, none⟩), .pointer (some ⟨bh, 0, none⟩)] w fun e w' => e = .returned (.bool (!inB n lo hi)) ∧ w = w' := by
  have he : (!inB n lo hi) = (decide (n < lo) || decide (hi < n)) := by
    rw [Bool.eq_iff_iff]; first | (simp [inB]; done) | (simp [inB]; omega)
  rw [he]
  by_cases h1 : n < lo <;> by_cases h2 : hi < n
  all_goals
    go_enter Tryz.func78, Tryz.ntmps78
    go_wp2
    go_ret
    exact ⟨ret_bool (by simp [*]), rfl⟩

theorem s_IndexR (lo hi : Int) (bl bh : Nat) (a : Option Addr) (cap : Nat) (xs : List Int) (w : World) (hl : w.cell? ⟨bl, 0, none⟩ = some (.int .i64 lo)) (hh : w.cell? ⟨bh, 0, none⟩ = some (.int .i64 hi)) {B : Nat} (hx : Row icell 1 B w a xs) (h1 : xs.length ≤ 1000000) :
    Calls Tryz.prog 113 #[.slice a xs.length cap, .func (.func 78) #[] #[.pointer (some ⟨bl, 0, none⟩), .pointer (some ⟨bh, 0, none⟩)]] w fun e w' => (∃ r : Int, e = .returned (.int .i64 r) ∧ decide (r < 0) = rng xs lo hi ∧ -1 ≤ r) ∧ w = w' := by
  obtain ⟨R, hR⟩ : ∃ R, R = rng xs lo hi := ⟨_, rfl⟩
  have HR := Lib.hid hR
  rw [← hR]
  clear hR
  go_enter Tryz.func113, Tryz.ntmps113
  go_wp2
  go_loop [8] (fun i => ∃ k : Nat, k ≤ xs.length ∧ i = .int .i64 k ∧ (xs.take k).all (fun n => inB n lo hi) = true) (fun i => xs.length - (intOf i).toNat)
  case atStart => exact ⟨0, Nat.zero_le _, rfl, by simp⟩
  case round =>
    obtain ⟨k, hk, rfl, ha'⟩ := hrel
    have ha := Lib.hid ha'
    clear ha'
    by_cases hlt : k < xs.length
    · obtain ⟨b, off, rfl, _, ck⟩ := int_row hx k hlt
      have hbad : inB xs[k] lo hi = false → R = false := fun hv => by
        rw [HR.out]
        unfold rng
        rw [Bool.eq_false_iff]
        intro h
        rw [List.all_eq_true.1 h _ (List.getElem_mem hlt)] at hv
        cases hv
      have HB := Lib.hid hbad
      clear hbad
      have HT := Lib.hid (fun h => take_all (valid := fun n => inB n lo hi) hlt ha.out h)
      have hcall := f_ranged1 lo hi xs[k] w bl bh hl hh
      obtain ⟨x, hx0⟩ : ∃ x, x = xs[k] := ⟨_, rfl⟩
      rw [← hx0] at HB HT ck hcall
      clear hx0
      cases hq : inB x lo hi with
      | false =>
        rw [hq] at hcall
        have HF := Lib.hid (HB.out hq)
        clear hq HB
        go_wp2_with (go_at_call 78; refine hcall.mono ?_; rintro e w1 ⟨rfl, rfl⟩)
        go_ret
        refine ⟨⟨k, rfl, ?_, by omega⟩, rfl⟩
        rw [HF.out, decide_eq_false_iff_not]; omega
      | true =>
        rw [hq] at hcall
        have HF := Lib.hid (HT.out hq)
        clear hq HT
        go_wp2_with (go_at_call 78; refine hcall.mono ?_; rintro e w1 ⟨rfl, rfl⟩)
        go_round
        case rel => exact ⟨k + 1, by omega, by go_num, HF.out⟩
        case measure => simp [intOf]; omega
    · obtain rfl : k = xs.length := by omega
      have HF := Lib.hid (show R = true by rw [HR.out]; unfold rng; rw [← ha.out, List.take_length])
      go_wp2
      go_ret
      refine ⟨⟨-1, rfl, ?_, by omega⟩, rfl⟩
      rw [HF.out]; rfl

theorem s_ContainsR (lo hi : Int) (bl bh : Nat) (a : Option Addr) (cap : Nat) (xs : List Int) (w : World) (hl : w.cell? ⟨bl, 0, none⟩ = some (.int .i64 lo)) (hh : w.cell? ⟨bh, 0, none⟩ = some (.int .i64 hi)) {B : Nat} (hx : Row icell 1 B w a xs) (h1 : xs.length ≤ 1000000) :
    Calls Tryz.prog 77 #[.slice a xs.length cap, .func (.func 78) #[] #[.pointer (some ⟨bl, 0, none⟩), .pointer (some ⟨bh, 0, none⟩)]] w fun e w' => e = .returned (.bool (!rng xs lo hi)) ∧ w = w' := by
  obtain ⟨R, hR⟩ : ∃ R, R = rng xs lo hi := ⟨_, rfl⟩
  have hcall := s_IndexR lo hi bl bh a cap xs w hl hh hx h1
  rw [← hR] at hcall ⊢
  clear hR
  go_enter Tryz.func77, Tryz.ntmps77
  go_wp2_with (go_at_call 113; refine hcall.mono ?_; rintro e w1 ⟨⟨r, rfl, hr1, hr2⟩, rfl⟩)
  go_ret
  refine ⟨ret_bool ?_, rfl⟩
  rw [← hr1, ← decide_not]
  exact decide_eq_decide.2 (by omega)

theorem f_ranged (lo hi : Int) (a : Option Addr) (n cap : Nat) (xs : List Int) (w : World) (hn : xs.length = n) (hx : Row icell 1 w.heap.size w a xs) (h1 : n ≤ 1000000) :
    Calls Tryz.prog 44 #[.int .i64 lo, .int .i64 hi, .slice a n cap] w fun e w' => e = .returned (.bool (rng xs lo hi)) ∧ Kept w w' := by
  subst hn
  obtain ⟨R, hR⟩ : ∃ R, R = rng xs lo hi := ⟨_, rfl⟩
  have hcall := fun (W : World) (hl : W.cell? ⟨w.heap.size, 0, none⟩ = some (.int .i64 lo)) (hh : W.cell? ⟨w.heap.size + 1, 0, none⟩ = some (.int .i64 hi)) (hx : Row icell 1 W.heap.size W a xs) => s_ContainsR lo hi w.heap.size (w.heap.size + 1) a cap xs W hl hh hx h1
  rw [← hR] at hcall ⊢
  clear hR
  go_enter Tryz.func44, Tryz.ntmps44
  go_wp2_with (go_at_call 77; refine (hcall _ (by simp [*]) (by simp [*]) (hx.later (by (exact kpt)) (Nat.le_refl _))).mono ?_; rintro e w1 ⟨rfl, rfl⟩)
  go_ret
  exact ⟨ret_bool (by simp), by (exact kpt)⟩

theorem f_ranged_1 (lo hi p : Int) (t : TypeId) (W : World) (m : Nat) (hm : m = W.heap.size) :
    Calls Tryz.prog 44 #[.int .i64 lo, .int .i64 hi, .slice (some ⟨m, 0, none⟩) 1 1] (W.alloc (.cells #[.int .i64 p] t))
      fun e w' => e = .returned (.bool (rng [p] lo hi)) ∧ Kept (W.alloc (.cells #[.int .i64 p] t)) w' := by
  subst hm
  exact f_ranged lo hi _ 1 1 [p] _ rfl ((Row.fresh (enc := icell) (fun _ => rfl) rfl).up (by simp)) (by decide)

theorem f_ranged_2 (lo hi p q : Int) (t : TypeId) (W : World) (m : Nat) (hm : m = W.heap.size) :
    Calls Tryz.prog 44 #[.int .i64 lo, .int .i64 hi, .slice (some ⟨m, 0, none⟩) 2 2] (W.alloc (.cells #[.int .i64 p, .int .i64 q] t))
      fun e w' => e = .returned (.bool (rng [p, q] lo hi)) ∧ Kept (W.alloc (.cells #[.int .i64 p, .int .i64 q] t)) w' := by
  subst hm
  exact f_ranged lo hi _ 2 2 [p, q] _ rfl ((Row.fresh (enc := icell) (fun _ => rfl) rfl).up (by simp)) (by decide)

theorem f_span (x y lo hi : Int) (w : World) :
    Calls Tryz.prog 69 #[.agg #[.int .i64 x, .int .i64 y], .int .i64 lo, .int .i64 hi] w fun e w' => e = .returned (.bool (spanIn x y lo hi)) ∧ Kept w w' := by
  go_enter Tryz.func69, Tryz.ntmps69
  go_wp2_with (go_at_call 44; (with_reducible refine (f_ranged_2 _ _ _ _  _ _ _ (by simp)).mono ?_); rintro e w1 ⟨rfl, hb1⟩; obtain ⟨hc1, hf1, hl1⟩ := bcell3 hb1)
  all_goals (go_ret; refine ⟨ret_bool ?_, by (exact kpt)⟩; simp [spanIn, *])
  all_goals omega

theorem f_CheckAxis (a : Axis) (w : World) :
    Calls Tryz.prog 38 #[.agg #[.int .i64 a.x, .int .i64 a.y]] w fun e w' => e = .returned (.int .i64 (checkAxis a)) ∧ Kept w w' := by
  have he : checkAxis a = if rng [a.x, a.y] (-1000) 1000 then (if a.x = 0 ∧ a.y = 0 then 70 else 0) else 70 := by
    unfold checkAxis; rw [axisB_rng]
    cases rng [a.x, a.y] (-1000) 1000
    · simp
    · by_cases h : a.x = 0 <;> by_cases h' : a.y = 0 <;> simp [h, h']
  rw [he]
  clear he
  obtain ⟨ax, ay⟩ := a
  simp only
  cases hr : rng [ax, ay] (-1000) 1000 <;> by_cases h : ax = 0 <;> by_cases h' : ay = 0 <;> (try subst h) <;> (try subst h')
  all_goals
    go_enter Tryz.func38, Tryz.ntmps38
    go_wp2_with (go_at_call 44; (with_reducible refine (f_ranged_2 _ _ _ _  _ _ _ (by simp)).mono ?_); rintro e w1 ⟨rfl, hb1⟩; obtain ⟨hc1, hf1, hl1⟩ := bcell3 hb1)
    all_goals (go_ret; exact ⟨ret_int (by simp [*]), by (exact kpt)⟩)

theorem f_CheckWind (a : Wind) (w : World) :
    Calls Tryz.prog 39 #[.agg #[.int .i64 a.xlo, .int .i64 a.xhi, .int .i64 a.ylo, .int .i64 a.yhi]] w fun e w' => e = .returned (.int .i64 (checkWind a)) ∧ Kept w w' := by
  go_enter Tryz.func39, Tryz.ntmps39
  go_wp2_with (go_at_call 69; (with_reducible refine (f_span _ _ _ _ _).mono ?_); rintro e w1 ⟨rfl, hb1⟩; obtain ⟨hc1, hf1, hl1⟩ := bcell3 hb1)
  all_goals (go_ret; refine ⟨ret_int ?_, by (exact kpt)⟩; simp_all [checkWind, windB_spans])

theorem r_within (n lo hi : Int) (w : World) :
    Calls Tryz.prog 65 #[.int .i64 n, .int .i64 lo, .int .i64 hi] w fun e w' => e = .returned (.bool (inB n lo hi)) ∧ w = w' := by
  go_enter Tryz.func65, Tryz.ntmps65
  go_wp2
  all_goals (go_ret; exact ⟨ret_bool (by first | (simp_all [inB]; done) | (simp_all [inB]; omega)), rfl⟩)

theorem r_spanned (x y lo hi : Int) (w : World) :
    Calls Tryz.prog 83 #[.agg #[.int .i64 x, .int .i64 y], .int .i64 lo, .int .i64 hi] w fun e w' => e = .returned (.bool (spanIn x y lo hi)) ∧ Kept w w' := by
  have he : spanIn x y lo hi = (decide (lo ≤ x) && decide (x ≤ y) && decide (y ≤ hi)) := by
    simp only [spanIn, rng, inB, List.all_cons, List.all_nil, Bool.and_true]
    rw [Bool.eq_iff_iff]
    simp
    omega
  rw [he]
  by_cases h1 : lo ≤ x <;> by_cases h2 : x ≤ y <;> by_cases h3 : y ≤ hi
  all_goals
    go_enter Tryz.func83, Tryz.ntmps83
    go_wp2
    all_goals (go_ret; exact ⟨ret_bool (by simp [*]), by (exact kpt)⟩)

theorem r_Axis (a : Axis) (w : World) :
    Calls Tryz.prog 56 #[.agg #[.int .i64 a.x, .int .i64 a.y]] w fun e w' => e = .returned (.bool (axisB a)) ∧ Kept w w' := by
  have he : axisB a = (inB a.x (-1000) 1000 && inB a.y (-1000) 1000 && !(decide (a.x = 0) && decide (a.y = 0))) := by
    rw [axisB_rng]; simp [rng]
  rw [he]
  clear he
  obtain ⟨ax, ay⟩ := a
  simp only
  cases h1 : inB ax (-1000) 1000 <;> cases h2 : inB ay (-1000) 1000 <;> by_cases h : ax = 0 <;> by_cases h' : ay = 0 <;> (try subst h) <;> (try subst h')
  all_goals
    go_enter Tryz.func56, Tryz.ntmps56
    go_wp2_with (go_at_call 65; (with_reducible refine (r_within _ _ _ _).mono ?_); rintro e w1 ⟨rfl, rfl⟩)
    all_goals (go_ret; exact ⟨ret_bool (by simp [*]), by (exact kpt)⟩)

theorem r_CheckAxis (a : Axis) (w : World) :
    Calls Tryz.prog 20 #[.agg #[.int .i64 a.x, .int .i64 a.y]] w fun e w' => e = .returned (.int .i64 (checkAxis a)) ∧ Kept w w' := by
  go_enter Tryz.func20, Tryz.ntmps20
  go_wp2_with (go_at_call 56; (with_reducible refine (r_Axis _ _).mono ?_); rintro e w1 ⟨rfl, hb1⟩; obtain ⟨hc1, hf1, hl1⟩ := bcell3 hb1)
  all_goals (go_ret; refine ⟨ret_int ?_, by (exact kpt)⟩; simp_all [checkAxis])

theorem r_Wind (a : Wind) (w : World) :
    Calls Tryz.prog 49 #[.agg #[.int .i64 a.xlo, .int .i64 a.xhi, .int .i64 a.ylo, .int .i64 a.yhi]] w fun e w' => e = .returned (.bool (windB a)) ∧ Kept w w' := by
  rw [windB_spans]
  go_enter Tryz.func49, Tryz.ntmps49
  go_wp2_with (go_at_call 83; (with_reducible refine (r_spanned _ _ _ _ _).mono ?_); rintro e w1 ⟨rfl, hb1⟩; obtain ⟨hc1, hf1, hl1⟩ := bcell3 hb1)
  all_goals (go_ret; refine ⟨ret_bool ?_, by (exact kpt)⟩; simp_all)

theorem r_CheckWind (a : Wind) (w : World) :
    Calls Tryz.prog 16 #[.agg #[.int .i64 a.xlo, .int .i64 a.xhi, .int .i64 a.ylo, .int .i64 a.yhi]] w fun e w' => e = .returned (.int .i64 (checkWind a)) ∧ Kept w w' := by
  go_enter Tryz.func16, Tryz.ntmps16
  go_wp2_with (go_at_call 49; (with_reducible refine (r_Wind _ _).mono ?_); rintro e w1 ⟨rfl, hb1⟩; obtain ⟨hc1, hf1, hl1⟩ := bcell3 hb1)
  all_goals (go_ret; refine ⟨ret_int ?_, by (exact kpt)⟩; simp_all [checkWind])

theorem f_root (x n : Int) (w : World) (hn : 1 ≤ n) (hn2 : n ≤ 2000000) (hx0 : 0 ≤ x) (hx : x ≤ 8000000 * n) :
    Calls Tryz.prog 55 #[.int .i64 x, .int .i64 n] w fun e w' => e = .returned (.int .i64 (rt x n)) ∧ w = w' := by
  have HT := Lib.hid (root_top hn hx)
  have HR := Lib.hid (fun lo h0 h1 h2 => rt_half (lo := lo) hn hx h0 h1 h2)
  go_enter Tryz.func55, Tryz.ntmps55
  go_wp2
  go_loop [5, 6] (fun l h => ∃ lo hi : Int, 0 ≤ lo ∧ lo < hi ∧ hi ≤ 4001 ∧ l = .int .i64 lo ∧ h = .int .i64 hi ∧ lo * lo * n ≤ x ∧ x < hi * hi * n) (fun l h => (intOf h - intOf l).toNat)
  case atStart => exact ⟨0, 4001, by omega, by omega, by omega, rfl, rfl, by simpa using hx0, by have := HT.out; omega⟩
  case round =>
    obtain ⟨lo, hi, h0, h1, h2, rfl, rfl, h3, h4⟩ := hrel
    have H3 := Lib.hid h3
    have H4 := Lib.hid h4
    clear h3 h4
    by_cases hlt : 1 < hi - lo
    · obtain ⟨m, hm⟩ : ∃ m, m = (lo + hi) / 2 := ⟨_, rfl⟩
      have hm1 : lo < m ∧ m < hi := by omega
      have HD : (lo + hi).tdiv 2 = m := by rw [Int.tdiv_eq_ediv_of_nonneg (by omega), hm]
      have HE : (lo + hi) / 2 = m := hm.symm
      clear hm
      have p1 : 0 ≤ m * m ∧ m * m ≤ 16008001 := by
        have := mul_bd (A := 4001) (B := 4001) (x := m) (y := m) (by omega) (by omega) (by omega) (by omega)
        exact ⟨Int.mul_nonneg (by omega) (by omega), by omega⟩
      have p2 : 0 ≤ m * m * n ∧ m * m * n ≤ 33000000000000 := by
        have := mul_bd (A := 16008001) (B := 2000000) (x := m * m) (y := n) (by omega) (by omega) (by omega) (by omega)
        exact ⟨Int.mul_nonneg (by omega) (by omega), by omega⟩
      by_cases hc : m * m * n ≤ x
      · have HC := Lib.hid hc
        go_wp2
        go_round
        case rel => exact ⟨m, hi, by omega, by omega, h2, rfl, rfl, HC.out, H4.out⟩
        case measure => simp [intOf]; omega
      · have HC := Lib.hid (show x < m * m * n by omega)
        go_wp2
        go_round
        case rel => exact ⟨lo, m, h0, by omega, by omega, rfl, rfl, H3.out, HC.out⟩
        case measure => simp [intOf]; omega
    · obtain rfl : hi = lo + 1 := by omega
      have HF := Lib.hid (HR.out lo h0 H3.out H4.out)
      go_wp2
      go_ret
      exact ⟨ret_int HF.out.symm, rfl⟩

end Go.Proofs.YtacbkbilbmkjnaaGreat

/-
  Decision tables: the values that are tried, the program's search and the reference's. No program in sight.
-/
namespace Bal.Mast
open Bal.Trim
set_option linter.unusedVariables false
/-! ### A sorted list, each number once -/
def once (l : List Int) : List Int := Go.Lib.compact (l.mergeSort fun x y => decide (x ≤ y))
theorem compact_sub {l : List Int} (h : l.Pairwise (· ≤ ·)) : (Go.Lib.compact l).Pairwise (· ≤ ·) := by
  unfold Go.Lib.compact Go.Lib.compactUpTo
  rw [List.pairwise_map]
  refine List.Pairwise.imp_of_mem (fun {i j} hi hj hij => ?_) ((List.pairwise_lt_range (n := l.length)).filter _)
  have h1 := List.mem_range.1 (List.mem_filter.1 hi).1
  have h2 := List.mem_range.1 (List.mem_filter.1 hj).1
  have := List.pairwise_iff_getElem.1 h i j h1 h2 hij
  simpa [h1, h2] using this
theorem mem_compact {l : List Int} {x : Int} : x ∈ Go.Lib.compact l ↔ x ∈ l := by
  unfold Go.Lib.compact Go.Lib.compactUpTo
  simp only [List.mem_map, List.mem_filter, List.mem_range]
  constructor
  · rintro ⟨i, ⟨h1, _⟩, rfl⟩
    simp [h1]
  · intro hx
    obtain ⟨j, hj, e⟩ := List.mem_iff_getElem.1 hx
    clear hx
    induction j with
    | zero => exact ⟨0, ⟨hj, by simp [Go.Lib.keeps]⟩, by simp [hj, e]⟩
    | succ j ih =>
      by_cases h2 : l[j] = x
      · exact ih (by omega) h2
      · refine ⟨j + 1, ⟨hj, ?_⟩, by simp [hj, e]⟩
        have h3 : j < l.length := by omega
        simp [Go.Lib.keeps, hj, h3, e]
        exact fun h => h2 h.symm
theorem sort_le (l : List Int) : (l.mergeSort fun x y => decide (x ≤ y)).Pairwise (· ≤ ·) := by
  have := List.pairwise_mergeSort (le := fun x y : Int => decide (x ≤ y)) (fun a b c h1 h2 => by simp at *; omega) (fun a b => by simp; omega) l
  exact this.imp (fun h => by simpa using h)
theorem once_le (l : List Int) : (once l).Pairwise (· ≤ ·) := compact_sub (sort_le l)
theorem mem_once {l : List Int} {x : Int} : x ∈ once l ↔ x ∈ l := by unfold once; rw [mem_compact, List.mem_mergeSort]
/-! ### The program's search -/
def rowVals (d : Tb) (k : Nat) (i : Nat) : List Int :=
  match d.vars[k]?, (d.rows[i]?).bind (fun r => r.conds[k]?) with
  | some v, some c => [c.lo, c.hi + 1].filter fun n => inB n v.lo v.hi
  | _, _ => []
def valsP (d : Tb) (pre : List Int) : List Int := (match d.vars[pre.length]? with | some v => [v.lo] | none => []) ++ (matchL d pre).flatMap (rowVals d pre.length)
def firstP (d : Tb) (W : List Nat → Bool) : Nat → List Int → Option (List Int)
  | 0, pre => if W (matchL d pre) then some pre else none
  | m + 1, pre => (once (valsP d pre)).findSome? fun n => firstP d W m (pre ++ [n])
theorem mem_valsP {d : Tb} {pre : List Int} {n : Int} (hv : ∀ v ∈ d.vars, v.lo ≤ v.hi) : n ∈ valsP d pre ↔ Turns d pre n := by
  unfold valsP Turns
  by_cases hk : pre.length < d.vars.length
  · rw [List.getElem?_eq_getElem hk]
    simp only [List.mem_append, List.mem_singleton, List.mem_flatMap]
    have hle := hv _ (List.getElem_mem hk)
    constructor
    · rintro (rfl | ⟨i, hi, hn⟩)
      · exact ⟨hk, inB_iff.2 ⟨Int.le_refl _, hle⟩, .inl rfl⟩
      · unfold rowVals at hn
        rw [List.getElem?_eq_getElem hk] at hn
        cases hr : d.rows[i]? with
        | none => simp [hr] at hn
        | some r =>
          rw [hr] at hn
          simp only [Option.bind_some] at hn
          cases hc : r.conds[pre.length]? with
          | none => simp [hc] at hn
          | some c =>
            rw [hc] at hn
            simp only [List.mem_filter] at hn
            refine ⟨hk, hn.2, .inr ⟨i, hi, r, hr, c, hc, ?_⟩⟩
            simpa using hn.1
    · rintro ⟨_, h1, rfl | ⟨i, hi, r, hr, c, hc, hn⟩⟩
      · exact .inl rfl
      · refine .inr ⟨i, hi, ?_⟩
        unfold rowVals
        rw [List.getElem?_eq_getElem hk, hr]
        simp only [Option.bind_some, hc, List.mem_filter]
        exact ⟨by simpa using hn, h1⟩
  · rw [List.getElem?_eq_none (by omega)]
    simp only [List.nil_append, List.mem_flatMap]
    constructor
    · rintro ⟨i, _, hn⟩
      unfold rowVals at hn
      rw [List.getElem?_eq_none (by omega)] at hn
      simp at hn
    · rintro ⟨h, _⟩
      exact absurd h hk
theorem hits_snoc {cs : List Span} {pre : List Int} {n : Int} (h : pre.length < cs.length) : hits cs (pre ++ [n]) = (hits cs pre && inB n cs[pre.length].lo cs[pre.length].hi) := by
  rw [hits_mid h]
  cases hc : cs.drop (pre.length + 1) <;> simp [hits]
theorem firstP_ext {d : Tb} (hE : Even d) (hv : ∀ v ∈ d.vars, v.lo ≤ v.hi) (W : List Nat → Bool) : ∀ (m : Nat) (pre : List Int), pre.length + m = d.vars.length → hits d.vars pre = true → FirstExt d W pre (firstP d W m pre)
  | 0, pre, h1, h2 => FirstExt.whole ⟨by omega, h2⟩
  | m + 1, pre, h1, h2 => by
    have hk : pre.length < d.vars.length := by omega
    refine FirstExt.step hE hk (once_le _) (fun n hn => mem_once.2 ((mem_valsP hv).2 hn)) (fun n hn => ?_)
    obtain ⟨_, hb, _⟩ := (mem_valsP hv).1 (mem_once.1 hn)
    exact firstP_ext hE hv W m (pre ++ [n]) (by simp; omega) (by rw [hits_snoc hk, h2, hb]; rfl)
/-! ### The reference's -/
def isStart (d : Tb) (k : Nat) (n : Int) : Bool := match d.vars[k]? with | some v => decide (n = v.lo) || d.rows.any (fun r => match r.conds[k]? with | some c => decide (c.lo = n) || decide (c.hi + 1 = n) | none => false) | none => false
def startsTo (d : Tb) (k : Nat) (m : Nat) : List Int := match d.vars[k]? with | some v => ((List.range m).map fun i : Nat => v.lo + (i : Int)).filter (isStart d k) | none => []
def starts (d : Tb) (k : Nat) : List Int := match d.vars[k]? with | some v => startsTo d k (v.hi - v.lo + 1).toNat | none => []
theorem mem_starts {d : Tb} {k : Nat} {n : Int} (h : k < d.vars.length) : n ∈ starts d k ↔ inB n d.vars[k].lo d.vars[k].hi = true ∧ isStart d k n = true := by
  unfold starts startsTo
  rw [List.getElem?_eq_getElem h]
  simp only [List.mem_filter, List.mem_map, List.mem_range, inB_iff]
  constructor
  · rintro ⟨⟨i, hi, rfl⟩, h2⟩
    exact ⟨by omega, h2⟩
  · rintro ⟨h1, h2⟩
    exact ⟨⟨(n - d.vars[k].lo).toNat, by omega, by omega⟩, h2⟩
theorem starts_le (d : Tb) (k : Nat) : (starts d k).Pairwise (· ≤ ·) := by
  unfold starts startsTo
  split
  · apply List.Pairwise.filter
    rw [List.pairwise_map]
    exact List.pairwise_lt_range.imp (fun h => by omega)
  · exact List.Pairwise.nil
theorem turns_start {d : Tb} {pre : List Int} {n : Int} (h : Turns d pre n) : n ∈ starts d pre.length := by
  obtain ⟨hk, hb, hn⟩ := h
  refine (mem_starts hk).2 ⟨hb, ?_⟩
  unfold isStart
  rw [List.getElem?_eq_getElem hk]
  simp only [Bool.or_eq_true, decide_eq_true_eq, List.any_eq_true]
  rcases hn with h | ⟨i, _, r, hr, c, hc, h⟩
  · exact .inl h
  · refine .inr ⟨r, List.mem_of_getElem? hr, ?_⟩
    rw [hc]
    simp only [Bool.or_eq_true, decide_eq_true_eq]
    rcases h with h | h
    · exact .inl h.symm
    · exact .inr h.symm
def firstL (d : Tb) (W : List Nat → Bool) : List (List Int) → List Int → Option (List Int)
  | [], pre => if W (matchL d pre) then some pre else none
  | l :: ls, pre => l.findSome? fun x => firstL d W ls (pre ++ [x])
theorem firstL_ext {d : Tb} (hE : Even d) (W : List Nat → Bool) : ∀ (m k : Nat) (pre : List Int), pre.length = k → k + m = d.vars.length → hits d.vars pre = true → FirstExt d W pre (firstL d W ((List.range' k m).map (starts d)) pre)
  | 0, k, pre, h0, h1, h2 => FirstExt.whole ⟨by omega, h2⟩
  | m + 1, k, pre, h0, h1, h2 => by
    subst h0
    have hk : pre.length < d.vars.length := by omega
    rw [List.range'_succ, List.map_cons]
    refine FirstExt.step hE hk (starts_le _ _) (fun n hn => turns_start hn) (fun n hn => ?_)
    exact firstL_ext hE W m (pre.length + 1) (pre ++ [n]) (by simp) (by omega) (by rw [hits_snoc hk, h2, ((mem_starts hk).1 hn).1]; rfl)
end Bal.Mast

/-
  A slice that the call owns, beside blocks of another type. No program in sight.
-/
namespace Bal
open Go Go.RowKit
theorem Blk.grown {w w' : World} {b base k n : Nat} {arr : Array Value} {t e : TypeId} {v : Value} {xs : List Value} (h : Blk w b arr t) (ho : w.ownsRow base e k v n xs) (hne : t ≠ e) (hg : w.grownBy w' v.ownBlock) : Blk w' b arr t := by
  have hl := h.lt
  unfold Blk at *
  rw [hg.block b hl ?_]
  · exact h
  · intro he
    obtain ⟨_, ⟨rfl, _⟩ | ⟨g, cap, cur, rfl, _, hh, _⟩⟩ := ho
    · cases he
    · simp only [Value.ownBlock, Option.some.injEq] at he
      subst he
      rw [h] at hh
      simp only [Option.some.injEq, Obj.cells.injEq] at hh
      exact hne hh.2.1
theorem Kept.grown {w0 w w' : World} {base k n : Nat} {e : TypeId} {v : Value} {xs : List Value} (h : Kept w0 w) (ho : w.ownsRow base e k v n xs) (hb : w0.heap.size ≤ base) (hg : w.grownBy w' v.ownBlock) : Kept w0 w' := by
  refine Below.trans h ⟨hg.os, hg.tape, hg.output, hg.size, fun i hi => hg.block i (Nat.lt_of_lt_of_le hi h.size) fun he => ?_⟩
  obtain ⟨_, ⟨rfl, _⟩ | ⟨g, cap, cur, rfl, hbg, _, _⟩⟩ := ho
  · cases he
  · simp only [Value.ownBlock, Option.some.injEq] at he
    omega
end Bal

/-
  Rows of elements: parts of them, equal lists, what a call owns. No program in sight.
-/
namespace Bal
open Go Go.RowKit
/-- one element of a row as a row of its own -/
theorem Row.sub {α : Type} {enc : α → List Value} {k B : Nat} {w : World} {b off : Nat} {xs : List α} (h : Row enc k B w (some ⟨b, off, none⟩) xs) (i : Nat) (hi : i < xs.length) :
    Row enc k B w (some ⟨b, off + i * k, none⟩) [xs[i]] := by
  intro j x hx
  have hj : j = 0 := by
    have := (List.getElem?_eq_some_iff.1 hx).1
    simp at this; omega
  subst hj
  simp at hx
  subst hx
  obtain ⟨b', off', ha, hb, hc⟩ := h i xs[i] (by simp [hi])
  simp only [Option.some.injEq, Addr.mk.injEq, and_true] at ha
  obtain ⟨rfl, rfl⟩ := ha
  exact ⟨b, off + i * k, rfl, hb, fun j v hv => by rw [Nat.zero_mul, Nat.add_zero]; exact hc j v hv⟩
/-- the first elements of a row -/
theorem Row.take {α : Type} {enc : α → List Value} {k B : Nat} {w : World} {a : Option Addr} {xs : List α} (h : Row enc k B w a xs) (n : Nat) : Row enc k B w a (xs.take n) := by
  intro i x hx
  rw [List.getElem?_take] at hx
  split at hx
  · exact h i x hx
  · cases hx
theorem Row.one {α : Type} {enc : α → List Value} {k : Nat} {w : World} {b : Nat} {arr : Array Value} {t : TypeId} {x : α} (h : Blk w b arr t) (he : arr.toList = enc x) : Row enc k w.heap.size w (some ⟨b, 0, none⟩) [x] := by
  intro j y hy
  have hj : j = 0 := by
    have := (List.getElem?_eq_some_iff.1 hy).1
    simp at this; omega
  subst hj
  simp at hy
  subst hy
  exact ⟨b, 0, rfl, h.lt, fun j v hv => by simp only [Nat.zero_mul, Nat.zero_add]; rw [h.cell, ← Array.getElem?_toList, he]; exact hv⟩
/-- a block of several elements as a row -/
theorem Row.block {α : Type} {enc : α → List Value} {k : Nat} {w : World} {b : Nat} {arr : Array Value} {t : TypeId} {xs : List α} (he : ∀ x, (enc x).length = k) (h : Blk w b arr t) (ha : arr.toList = xs.flatMap enc) : Row enc k w.heap.size w (some ⟨b, 0, none⟩) xs := by
  intro i x hx
  refine ⟨b, 0, rfl, h.lt, fun j v hj => ?_⟩
  have hjk : j < k := by rw [← he x]; exact (List.getElem?_eq_some_iff.1 hj).1
  rw [h.cell, Nat.zero_add, ← Array.getElem?_toList, ha, flatMap_get he xs i x hx j hjk]
  exact hj
theorem cell_one_at {w : World} {n : Nat} (h : n = w.heap.size) (a : Value) (t : TypeId) : ∀ j u, [a][j]? = some u → (w.alloc (.cells #[a] t)).cell? ((⟨n, 0, none⟩ : Addr).add j) = some u := by
  subst h
  intro j u hj
  have hj0 : j = 0 := by
    have := (List.getElem?_eq_some_iff.1 hj).1
    simp at this; omega
  subst hj0
  simp at hj
  subst hj
  simp [Addr.add]
/-- a slice that a call owns, as a row at an address; nil if it is empty and unmade -/
theorem owns_row {α : Type} {enc : α → List Value} {k base : Nat} {e : TypeId} {w : World} {v : Value} {xs : List α} (he : ∀ x, (enc x).length = k) (h : w.ownsRow base e k v xs.length (xs.flatMap enc)) :
    ∃ a cap, v = .slice a xs.length cap ∧ Row enc k w.heap.size w a xs ∧ xs.length ≤ cap ∧ cap ≤ maxLen := Row.of_owns he h
end Bal

/-
  An empty slice that a call has made, and lists appended to it. No program in sight.
-/
namespace Bal
open Go Go.RowKit
set_option linter.unusedVariables false
theorem owns_made {α : Type} {enc : α → List Value} {base k n : Nat} {e : TypeId} {w : World} (hn : n = w.heap.size) (hb : base ≤ w.heap.size) : (w.alloc (.cells #[] e)).ownsRow base e k (.slice (some ⟨n, 0, none⟩) 0 0) ([] : List α).length (([] : List α).flatMap enc) := by
  subst hn
  refine ⟨by simp, .inr ⟨w.heap.size, 0, #[], rfl, hb, Blk.new, Nat.le_refl _, by simp [maxLen], by simp, by simp⟩⟩
end Bal

/-
  A list copied by append to an empty slice of the call's own: what was there ahead of it stays. No program in sight.
-/
namespace Bal
open Go Go.RowKit
set_option linter.unusedVariables false
theorem owns_none {w : World} {base k n m c : Nat} {e : TypeId} {a : Option Addr} {xs : List Value} (h : w.ownsRow base e k (.slice a n c) m xs) : a = none → c = 0 := by
  rintro rfl
  obtain ⟨_, ⟨hv, _⟩ | ⟨g, cap, cur, hv, _⟩⟩ := h
  · cases hv; rfl
  · cases hv
end Bal

/-
  A region that draws its order, walked once in an order that is told: first operations that need no world, then operations that only read or call (calls may make memory), then the rest in one forced order. No program in sight.
-/
namespace Bal
open Go Go.RowKit

section
variable {P : Program} {ops : Array Oper} {md : Region.Mode} {C : World → Prop}

def ordTail (md : Region.Mode) (ops : Array Oper) : List Nat → Array Bool → Bool
  | [], listed => (Region.ready md ops listed).isEmpty
  | k :: r, listed => decide (Region.ready md ops listed = [k]) && ordTail md ops r (listed.setIfInBounds k true)
def sinkOrd (md : Region.Mode) (ops : Array Oper) (t0 : Nat) : List Nat → Bool
  | [] => true
  | i :: r => ((r ++ [t0]).any fun j => Region.waitsFor md ops j i) && sinkOrd md ops t0 r
def chainOrd (md : Region.Mode) (ops : Array Oper) : Nat → List Nat → Bool
  | _, [] => true
  | a, b :: r => Region.waitsFor md ops b a && chainOrd md ops b r
structure OrdInv (md : Region.Mode) (ops : Array Oper) (hd tl : List Nat) (listed : Array Bool) : Prop where
  size : listed.size = ops.size
  closed : ∀ j oj, ops[j]? = some oj → listed.getD j false = true → ∀ e ∈ oj.after, Region.binds md e = true → listed.getD e.on false = true
  tail : ∀ t, t ∈ tl → listed.getD t true = false
  cover : ∀ j, listed.getD j true = false → j ∈ hd ∨ j ∈ tl

theorem OrdInv.set {hd tl : List Nat} {listed : Array Bool} {i : Nat} (inv : OrdInv md ops hd tl listed) (hi : i ∈ Region.ready md ops listed) (hn : i ∉ tl) : OrdInv md ops hd tl (listed.setIfInBounds i true) := by
  obtain ⟨_, oi, hoi, hall⟩ := mem_ready.1 hi
  refine ⟨by simp [inv.size], fun j oj hj hl e he hb => ?_, fun t ht => ?_, fun j hj => ?_⟩
  · by_cases hij : i = j
    · subst hij
      have : oj = oi := Option.some.inj (hj.symm.trans hoi)
      subst this
      exact getD_set_true (hall e he hb)
    · rw [getD_set_ne false hij] at hl
      exact getD_set_true (inv.closed j oj hj hl e he hb)
  · rw [getD_set_ne true (fun e => hn (by rw [e]; exact ht))]; exact inv.tail t ht
  · by_cases hij : i = j
    · subst hij
      exfalso
      rcases Nat.lt_or_ge i listed.size with h' | h'
      · simp [h'] at hj
      · simp [Array.getElem?_eq_none (by simpa using h' : (listed.setIfInBounds i true).size ≤ i)] at hj
    · rw [getD_set_ne true hij] at hj
      exact inv.cover j hj

theorem sink_waits {hd tl : List Nat} {t0 : Nat} {listed : Array Bool} (inv : OrdInv md ops hd (t0 :: tl) listed) :
    ∀ (s : List Nat), sinkOrd md ops t0 s = true → ∀ i ∈ s, listed.getD i true = false → t0 ∉ Region.ready md ops listed
  | [], _, _, hi, _ => by cases hi
  | x :: r, hs, i, hi, hun => by
    simp only [sinkOrd, Bool.and_eq_true] at hs
    obtain ⟨h1, h2⟩ := hs
    rcases List.mem_cons.1 hi with rfl | hi
    · obtain ⟨j, hj, hw⟩ := List.any_eq_true.1 h1
      obtain ⟨oj, hoj, e, he, hb, hon⟩ := Region.waitsFor_spec hw
      rcases List.mem_append.1 hj with hj | hj
      · cases hl : listed.getD j false with
        | true =>
          have h3 := inv.closed j oj hoj hl e he hb
          rw [hon, getD_both hun] at h3
          cases h3
        | false =>
          have hjs : j < listed.size := by rw [inv.size]; exact (Array.getElem?_eq_some_iff.1 hoj).1
          exact sink_waits inv r h2 j hj (getD_in hjs hl)
      · have : j = t0 := by simpa using hj
        subst this
        intro hr
        obtain ⟨_, o', ho', hall⟩ := mem_ready.1 hr
        have : oj = o' := Option.some.inj (hoj.symm.trans ho')
        subst this
        have h3 := hall e he hb
        rw [hon, getD_both hun] at h3
        cases h3
    · exact sink_waits inv r h2 i hi hun

theorem chain_mem : ∀ (tl : List Nat) (t0 : Nat), chainOrd md ops t0 tl = true → ∀ t ∈ tl, ∃ t' ∈ t0 :: tl, Region.waitsFor md ops t t' = true
  | [], _, _, t, ht => by cases ht
  | b :: r, t0, hc, t, ht => by
    simp only [chainOrd, Bool.and_eq_true] at hc
    rcases List.mem_cons.1 ht with rfl | ht
    · exact ⟨t0, by simp, hc.1⟩
    · obtain ⟨t', h1, h2⟩ := chain_mem r b hc.2 t ht
      exact ⟨t', List.mem_cons_of_mem _ h1, h2⟩

theorem wpAny_of_ordTail {Q' : Exit → Act → World → Prop} : ∀ (tl : List Nat) (l : List Oper) (listed : Array Bool) (a : Act) (w : World), tl.map (ops[·]?) = l.map some →
    ordTail md ops tl listed = true → wpList P ops Q' l a w → wpAny P md ops Q' l.length listed a w
  | [], [], _, _, _, _, hB, h => ⟨by simpa [ordTail] using hB, h⟩
  | [], _ :: _, _, _, _, hm, _, _ => by simp at hm
  | _ :: _, [], _, _, _, hm, _, _ => by simp at hm
  | k :: tl, o :: l, listed, a, w, hm, hB, h => by
    simp only [List.map_cons, List.cons.injEq] at hm
    obtain ⟨h0, hm'⟩ := hm
    simp only [ordTail, Bool.and_eq_true, decide_eq_true_eq] at hB
    refine ⟨fun h1 => (by rw [hB.1] at h1; cases h1), fun i hi => ?_⟩
    rw [hB.1] at hi
    have hik : i = k := by simpa using hi
    subst hik
    have hw : wpOp P ops Q' i (wpList P ops Q' l) a w := by unfold wpOp; simp only [h0]; exact h
    exact wpOp_mono (fun a' w' h' => wpAny_of_ordTail tl l _ a' w' hm' hB.2 h') hw

theorem filterMap_ok {l : List Oper} : ∀ (is : List Nat), (∀ i ∈ is, i < l.length) → is.map (l.toArray[·]?) = (is.filterMap (l[·]?)).map some ∧ (is.filterMap (l[·]?)).length = is.length
  | [], _ => ⟨rfl, rfl⟩
  | i :: is, h => by
    have hi := h i (by simp)
    obtain ⟨h1, h2⟩ := filterMap_ok is (fun j hj => h j (by simp [hj]))
    have e : l[i]? = some l[i] := by simp [hi]
    refine ⟨?_, ?_⟩
    · rw [List.map_cons, h1, List.filterMap_cons, e]
      simp [hi]
    · rw [List.filterMap_cons, e]
      simp [h2]

/-! ### The same, with operations that need no world among the others -/

/-- is one of hd yet to come? -/
def pendB (hd : List Nat) (listed : Array Bool) : Bool := hd.any fun i => !(listed.getD i true)

theorem pendB_false {hd : List Nat} {listed : Array Bool} (h : pendB hd listed = false) : ∀ i ∈ hd, listed.getD i true = true := fun i hi => by
  unfold pendB at h
  have := List.any_eq_false.1 h i hi
  simpa using this
theorem pendB_true {hd : List Nat} {listed : Array Bool} (h : pendB hd listed = true) : ∃ i ∈ hd, listed.getD i true = false := by
  unfold pendB at h
  obtain ⟨i, hi, h'⟩ := List.any_eq_true.1 h
  exact ⟨i, hi, by simpa using h'⟩

/-- whatever order is picked: while one of hd is yet to come only operations of hd and of wl may come up; then it is as the worlds of the class have it -/
def wpMix (P : Program) (md : Region.Mode) (ops : Array Oper) (C : World → Prop) (Q : Exit → Act → World → Prop) (hd wl : List Nat) : Nat → Array Bool → Act → Prop
  | 0, listed, a => ∀ w, C w → wpAny P md ops Q 0 listed a w
  | f + 1, listed, a =>
    (pendB hd listed = true → Region.ready md ops listed ≠ [] ∧ ∀ i ∈ Region.ready md ops listed, (i ∈ hd ∨ i ∈ wl) ∧ qOp P ops C i (wpMix P md ops C Q hd wl f (listed.setIfInBounds i true)) a) ∧
    (pendB hd listed = false → (∀ w, C w → wpAny P md ops Q (f + 1) listed a w) ∧ ∀ i ∈ Region.ready md ops listed, i ∈ wl → qOp P ops C i (wpMix P md ops C Q hd wl f (listed.setIfInBounds i true)) a)

theorem wpAny_of_mix {hd wl : List Nat} {Q : Exit → Act → World → Prop} : ∀ (f : Nat) (listed : Array Bool) (a : Act), wpMix P md ops C Q hd wl f listed a → ∀ w, C w → wpAny P md ops Q f listed a w
  | 0, _, _, h, w, hw => h w hw
  | f + 1, listed, a, h, w, hw => by
    cases hp : pendB hd listed with
    | true =>
      obtain ⟨h1, h2⟩ := h.1 hp
      exact ⟨fun h0 => absurd h0 h1, fun i hi => wpOp_of_qOp hw (fun a' w' hw' h' => wpAny_of_mix f _ a' h' w' hw') (h2 i hi).2⟩
    | false => exact (h.2 hp).1 w hw

/-- what is known of an operation that is taken: its value in the class; if it is one of wl, in whatever world -/
def Taken (P : Program) (ops : Array Oper) (C : World → Prop) (wl : List Nat) (i : Nat) (o : Oper) (v : Value) (a : Act) : Prop := YieldsIn P ops C o v a ∧ (i ∈ wl → Yields P ops o v a)

theorem Yields.inClass {o : Oper} {v : Value} {a : Act} (h : Yields P ops o v a) : YieldsIn P ops C o v a := by
  rcases h with ⟨h1, h2⟩ | h
  · exact .inl ⟨h1, fun w _ => by unfold Oper.quietAt; rw [h2 w]; exact ⟨rfl, rfl⟩⟩
  · exact .inr h

theorem qOp_put_taken {wl : List Nat} {i j : Nat} {oi oj : Oper} {v : Value} (hj : ops[j]? = some oj) (hap : oi.apart ops oj = true)
    (hsi : ∀ cs b, oi.op ≠ .select cs b) (hsj : ∀ cs b, oj.op ≠ .select cs b) {K : Act → Prop} {a : Act}
    (hy : Taken P ops C wl i oi v a) (h : qOp P ops C j K (a.put oi.dst v)) :
    qOp P ops C j (fun a' => Taken P ops C wl i oi v a' ∧ K (a'.put oi.dst v)) a := by
  obtain ⟨h1, h2, h3⟩ := Oper.apart_spec hap
  have keep : ∀ (a : Act), Taken P ops C wl i oi v a → ∀ u, Taken P ops C wl i oi v (a.put oj.dst u) := fun a hy u =>
    ⟨hy.1.of_same (execOp_put oi hsi a oj.dst u h3) (wanted_put oi a oj.dst u h3), fun hw => (hy.2 hw).of_same (execOp_put oi hsi a oj.dst u h3) (wanted_put oi a oj.dst u h3)⟩
  unfold qOp at *
  simp only [hj] at *
  rw [wanted_put oj a oi.dst v h1] at h
  split
  · rename_i hw
    simp only [hw, if_true] at h
    obtain ⟨u, hu, hn⟩ := h
    refine ⟨u, fun w hw' => ?_, keep a hy u, by rw [← Act.put_comm a v u h2]; exact hn⟩
    have := hu w hw'
    unfold Oper.quietAt at *
    rwa [execOp_put oj hsj a oi.dst v h1] at this
  · rename_i hw
    simp only [hw] at h
    exact ⟨keep a hy _, by rw [← Act.put_comm a v undef h2]; exact h⟩

/-- the invariant, hd and wl together -/
theorem wpMix_first {hd wl tl : List Nat} {t0 i : Nat} {oi : Oper} {v : Value} {Q : Exit → Act → World → Prop} (hne : ∃ w, C w) (hQ : ∀ c a w, ¬ Q (.panic c) a w) (hi : ops[i]? = some oi) (hsel : ∀ (j : Nat) (o : Oper) cs b, ops[j]? = some o → o.op ≠ .select cs b)
    (hs : sinkOrd md ops t0 hd = true) (hc : chainOrd md ops t0 tl = true) (hdis : ∀ j, j ∈ hd ∨ j ∈ wl → j ∉ t0 :: tl) (hin : i ∈ hd ∨ i ∈ wl) :
    ∀ (f : Nat) (listed : Array Bool) (a : Act), OrdInv md ops (hd ++ wl) (t0 :: tl) listed →
      (∀ j oj, ops[j]? = some oj → j ≠ i → listed.getD j true = false → (∀ e ∈ oj.after, Region.binds md e = true → e.on ≠ i) → oi.apart ops oj = true) →
      i ∈ Region.ready md ops listed → Taken P ops C wl i oi v a →
      wpMix P md ops C Q hd wl f (listed.setIfInBounds i true) (a.put oi.dst v) → wpMix P md ops C Q hd wl (f + 1) listed a := by
  have sinkR : ∀ listed, OrdInv md ops (hd ++ wl) (t0 :: tl) listed → pendB hd listed = true → ∀ j ∈ Region.ready md ops listed, j ∈ hd ∨ j ∈ wl := by
    intro listed inv hp j hj
    obtain ⟨x, hx, hxu⟩ := pendB_true hp
    rcases inv.cover j (mem_ready.1 hj).1 with h | h
    · exact List.mem_append.1 h
    · exfalso
      rcases List.mem_cons.1 h with rfl | h
      · exact sink_waits inv hd hs x hx hxu hj
      · obtain ⟨t', ht', hw⟩ := chain_mem tl t0 hc j h
        obtain ⟨oj, hoj, e, he, hb, hon⟩ := Region.waitsFor_spec hw
        obtain ⟨_, o', ho', hall⟩ := mem_ready.1 hj
        have : oj = o' := Option.some.inj (hoj.symm.trans ho')
        subst this
        have h3 := hall e he hb
        rw [hon, getD_both (inv.tail t' ht')] at h3
        cases h3
  have inW : ∀ listed, pendB hd listed = false → i ∈ Region.ready md ops listed → i ∈ wl := by
    intro listed hp hr
    rcases hin with h | h
    · have h1 := pendB_false hp i h
      rw [(mem_ready.1 hr).1] at h1
      cases h1
    · exact h
  intro f
  induction f with
  | zero =>
    intro listed a inv hfree hr hy H
    have none : ∀ j, j ∈ Region.ready md ops listed → j ≠ i → False := fun j hj hji => by
      obtain ⟨w, hw⟩ := hne
      have h1 := ready_mono hj hji
      rw [(H w hw).1] at h1
      cases h1
    have one : ∀ j, j ∈ Region.ready md ops listed → qOp P ops C j (wpMix P md ops C Q hd wl 0 (listed.setIfInBounds j true)) a := fun j hj => by
      by_cases hji : j = i
      · subst hji; exact hy.1.qOp hi H
      · exact (none j hj hji).elim
    exact ⟨fun hp => ⟨fun h => (by rw [h] at hr; cases hr), fun j hj => ⟨sinkR listed inv hp j hj, one j hj⟩⟩,
      fun hp => ⟨fun w hw => wpAny_first hi hsel (fun c a w hq => absurd hq (hQ _ _ _)) 0 listed a w hfree hr (hy.2 (inW listed hp hr)) (H w hw), fun j hj _ => one j hj⟩⟩
  | succ f ih =>
    intro listed a inv hfree hr hy H
    have step : ∀ j, j ∈ Region.ready md ops listed → j ≠ i → (j ∈ hd ∨ j ∈ wl) → qOp P ops C j (wpMix P md ops C Q hd wl f ((listed.setIfInBounds i true).setIfInBounds j true)) (a.put oi.dst v) →
        qOp P ops C j (wpMix P md ops C Q hd wl (f + 1) (listed.setIfInBounds j true)) a := fun j hj hji hjn h1 => by
      obtain ⟨hjun, oj, hoj, hall⟩ := mem_ready.1 hj
      have hun := (mem_ready.1 hr).1
      have hnot : ∀ e ∈ oj.after, Region.binds md e = true → e.on ≠ i := fun e he hb heq => by
        have h1 := hall e he hb
        rw [heq, getD_both hun] at h1
        cases h1
      have h2 := qOp_put_taken hoj (hfree j oj hoj hji hjun hnot) (fun cs b => hsel i oi cs b hi) (fun cs b => hsel j oj cs b hoj) hy h1
      have hfree' : ∀ k ok, ops[k]? = some ok → k ≠ i → (listed.setIfInBounds j true).getD k true = false →
          (∀ e ∈ ok.after, Region.binds md e = true → e.on ≠ i) → oi.apart ops ok = true := fun k ok hk hki hun hno => by
        refine hfree k ok hk hki ?_ hno
        by_cases hjk : j = k
        · subst hjk; exact hjun
        · rw [getD_set_ne true hjk] at hun; exact hun
      refine qOp_mono (fun a' h3 => ih (listed.setIfInBounds j true) a' (inv.set hj (hdis j hjn)) hfree' (ready_mono hr (Ne.symm hji)) h3.1 ?_) h2
      rw [Array.setIfInBounds_comm _ _ hji]
      exact h3.2
    have pend_set : ∀ j ∈ hd, j ≠ i → listed.getD j true = false → pendB hd (listed.setIfInBounds i true) = true := fun j hj hji hju => by
      unfold pendB
      exact List.any_eq_true.2 ⟨j, hj, by rw [getD_set_ne true (Ne.symm hji), hju]; rfl⟩
    refine ⟨fun hp => ⟨fun h => (by rw [h] at hr; cases hr), fun j hj => ⟨sinkR listed inv hp j hj, ?_⟩⟩, fun hp => ⟨fun w hw => ?_, fun j hj hjw => ?_⟩⟩
    · by_cases hji : j = i
      · subst hji; exact hy.1.qOp hi H
      · have hjn := sinkR listed inv hp j hj
        have hjr := ready_mono hj hji
        cases hp' : pendB hd (listed.setIfInBounds i true) with
        | true => exact step j hj hji hjn ((H.1 hp').2 j hjr).2
        | false =>
          rcases hjn with h | h
          · rw [pend_set j h hji (mem_ready.1 hj).1] at hp'
            cases hp'
          · exact step j hj hji (.inr h) ((H.2 hp').2 j hjr h)
    · exact wpAny_first hi hsel (fun c a w hq => absurd hq (hQ _ _ _)) (f + 1) listed a w hfree hr (hy.2 (inW listed hp hr)) (wpAny_of_mix (f + 1) _ _ H w hw)
    · by_cases hji : j = i
      · subst hji; exact hy.1.qOp hi H
      · have hjr := ready_mono hj hji
        cases hp' : pendB hd (listed.setIfInBounds i true) with
        | true => exact step j hj hji (.inr hjw) ((H.1 hp').2 j hjr).2
        | false => exact step j hj hji (.inr hjw) ((H.2 hp').2 j hjr hjw)

/-- steps: an operation that needs no world, or a quiet one -/
def wpSteps (P : Program) (ops : Array Oper) (C : World → Prop) (K : Act → Prop) : List (Bool × Oper) → Act → Prop
  | [], a => K a
  | (true, o) :: r, a => ∃ v, Yields P ops o v a ∧ wpSteps P ops C K r (a.put o.dst v)
  | (false, o) :: r, a => wpQuiet P ops C (fun a' => wpSteps P ops C K r a') [o] a

def ordMixB (md : Region.Mode) (ops : Array Oper) (hd wl tl : List Nat) : List (Bool × Nat) → Array Bool → Bool
  | [], listed => !pendB hd listed && wl.all (fun i => listed.getD i true) && ordTail md ops tl listed
  | (_, i) :: r, listed => (Region.ready md ops listed).contains i && Region.free md ops listed i && ordMixB md ops hd wl tl r (listed.setIfInBounds i true)

theorem wpMix_lex {hd wl tl : List Nat} {t0 : Nat} {Q : Exit → Act → World → Prop} (hne : ∃ w, C w) (hQ : ∀ c a w, ¬ Q (.panic c) a w) (hsel : Region.noSelect ops = true) (hs : sinkOrd md ops t0 hd = true) (hc : chainOrd md ops t0 tl = true) (hdis : ∀ j, j ∈ hd ∨ j ∈ wl → j ∉ t0 :: tl)
    (hw1 : ∀ j ∈ hd, j ∉ wl) (lt : List Oper) (ht : (t0 :: tl).map (ops[·]?) = lt.map some) {K : Act → Prop} (hK : ∀ a w, C w → K a → wpList P ops Q lt a w) :
    ∀ (is : List (Bool × Nat)) (l : List (Bool × Oper)) (listed : Array Bool) (a : Act), is.map (fun x => (x.1, ops[x.2]?)) = l.map (fun x => (x.1, some x.2)) → (∀ x ∈ is, (x.1 = true → x.2 ∈ wl) ∧ (x.1 = false → x.2 ∈ hd)) → OrdInv md ops (hd ++ wl) (t0 :: tl) listed →
    ordMixB md ops hd wl (t0 :: tl) is listed = true → wpSteps P ops C K l a → wpMix P md ops C Q hd wl (l.length + lt.length) listed a
  | [], [], listed, a, _, _, _, hB, h => by
    simp only [ordMixB, Bool.and_eq_true, Bool.not_eq_true'] at hB
    obtain ⟨⟨h1, h2⟩, h3⟩ := hB
    have fin : ∀ w, C w → wpAny P md ops Q lt.length listed a w := fun w hw => wpAny_of_ordTail (t0 :: tl) lt listed a w ht h3 (hK a w hw h)
    simp only [List.length_nil, Nat.zero_add]
    cases hl : lt.length with
    | zero => intro w hw; rw [← hl]; exact fin w hw
    | succ n =>
      refine ⟨fun hp => (by rw [h1] at hp; cases hp), fun _ => ⟨fun w hw => (by rw [← hl]; exact fin w hw), fun i hi hiw => ?_⟩⟩
      have := List.all_eq_true.1 h2 i hiw
      rw [(mem_ready.1 hi).1] at this
      cases this
  | [], _ :: _, _, _, hm, _, _, _, _ => by simp at hm
  | _ :: _, [], _, _, hm, _, _, _, _ => by simp at hm
  | (b, i) :: is, (b', o) :: l, listed, a, hm, hin, inv, hB, h => by
    simp only [List.map_cons, List.cons.injEq, Prod.mk.injEq] at hm
    obtain ⟨⟨rfl, h0⟩, hm'⟩ := hm
    simp only [ordMixB, Bool.and_eq_true] at hB
    obtain ⟨⟨hr, hf⟩, hB'⟩ := hB
    have hr' : i ∈ Region.ready md ops listed := by simpa using hr
    have hmem : i ∈ hd ∨ i ∈ wl := by
      have := hin (b, i) (by simp)
      cases b with
      | true => exact .inr (this.1 rfl)
      | false => exact .inl (this.2 rfl)
    have inv' := inv.set hr' (hdis i hmem)
    rw [show ((b, o) :: l).length + lt.length = (l.length + lt.length) + 1 by simp only [List.length_cons]; omega]
    obtain ⟨v, hy, hK'⟩ : ∃ v, Taken P ops C wl i o v a ∧ wpSteps P ops C K l (a.put o.dst v) := by
      cases b with
      | true =>
        obtain ⟨v, hy, h'⟩ := h
        exact ⟨v, ⟨Yields.inClass hy, fun _ => hy⟩, h'⟩
      | false =>
        have hst : qOp P ops C i (fun a' => wpSteps P ops C K l a') a := by
          have h' : wpQuiet P ops C (fun a' => wpSteps P ops C K l a') [o] a := h
          unfold qOp; simp only [h0]; exact h'
        obtain ⟨v, hy, h'⟩ := yieldsIn_of_qOp h0 hst
        exact ⟨v, ⟨hy, fun hw => absurd hw (hw1 i ((hin (false, i) (by simp)).2 rfl))⟩, h'⟩
    exact wpMix_first hne hQ h0 (Region.noSelect_spec hsel) hs hc hdis hmem _ listed a inv (Region.free_spec h0 hf) hr' hy
      (wpMix_lex hne hQ hsel hs hc hdis hw1 lt ht hK is l _ _ hm' (fun x hx => hin x (by simp [hx])) inv' hB' hK')

def mixB (md : Region.Mode) (ops : Array Oper) (is : List (Bool × Nat)) (t0 : Nat) (tl : List Nat) : Bool :=
  let hd := (is.filter (fun x => !x.1)).map (·.2)
  let wl := (is.filter (·.1)).map (·.2)
  Region.noSelect ops && sinkOrd md ops t0 hd && chainOrd md ops t0 tl && ((List.range ops.size).all fun i => hd.contains i || wl.contains i || (t0 :: tl).contains i) &&
    ((t0 :: tl).all fun t => !hd.contains t && !wl.contains t) && (hd.all fun i => !wl.contains i) && ordMixB md ops hd wl (t0 :: tl) is (Array.replicate ops.size false)

theorem filterMap_ok2 {l : List Oper} : ∀ (is : List (Bool × Nat)), (∀ x ∈ is, x.2 < l.length) →
    is.map (fun x => (x.1, l.toArray[x.2]?)) = (is.filterMap fun x => (l[x.2]?).map fun o => (x.1, o)).map (fun x => (x.1, some x.2)) ∧ (is.filterMap fun x => (l[x.2]?).map fun o => (x.1, o)).length = is.length
  | [], _ => ⟨rfl, rfl⟩
  | (b, i) :: is, h => by
    have hi := h (b, i) (by simp)
    obtain ⟨h1, h2⟩ := filterMap_ok2 is (fun j hj => h j (by simp [hj]))
    have e : l[i]? = some l[i] := by simp [hi]
    refine ⟨?_, ?_⟩
    · rw [List.map_cons, h1, List.filterMap_cons]
      simp only [e, Option.map_some, List.map_cons]
      simp [hi]
    · rw [List.filterMap_cons]
      simp only [e, Option.map_some, List.length_cons]
      simp [h2]

/-- THE THEOREM: is: the operations in the order in which they are walked, 'true' at one that needs no world; t0, tl: the rest, in one forced order. -/
theorem later_mix {P : Program} {id : Nat} {Q : Exit → Act → World → Prop} {a : Act} {w : World} {l : List Oper} (is : List (Bool × Nat)) (t0 : Nat) (tl : List Nat) (hm : P.follows .mixedOrders = true)
    (hB : (mixB .any l.toArray is t0 tl && (is.map (·.2) ++ t0 :: tl).all (fun i => decide (i < l.length)) && decide (is.length + (t0 :: tl).length = l.length)) = true)
    (h : wpSteps P l.toArray (fun w' => ∃ g : Later w, w' = g.val) (fun a' => ∀ g : Later w, wpList P l.toArray (NoPanic Q) ((t0 :: tl).filterMap (l[·]?)) a' g.val) (is.filterMap fun x => (l[x.2]?).map fun o => (x.1, o)) a) :
    (Code.region id l.toArray true).wp P Q a w := by
  simp only [mixB, Bool.and_eq_true, decide_eq_true_eq, List.all_eq_true, List.mem_append] at hB
  obtain ⟨⟨⟨⟨⟨⟨⟨⟨hsel, hs⟩, hc⟩, hcov⟩, hdis⟩, hwd⟩, hord⟩, hlt⟩, hlen⟩ := hB
  obtain ⟨q1, q2⟩ := filterMap_ok2 is (fun x hx => hlt x.2 (.inl (List.mem_map.2 ⟨x, hx, rfl⟩)))
  obtain ⟨r1, r2⟩ := filterMap_ok (t0 :: tl) (fun i hi => hlt i (.inr hi))
  have hdis' : ∀ t ∈ t0 :: tl, t ∉ (is.filter (fun x => !x.1)).map (·.2) ∧ t ∉ (is.filter (·.1)).map (·.2) := fun t ht => by
    have := hdis t ht
    simpa only [Bool.and_eq_true, Bool.not_eq_true', List.contains_eq_mem, decide_eq_false_iff_not] using this
  refine wp_region_noPanic (wp_region_any hm ?_)
  have inv0 : OrdInv .any l.toArray ((is.filter (fun x => !x.1)).map (·.2) ++ (is.filter (·.1)).map (·.2)) (t0 :: tl) (Array.replicate l.toArray.size false) := by
    refine ⟨by simp, fun j oj _ hl => (by rw [getD_replicate_false] at hl; cases hl), fun t ht' => ?_, fun j hj => ?_⟩
    · exact getD_in (by have := hlt t (.inr ht'); simpa using this) (getD_replicate_false _ _)
    · have hjl : j < l.toArray.size := by
        rcases Nat.lt_or_ge j l.toArray.size with h' | h'
        · exact h'
        · have hsz : (Array.replicate l.toArray.size false).size ≤ j := by simpa using h'
          have h1 : (Array.replicate l.toArray.size false).getD j true = true := by unfold Array.getD; rw [dif_neg (by omega)]
          rw [h1] at hj
          cases hj
      have := hcov j (List.mem_range.2 hjl)
      simp only [Bool.or_eq_true, List.contains_iff_mem] at this
      rcases this with (h' | h') | h'
      · exact .inl (List.mem_append.2 (.inl h'))
      · exact .inl (List.mem_append.2 (.inr h'))
      · exact .inr h'
  have key := wpMix_lex (P := P) (md := .any) (C := fun w' => ∃ g : Later w, w' = g.val) (Q := NoPanic Q) ⟨w, ⟨w, Below.refl _ _⟩, rfl⟩ (fun c a w hq => hq) hsel hs hc (fun j hj hj' => by
      rcases hj with h' | h'
      · exact (hdis' j hj').1 h'
      · exact (hdis' j hj').2 h') (fun j hj hj' => by
      have := hwd j hj
      simp only [Bool.not_eq_true', List.contains_eq_mem, decide_eq_false_iff_not] at this
      exact this hj') _ r1 (fun a' w' hw' hg => by obtain ⟨g, rfl⟩ := hw'; exact hg g) is _ _ a q1 (fun x hx => ⟨fun hb => List.mem_map.2 ⟨x, List.mem_filter.2 ⟨hx, hb⟩, rfl⟩, fun hb => List.mem_map.2 ⟨x, List.mem_filter.2 ⟨hx, by simp [hb]⟩, rfl⟩⟩) inv0 hord h
  have := wpAny_of_mix _ _ _ key { w with drawn := w.drawn + 1 } ⟨⟨w.drew, (Below.refl _ _).drew⟩, rfl⟩
  rw [q2, r2, hlen] at this
  simpa using this
end
end Bal

/-
  A region that draws its order in which a call panics: whatever order is picked, the operations that come up ahead of it only read or call (or make a block), and then it panics. No program in sight.
-/
namespace Bal
open Go Go.RowKit

section
variable {P : Program} {ops : Array Oper} {md : Region.Mode} {C : World → Prop} {Q : Exit → Act → World → Prop}

/-- operation p panics in state a, in every world of the class -/
def DiesAt (P : Program) (ops : Array Oper) (C : World → Prop) (Q : Exit → Act → World → Prop) (p : Nat) (a : Act) : Prop := ∀ w, C w → wpOp P ops Q p (fun _ _ => False) a w
/-- one operation that panics, out of its run -/
theorem DiesAt.of {p : Nat} {o : Oper} {a : Act} (ho : ops[p]? = some o) (hg : o.guard = none) (h : ∀ w, C w → Oper.wp P o a w (fun _ _ => False) Q) : DiesAt P ops C Q p a := fun w hw => by
  unfold wpOp
  simp only [ho]
  have hwt : Region.wanted o (yielded ops a.tmps) = true := by simp [Region.wanted, hg]
  simp only [hwt, if_true]
  exact .inl (h w hw)
end
end Bal

/-
  A region that draws its order, walked once: loads (of cells that the region leaves alone till they are read) and operations that need no world are taken first; what is then left comes up one at a time: a call, a block that is made, a store; it may panic. No program in sight.
-/
namespace Bal
open Go Go.RowKit

section
variable {P : Program} {ops : Array Oper} {md : Region.Mode} {S : World → Prop} {Q : Exit → Act → World → Prop}

/-- what a walk goes on with behind one operation -/
def onward (K : Act → World → Prop) (Q : Exit → Act → World → Prop) : Exit → Act → World → Prop
  | .normal, a, w => K a w
  | .exit i, a, w => Q (.exit i) a w
  | .goto l, a, w => Q (.goto l) a w
  | .ret, a, w => Q .ret a w
  | .panic c, a, w => Q (.panic c) a w
  | .outgrown, a, w => Q .outgrown a w
theorem onward_on {K : Act → World → Prop} {a : Act} {w : World} (h : K a w) : onward K Q .normal a w := h
theorem wpOp_onward {i : Nat} {a : Act} {w : World} {K : Act → World → Prop} (h : wpOp P ops (onward K Q) i K a w) : wpOp P ops Q i K a w := by
  unfold wpOp at *
  split
  · simpa [*] using h
  · rename_i o ho
    simp only [ho] at h
    split
    · rename_i hw
      simp only [hw, if_true] at h
      rcases h with h | ⟨h1, h2⟩
      · refine .inl ?_
        unfold Oper.wp at *
        generalize (execOp a.eval o).run P w = r at *
        cases r with
        | ok n w' =>
          cases n <;> simp only [Oper.upon] at h ⊢
          case enter f args =>
            refine Calls.mono h fun e w'' he => ?_
            cases e with
            | returned u => exact he
            | panicked c => exact he
            | outgrown => exact he
          all_goals exact h
        | halt x w' =>
          cases x <;> simp only [Oper.upon] at h ⊢
          case panic u => exact h
      · exact .inr ⟨h1, h2⟩
    · rename_i hw
      simp only [hw] at h
      exact h

/-- whatever order is picked from here on, and S holds behind every operation but number n -/
def wpAnyE (P : Program) (md : Region.Mode) (ops : Array Oper) (Q : Exit → Act → World → Prop) (S : World → Prop) (n : Nat) : Nat → Array Bool → Act → World → Prop
  | 0, listed, a, w => Region.ready md ops listed = [] ∧ Q .normal a w
  | f + 1, listed, a, w =>
    (Region.ready md ops listed = [] → Q .normal a w) ∧
    ∀ i ∈ Region.ready md ops listed, wpOp P ops Q i (fun a' w' => (i = n ∨ S w') ∧ wpAnyE P md ops Q S n f (listed.setIfInBounds i true) a' w') a w

theorem wpAny_of_E {n : Nat} : ∀ (f : Nat) (listed : Array Bool) (a : Act) (w : World), wpAnyE P md ops Q S n f listed a w → wpAny P md ops Q f listed a w
  | 0, _, _, _, h => h
  | f + 1, _, _, _, h => ⟨h.1, fun i hi => wpOp_mono (fun a' w' h' => wpAny_of_E f _ a' w' h'.2) (h.2 i hi)⟩

/-- number n, if there is one, waits for all others -/
structure LastOk (md : Region.Mode) (ops : Array Oper) (n : Nat) : Prop where
  sink : n < ops.size → Region.sinkB md ops n = true
  chain : n < ops.size → Region.chainB md ops n = true
  last : n < ops.size → n + 1 = ops.size
def LastInv (md : Region.Mode) (ops : Array Oper) (n : Nat) (listed : Array Bool) : Prop := n < ops.size → HeadInv md ops n listed

theorem LastInv.set {n i : Nat} {listed : Array Bool} (hl : LastOk md ops n) (inv : LastInv md ops n listed) (hi : i ∈ Region.ready md ops listed) (hin : i ≠ n) : LastInv md ops n (listed.setIfInBounds i true) := fun hn =>
  (inv hn).set hi (by
    obtain ⟨_, o, ho, _⟩ := mem_ready.1 hi
    have := (Array.getElem?_eq_some_iff.1 ho).1
    have := hl.last hn
    omega)
/-- beside another one that may come up, n may not -/
theorem LastInv.other {n i j : Nat} {listed : Array Bool} (hl : LastOk md ops n) (inv : LastInv md ops n listed) (hi : i ∈ Region.ready md ops listed) (hin : i ≠ n) (hj : j ∈ Region.ready md ops listed) : j ≠ n := by
  rintro rfl
  obtain ⟨_, o, ho, _⟩ := mem_ready.1 hj
  have hn := (Array.getElem?_eq_some_iff.1 ho).1
  obtain ⟨hun, oi, hoi, _⟩ := mem_ready.1 hi
  have h1 := (Array.getElem?_eq_some_iff.1 hoi).1
  have h2 := hl.last hn
  exact tail_waits (hl.sink hn) (hl.chain hn) hn (inv hn) _ i rfl (by omega) hun j (Nat.le_refl _) hj

theorem wpAnyE_first {n i : Nat} {oi : Oper} {v : Value} (hl : LastOk md ops n) (hin : i ≠ n) (hi : ops[i]? = some oi) (hsel : ∀ (j : Nat) (o : Oper) cs b, ops[j]? = some o → o.op ≠ .select cs b)
    (hQ : ∀ c a w, Q (.panic c) (a.put oi.dst v) w → Q (.panic c) a w) :
    ∀ (f : Nat) (listed : Array Bool) (a : Act) (w : World), LastInv md ops n listed →
      (∀ j oj, ops[j]? = some oj → j ≠ i → listed.getD j true = false → (∀ e ∈ oj.after, Region.binds md e = true → e.on ≠ i) → oi.apart ops oj = true) →
      i ∈ Region.ready md ops listed → YieldsIf P ops S oi v a → S w →
      wpAnyE P md ops Q S n f (listed.setIfInBounds i true) (a.put oi.dst v) w → wpAnyE P md ops Q S n (f + 1) listed a w := by
  intro f
  induction f with
  | zero =>
    intro listed a w inv _ hr hy hS H
    refine ⟨fun h => (by rw [h] at hr; cases hr), fun j hj => ?_⟩
    by_cases hji : j = i
    · subst hji; exact hy.wpOp hi hS ⟨.inr hS, H⟩
    · have := ready_mono hj hji
      rw [H.1] at this
      cases this
  | succ f ih =>
    intro listed a w inv hfree hr hy hS H
    refine ⟨fun h => (by rw [h] at hr; cases hr), fun j hj => ?_⟩
    by_cases hji : j = i
    · subst hji; exact hy.wpOp hi hS ⟨.inr hS, H⟩
    · have hjn := inv.other hl hr hin hj
      have h1 := H.2 j (ready_mono hj hji)
      obtain ⟨hjun, oj, hoj, hall⟩ := mem_ready.1 hj
      have hnot : ∀ e ∈ oj.after, Region.binds md e = true → e.on ≠ i := fun e he hb heq => by
        have h1 := hall e he hb
        rw [heq, getD_both (mem_ready.1 hr).1] at h1
        cases h1
      have h2 := wpOp_putIf hoj (hfree j oj hoj hji hjun hnot) (fun cs b => hsel i oi cs b hi) (fun cs b => hsel j oj cs b hoj) hQ hy h1
      have hfree' : ∀ k ok, ops[k]? = some ok → k ≠ i → (listed.setIfInBounds j true).getD k true = false →
          (∀ e ∈ ok.after, Region.binds md e = true → e.on ≠ i) → oi.apart ops ok = true := fun k ok hk hki hun hno => by
        refine hfree k ok hk hki ?_ hno
        by_cases hjk : j = k
        · subst hjk; exact hjun
        · rw [getD_set_ne true hjk] at hun; exact hun
      refine wpOp_mono (fun a' w' h3 => ?_) h2
      have hS' : S w' := h3.2.1.resolve_left hjn
      refine ⟨.inr hS', ih (listed.setIfInBounds j true) a' w' (inv.set hl hj hjn) hfree' (ready_mono hr (Ne.symm hji)) h3.1 hS' ?_⟩
      rw [Array.setIfInBounds_comm _ _ hji]
      exact h3.2.2

/-- THE WALK: 'true' at an operation that yields in every world that meets S; the others come up one at a time -/
def Held (P : Program) (ops : Array Oper) (Q : Exit → Act → World → Prop) (S : World → Prop) : List (Bool × Oper) → Act → World → Prop
  | [], a, w => Q .normal a w
  | (true, o) :: r, a, w => ∃ v, YieldsIf P ops S o v a ∧ Held P ops Q S r (a.put o.dst v) w
  | (false, o) :: r, a, w => wpList P ops (onward (fun a' w' => (r = [] ∨ S w') ∧ Held P ops Q S r a' w') Q) [o] a w
def heldB (md : Region.Mode) (ops : Array Oper) (n : Nat) : List (Bool × Nat) → Array Bool → Bool
  | [], listed => (Region.ready md ops listed).isEmpty
  | (true, i) :: r, listed => (Region.ready md ops listed).contains i && Region.free md ops listed i && decide (i ≠ n) && heldB md ops n r (listed.setIfInBounds i true)
  | (false, i) :: r, listed => decide (Region.ready md ops listed = [i]) && (decide (i = n) == r.isEmpty) && heldB md ops n r (listed.setIfInBounds i true)

theorem wpAnyE_of_held {n : Nat} (hl : LastOk md ops n) (hsel : Region.noSelect ops = true) (hQ : ∀ c a d v w, Q (.panic c) (Act.put a d v) w → Q (.panic c) a w) :
    ∀ (is : List (Bool × Nat)) (l : List (Bool × Oper)) (listed : Array Bool) (a : Act) (w : World), is.map (fun x => (x.1, ops[x.2]?)) = l.map (fun x => (x.1, some x.2)) → LastInv md ops n listed ∨ is = [] → heldB md ops n is listed = true →
    (is = [] ∨ S w) → Held P ops Q S l a w → wpAnyE P md ops Q S n l.length listed a w
  | [], [], listed, a, w, _, _, hB, _, h => ⟨by simpa [heldB] using hB, h⟩
  | [], _ :: _, _, _, _, hm, _, _, _, _ => by simp at hm
  | _ :: _, [], _, _, _, hm, _, _, _, _ => by simp at hm
  | (true, i) :: is, (b, o) :: l, listed, a, w, hm, inv, hB, hS, h => by
    simp only [List.map_cons, List.cons.injEq, Prod.mk.injEq] at hm
    obtain ⟨⟨rfl, h0⟩, hm'⟩ := hm
    simp only [heldB, Bool.and_eq_true, decide_eq_true_eq] at hB
    obtain ⟨⟨⟨hr, hf⟩, hin⟩, hB'⟩ := hB
    obtain ⟨v, hy, hK⟩ := h
    have hr' : i ∈ Region.ready md ops listed := by simpa using hr
    have hS' : S w := hS.resolve_left (by simp)
    have inv' := inv.resolve_right (by simp)
    exact wpAnyE_first hl hin h0 (Region.noSelect_spec hsel) (fun c a w => hQ c a _ _ w) _ listed a w inv' (Region.free_spec h0 hf) hr' hy hS'
      (wpAnyE_of_held hl hsel hQ is l _ _ _ hm' (.inl (inv'.set hl hr' hin)) hB' (.inr hS') hK)
  | (false, i) :: is, (b, o) :: l, listed, a, w, hm, inv, hB, hS, h => by
    simp only [List.map_cons, List.cons.injEq, Prod.mk.injEq] at hm
    obtain ⟨⟨rfl, h0⟩, hm'⟩ := hm
    simp only [heldB, Bool.and_eq_true, decide_eq_true_eq, beq_iff_eq] at hB
    obtain ⟨⟨hr, hlast⟩, hB'⟩ := hB
    have inv' := inv.resolve_right (by simp)
    have hr' : i ∈ Region.ready md ops listed := by rw [hr]; simp
    have hnil : l = [] ↔ is = [] := by
      have := congrArg List.length hm'
      simp only [List.length_map] at this
      rw [← List.length_eq_zero_iff, ← List.length_eq_zero_iff, this]
    refine ⟨fun h1 => (by rw [hr] at h1; cases h1), fun j hj => ?_⟩
    rw [hr] at hj
    have hji : j = i := by simpa using hj
    subst hji
    have hin : j = n ↔ is = [] := by rw [← List.isEmpty_iff, ← hlast]; simp
    refine wpOp_mono (fun a' w' hh => ?_) (wpOp_onward (K := fun a' w' => (l = [] ∨ S w') ∧ Held P ops Q S l a' w') (by
      unfold wpOp
      simp only [h0]
      exact h))
    refine ⟨?_, wpAnyE_of_held hl hsel hQ is l _ _ _ hm' ?_ hB' ?_ hh.2⟩
    · rcases hh.1 with h1 | h1
      · exact .inl (hin.2 (hnil.1 h1))
      · exact .inr h1
    · by_cases hn : j = n
      · exact .inr (hin.1 hn)
      · exact .inl (inv'.set hl hr' hn)
    · rcases hh.1 with h1 | h1
      · exact .inl (hnil.1 h1)
      · exact .inr h1

/-- THE THEOREM: is: the operations as they are walked, 'true' at those that yield under S; n: the one behind which S need not hold, for it waits for all others (or any number beyond the region's). -/
theorem held_walk {P : Program} {id : Nat} {Q : Exit → Act → World → Prop} {a : Act} {w : World} {l : List Oper} (S : World → Prop) (is : List (Bool × Nat)) (n : Nat) (hm : P.follows .mixedOrders = true)
    (hB : (Region.noSelect l.toArray && heldB .any l.toArray n is (Array.replicate l.toArray.size false) && is.all (fun i => decide (i.2 < l.length)) && decide (is.length = l.length) &&
      (decide (l.toArray.size ≤ n) || (Region.sinkB .any l.toArray n && Region.chainB .any l.toArray n && decide (n + 1 = l.toArray.size)))) = true)
    (hQ : ∀ c a d v w, Q (.panic c) (Act.put a d v) w → Q (.panic c) a w) (hS : S w.drew)
    (h : Held P l.toArray Q S (is.filterMap fun x => (l[x.2]?).map fun o => (x.1, o)) a w.drew) : (Code.region id l.toArray true).wp P Q a w := by
  simp only [Bool.and_eq_true, decide_eq_true_eq, List.all_eq_true, Bool.or_eq_true] at hB
  obtain ⟨⟨⟨⟨hsel, hheld⟩, hlt⟩, hlen⟩, hlast⟩ := hB
  obtain ⟨q1, q2⟩ := filterMap_ok2 is hlt
  have hl : LastOk .any l.toArray n := by
    rcases hlast with h1 | ⟨⟨h1, h2⟩, h3⟩
    · exact ⟨fun h => by omega, fun h => by omega, fun h => by omega⟩
    · exact ⟨fun _ => h1, fun _ => h2, fun _ => h3⟩
  have inv0 : LastInv .any l.toArray n (Array.replicate l.toArray.size false) := fun _ =>
    ⟨by simp, fun j oj _ hl => (by rw [getD_replicate_false] at hl; cases hl), fun t _ ht => getD_in (by simpa using ht) (getD_replicate_false _ _)⟩
  refine wp_region_any hm (wpAny_of_E (S := S) (n := n) _ _ _ _ ?_)
  have key := wpAnyE_of_held (P := P) (S := S) (md := .any) (Q := Q) hl hsel hQ is _ _ a w.drew q1 (.inl inv0) hheld (.inr hS) h
  rw [q2, hlen] at key
  simpa using key

/-! ### The moves of a walk -/
theorem held_take {o : Oper} {r : List (Bool × Oper)} {a : Act} {w : World} (v : Value) (hw : Region.wanted o (yielded ops a.tmps) = true) (hy : ∀ w', S w' → (execOp a.eval o).run P w' = .ok (.value v) w') (h : Held P ops Q S r (a.put o.dst v) w) :
    Held P ops Q S ((true, o) :: r) a w := ⟨v, .inl ⟨hw, hy⟩, h⟩
theorem held_pass {o : Oper} {r : List (Bool × Oper)} {a : Act} {w : World} (hw : Region.wanted o (yielded ops a.tmps) = false) (h : Held P ops Q S r (a.put o.dst undef) w) :
    Held P ops Q S ((true, o) :: r) a w := ⟨undef, .inr ⟨hw, rfl⟩, h⟩
theorem held_one {o : Oper} {r : List (Bool × Oper)} {a : Act} {w : World} (h : wpList P ops (onward (fun a' w' => (r = [] ∨ S w') ∧ Held P ops Q S r a' w') Q) [o] a w) : Held P ops Q S ((false, o) :: r) a w := h
theorem held_on {r : List (Bool × Oper)} {a : Act} {w : World} (hS : S w) (h : Held P ops Q S r a w) : onward (fun a' w' => (r = [] ∨ S w') ∧ Held P ops Q S r a' w') Q .normal a w := ⟨.inr hS, h⟩
theorem held_end {a : Act} {w : World} (h : Q .normal a w) : onward (fun a' w' => (([] : List (Bool × Oper)) = [] ∨ S w') ∧ Held P ops Q S [] a' w') Q .normal a w := ⟨.inl rfl, h⟩
theorem held_nil {a : Act} {w : World} (h : Q .normal a w) : Held P ops Q S [] a w := h
end
end Bal

/-
  Decision tables in memory; the rows that match, in the reference.
-/
namespace Go.Proofs.YtacbkbilbmkjnaaGreat
open Go.RowKit Bal Bal.Trim Bal.Mast
set_option linter.unusedVariables false
set_option linter.unusedSimpArgs false
set_option maxHeartbeats 2000000
set_option maxRecDepth 20000

theorem infoIntM : (Tryz.prog.info? 3).map (fun i => (i.zero, i.size, i.bytes)) = some (some (.int .i64 0), 1, 8) := by kernel_rfl
/-- a row, and where its conditions lie -/
structure RowM where
  r : Rw
  ad : Option Addr
  cap : Nat
def RowM.cells (x : RowM) : List Value := [.slice x.ad x.r.conds.length x.cap, .int .i64 x.r.action]
structure TabM where
  vars : List Span
  va : Option Addr
  vc : Nat
  rows : List RowM
  ra : Option Addr
  rc : Nat
def tbOf (vs : List Span) (rs : List RowM) : Tb := ⟨vs, rs.map RowM.r⟩
def TabM.tb (t : TabM) : Tb := tbOf t.vars t.rows
structure TabAt (t : TabM) (w : World) : Prop where
  vars : Row Span.cells 2 w.heap.size w t.va t.vars
  rows : Row RowM.cells 2 w.heap.size w t.ra t.rows
  conds : ∀ x ∈ t.rows, Row Span.cells 2 w.heap.size w x.ad x.r.conds
  vl : t.vars.length ≤ t.vc
  vm : t.vc ≤ maxLen
  rl : t.rows.length ≤ t.rc
  rm : t.rc ≤ maxLen
  cl : ∀ x ∈ t.rows, x.r.conds.length ≤ x.cap ∧ x.cap ≤ maxLen
theorem TabAt.later {t : TabM} {w w' : World} (k : TabAt t w) (hb : Kept w w') : TabAt t w' :=
  ⟨k.vars.later hb (Nat.le_refl _), k.rows.later hb (Nat.le_refl _), fun x hx => (k.conds x hx).later hb (Nat.le_refl _), k.vl, k.vm, k.rl, k.rm, k.cl⟩
theorem RowM.row {B : Nat} {w : World} {a : Option Addr} {xs : List RowM} (h : Row RowM.cells 2 B w a xs) (i : Nat) (hi : i < xs.length) :
    ∃ b off, a = some ⟨b, off, none⟩ ∧ b < B ∧ w.cell? ⟨b, off + i * 2, none⟩ = some (.slice xs[i].ad xs[i].r.conds.length xs[i].cap) ∧ w.cell? ⟨b, off + i * 2 + 1, none⟩ = some (.int .i64 xs[i].r.action) := by
  obtain ⟨b, off, ha, hb, hc⟩ := h i xs[i] (by simp [hi])
  exact ⟨b, off, ha, hb, hc 0 _ rfl, hc 1 _ rfl⟩
def natsI (l : List Nat) : List Int := l.map fun i : Nat => (i : Int)
theorem natsI_len (l : List Nat) : (natsI l).length = l.length := by simp [natsI]
theorem natsI_snoc (l : List Nat) (k : Nat) : natsI (l ++ [k]) = natsI l ++ [(k : Int)] := by simp [natsI]
theorem TabM.rows_len (t : TabM) : t.tb.rows.length = t.rows.length := by simp [TabM.tb, tbOf]
theorem matchTo_len (d : Tb) (st : List Int) (k : Nat) : (matchTo d st k).length ≤ k := by
  unfold matchTo
  have := List.length_filter_le (matchP d st) (List.range k)
  simpa using this

end Go.Proofs.YtacbkbilbmkjnaaGreat

/-
  Berths and steps that came in as cells. No program in sight.
-/
namespace Bal.Mast
open Go Go.RowKit Bal
def Berth.cells (b : Berth) : List Value := [.int .u8 b.ship, .int .i64 b.axis, .int .i64 b.held, .bool b.wire, .bool b.opn]
def Step.cells (s : Step) : List Value := [.int .u8 s.act.kind, .int .i64 s.act.n, .int .i64 s.wind.xlo, .int .i64 s.wind.xhi, .int .i64 s.wind.ylo, .int .i64 s.wind.yhi]
theorem u8_bd {n : Int} (h : (Lit.int .u8 n).wf = true) : 0 ≤ n ∧ n ≤ 255 := by
  simp only [Lit.wf, Bool.and_eq_true, decide_eq_true_eq] at h
  have e1 : IntKind.min .u8 = 0 := by decide
  have e2 : IntKind.max .u8 = 255 := by decide
  rw [e1, e2] at h
  exact h
theorem Berth.of_leaves {cs : List Value} (h : LeavesOk [.int .u8, .int .i64, .int .i64, .bool, .bool] cs) : ∃ x : Berth, cs = x.cells ∧ 0 ≤ x.ship ∧ x.ship ≤ 255 := by
  obtain ⟨hl, h⟩ := h
  match cs, hl with
  | [v0, v1, v2, v3, v4], _ =>
    obtain ⟨_, e0, n0, rfl, w0⟩ := h 0 (.int .u8) rfl; simp at e0; subst e0
    obtain ⟨_, e1, n1, rfl, w1⟩ := h 1 (.int .i64) rfl; simp at e1; subst e1
    obtain ⟨_, e2, n2, rfl, w2⟩ := h 2 (.int .i64) rfl; simp at e2; subst e2
    obtain ⟨_, e3, n3, rfl⟩ := h 3 .bool rfl; simp at e3; subst e3
    obtain ⟨_, e4, n4, rfl⟩ := h 4 .bool rfl; simp at e4; subst e4
    exact ⟨⟨n0, n1, n2, n3, n4⟩, rfl, (u8_bd w0).1, (u8_bd w0).2⟩
theorem Step.of_leaves {cs : List Value} (h : LeavesOk [.int .u8, .int .i64, .int .i64, .int .i64, .int .i64, .int .i64] cs) : ∃ x : Step, cs = x.cells ∧ 0 ≤ x.act.kind ∧ x.act.kind ≤ 255 := by
  obtain ⟨hl, h⟩ := h
  match cs, hl with
  | [v0, v1, v2, v3, v4, v5], _ =>
    obtain ⟨_, e0, n0, rfl, w0⟩ := h 0 (.int .u8) rfl; simp at e0; subst e0
    obtain ⟨_, e1, n1, rfl, w1⟩ := h 1 (.int .i64) rfl; simp at e1; subst e1
    obtain ⟨_, e2, n2, rfl, w2⟩ := h 2 (.int .i64) rfl; simp at e2; subst e2
    obtain ⟨_, e3, n3, rfl, w3⟩ := h 3 (.int .i64) rfl; simp at e3; subst e3
    obtain ⟨_, e4, n4, rfl, w4⟩ := h 4 (.int .i64) rfl; simp at e4; subst e4
    obtain ⟨_, e5, n5, rfl, w5⟩ := h 5 (.int .i64) rfl; simp at e5; subst e5
    exact ⟨⟨⟨n0, n1⟩, ⟨n2, n3, n4, n5⟩⟩, rfl, (u8_bd w0).1, (u8_bd w0).2⟩
end Bal.Mast

/-
  Steps, played one behind the other: the plain side; steps as cells.
-/
namespace Bal.Mast
open Go Go.RowKit Bal Bal.Trim
structure Played where
  b : Berth
  i : Int
  r : Int
  e : Int
def play (p : Port) : Berth → List Step → Nat → Played
  | b, [], _ => ⟨b, 0, 0, 0⟩
  | b, s :: ss, i => if doE p b s = 0 then play p (doB p b s) ss (i + 1) else ⟨b, i, doRule p b s, doE p b s⟩
def playE (p : Port) (b : Berth) (ss : List Step) : Played := if checkBerth p b = 0 then (if 200 < ss.length then ⟨noBerth, 0, 0, 4⟩ else play p b ss 0) else ⟨noBerth, 0, 0, checkBerth p b⟩
theorem play_go {p : Port} {b : Berth} {ss : List Step} {k : Nat} (hk : k < ss.length) (h : doE p b ss[k] = 0) : play p b (ss.drop k) k = play p (doB p b ss[k]) (ss.drop (k + 1)) (k + 1) := by
  rw [List.drop_eq_getElem_cons hk, play, if_pos h]
theorem play_no {p : Port} {b : Berth} {ss : List Step} {k : Nat} (hk : k < ss.length) (h : doE p b ss[k] ≠ 0) : play p b (ss.drop k) k = ⟨b, k, doRule p b ss[k], doE p b ss[k]⟩ := by
  rw [List.drop_eq_getElem_cons hk, play, if_neg h]
theorem play_end {p : Port} {b : Berth} {ss : List Step} {i : Nat} : play p b (ss.drop ss.length) i = ⟨b, 0, 0, 0⟩ := by rw [List.drop_length]; rfl
theorem doneB_ship {k : Dock} (h : 0 ≤ k.b.ship) (t : Int) : 0 ≤ (doneB k t).ship := by
  unfold doneB
  split <;> (try simp only [toShip]) <;> first | exact h | omega | (split <;> first | exact h | omega)
theorem doB_ship {p : Port} {b : Berth} {s : Step} (h : 0 ≤ b.ship) : 0 ≤ (doB p b s).ship := by
  unfold doB
  split
  · exact doneB_ship (k := dockOf p b s) h _
  · exact Int.le_refl 0
theorem Step.row {B : Nat} {w : World} {a : Option Addr} {xs : List Step} (h : Row Step.cells 6 B w a xs) (i : Nat) (hi : i < xs.length) :
    ∃ b off, a = some ⟨b, off, none⟩ ∧ b < B ∧ w.cell? ⟨b, off + i * 6, none⟩ = some (.int .u8 xs[i].act.kind) ∧ w.cell? ⟨b, off + i * 6 + 1, none⟩ = some (.int .i64 xs[i].act.n) ∧ w.cell? ⟨b, off + i * 6 + 2, none⟩ = some (.int .i64 xs[i].wind.xlo) ∧ w.cell? ⟨b, off + i * 6 + 3, none⟩ = some (.int .i64 xs[i].wind.xhi) ∧ w.cell? ⟨b, off + i * 6 + 4, none⟩ = some (.int .i64 xs[i].wind.ylo) ∧ w.cell? ⟨b, off + i * 6 + 5, none⟩ = some (.int .i64 xs[i].wind.yhi) := by
  obtain ⟨b, off, ha, hb, hc⟩ := h i xs[i] (by simp [hi])
  exact ⟨b, off, ha, hb, hc 0 _ rfl, hc 1 _ rfl, hc 2 _ rfl, hc 3 _ rfl, hc 4 _ rfl, hc 5 _ rfl⟩
end Bal.Mast

/-
  A search in breadth: what it finds is the least way, by length and then by the acts' order. No program in sight.
-/
namespace Bal.Mast
set_option linter.unusedVariables false
section
variable {S A : Type}
/-- where a list of acts leads -/
def run (st : S → A → Option S) : S → List A → Option S
  | x, [] => some x
  | x, a :: l => (st x a).bind fun y => run st y l
theorem run_snoc (st : S → A → Option S) (a : A) : ∀ (l : List A) (x : S), run st x (l ++ [a]) = (run st x l).bind fun y => st y a
  | [], x => by simp [run]
  | b :: l, x => by
    simp only [List.cons_append, run]
    cases st x b with
    | none => rfl
    | some y => simp only [Option.bind_some]; exact run_snoc st a l y
/-- the number of a list of acts: it grows with the length, and then with the acts' order -/
def pv (B : Nat) (code : A → Nat) (l : List A) : Nat := l.foldl (fun v a => v * B + code a) 1
theorem pv_nil (B : Nat) (code : A → Nat) : pv B code [] = 1 := rfl
theorem pv_snoc (B : Nat) (code : A → Nat) (l : List A) (a : A) : pv B code (l ++ [a]) = pv B code l * B + code a := by simp [pv]
theorem snoc_induct {P : List A → Prop} (h0 : P []) (h1 : ∀ l a, P l → P (l ++ [a])) (l : List A) : P l := by
  rw [← List.reverse_reverse l]
  induction l.reverse with
  | nil => exact h0
  | cons a r ih => rw [List.reverse_cons]; exact h1 _ _ ih
theorem pv_pos {B : Nat} {code : A → Nat} (hB : 2 ≤ B) (l : List A) : 1 ≤ pv B code l := by
  induction l using snoc_induct with
  | h0 => exact Nat.le_refl 1
  | h1 l a ih =>
    rw [pv_snoc]
    have : 1 * 2 ≤ pv B code l * B := Nat.mul_le_mul ih hB
    omega
theorem pv_le_snoc {B : Nat} {code : A → Nat} (hB : 2 ≤ B) (l : List A) (a : A) : pv B code l < pv B code (l ++ [a]) := by
  rw [pv_snoc]
  have h1 := pv_pos (code := code) hB l
  have : pv B code l * 2 ≤ pv B code l * B := Nat.mul_le_mul_left _ hB
  omega
/-- digits decide -/
theorem dig_lt {B u v c d : Nat} (hc : c < B) (hd : d < B) (h : u * B + c < v * B + d) : u < v ∨ u = v ∧ c < d := by
  rcases Nat.lt_trichotomy u v with h1 | h1 | h1
  · exact .inl h1
  · subst h1; exact .inr ⟨rfl, by omega⟩
  · exfalso
    have : (v + 1) * B ≤ u * B := Nat.mul_le_mul_right B h1
    rw [Nat.add_mul, Nat.one_mul] at this
    omega
theorem dig_lt' {B u v c d : Nat} (hc : c < B) (h : u < v) : u * B + c < v * B + d := by
  have : (u + 1) * B ≤ v * B := Nat.mul_le_mul_right B h
  rw [Nat.add_mul, Nat.one_mul] at this
  omega
theorem dig_eq {B u v c d : Nat} (hc : c < B) (hd : d < B) (h : u * B + c = v * B + d) : u = v ∧ c = d := by
  rcases Nat.lt_trichotomy u v with h1 | h1 | h1
  · have := dig_lt' (B := B) (d := d) hc h1; omega
  · subst h1; exact ⟨rfl, by omega⟩
  · have := dig_lt' (B := B) (d := c) hd h1; omega
theorem pv_inj {B : Nat} {code : A → Nat} {acts : List A} (hB : 2 ≤ B) (hc : ∀ a ∈ acts, code a < B) (hi : ∀ a ∈ acts, ∀ b ∈ acts, code a = code b → a = b) (l : List A) :
    ∀ m : List A, (∀ a ∈ l, a ∈ acts) → (∀ a ∈ m, a ∈ acts) → pv B code l = pv B code m → l = m := by
  induction l using snoc_induct with
  | h0 =>
    intro m _ hm h
    rcases List.eq_nil_or_concat m with rfl | ⟨m', b, rfl⟩
    · rfl
    · have := pv_le_snoc (code := code) hB m' b
      have h2 := pv_pos (code := code) hB m'
      rw [pv_nil] at h; rw [List.concat_eq_append] at h; omega
  | h1 l a ih =>
    intro m hl hm h
    rcases List.eq_nil_or_concat m with rfl | ⟨m', b, rfl⟩
    · have := pv_le_snoc (code := code) hB l a
      have h2 := pv_pos (code := code) hB l
      rw [pv_nil] at h; omega
    · rw [List.concat_eq_append] at hm h ⊢
      rw [pv_snoc, pv_snoc] at h
      have ha := hl a (by simp)
      have hb := hm b (by simp)
      obtain ⟨h1, h2⟩ := dig_eq (hc a ha) (hc b hb) h
      rw [ih m' (fun x hx => hl x (by simp [hx])) (fun x hx => hm x (by simp [hx])) h1, hi a ha b hb h2]
/-! ### The search -/
variable (st : S → A → Option S) (B : Nat) (code : A → Nat) (acts : List A) (b0 : S)
/-- what is found is in order, and all acts of the first h, and the first k of the next one, were tried -/
structure Search (L : List (S × List A)) (h k : Nat) : Prop where
  first : L[0]? = some (b0, [])
  way : ∀ q ∈ L, run st b0 q.2 = some q.1 ∧ ∀ a ∈ q.2, a ∈ acts
  sorted : L.Pairwise fun p q => pv B code p.2 < pv B code q.2
  apart : L.Pairwise fun p q => p.1 ≠ q.1
  done : ∀ (i j : Nat) (hi : i < L.length) (hj : j < acts.length), (i < h ∨ i = h ∧ j < k) → ∀ y, st L[i].1 acts[j] = some y → ∃ q ∈ L, q.1 = y ∧ pv B code q.2 ≤ pv B code (L[i].2 ++ [acts[j]])
  from_ : ∀ q ∈ L, q.2 = [] ∨ ∃ (i j : Nat) (hi : i < L.length) (hj : j < acts.length), (i < h ∨ i = h ∧ j < k) ∧ q.2 = L[i].2 ++ [acts[j]]
/-- the acts are told apart by their codes, in order -/
structure Coded : Prop where
  two : 2 ≤ B
  lt : ∀ a ∈ acts, code a < B
  inc : acts.Pairwise fun a b => code a < code b
variable {st B code acts b0}
theorem Coded.mono (C : Coded B code acts) {i j : Nat} (hi : i < acts.length) (hj : j < acts.length) : code acts[i] < code acts[j] ↔ i < j := by
  have hp := List.pairwise_iff_getElem.1 C.inc
  constructor
  · intro h
    rcases Nat.lt_trichotomy i j with h1 | h1 | h1
    · exact h1
    · subst h1; omega
    · have := hp j i hj hi h1; omega
  · exact fun h => hp i j hi hj h
theorem Coded.inj (C : Coded B code acts) : ∀ a ∈ acts, ∀ b ∈ acts, code a = code b → a = b := by
  intro a ha b hb h
  obtain ⟨i, hi, rfl⟩ := List.mem_iff_getElem.1 ha
  obtain ⟨j, hj, rfl⟩ := List.mem_iff_getElem.1 hb
  have h1 := C.mono hi hj
  have h2 := C.mono hj hi
  have : i = j := by omega
  subst this; rfl
theorem Search.start (C : Coded B code acts) : Search st B code acts b0 [(b0, [])] 0 0 where
  first := rfl
  way := by intro q hq; simp at hq; subst hq; exact ⟨rfl, fun a ha => by cases ha⟩
  sorted := by simp
  apart := by simp
  done := by intro i j hi hj h; omega
  from_ := by intro q hq; simp at hq; subst hq; exact .inl rfl
theorem Search.order {L : List (S × List A)} {h k : Nat} (I : Search st B code acts b0 L h k) {i j : Nat} (hi : i < L.length) (hj : j < L.length) : pv B code L[i].2 < pv B code L[j].2 ↔ i < j := by
  have hp := List.pairwise_iff_getElem.1 I.sorted
  constructor
  · intro h
    rcases Nat.lt_trichotomy i j with h1 | h1 | h1
    · exact h1
    · subst h1; omega
    · have := hp j i hj hi h1; omega
  · exact fun h => hp i j hi hj h
/-- all that was found is before what is tried next -/
theorem Search.before {L : List (S × List A)} {h k : Nat} (C : Coded B code acts) (I : Search st B code acts b0 L h k) (hh : h < L.length) (hk : k < acts.length) : ∀ q ∈ L, pv B code q.2 < pv B code (L[h].2 ++ [acts[k]]) := by
  intro q hq
  rcases I.from_ q hq with e | ⟨i, j, hi, hj, hp, e⟩
  · rw [e, pv_nil]
    have h1 := pv_le_snoc (code := code) C.two L[h].2 acts[k]
    have h2 := pv_pos (code := code) C.two L[h].2
    omega
  · rw [e, pv_snoc, pv_snoc]
    rcases hp with hp | ⟨rfl, hp⟩
    · exact dig_lt' (C.lt _ (List.getElem_mem hj)) ((I.order hi hh).2 hp)
    · have := (C.mono hj hk).2 hp; omega
/-- an act that cannot be done, or leads to what is known -/
theorem Search.skip {L : List (S × List A)} {h k : Nat} (C : Coded B code acts) (I : Search st B code acts b0 L h k) (hh : h < L.length) (hk : k < acts.length) (hs : ∀ y, st L[h].1 acts[k] = some y → ∃ q ∈ L, q.1 = y) : Search st B code acts b0 L h (k + 1) where
  first := I.first
  way := I.way
  sorted := I.sorted
  apart := I.apart
  done := by
    intro i j hi hj hp y hy
    by_cases e : i = h ∧ j = k
    · obtain ⟨rfl, rfl⟩ := e
      obtain ⟨q, hq, e⟩ := hs y hy
      exact ⟨q, hq, e, Nat.le_of_lt (I.before C hh hk q hq)⟩
    · exact I.done i j hi hj (by omega) y hy
  from_ := by
    intro q hq
    rcases I.from_ q hq with e | ⟨i, j, hi, hj, hp, e⟩
    · exact .inl e
    · exact .inr ⟨i, j, hi, hj, by omega, e⟩
/-- an act that leads to something new -/
theorem Search.push {L : List (S × List A)} {h k : Nat} (C : Coded B code acts) (I : Search st B code acts b0 L h k) (hh : h < L.length) (hk : k < acts.length) {y : S} (hy : st L[h].1 acts[k] = some y) (hn : ∀ q ∈ L, q.1 ≠ y) : Search st B code acts b0 (L ++ [(y, L[h].2 ++ [acts[k]])]) h (k + 1) := by
  have hw := I.way _ (List.getElem_mem hh)
  have hg : ∀ (i : Nat) (hi : i < L.length) (hi' : i < (L ++ [(y, L[h].2 ++ [acts[k]])]).length), (L ++ [(y, L[h].2 ++ [acts[k]])])[i] = L[i] := fun i hi hi' => List.getElem_append_left hi
  refine ⟨?_, ?_, ?_, ?_, ?_, ?_⟩
  · rw [List.getElem?_append_left (by omega)]; exact I.first
  · intro q hq
    rcases List.mem_append.1 hq with hq | hq
    · exact I.way q hq
    · simp at hq; subst hq
      refine ⟨by rw [run_snoc, hw.1]; exact hy, fun a ha => ?_⟩
      rcases List.mem_append.1 ha with ha | ha
      · exact hw.2 a ha
      · simp at ha; subst ha; exact List.getElem_mem hk
  · rw [List.pairwise_append]
    exact ⟨I.sorted, by simp, fun p hp q hq => by simp at hq; subst hq; exact I.before C hh hk p hp⟩
  · rw [List.pairwise_append]
    exact ⟨I.apart, by simp, fun p hp q hq => by simp at hq; subst hq; exact hn p hp⟩
  · intro i j hi hj hp z hz
    have hi' : i < L.length := by omega
    rw [hg i hi'] at hz ⊢
    by_cases e : i = h ∧ j = k
    · obtain ⟨rfl, rfl⟩ := e
      rw [hy] at hz
      obtain rfl := Option.some.inj hz
      exact ⟨_, List.mem_append_right _ (List.mem_singleton.2 rfl), rfl, Nat.le_refl _⟩
    · obtain ⟨q, hq, e1, e2⟩ := I.done i j hi' hj (by omega) z hz
      exact ⟨q, List.mem_append_left _ hq, e1, e2⟩
  · intro q hq
    rcases List.mem_append.1 hq with hq | hq
    · rcases I.from_ q hq with e | ⟨i, j, hi, hj, hp, e⟩
      · exact .inl e
      · exact .inr ⟨i, j, by simp; omega, hj, by omega, by rw [hg i hi]; exact e⟩
    · simp at hq; subst hq
      exact .inr ⟨h, k, by simp; omega, hk, by omega, by rw [hg h hh]⟩
/-- the next one -/
theorem Search.next {L : List (S × List A)} {h : Nat} (I : Search st B code acts b0 L h acts.length) : Search st B code acts b0 L (h + 1) 0 where
  first := I.first
  way := I.way
  sorted := I.sorted
  apart := I.apart
  done := by intro i j hi hj hp; exact I.done i j hi hj (by omega)
  from_ := by
    intro q hq
    rcases I.from_ q hq with e | ⟨i, j, hi, hj, hp, e⟩
    · exact .inl e
    · exact .inr ⟨i, j, hi, hj, by omega, e⟩
/-- what all ways lead to that lie before what is tried next was found, by no greater a way -/
theorem Search.covers {L : List (S × List A)} {h k : Nat} (C : Coded B code acts) (I : Search st B code acts b0 L h k) (r : List A) :
    (∀ a ∈ r, a ∈ acts) → (∀ (i j : Nat) (hi : i < L.length) (hj : j < acts.length), pv B code (L[i].2 ++ [acts[j]]) ≤ pv B code r → i < h ∨ i = h ∧ j < k) → ∀ y, run st b0 r = some y → ∃ q ∈ L, q.1 = y ∧ pv B code q.2 ≤ pv B code r := by
  induction r using snoc_induct with
  | h0 =>
    intro _ _ y hy
    simp only [run, Option.some.injEq] at hy
    subst hy
    exact ⟨_, List.mem_of_getElem? I.first, rfl, Nat.le_refl _⟩
  | h1 r d ih =>
    intro hr hp y hy
    rw [run_snoc] at hy
    obtain ⟨z, hz, hy⟩ := Option.bind_eq_some_iff.1 hy
    have hle := Nat.le_of_lt (pv_le_snoc (code := code) C.two r d)
    obtain ⟨q, hq, rfl, hq2⟩ := ih (fun a ha => hr a (by simp [ha])) (fun i j hi hj h => hp i j hi hj (Nat.le_trans h hle)) z hz
    obtain ⟨i, hi, rfl⟩ := List.mem_iff_getElem.1 hq
    obtain ⟨j, hj, rfl⟩ := List.mem_iff_getElem.1 (hr d (by simp))
    have hc : pv B code (L[i].2 ++ [acts[j]]) ≤ pv B code (r ++ [acts[j]]) := by
      rw [pv_snoc, pv_snoc]
      have := Nat.mul_le_mul_right B hq2
      omega
    obtain ⟨q, hq, e1, e2⟩ := I.done i j hi hj (hp i j hi hj hc) y hy
    exact ⟨q, hq, e1, Nat.le_trans e2 hc⟩
/-- the least way to a goal; none if there is none -/
def Least (st : S → A → Option S) (B : Nat) (code : A → Nat) (acts : List A) (b0 : S) (goal : S → Bool) : Option (List A) → Prop
  | some l => (∀ a ∈ l, a ∈ acts) ∧ (∃ x, run st b0 l = some x ∧ goal x = true) ∧ ∀ r, (∀ a ∈ r, a ∈ acts) → ∀ y, run st b0 r = some y → goal y = true → pv B code l ≤ pv B code r
  | none => ∀ r, (∀ a ∈ r, a ∈ acts) → ∀ y, run st b0 r = some y → goal y = false
/-- a goal at the head -/
theorem Search.at_head {L : List (S × List A)} {h : Nat} (C : Coded B code acts) (I : Search st B code acts b0 L h 0) (hh : h < L.length) {goal : S → Bool} (hg : goal L[h].1 = true) (hno : ∀ (i : Nat) (hi : i < L.length), i < h → goal L[i].1 = false) : Least st B code acts b0 goal (some L[h].2) := by
  have hw := I.way _ (List.getElem_mem hh)
  refine ⟨hw.2, ⟨_, hw.1, hg⟩, fun r hr y hy hgy => ?_⟩
  apply Nat.le_of_not_lt
  intro hlt
  obtain ⟨q, hq, rfl, hq2⟩ := I.covers C r hr (fun i j hi hj hc => .inl ((I.order hi hh).1 (by have := pv_le_snoc (code := code) C.two L[i].2 acts[j]; omega))) y hy
  obtain ⟨i, hi, rfl⟩ := List.mem_iff_getElem.1 hq
  have := hno i hi ((I.order hi hh).1 (by omega))
  rw [this] at hgy; cases hgy
/-- a goal that an act leads to -/
theorem Search.at_act {L : List (S × List A)} {h k : Nat} (C : Coded B code acts) (I : Search st B code acts b0 L h k) (hh : h < L.length) (hk : k < acts.length) {goal : S → Bool} {y : S} (hy : st L[h].1 acts[k] = some y) (hg : goal y = true) (hno : ∀ q ∈ L, goal q.1 = false) : Least st B code acts b0 goal (some (L[h].2 ++ [acts[k]])) := by
  have hw := I.way _ (List.getElem_mem hh)
  refine ⟨fun a ha => ?_, ⟨y, by rw [run_snoc, hw.1]; exact hy, hg⟩, fun r hr z hz hgz => ?_⟩
  · rcases List.mem_append.1 ha with ha | ha
    · exact hw.2 a ha
    · simp at ha; subst ha; exact List.getElem_mem hk
  · apply Nat.le_of_not_lt
    intro hlt
    obtain ⟨q, hq, rfl, _⟩ := I.covers C r hr (fun i j hi hj hc => by
      have h1 : pv B code (L[i].2 ++ [acts[j]]) < pv B code (L[h].2 ++ [acts[k]]) := by omega
      rw [pv_snoc, pv_snoc] at h1
      rcases dig_lt (C.lt _ (List.getElem_mem hj)) (C.lt _ (List.getElem_mem hk)) h1 with h2 | ⟨h2, h3⟩
      · exact .inl ((I.order hi hh).1 h2)
      · refine .inr ⟨?_, (C.mono hj hk).1 h3⟩
        have a1 := (I.order hi hh).2
        have a2 := (I.order hh hi).2
        omega) z hz
    rw [hno q hq] at hgz; cases hgz
/-- nothing left to try -/
theorem Search.at_end {L : List (S × List A)} (C : Coded B code acts) (I : Search st B code acts b0 L L.length 0) {goal : S → Bool} (hno : ∀ q ∈ L, goal q.1 = false) : Least st B code acts b0 goal none := by
  intro r hr y hy
  obtain ⟨q, hq, rfl, _⟩ := I.covers C r hr (fun i j hi hj _ => .inl hi) y hy
  exact hno q hq
theorem Least.unique (C : Coded B code acts) {goal : S → Bool} {r r' : Option (List A)} (h : Least st B code acts b0 goal r) (h' : Least st B code acts b0 goal r') : r = r' := by
  cases r with
  | none =>
    cases r' with
    | none => rfl
    | some l =>
      obtain ⟨x, hx, hg⟩ := h'.2.1
      rw [h l h'.1 x hx] at hg; cases hg
  | some l =>
    cases r' with
    | none =>
      obtain ⟨x, hx, hg⟩ := h.2.1
      rw [h' l h.1 x hx] at hg; cases hg
    | some m =>
      obtain ⟨x, hx, hg⟩ := h.2.1
      obtain ⟨y, hy, hg'⟩ := h'.2.1
      have h1 := h.2.2 m h'.1 y hy hg'
      have h2 := h'.2.2 l h.1 x hx hg
      rw [pv_inj C.two C.lt C.inj l m h.1 h'.1 (by omega)]
end
end Bal.Mast

/-
  Plans at the mast: more people on the lines lead to no other places. No program in sight.
-/
namespace Bal.Mast
open Bal.Trim
set_option linter.unusedVariables false
/-- an act in a wind: where it leads -/
def stepB (p : Port) (w : Wind) (b : Berth) (a : Deed) : Option Berth := if doE p b ⟨a, w⟩ = 0 then some (doB p b ⟨a, w⟩) else none
def goalB (s : Int) (b : Berth) : Bool := decide (b.ship = s)
/-- the numbers from lo on, n of them -/
def upFrom (lo : Int) (n : Nat) : List Int := (List.range n).map fun i : Nat => lo + (i : Int)
theorem mem_upFrom {lo x : Int} {n : Nat} : x ∈ upFrom lo n ↔ lo ≤ x ∧ x < lo + n := by
  simp only [upFrom, List.mem_map, List.mem_range]
  constructor
  · rintro ⟨i, hi, rfl⟩; omega
  · intro h; exact ⟨(x - lo).toNat, by omega, by omega⟩
/-- the numbers that an act of a kind is tried with: the program's, the reference's -/
def numsP (p : Port) (k : Int) : List Int := if k = 2 then upFrom (needP p) (min (needP p) p.people - needP p + 1).toNat else if k = 9 then upFrom 0 p.axes.length else [0]
def numsR (p : Port) (k : Int) : List Int := if k = 2 then upFrom (needP p) (p.people - needP p + 1).toNat else if k = 9 then upFrom 0 p.axes.length else [0]
def actsOf (nums : Int → List Int) : List Deed := (upFrom 1 13).flatMap fun k => (nums k).map fun n => ⟨k, n⟩
def codeD (a : Deed) : Nat := a.kind.toNat * 256 + a.n.toNat
theorem mem_acts {nums : Int → List Int} {a : Deed} : a ∈ actsOf nums ↔ (1 ≤ a.kind ∧ a.kind ≤ 13) ∧ a.n ∈ nums a.kind := by
  simp only [actsOf, List.mem_flatMap, List.mem_map, mem_upFrom]
  constructor
  · rintro ⟨k, hk, n, hn, rfl⟩; exact ⟨by simp only; omega, hn⟩
  · rintro ⟨hk, hn⟩; exact ⟨a.kind, by omega, a.n, hn, rfl⟩
theorem upFrom_inc (lo : Int) (n : Nat) : (upFrom lo n).Pairwise (· < ·) := by
  unfold upFrom
  rw [List.pairwise_map]
  exact List.Pairwise.imp (fun h => by omega) List.pairwise_lt_range
theorem coded {nums : Int → List Int} (hb : ∀ k, 1 ≤ k → k ≤ 13 → (∀ n ∈ nums k, 0 ≤ n ∧ n ≤ 255) ∧ (nums k).Pairwise (· < ·)) : Coded 4096 codeD (actsOf nums) where
  two := by omega
  lt := by
    intro a ha
    obtain ⟨h1, h2⟩ := mem_acts.1 ha
    have := (hb a.kind h1.1 h1.2).1 _ h2
    unfold codeD
    omega
  inc := by
    unfold actsOf
    rw [List.pairwise_flatMap]
    refine ⟨fun k hk => ?_, ?_⟩
    · have h1 := mem_upFrom.1 hk
      rw [List.pairwise_map]
      obtain ⟨q1, q2⟩ := hb k h1.1 (by omega)
      exact List.Pairwise.imp_of_mem (fun {x y} hx hy hxy => by have := q1 x hx; have := q1 y hy; unfold codeD; simp only; omega) q2
    · refine List.Pairwise.imp_of_mem (fun {j k} hj hk hjk => ?_) (upFrom_inc 1 13)
      have h1 := mem_upFrom.1 hj
      have h2 := mem_upFrom.1 hk
      intro x hx y hy
      obtain ⟨n, hn, rfl⟩ := List.mem_map.1 hx
      obtain ⟨m, hm, rfl⟩ := List.mem_map.1 hy
      have q1 := (hb j h1.1 (by omega)).1 n hn
      have q2 := (hb k h2.1 (by omega)).1 m hm
      unfold codeD; simp only; omega
theorem nums_ok {p : Port} (hp : portB p = true) : (∀ k, 1 ≤ k → k ≤ 13 → (∀ n ∈ numsP p k, 0 ≤ n ∧ n ≤ 255) ∧ (numsP p k).Pairwise (· < ·)) ∧ (∀ k, 1 ≤ k → k ≤ 13 → (∀ n ∈ numsR p k, 0 ≤ n ∧ n ≤ 255) ∧ (numsR p k).Pairwise (· < ·)) := by
  have hb := portB_bd hp
  have hn := needP_bd hp
  constructor
  · intro k _ _
    unfold numsP
    split
    · exact ⟨fun n hn => by have := mem_upFrom.1 hn; omega, upFrom_inc _ _⟩
    · split
      · exact ⟨fun n hn => by have := mem_upFrom.1 hn; omega, upFrom_inc _ _⟩
      · exact ⟨fun n hn => by simp at hn; omega, by simp⟩
  · intro k _ _
    unfold numsR
    split
    · exact ⟨fun n hn => by have := mem_upFrom.1 hn; omega, upFrom_inc _ _⟩
    · split
      · exact ⟨fun n hn => by have := mem_upFrom.1 hn; omega, upFrom_inc _ _⟩
      · exact ⟨fun n hn => by simp at hn; omega, by simp⟩
/-- what an act does to a valid berth is valid -/
theorem doErr_parts {p : Port} {b : Berth} {s : Step} (h : doErr p b s = 0) : portB p = true ∧ berthB p b = true ∧ windB s.wind = true ∧ 1 ≤ s.act.kind ∧ s.act.kind ≤ 13 := by
  unfold doErr at h
  by_cases c1 : checkBerth p b = 0
  · rw [if_pos c1] at h
    unfold checkBerth at c1
    cases c2 : windB s.wind
    · rw [c2] at h; simp at h
    · rw [c2] at h
      cases c3 : inB s.act.kind 1 13
      · rw [c3] at h; simp at h
      · have := inB_iff.1 c3
        cases c4 : portB p
        · rw [c4] at c1; simp at c1
        · cases c5 : berthB p b
          · rw [c4, c5] at c1; simp at c1
          · exact ⟨rfl, rfl, rfl, this.1, this.2⟩
  · rw [if_neg c1] at h; exact absurd h c1
theorem doE_zero {p : Port} {b : Berth} {s : Step} : doE p b s = 0 ↔ doErr p b s = 0 ∧ tryR p (dockOf p b s) s.act.kind = 0 := by
  unfold doE doRule
  by_cases h : doErr p b s = 0
  · rw [if_pos h, if_pos h]
    by_cases h2 : tryR p (dockOf p b s) s.act.kind = 0
    · simp [h, h2]
    · simp [h, h2]
  · rw [if_neg h]
    simp [h]
theorem doB_done {p : Port} {b : Berth} {s : Step} (h : doE p b s = 0) : doB p b s = doneB (dockOf p b s) s.act.kind := by unfold doB; rw [if_pos h]
theorem berthB_of {p : Port} {b : Berth} (h1 : b.ship ≤ 5) (h2 : 0 ≤ b.axis) (h3 : b.axis ≤ p.axes.length - 1) (h4 : b.held = 0 ∨ needP p ≤ b.held ∧ b.held ≤ p.people) (h5 : shipB b = true) : berthB p b = true := by
  simp only [berthB, fitsB, Bool.and_eq_true, Bool.or_eq_true, decide_eq_true_eq, inB_iff]
  exact ⟨⟨⟨h1, h2, h3⟩, h4⟩, h5⟩
theorem kept_valid {p : Port} {b : Berth} {s : Step} (h0 : 0 ≤ b.ship) (h : doE p b s = 0) : berthB p (doB p b s) = true := by
  rw [doB_done h]
  obtain ⟨he, ht⟩ := doE_zero.1 h
  obtain ⟨hp, hb, _, k1, k2⟩ := doErr_parts he
  have hnd := needP_bd hp
  obtain ⟨h5, ⟨ha1, ha2⟩, hh, hs⟩ := berth_parts hb
  have hall := firstNot_zero ht
  obtain ⟨⟨t, n⟩, wd⟩ := s
  obtain ⟨sh, ax, he', wi, op⟩ := b
  simp only [dockOf] at *
  rcases ship_parts hs h5 h0 with ⟨e, q⟩ | ⟨e, q⟩ | ⟨e, q⟩ | ⟨e, q⟩ | ⟨e, q⟩ | ⟨e, q⟩ <;> (simp only at e q; subst e) <;>
  rcases (by omega : t = 1 ∨ t = 2 ∨ t = 3 ∨ t = 4 ∨ t = 5 ∨ t = 6 ∨ t = 7 ∨ t = 8 ∨ t = 9 ∨ t = 10 ∨ t = 11 ∨ t = 12 ∨ t = 13) with rfl | rfl | rfl | rfl | rfl | rfl | rfl | rfl | rfl | rfl | rfl | rfl | rfl <;>
  first
  | (exfalso; simp [rulesOf, away, reached, tied, lined, masted, housed, walking, fast, still] at hall; done)
  | (simp [rulesOf, away, reached, tied, lined, masted, housed, walking, fast, still, loose, bare, gripped, crew, elsewhere, shut, wired, opened, inB_iff] at hall
     refine berthB_of ?_ ?_ ?_ ?_ ?_ <;> simp [doneB, toShip, shipB, fast, masted, housed, hall] <;> first | omega | (simp_all; done) | (simp_all; omega))
/-- two berths that differ in how many people hold the lines alone -/
def Alike (p : Port) (x y : Berth) : Prop := (0 ≤ x.ship ∧ berthB p x = true) ∧ (berthB p y = true) ∧ x.ship = y.ship ∧ x.axis = y.axis ∧ x.wire = y.wire ∧ x.opn = y.opn ∧ (x.held = 0 ↔ y.held = 0)
/-- as few people as are needed -/
def fewest (p : Port) (a : Deed) : Deed := if a.kind = 2 then ⟨2, needP p⟩ else a
theorem alike_step {p : Port} {w : Wind} {x y x' : Berth} {a : Deed} (hxy : Alike p x y) (ha : a ∈ actsOf (numsR p)) (h : stepB p w x a = some x') : ∃ y', stepB p w y (fewest p a) = some y' ∧ Alike p x' y' := by
  obtain ⟨⟨hx0, hxv⟩, hyv, e1, e2, e3, e4, e5⟩ := hxy
  unfold stepB at h ⊢
  split at h
  · rename_i hd
    obtain rfl := Option.some.inj h
    obtain ⟨he, ht⟩ := doE_zero.1 hd
    obtain ⟨hp, hb, hw, k1, k2⟩ := doErr_parts he
    have hnd := needP_bd hp
    obtain ⟨_, hn⟩ := mem_acts.1 ha
    have hxh := (berth_parts hxv).2.2.1
    have hyh := (berth_parts hyv).2.2.1
    have hall := firstNot_zero ht
    obtain ⟨t, n⟩ := a
    obtain ⟨sh, ax, he', wi, op⟩ := x
    obtain ⟨sh2, ax2, he2, wi2, op2⟩ := y
    simp only at *
    subst e1 e2 e3 e4
    have hdo : doErr p ⟨sh, ax, he2, wi, op⟩ ⟨fewest p ⟨t, n⟩, w⟩ = 0 := by
      unfold doErr checkBerth
      have hk : (fewest p ⟨t, n⟩).kind = t := by unfold fewest; simp only; split <;> simp [*]
      simp only [hp, hyv, hw, if_true, hk]
      rw [if_pos (inB_iff.2 ⟨k1, k2⟩)]
    have htr : tryR p (dockOf p ⟨sh, ax, he2, wi, op⟩ ⟨fewest p ⟨t, n⟩, w⟩) (fewest p ⟨t, n⟩).kind = 0 := by
      have g1 : decide (0 < he2) = decide (0 < he') := by apply decide_eq_decide.2; omega
      have g2 : decide (he2 = 0) = decide (he' = 0) := by apply decide_eq_decide.2; omega
      by_cases ht2 : t = 2
      · subst ht2
        have q1 := hall (reached ⟨⟨sh, ax, he', wi, op⟩, needP p, w, n⟩) (by simp [rulesOf, dockOf])
        have q2 := hall (loose ⟨⟨sh, ax, he', wi, op⟩, needP p, w, n⟩) (by simp [rulesOf, dockOf])
        have q3 := hall (crew p ⟨⟨sh, ax, he', wi, op⟩, needP p, w, n⟩) (by simp [rulesOf, dockOf])
        refine firstNot_all (fun x hx => ?_)
        have hx' : x ∈ rulesOf p ⟨⟨sh, ax, he2, wi, op⟩, needP p, w, needP p⟩ 2 := hx
        simp only [rulesOf, List.mem_cons, List.not_mem_nil, or_false] at hx'
        rcases hx' with rfl | rfl | rfl
        · exact q1
        · unfold loose at q2 ⊢; simp only at q2 ⊢; rw [g2]; exact q2
        · unfold crew at q3 ⊢
          simp only [inB_iff] at q3 ⊢
          omega
      · have hf : fewest p ⟨t, n⟩ = ⟨t, n⟩ := by unfold fewest; rw [if_neg ht2]
        rw [hf]
        have q1 : gripped (dockOf p ⟨sh, ax, he2, wi, op⟩ ⟨⟨t, n⟩, w⟩) = gripped (dockOf p ⟨sh, ax, he', wi, op⟩ ⟨⟨t, n⟩, w⟩) := g1
        have q2 : loose (dockOf p ⟨sh, ax, he2, wi, op⟩ ⟨⟨t, n⟩, w⟩) = loose (dockOf p ⟨sh, ax, he', wi, op⟩ ⟨⟨t, n⟩, w⟩) := g2
        have hr : rulesOf p (dockOf p ⟨sh, ax, he2, wi, op⟩ ⟨⟨t, n⟩, w⟩) t = rulesOf p (dockOf p ⟨sh, ax, he', wi, op⟩ ⟨⟨t, n⟩, w⟩) t := by
          rcases (by omega : t = 1 ∨ t = 3 ∨ t = 4 ∨ t = 5 ∨ t = 6 ∨ t = 7 ∨ t = 8 ∨ t = 9 ∨ t = 10 ∨ t = 11 ∨ t = 12 ∨ t = 13) with rfl | rfl | rfl | rfl | rfl | rfl | rfl | rfl | rfl | rfl | rfl | rfl <;>
          simp only [rulesOf] <;> first | rfl | (rw [q1]; rfl) | (rw [q2]; rfl)
        unfold tryR at ht ⊢
        rw [hr]; exact ht
    have hd2 : doE p ⟨sh, ax, he2, wi, op⟩ ⟨fewest p ⟨t, n⟩, w⟩ = 0 := doE_zero.2 ⟨hdo, htr⟩
    refine ⟨_, by rw [if_pos hd2], ⟨doB_ship hx0, kept_valid hx0 hd⟩, kept_valid (b := ⟨sh, ax, he2, wi, op⟩) hx0 hd2, ?_⟩
    rw [doB_done hd, doB_done hd2]
    by_cases ht2 : t = 2
    · subst ht2
      have q3 := hall (crew p ⟨⟨sh, ax, he', wi, op⟩, needP p, w, n⟩) (by simp [rulesOf, dockOf])
      unfold crew at q3
      simp only [inB_iff] at q3
      refine ⟨rfl, rfl, rfl, rfl, ?_⟩
      show n = 0 ↔ needP p = 0
      omega
    · have hf : fewest p ⟨t, n⟩ = ⟨t, n⟩ := by unfold fewest; rw [if_neg ht2]
      rw [hf]
      rcases (by omega : t = 1 ∨ t = 3 ∨ t = 4 ∨ t = 5 ∨ t = 6 ∨ t = 7 ∨ t = 8 ∨ t = 9 ∨ t = 10 ∨ t = 11 ∨ t = 12 ∨ t = 13) with rfl | rfl | rfl | rfl | rfl | rfl | rfl | rfl | rfl | rfl | rfl | rfl <;>
      exact ⟨rfl, rfl, rfl, rfl, by first | exact e5 | exact Iff.rfl⟩
  · cases h
theorem alike_run {p : Port} {w : Wind} : ∀ {r : List Deed} {x y z : Berth}, Alike p x y → (∀ a ∈ r, a ∈ actsOf (numsR p)) → run (stepB p w) x r = some z → ∃ z', run (stepB p w) y (r.map (fewest p)) = some z' ∧ Alike p z z'
  | [], x, y, z, h, _, hr => by
    simp only [run, Option.some.injEq] at hr
    subst hr
    exact ⟨y, rfl, h⟩
  | a :: r, x, y, z, h, ha, hr => by
    simp only [run] at hr
    obtain ⟨x', h1, h2⟩ := Option.bind_eq_some_iff.1 hr
    obtain ⟨y', h3, h4⟩ := alike_step h (ha a (by simp)) h1
    obtain ⟨z', h5, h6⟩ := alike_run h4 (fun b hb => ha b (by simp [hb])) h2
    exact ⟨z', by simp only [List.map_cons, run, h3, Option.bind_some]; exact h5, h6⟩
theorem fewest_mem {p : Port} {a : Deed} (h : a ∈ actsOf (numsR p)) : fewest p a ∈ actsOf (numsP p) := by
  obtain ⟨h1, h2⟩ := mem_acts.1 h
  unfold fewest
  split
  · rename_i e
    rw [e] at h2
    unfold numsR at h2
    rw [if_pos rfl, mem_upFrom] at h2
    refine mem_acts.2 ⟨by simp, ?_⟩
    unfold numsP
    rw [if_pos rfl, mem_upFrom]
    simp only
    omega
  · rename_i e
    refine mem_acts.2 ⟨h1, ?_⟩
    unfold numsR at h2
    unfold numsP
    rw [if_neg e] at h2 ⊢
    exact h2
theorem actsP_sub {p : Port} {a : Deed} (h : a ∈ actsOf (numsP p)) : a ∈ actsOf (numsR p) := by
  obtain ⟨h1, h2⟩ := mem_acts.1 h
  refine mem_acts.2 ⟨h1, ?_⟩
  unfold numsP at h2
  unfold numsR
  split at h2
  · rename_i e
    rw [if_pos e]
    rw [mem_upFrom] at h2 ⊢
    omega
  · rename_i e
    rw [if_neg e]
    exact h2
theorem fewest_le {p : Port} (hp : portB p = true) {a : Deed} (h : a ∈ actsOf (numsR p)) : codeD (fewest p a) ≤ codeD a := by
  obtain ⟨h1, h2⟩ := mem_acts.1 h
  unfold fewest
  split
  · rename_i e
    rw [e] at h2
    unfold numsR at h2
    rw [if_pos rfl, mem_upFrom] at h2
    have := needP_bd hp
    unfold codeD
    rw [e]
    simp only
    omega
  · exact Nat.le_refl _
theorem pv_fewest {p : Port} (hp : portB p = true) (r : List Deed) : (∀ a ∈ r, a ∈ actsOf (numsR p)) → pv 4096 codeD (r.map (fewest p)) ≤ pv 4096 codeD r := by
  induction r using snoc_induct with
  | h0 => intro _; exact Nat.le_refl _
  | h1 r a ih =>
    intro h
    rw [List.map_append, List.map_singleton, pv_snoc, pv_snoc]
    have h1 := ih (fun b hb => h b (by simp [hb]))
    have h2 := fewest_le hp (h a (by simp))
    omega
/-- the least plan with as few people as are needed is the least of all -/
theorem plan_same {p : Port} {w : Wind} {b : Berth} {s : Int} (hp : portB p = true) (h0 : 0 ≤ b.ship) (hb : berthB p b = true) {r : Option (List Deed)} (h : Least (stepB p w) 4096 codeD (actsOf (numsP p)) b (goalB s) r) :
    Least (stepB p w) 4096 codeD (actsOf (numsR p)) b (goalB s) r := by
  have hself : Alike p b b := ⟨⟨h0, hb⟩, hb, rfl, rfl, rfl, rfl, Iff.rfl⟩
  have key : ∀ q : List Deed, (∀ a ∈ q, a ∈ actsOf (numsR p)) → ∀ y, run (stepB p w) b q = some y → ∃ y', run (stepB p w) b (q.map (fewest p)) = some y' ∧ y.ship = y'.ship := fun q hq y hy => by
    obtain ⟨y', h1, h2⟩ := alike_run hself hq hy
    exact ⟨y', h1, h2.2.2.1⟩
  have hmap : ∀ q : List Deed, (∀ a ∈ q, a ∈ actsOf (numsR p)) → ∀ a ∈ q.map (fewest p), a ∈ actsOf (numsP p) := fun q hq a ha => by
    obtain ⟨c, hc, rfl⟩ := List.mem_map.1 ha
    exact fewest_mem (hq c hc)
  cases r with
  | none =>
    intro q hq y hy
    obtain ⟨y', h1, h2⟩ := key q hq y hy
    have := h _ (hmap q hq) y' h1
    unfold goalB at this ⊢
    rw [h2]; exact this
  | some l =>
    refine ⟨fun a ha => actsP_sub (h.1 a ha), h.2.1, fun q hq y hy hg => ?_⟩
    obtain ⟨y', h1, h2⟩ := key q hq y hy
    have := h.2.2 _ (hmap q hq) y' h1 (by unfold goalB at hg ⊢; rw [← h2]; exact hg)
    exact Nat.le_trans this (pv_fewest hp q hq)
end Bal.Mast

/-
  A search among valid berths ends: what it finds differs, and there are but so many. No program in sight.
-/
namespace Bal.Mast
open Bal.Trim
set_option linter.unusedVariables false
theorem pigeon : ∀ (N : Nat) (l : List Nat), l.Nodup → (∀ x ∈ l, x < N) → l.length ≤ N
  | 0, l, _, h => by
    cases l with
    | nil => simp
    | cons x l => exact absurd (h x (by simp)) (Nat.not_lt_zero _)
  | N + 1, l, hd, h => by
    by_cases hm : N ∈ l
    · have h1 := pigeon N (l.erase N) (hd.erase N) (fun x hx => by
        have h2 := (hd.mem_erase_iff).1 hx
        have := h x h2.2
        have := h2.1
        omega)
      have h2 := List.length_erase_of_mem hm
      omega
    · have := pigeon N l hd (fun x hx => by
        have h1 := h x hx
        have : x ≠ N := fun e => hm (e ▸ hx)
        omega)
      omega
def bitN (x : Bool) : Nat := if x then 1 else 0
theorem bitN_lt (x : Bool) : bitN x < 2 := by cases x <;> decide
theorem bitN_inj {x y : Bool} (h : bitN x = bitN y) : x = y := by cases x <;> cases y <;> simp [bitN] at h ⊢
/-- a valid berth's number -/
def codeB (b : Berth) : Nat := (((b.ship.toNat * 32 + b.axis.toNat) * 201 + b.held.toNat) * 2 + bitN b.wire) * 2 + bitN b.opn
theorem berth_bd {p : Port} (hp : portB p = true) {b : Berth} (h : berthB p b = true) : b.ship ≤ 5 ∧ (0 ≤ b.axis ∧ b.axis ≤ 31) ∧ (0 ≤ b.held ∧ b.held ≤ 200) := by
  have h1 := berth_parts h
  have h2 := portB_bd hp
  have h3 := needP_bd hp
  omega
theorem codeB_lt {p : Port} (hp : portB p = true) {b : Berth} (h : berthB p b = true) : codeB b < 154368 := by
  have h1 := berth_bd hp h
  have h2 := bitN_lt b.wire
  have h3 := bitN_lt b.opn
  unfold codeB
  omega
theorem codeB_inj {p : Port} (hp : portB p = true) {x y : Berth} (hx : berthB p x = true) (hy : berthB p y = true) (sx : 0 ≤ x.ship) (sy : 0 ≤ y.ship) (h : codeB x = codeB y) : x = y := by
  have h1 := berth_bd hp hx
  have h2 := berth_bd hp hy
  have a1 := bitN_lt x.wire
  have a2 := bitN_lt x.opn
  have a3 := bitN_lt y.wire
  have a4 := bitN_lt y.opn
  unfold codeB at h
  have e1 : bitN x.opn = bitN y.opn := by omega
  have e2 : bitN x.wire = bitN y.wire := by omega
  obtain ⟨xs, xa, xh, xw, xo⟩ := x
  obtain ⟨ys, ya, yh, yw, yo⟩ := y
  simp only at *
  obtain rfl := bitN_inj e1
  obtain rfl := bitN_inj e2
  have e3 : xs = ys := by omega
  have e4 : xa = ya := by omega
  have e5 : xh = yh := by omega
  rw [e3, e4, e5]
theorem run_valid {p : Port} {w : Wind} : ∀ {r : List Deed} {x y : Berth}, 0 ≤ x.ship → berthB p x = true → run (stepB p w) x r = some y → 0 ≤ y.ship ∧ berthB p y = true
  | [], x, y, h0, hb, h => by
    simp only [run, Option.some.injEq] at h
    subst h
    exact ⟨h0, hb⟩
  | a :: r, x, y, h0, hb, h => by
    simp only [run] at h
    obtain ⟨z, h1, h2⟩ := Option.bind_eq_some_iff.1 h
    unfold stepB at h1
    split at h1
    · rename_i hd
      obtain rfl := Option.some.inj h1
      exact run_valid (doB_ship h0) (kept_valid h0 hd) h2
    · cases h1
section
variable {p : Port} {w : Wind} {B : Nat} {code : Deed → Nat} {acts : List Deed} {b : Berth} {L : List (Berth × List Deed)} {h k : Nat}
theorem Search.valid (I : Search (stepB p w) B code acts b L h k) (h0 : 0 ≤ b.ship) (hb : berthB p b = true) : ∀ q ∈ L, 0 ≤ q.1.ship ∧ berthB p q.1 = true :=
  fun q hq => run_valid h0 hb (I.way q hq).1
theorem Search.few (I : Search (stepB p w) B code acts b L h k) (hp : portB p = true) (h0 : 0 ≤ b.ship) (hb : berthB p b = true) : L.length ≤ 154368 := by
  have hv := I.valid h0 hb
  have := pigeon 154368 (L.map fun q => codeB q.1) (by
    unfold List.Nodup
    rw [List.pairwise_map]
    refine List.Pairwise.imp_of_mem (fun {x y} hx hy hxy => ?_) I.apart
    exact fun e => hxy (codeB_inj hp (hv x hx).2 (hv y hy).2 (hv x hx).1 (hv y hy).1 e)) (fun n hn => by
    obtain ⟨q, hq, rfl⟩ := List.mem_map.1 hn
    exact codeB_lt hp (hv q hq).2)
  rwa [List.length_map] at this
theorem Search.lens (C : Coded B code acts) (I : Search (stepB p w) B code acts b L h k) : ∀ (i : Nat) (hi : i < L.length), L[i].2.length ≤ i := by
  intro i
  induction i using Nat.strongRecOn with
  | ind i ih =>
    intro hi
    rcases I.from_ _ (List.getElem_mem hi) with e | ⟨j, m, hj, hm, _, e⟩
    · rw [e]; simp
    · have h1 : j < i := (I.order hj hi).1 (by rw [e]; exact pv_le_snoc C.two _ _)
      have h2 := ih j h1 hj
      rw [e, List.length_append, List.length_singleton]
      omega
end
/-- there already -/
theorem Least.here {S A : Type} {st : S → A → Option S} {B : Nat} {code : A → Nat} {acts : List A} {b : S} {goal : S → Bool} (C : Coded B code acts) (h : goal b = true) : Least st B code acts b goal (some []) := by
  show (∀ a ∈ ([] : List A), a ∈ acts) ∧ (∃ x, run st b [] = some x ∧ goal x = true) ∧ ∀ r : List A, (∀ a ∈ r, a ∈ acts) → ∀ y, run st b r = some y → goal y = true → pv B code [] ≤ pv B code r
  refine ⟨fun a ha => (by cases ha), ⟨b, rfl, h⟩, fun r _ y _ _ => ?_⟩
  rw [pv_nil]; exact pv_pos C.two r
end Bal.Mast

/-
  A search in breadth, carried out: what it answers is the least way. No program in sight.
-/
namespace Bal.Mast
open Bal.Trim
set_option linter.unusedVariables false
section
variable {S A : Type} [DecidableEq S]
def tryActs (st : S → A → Option S) (goal : S → Bool) (x : S) (path : List A) : List A → List (S × List A) → Except (List A) (List (S × List A))
  | [], L => .ok L
  | a :: rest, L => match st x a with
    | none => tryActs st goal x path rest L
    | some y => if L.any (fun q => decide (q.1 = y)) then tryActs st goal x path rest L else if goal y then .error (path ++ [a]) else tryActs st goal x path rest (L ++ [(y, path ++ [a])])
def bfs (st : S → A → Option S) (goal : S → Bool) (acts : List A) : Nat → Nat → List (S × List A) → Option (Option (List A))
  | 0, _, _ => none
  | f + 1, h, L => match L[h]? with
    | none => some none
    | some q => match tryActs st goal q.1 q.2 acts L with
      | .error r => some (some r)
      | .ok L' => bfs st goal acts f (h + 1) L'
variable {st : S → A → Option S} {B : Nat} {code : A → Nat} {acts : List A} {b0 : S} {goal : S → Bool}
theorem tryActs_is (C : Coded B code acts) {h : Nat} {x : S} {path : List A} : ∀ (rest : List A) (k : Nat) (L : List (S × List A)), Search st B code acts b0 L h k → L[h]? = some (x, path) → acts.drop k = rest → k ≤ acts.length → (∀ q ∈ L, goal q.1 = false) →
    match tryActs st goal x path rest L with
    | .error r => Least st B code acts b0 goal (some r)
    | .ok L' => Search st B code acts b0 L' h acts.length ∧ (∀ q ∈ L', goal q.1 = false) ∧ L.length ≤ L'.length
  | [], k, L, I, hx, hd, hk, hg => by
    have : k = acts.length := by
      have := congrArg List.length hd
      simp at this; omega
    subst this
    exact ⟨I, hg, Nat.le_refl _⟩
  | a :: rest, k, L, I, hx, hd, hk, hg => by
    have hka : k < acts.length := by
      have := congrArg List.length hd
      simp at this; omega
    rw [List.drop_eq_getElem_cons hka] at hd
    obtain ⟨ha, hd⟩ := List.cons.inj hd
    obtain ⟨hh, he⟩ := List.getElem?_eq_some_iff.1 hx
    have e1 : L[h].1 = x := by rw [he]
    have e2 : L[h].2 = path := by rw [he]
    unfold tryActs
    cases hs : st x a with
    | none =>
      simp only
      exact tryActs_is C rest (k + 1) L (I.skip C hh hka (fun y hy => by rw [e1, ha, hs] at hy; cases hy)) hx hd hka hg
    | some y =>
      simp only
      cases hn : L.any (fun q => decide (q.1 = y)) with
      | true =>
        simp only [if_true]
        refine tryActs_is C rest (k + 1) L (I.skip C hh hka (fun z hz => ?_)) hx hd hka hg
        rw [e1, ha, hs] at hz
        obtain rfl := Option.some.inj hz
        obtain ⟨q, hq, hqe⟩ := List.any_eq_true.1 hn
        exact ⟨q, hq, of_decide_eq_true hqe⟩
      | false =>
        have hno : ∀ q ∈ L, q.1 ≠ y := fun q hq e => by
          have := List.any_eq_false.1 hn q hq
          simp [e] at this
        have hy : st L[h].1 acts[k] = some y := by rw [e1, ha]; exact hs
        cases hgy : goal y with
        | true =>
          have := I.at_act C hh hka hy hgy hg
          rw [e2, ha] at this
          simpa using this
        | false =>
          have I2 := I.push C hh hka hy hno
          rw [e2, ha] at I2
          have := tryActs_is C rest (k + 1) _ I2 (by rw [List.getElem?_append_left hh]; exact hx) hd hka (fun q hq => by
            rcases List.mem_append.1 hq with hq | hq
            · exact hg q hq
            · simp at hq; subst hq; exact hgy)
          simp only [Bool.false_eq_true, if_false]
          cases ht : tryActs st goal x path rest (L ++ [(y, path ++ [a])]) with
          | error r => rw [ht] at this; exact this
          | ok L' =>
            rw [ht] at this
            refine ⟨this.1, this.2.1, ?_⟩
            have := this.2.2
            simp at this; omega
theorem bfs_least (C : Coded B code acts) : ∀ (f h : Nat) (L : List (S × List A)) (r : Option (List A)), Search st B code acts b0 L h 0 → h ≤ L.length → (∀ q ∈ L, goal q.1 = false) → bfs st goal acts f h L = some r → Least st B code acts b0 goal r
  | 0, h, L, r, _, _, _, hr => by cases hr
  | f + 1, h, L, r, I, hh, hg, hr => by
    unfold bfs at hr
    cases hx : L[h]? with
    | none =>
      rw [hx] at hr
      simp only [Option.some.injEq] at hr
      subst hr
      have : h = L.length := by have := List.getElem?_eq_none_iff.1 hx; omega
      subst this
      exact I.at_end C hg
    | some q =>
      rw [hx] at hr
      simp only at hr
      have := tryActs_is (goal := goal) C acts 0 L I (x := q.1) (path := q.2) hx rfl (Nat.zero_le _) hg
      cases ht : tryActs st goal q.1 q.2 acts L with
      | error r' =>
        rw [ht] at hr this
        simp only [Option.some.injEq] at hr
        subst hr
        exact this
      | ok L' =>
        rw [ht] at hr this
        simp only at hr this
        have hl := (List.getElem?_eq_some_iff.1 hx).1
        exact bfs_least C f (h + 1) L' r this.1.next (by omega) this.2.1 hr
end
/-! ### The examples of the chapter -/
def exPort : Port := ⟨[⟨1, 0⟩, ⟨3, 4⟩, ⟨0, 1⟩], 12, 100, [⟨0, 300⟩, ⟨10, 500⟩, ⟨0, 0⟩], 25⟩
def exWind : Wind := ⟨0, 30, 40, 40⟩
def exPlan : List Deed := [⟨1, 0⟩, ⟨2, 8⟩, ⟨4, 0⟩, ⟨5, 0⟩, ⟨9, 1⟩, ⟨7, 0⟩, ⟨10, 0⟩, ⟨11, 0⟩]
theorem exPort_ok : portB exPort = true := by decide +kernel
theorem exBfs : bfs (stepB exPort exWind) (goalB 5) (actsOf (numsP exPort)) 200 0 [(noBerth, [])] = some (some exPlan) := by decide +kernel
theorem exLeast : Least (stepB exPort exWind) 4096 codeD (actsOf (numsP exPort)) noBerth (goalB 5) (some exPlan) := by
  have C := coded (nums_ok exPort_ok).1
  exact bfs_least C 200 0 _ _ (Search.start C) (Nat.zero_le _) (by intro q hq; simp at hq; subst hq; decide) exBfs
end Bal.Mast

/-
  The outright statements of chapter 7: the examples' data.
-/
namespace Go.Proofs.YtacbkbilbmkjnaaGreat
open Go.RowKit Bal Bal.Trim Bal.Mast
set_option linter.unusedVariables false
set_option linter.unusedSimpArgs false
set_option maxHeartbeats 4000000
set_option maxRecDepth 10000

theorem o_wind (w : World) : Calls Tryz.prog 34 #[] w fun z w' => z = .returned (.agg #[.int .i64 0, .int .i64 30, .int .i64 40, .int .i64 40]) ∧ Kept w w' := by
  go_enter Tryz.func34, Tryz.ntmps34
  go_wp2
  exact bodyPost_ret (v := .agg #[.int .i64 0, .int .i64 30, .int .i64 40, .int .i64 40]) (by simp [results, Tryz.results34, go_sem]) rfl ⟨rfl, by (exact kpt)⟩

theorem o_port (w : World) : Calls Tryz.prog 35 #[] w fun z w' => ∃ g h, z = .returned (.agg #[.slice (some ⟨g, 0, none⟩) 3 3, .int .i64 12, .int .i64 100, .slice (some ⟨h, 0, none⟩) 3 3, .int .i64 25]) ∧ Row Axis.cells 2 w'.heap.size w' (some ⟨g, 0, none⟩) exPort.axes ∧ Row Span.cells 2 w'.heap.size w' (some ⟨h, 0, none⟩) exPort.pulls ∧ Kept w w' := by
  go_enter Tryz.func35, Tryz.ntmps35
  go_wp2
  refine bodyPost_ret (v := .agg #[.slice (some ⟨w.heap.size + 1, 0, none⟩) 3 3, .int .i64 12, .int .i64 100, .slice (some ⟨w.heap.size + 1 + 1, 0, none⟩) 3 3, .int .i64 25]) (by simp [results, Tryz.results35, go_sem]) rfl ⟨_, _, rfl, Row.block (arr := #[.int .i64 1, .int .i64 0, .int .i64 3, .int .i64 4, .int .i64 0, .int .i64 1]) (t := 51) (fun _ => rfl) ?_ rfl, Row.block (arr := #[.int .i64 0, .int .i64 300, .int .i64 10, .int .i64 500, .int .i64 0, .int .i64 0]) (t := 34) (fun _ => rfl) ?_ rfl, by (exact kpt)⟩
  · (exact blk)
  · (exact blk)

/-- the rows of the examples' table -/
def exRows (g2 g3 : Nat) : List RowM := [⟨⟨[⟨0, 4⟩], 0⟩, some ⟨g2, 0, none⟩, 1⟩, ⟨⟨[⟨4, 8⟩], 3⟩, some ⟨g3, 0, none⟩, 1⟩]
theorem o_table (w : World) : Calls Tryz.prog 36 #[] w fun z w' => ∃ g1 g2 g3 g4, z = .returned (.agg #[.slice (some ⟨g1, 0, none⟩) 1 1, .slice (some ⟨g4, 0, none⟩) 2 2]) ∧ TabAt ⟨[⟨0, 9⟩], some ⟨g1, 0, none⟩, 1, exRows g2 g3, some ⟨g4, 0, none⟩, 2⟩ w' ∧ Kept w w' := by
  go_enter Tryz.func36, Tryz.ntmps36
  go_wp2
  refine bodyPost_ret (v := .agg #[.slice (some ⟨w.heap.size + 1, 0, none⟩) 1 1, .slice (some ⟨w.heap.size + 1 + 1 + 1 + 1, 0, none⟩) 2 2]) (by simp [results, Tryz.results36, go_sem]) rfl ⟨w.heap.size + 1, w.heap.size + 1 + 1, w.heap.size + 1 + 1 + 1, w.heap.size + 1 + 1 + 1 + 1, rfl, ?_, by (exact kpt)⟩
  refine ⟨Row.block (arr := #[.int .i64 0, .int .i64 9]) (t := 34) (fun _ => rfl) ?_ rfl, Row.block (arr := #[.slice (some ⟨w.heap.size + 1 + 1, 0, none⟩) 1 1, .int .i64 0, .slice (some ⟨w.heap.size + 1 + 1 + 1, 0, none⟩) 1 1, .int .i64 3]) (t := 80) (fun _ => rfl) ?_ rfl, fun x hx => ?_, Nat.le_refl _, by simp [maxLen], by simp [exRows], by simp [maxLen], fun x hx => ?_⟩
  · (exact blk)
  · (exact blk)
  · simp only [exRows, List.mem_cons, List.not_mem_nil, or_false] at hx
    rcases hx with rfl | rfl
    · refine Row.block (arr := #[.int .i64 0, .int .i64 4]) (t := 34) (fun _ => rfl) ?_ rfl
      (exact blk)
    · refine Row.block (arr := #[.int .i64 4, .int .i64 8]) (t := 34) (fun _ => rfl) ?_ rfl
      (exact blk)
  · simp only [exRows, List.mem_cons, List.not_mem_nil, or_false] at hx
    rcases hx with rfl | rfl <;> simp [maxLen]

end Go.Proofs.YtacbkbilbmkjnaaGreat

/-
  Crosswinds, in the program and in the reference.
-/
namespace Go.Proofs.YtacbkbilbmkjnaaGreat
open Go.RowKit Bal Bal.Trim Bal.Mast
set_option linter.unusedVariables false
set_option linter.unusedSimpArgs false
set_option maxHeartbeats 800000
set_option maxRecDepth 10000

theorem s_min (a : Option Addr) (n cap : Nat) (xs : List Int) (w : World) (hn : xs.length = n) {B : Nat} (hx : Row icell 1 B w a xs) (h0 : 0 < n) (h1 : n ≤ 1000000) :
    Calls Tryz.prog 103 #[.slice a n cap] w fun e w' => e = .returned (.int .i64 (lmin xs)) ∧ w = w' := by
  subst hn
  obtain ⟨b, off, rfl, hb, c0⟩ := int_row hx 0 h0
  have c00 : w.cell? ⟨b, off, none⟩ = some (.int .i64 xs[0]) := by simpa using c0
  clear c0
  have hlt1 : (0 : Int) < xs.length := by omega
  go_enter Tryz.func103, Tryz.ntmps103
  go_wp2
  go_loop [3, 4] (fun m i => ∃ k : Nat, 0 < k ∧ k ≤ xs.length ∧ i = .int .i64 k ∧ m = .int .i64 (lmin (xs.take k))) (fun _ i => xs.length - (intOf i).toNat)
  case atStart => exact ⟨1, by omega, by omega, rfl, by cases xs with | nil => simp at h0 | cons x xs => simp [lmin]⟩
  case round =>
    obtain ⟨k, hk0, hk, rfl, rfl⟩ := hrel
    by_cases hlt : k < xs.length
    · obtain ⟨b', off', hab, _, ck⟩ := int_row hx k hlt
      simp only [Option.some.injEq, Addr.mk.injEq, and_true] at hab
      obtain ⟨rfl, rfl⟩ := hab
      have HT := Lib.hid (lmin_take hk0 hlt)
      go_wp2
      all_goals
        go_round
        case rel => exact ⟨k + 1, by omega, by omega, by go_num, by rw [HT.out, ite_min]⟩
        case measure => simp [intOf]; omega
    · go_wp2
      go_ret
      exact ⟨ret_int (by rw [List.take_of_length_le (by omega)]), rfl⟩

theorem s_max (a : Option Addr) (n cap : Nat) (xs : List Int) (w : World) (hn : xs.length = n) {B : Nat} (hx : Row icell 1 B w a xs) (h0 : 0 < n) (h1 : n ≤ 1000000) :
    Calls Tryz.prog 104 #[.slice a n cap] w fun e w' => e = .returned (.int .i64 (lmax xs)) ∧ w = w' := by
  subst hn
  obtain ⟨b, off, rfl, hb, c0⟩ := int_row hx 0 h0
  have c00 : w.cell? ⟨b, off, none⟩ = some (.int .i64 xs[0]) := by simpa using c0
  clear c0
  have hlt1 : (0 : Int) < xs.length := by omega
  go_enter Tryz.func104, Tryz.ntmps104
  go_wp2
  go_loop [3, 4] (fun m i => ∃ k : Nat, 0 < k ∧ k ≤ xs.length ∧ i = .int .i64 k ∧ m = .int .i64 (lmax (xs.take k))) (fun _ i => xs.length - (intOf i).toNat)
  case atStart => exact ⟨1, by omega, by omega, rfl, by cases xs with | nil => simp at h0 | cons x xs => simp [lmax]⟩
  case round =>
    obtain ⟨k, hk0, hk, rfl, rfl⟩ := hrel
    by_cases hlt : k < xs.length
    · obtain ⟨b', off', hab, _, ck⟩ := int_row hx k hlt
      simp only [Option.some.injEq, Addr.mk.injEq, and_true] at hab
      obtain ⟨rfl, rfl⟩ := hab
      have HT := Lib.hid (lmax_take hk0 hlt)
      go_wp2
      all_goals
        go_round
        case rel => exact ⟨k + 1, by omega, by omega, by go_num, by rw [HT.out, ite_max]⟩
        case measure => simp [intOf]; omega
    · go_wp2
      go_ret
      exact ⟨ret_int (by rw [List.take_of_length_le (by omega)]), rfl⟩

theorem s_minW (v : Wind) (a : Axis) (t : TypeId) (W : World) (n : Nat) (hn : n = W.heap.size) :
    Calls Tryz.prog 103 #[.slice (some ⟨n, 0, none⟩) 4 4] (W.alloc (.cells #[.int .i64 (v.xlo * a.y - v.ylo * a.x), .int .i64 (v.xlo * a.y - v.yhi * a.x), .int .i64 (v.xhi * a.y - v.ylo * a.x), .int .i64 (v.xhi * a.y - v.yhi * a.x)] t))
      fun e w' => e = .returned (.int .i64 (least v a)) ∧ W.alloc (.cells #[.int .i64 (v.xlo * a.y - v.ylo * a.x), .int .i64 (v.xlo * a.y - v.yhi * a.x), .int .i64 (v.xhi * a.y - v.ylo * a.x), .int .i64 (v.xhi * a.y - v.yhi * a.x)] t) = w' := by
  subst hn
  exact s_min _ 4 4 [c0 v a, c1 v a, c2 v a, c3 v a] _ rfl (Row.fresh (enc := icell) (fun _ => rfl) rfl) (by decide) (by decide)

theorem s_maxW (v : Wind) (a : Axis) (t : TypeId) (W : World) (n : Nat) (hn : n = W.heap.size) :
    Calls Tryz.prog 104 #[.slice (some ⟨n, 0, none⟩) 4 4] (W.alloc (.cells #[.int .i64 (v.xlo * a.y - v.ylo * a.x), .int .i64 (v.xlo * a.y - v.yhi * a.x), .int .i64 (v.xhi * a.y - v.ylo * a.x), .int .i64 (v.xhi * a.y - v.yhi * a.x)] t))
      fun e w' => e = .returned (.int .i64 (most v a)) ∧ W.alloc (.cells #[.int .i64 (v.xlo * a.y - v.ylo * a.x), .int .i64 (v.xlo * a.y - v.yhi * a.x), .int .i64 (v.xhi * a.y - v.ylo * a.x), .int .i64 (v.xhi * a.y - v.yhi * a.x)] t) = w' := by
  subst hn
  exact s_max _ 4 4 [c0 v a, c1 v a, c2 v a, c3 v a] _ rfl (Row.fresh (enc := icell) (fun _ => rfl) rfl) (by decide) (by decide)

attribute [local go_sem] ite_max ite_min

theorem f_across (v : Wind) (a : Axis) (w : World) (hw : windB v = true) (ha : axisB a = true) :
    Calls Tryz.prog 54 #[.agg #[.int .i64 v.xlo, .int .i64 v.xhi, .int .i64 v.ylo, .int .i64 v.yhi], .agg #[.int .i64 a.x, .int .i64 a.y]] w fun e w' => e = .returned (.tuple #[.int .i64 (near v a * near v a), .int .i64 (far v a * far v a), .int .i64 (long a)]) ∧ Kept w w' := by
  obtain ⟨⟨h1, h2, h3⟩, h4, h5, h6⟩ := windB_iff.1 hw
  obtain ⟨⟨k1, k2⟩, k3, k4⟩ := corner_bd (u := v.xlo) (v := v.ylo) (by omega) (by omega) ha
  obtain ⟨⟨k5, k6⟩, k7, k8⟩ := corner_bd (u := v.xhi) (v := v.yhi) (by omega) (by omega) ha
  obtain ⟨⟨n0, n1⟩, n2, ⟨n3, n4⟩, n5, n6⟩ := far_bd hw ha
  obtain ⟨⟨x1, x2⟩, ⟨y1, y2⟩, _⟩ := axisB_iff.1 ha
  have p1 := mul_bd (A := 4000000) (B := 4000000) (x := near v a) (y := near v a) (by omega) (by omega) (by omega) (by omega)
  have p2 := mul_bd (A := 4000000) (B := 4000000) (x := far v a) (y := far v a) (by omega) (by omega) (by omega) (by omega)
  have p3 := mul_bd (A := 1000) (B := 1000) (x := a.x) (y := a.x) (by omega) (by omega) (by omega) (by omega)
  have p4 := mul_bd (A := 1000) (B := 1000) (x := a.y) (y := a.y) (by omega) (by omega) (by omega) (by omega)
  clear hw ha
  have HN : max (max (least v a) (-most v a)) 0 = near v a := rfl
  have HF : max (-least v a) (most v a) = far v a := rfl
  have HL : a.x * a.x + a.y * a.y = long a := rfl
  go_enter Tryz.func54, Tryz.ntmps54
  go_upto_region 5 with (first | (go_at_call 103; refine (s_minW v a _ _ _ (by simp)).mono ?_; rintro e w1 ⟨rfl, rfl⟩) | (go_at_call 104; refine (s_maxW v a _ _ _ (by simp)).mono ?_; rintro e w1 ⟨rfl, rfl⟩))
  refine at_world (S := fun W => Blk W (w.heap.size + 1) #[.int .i64 a.x, .int .i64 a.y] 51 ∧ Kept w W) ⟨by (exact blkc), by (exact kpt)⟩ ?_
  rintro W ⟨r1, hk⟩
  have r1c0 := fun g : Later W => (r1.later g).cell 0
  have r1f0 := fun g : Later W => (r1.later g).free 0
  have r1c1 := fun g : Later W => (r1.later g).cell 1
  have r1f1 := fun g : Later W => (r1.later g).free 1
  have r1l := fun g : Later W => (r1.later g).lt
  simp at r1c0 r1c1
  refine Later.region (by kernel_rfl) (by kernel_rfl) ?_
  repeat (first | go_big_quiet_skip | (go_big_quiet_want; go_big_quiet_op; first | go_big_quiet_on | (apply Exists.intro; refine ⟨fun g => ?_, ?_⟩; (focus (first | fail)); go_big_quiet_on)))
  refine wpQuiet_nil ?_
  intro gg
  have hkgg := Kept.drop hk gg.ok
  go_wp2
  exact bodyPost_ret (v := .tuple #[.int .i64 (near v a * near v a), .int .i64 (far v a * far v a), .int .i64 (long a)]) (by simp [results, Tryz.results54, go_sem, HN, HF, HL]) rfl ⟨rfl, by (exact kpt)⟩

theorem f_calm (v : Wind) (a : Axis) (m : Int) (w : World) (hw : windB v = true) (ha : axisB a = true) (hm : inB m 0 2000 = true) :
    Calls Tryz.prog 57 #[.agg #[.int .i64 v.xlo, .int .i64 v.xhi, .int .i64 v.ylo, .int .i64 v.yhi], .agg #[.int .i64 a.x, .int .i64 a.y], .int .i64 m] w fun e w' => e = .returned (.bool (calmS v a m)) ∧ Kept w w' := by
  obtain ⟨l1, l2⟩ := long_pos ha
  simp only [inB, Bool.and_eq_true, decide_eq_true_eq] at hm
  have p1 := mul_bd (A := 2000) (B := 2000) (x := m) (y := m) (by omega) (by omega) (by omega) (by omega)
  have p2 := mul_bd (A := 4000000) (B := 2000000) (x := m * m) (y := long a) (by omega) (by omega) (by omega) (by omega)
  have HW := Lib.hid hw
  have HA := Lib.hid ha
  clear hw ha
  go_enter Tryz.func57, Tryz.ntmps57
  go_wp2_with (go_at_call 54; (with_reducible refine (f_across v a _ HW.out HA.out).mono ?_); rintro e w1 ⟨rfl, hb1⟩; obtain ⟨hc1, hf1, hl1⟩ := bcell3 hb1)
  go_ret
  exact ⟨ret_bool (by simp [calmS]), by (exact kpt)⟩

end Go.Proofs.YtacbkbilbmkjnaaGreat

/-
  Crosswinds and calm, in the program and in the reference.
-/
namespace Go.Proofs.YtacbkbilbmkjnaaGreat
open Go.RowKit Bal Bal.Trim Bal.Mast
set_option linter.unusedVariables false
set_option linter.unusedSimpArgs false
set_option maxHeartbeats 800000
set_option maxRecDepth 10000

theorem i64_in {n : Int} (h : -9223372036854775808 ≤ n ∧ n ≤ 9223372036854775807) : IntKind.i64.wrap n = n := by rw [IntKind.wrap_i64]; first | omega | (unfold wrap64; omega)
theorem upHi_cases (R Y N : Int) : (R * R * N < Y ∧ upHi R Y N = R + 1) ∨ (¬ R * R * N < Y ∧ upHi R Y N = R) := by
  unfold upHi
  by_cases h : R * R * N < Y
  · exact .inl ⟨h, if_pos h⟩
  · exact .inr ⟨h, if_neg h⟩

theorem f_Cross_bad (v : Wind) (a : Axis) (w : World) (hw : windB v = false) :
    Calls Tryz.prog 19 #[.agg #[.int .i64 v.xlo, .int .i64 v.xhi, .int .i64 v.ylo, .int .i64 v.yhi], .agg #[.int .i64 a.x, .int .i64 a.y]] w fun e w' => e = .returned (.tuple #[.agg #[.int .i64 0, .int .i64 0], .int .i64 71]) ∧ Kept w w' := by
  have HE := Lib.hid (show checkWind v = 71 by unfold checkWind; rw [hw]; rfl)
  clear hw
  go_enter Tryz.func19, Tryz.ntmps19
  go_wp2_with (go_at_call 39; (with_reducible refine (f_CheckWind v _).mono ?_); rw [HE.out]; rintro e w1 ⟨rfl, hb1⟩; refine Blk.thru (b := w.heap.size) (arr := ?_) (t := ?_) ?_ hb1 ?_; rotate_left 2; (focus (exact blk)); intro r0; have r0c0 := r0.cell 0; have r0f0 := r0.free 0; have r0c1 := r0.cell 1; have r0f1 := r0.free 1; have r0c2 := r0.cell 2; have r0f2 := r0.free 2; have r0c3 := r0.cell 3; have r0f3 := r0.free 3; have r0l := r0.lt; simp at r0c0 r0c1 r0c2 r0c3; refine Blk.thru (b := w.heap.size + 1) (arr := ?_) (t := ?_) ?_ hb1 ?_; rotate_left 2; (focus (exact blk)); intro r1; have r1c0 := r1.cell 0; have r1f0 := r1.free 0; have r1c1 := r1.cell 1; have r1f1 := r1.free 1; have r1l := r1.lt; simp at r1c0 r1c1; refine Blk.thru (b := w.heap.size + 1 + 1) (arr := ?_) (t := ?_) ?_ hb1 ?_; rotate_left 2; (focus (exact blk)); intro r2; have r2c0 := r2.cell 0; have r2f0 := r2.free 0; have r2c1 := r2.cell 1; have r2f1 := r2.free 1; have r2l := r2.lt; simp at r2c0 r2c1)
  exact bodyPost_ret (v := .tuple #[.agg #[.int .i64 0, .int .i64 0], .int .i64 71]) (by simp [results, Tryz.results19, go_sem, r2c0, r2c1, r2f0, r2f1, r2l]) rfl ⟨rfl, by (exact kpt)⟩
theorem f_Cross_axis (v : Wind) (a : Axis) (w : World) (hw : windB v = true) (ha : axisB a = false) :
    Calls Tryz.prog 19 #[.agg #[.int .i64 v.xlo, .int .i64 v.xhi, .int .i64 v.ylo, .int .i64 v.yhi], .agg #[.int .i64 a.x, .int .i64 a.y]] w fun e w' => e = .returned (.tuple #[.agg #[.int .i64 0, .int .i64 0], .int .i64 70]) ∧ Kept w w' := by
  have HE := Lib.hid (show checkWind v = 0 by unfold checkWind; rw [hw]; rfl)
  have HF := Lib.hid (show checkAxis a = 70 by unfold checkAxis; rw [ha]; rfl)
  clear hw ha
  go_enter Tryz.func19, Tryz.ntmps19
  go_wp2_with (first | (go_at_call 39; (with_reducible refine (f_CheckWind v _).mono ?_); rw [HE.out]; rintro e w1 ⟨rfl, hb1⟩; refine Blk.thru (b := w.heap.size) (arr := ?_) (t := ?_) ?_ hb1 ?_; rotate_left 2; (focus (exact blk)); intro r0; have r0c0 := r0.cell 0; have r0f0 := r0.free 0; have r0c1 := r0.cell 1; have r0f1 := r0.free 1; have r0c2 := r0.cell 2; have r0f2 := r0.free 2; have r0c3 := r0.cell 3; have r0f3 := r0.free 3; have r0l := r0.lt; simp at r0c0 r0c1 r0c2 r0c3; refine Blk.thru (b := w.heap.size + 1) (arr := ?_) (t := ?_) ?_ hb1 ?_; rotate_left 2; (focus (exact blk)); intro r1; have r1c0 := r1.cell 0; have r1f0 := r1.free 0; have r1c1 := r1.cell 1; have r1f1 := r1.free 1; have r1l := r1.lt; simp at r1c0 r1c1; refine Blk.thru (b := w.heap.size + 1 + 1) (arr := ?_) (t := ?_) ?_ hb1 ?_; rotate_left 2; (focus (exact blk)); intro r2; have r2c0 := r2.cell 0; have r2f0 := r2.free 0; have r2c1 := r2.cell 1; have r2f1 := r2.free 1; have r2l := r2.lt; simp at r2c0 r2c1) | (go_at_call 38; (with_reducible refine (f_CheckAxis a _).mono ?_); rw [HF.out]; rintro e w1 ⟨rfl, hb1⟩; refine Blk.thru (b := w.heap.size) (arr := ?_) (t := ?_) ?_ hb1 ?_; rotate_left 2; (focus (exact blk)); intro r0; have r0c0 := r0.cell 0; have r0f0 := r0.free 0; have r0c1 := r0.cell 1; have r0f1 := r0.free 1; have r0c2 := r0.cell 2; have r0f2 := r0.free 2; have r0c3 := r0.cell 3; have r0f3 := r0.free 3; have r0l := r0.lt; simp at r0c0 r0c1 r0c2 r0c3; refine Blk.thru (b := w.heap.size + 1) (arr := ?_) (t := ?_) ?_ hb1 ?_; rotate_left 2; (focus (exact blk)); intro r1; have r1c0 := r1.cell 0; have r1f0 := r1.free 0; have r1c1 := r1.cell 1; have r1f1 := r1.free 1; have r1l := r1.lt; simp at r1c0 r1c1; refine Blk.thru (b := w.heap.size + 1 + 1) (arr := ?_) (t := ?_) ?_ hb1 ?_; rotate_left 2; (focus (exact blk)); intro r2; have r2c0 := r2.cell 0; have r2f0 := r2.free 0; have r2c1 := r2.cell 1; have r2f1 := r2.free 1; have r2l := r2.lt; simp at r2c0 r2c1))
  exact bodyPost_ret (v := .tuple #[.agg #[.int .i64 0, .int .i64 0], .int .i64 70]) (by simp [results, Tryz.results19, go_sem, r2c0, r2c1, r2f0, r2f1, r2l]) rfl ⟨rfl, by (exact kpt)⟩
theorem f_Cross_ok (v : Wind) (a : Axis) (w : World) (hw : windB v = true) (ha : axisB a = true) :
    Calls Tryz.prog 19 #[.agg #[.int .i64 v.xlo, .int .i64 v.xhi, .int .i64 v.ylo, .int .i64 v.yhi], .agg #[.int .i64 a.x, .int .i64 a.y]] w fun e w' => e = .returned (.tuple #[.agg #[.int .i64 (rt (near v a * near v a) (long a)), .int .i64 (upHi (rt (far v a * far v a) (long a)) (far v a * far v a) (long a))], .int .i64 0]) ∧ Kept w w' := by
  obtain ⟨L1, L2⟩ := long_pos ha
  have X1 := sq_nonneg (near v a)
  have X2 := near_sq (a := a) hw
  have Y1 := sq_nonneg (far v a)
  have Y2 := far_sq (a := a) hw
  have HE := Lib.hid (show checkWind v = 0 by unfold checkWind; rw [hw]; rfl)
  have HF := Lib.hid (show checkAxis a = 0 by unfold checkAxis; rw [ha]; rfl)
  have HW := Lib.hid hw
  have HA := Lib.hid ha
  clear hw ha
  obtain ⟨X, hX⟩ : ∃ X, X = near v a * near v a := ⟨_, rfl⟩
  obtain ⟨Y, hY⟩ : ∃ Y, Y = far v a * far v a := ⟨_, rfl⟩
  obtain ⟨N, hN⟩ : ∃ N, N = long a := ⟨_, rfl⟩
  rw [← hN] at L1 L2 X2 Y2
  rw [← hX] at X1 X2
  rw [← hY] at Y1 Y2
  have AC := fun w => f_across v a w HW.out HA.out
  rw [← hX, ← hY, ← hN] at AC
  have RT1 := fun w => f_root X N w L1 L2 X1 X2
  have RT2 := fun w => f_root Y N w L1 L2 Y1 Y2
  obtain ⟨R, hR⟩ : ∃ R, R = rt Y N := ⟨_, rfl⟩
  obtain ⟨S, hS⟩ : ∃ S, S = rt X N := ⟨_, rfl⟩
  have hR0 := rt_pos Y N
  rw [← hR] at RT2 hR0
  rw [← hS] at RT1
  rw [← hX, ← hY, ← hN, ← hR, ← hS]
  clear hX hY hN hR hS
  have P1 := mul_bd (A := 4000) (B := 4000) (x := R) (y := R) (by omega) (by omega) (by omega) (by omega)
  have P2 := mul_bd (A := 16000000) (B := 2000000) (x := R * R) (y := N) (by omega) (by omega) (by omega) (by omega)
  rcases upHi_cases R Y N with ⟨hc, hu⟩ | ⟨hc, hu⟩
  all_goals
    rw [hu]
    clear hu
    go_enter Tryz.func19, Tryz.ntmps19
    go_wp2_with (first | (go_at_call 39; (with_reducible refine (f_CheckWind v _).mono ?_); rw [HE.out]; rintro e w1 ⟨rfl, hb1⟩; refine Blk.thru (b := w.heap.size) (arr := ?_) (t := ?_) ?_ hb1 ?_; rotate_left 2; (focus (exact blk)); intro r0; have r0c0 := r0.cell 0; have r0f0 := r0.free 0; have r0c1 := r0.cell 1; have r0f1 := r0.free 1; have r0c2 := r0.cell 2; have r0f2 := r0.free 2; have r0c3 := r0.cell 3; have r0f3 := r0.free 3; have r0l := r0.lt; simp at r0c0 r0c1 r0c2 r0c3; refine Blk.thru (b := w.heap.size + 1) (arr := ?_) (t := ?_) ?_ hb1 ?_; rotate_left 2; (focus (exact blk)); intro r1; have r1c0 := r1.cell 0; have r1f0 := r1.free 0; have r1c1 := r1.cell 1; have r1f1 := r1.free 1; have r1l := r1.lt; simp at r1c0 r1c1; refine Blk.thru (b := w.heap.size + 1 + 1) (arr := ?_) (t := ?_) ?_ hb1 ?_; rotate_left 2; (focus (exact blk)); intro r2; have r2c0 := r2.cell 0; have r2f0 := r2.free 0; have r2c1 := r2.cell 1; have r2f1 := r2.free 1; have r2l := r2.lt; simp at r2c0 r2c1) | (go_at_call 38; (with_reducible refine (f_CheckAxis a _).mono ?_); rw [HF.out]; rintro e w1 ⟨rfl, hb1⟩; refine Blk.thru (b := w.heap.size) (arr := ?_) (t := ?_) ?_ hb1 ?_; rotate_left 2; (focus (exact blk)); intro r0; have r0c0 := r0.cell 0; have r0f0 := r0.free 0; have r0c1 := r0.cell 1; have r0f1 := r0.free 1; have r0c2 := r0.cell 2; have r0f2 := r0.free 2; have r0c3 := r0.cell 3; have r0f3 := r0.free 3; have r0l := r0.lt; simp at r0c0 r0c1 r0c2 r0c3; refine Blk.thru (b := w.heap.size + 1) (arr := ?_) (t := ?_) ?_ hb1 ?_; rotate_left 2; (focus (exact blk)); intro r1; have r1c0 := r1.cell 0; have r1f0 := r1.free 0; have r1c1 := r1.cell 1; have r1f1 := r1.free 1; have r1l := r1.lt; simp at r1c0 r1c1; refine Blk.thru (b := w.heap.size + 1 + 1) (arr := ?_) (t := ?_) ?_ hb1 ?_; rotate_left 2; (focus (exact blk)); intro r2; have r2c0 := r2.cell 0; have r2f0 := r2.free 0; have r2c1 := r2.cell 1; have r2f1 := r2.free 1; have r2l := r2.lt; simp at r2c0 r2c1) | (go_at_call 54; (with_reducible refine (AC _).mono ?_); rintro e w1 ⟨rfl, hb1⟩; refine Blk.thru (b := w.heap.size) (arr := ?_) (t := ?_) ?_ hb1 ?_; rotate_left 2; (focus (exact blk)); intro r0; have r0c0 := r0.cell 0; have r0f0 := r0.free 0; have r0c1 := r0.cell 1; have r0f1 := r0.free 1; have r0c2 := r0.cell 2; have r0f2 := r0.free 2; have r0c3 := r0.cell 3; have r0f3 := r0.free 3; have r0l := r0.lt; simp at r0c0 r0c1 r0c2 r0c3; refine Blk.thru (b := w.heap.size + 1) (arr := ?_) (t := ?_) ?_ hb1 ?_; rotate_left 2; (focus (exact blk)); intro r1; have r1c0 := r1.cell 0; have r1f0 := r1.free 0; have r1c1 := r1.cell 1; have r1f1 := r1.free 1; have r1l := r1.lt; simp at r1c0 r1c1; refine Blk.thru (b := w.heap.size + 1 + 1) (arr := ?_) (t := ?_) ?_ hb1 ?_; rotate_left 2; (focus (exact blk)); intro r2; have r2c0 := r2.cell 0; have r2f0 := r2.free 0; have r2c1 := r2.cell 1; have r2f1 := r2.free 1; have r2l := r2.lt; simp at r2c0 r2c1) | (go_at_call 55; (with_reducible refine (RT1 _).mono ?_); rintro e w1 ⟨rfl, rfl⟩) | (go_at_call 55; (with_reducible refine (RT2 _).mono ?_); rintro e w1 ⟨rfl, rfl⟩))
    exact bodyPost_ret (v := .tuple #[.agg #[.int .i64 S, .int .i64 _], .int .i64 0]) (by simp [results, Tryz.results19, go_sem, r2c0, r2c1, r2f0, r2f1, r2l]) rfl ⟨rfl, by (exact kpt)⟩
theorem f_Cross (v : Wind) (a : Axis) (w : World) :
    Calls Tryz.prog 19 #[.agg #[.int .i64 v.xlo, .int .i64 v.xhi, .int .i64 v.ylo, .int .i64 v.yhi], .agg #[.int .i64 a.x, .int .i64 a.y]] w fun e w' => e = .returned (.tuple #[.agg #[.int .i64 (crossLo v a), .int .i64 (crossHi v a)], .int .i64 (crossE v a)]) ∧ Kept w w' := by
  cases hw : windB v
  · have hE : crossE v a = 71 := by unfold crossE; rw [hw]; rfl
    simp only [crossLo, crossHi, hE]
    exact f_Cross_bad v a w hw
  · cases ha : axisB a
    · have hE : crossE v a = 70 := by unfold crossE; rw [hw, ha]; rfl
      simp only [crossLo, crossHi, hE]
      exact f_Cross_axis v a w hw ha
    · have hE : crossE v a = 0 := by unfold crossE; rw [hw, ha]; rfl
      simp only [crossLo, crossHi, hE, if_true]
      exact f_Cross_ok v a w hw ha

theorem f_Calm (v : Wind) (a : Axis) (m : Int) (w : World) :
    Calls Tryz.prog 22 #[.agg #[.int .i64 v.xlo, .int .i64 v.xhi, .int .i64 v.ylo, .int .i64 v.yhi], .agg #[.int .i64 a.x, .int .i64 a.y], .int .i64 m] w fun e w' => e = .returned (.tuple #[.bool (calmB v a m), .int .i64 (calmE v a m)]) ∧ Kept w w' := by
  cases hw : windB v
  · have hE : calmE v a m = 71 := by unfold calmE; rw [hw]; rfl
    simp only [calmB, hE]
    have HE := Lib.hid (show checkWind v = 71 by unfold checkWind; rw [hw]; rfl)
    clear hw hE
    go_enter Tryz.func22, Tryz.ntmps22
    go_wp2_with (go_at_call 39; (with_reducible refine (f_CheckWind v _).mono ?_); rw [HE.out]; rintro e w1 ⟨rfl, hb1⟩; refine Blk.thru (b := w.heap.size) (arr := ?_) (t := ?_) ?_ hb1 ?_; rotate_left 2; (focus (exact blk)); intro r0; have r0c0 := r0.cell 0; have r0f0 := r0.free 0; have r0c1 := r0.cell 1; have r0f1 := r0.free 1; have r0c2 := r0.cell 2; have r0f2 := r0.free 2; have r0c3 := r0.cell 3; have r0f3 := r0.free 3; have r0l := r0.lt; simp at r0c0 r0c1 r0c2 r0c3; refine Blk.thru (b := w.heap.size + 1) (arr := ?_) (t := ?_) ?_ hb1 ?_; rotate_left 2; (focus (exact blk)); intro r1; have r1c0 := r1.cell 0; have r1f0 := r1.free 0; have r1c1 := r1.cell 1; have r1f1 := r1.free 1; have r1l := r1.lt; simp at r1c0 r1c1)
    exact bodyPost_ret (v := .tuple #[.bool false, .int .i64 71]) (by simp [results, Tryz.results22, go_sem]) rfl ⟨rfl, by (exact kpt)⟩
  · cases ha : axisB a
    · have hE : calmE v a m = 70 := by unfold calmE; rw [hw, ha]; rfl
      simp only [calmB, hE]
      have HE := Lib.hid (show checkWind v = 0 by unfold checkWind; rw [hw]; rfl)
      have HF := Lib.hid (show checkAxis a = 70 by unfold checkAxis; rw [ha]; rfl)
      clear hw ha hE
      go_enter Tryz.func22, Tryz.ntmps22
      go_wp2_with (first | (go_at_call 39; (with_reducible refine (f_CheckWind v _).mono ?_); rw [HE.out]; rintro e w1 ⟨rfl, hb1⟩; refine Blk.thru (b := w.heap.size) (arr := ?_) (t := ?_) ?_ hb1 ?_; rotate_left 2; (focus (exact blk)); intro r0; have r0c0 := r0.cell 0; have r0f0 := r0.free 0; have r0c1 := r0.cell 1; have r0f1 := r0.free 1; have r0c2 := r0.cell 2; have r0f2 := r0.free 2; have r0c3 := r0.cell 3; have r0f3 := r0.free 3; have r0l := r0.lt; simp at r0c0 r0c1 r0c2 r0c3; refine Blk.thru (b := w.heap.size + 1) (arr := ?_) (t := ?_) ?_ hb1 ?_; rotate_left 2; (focus (exact blk)); intro r1; have r1c0 := r1.cell 0; have r1f0 := r1.free 0; have r1c1 := r1.cell 1; have r1f1 := r1.free 1; have r1l := r1.lt; simp at r1c0 r1c1) | (go_at_call 38; (with_reducible refine (f_CheckAxis a _).mono ?_); rw [HF.out]; rintro e w1 ⟨rfl, hb1⟩; refine Blk.thru (b := w.heap.size) (arr := ?_) (t := ?_) ?_ hb1 ?_; rotate_left 2; (focus (exact blk)); intro r0; have r0c0 := r0.cell 0; have r0f0 := r0.free 0; have r0c1 := r0.cell 1; have r0f1 := r0.free 1; have r0c2 := r0.cell 2; have r0f2 := r0.free 2; have r0c3 := r0.cell 3; have r0f3 := r0.free 3; have r0l := r0.lt; simp at r0c0 r0c1 r0c2 r0c3; refine Blk.thru (b := w.heap.size + 1) (arr := ?_) (t := ?_) ?_ hb1 ?_; rotate_left 2; (focus (exact blk)); intro r1; have r1c0 := r1.cell 0; have r1f0 := r1.free 0; have r1c1 := r1.cell 1; have r1f1 := r1.free 1; have r1l := r1.lt; simp at r1c0 r1c1))
      exact bodyPost_ret (v := .tuple #[.bool false, .int .i64 70]) (by simp [results, Tryz.results22, go_sem]) rfl ⟨rfl, by (exact kpt)⟩
    · cases hm : inB m 0 2000
      · have hE : calmE v a m = 2 := by unfold calmE; rw [hw, ha, hm]; rfl
        simp only [calmB, hE]
        have HE := Lib.hid (show checkWind v = 0 by unfold checkWind; rw [hw]; rfl)
        have HF := Lib.hid (show checkAxis a = 0 by unfold checkAxis; rw [ha]; rfl)
        have HR := Lib.hid (show rng [m] 0 2000 = false by simp [rng, hm])
        have HI := Lib.hid hm
        clear hw ha hm hE
        go_enter Tryz.func22, Tryz.ntmps22
        go_wp2_with (first | (go_at_call 39; (with_reducible refine (f_CheckWind v _).mono ?_); rw [HE.out]; rintro e w1 ⟨rfl, hb1⟩; refine Blk.thru (b := w.heap.size) (arr := ?_) (t := ?_) ?_ hb1 ?_; rotate_left 2; (focus (exact blk)); intro r0; have r0c0 := r0.cell 0; have r0f0 := r0.free 0; have r0c1 := r0.cell 1; have r0f1 := r0.free 1; have r0c2 := r0.cell 2; have r0f2 := r0.free 2; have r0c3 := r0.cell 3; have r0f3 := r0.free 3; have r0l := r0.lt; simp at r0c0 r0c1 r0c2 r0c3; refine Blk.thru (b := w.heap.size + 1) (arr := ?_) (t := ?_) ?_ hb1 ?_; rotate_left 2; (focus (exact blk)); intro r1; have r1c0 := r1.cell 0; have r1f0 := r1.free 0; have r1c1 := r1.cell 1; have r1f1 := r1.free 1; have r1l := r1.lt; simp at r1c0 r1c1) | (go_at_call 38; (with_reducible refine (f_CheckAxis a _).mono ?_); rw [HF.out]; rintro e w1 ⟨rfl, hb1⟩; refine Blk.thru (b := w.heap.size) (arr := ?_) (t := ?_) ?_ hb1 ?_; rotate_left 2; (focus (exact blk)); intro r0; have r0c0 := r0.cell 0; have r0f0 := r0.free 0; have r0c1 := r0.cell 1; have r0f1 := r0.free 1; have r0c2 := r0.cell 2; have r0f2 := r0.free 2; have r0c3 := r0.cell 3; have r0f3 := r0.free 3; have r0l := r0.lt; simp at r0c0 r0c1 r0c2 r0c3; refine Blk.thru (b := w.heap.size + 1) (arr := ?_) (t := ?_) ?_ hb1 ?_; rotate_left 2; (focus (exact blk)); intro r1; have r1c0 := r1.cell 0; have r1f0 := r1.free 0; have r1c1 := r1.cell 1; have r1f1 := r1.free 1; have r1l := r1.lt; simp at r1c0 r1c1) | (go_at_call 44; (with_reducible refine (f_ranged_1 _ _ _ _ _ _ (by simp)).mono ?_); rw [HR.out]; rintro e w1 ⟨rfl, hb1⟩; refine Blk.thru (b := w.heap.size) (arr := ?_) (t := ?_) ?_ hb1 ?_; rotate_left 2; (focus (exact blk)); intro r0; have r0c0 := r0.cell 0; have r0f0 := r0.free 0; have r0c1 := r0.cell 1; have r0f1 := r0.free 1; have r0c2 := r0.cell 2; have r0f2 := r0.free 2; have r0c3 := r0.cell 3; have r0f3 := r0.free 3; have r0l := r0.lt; simp at r0c0 r0c1 r0c2 r0c3; refine Blk.thru (b := w.heap.size + 1) (arr := ?_) (t := ?_) ?_ hb1 ?_; rotate_left 2; (focus (exact blk)); intro r1; have r1c0 := r1.cell 0; have r1f0 := r1.free 0; have r1c1 := r1.cell 1; have r1f1 := r1.free 1; have r1l := r1.lt; simp at r1c0 r1c1))
        exact bodyPost_ret (v := .tuple #[.bool false, .int .i64 2]) (by simp [results, Tryz.results22, go_sem]) rfl ⟨rfl, by (exact kpt)⟩
      · have hE : calmE v a m = 0 := by unfold calmE; rw [hw, ha, hm]; rfl
        simp only [calmB, hE, if_true]
        have HE := Lib.hid (show checkWind v = 0 by unfold checkWind; rw [hw]; rfl)
        have HF := Lib.hid (show checkAxis a = 0 by unfold checkAxis; rw [ha]; rfl)
        have HR := Lib.hid (show rng [m] 0 2000 = true by simp [rng, hm])
        have HI := Lib.hid hm
        have HW := Lib.hid hw
        have HA := Lib.hid ha
        have HM := Lib.hid hm
        clear hw ha hm hE
        go_enter Tryz.func22, Tryz.ntmps22
        go_wp2_with (first | (go_at_call 39; (with_reducible refine (f_CheckWind v _).mono ?_); rw [HE.out]; rintro e w1 ⟨rfl, hb1⟩; refine Blk.thru (b := w.heap.size) (arr := ?_) (t := ?_) ?_ hb1 ?_; rotate_left 2; (focus (exact blk)); intro r0; have r0c0 := r0.cell 0; have r0f0 := r0.free 0; have r0c1 := r0.cell 1; have r0f1 := r0.free 1; have r0c2 := r0.cell 2; have r0f2 := r0.free 2; have r0c3 := r0.cell 3; have r0f3 := r0.free 3; have r0l := r0.lt; simp at r0c0 r0c1 r0c2 r0c3; refine Blk.thru (b := w.heap.size + 1) (arr := ?_) (t := ?_) ?_ hb1 ?_; rotate_left 2; (focus (exact blk)); intro r1; have r1c0 := r1.cell 0; have r1f0 := r1.free 0; have r1c1 := r1.cell 1; have r1f1 := r1.free 1; have r1l := r1.lt; simp at r1c0 r1c1) | (go_at_call 38; (with_reducible refine (f_CheckAxis a _).mono ?_); rw [HF.out]; rintro e w1 ⟨rfl, hb1⟩; refine Blk.thru (b := w.heap.size) (arr := ?_) (t := ?_) ?_ hb1 ?_; rotate_left 2; (focus (exact blk)); intro r0; have r0c0 := r0.cell 0; have r0f0 := r0.free 0; have r0c1 := r0.cell 1; have r0f1 := r0.free 1; have r0c2 := r0.cell 2; have r0f2 := r0.free 2; have r0c3 := r0.cell 3; have r0f3 := r0.free 3; have r0l := r0.lt; simp at r0c0 r0c1 r0c2 r0c3; refine Blk.thru (b := w.heap.size + 1) (arr := ?_) (t := ?_) ?_ hb1 ?_; rotate_left 2; (focus (exact blk)); intro r1; have r1c0 := r1.cell 0; have r1f0 := r1.free 0; have r1c1 := r1.cell 1; have r1f1 := r1.free 1; have r1l := r1.lt; simp at r1c0 r1c1) | (go_at_call 44; (with_reducible refine (f_ranged_1 _ _ _ _ _ _ (by simp)).mono ?_); rw [HR.out]; rintro e w1 ⟨rfl, hb1⟩; refine Blk.thru (b := w.heap.size) (arr := ?_) (t := ?_) ?_ hb1 ?_; rotate_left 2; (focus (exact blk)); intro r0; have r0c0 := r0.cell 0; have r0f0 := r0.free 0; have r0c1 := r0.cell 1; have r0f1 := r0.free 1; have r0c2 := r0.cell 2; have r0f2 := r0.free 2; have r0c3 := r0.cell 3; have r0f3 := r0.free 3; have r0l := r0.lt; simp at r0c0 r0c1 r0c2 r0c3; refine Blk.thru (b := w.heap.size + 1) (arr := ?_) (t := ?_) ?_ hb1 ?_; rotate_left 2; (focus (exact blk)); intro r1; have r1c0 := r1.cell 0; have r1f0 := r1.free 0; have r1c1 := r1.cell 1; have r1f1 := r1.free 1; have r1l := r1.lt; simp at r1c0 r1c1) | (go_at_call 57; (with_reducible refine (f_calm v a m _ HW.out HA.out HM.out).mono ?_); rintro e w1 ⟨rfl, hb1⟩; refine Blk.thru (b := w.heap.size) (arr := ?_) (t := ?_) ?_ hb1 ?_; rotate_left 2; (focus (exact blk)); intro r0; have r0c0 := r0.cell 0; have r0f0 := r0.free 0; have r0c1 := r0.cell 1; have r0f1 := r0.free 1; have r0c2 := r0.cell 2; have r0f2 := r0.free 2; have r0c3 := r0.cell 3; have r0f3 := r0.free 3; have r0l := r0.lt; simp at r0c0 r0c1 r0c2 r0c3; refine Blk.thru (b := w.heap.size + 1) (arr := ?_) (t := ?_) ?_ hb1 ?_; rotate_left 2; (focus (exact blk)); intro r1; have r1c0 := r1.cell 0; have r1f0 := r1.free 0; have r1c1 := r1.cell 1; have r1f1 := r1.free 1; have r1l := r1.lt; simp at r1c0 r1c1))
        exact bodyPost_ret (v := .tuple #[.bool (calmS v a m), .int .i64 0]) (by simp [results, Tryz.results22, go_sem]) rfl ⟨rfl, by (exact kpt)⟩

end Go.Proofs.YtacbkbilbmkjnaaGreat

/-
  Rules of acts at the mast: methods of a dock.
-/
namespace Go.Proofs.YtacbkbilbmkjnaaGreat
open Go.RowKit Bal Bal.Trim Bal.Mast
set_option linter.unusedVariables false
set_option linter.unusedSimpArgs false
set_option maxHeartbeats 1000000
set_option maxRecDepth 10000

theorem m_away (a : Option Addr) (c : Nat) (e : Option Addr) (d : Nat) (p : Port) (k : Dock) (n : Nat) (w : World) (hd : Blk w n (dockCells a c e d p k) 112) :
    Calls Tryz.prog 85 #[.pointer (some ⟨n, 0, none⟩)] w fun e w' => e = .returned (.bool (away k)) ∧ Kept w w' := by
  have q := hd
  unfold dockCells at q
  have qc0 := q.cell 0
  have qf0 := q.free 0
  have ql := q.lt
  simp at qc0
  go_enter Tryz.func85, Tryz.ntmps85
  go_wp2
  all_goals (refine bodyPost_ret (v := .bool (away k)) ?_ rfl ⟨rfl, by (exact kpt)⟩)
  all_goals (first | (simp [results, Tryz.results85, go_sem, away]; done) | (simp [results, Tryz.results85, go_sem, away]; rfl) | (simp [results, Tryz.results85, go_sem, away, *]; done))

theorem m_lined (a : Option Addr) (c : Nat) (e : Option Addr) (d : Nat) (p : Port) (k : Dock) (n : Nat) (w : World) (hd : Blk w n (dockCells a c e d p k) 112) :
    Calls Tryz.prog 60 #[.pointer (some ⟨n, 0, none⟩)] w fun e w' => e = .returned (.bool (lined k)) ∧ Kept w w' := by
  have q := hd
  unfold dockCells at q
  have qc0 := q.cell 0
  have qf0 := q.free 0
  have ql := q.lt
  simp at qc0
  go_enter Tryz.func60, Tryz.ntmps60
  go_wp2
  all_goals (refine bodyPost_ret (v := .bool (lined k)) ?_ rfl ⟨rfl, by (exact kpt)⟩)
  all_goals (first | (simp [results, Tryz.results60, go_sem, lined]; done) | (simp [results, Tryz.results60, go_sem, lined]; rfl) | (simp [results, Tryz.results60, go_sem, lined, *]; done))

theorem m_masted (a : Option Addr) (c : Nat) (e : Option Addr) (d : Nat) (p : Port) (k : Dock) (n : Nat) (w : World) (hd : Blk w n (dockCells a c e d p k) 112) :
    Calls Tryz.prog 95 #[.pointer (some ⟨n, 0, none⟩)] w fun e w' => e = .returned (.bool (masted k)) ∧ Kept w w' := by
  have q := hd
  unfold dockCells at q
  have qc0 := q.cell 0
  have qf0 := q.free 0
  have ql := q.lt
  simp at qc0
  go_enter Tryz.func95, Tryz.ntmps95
  go_wp2
  all_goals (refine bodyPost_ret (v := .bool (masted k)) ?_ rfl ⟨rfl, by (exact kpt)⟩)
  all_goals (first | (simp [results, Tryz.results95, go_sem, masted]; done) | (simp [results, Tryz.results95, go_sem, masted]; rfl) | (simp [results, Tryz.results95, go_sem, masted, *]; done))

theorem m_walking (a : Option Addr) (c : Nat) (e : Option Addr) (d : Nat) (p : Port) (k : Dock) (n : Nat) (w : World) (hd : Blk w n (dockCells a c e d p k) 112) :
    Calls Tryz.prog 61 #[.pointer (some ⟨n, 0, none⟩)] w fun e w' => e = .returned (.bool (walking k)) ∧ Kept w w' := by
  have q := hd
  unfold dockCells at q
  have qc0 := q.cell 0
  have qf0 := q.free 0
  have ql := q.lt
  simp at qc0
  go_enter Tryz.func61, Tryz.ntmps61
  go_wp2
  all_goals (refine bodyPost_ret (v := .bool (walking k)) ?_ rfl ⟨rfl, by (exact kpt)⟩)
  all_goals (first | (simp [results, Tryz.results61, go_sem, walking]; done) | (simp [results, Tryz.results61, go_sem, walking]; rfl) | (simp [results, Tryz.results61, go_sem, walking, *]; done))

theorem m_housed (a : Option Addr) (c : Nat) (e : Option Addr) (d : Nat) (p : Port) (k : Dock) (n : Nat) (w : World) (hd : Blk w n (dockCells a c e d p k) 112) :
    Calls Tryz.prog 102 #[.pointer (some ⟨n, 0, none⟩)] w fun e w' => e = .returned (.bool (housed k)) ∧ Kept w w' := by
  have q := hd
  unfold dockCells at q
  have qc0 := q.cell 0
  have qf0 := q.free 0
  have ql := q.lt
  simp at qc0
  go_enter Tryz.func102, Tryz.ntmps102
  go_wp2
  all_goals (refine bodyPost_ret (v := .bool (housed k)) ?_ rfl ⟨rfl, by (exact kpt)⟩)
  all_goals (first | (simp [results, Tryz.results102, go_sem, housed]; done) | (simp [results, Tryz.results102, go_sem, housed]; rfl) | (simp [results, Tryz.results102, go_sem, housed, *]; done))

theorem m_held (a : Option Addr) (c : Nat) (e : Option Addr) (d : Nat) (p : Port) (k : Dock) (n : Nat) (w : World) (hd : Blk w n (dockCells a c e d p k) 112) :
    Calls Tryz.prog 92 #[.pointer (some ⟨n, 0, none⟩)] w fun e w' => e = .returned (.bool (gripped k)) ∧ Kept w w' := by
  have q := hd
  unfold dockCells at q
  have qc2 := q.cell 2
  have qf2 := q.free 2
  have ql := q.lt
  simp at qc2
  go_enter Tryz.func92, Tryz.ntmps92
  go_wp2
  all_goals (refine bodyPost_ret (v := .bool (gripped k)) ?_ rfl ⟨rfl, by (exact kpt)⟩)
  all_goals (first | (simp [results, Tryz.results92, go_sem, gripped]; done) | (simp [results, Tryz.results92, go_sem, gripped]; rfl) | (simp [results, Tryz.results92, go_sem, gripped, *]; done))

theorem m_loose (a : Option Addr) (c : Nat) (e : Option Addr) (d : Nat) (p : Port) (k : Dock) (n : Nat) (w : World) (hd : Blk w n (dockCells a c e d p k) 112) :
    Calls Tryz.prog 58 #[.pointer (some ⟨n, 0, none⟩)] w fun e w' => e = .returned (.bool (loose k)) ∧ Kept w w' := by
  have q := hd
  unfold dockCells at q
  have qc2 := q.cell 2
  have qf2 := q.free 2
  have ql := q.lt
  simp at qc2
  go_enter Tryz.func58, Tryz.ntmps58
  go_wp2
  all_goals (refine bodyPost_ret (v := .bool (loose k)) ?_ rfl ⟨rfl, by (exact kpt)⟩)
  all_goals (first | (simp [results, Tryz.results58, go_sem, loose]; done) | (simp [results, Tryz.results58, go_sem, loose]; rfl) | (simp [results, Tryz.results58, go_sem, loose, *]; done))

theorem m_wired (a : Option Addr) (c : Nat) (e : Option Addr) (d : Nat) (p : Port) (k : Dock) (n : Nat) (w : World) (hd : Blk w n (dockCells a c e d p k) 112) :
    Calls Tryz.prog 59 #[.pointer (some ⟨n, 0, none⟩)] w fun e w' => e = .returned (.bool (wired k)) ∧ Kept w w' := by
  have q := hd
  unfold dockCells at q
  have qc3 := q.cell 3
  have qf3 := q.free 3
  have ql := q.lt
  simp at qc3
  go_enter Tryz.func59, Tryz.ntmps59
  go_wp2
  all_goals (refine bodyPost_ret (v := .bool (wired k)) ?_ rfl ⟨rfl, by (exact kpt)⟩)
  all_goals (first | (simp [results, Tryz.results59, go_sem, wired]; done) | (simp [results, Tryz.results59, go_sem, wired]; rfl) | (simp [results, Tryz.results59, go_sem, wired, *]; done))

theorem m_bare (a : Option Addr) (c : Nat) (e : Option Addr) (d : Nat) (p : Port) (k : Dock) (n : Nat) (w : World) (hd : Blk w n (dockCells a c e d p k) 112) :
    Calls Tryz.prog 91 #[.pointer (some ⟨n, 0, none⟩)] w fun e w' => e = .returned (.bool (bare k)) ∧ Kept w w' := by
  have q := hd
  unfold dockCells at q
  have qc3 := q.cell 3
  have qf3 := q.free 3
  have ql := q.lt
  simp at qc3
  go_enter Tryz.func91, Tryz.ntmps91
  go_wp2
  all_goals (refine bodyPost_ret (v := .bool (bare k)) ?_ rfl ⟨rfl, by (exact kpt)⟩)
  all_goals (first | (simp [results, Tryz.results91, go_sem, bare]; done) | (simp [results, Tryz.results91, go_sem, bare]; rfl) | (simp [results, Tryz.results91, go_sem, bare, *]; done))

theorem m_open (a : Option Addr) (c : Nat) (e : Option Addr) (d : Nat) (p : Port) (k : Dock) (n : Nat) (w : World) (hd : Blk w n (dockCells a c e d p k) 112) :
    Calls Tryz.prog 97 #[.pointer (some ⟨n, 0, none⟩)] w fun e w' => e = .returned (.bool (opened k)) ∧ Kept w w' := by
  have q := hd
  unfold dockCells at q
  have qc4 := q.cell 4
  have qf4 := q.free 4
  have ql := q.lt
  simp at qc4
  go_enter Tryz.func97, Tryz.ntmps97
  go_wp2
  all_goals (refine bodyPost_ret (v := .bool (opened k)) ?_ rfl ⟨rfl, by (exact kpt)⟩)
  all_goals (first | (simp [results, Tryz.results97, go_sem, opened]; done) | (simp [results, Tryz.results97, go_sem, opened]; rfl) | (simp [results, Tryz.results97, go_sem, opened, *]; done))

theorem m_shut (a : Option Addr) (c : Nat) (e : Option Addr) (d : Nat) (p : Port) (k : Dock) (n : Nat) (w : World) (hd : Blk w n (dockCells a c e d p k) 112) :
    Calls Tryz.prog 62 #[.pointer (some ⟨n, 0, none⟩)] w fun e w' => e = .returned (.bool (shut k)) ∧ Kept w w' := by
  have q := hd
  unfold dockCells at q
  have qc4 := q.cell 4
  have qf4 := q.free 4
  have ql := q.lt
  simp at qc4
  go_enter Tryz.func62, Tryz.ntmps62
  go_wp2
  all_goals (refine bodyPost_ret (v := .bool (shut k)) ?_ rfl ⟨rfl, by (exact kpt)⟩)
  all_goals (first | (simp [results, Tryz.results62, go_sem, shut]; done) | (simp [results, Tryz.results62, go_sem, shut]; rfl) | (simp [results, Tryz.results62, go_sem, shut, *]; done))

theorem m_fast (a : Option Addr) (c : Nat) (e : Option Addr) (d : Nat) (p : Port) (k : Dock) (n : Nat) (w : World) (hd : Blk w n (dockCells a c e d p k) 112) :
    Calls Tryz.prog 90 #[.pointer (some ⟨n, 0, none⟩)] w fun e w' => e = .returned (.bool (fast k)) ∧ Kept w w' := by
  have q := hd
  unfold dockCells at q
  have qc0 := q.cell 0
  have qf0 := q.free 0
  have ql := q.lt
  simp at qc0
  rw [show fast k = (masted k || housed k) from rfl]
  cases hX : masted k <;> cases hY : housed k
  all_goals
    have HX := Lib.hid hX
    have HY := Lib.hid hY
    clear hX hY
    go_enter Tryz.func90, Tryz.ntmps90
    go_wp2_with (first | (go_at_call 95; (with_reducible refine (m_masted a c e d p k n _ ?_).mono ?_); (focus (exact blk)); rw [HX.out]; rintro e w1 ⟨rfl, hb1⟩) | (go_at_call 102; (with_reducible refine (m_housed a c e d p k n _ ?_).mono ?_); (focus (exact blk)); rw [HY.out]; rintro e w1 ⟨rfl, hb1⟩))
    exact bodyPost_ret (v := .bool _) (by first | (simp [results, Tryz.results90, go_sem]; done) | (simp [results, Tryz.results90, go_sem, hX]; done)) rfl ⟨rfl, by (exact kpt)⟩

theorem m_tied (a : Option Addr) (c : Nat) (e : Option Addr) (d : Nat) (p : Port) (k : Dock) (n : Nat) (w : World) (hd : Blk w n (dockCells a c e d p k) 112) :
    Calls Tryz.prog 63 #[.pointer (some ⟨n, 0, none⟩)] w fun e w' => e = .returned (.bool (tied k)) ∧ Kept w w' := by
  have q := hd
  unfold dockCells at q
  have qc0 := q.cell 0
  have qf0 := q.free 0
  have ql := q.lt
  simp at qc0
  rw [show tied k = (lined k || fast k) from rfl]
  cases hX : lined k <;> cases hY : fast k
  all_goals
    have HX := Lib.hid hX
    have HY := Lib.hid hY
    clear hX hY
    go_enter Tryz.func63, Tryz.ntmps63
    go_wp2_with (first | (go_at_call 60; (with_reducible refine (m_lined a c e d p k n _ ?_).mono ?_); (focus (exact blk)); rw [HX.out]; rintro e w1 ⟨rfl, hb1⟩) | (go_at_call 90; (with_reducible refine (m_fast a c e d p k n _ ?_).mono ?_); (focus (exact blk)); rw [HY.out]; rintro e w1 ⟨rfl, hb1⟩))
    exact bodyPost_ret (v := .bool _) (by first | (simp [results, Tryz.results63, go_sem]; done) | (simp [results, Tryz.results63, go_sem, hX]; done)) rfl ⟨rfl, by (exact kpt)⟩

theorem m_reached (a : Option Addr) (c : Nat) (e : Option Addr) (d : Nat) (p : Port) (k : Dock) (n : Nat) (w : World) (hd : Blk w n (dockCells a c e d p k) 112) :
    Calls Tryz.prog 87 #[.pointer (some ⟨n, 0, none⟩)] w fun e w' => e = .returned (.bool (reached k)) ∧ Kept w w' := by
  have q := hd
  unfold dockCells at q
  have qc0 := q.cell 0
  have qf0 := q.free 0
  have ql := q.lt
  simp at qc0
  rw [show reached k = (decide (k.b.ship = 1) || fast k) from rfl]
  cases hX : decide (k.b.ship = 1) <;> cases hY : fast k
  all_goals
    have HX := Lib.hid hX
    have HY := Lib.hid hY
    clear hY
    simp at hX
    go_enter Tryz.func87, Tryz.ntmps87
    go_wp2_with (first | (go_at_call 90; (with_reducible refine (m_fast a c e d p k n _ ?_).mono ?_); (focus (exact blk)); rw [HY.out]; rintro e w1 ⟨rfl, hb1⟩))
    exact bodyPost_ret (v := .bool _) (by first | (simp [results, Tryz.results87, go_sem]; done) | (simp [results, Tryz.results87, go_sem, hX]; done)) rfl ⟨rfl, by (exact kpt)⟩

theorem m_still (a : Option Addr) (c : Nat) (e : Option Addr) (d : Nat) (p : Port) (k : Dock) (n : Nat) (w : World) (hd : Blk w n (dockCells a c e d p k) 112) :
    Calls Tryz.prog 64 #[.pointer (some ⟨n, 0, none⟩)] w fun e w' => e = .returned (.bool (still k)) ∧ Kept w w' := by
  have q := hd
  unfold dockCells at q
  have qc0 := q.cell 0
  have qf0 := q.free 0
  have ql := q.lt
  simp at qc0
  go_enter Tryz.func64, Tryz.ntmps64
  go_wp2_with (first | (go_at_call 61; (with_reducible refine (m_walking a c e d p k n _ ?_).mono ?_); (focus (exact blk)); rintro e w1 ⟨rfl, hb1⟩))
  all_goals (refine bodyPost_ret (v := .bool (still k)) ?_ rfl ⟨rfl, by (exact kpt)⟩)
  all_goals (first | (simp [results, Tryz.results64, go_sem, still]; done) | (simp [results, Tryz.results64, go_sem, still]; rfl) | (simp [results, Tryz.results64, go_sem, still, *]; done))

end Go.Proofs.YtacbkbilbmkjnaaGreat

/-
  Rules of acts at the mast that read the port; what acts do.
-/
namespace Go.Proofs.YtacbkbilbmkjnaaGreat
open Go.RowKit Bal Bal.Trim Bal.Mast
set_option linter.unusedVariables false
set_option linter.unusedSimpArgs false
set_option maxHeartbeats 1000000
set_option maxRecDepth 10000

theorem rng_one (x lo hi : Int) : rng [x] lo hi = inB x lo hi := by simp [rng]
theorem f_rangedB (lo hi x : Int) (b : Nat) (t : TypeId) (w : World) (hb : Blk w b #[.int .i64 x] t) :
    Calls Tryz.prog 44 #[.int .i64 lo, .int .i64 hi, .slice (some ⟨b, 0, none⟩) 1 1] w fun e w' => e = .returned (.bool (inB x lo hi)) ∧ Kept w w' := by
  have := f_ranged lo hi (some ⟨b, 0, none⟩) 1 1 [x] w rfl (Row.one (enc := icell) hb rfl) (by decide)
  rw [rng_one] at this
  exact this
theorem m_crew (a : Option Addr) (c : Nat) (e : Option Addr) (d : Nat) (p : Port) (k : Dock) (n : Nat) (w : World) (hd : Blk w n (dockCells a c e d p k) 112) :
    Calls Tryz.prog 88 #[.pointer (some ⟨n, 0, none⟩)] w fun e w' => e = .returned (.bool (crew p k)) ∧ Kept w w' := by
  have q := hd
  unfold dockCells at q
  have qc6 : ∀ w', Kept w w' → w'.cell? ⟨n, 6, none⟩ = some (.int .i64 p.people) := fun w' h => by simpa using (q.keep h).cell 6
  have qc10 : ∀ w', Kept w w' → w'.cell? ⟨n, 10, none⟩ = some (.int .i64 k.need) := fun w' h => by simpa using (q.keep h).cell 10
  have qc15 : ∀ w', Kept w w' → w'.cell? ⟨n, 15, none⟩ = some (.int .i64 k.n) := fun w' h => by simpa using (q.keep h).cell 15
  have hnl := hd.lt
  go_enter Tryz.func88, Tryz.ntmps88
  go_upto_region 1 with fail
  go_cut [2] (fun s2 wx => s2 = .bool (crew p k) ∧ Kept w wx)
  case first =>
    go_region_held3 (fun w' => Kept w w') (exact kpt) (first | (go_at_call 44; (with_reducible refine (f_rangedB k.need p.people k.n _ 3 _ ?_).mono ?_); (focus (first | exact Blk.drew (Blk.new' rfl) | exact Blk.new' rfl | exact Blk.drew (Blk.new' (by simp)) | (exact blk))); rintro e w9 ⟨rfl, hb9⟩) | fail)
    all_goals (go_wp2_with fail; go_meet)
    all_goals exact ⟨rfl, by (exact kpt)⟩
  case rest =>
    obtain ⟨rfl, hk⟩ := hcut
    go_wp2
    exact bodyPost_ret (v := .bool (crew p k)) (by simp [results, Tryz.results88, go_sem]) rfl ⟨rfl, by (exact kpt)⟩
theorem m_other (a : Option Addr) (c : Nat) (e : Option Addr) (d : Nat) (p : Port) (k : Dock) (n : Nat) (w : World) (hd : Blk w n (dockCells a c e d p k) 112) (hl : p.axes.length ≤ 32) :
    Calls Tryz.prog 99 #[.pointer (some ⟨n, 0, none⟩)] w fun e w' => e = .returned (.bool (elsewhere p k)) ∧ Kept w w' := by
  have q := hd
  unfold dockCells at q
  have qc1 : ∀ w', Kept w w' → w'.cell? ⟨n, 1, none⟩ = some (.int .i64 k.b.axis) := fun w' h => by simpa using (q.keep h).cell 1
  have qc5 : ∀ w', Kept w w' → w'.cell? ⟨n, 5, none⟩ = some (.slice a p.axes.length c) := fun w' h => by simpa using (q.keep h).cell 5
  have qc15 : ∀ w', Kept w w' → w'.cell? ⟨n, 15, none⟩ = some (.int .i64 k.n) := fun w' h => by simpa using (q.keep h).cell 15
  have hnl := hd.lt
  have u1 : IntKind.i64.wrap ((p.axes.length : Int) - 1) = (p.axes.length : Int) - 1 := by rw [IntKind.wrap_i64]; omega
  obtain ⟨V, hV⟩ : ∃ V, inB k.n 0 (p.axes.length - 1) = V := ⟨_, rfl⟩
  have HV := Lib.hid hV
  obtain ⟨E, hE⟩ : ∃ E, elsewhere p k = E := ⟨_, rfl⟩
  have hE' := hE
  unfold elsewhere at hE'
  rw [hV] at hE'
  rw [hE]
  clear hV hE
  have hq := fun (w' : World) (h : Blk w' n (dockCells a c e d p k) 112) => (show Blk w' n #[.int .u8 k.b.ship, .int .i64 k.b.axis, .int .i64 k.b.held, .bool k.b.wire, .bool k.b.opn, .slice a p.axes.length c, .int .i64 p.people, .int .i64 p.most, .slice e p.pulls.length d, .int .i64 p.cross, .int .i64 k.need, .int .i64 k.wind.xlo, .int .i64 k.wind.xhi, .int .i64 k.wind.ylo, .int .i64 k.wind.yhi, .int .i64 k.n] 112 from h)
  cases V
  · rw [Bool.false_and] at hE'
    subst hE'
    clear q qc1 qc5 qc15
    go_enter Tryz.func99, Tryz.ntmps99
    go_upto_region 1 with fail
    refine held_walk (fun w' => Blk w' n (dockCells a c e d p k) 112 ∧ Kept w w') [(true, 0), (true, 1), (true, 2), (true, 3), (true, 4), (true, 5), (true, 6), (true, 7), (true, 8), (true, 9), (true, 10), (false, 11), (false, 12), (true, 13), (true, 14), (true, 15), (true, 16), (true, 17), (true, 18), (true, 19), (true, 20), (true, 21), (true, 22), (true, 23), (true, 24), (false, 25)] 25 (by kernel_rfl) (by kernel_rfl) (fun c a d v w h => by cases d <;> exact h) ⟨hd.drew, (Below.refl _ _).drew⟩ ?_
    simp only [List.filterMap_cons, List.filterMap_nil, List.getElem?_cons_zero, List.getElem?_cons_succ, Option.map_some]
    iterate 11 ((first | (refine held_take ?_ ?_ (fun w' hS => ?_) ?_; rotate_left 1; (focus rfl); (focus (first | (go_simp; done) | (go_simp; with_reducible rfl) | (obtain ⟨S1, S2⟩ := hS; have q := hq _ S1; have qc1 := q.cell 1; have qc5 := q.cell 5; have qc15 := q.cell 15; simp at qc1 qc5 qc15; first | (go_simp; done) | (go_simp; with_reducible rfl))))) | (refine held_pass ?_ ?_; (focus rfl))); simp only [Act.put, List.setIfInBounds_toArray, List.set_cons_zero, List.set_cons_succ])
    refine held_one ?_
    refine wpList_plain rfl fun K1 hK1 => ?_
    go_simp
    refine hK1 _ _ ?_
    refine held_on ⟨hd.drew.alloc _, by (exact kpt)⟩ ?_
    refine held_one ?_
    refine wpList_plain rfl fun K1 hK1 => ?_
    go_wp2_with (go_at_call 44; (with_reducible refine (f_rangedB 0 (p.axes.length - 1) k.n _ 3 _ ?_).mono ?_); (focus (first | exact Blk.drew (Blk.new' rfl) | exact Blk.new' rfl | exact Blk.drew (Blk.new' (by simp)) | (exact blk))); rw [HV.out]; rintro e w9 ⟨rfl, hb9⟩)
    refine held_on ⟨(hd.drew.alloc _).keep hb9, by (exact kpt)⟩ ?_
    iterate 12 ((first | (refine held_take ?_ ?_ (fun w' hS => ?_) ?_; rotate_left 1; (focus rfl); (focus (first | (go_simp; done) | (go_simp; with_reducible rfl) | (obtain ⟨S1, S2⟩ := hS; have q := hq _ S1; have qc1 := q.cell 1; have qc5 := q.cell 5; have qc15 := q.cell 15; simp at qc1 qc5 qc15; first | (go_simp; done) | (go_simp; with_reducible rfl))))) | (refine held_pass ?_ ?_; (focus rfl))); simp only [Act.put, List.setIfInBounds_toArray, List.set_cons_zero, List.set_cons_succ])
    refine held_one ?_
    refine wpList_plain rfl fun K1 hK1 => ?_
    go_wp2
    (first | refine held_end ?_ | (refine onward_on ?_; first | refine held_nil ?_ | refine ⟨.inl trivial, held_nil ?_⟩ | refine ⟨.inl rfl, held_nil ?_⟩))
    go_wp2
    exact bodyPost_ret (v := .bool false) (by simp [results, Tryz.results99, go_sem]) rfl ⟨rfl, by (exact kpt)⟩
  · rw [Bool.true_and] at hE'
    have hE2 : (!(k.n == k.b.axis)) = E := by rw [← hE']; cases hq : decide (k.n = k.b.axis) <;> simp_all
    clear hE' q qc1 qc5 qc15
    go_enter Tryz.func99, Tryz.ntmps99
    go_upto_region 1 with fail
    refine held_walk (fun w' => Blk w' n (dockCells a c e d p k) 112 ∧ Kept w w') [(true, 0), (true, 1), (true, 2), (true, 3), (true, 4), (true, 5), (true, 6), (true, 7), (true, 8), (true, 9), (true, 10), (false, 11), (false, 12), (true, 13), (true, 14), (true, 15), (true, 16), (true, 17), (true, 18), (true, 19), (true, 20), (true, 21), (true, 22), (true, 23), (true, 24), (false, 25)] 25 (by kernel_rfl) (by kernel_rfl) (fun c a d v w h => by cases d <;> exact h) ⟨hd.drew, (Below.refl _ _).drew⟩ ?_
    simp only [List.filterMap_cons, List.filterMap_nil, List.getElem?_cons_zero, List.getElem?_cons_succ, Option.map_some]
    iterate 11 ((first | (refine held_take ?_ ?_ (fun w' hS => ?_) ?_; rotate_left 1; (focus rfl); (focus (first | (go_simp; done) | (go_simp; with_reducible rfl) | (obtain ⟨S1, S2⟩ := hS; have q := hq _ S1; have qc1 := q.cell 1; have qc5 := q.cell 5; have qc15 := q.cell 15; simp at qc1 qc5 qc15; first | (go_simp; done) | (go_simp; with_reducible rfl))))) | (refine held_pass ?_ ?_; (focus rfl))); simp only [Act.put, List.setIfInBounds_toArray, List.set_cons_zero, List.set_cons_succ])
    refine held_one ?_
    refine wpList_plain rfl fun K1 hK1 => ?_
    go_simp
    refine hK1 _ _ ?_
    refine held_on ⟨hd.drew.alloc _, by (exact kpt)⟩ ?_
    refine held_one ?_
    refine wpList_plain rfl fun K1 hK1 => ?_
    go_wp2_with (go_at_call 44; (with_reducible refine (f_rangedB 0 (p.axes.length - 1) k.n _ 3 _ ?_).mono ?_); (focus (first | exact Blk.drew (Blk.new' rfl) | exact Blk.new' rfl | exact Blk.drew (Blk.new' (by simp)) | (exact blk))); rw [HV.out]; rintro e w9 ⟨rfl, hb9⟩)
    refine held_on ⟨(hd.drew.alloc _).keep hb9, by (exact kpt)⟩ ?_
    iterate 12 ((first | (refine held_take ?_ ?_ (fun w' hS => ?_) ?_; rotate_left 1; (focus rfl); (focus (first | (go_simp; done) | (go_simp; with_reducible rfl) | (obtain ⟨S1, S2⟩ := hS; have q := hq _ S1; have qc1 := q.cell 1; have qc5 := q.cell 5; have qc15 := q.cell 15; simp at qc1 qc5 qc15; first | (go_simp; done) | (go_simp; with_reducible rfl))))) | (refine held_pass ?_ ?_; (focus rfl))); simp only [Act.put, List.setIfInBounds_toArray, List.set_cons_zero, List.set_cons_succ])
    refine held_one ?_
    refine wpList_plain rfl fun K1 hK1 => ?_
    go_wp2
    (first | refine held_end ?_ | (refine onward_on ?_; first | refine held_nil ?_ | refine ⟨.inl trivial, held_nil ?_⟩ | refine ⟨.inl rfl, held_nil ?_⟩))
    go_wp2
    exact bodyPost_ret (v := .bool E) (by first | (simp [results, Tryz.results99, go_sem, hE2]; done) | (simp [results, Tryz.results99, go_sem]; exact hE2) | (simp [results, Tryz.results99, go_sem, ← hE2]; rfl)) rfl ⟨rfl, by (exact kpt)⟩

theorem m_quiet (a : Option Addr) (c : Nat) (e : Option Addr) (d : Nat) (p : Port) (k : Dock) (n : Nat) (w : World) (hd : Blk w n (dockCells a c e d p k) 112) (hx : Row Axis.cells 2 w.heap.size w a p.axes) (hp : portB p = true) (hw : windB k.wind = true) (h0 : 0 ≤ k.b.axis) (h1 : k.b.axis < p.axes.length) :
    Calls Tryz.prog 101 #[.pointer (some ⟨n, 0, none⟩)] w fun e w' => e = .returned (.bool (quiet p k)) ∧ Kept w w' := by
  obtain ⟨i, hi⟩ := Int.eq_ofNat_of_zero_le h0
  have hil : i < p.axes.length := by omega
  have hqt : quiet p k = calmS k.wind p.axes[i] p.cross := by unfold quiet; rw [hi]; simp [hil]
  rw [hqt]
  obtain ⟨_, _, hax⟩ := turnable_parts (portB_parts hp).1
  have hab := hax _ (List.getElem_mem hil)
  obtain ⟨bb, off, hae, hbb, g0, g1⟩ := Axis.row hx i hil
  obtain ⟨X, hX⟩ : ∃ X, X = p.axes[i] := ⟨_, rfl⟩
  rw [← hX] at hab g0 g1 ⊢
  have HW := Lib.hid hw
  have HA := Lib.hid hab
  have HM := Lib.hid (portB_parts hp).2.2.2.2
  have q := hd
  unfold dockCells at q
  rw [hi, hae] at q
  have qc1 := fun g : Later w => (q.later g).cell 1
  have qc5 := fun g : Later w => (q.later g).cell 5
  have qc9 := fun g : Later w => (q.later g).cell 9
  have qc11 := fun g : Later w => (q.later g).cell 11
  have qc12 := fun g : Later w => (q.later g).cell 12
  have qc13 := fun g : Later w => (q.later g).cell 13
  have qc14 := fun g : Later w => (q.later g).cell 14
  have qf1 := fun g : Later w => (q.later g).free 1
  have qf5 := fun g : Later w => (q.later g).free 5
  have qf9 := fun g : Later w => (q.later g).free 9
  have qf11 := fun g : Later w => (q.later g).free 11
  have qf12 := fun g : Later w => (q.later g).free 12
  have qf13 := fun g : Later w => (q.later g).free 13
  have qf14 := fun g : Later w => (q.later g).free 14
  have ql := fun g : Later w => (q.later g).lt
  simp at qc1 qc5 qc9 qc11 qc12 qc13 qc14
  have x0 := fun g : Later w => g.some g0
  have x1 := fun g : Later w => g.some g1
  have i0 : (0 : Int) ≤ (i : Int) := by omega
  have i1 : (i : Int) < (p.axes.length : Int) := by omega
  clear hqt hX hi hax hae hd h0 h1 hp hw hab hx q
  go_enter Tryz.func101, Tryz.ntmps101
  go_upto_region 1 with fail
  refine Later.region (by kernel_rfl) (by kernel_rfl) ?_
  repeat (first | go_big_quiet_skip | (go_big_quiet_want; go_big_quiet_op; first | go_big_quiet_on | (apply Exists.intro; refine ⟨fun g => ?_, ?_⟩; (focus (first | (go_at_call 57; with_reducible exact Later.call (f_calm k.wind X p.cross _ HW.out HA.out HM.out)))); go_big_quiet_on)))
  refine wpQuiet_nil ?_
  intro gg
  have hkg : Kept w gg.val := gg.ok
  go_wp2
  exact bodyPost_ret (v := .bool (calmS k.wind X p.cross)) (by simp [results, Tryz.results101, go_sem]) rfl ⟨rfl, by (exact kpt)⟩

theorem a_ship (a : Option Addr) (c : Nat) (e : Option Addr) (d : Nat) (p : Port) (k : Dock) (n : Nat) (w : World) (hd : Blk w n (dockCells a c e d p k) 112) (s : Int) (m : Nat) (hm : Blk w m #[.int .u8 s] 5) :
    Calls Tryz.prog 114 #[.pointer (some ⟨n, 0, none⟩), .pointer (some ⟨m, 0, none⟩)] w fun z w' => z = .returned (.tuple #[]) ∧ Blk w' n (dockCells a c e d p { k with b := toShip s k.b }) 112 ∧ Below n w w' := by
  have q := hd
  unfold dockCells at q
  have qc0 := q.cell 0
  have qc3 := q.cell 3
  have qf0 := q.free 0
  have qf3 := q.free 3
  have ql := q.lt
  simp at qc0 qc3
  have hm0 := hm.cell 0
  have hml := hm.lt
  simp at hm0
  go_enter Tryz.func114, Tryz.ntmps114
  go_wp2
  all_goals go_end0
  all_goals exact ⟨rfl, Blk.cast (((hd.set 0 _).set 3 _)) (by simp [dockCells, toShip]), by (repeat (first | with_reducible assumption | with_reducible exact Below.refl _ _ | ((with_reducible refine Below.setCell ?_ ?_ _); rotate_left 1; (focus (first | exact Nat.le_refl _ | (simp; done) | (simp; omega))))))⟩

theorem a_4 (a : Option Addr) (c : Nat) (e : Option Addr) (d : Nat) (p : Port) (k : Dock) (n : Nat) (w : World) (hd : Blk w n (dockCells a c e d p k) 112) :
    Calls Tryz.prog 94 #[.pointer (some ⟨n, 0, none⟩)] w fun z w' => z = .returned (.tuple #[]) ∧ Blk w' n (dockCells a c e d p { k with b := { k.b with wire := true } }) 112 ∧ Below n w w' := by
  have q := hd
  unfold dockCells at q
  have qc3 := q.cell 3
  have qf3 := q.free 3
  have ql := q.lt
  simp at qc3
  
  go_enter Tryz.func94, Tryz.ntmps94
  go_wp2
  all_goals go_end0
  all_goals exact ⟨rfl, Blk.cast ((hd.set 3 _)) (by simp [dockCells]), by (repeat (first | with_reducible assumption | with_reducible exact Below.refl _ _ | ((with_reducible refine Below.setCell ?_ ?_ _); rotate_left 1; (focus (first | exact Nat.le_refl _ | (simp; done) | (simp; omega))))))⟩

theorem a_5 (a : Option Addr) (c : Nat) (e : Option Addr) (d : Nat) (p : Port) (k : Dock) (n : Nat) (w : World) (hd : Blk w n (dockCells a c e d p k) 112) :
    Calls Tryz.prog 96 #[.pointer (some ⟨n, 0, none⟩)] w fun z w' => z = .returned (.tuple #[]) ∧ Blk w' n (dockCells a c e d p { k with b := { k.b with opn := true } }) 112 ∧ Below n w w' := by
  have q := hd
  unfold dockCells at q
  have qc4 := q.cell 4
  have qf4 := q.free 4
  have ql := q.lt
  simp at qc4
  
  go_enter Tryz.func96, Tryz.ntmps96
  go_wp2
  all_goals go_end0
  all_goals exact ⟨rfl, Blk.cast ((hd.set 4 _)) (by simp [dockCells]), by (repeat (first | with_reducible assumption | with_reducible exact Below.refl _ _ | ((with_reducible refine Below.setCell ?_ ?_ _); rotate_left 1; (focus (first | exact Nat.le_refl _ | (simp; done) | (simp; omega))))))⟩

theorem a_6 (a : Option Addr) (c : Nat) (e : Option Addr) (d : Nat) (p : Port) (k : Dock) (n : Nat) (w : World) (hd : Blk w n (dockCells a c e d p k) 112) :
    Calls Tryz.prog 98 #[.pointer (some ⟨n, 0, none⟩)] w fun z w' => z = .returned (.tuple #[]) ∧ Blk w' n (dockCells a c e d p { k with b := { k.b with opn := false } }) 112 ∧ Below n w w' := by
  have q := hd
  unfold dockCells at q
  have qc4 := q.cell 4
  have qf4 := q.free 4
  have ql := q.lt
  simp at qc4
  
  go_enter Tryz.func98, Tryz.ntmps98
  go_wp2
  all_goals go_end0
  all_goals exact ⟨rfl, Blk.cast ((hd.set 4 _)) (by simp [dockCells]), by (repeat (first | with_reducible assumption | with_reducible exact Below.refl _ _ | ((with_reducible refine Below.setCell ?_ ?_ _); rotate_left 1; (focus (first | exact Nat.le_refl _ | (simp; done) | (simp; omega))))))⟩

theorem a_7 (a : Option Addr) (c : Nat) (e : Option Addr) (d : Nat) (p : Port) (k : Dock) (n : Nat) (w : World) (hd : Blk w n (dockCells a c e d p k) 112) :
    Calls Tryz.prog 100 #[.pointer (some ⟨n, 0, none⟩)] w fun z w' => z = .returned (.tuple #[]) ∧ Blk w' n (dockCells a c e d p { k with b := { k.b with axis := k.n } }) 112 ∧ Below n w w' := by
  have q := hd
  unfold dockCells at q
  have qc1 := q.cell 1
  have qc15 := q.cell 15
  have qf1 := q.free 1
  have qf15 := q.free 15
  have ql := q.lt
  simp at qc1 qc15
  
  go_enter Tryz.func100, Tryz.ntmps100
  go_wp2
  all_goals go_end0
  all_goals exact ⟨rfl, Blk.cast ((hd.set 1 _)) (by simp [dockCells]), by (repeat (first | with_reducible assumption | with_reducible exact Below.refl _ _ | ((with_reducible refine Below.setCell ?_ ?_ _); rotate_left 1; (focus (first | exact Nat.le_refl _ | (simp; done) | (simp; omega))))))⟩

theorem a_2 (a : Option Addr) (c : Nat) (e : Option Addr) (d : Nat) (p : Port) (k : Dock) (n : Nat) (w : World) (hd : Blk w n (dockCells a c e d p k) 112) :
    Calls Tryz.prog 89 #[.pointer (some ⟨n, 0, none⟩)] w fun z w' => z = .returned (.tuple #[]) ∧ Blk w' n (dockCells a c e d p { k with b := { k.b with held := k.n, ship := if fast k then k.b.ship else 2 } }) 112 ∧ Below n w w' := by
  have q := hd
  unfold dockCells at q
  have qc0 := q.cell 0
  have qc2 := q.cell 2
  have qc15 := q.cell 15
  have qf0 := q.free 0
  have qf2 := q.free 2
  have qf15 := q.free 15
  have ql := q.lt
  simp at qc0 qc2 qc15
  cases hF : fast k
  · have HF := Lib.hid (show fast { k with b := { k.b with held := k.n } } = false from hF)
    clear hF
    go_enter Tryz.func89, Tryz.ntmps89
    go_wp2_with (go_at_call 90; (with_reducible refine (m_fast a c e d p { k with b := { k.b with held := k.n } } n _ ?_).mono ?_); (focus exact Blk.cast ((hd.set 2 _)) (by simp [dockCells])); rw [HF.out]; rintro z w1 ⟨rfl, hb1⟩; have hbn : Below n w w1 := Below.trans (Below.setCell (Below.refl n w) (Nat.le_refl n) _) (hb1.mono (by have := hd.lt; simp; omega)); have q2 := (Blk.cast ((hd.set 2 _)) (by simp [dockCells]) : Blk _ n (dockCells a c e d p { k with b := { k.b with held := k.n } }) 112).keep hb1; have q3 := q2; unfold dockCells at q3; have q3c0 := q3.cell 0; have q3f0 := q3.free 0; have q3l := q3.lt; simp at q3c0)
    go_end0
    exact ⟨rfl, Blk.cast (q2.set 0 _) (by simp [dockCells]), by (repeat (first | with_reducible assumption | with_reducible exact Below.refl _ _ | ((with_reducible refine Below.setCell ?_ ?_ _); rotate_left 1; (focus (first | exact Nat.le_refl _ | (simp; done) | (simp; omega))))))⟩
  · have HF := Lib.hid (show fast { k with b := { k.b with held := k.n } } = true from hF)
    clear hF
    go_enter Tryz.func89, Tryz.ntmps89
    go_wp2_with (go_at_call 90; (with_reducible refine (m_fast a c e d p { k with b := { k.b with held := k.n } } n _ ?_).mono ?_); (focus exact Blk.cast ((hd.set 2 _)) (by simp [dockCells])); rw [HF.out]; rintro z w1 ⟨rfl, hb1⟩; have hbn : Below n w w1 := Below.trans (Below.setCell (Below.refl n w) (Nat.le_refl n) _) (hb1.mono (by have := hd.lt; simp; omega)); have q2 := (Blk.cast ((hd.set 2 _)) (by simp [dockCells]) : Blk _ n (dockCells a c e d p { k with b := { k.b with held := k.n } }) 112).keep hb1; have q3 := q2; unfold dockCells at q3; have q3c0 := q3.cell 0; have q3f0 := q3.free 0; have q3l := q3.lt; simp at q3c0)
    go_end0
    exact ⟨rfl, Blk.cast q2 (by simp [dockCells]), by (repeat (first | with_reducible assumption | with_reducible exact Below.refl _ _ | ((with_reducible refine Below.setCell ?_ ?_ _); rotate_left 1; (focus (first | exact Nat.le_refl _ | (simp; done) | (simp; omega))))))⟩

theorem a_3 (a : Option Addr) (c : Nat) (e : Option Addr) (d : Nat) (p : Port) (k : Dock) (n : Nat) (w : World) (hd : Blk w n (dockCells a c e d p k) 112) :
    Calls Tryz.prog 93 #[.pointer (some ⟨n, 0, none⟩)] w fun z w' => z = .returned (.tuple #[]) ∧ Blk w' n (dockCells a c e d p { k with b := { k.b with held := 0, ship := if fast k then k.b.ship else 1 } }) 112 ∧ Below n w w' := by
  have q := hd
  unfold dockCells at q
  have qc0 := q.cell 0
  have qc2 := q.cell 2
  have qc15 := q.cell 15
  have qf0 := q.free 0
  have qf2 := q.free 2
  have qf15 := q.free 15
  have ql := q.lt
  simp at qc0 qc2 qc15
  cases hF : fast k
  · have HF := Lib.hid (show fast { k with b := { k.b with held := 0 } } = false from hF)
    clear hF
    go_enter Tryz.func93, Tryz.ntmps93
    go_wp2_with (go_at_call 90; (with_reducible refine (m_fast a c e d p { k with b := { k.b with held := 0 } } n _ ?_).mono ?_); (focus exact Blk.cast ((hd.set 2 _)) (by simp [dockCells])); rw [HF.out]; rintro z w1 ⟨rfl, hb1⟩; have hbn : Below n w w1 := Below.trans (Below.setCell (Below.refl n w) (Nat.le_refl n) _) (hb1.mono (by have := hd.lt; simp; omega)); have q2 := (Blk.cast ((hd.set 2 _)) (by simp [dockCells]) : Blk _ n (dockCells a c e d p { k with b := { k.b with held := 0 } }) 112).keep hb1; have q3 := q2; unfold dockCells at q3; have q3c0 := q3.cell 0; have q3f0 := q3.free 0; have q3l := q3.lt; simp at q3c0)
    go_end0
    exact ⟨rfl, Blk.cast (q2.set 0 _) (by simp [dockCells]), by (repeat (first | with_reducible assumption | with_reducible exact Below.refl _ _ | ((with_reducible refine Below.setCell ?_ ?_ _); rotate_left 1; (focus (first | exact Nat.le_refl _ | (simp; done) | (simp; omega))))))⟩
  · have HF := Lib.hid (show fast { k with b := { k.b with held := 0 } } = true from hF)
    clear hF
    go_enter Tryz.func93, Tryz.ntmps93
    go_wp2_with (go_at_call 90; (with_reducible refine (m_fast a c e d p { k with b := { k.b with held := 0 } } n _ ?_).mono ?_); (focus exact Blk.cast ((hd.set 2 _)) (by simp [dockCells])); rw [HF.out]; rintro z w1 ⟨rfl, hb1⟩; have hbn : Below n w w1 := Below.trans (Below.setCell (Below.refl n w) (Nat.le_refl n) _) (hb1.mono (by have := hd.lt; simp; omega)); have q2 := (Blk.cast ((hd.set 2 _)) (by simp [dockCells]) : Blk _ n (dockCells a c e d p { k with b := { k.b with held := 0 } }) 112).keep hb1; have q3 := q2; unfold dockCells at q3; have q3c0 := q3.cell 0; have q3f0 := q3.free 0; have q3l := q3.lt; simp at q3c0)
    go_end0
    exact ⟨rfl, Blk.cast q2 (by simp [dockCells]), by (repeat (first | with_reducible assumption | with_reducible exact Below.refl _ _ | ((with_reducible refine Below.setCell ?_ ?_ _); rotate_left 1; (focus (first | exact Nat.le_refl _ | (simp; done) | (simp; omega))))))⟩

end Go.Proofs.YtacbkbilbmkjnaaGreat

/-
  A map of bools that a call has made itself, by what its look-ups answer. No program in sight.
-/
namespace Bal
open Go Go.RowKit Go.Maps
set_option linter.unusedVariables false
/-- block b is a map of bools of at most n entries, whose look-ups answer f -/
def InSet (P : Program) (k e : TypeId) (w : World) (b n : Nat) (f : Lit → Bool) : Prop :=
  ∃ D : DataW Unit, w.ownsMap P k (plainElem P e) b n D ∧ IsMap D ∧ ∀ kl, D.atKey kl (.lit (.bool false)) = .lit (.bool (f kl))
theorem InSet.made {P : Program} {k e : TypeId} {w : World} {b : Nat} (hb : b = w.heap.size) : InSet P k e (w.alloc (.map #[] 0)) b 0 (fun _ => false) := by
  subst hb
  exact ⟨.map [], World.ownsMap_made w P k _, isMap_empty, fun kl => rfl⟩
theorem InSet.lt {P : Program} {k e : TypeId} {w : World} {b n : Nat} {f : Lit → Bool} (h : InSet P k e w b n f) : b < w.heap.size := by
  obtain ⟨D, h, _⟩ := h
  exact h.lt
theorem InSet.keep {P : Program} {k e : TypeId} {w w' : World} {b n : Nat} {f : Lit → Bool} (h : InSet P k e w b n f) (hb : Kept w w') : InSet P k e w' b n f := by
  have hl := h.lt
  obtain ⟨D, ⟨es, clock, hh, r⟩, h2⟩ := h
  exact ⟨D, ⟨es, clock, by rw [hb.block b hl]; exact hh, r⟩, h2⟩
theorem InSet.put {P : Program} {k e : TypeId} {w' : World} {b n : Nat} {f g : Lit → Bool} {D : DataW Unit} {kl : Lit} {v : Bool} (hD : IsMap D) (hf : ∀ kl, D.atKey kl (.lit (.bool false)) = .lit (.bool (f kl))) (hk : WideAt.IsKeyLit kl) (hg1 : g kl = v) (hg2 : ∀ x, x ≠ kl → g x = f x)
    (h : w'.ownsMap P k (plainElem P e) b n (D.put kl (.lit (.bool v)))) : InSet P k e w' b n g := by
  refine ⟨_, h, hD.put _ _, fun x => ?_⟩
  by_cases hx : x = kl
  · subst hx
    rw [atKey_put_same hD hk, hg1]
  · rw [atKey_put_other hx, hf, hg2 x hx]
theorem Kept.turned {w0 w w' : World} {b : Nat} (h : Kept w0 w) (hb : w0.heap.size ≤ b) (hg : w.grownBy w' (some b)) : Kept w0 w' := by
  refine Below.trans h ⟨hg.os, hg.tape, hg.output, hg.size, fun i hi => hg.block i (Nat.lt_of_lt_of_le hi h.size) fun he => ?_⟩
  simp only [Option.some.injEq] at he
  omega
theorem Blk.turned {w w' : World} {b m : Nat} {arr : Array Value} {t : TypeId} (h : Blk w m arr t) (hne : m ≠ b) (hg : w.grownBy w' (some b)) : Blk w' m arr t := by
  have hl := h.lt
  unfold Blk at *
  rw [hg.block m hl (fun he => hne (by simpa using he))]
  exact h
end Bal

/-
  A map that a call has made itself, by what its look-ups answer: its values are held as they are. No program in sight.
-/
namespace Bal
open Go Go.RowKit Go.Maps
set_option linter.unusedVariables false
def tokR (v : Value) : Option (DataW Value × List MemPlace) := some (.held v, [])
/-- block b is a map of at most n entries, in which f lies -/
def InMap (P : Program) (k : TypeId) (w : World) (b n : Nat) (f : Lit → Option Value) : Prop :=
  ∃ D : DataW Value, w.ownsMap P k tokR b n D ∧ IsMap D ∧ ∀ kl z, D.atKey kl z = match f kl with | some v => .held v | none => z
theorem InMap.made {P : Program} {k : TypeId} {w : World} {b : Nat} (hb : b = w.heap.size) : InMap P k (w.alloc (.map #[] 0)) b 0 (fun _ => none) := by
  subst hb
  exact ⟨.map [], World.ownsMap_made w P k _, isMap_empty, fun kl z => rfl⟩
theorem InMap.lt {P : Program} {k : TypeId} {w : World} {b n : Nat} {f : Lit → Option Value} (h : InMap P k w b n f) : b < w.heap.size := by
  obtain ⟨D, h, _⟩ := h
  exact h.lt
theorem InMap.below {P : Program} {k : TypeId} {B : Nat} {w w' : World} {b n : Nat} {f : Lit → Option Value} (h : InMap P k w b n f) (hb : Below B w w') (hB : b < B) : InMap P k w' b n f := by
  obtain ⟨D, ⟨es, clock, hh, r⟩, h2⟩ := h
  exact ⟨D, ⟨es, clock, by rw [hb.block b hB]; exact hh, r⟩, h2⟩
theorem InMap.keep {P : Program} {k : TypeId} {w w' : World} {b n : Nat} {f : Lit → Option Value} (h : InMap P k w b n f) (hb : Kept w w') : InMap P k w' b n f := h.below hb h.lt
theorem InMap.put {P : Program} {k : TypeId} {w' : World} {b n : Nat} {f g : Lit → Option Value} {D : DataW Value} {kl : Lit} {v : Value} (hD : IsMap D) (hf : ∀ kl z, D.atKey kl z = match f kl with | some v => .held v | none => z) (hk : WideAt.IsKeyLit kl) (hg1 : g kl = some v) (hg2 : ∀ x, x ≠ kl → g x = f x)
    (h : w'.ownsMap P k tokR b n (D.put kl (.held v))) : InMap P k w' b n g := by
  refine ⟨_, h, hD.put _ _, fun x z => ?_⟩
  by_cases hx : x = kl
  · subst hx
    rw [atKey_put_same hD hk, hg1]
  · rw [atKey_put_other hx, hf, hg2 x hx]
/-- 'm[k]' -/
theorem wpList_look_map {P : Program} (w : World) {ops : Array Oper} {rest : List Oper} {o : Oper} {a : Act} {Q : Exit → Act → World → Prop}
    (hg : o.guard = none) (m x : Operand) (t : TypeId) (hop : o.op = Op.lookup t m x false)
    (k e : TypeId) (K : Keyed P k) (ht : P.underlying t = some (.map k e)) (z : Value) (hz : (zeroValue e).run P w = .ok z w) (b n : Nat) (f : Lit → Option Value)
    (hm : a.eval m = .map (some b)) (hset : InMap P k w b n f) (key : Value) (kl : Lit) (hx : a.eval x = key) (hkey : keyOf P k key = some kl) (v : Value) (hv : (f kl).getD z = v)
    (hK : wpList P ops Q rest (a.put o.dst v) w) :
    wpList P ops Q (o :: rest) a w := by
  refine wpList_plain hg fun K' hK' => ?_
  obtain ⟨D, hown, hD, hf⟩ := hset
  obtain ⟨u, ps, hrun, hu⟩ := hown.lookup K ht hz (zd := .held z) (zp := []) rfl hkey
  rw [hf kl] at hu
  have hvv : u = v := by
    unfold tokR at hu
    rw [← hv]
    cases hfk : f kl with
    | none => rw [hfk] at hu; simp only [Option.some.injEq, Prod.mk.injEq, DataW.held.injEq] at hu; exact hu.1
    | some y => rw [hfk] at hu; simp only [Option.some.injEq, Prod.mk.injEq, DataW.held.injEq] at hu; exact hu.1
  unfold Oper.wp
  simp [execOp, hop, hm, hx, hrun, Result.andThen]
  exact hK' _ _ (hvv ▸ hK)
/-- 'v, ok := m[k]' -/
theorem wpList_look_ok {P : Program} (w : World) {ops : Array Oper} {rest : List Oper} {o : Oper} {a : Act} {Q : Exit → Act → World → Prop}
    (hg : o.guard = none) (m x : Operand) (t : TypeId) (hop : o.op = Op.lookup t m x true)
    (k e : TypeId) (K : Keyed P k) (ht : P.underlying t = some (.map k e)) (z : Value) (hz : (zeroValue e).run P w = .ok z w) (b n : Nat) (f : Lit → Option Value)
    (hm : a.eval m = .map (some b)) (hset : InMap P k w b n f) (key : Value) (kl : Lit) (hx : a.eval x = key) (hkey : keyOf P k key = some kl) (v : Value) (hv : (f kl).getD z = v) (y : Bool) (hy : (f kl).isSome = y)
    (hK : wpList P ops Q rest (a.put o.dst (.tuple #[v, .bool y])) w) :
    wpList P ops Q (o :: rest) a w := by
  refine wpList_plain hg fun K' hK' => ?_
  obtain ⟨D, hown, hD, hf⟩ := hset
  obtain ⟨u, ps, hrun, hu⟩ := hown.look_ok K ht hz (zd := .held z) (zp := []) rfl hkey
  have hat := hf kl
  rw [hf kl] at hu
  have hvv : u = v ∧ Maps.has D kl = y := by
    unfold tokR at hu
    rw [← hv, ← hy]
    cases hfk : f kl with
    | none =>
      rw [hfk] at hu hat
      simp only [Option.some.injEq, Prod.mk.injEq, DataW.held.injEq] at hu
      exact ⟨hu.1, has_false_of_atKey hat⟩
    | some y =>
      rw [hfk] at hu hat
      simp only [Option.some.injEq, Prod.mk.injEq, DataW.held.injEq] at hu
      exact ⟨hu.1, has_true_of_atKey hat⟩
  obtain ⟨rfl, rfl⟩ := hvv
  unfold Oper.wp
  simp [execOp, hop, hm, hx, hrun, Result.andThen]
  exact hK' _ _ hK
theorem InMap.run {P : Program} {w : World} {t k e : TypeId} (K : Keyed P k) (ht : P.underlying t = some (.map k e)) {b n : Nat} {f g : Lit → Option Value} (hset : InMap P k w b n f) (hn : n < maxLen) {key y : Value} {kl : Lit} (hkey : keyOf P k key = some kl)
    (hkl : WideAt.IsKeyLit kl) (hg1 : g kl = some y) (hg2 : ∀ z, z ≠ kl → g z = f z) : ∃ w', (Instr.mapUpdate t (.map (some b)) key y).run P w = .ok () w' ∧ InMap P k w' b (n + 1) g ∧ w.grownBy w' (some b) := by
  obtain ⟨D, hown, hD, hf⟩ := hset
  obtain ⟨w', hrun, r1, r2⟩ := hown.update K ht hn (val := y) (d := .held y) (ps := []) hkey rfl
  exact ⟨w', hrun, InMap.put hD hf hkl hg1 hg2 r1, r2⟩
/-- blocks beside a map -/
def Beside (b : Nat) (w : World) (l : List (Nat × Array Value × TypeId)) : Prop := ∀ x ∈ l, x.1 ≠ b ∧ Blk w x.1 x.2.1 x.2.2
theorem Beside.nil {b : Nat} {w : World} : Beside b w [] := fun x hx => by cases hx
theorem Beside.keep {b : Nat} {w w' : World} {l : List (Nat × Array Value × TypeId)} (h : Beside b w l) (hk : Kept w w') : Beside b w' l := fun x hx => ⟨(h x hx).1, (h x hx).2.keep hk⟩
theorem Beside.cons {b : Nat} {w : World} {l : List (Nat × Array Value × TypeId)} (h : Beside b w l) {n : Nat} {arr : Array Value} {t : TypeId} (hn : n ≠ b) (hb : Blk w n arr t) : Beside b w ((n, arr, t) :: l) := by
  intro x hx
  rcases List.mem_cons.1 hx with rfl | hx
  · exact ⟨hn, hb⟩
  · exact h x hx
theorem Beside.turned {b : Nat} {w w' : World} {l : List (Nat × Array Value × TypeId)} (h : Beside b w l) (hg : w.grownBy w' (some b)) : Beside b w' l := fun x hx => ⟨(h x hx).1, (h x hx).2.turned (h x hx).1 hg⟩
theorem Beside.at {b : Nat} {w : World} {l : List (Nat × Array Value × TypeId)} (h : Beside b w l) (i : Nat) (hi : i < l.length) : Blk w l[i].1 l[i].2.1 l[i].2.2 := (h _ (List.getElem_mem hi)).2
theorem Blk.lower {B : Nat} {w w' : World} {b : Nat} {arr : Array Value} {t : TypeId} (h : Blk w b arr t) (hb : Below B w w') (hl : b < B) : Blk w' b arr t := by
  unfold Blk at *
  rw [hb.block b hl]
  exact h
end Bal

/-
  The table of acts.
-/
namespace Go.Proofs.YtacbkbilbmkjnaaGreat
open Go.RowKit Bal Bal.Trim Bal.Mast
set_option linter.unusedVariables false
set_option linter.unusedSimpArgs false
set_option maxHeartbeats 2000000
set_option maxRecDepth 10000

theorem keyedU8 : Go.Maps.Keyed Tryz.prog 5 := Go.Maps.int_keyed Tryz.underlying5
def litF (g : Int → Option Value) : Lit → Option Value
  | .int .u8 n => g n
  | _ => none
def putG (g : Int → Option Value) (k : Int) (y : Value) (n : Int) : Option Value := if n = k then some y else g n
theorem litF_new (g : Int → Option Value) (k : Int) (y : Value) : litF (putG g k y) (.int .u8 k) = some y := if_pos rfl
theorem litF_old (g : Int → Option Value) (k : Int) (y : Value) (z : Lit) (hz : z ≠ .int .u8 k) : litF (putG g k y) z = litF g z := by
  unfold litF
  split
  · rename_i n
    exact if_neg fun e => hz (by rw [e])
  · rfl
theorem litF_none : litF (fun _ => none) = fun _ => none := by funext z; unfold litF; split <;> rfl
theorem keyU8 {n : Int} (h : 0 ≤ n ∧ n ≤ 255) : keyOf Tryz.prog 5 (.int .u8 n) = some (.int .u8 n) := Go.Maps.keyOf_int_mk Tryz.underlying5 (by
  simp only [Lit.wf, Bool.and_eq_true, decide_eq_true_eq]
  have e1 : IntKind.min .u8 = 0 := by decide
  have e2 : IntKind.max .u8 = 255 := by decide
  rw [e1, e2]
  exact h)
theorem zeroDeed (w : World) : (zeroValue 123).run Tryz.prog w = .ok (.agg #[.slice none 0 0, .nilFunc]) w := by kernel_rfl

/-- the rules of an act, as a table holds them -/
def rulesArr : Int → Array Value
  | 1 => #[.func (.func 85) #[] #[]]
  | 2 => #[.func (.func 87) #[] #[], .func (.func 58) #[] #[], .func (.func 88) #[] #[]]
  | 3 => #[.func (.func 63) #[] #[], .func (.func 91) #[] #[], .func (.func 92) #[] #[]]
  | 4 => #[.func (.func 60) #[] #[], .func (.func 91) #[] #[]]
  | 5 => #[.func (.func 60) #[] #[], .func (.func 59) #[] #[]]
  | 6 => #[.func (.func 95) #[] #[], .func (.func 58) #[] #[]]
  | 7 => #[.func (.func 62) #[] #[]]
  | 8 => #[.func (.func 97) #[] #[], .func (.func 64) #[] #[]]
  | 9 => #[.func (.func 99) #[] #[], .func (.func 62) #[] #[]]
  | 10 => #[.func (.func 95) #[] #[], .func (.func 92) #[] #[], .func (.func 97) #[] #[], .func (.func 101) #[] #[]]
  | 11 => #[.func (.func 61) #[] #[], .func (.func 101) #[] #[]]
  | 12 => #[.func (.func 102) #[] #[], .func (.func 92) #[] #[], .func (.func 97) #[] #[], .func (.func 101) #[] #[]]
  | 13 => #[.func (.func 61) #[] #[]]
  | _ => #[]
/-- an act, as a table holds it -/
def deedV (b s : Nat) : Int → Value
  | 1 => .agg #[.slice (some ⟨b, 0, none⟩) 1 1, .func (.func 114) #[] #[.pointer (some ⟨s, 0, none⟩)]]
  | 2 => .agg #[.slice (some ⟨b, 0, none⟩) 3 3, .func (.func 89) #[] #[]]
  | 3 => .agg #[.slice (some ⟨b, 0, none⟩) 3 3, .func (.func 93) #[] #[]]
  | 4 => .agg #[.slice (some ⟨b, 0, none⟩) 2 2, .func (.func 94) #[] #[]]
  | 5 => .agg #[.slice (some ⟨b, 0, none⟩) 2 2, .func (.func 114) #[] #[.pointer (some ⟨s, 0, none⟩)]]
  | 6 => .agg #[.slice (some ⟨b, 0, none⟩) 2 2, .func (.func 114) #[] #[.pointer (some ⟨s, 0, none⟩)]]
  | 7 => .agg #[.slice (some ⟨b, 0, none⟩) 1 1, .func (.func 96) #[] #[]]
  | 8 => .agg #[.slice (some ⟨b, 0, none⟩) 2 2, .func (.func 98) #[] #[]]
  | 9 => .agg #[.slice (some ⟨b, 0, none⟩) 2 2, .func (.func 100) #[] #[]]
  | 10 => .agg #[.slice (some ⟨b, 0, none⟩) 4 4, .func (.func 114) #[] #[.pointer (some ⟨s, 0, none⟩)]]
  | 11 => .agg #[.slice (some ⟨b, 0, none⟩) 2 2, .func (.func 114) #[] #[.pointer (some ⟨s, 0, none⟩)]]
  | 12 => .agg #[.slice (some ⟨b, 0, none⟩) 4 4, .func (.func 114) #[] #[.pointer (some ⟨s, 0, none⟩)]]
  | 13 => .agg #[.slice (some ⟨b, 0, none⟩) 1 1, .func (.func 114) #[] #[.pointer (some ⟨s, 0, none⟩)]]
  | _ => .nilFunc
/-- where an act makes the ship be -/
def shipTo : Int → Option Int
  | 1 => some 1
  | 5 => some 3
  | 6 => some 0
  | 10 => some 4
  | 11 => some 5
  | 12 => some 4
  | 13 => some 3
  | _ => none
/-- the table of acts lies in block M, all of it below B -/
def Table (w : World) (B M : Nat) : Prop := M < B ∧ ∃ g, InMap Tryz.prog 5 w M 13 (litF g) ∧ (∀ k : Int, ¬ (1 ≤ k ∧ k ≤ 13) → g k = none) ∧
  ∀ k : Int, 1 ≤ k → k ≤ 13 → ∃ b s, b < B ∧ s < B ∧ g k = some (deedV b s k) ∧ Blk w b (rulesArr k) 141 ∧ ∀ t, shipTo k = some t → Blk w s #[.int .u8 t] 5
theorem Table.below {w w' : World} {B M : Nat} (h : Table w B M) (hb : Below B w w') : Table w' B M := by
  obtain ⟨h1, g, h2, h3, h4⟩ := h
  refine ⟨h1, g, h2.below hb h1, h3, fun k k1 k2 => ?_⟩
  obtain ⟨b, s, b1, b2, b3, b4, b5⟩ := h4 k k1 k2
  exact ⟨b, s, b1, b2, b3, b4.lower hb b1, fun t ht => (b5 t ht).lower hb b2⟩
theorem Table.up {w : World} {B C M : Nat} (h : Table w B M) (hB : B ≤ C) : Table w C M := by
  obtain ⟨h1, g, h2, h3, h4⟩ := h
  refine ⟨Nat.lt_of_lt_of_le h1 hB, g, h2, h3, fun k k1 k2 => ?_⟩
  obtain ⟨b, s, b1, b2, b3⟩ := h4 k k1 k2
  exact ⟨b, s, Nat.lt_of_lt_of_le b1 hB, Nat.lt_of_lt_of_le b2 hB, b3⟩
theorem f_rules (v : Value) (w : World) (a : Option Addr) (n c : Nat) (hv : v = .slice a n c) :
    Calls Tryz.prog 84 #[v] w fun z w' => z = .returned v ∧ w = w' := by
  subst hv
  go_enter Tryz.func84, Tryz.ntmps84
  go_wp2
  exact bodyPost_ret (v := .slice a n c) (by simp [results, Tryz.results84, go_sem]) rfl ⟨rfl, rfl⟩
theorem f_ship (s : Int) (w : World) (n : Nat) (hn : n = w.heap.size) :
    Calls Tryz.prog 86 #[.int .u8 s] w fun z w' => z = .returned (.func (.func 114) #[] #[.pointer (some ⟨n, 0, none⟩)]) ∧ Blk w' n #[.int .u8 s] 5 ∧ Kept w w' := by
  subst hn
  go_enter Tryz.func86, Tryz.ntmps86
  go_wp2
  exact bodyPost_ret (v := .func (.func 114) #[] #[.pointer (some ⟨w.heap.size, 0, none⟩)]) (by simp [results, Tryz.results86, go_sem]) rfl ⟨rfl, by (exact blk), by (exact kpt)⟩

theorem f_deeds (w : World) :
    Calls Tryz.prog 50 #[] w fun z w' => z = .returned (.map (some w.heap.size)) ∧ Table w' w'.heap.size w.heap.size ∧ Kept w w' := by
  have hm0 : InMap Tryz.prog 5 (w.alloc (.map #[] 0)) w.heap.size 0 (litF (fun _ => none)) := by rw [litF_none]; exact InMap.made rfl
  obtain ⟨g0, hG0⟩ : ∃ g : Int → Option Value, g = fun _ => none := ⟨_, rfl⟩
  rw [← hG0] at hm0
  have hk0 : Kept w (w.alloc (.map #[] 0)) := Kept.alloc (Below.refl _ _) _
  have bs0 : Beside w.heap.size (w.alloc (.map #[] 0)) [] := Beside.nil
  have hmm := @run_makeMap Tryz.prog
  go_enter Tryz.func50, Tryz.ntmps50
  go_wp2_with (first | (go_at_call 84; (with_reducible refine (f_rules _ _ _ _ _ rfl).mono ?_); rintro z u1 ⟨rfl, rfl⟩) | (go_at_call 86; (with_reducible refine (f_ship 1 _ (w.heap.size + 1 + 1) (by simp)).mono ?_); rintro z v1 ⟨rfl, hs1, hv1⟩))
  obtain ⟨w1, hr1, hm1, hg1⟩ := InMap.run keyedU8 Tryz.underlying104 (w := v1) (g := litF (putG g0 1 (.agg #[.slice (some ⟨w.heap.size + 1, 0, none⟩) 1 1, .func (.func 114) #[] #[.pointer (some ⟨w.heap.size + 1 + 1, 0, none⟩)]]))) (hm0.keep (by (exact kpt))) (by simp [maxLen]) (keyU8 (n := 1) (by omega)) trivial (litF_new _ _ _) (fun z hz => litF_old _ _ _ z hz)
  rw [hr1]
  have hk1 : Kept w w1 := Kept.turned (w := v1) (by (exact kpt)) (Nat.le_refl _) hg1
  have bs1 := Beside.turned (w := v1) (((bs0.keep (by (exact kpt))).cons (n := w.heap.size + 1) (arr := #[.func (.func 85) #[] #[]]) (t := 141) (by omega) (by (exact blk))).cons (n := w.heap.size + 1 + 1) (arr := #[.int .u8 1]) (t := 5) (by omega) (by (exact blk))) hg1
  obtain ⟨g1, hG1⟩ : ∃ g, g = putG g0 1 (.agg #[.slice (some ⟨w.heap.size + 1, 0, none⟩) 1 1, .func (.func 114) #[] #[.pointer (some ⟨w.heap.size + 1 + 1, 0, none⟩)]]) := ⟨_, rfl⟩
  rw [← hG1] at hm1
  clear hm0 hg1 hr1 bs0 hs1 hv1
  go_wp2_with (first | (go_at_call 84; (with_reducible refine (f_rules _ _ _ _ _ rfl).mono ?_); rintro z u1 ⟨rfl, rfl⟩) | fail)
  obtain ⟨w2, hr2, hm2, hg2⟩ := InMap.run keyedU8 Tryz.underlying104 (w := (w1.alloc (.cells #[.func (.func 87) #[] #[], .func (.func 58) #[] #[], .func (.func 88) #[] #[]] 141))) (g := litF (putG g1 2 (.agg #[.slice (some ⟨w1.heap.size, 0, none⟩) 3 3, .func (.func 89) #[] #[]]))) (hm1.keep (by (exact kpt))) (by simp [maxLen]) (keyU8 (n := 2) (by omega)) trivial (litF_new _ _ _) (fun z hz => litF_old _ _ _ z hz)
  rw [hr2]
  have hk2 : Kept w w2 := Kept.turned (w := (w1.alloc (.cells #[.func (.func 87) #[] #[], .func (.func 58) #[] #[], .func (.func 88) #[] #[]] 141))) (by (exact kpt)) (Nat.le_refl _) hg2
  have bs2 := Beside.turned (w := (w1.alloc (.cells #[.func (.func 87) #[] #[], .func (.func 58) #[] #[], .func (.func 88) #[] #[]] 141))) ((bs1.keep (by (exact kpt))).cons (n := w1.heap.size) (arr := #[.func (.func 87) #[] #[], .func (.func 58) #[] #[], .func (.func 88) #[] #[]]) (t := 141) (by have := hm1.lt; omega) (by (exact blk))) hg2
  obtain ⟨g2, hG2⟩ : ∃ g, g = putG g1 2 (.agg #[.slice (some ⟨w1.heap.size, 0, none⟩) 3 3, .func (.func 89) #[] #[]]) := ⟨_, rfl⟩
  rw [← hG2] at hm2
  clear hm1 hg2 hr2 bs1
  go_wp2_with (first | (go_at_call 84; (with_reducible refine (f_rules _ _ _ _ _ rfl).mono ?_); rintro z u1 ⟨rfl, rfl⟩) | fail)
  obtain ⟨w3, hr3, hm3, hg3⟩ := InMap.run keyedU8 Tryz.underlying104 (w := (w2.alloc (.cells #[.func (.func 63) #[] #[], .func (.func 91) #[] #[], .func (.func 92) #[] #[]] 141))) (g := litF (putG g2 3 (.agg #[.slice (some ⟨w2.heap.size, 0, none⟩) 3 3, .func (.func 93) #[] #[]]))) (hm2.keep (by (exact kpt))) (by simp [maxLen]) (keyU8 (n := 3) (by omega)) trivial (litF_new _ _ _) (fun z hz => litF_old _ _ _ z hz)
  rw [hr3]
  have hk3 : Kept w w3 := Kept.turned (w := (w2.alloc (.cells #[.func (.func 63) #[] #[], .func (.func 91) #[] #[], .func (.func 92) #[] #[]] 141))) (by (exact kpt)) (Nat.le_refl _) hg3
  have bs3 := Beside.turned (w := (w2.alloc (.cells #[.func (.func 63) #[] #[], .func (.func 91) #[] #[], .func (.func 92) #[] #[]] 141))) ((bs2.keep (by (exact kpt))).cons (n := w2.heap.size) (arr := #[.func (.func 63) #[] #[], .func (.func 91) #[] #[], .func (.func 92) #[] #[]]) (t := 141) (by have := hm2.lt; omega) (by (exact blk))) hg3
  obtain ⟨g3, hG3⟩ : ∃ g, g = putG g2 3 (.agg #[.slice (some ⟨w2.heap.size, 0, none⟩) 3 3, .func (.func 93) #[] #[]]) := ⟨_, rfl⟩
  rw [← hG3] at hm3
  clear hm2 hg3 hr3 bs2
  go_wp2_with (first | (go_at_call 84; (with_reducible refine (f_rules _ _ _ _ _ rfl).mono ?_); rintro z u1 ⟨rfl, rfl⟩) | fail)
  obtain ⟨w4, hr4, hm4, hg4⟩ := InMap.run keyedU8 Tryz.underlying104 (w := (w3.alloc (.cells #[.func (.func 60) #[] #[], .func (.func 91) #[] #[]] 141))) (g := litF (putG g3 4 (.agg #[.slice (some ⟨w3.heap.size, 0, none⟩) 2 2, .func (.func 94) #[] #[]]))) (hm3.keep (by (exact kpt))) (by simp [maxLen]) (keyU8 (n := 4) (by omega)) trivial (litF_new _ _ _) (fun z hz => litF_old _ _ _ z hz)
  rw [hr4]
  have hk4 : Kept w w4 := Kept.turned (w := (w3.alloc (.cells #[.func (.func 60) #[] #[], .func (.func 91) #[] #[]] 141))) (by (exact kpt)) (Nat.le_refl _) hg4
  have bs4 := Beside.turned (w := (w3.alloc (.cells #[.func (.func 60) #[] #[], .func (.func 91) #[] #[]] 141))) ((bs3.keep (by (exact kpt))).cons (n := w3.heap.size) (arr := #[.func (.func 60) #[] #[], .func (.func 91) #[] #[]]) (t := 141) (by have := hm3.lt; omega) (by (exact blk))) hg4
  obtain ⟨g4, hG4⟩ : ∃ g, g = putG g3 4 (.agg #[.slice (some ⟨w3.heap.size, 0, none⟩) 2 2, .func (.func 94) #[] #[]]) := ⟨_, rfl⟩
  rw [← hG4] at hm4
  clear hm3 hg4 hr4 bs3
  go_wp2_with (first | (go_at_call 84; (with_reducible refine (f_rules _ _ _ _ _ rfl).mono ?_); rintro z u1 ⟨rfl, rfl⟩) | (go_at_call 86; (with_reducible refine (f_ship 3 _ (w4.heap.size + 1) (by simp)).mono ?_); rintro z v5 ⟨rfl, hs5, hv5⟩))
  obtain ⟨w5, hr5, hm5, hg5⟩ := InMap.run keyedU8 Tryz.underlying104 (w := v5) (g := litF (putG g4 5 (.agg #[.slice (some ⟨w4.heap.size, 0, none⟩) 2 2, .func (.func 114) #[] #[.pointer (some ⟨w4.heap.size + 1, 0, none⟩)]]))) (hm4.keep (by (exact kpt))) (by simp [maxLen]) (keyU8 (n := 5) (by omega)) trivial (litF_new _ _ _) (fun z hz => litF_old _ _ _ z hz)
  rw [hr5]
  have hk5 : Kept w w5 := Kept.turned (w := v5) (by (exact kpt)) (Nat.le_refl _) hg5
  have bs5 := Beside.turned (w := v5) (((bs4.keep (by (exact kpt))).cons (n := w4.heap.size) (arr := #[.func (.func 60) #[] #[], .func (.func 59) #[] #[]]) (t := 141) (by have := hm4.lt; omega) (by (exact blk))).cons (n := w4.heap.size + 1) (arr := #[.int .u8 3]) (t := 5) (by have := hm4.lt; omega) (by (exact blk))) hg5
  obtain ⟨g5, hG5⟩ : ∃ g, g = putG g4 5 (.agg #[.slice (some ⟨w4.heap.size, 0, none⟩) 2 2, .func (.func 114) #[] #[.pointer (some ⟨w4.heap.size + 1, 0, none⟩)]]) := ⟨_, rfl⟩
  rw [← hG5] at hm5
  clear hm4 hg5 hr5 bs4 hs5 hv5
  go_wp2_with (first | (go_at_call 84; (with_reducible refine (f_rules _ _ _ _ _ rfl).mono ?_); rintro z u1 ⟨rfl, rfl⟩) | (go_at_call 86; (with_reducible refine (f_ship 0 _ (w5.heap.size + 1) (by simp)).mono ?_); rintro z v6 ⟨rfl, hs6, hv6⟩))
  obtain ⟨w6, hr6, hm6, hg6⟩ := InMap.run keyedU8 Tryz.underlying104 (w := v6) (g := litF (putG g5 6 (.agg #[.slice (some ⟨w5.heap.size, 0, none⟩) 2 2, .func (.func 114) #[] #[.pointer (some ⟨w5.heap.size + 1, 0, none⟩)]]))) (hm5.keep (by (exact kpt))) (by simp [maxLen]) (keyU8 (n := 6) (by omega)) trivial (litF_new _ _ _) (fun z hz => litF_old _ _ _ z hz)
  rw [hr6]
  have hk6 : Kept w w6 := Kept.turned (w := v6) (by (exact kpt)) (Nat.le_refl _) hg6
  have bs6 := Beside.turned (w := v6) (((bs5.keep (by (exact kpt))).cons (n := w5.heap.size) (arr := #[.func (.func 95) #[] #[], .func (.func 58) #[] #[]]) (t := 141) (by have := hm5.lt; omega) (by (exact blk))).cons (n := w5.heap.size + 1) (arr := #[.int .u8 0]) (t := 5) (by have := hm5.lt; omega) (by (exact blk))) hg6
  obtain ⟨g6, hG6⟩ : ∃ g, g = putG g5 6 (.agg #[.slice (some ⟨w5.heap.size, 0, none⟩) 2 2, .func (.func 114) #[] #[.pointer (some ⟨w5.heap.size + 1, 0, none⟩)]]) := ⟨_, rfl⟩
  rw [← hG6] at hm6
  clear hm5 hg6 hr6 bs5 hs6 hv6
  go_wp2_with (first | (go_at_call 84; (with_reducible refine (f_rules _ _ _ _ _ rfl).mono ?_); rintro z u1 ⟨rfl, rfl⟩) | fail)
  obtain ⟨w7, hr7, hm7, hg7⟩ := InMap.run keyedU8 Tryz.underlying104 (w := (w6.alloc (.cells #[.func (.func 62) #[] #[]] 141))) (g := litF (putG g6 7 (.agg #[.slice (some ⟨w6.heap.size, 0, none⟩) 1 1, .func (.func 96) #[] #[]]))) (hm6.keep (by (exact kpt))) (by simp [maxLen]) (keyU8 (n := 7) (by omega)) trivial (litF_new _ _ _) (fun z hz => litF_old _ _ _ z hz)
  rw [hr7]
  have hk7 : Kept w w7 := Kept.turned (w := (w6.alloc (.cells #[.func (.func 62) #[] #[]] 141))) (by (exact kpt)) (Nat.le_refl _) hg7
  have bs7 := Beside.turned (w := (w6.alloc (.cells #[.func (.func 62) #[] #[]] 141))) ((bs6.keep (by (exact kpt))).cons (n := w6.heap.size) (arr := #[.func (.func 62) #[] #[]]) (t := 141) (by have := hm6.lt; omega) (by (exact blk))) hg7
  obtain ⟨g7, hG7⟩ : ∃ g, g = putG g6 7 (.agg #[.slice (some ⟨w6.heap.size, 0, none⟩) 1 1, .func (.func 96) #[] #[]]) := ⟨_, rfl⟩
  rw [← hG7] at hm7
  clear hm6 hg7 hr7 bs6
  go_wp2_with (first | (go_at_call 84; (with_reducible refine (f_rules _ _ _ _ _ rfl).mono ?_); rintro z u1 ⟨rfl, rfl⟩) | fail)
  obtain ⟨w8, hr8, hm8, hg8⟩ := InMap.run keyedU8 Tryz.underlying104 (w := (w7.alloc (.cells #[.func (.func 97) #[] #[], .func (.func 64) #[] #[]] 141))) (g := litF (putG g7 8 (.agg #[.slice (some ⟨w7.heap.size, 0, none⟩) 2 2, .func (.func 98) #[] #[]]))) (hm7.keep (by (exact kpt))) (by simp [maxLen]) (keyU8 (n := 8) (by omega)) trivial (litF_new _ _ _) (fun z hz => litF_old _ _ _ z hz)
  rw [hr8]
  have hk8 : Kept w w8 := Kept.turned (w := (w7.alloc (.cells #[.func (.func 97) #[] #[], .func (.func 64) #[] #[]] 141))) (by (exact kpt)) (Nat.le_refl _) hg8
  have bs8 := Beside.turned (w := (w7.alloc (.cells #[.func (.func 97) #[] #[], .func (.func 64) #[] #[]] 141))) ((bs7.keep (by (exact kpt))).cons (n := w7.heap.size) (arr := #[.func (.func 97) #[] #[], .func (.func 64) #[] #[]]) (t := 141) (by have := hm7.lt; omega) (by (exact blk))) hg8
  obtain ⟨g8, hG8⟩ : ∃ g, g = putG g7 8 (.agg #[.slice (some ⟨w7.heap.size, 0, none⟩) 2 2, .func (.func 98) #[] #[]]) := ⟨_, rfl⟩
  rw [← hG8] at hm8
  clear hm7 hg8 hr8 bs7
  go_wp2_with (first | (go_at_call 84; (with_reducible refine (f_rules _ _ _ _ _ rfl).mono ?_); rintro z u1 ⟨rfl, rfl⟩) | fail)
  obtain ⟨w9, hr9, hm9, hg9⟩ := InMap.run keyedU8 Tryz.underlying104 (w := (w8.alloc (.cells #[.func (.func 99) #[] #[], .func (.func 62) #[] #[]] 141))) (g := litF (putG g8 9 (.agg #[.slice (some ⟨w8.heap.size, 0, none⟩) 2 2, .func (.func 100) #[] #[]]))) (hm8.keep (by (exact kpt))) (by simp [maxLen]) (keyU8 (n := 9) (by omega)) trivial (litF_new _ _ _) (fun z hz => litF_old _ _ _ z hz)
  rw [hr9]
  have hk9 : Kept w w9 := Kept.turned (w := (w8.alloc (.cells #[.func (.func 99) #[] #[], .func (.func 62) #[] #[]] 141))) (by (exact kpt)) (Nat.le_refl _) hg9
  have bs9 := Beside.turned (w := (w8.alloc (.cells #[.func (.func 99) #[] #[], .func (.func 62) #[] #[]] 141))) ((bs8.keep (by (exact kpt))).cons (n := w8.heap.size) (arr := #[.func (.func 99) #[] #[], .func (.func 62) #[] #[]]) (t := 141) (by have := hm8.lt; omega) (by (exact blk))) hg9
  obtain ⟨g9, hG9⟩ : ∃ g, g = putG g8 9 (.agg #[.slice (some ⟨w8.heap.size, 0, none⟩) 2 2, .func (.func 100) #[] #[]]) := ⟨_, rfl⟩
  rw [← hG9] at hm9
  clear hm8 hg9 hr9 bs8
  go_wp2_with (first | (go_at_call 84; (with_reducible refine (f_rules _ _ _ _ _ rfl).mono ?_); rintro z u1 ⟨rfl, rfl⟩) | (go_at_call 86; (with_reducible refine (f_ship 4 _ (w9.heap.size + 1) (by simp)).mono ?_); rintro z v10 ⟨rfl, hs10, hv10⟩))
  obtain ⟨w10, hr10, hm10, hg10⟩ := InMap.run keyedU8 Tryz.underlying104 (w := v10) (g := litF (putG g9 10 (.agg #[.slice (some ⟨w9.heap.size, 0, none⟩) 4 4, .func (.func 114) #[] #[.pointer (some ⟨w9.heap.size + 1, 0, none⟩)]]))) (hm9.keep (by (exact kpt))) (by simp [maxLen]) (keyU8 (n := 10) (by omega)) trivial (litF_new _ _ _) (fun z hz => litF_old _ _ _ z hz)
  rw [hr10]
  have hk10 : Kept w w10 := Kept.turned (w := v10) (by (exact kpt)) (Nat.le_refl _) hg10
  have bs10 := Beside.turned (w := v10) (((bs9.keep (by (exact kpt))).cons (n := w9.heap.size) (arr := #[.func (.func 95) #[] #[], .func (.func 92) #[] #[], .func (.func 97) #[] #[], .func (.func 101) #[] #[]]) (t := 141) (by have := hm9.lt; omega) (by (exact blk))).cons (n := w9.heap.size + 1) (arr := #[.int .u8 4]) (t := 5) (by have := hm9.lt; omega) (by (exact blk))) hg10
  obtain ⟨g10, hG10⟩ : ∃ g, g = putG g9 10 (.agg #[.slice (some ⟨w9.heap.size, 0, none⟩) 4 4, .func (.func 114) #[] #[.pointer (some ⟨w9.heap.size + 1, 0, none⟩)]]) := ⟨_, rfl⟩
  rw [← hG10] at hm10
  clear hm9 hg10 hr10 bs9 hs10 hv10
  go_wp2_with (first | (go_at_call 84; (with_reducible refine (f_rules _ _ _ _ _ rfl).mono ?_); rintro z u1 ⟨rfl, rfl⟩) | (go_at_call 86; (with_reducible refine (f_ship 5 _ (w10.heap.size + 1) (by simp)).mono ?_); rintro z v11 ⟨rfl, hs11, hv11⟩))
  obtain ⟨w11, hr11, hm11, hg11⟩ := InMap.run keyedU8 Tryz.underlying104 (w := v11) (g := litF (putG g10 11 (.agg #[.slice (some ⟨w10.heap.size, 0, none⟩) 2 2, .func (.func 114) #[] #[.pointer (some ⟨w10.heap.size + 1, 0, none⟩)]]))) (hm10.keep (by (exact kpt))) (by simp [maxLen]) (keyU8 (n := 11) (by omega)) trivial (litF_new _ _ _) (fun z hz => litF_old _ _ _ z hz)
  rw [hr11]
  have hk11 : Kept w w11 := Kept.turned (w := v11) (by (exact kpt)) (Nat.le_refl _) hg11
  have bs11 := Beside.turned (w := v11) (((bs10.keep (by (exact kpt))).cons (n := w10.heap.size) (arr := #[.func (.func 61) #[] #[], .func (.func 101) #[] #[]]) (t := 141) (by have := hm10.lt; omega) (by (exact blk))).cons (n := w10.heap.size + 1) (arr := #[.int .u8 5]) (t := 5) (by have := hm10.lt; omega) (by (exact blk))) hg11
  obtain ⟨g11, hG11⟩ : ∃ g, g = putG g10 11 (.agg #[.slice (some ⟨w10.heap.size, 0, none⟩) 2 2, .func (.func 114) #[] #[.pointer (some ⟨w10.heap.size + 1, 0, none⟩)]]) := ⟨_, rfl⟩
  rw [← hG11] at hm11
  clear hm10 hg11 hr11 bs10 hs11 hv11
  go_wp2_with (first | (go_at_call 84; (with_reducible refine (f_rules _ _ _ _ _ rfl).mono ?_); rintro z u1 ⟨rfl, rfl⟩) | (go_at_call 86; (with_reducible refine (f_ship 4 _ (w11.heap.size + 1) (by simp)).mono ?_); rintro z v12 ⟨rfl, hs12, hv12⟩))
  obtain ⟨w12, hr12, hm12, hg12⟩ := InMap.run keyedU8 Tryz.underlying104 (w := v12) (g := litF (putG g11 12 (.agg #[.slice (some ⟨w11.heap.size, 0, none⟩) 4 4, .func (.func 114) #[] #[.pointer (some ⟨w11.heap.size + 1, 0, none⟩)]]))) (hm11.keep (by (exact kpt))) (by simp [maxLen]) (keyU8 (n := 12) (by omega)) trivial (litF_new _ _ _) (fun z hz => litF_old _ _ _ z hz)
  rw [hr12]
  have hk12 : Kept w w12 := Kept.turned (w := v12) (by (exact kpt)) (Nat.le_refl _) hg12
  have bs12 := Beside.turned (w := v12) (((bs11.keep (by (exact kpt))).cons (n := w11.heap.size) (arr := #[.func (.func 102) #[] #[], .func (.func 92) #[] #[], .func (.func 97) #[] #[], .func (.func 101) #[] #[]]) (t := 141) (by have := hm11.lt; omega) (by (exact blk))).cons (n := w11.heap.size + 1) (arr := #[.int .u8 4]) (t := 5) (by have := hm11.lt; omega) (by (exact blk))) hg12
  obtain ⟨g12, hG12⟩ : ∃ g, g = putG g11 12 (.agg #[.slice (some ⟨w11.heap.size, 0, none⟩) 4 4, .func (.func 114) #[] #[.pointer (some ⟨w11.heap.size + 1, 0, none⟩)]]) := ⟨_, rfl⟩
  rw [← hG12] at hm12
  clear hm11 hg12 hr12 bs11 hs12 hv12
  go_wp2_with (first | (go_at_call 84; (with_reducible refine (f_rules _ _ _ _ _ rfl).mono ?_); rintro z u1 ⟨rfl, rfl⟩) | (go_at_call 86; (with_reducible refine (f_ship 3 _ (w12.heap.size + 1) (by simp)).mono ?_); rintro z v13 ⟨rfl, hs13, hv13⟩))
  obtain ⟨w13, hr13, hm13, hg13⟩ := InMap.run keyedU8 Tryz.underlying104 (w := v13) (g := litF (putG g12 13 (.agg #[.slice (some ⟨w12.heap.size, 0, none⟩) 1 1, .func (.func 114) #[] #[.pointer (some ⟨w12.heap.size + 1, 0, none⟩)]]))) (hm12.keep (by (exact kpt))) (by simp [maxLen]) (keyU8 (n := 13) (by omega)) trivial (litF_new _ _ _) (fun z hz => litF_old _ _ _ z hz)
  rw [hr13]
  have hk13 : Kept w w13 := Kept.turned (w := v13) (by (exact kpt)) (Nat.le_refl _) hg13
  have bs13 := Beside.turned (w := v13) (((bs12.keep (by (exact kpt))).cons (n := w12.heap.size) (arr := #[.func (.func 61) #[] #[]]) (t := 141) (by have := hm12.lt; omega) (by (exact blk))).cons (n := w12.heap.size + 1) (arr := #[.int .u8 3]) (t := 5) (by have := hm12.lt; omega) (by (exact blk))) hg13
  obtain ⟨g13, hG13⟩ : ∃ g, g = putG g12 13 (.agg #[.slice (some ⟨w12.heap.size, 0, none⟩) 1 1, .func (.func 114) #[] #[.pointer (some ⟨w12.heap.size + 1, 0, none⟩)]]) := ⟨_, rfl⟩
  rw [← hG13] at hm13
  clear hm12 hg13 hr13 bs12 hs13 hv13
  go_wp2
  refine bodyPost_ret (v := .map (some w.heap.size)) (by simp [results, Tryz.results50, go_sem]) rfl ⟨rfl, ⟨hm13.lt, g13, hm13, fun k hk => ?_, fun k h1 h2 => ?_⟩, by (exact kpt)⟩
  · have hne : ¬ k = 1 ∧ ¬ k = 2 ∧ ¬ k = 3 ∧ ¬ k = 4 ∧ ¬ k = 5 ∧ ¬ k = 6 ∧ ¬ k = 7 ∧ ¬ k = 8 ∧ ¬ k = 9 ∧ ¬ k = 10 ∧ ¬ k = 11 ∧ ¬ k = 12 ∧ ¬ k = 13 := by omega
    obtain ⟨n1, n2, n3, n4, n5, n6, n7, n8, n9, n10, n11, n12, n13⟩ := hne
    simp only [hG13, hG12, hG11, hG10, hG9, hG8, hG7, hG6, hG5, hG4, hG3, hG2, hG1, hG0, putG, n1, n2, n3, n4, n5, n6, n7, n8, n9, n10, n11, n12, n13, if_false]
  · rcases (by omega : k = 1 ∨ k = 2 ∨ k = 3 ∨ k = 4 ∨ k = 5 ∨ k = 6 ∨ k = 7 ∨ k = 8 ∨ k = 9 ∨ k = 10 ∨ k = 11 ∨ k = 12 ∨ k = 13) with rfl | rfl | rfl | rfl | rfl | rfl | rfl | rfl | rfl | rfl | rfl | rfl | rfl
    · exact ⟨w.heap.size + 1, w.heap.size + 1 + 1, (by have := (bs13.at 19 (by simp)).lt; exact this), (by have := (bs13.at 18 (by simp)).lt; exact this), by simp [hG13, hG12, hG11, hG10, hG9, hG8, hG7, hG6, hG5, hG4, hG3, hG2, hG1, putG, deedV], bs13.at 19 (by simp), fun t ht => by simp [shipTo] at ht; subst ht; exact bs13.at 18 (by simp)⟩
    · exact ⟨w1.heap.size, w1.heap.size, (by have := (bs13.at 17 (by simp)).lt; exact this), (by have := (bs13.at 17 (by simp)).lt; exact this), by simp [hG13, hG12, hG11, hG10, hG9, hG8, hG7, hG6, hG5, hG4, hG3, hG2, hG1, putG, deedV], bs13.at 17 (by simp), fun t ht => by simp [shipTo] at ht⟩
    · exact ⟨w2.heap.size, w2.heap.size, (by have := (bs13.at 16 (by simp)).lt; exact this), (by have := (bs13.at 16 (by simp)).lt; exact this), by simp [hG13, hG12, hG11, hG10, hG9, hG8, hG7, hG6, hG5, hG4, hG3, hG2, hG1, putG, deedV], bs13.at 16 (by simp), fun t ht => by simp [shipTo] at ht⟩
    · exact ⟨w3.heap.size, w3.heap.size, (by have := (bs13.at 15 (by simp)).lt; exact this), (by have := (bs13.at 15 (by simp)).lt; exact this), by simp [hG13, hG12, hG11, hG10, hG9, hG8, hG7, hG6, hG5, hG4, hG3, hG2, hG1, putG, deedV], bs13.at 15 (by simp), fun t ht => by simp [shipTo] at ht⟩
    · exact ⟨w4.heap.size, w4.heap.size + 1, (by have := (bs13.at 14 (by simp)).lt; exact this), (by have := (bs13.at 13 (by simp)).lt; exact this), by simp [hG13, hG12, hG11, hG10, hG9, hG8, hG7, hG6, hG5, hG4, hG3, hG2, hG1, putG, deedV], bs13.at 14 (by simp), fun t ht => by simp [shipTo] at ht; subst ht; exact bs13.at 13 (by simp)⟩
    · exact ⟨w5.heap.size, w5.heap.size + 1, (by have := (bs13.at 12 (by simp)).lt; exact this), (by have := (bs13.at 11 (by simp)).lt; exact this), by simp [hG13, hG12, hG11, hG10, hG9, hG8, hG7, hG6, hG5, hG4, hG3, hG2, hG1, putG, deedV], bs13.at 12 (by simp), fun t ht => by simp [shipTo] at ht; subst ht; exact bs13.at 11 (by simp)⟩
    · exact ⟨w6.heap.size, w6.heap.size, (by have := (bs13.at 10 (by simp)).lt; exact this), (by have := (bs13.at 10 (by simp)).lt; exact this), by simp [hG13, hG12, hG11, hG10, hG9, hG8, hG7, hG6, hG5, hG4, hG3, hG2, hG1, putG, deedV], bs13.at 10 (by simp), fun t ht => by simp [shipTo] at ht⟩
    · exact ⟨w7.heap.size, w7.heap.size, (by have := (bs13.at 9 (by simp)).lt; exact this), (by have := (bs13.at 9 (by simp)).lt; exact this), by simp [hG13, hG12, hG11, hG10, hG9, hG8, hG7, hG6, hG5, hG4, hG3, hG2, hG1, putG, deedV], bs13.at 9 (by simp), fun t ht => by simp [shipTo] at ht⟩
    · exact ⟨w8.heap.size, w8.heap.size, (by have := (bs13.at 8 (by simp)).lt; exact this), (by have := (bs13.at 8 (by simp)).lt; exact this), by simp [hG13, hG12, hG11, hG10, hG9, hG8, hG7, hG6, hG5, hG4, hG3, hG2, hG1, putG, deedV], bs13.at 8 (by simp), fun t ht => by simp [shipTo] at ht⟩
    · exact ⟨w9.heap.size, w9.heap.size + 1, (by have := (bs13.at 7 (by simp)).lt; exact this), (by have := (bs13.at 6 (by simp)).lt; exact this), by simp [hG13, hG12, hG11, hG10, hG9, hG8, hG7, hG6, hG5, hG4, hG3, hG2, hG1, putG, deedV], bs13.at 7 (by simp), fun t ht => by simp [shipTo] at ht; subst ht; exact bs13.at 6 (by simp)⟩
    · exact ⟨w10.heap.size, w10.heap.size + 1, (by have := (bs13.at 5 (by simp)).lt; exact this), (by have := (bs13.at 4 (by simp)).lt; exact this), by simp [hG13, hG12, hG11, hG10, hG9, hG8, hG7, hG6, hG5, hG4, hG3, hG2, hG1, putG, deedV], bs13.at 5 (by simp), fun t ht => by simp [shipTo] at ht; subst ht; exact bs13.at 4 (by simp)⟩
    · exact ⟨w11.heap.size, w11.heap.size + 1, (by have := (bs13.at 3 (by simp)).lt; exact this), (by have := (bs13.at 2 (by simp)).lt; exact this), by simp [hG13, hG12, hG11, hG10, hG9, hG8, hG7, hG6, hG5, hG4, hG3, hG2, hG1, putG, deedV], bs13.at 3 (by simp), fun t ht => by simp [shipTo] at ht; subst ht; exact bs13.at 2 (by simp)⟩
    · exact ⟨w12.heap.size, w12.heap.size + 1, (by have := (bs13.at 1 (by simp)).lt; exact this), (by have := (bs13.at 0 (by simp)).lt; exact this), by simp [hG13, hG12, hG11, hG10, hG9, hG8, hG7, hG6, hG5, hG4, hG3, hG2, hG1, putG, deedV], bs13.at 1 (by simp), fun t ht => by simp [shipTo] at ht; subst ht; exact bs13.at 0 (by simp)⟩

end Go.Proofs.YtacbkbilbmkjnaaGreat

/-
  Trying an act: its rules, and what it does.
-/
namespace Go.Proofs.YtacbkbilbmkjnaaGreat
open Go.RowKit Bal Bal.Trim Bal.Mast
set_option linter.unusedVariables false
set_option linter.unusedSimpArgs false
set_option maxHeartbeats 4000000
set_option maxRecDepth 10000

/-- a rule of an act at a dock in block n: what it answers, in the worlds behind w -/
def RuleOk (a : Option Addr) (c : Nat) (e : Option Addr) (d : Nat) (p : Port) (k : Dock) (n : Nat) (w : World) (F : FuncId) (V : Bool) : Prop :=
  (∀ (args : Array Value) (w : World), (callFunc F args).run Tryz.prog w = .ok (.enter F args) w) ∧
  ∀ w', Below n w w' → Blk w' n (dockCells a c e d p k) 112 → Calls Tryz.prog F #[.pointer (some ⟨n, 0, none⟩)] w' fun z w'' => z = .returned (.bool V) ∧ Kept w' w''
/-- what an act does -/
def ActOk (a : Option Addr) (c : Nat) (e : Option Addr) (d : Nat) (p : Port) (k : Dock) (n : Nat) (w : World) (G : FuncId) (cs : Array Value) (b : Berth) : Prop :=
  (∀ (args : Array Value) (w : World), (callFunc G args).run Tryz.prog w = .ok (.enter G args) w) ∧
  ∀ w', Below n w w' → Blk w' n (dockCells a c e d p k) 112 → Calls Tryz.prog G (#[.pointer (some ⟨n, 0, none⟩)] ++ cs) w' fun z w'' => z = .returned (.tuple #[]) ∧ Blk w'' n (dockCells a c e d p { k with b := b }) 112 ∧ Below n w' w''
theorem field0 (v u : Value) (w : World) : (Instr.field 123 (.agg #[v, u]) 0).run Tryz.prog w = .ok v w := by kernel_rfl
theorem field1 (v u : Value) (w : World) : (Instr.field 123 (.agg #[v, u]) 1).run Tryz.prog w = .ok u w := by kernel_rfl
attribute [local go_sem] field0 field1
def ruleV (f : FuncId) : Value := .func (.func f) #[] #[]

theorem f_tryN (a : Option Addr) (c : Nat) (e : Option Addr) (d : Nat) (p : Port) (k : Dock) (n : Nat) (N : Int) (w : World) (hd : Blk w n (dockCells a c e d p k) 112)
    (t : Int) (ht : 0 ≤ t ∧ t ≤ 255) (M : Nat) (g : Int → Option Value) (hI : InMap Tryz.prog 5 w M 13 (litF g)) (hMn : M < n) (b : Nat) (hbn : b < n) (fs : List FuncId) (Vs : List Bool) (hl : Vs.length = fs.length) (h4 : fs.length ≤ 4) (G : FuncId)
    (hg : g t = some (.agg #[.slice (some ⟨b, 0, none⟩) fs.length fs.length, .func (.func G) #[] #[]])) (hr : Blk w b (fs.map ruleV).toArray 141) (B : Berth)
    (hrules : ∀ (i : Nat) (hi : i < fs.length), RuleOk a c e d p { k with n := N } n w fs[i] (Vs[i]'(by omega))) (hact : ActOk a c e d p { k with n := N } n w G #[] B) :
    Calls Tryz.prog 52 #[.pointer (some ⟨n, 0, none⟩), .agg #[.int .u8 t, .int .i64 N], .map (some M)] w fun z w' => z = .returned (.int .i64 (firstNot Vs 0)) ∧ (firstNot Vs 0 = 0 → Blk w' n (dockCells a c e d p { k with b := B, n := N }) 112) ∧ (firstNot Vs 0 ≠ 0 → Blk w' n (dockCells a c e d p { k with n := N }) 112) ∧ Below n w w' := by
  have hnl := hd.lt
  have q := hd
  unfold dockCells at q
  have qc15 := q.cell 15
  have qf15 := q.free 15
  have ql := q.lt
  simp at qc15
  have HV := Lib.hid (show (litF g (.int .u8 t)).getD (.agg #[.slice none 0 0, .nilFunc]) = .agg #[.slice (some ⟨b, 0, none⟩) fs.length fs.length, .func (.func G) #[] #[]] by show (g t).getD _ = _; rw [hg]; rfl)
  have HR := Lib.hid hrules
  have HA := Lib.hid hact.2
  have hcg := hact.1
  clear hrules hg hact
  go_enter Tryz.func52, Tryz.ntmps52
  go_upto_region 1 with fail
  go_upto_region 2 with fail
  refine at_world (S := fun V => Blk V n (dockCells a c e d p { k with n := N }) 112 ∧ Blk V w.heap.size #[.int .u8 t, .int .i64 N] 48 ∧ Below n w V) ⟨Blk.cast ((hd.set 15 _).alloc _) (by simp [dockCells]), by (exact blk), Below.alloc (Below.setCell (Below.refl n w) (Nat.le_refl n) _) (by simp; omega) _⟩ ?_
  clear q qc15 qf15 ql
  rintro W ⟨rd, ra, hk⟩
  have rac0 := ra.cell 0
  have raf0 := ra.free 0
  have rac1 := ra.cell 1
  have raf1 := ra.free 1
  have ral := ra.lt
  simp at rac0 rac1
  go_wp2_with (at_lookup; refine wpList_look_map _ rfl _ _ 104 rfl 5 123 keyedU8 Tryz.underlying104 _ (zeroDeed _) M _ (litF g) rfl (hI.below (by (repeat (first | with_reducible assumption | with_reducible exact Below.refl _ _ | ((with_reducible refine Below.setCell ?_ ?_ _); rotate_left 1; (focus (first | exact Nat.le_refl _ | (simp; done) | (simp; omega))))))) hMn) _ (.int .u8 t) rfl (keyU8 (by omega)) (.agg #[.slice (some ⟨b, 0, none⟩) fs.length fs.length, .func (.func G) #[] #[]]) HV.out ?_)
  go_loopw [20] (fun i wr => ∃ j : Nat, j ≤ fs.length ∧ i = .int .i64 j ∧ (∀ q (hq : q < j) (hq2 : q < Vs.length), Vs[q] = true) ∧ Blk wr n (dockCells a c e d p { k with n := N }) 112 ∧ Blk wr w.heap.size #[.int .u8 t, .int .i64 N] 48 ∧ Below n w wr) (fun i _ => fs.length - (intOf i).toNat)
  case atStart => exact ⟨0, Nat.zero_le _, rfl, fun q hq => by omega, rd, ra, hk⟩
  case round =>
    clear rd ra hk rac0 rac1 raf0 raf1 ral
    obtain ⟨j, hj, rfl, hall, rd, ra, hk⟩ := hrel
    have hz : w.heap.size < wr.heap.size := ra.lt
    by_cases hlt : j < fs.length
    · have hjv : j < Vs.length := by omega
      obtain ⟨hcf, hF⟩ := HR.out j hlt
      have HF := Lib.hid hF
      clear hF
      have hr2 : Blk wr b (fs.map ruleV).toArray 141 := hr.lower hk hbn
      have rcj := hr2.cell j
      have rbl := hr2.lt
      have rcj2 : wr.cell? ⟨b, j, none⟩ = some (.func (.func fs[j]) #[] #[]) := by rw [rcj]; simp [hlt, ruleV]
      obtain ⟨F, hFf⟩ : ∃ F, F = fs[j] := ⟨_, rfl⟩
      rw [← hFf] at hcf HF rcj2
      have HALL := Lib.hid hall
      obtain ⟨V, hV⟩ : ∃ V, V = Vs[j] := ⟨_, rfl⟩
      have HVV := Lib.hid hV
      rw [← hV] at HF
      clear hFf hr2 rcj hV hall
      have j0 : (0 : Int) ≤ (j : Int) := by omega
      have j1 : (j : Int) < (fs.length : Int) := by omega
      cases V with
      | false =>
        have HRES := Lib.hid (show firstNot Vs 0 = ((j + 1 : Nat) : Int) by rw [firstNot_at hjv (fun q hq => HALL.out q hq (by omega)) HVV.out.symm]; simp)
        go_wp2_with ((with_reducible refine (HF.out _ (by (repeat (first | with_reducible assumption | with_reducible exact Below.refl _ _ | ((with_reducible refine Below.setCell ?_ ?_ _); rotate_left 1; (focus (first | exact Nat.le_refl _ | (simp; done) | (simp; omega))))))) (by (exact blk))).mono ?_); rintro z w5 ⟨rfl, hb5⟩)
        exact bodyPost_ret (v := .int .i64 (firstNot Vs 0)) (by rw [HRES.out]; first | (simp [results, Tryz.results52, go_sem]; done) | (simp [results, Tryz.results52, go_sem]; omega)) rfl ⟨rfl, fun h => by rw [HRES.out] at h; omega, fun _ => by (exact blk), Below.trans hk (hb5.mono (Nat.le_of_lt rd.lt))⟩
      | true =>
        go_wp2_with ((with_reducible refine (HF.out _ (by (repeat (first | with_reducible assumption | with_reducible exact Below.refl _ _ | ((with_reducible refine Below.setCell ?_ ?_ _); rotate_left 1; (focus (first | exact Nat.le_refl _ | (simp; done) | (simp; omega))))))) (by (exact blk))).mono ?_); rintro z w5 ⟨rfl, hb5⟩)
        go_roundw
        case rel => exact ⟨j + 1, by omega, by go_num, fun q hq hq2 => (Nat.lt_or_ge q j).elim (fun h => HALL.out q h hq2) (fun h => (by obtain rfl : q = j := (by omega); exact HVV.out.symm)), by (exact blk), by (exact blk), Below.trans hk (hb5.mono (Nat.le_of_lt rd.lt))⟩
        case measure => simp [intOf]; omega
    · obtain rfl : fs.length = j := by omega
      have HRES := Lib.hid (show firstNot Vs 0 = 0 from firstNot_all (fun x hx => by
        obtain ⟨i, hi, rfl⟩ := List.mem_iff_getElem.1 hx
        exact hall i (by omega) hi))
      clear hall
      have rac0 := ra.cell 0
      have raf0 := ra.free 0
      have rac1 := ra.cell 1
      have raf1 := ra.free 1
      have ral := ra.lt
      simp at rac0 rac1
      have HA2 := Lib.hid (show Calls Tryz.prog G #[.pointer (some ⟨n, 0, none⟩)] wr _ from HA.out wr hk rd)
      go_wp2_with (first | (at_lookup; refine wpList_look_map _ rfl _ _ 104 rfl 5 123 keyedU8 Tryz.underlying104 _ (zeroDeed _) M _ (litF g) rfl (hI.below (by (repeat (first | with_reducible assumption | with_reducible exact Below.refl _ _ | ((with_reducible refine Below.setCell ?_ ?_ _); rotate_left 1; (focus (first | exact Nat.le_refl _ | (simp; done) | (simp; omega))))))) hMn) _ (.int .u8 t) rfl (keyU8 (by omega)) (.agg #[.slice (some ⟨b, 0, none⟩) fs.length fs.length, .func (.func G) #[] #[]]) HV.out ?_) | ((with_reducible refine (HA2.out).mono ?_); rintro z w5 ⟨rfl, hb5, hk5⟩))
      exact bodyPost_ret (v := .int .i64 (firstNot Vs 0)) (by rw [HRES.out]; simp [results, Tryz.results52, go_sem]) rfl ⟨rfl, fun _ => hb5, fun h => absurd HRES.out h, Below.trans hk hk5⟩

theorem f_tryS (a : Option Addr) (c : Nat) (e : Option Addr) (d : Nat) (p : Port) (k : Dock) (n : Nat) (N : Int) (w : World) (hd : Blk w n (dockCells a c e d p k) 112)
    (t : Int) (ht : 0 ≤ t ∧ t ≤ 255) (M : Nat) (g : Int → Option Value) (hI : InMap Tryz.prog 5 w M 13 (litF g)) (hMn : M < n) (b : Nat) (hbn : b < n) (fs : List FuncId) (Vs : List Bool) (hl : Vs.length = fs.length) (h4 : fs.length ≤ 4) (G : FuncId) (s : Nat) (hsn : s < n)
    (hg : g t = some (.agg #[.slice (some ⟨b, 0, none⟩) fs.length fs.length, .func (.func G) #[] #[.pointer (some ⟨s, 0, none⟩)]])) (hr : Blk w b (fs.map ruleV).toArray 141) (B : Berth)
    (hrules : ∀ (i : Nat) (hi : i < fs.length), RuleOk a c e d p { k with n := N } n w fs[i] (Vs[i]'(by omega))) (hact : ActOk a c e d p { k with n := N } n w G #[.pointer (some ⟨s, 0, none⟩)] B) :
    Calls Tryz.prog 52 #[.pointer (some ⟨n, 0, none⟩), .agg #[.int .u8 t, .int .i64 N], .map (some M)] w fun z w' => z = .returned (.int .i64 (firstNot Vs 0)) ∧ (firstNot Vs 0 = 0 → Blk w' n (dockCells a c e d p { k with b := B, n := N }) 112) ∧ (firstNot Vs 0 ≠ 0 → Blk w' n (dockCells a c e d p { k with n := N }) 112) ∧ Below n w w' := by
  have hnl := hd.lt
  have q := hd
  unfold dockCells at q
  have qc15 := q.cell 15
  have qf15 := q.free 15
  have ql := q.lt
  simp at qc15
  have HV := Lib.hid (show (litF g (.int .u8 t)).getD (.agg #[.slice none 0 0, .nilFunc]) = .agg #[.slice (some ⟨b, 0, none⟩) fs.length fs.length, .func (.func G) #[] #[.pointer (some ⟨s, 0, none⟩)]] by show (g t).getD _ = _; rw [hg]; rfl)
  have HR := Lib.hid hrules
  have HA := Lib.hid hact.2
  have hcg := hact.1
  clear hrules hg hact
  go_enter Tryz.func52, Tryz.ntmps52
  go_upto_region 1 with fail
  go_upto_region 2 with fail
  refine at_world (S := fun V => Blk V n (dockCells a c e d p { k with n := N }) 112 ∧ Blk V w.heap.size #[.int .u8 t, .int .i64 N] 48 ∧ Below n w V) ⟨Blk.cast ((hd.set 15 _).alloc _) (by simp [dockCells]), by (exact blk), Below.alloc (Below.setCell (Below.refl n w) (Nat.le_refl n) _) (by simp; omega) _⟩ ?_
  clear q qc15 qf15 ql
  rintro W ⟨rd, ra, hk⟩
  have rac0 := ra.cell 0
  have raf0 := ra.free 0
  have rac1 := ra.cell 1
  have raf1 := ra.free 1
  have ral := ra.lt
  simp at rac0 rac1
  go_wp2_with (at_lookup; refine wpList_look_map _ rfl _ _ 104 rfl 5 123 keyedU8 Tryz.underlying104 _ (zeroDeed _) M _ (litF g) rfl (hI.below (by (repeat (first | with_reducible assumption | with_reducible exact Below.refl _ _ | ((with_reducible refine Below.setCell ?_ ?_ _); rotate_left 1; (focus (first | exact Nat.le_refl _ | (simp; done) | (simp; omega))))))) hMn) _ (.int .u8 t) rfl (keyU8 (by omega)) (.agg #[.slice (some ⟨b, 0, none⟩) fs.length fs.length, .func (.func G) #[] #[.pointer (some ⟨s, 0, none⟩)]]) HV.out ?_)
  go_loopw [20] (fun i wr => ∃ j : Nat, j ≤ fs.length ∧ i = .int .i64 j ∧ (∀ q (hq : q < j) (hq2 : q < Vs.length), Vs[q] = true) ∧ Blk wr n (dockCells a c e d p { k with n := N }) 112 ∧ Blk wr w.heap.size #[.int .u8 t, .int .i64 N] 48 ∧ Below n w wr) (fun i _ => fs.length - (intOf i).toNat)
  case atStart => exact ⟨0, Nat.zero_le _, rfl, fun q hq => by omega, rd, ra, hk⟩
  case round =>
    clear rd ra hk rac0 rac1 raf0 raf1 ral
    obtain ⟨j, hj, rfl, hall, rd, ra, hk⟩ := hrel
    have hz : w.heap.size < wr.heap.size := ra.lt
    by_cases hlt : j < fs.length
    · have hjv : j < Vs.length := by omega
      obtain ⟨hcf, hF⟩ := HR.out j hlt
      have HF := Lib.hid hF
      clear hF
      have hr2 : Blk wr b (fs.map ruleV).toArray 141 := hr.lower hk hbn
      have rcj := hr2.cell j
      have rbl := hr2.lt
      have rcj2 : wr.cell? ⟨b, j, none⟩ = some (.func (.func fs[j]) #[] #[]) := by rw [rcj]; simp [hlt, ruleV]
      obtain ⟨F, hFf⟩ : ∃ F, F = fs[j] := ⟨_, rfl⟩
      rw [← hFf] at hcf HF rcj2
      have HALL := Lib.hid hall
      obtain ⟨V, hV⟩ : ∃ V, V = Vs[j] := ⟨_, rfl⟩
      have HVV := Lib.hid hV
      rw [← hV] at HF
      clear hFf hr2 rcj hV hall
      have j0 : (0 : Int) ≤ (j : Int) := by omega
      have j1 : (j : Int) < (fs.length : Int) := by omega
      cases V with
      | false =>
        have HRES := Lib.hid (show firstNot Vs 0 = ((j + 1 : Nat) : Int) by rw [firstNot_at hjv (fun q hq => HALL.out q hq (by omega)) HVV.out.symm]; simp)
        go_wp2_with ((with_reducible refine (HF.out _ (by (repeat (first | with_reducible assumption | with_reducible exact Below.refl _ _ | ((with_reducible refine Below.setCell ?_ ?_ _); rotate_left 1; (focus (first | exact Nat.le_refl _ | (simp; done) | (simp; omega))))))) (by (exact blk))).mono ?_); rintro z w5 ⟨rfl, hb5⟩)
        exact bodyPost_ret (v := .int .i64 (firstNot Vs 0)) (by rw [HRES.out]; first | (simp [results, Tryz.results52, go_sem]; done) | (simp [results, Tryz.results52, go_sem]; omega)) rfl ⟨rfl, fun h => by rw [HRES.out] at h; omega, fun _ => by (exact blk), Below.trans hk (hb5.mono (Nat.le_of_lt rd.lt))⟩
      | true =>
        go_wp2_with ((with_reducible refine (HF.out _ (by (repeat (first | with_reducible assumption | with_reducible exact Below.refl _ _ | ((with_reducible refine Below.setCell ?_ ?_ _); rotate_left 1; (focus (first | exact Nat.le_refl _ | (simp; done) | (simp; omega))))))) (by (exact blk))).mono ?_); rintro z w5 ⟨rfl, hb5⟩)
        go_roundw
        case rel => exact ⟨j + 1, by omega, by go_num, fun q hq hq2 => (Nat.lt_or_ge q j).elim (fun h => HALL.out q h hq2) (fun h => (by obtain rfl : q = j := (by omega); exact HVV.out.symm)), by (exact blk), by (exact blk), Below.trans hk (hb5.mono (Nat.le_of_lt rd.lt))⟩
        case measure => simp [intOf]; omega
    · obtain rfl : fs.length = j := by omega
      have HRES := Lib.hid (show firstNot Vs 0 = 0 from firstNot_all (fun x hx => by
        obtain ⟨i, hi, rfl⟩ := List.mem_iff_getElem.1 hx
        exact hall i (by omega) hi))
      clear hall
      have rac0 := ra.cell 0
      have raf0 := ra.free 0
      have rac1 := ra.cell 1
      have raf1 := ra.free 1
      have ral := ra.lt
      simp at rac0 rac1
      have HA2 := Lib.hid (show Calls Tryz.prog G #[.pointer (some ⟨n, 0, none⟩), .pointer (some ⟨s, 0, none⟩)] wr _ from HA.out wr hk rd)
      go_wp2_with (first | (at_lookup; refine wpList_look_map _ rfl _ _ 104 rfl 5 123 keyedU8 Tryz.underlying104 _ (zeroDeed _) M _ (litF g) rfl (hI.below (by (repeat (first | with_reducible assumption | with_reducible exact Below.refl _ _ | ((with_reducible refine Below.setCell ?_ ?_ _); rotate_left 1; (focus (first | exact Nat.le_refl _ | (simp; done) | (simp; omega))))))) hMn) _ (.int .u8 t) rfl (keyU8 (by omega)) (.agg #[.slice (some ⟨b, 0, none⟩) fs.length fs.length, .func (.func G) #[] #[.pointer (some ⟨s, 0, none⟩)]]) HV.out ?_) | ((with_reducible refine (HA2.out).mono ?_); rintro z w5 ⟨rfl, hb5, hk5⟩))
      exact bodyPost_ret (v := .int .i64 (firstNot Vs 0)) (by rw [HRES.out]; simp [results, Tryz.results52, go_sem]) rfl ⟨rfl, fun _ => hb5, fun h => absurd HRES.out h, Below.trans hk hk5⟩

theorem rule_away (a : Option Addr) (c : Nat) (e : Option Addr) (d : Nat) (p : Port) (k : Dock) (n : Nat) (w : World) : RuleOk a c e d p k n w 85 (away k) := ⟨fun _ _ => by kernel_rfl, fun w' _ hd => m_away a c e d p k n w' hd⟩
theorem rule_reached (a : Option Addr) (c : Nat) (e : Option Addr) (d : Nat) (p : Port) (k : Dock) (n : Nat) (w : World) : RuleOk a c e d p k n w 87 (reached k) := ⟨fun _ _ => by kernel_rfl, fun w' _ hd => m_reached a c e d p k n w' hd⟩
theorem rule_loose (a : Option Addr) (c : Nat) (e : Option Addr) (d : Nat) (p : Port) (k : Dock) (n : Nat) (w : World) : RuleOk a c e d p k n w 58 (loose k) := ⟨fun _ _ => by kernel_rfl, fun w' _ hd => m_loose a c e d p k n w' hd⟩
theorem rule_crew (a : Option Addr) (c : Nat) (e : Option Addr) (d : Nat) (p : Port) (k : Dock) (n : Nat) (w : World) : RuleOk a c e d p k n w 88 (crew p k) := ⟨fun _ _ => by kernel_rfl, fun w' _ hd => m_crew a c e d p k n w' hd⟩
theorem rule_tied (a : Option Addr) (c : Nat) (e : Option Addr) (d : Nat) (p : Port) (k : Dock) (n : Nat) (w : World) : RuleOk a c e d p k n w 63 (tied k) := ⟨fun _ _ => by kernel_rfl, fun w' _ hd => m_tied a c e d p k n w' hd⟩
theorem rule_bare (a : Option Addr) (c : Nat) (e : Option Addr) (d : Nat) (p : Port) (k : Dock) (n : Nat) (w : World) : RuleOk a c e d p k n w 91 (bare k) := ⟨fun _ _ => by kernel_rfl, fun w' _ hd => m_bare a c e d p k n w' hd⟩
theorem rule_held (a : Option Addr) (c : Nat) (e : Option Addr) (d : Nat) (p : Port) (k : Dock) (n : Nat) (w : World) : RuleOk a c e d p k n w 92 (gripped k) := ⟨fun _ _ => by kernel_rfl, fun w' _ hd => m_held a c e d p k n w' hd⟩
theorem rule_lined (a : Option Addr) (c : Nat) (e : Option Addr) (d : Nat) (p : Port) (k : Dock) (n : Nat) (w : World) : RuleOk a c e d p k n w 60 (lined k) := ⟨fun _ _ => by kernel_rfl, fun w' _ hd => m_lined a c e d p k n w' hd⟩
theorem rule_wired (a : Option Addr) (c : Nat) (e : Option Addr) (d : Nat) (p : Port) (k : Dock) (n : Nat) (w : World) : RuleOk a c e d p k n w 59 (wired k) := ⟨fun _ _ => by kernel_rfl, fun w' _ hd => m_wired a c e d p k n w' hd⟩
theorem rule_masted (a : Option Addr) (c : Nat) (e : Option Addr) (d : Nat) (p : Port) (k : Dock) (n : Nat) (w : World) : RuleOk a c e d p k n w 95 (masted k) := ⟨fun _ _ => by kernel_rfl, fun w' _ hd => m_masted a c e d p k n w' hd⟩
theorem rule_shut (a : Option Addr) (c : Nat) (e : Option Addr) (d : Nat) (p : Port) (k : Dock) (n : Nat) (w : World) : RuleOk a c e d p k n w 62 (shut k) := ⟨fun _ _ => by kernel_rfl, fun w' _ hd => m_shut a c e d p k n w' hd⟩
theorem rule_open (a : Option Addr) (c : Nat) (e : Option Addr) (d : Nat) (p : Port) (k : Dock) (n : Nat) (w : World) : RuleOk a c e d p k n w 97 (opened k) := ⟨fun _ _ => by kernel_rfl, fun w' _ hd => m_open a c e d p k n w' hd⟩
theorem rule_still (a : Option Addr) (c : Nat) (e : Option Addr) (d : Nat) (p : Port) (k : Dock) (n : Nat) (w : World) : RuleOk a c e d p k n w 64 (still k) := ⟨fun _ _ => by kernel_rfl, fun w' _ hd => m_still a c e d p k n w' hd⟩
theorem rule_other (a : Option Addr) (c : Nat) (e : Option Addr) (d : Nat) (p : Port) (k : Dock) (n : Nat) (w : World) (hp : portB p = true) : RuleOk a c e d p k n w 99 (elsewhere p k) := ⟨fun _ _ => by kernel_rfl, fun w' _ hd => m_other a c e d p k n w' hd (portB_bd hp).1.2⟩
theorem rule_quiet (a : Option Addr) (c : Nat) (e : Option Addr) (d : Nat) (p : Port) (k : Dock) (n : Nat) (w : World) (hx : Row Axis.cells 2 n w a p.axes) (hp : portB p = true) (hw : windB k.wind = true) (h0 : 0 ≤ k.b.axis) (h1 : k.b.axis < p.axes.length) : RuleOk a c e d p k n w 101 (quiet p k) := ⟨fun _ _ => by kernel_rfl, fun w' hb hd => m_quiet a c e d p k n w' hd ((hx.keep hb (Nat.le_refl _)).up (Nat.le_of_lt hd.lt)) hp hw h0 h1⟩
theorem rule_walking (a : Option Addr) (c : Nat) (e : Option Addr) (d : Nat) (p : Port) (k : Dock) (n : Nat) (w : World) : RuleOk a c e d p k n w 61 (walking k) := ⟨fun _ _ => by kernel_rfl, fun w' _ hd => m_walking a c e d p k n w' hd⟩
theorem rule_housed (a : Option Addr) (c : Nat) (e : Option Addr) (d : Nat) (p : Port) (k : Dock) (n : Nat) (w : World) : RuleOk a c e d p k n w 102 (housed k) := ⟨fun _ _ => by kernel_rfl, fun w' _ hd => m_housed a c e d p k n w' hd⟩
theorem act_2 (a : Option Addr) (c : Nat) (e : Option Addr) (d : Nat) (p : Port) (k : Dock) (n : Nat) (w : World) : ActOk a c e d p k n w 89 #[] { k.b with held := k.n, ship := if fast k then k.b.ship else 2 } := ⟨fun _ _ => by kernel_rfl, fun w' _ hd => a_2 a c e d p k n w' hd⟩
theorem act_3 (a : Option Addr) (c : Nat) (e : Option Addr) (d : Nat) (p : Port) (k : Dock) (n : Nat) (w : World) : ActOk a c e d p k n w 93 #[] { k.b with held := 0, ship := if fast k then k.b.ship else 1 } := ⟨fun _ _ => by kernel_rfl, fun w' _ hd => a_3 a c e d p k n w' hd⟩
theorem act_4 (a : Option Addr) (c : Nat) (e : Option Addr) (d : Nat) (p : Port) (k : Dock) (n : Nat) (w : World) : ActOk a c e d p k n w 94 #[] { k.b with wire := true } := ⟨fun _ _ => by kernel_rfl, fun w' _ hd => a_4 a c e d p k n w' hd⟩
theorem act_5 (a : Option Addr) (c : Nat) (e : Option Addr) (d : Nat) (p : Port) (k : Dock) (n : Nat) (w : World) : ActOk a c e d p k n w 96 #[] { k.b with opn := true } := ⟨fun _ _ => by kernel_rfl, fun w' _ hd => a_5 a c e d p k n w' hd⟩
theorem act_6 (a : Option Addr) (c : Nat) (e : Option Addr) (d : Nat) (p : Port) (k : Dock) (n : Nat) (w : World) : ActOk a c e d p k n w 98 #[] { k.b with opn := false } := ⟨fun _ _ => by kernel_rfl, fun w' _ hd => a_6 a c e d p k n w' hd⟩
theorem act_7 (a : Option Addr) (c : Nat) (e : Option Addr) (d : Nat) (p : Port) (k : Dock) (n : Nat) (w : World) : ActOk a c e d p k n w 100 #[] { k.b with axis := k.n } := ⟨fun _ _ => by kernel_rfl, fun w' _ hd => a_7 a c e d p k n w' hd⟩
theorem act_ship (a : Option Addr) (c : Nat) (e : Option Addr) (d : Nat) (p : Port) (k : Dock) (n : Nat) (w : World) (s : Int) (m : Nat) (hm : Blk w m #[.int .u8 s] 5) (hmn : m < n) : ActOk a c e d p k n w 114 #[.pointer (some ⟨m, 0, none⟩)] (toShip s k.b) := ⟨fun _ _ => by kernel_rfl, fun w' hb hd => a_ship a c e d p k n w' hd s m (hm.lower hb hmn)⟩
theorem f_try (a : Option Addr) (c : Nat) (e : Option Addr) (d : Nat) (p : Port) (k : Dock) (n : Nat) (t N : Int) (w : World) (hd : Blk w n (dockCells a c e d p k) 112) (M B : Nat) (hT : Table w B M) (hBn : B ≤ n)
    (hx : Row Axis.cells 2 n w a p.axes) (hp : portB p = true) (hw : windB k.wind = true) (hax : 0 ≤ k.b.axis ∧ k.b.axis < p.axes.length) (ht : 1 ≤ t ∧ t ≤ 13) :
    Calls Tryz.prog 52 #[.pointer (some ⟨n, 0, none⟩), .agg #[.int .u8 t, .int .i64 N], .map (some M)] w fun z w' => z = .returned (.int .i64 (tryR p { k with n := N } t)) ∧ (tryR p { k with n := N } t = 0 → Blk w' n (dockCells a c e d p { k with b := doneB { k with n := N } t, n := N }) 112) ∧ (tryR p { k with n := N } t ≠ 0 → Blk w' n (dockCells a c e d p { k with n := N }) 112) ∧ Below n w w' := by
  obtain ⟨hMB, g, hI, _, h4⟩ := hT
  have hMn : M < n := by omega
  rcases (by omega : t = 1 ∨ t = 2 ∨ t = 3 ∨ t = 4 ∨ t = 5 ∨ t = 6 ∨ t = 7 ∨ t = 8 ∨ t = 9 ∨ t = 10 ∨ t = 11 ∨ t = 12 ∨ t = 13) with rfl | rfl | rfl | rfl | rfl | rfl | rfl | rfl | rfl | rfl | rfl | rfl | rfl
  · obtain ⟨b, s, hb, hs, hg, hr, hsh⟩ := h4 1 (by omega) (by omega)
    have hbn : b < n := by omega
    exact f_tryS a c e d p k n N w hd 1 (by omega) M g hI hMn b hbn [85] (rulesOf p { k with n := N } 1) rfl (by decide) 114 s (by omega) hg hr (doneB { k with n := N } 1)
        (fun i hi => match i, hi with
        | 0, _ => rule_away _ _ _ _ _ _ _ _
        | i + 1, hi => absurd hi (by simp)) (act_ship _ _ _ _ _ _ _ _ 1 s (hsh 1 rfl) (by omega))
  · obtain ⟨b, s, hb, hs, hg, hr, hsh⟩ := h4 2 (by omega) (by omega)
    have hbn : b < n := by omega
    exact f_tryN a c e d p k n N w hd 2 (by omega) M g hI hMn b hbn [87, 58, 88] (rulesOf p { k with n := N } 2) rfl (by decide) 89 hg hr (doneB { k with n := N } 2)
        (fun i hi => match i, hi with
        | 0, _ => rule_reached _ _ _ _ _ _ _ _
        | 1, _ => rule_loose _ _ _ _ _ _ _ _
        | 2, _ => rule_crew _ _ _ _ _ _ _ _
        | i + 3, hi => absurd hi (by simp)) (act_2 _ _ _ _ _ _ _ _)
  · obtain ⟨b, s, hb, hs, hg, hr, hsh⟩ := h4 3 (by omega) (by omega)
    have hbn : b < n := by omega
    exact f_tryN a c e d p k n N w hd 3 (by omega) M g hI hMn b hbn [63, 91, 92] (rulesOf p { k with n := N } 3) rfl (by decide) 93 hg hr (doneB { k with n := N } 3)
        (fun i hi => match i, hi with
        | 0, _ => rule_tied _ _ _ _ _ _ _ _
        | 1, _ => rule_bare _ _ _ _ _ _ _ _
        | 2, _ => rule_held _ _ _ _ _ _ _ _
        | i + 3, hi => absurd hi (by simp)) (act_3 _ _ _ _ _ _ _ _)
  · obtain ⟨b, s, hb, hs, hg, hr, hsh⟩ := h4 4 (by omega) (by omega)
    have hbn : b < n := by omega
    exact f_tryN a c e d p k n N w hd 4 (by omega) M g hI hMn b hbn [60, 91] (rulesOf p { k with n := N } 4) rfl (by decide) 94 hg hr (doneB { k with n := N } 4)
        (fun i hi => match i, hi with
        | 0, _ => rule_lined _ _ _ _ _ _ _ _
        | 1, _ => rule_bare _ _ _ _ _ _ _ _
        | i + 2, hi => absurd hi (by simp)) (act_4 _ _ _ _ _ _ _ _)
  · obtain ⟨b, s, hb, hs, hg, hr, hsh⟩ := h4 5 (by omega) (by omega)
    have hbn : b < n := by omega
    exact f_tryS a c e d p k n N w hd 5 (by omega) M g hI hMn b hbn [60, 59] (rulesOf p { k with n := N } 5) rfl (by decide) 114 s (by omega) hg hr (doneB { k with n := N } 5)
        (fun i hi => match i, hi with
        | 0, _ => rule_lined _ _ _ _ _ _ _ _
        | 1, _ => rule_wired _ _ _ _ _ _ _ _
        | i + 2, hi => absurd hi (by simp)) (act_ship _ _ _ _ _ _ _ _ 3 s (hsh 3 rfl) (by omega))
  · obtain ⟨b, s, hb, hs, hg, hr, hsh⟩ := h4 6 (by omega) (by omega)
    have hbn : b < n := by omega
    exact f_tryS a c e d p k n N w hd 6 (by omega) M g hI hMn b hbn [95, 58] (rulesOf p { k with n := N } 6) rfl (by decide) 114 s (by omega) hg hr (doneB { k with n := N } 6)
        (fun i hi => match i, hi with
        | 0, _ => rule_masted _ _ _ _ _ _ _ _
        | 1, _ => rule_loose _ _ _ _ _ _ _ _
        | i + 2, hi => absurd hi (by simp)) (act_ship _ _ _ _ _ _ _ _ 0 s (hsh 0 rfl) (by omega))
  · obtain ⟨b, s, hb, hs, hg, hr, hsh⟩ := h4 7 (by omega) (by omega)
    have hbn : b < n := by omega
    exact f_tryN a c e d p k n N w hd 7 (by omega) M g hI hMn b hbn [62] (rulesOf p { k with n := N } 7) rfl (by decide) 96 hg hr (doneB { k with n := N } 7)
        (fun i hi => match i, hi with
        | 0, _ => rule_shut _ _ _ _ _ _ _ _
        | i + 1, hi => absurd hi (by simp)) (act_5 _ _ _ _ _ _ _ _)
  · obtain ⟨b, s, hb, hs, hg, hr, hsh⟩ := h4 8 (by omega) (by omega)
    have hbn : b < n := by omega
    exact f_tryN a c e d p k n N w hd 8 (by omega) M g hI hMn b hbn [97, 64] (rulesOf p { k with n := N } 8) rfl (by decide) 98 hg hr (doneB { k with n := N } 8)
        (fun i hi => match i, hi with
        | 0, _ => rule_open _ _ _ _ _ _ _ _
        | 1, _ => rule_still _ _ _ _ _ _ _ _
        | i + 2, hi => absurd hi (by simp)) (act_6 _ _ _ _ _ _ _ _)
  · obtain ⟨b, s, hb, hs, hg, hr, hsh⟩ := h4 9 (by omega) (by omega)
    have hbn : b < n := by omega
    exact f_tryN a c e d p k n N w hd 9 (by omega) M g hI hMn b hbn [99, 62] (rulesOf p { k with n := N } 9) rfl (by decide) 100 hg hr (doneB { k with n := N } 9)
        (fun i hi => match i, hi with
        | 0, _ => rule_other _ _ _ _ _ _ _ _ hp
        | 1, _ => rule_shut _ _ _ _ _ _ _ _
        | i + 2, hi => absurd hi (by simp)) (act_7 _ _ _ _ _ _ _ _)
  · obtain ⟨b, s, hb, hs, hg, hr, hsh⟩ := h4 10 (by omega) (by omega)
    have hbn : b < n := by omega
    exact f_tryS a c e d p k n N w hd 10 (by omega) M g hI hMn b hbn [95, 92, 97, 101] (rulesOf p { k with n := N } 10) rfl (by decide) 114 s (by omega) hg hr (doneB { k with n := N } 10)
        (fun i hi => match i, hi with
        | 0, _ => rule_masted _ _ _ _ _ _ _ _
        | 1, _ => rule_held _ _ _ _ _ _ _ _
        | 2, _ => rule_open _ _ _ _ _ _ _ _
        | 3, _ => rule_quiet _ _ _ _ _ _ _ _ hx hp hw hax.1 hax.2
        | i + 4, hi => absurd hi (by simp)) (act_ship _ _ _ _ _ _ _ _ 4 s (hsh 4 rfl) (by omega))
  · obtain ⟨b, s, hb, hs, hg, hr, hsh⟩ := h4 11 (by omega) (by omega)
    have hbn : b < n := by omega
    exact f_tryS a c e d p k n N w hd 11 (by omega) M g hI hMn b hbn [61, 101] (rulesOf p { k with n := N } 11) rfl (by decide) 114 s (by omega) hg hr (doneB { k with n := N } 11)
        (fun i hi => match i, hi with
        | 0, _ => rule_walking _ _ _ _ _ _ _ _
        | 1, _ => rule_quiet _ _ _ _ _ _ _ _ hx hp hw hax.1 hax.2
        | i + 2, hi => absurd hi (by simp)) (act_ship _ _ _ _ _ _ _ _ 5 s (hsh 5 rfl) (by omega))
  · obtain ⟨b, s, hb, hs, hg, hr, hsh⟩ := h4 12 (by omega) (by omega)
    have hbn : b < n := by omega
    exact f_tryS a c e d p k n N w hd 12 (by omega) M g hI hMn b hbn [102, 92, 97, 101] (rulesOf p { k with n := N } 12) rfl (by decide) 114 s (by omega) hg hr (doneB { k with n := N } 12)
        (fun i hi => match i, hi with
        | 0, _ => rule_housed _ _ _ _ _ _ _ _
        | 1, _ => rule_held _ _ _ _ _ _ _ _
        | 2, _ => rule_open _ _ _ _ _ _ _ _
        | 3, _ => rule_quiet _ _ _ _ _ _ _ _ hx hp hw hax.1 hax.2
        | i + 4, hi => absurd hi (by simp)) (act_ship _ _ _ _ _ _ _ _ 4 s (hsh 4 rfl) (by omega))
  · obtain ⟨b, s, hb, hs, hg, hr, hsh⟩ := h4 13 (by omega) (by omega)
    have hbn : b < n := by omega
    exact f_tryS a c e d p k n N w hd 13 (by omega) M g hI hMn b hbn [61] (rulesOf p { k with n := N } 13) rfl (by decide) 114 s (by omega) hg hr (doneB { k with n := N } 13)
        (fun i hi => match i, hi with
        | 0, _ => rule_walking _ _ _ _ _ _ _ _
        | i + 1, hi => absurd hi (by simp)) (act_ship _ _ _ _ _ _ _ _ 3 s (hsh 3 rfl) (by omega))

end Go.Proofs.YtacbkbilbmkjnaaGreat
