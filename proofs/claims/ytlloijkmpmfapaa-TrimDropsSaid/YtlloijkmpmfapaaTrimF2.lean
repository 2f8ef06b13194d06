/-
  Drop: the loop's act, what its rounds leave alone.
-/
import Derived.Test.YtlloijkmpmfapaaTrimF
import Derived.Test.YtlloijkmpmfapaaOwn
import Derived.Scope
import Derived.ControlIn
namespace Go.Proofs.Ytlloijkmpmfapaa
open Go.RowKit Go.Shelf Bal Bal.Trim
set_option linter.unusedVariables false
set_option linter.unusedSimpArgs false
set_option maxRecDepth 10000
theorem at_worldIn {F : Fence} {n : Nat} {P : Program} {c : Code} {Q : Exit → Act → World → Prop} {a : Act} {S : World → Prop} {W : World} (h : S W) (k : ∀ W, S W → c.wpIn F n P Q a W) : c.wpIn F n P Q a W := k W h
theorem wpIn_scope {n : Nat} {P : Program} {c : Code} {Q : Exit → Act → World → Prop} {a : Act} {W : World} (h : c.wpIn Fence.wide n P (Exit.noGoto Q) a W) : (Code.scope c).wpIn Fence.wide n P Q a W := wpIn_wide.2 (wp_scope_straight (wpIn_wide.1 h))
theorem list106 (f : Nat → Value) : ((List.range 106).map f).toArray = #[f 0, f 1, f 2, f 3, f 4, f 5, f 6, f 7, f 8, f 9, f 10, f 11, f 12, f 13, f 14, f 15, f 16, f 17, f 18, f 19, f 20, f 21, f 22, f 23, f 24, f 25, f 26, f 27, f 28, f 29, f 30, f 31, f 32, f 33, f 34, f 35, f 36, f 37, f 38, f 39, f 40, f 41, f 42, f 43, f 44, f 45, f 46, f 47, f 48, f 49, f 50, f 51, f 52, f 53, f 54, f 55, f 56, f 57, f 58, f 59, f 60, f 61, f 62, f 63, f 64, f 65, f 66, f 67, f 68, f 69, f 70, f 71, f 72, f 73, f 74, f 75, f 76, f 77, f 78, f 79, f 80, f 81, f 82, f 83, f 84, f 85, f 86, f 87, f 88, f 89, f 90, f 91, f 92, f 93, f 94, f 95, f 96, f 97, f 98, f 99, f 100, f 101, f 102, f 103, f 104, f 105] := by rfl
theorem drop_act (A : Array Value) {v0 v1 v2 v3 v4 v5 v6 v7 v56 v57 : Value} (hs : A.size = 106) (h0 : A[0]? = some v0) (h1 : A[1]? = some v1) (h2 : A[2]? = some v2) (h3 : A[3]? = some v3) (h4 : A[4]? = some v4) (h5 : A[5]? = some v5) (h6 : A[6]? = some v6) (h7 : A[7]? = some v7) (h56 : A[56]? = some v56) (h57 : A[57]? = some v57) :
    ∃ u : Nat → Value, A = #[v0, v1, v2, v3, v4, v5, v6, v7, u 8, u 9, u 10, u 11, u 12, u 13, u 14, u 15, u 16, u 17, u 18, u 19, u 20, u 21, u 22, u 23, u 24, u 25, u 26, u 27, u 28, u 29, u 30, u 31, u 32, u 33, u 34, u 35, u 36, u 37, u 38, u 39, u 40, u 41, u 42, u 43, u 44, u 45, u 46, u 47, u 48, u 49, u 50, u 51, u 52, u 53, u 54, u 55, v56, v57, u 58, u 59, u 60, u 61, u 62, u 63, u 64, u 65, u 66, u 67, u 68, u 69, u 70, u 71, u 72, u 73, u 74, u 75, u 76, u 77, u 78, u 79, u 80, u 81, u 82, u 83, u 84, u 85, u 86, u 87, u 88, u 89, u 90, u 91, u 92, u 93, u 94, u 95, u 96, u 97, u 98, u 99, u 100, u 101, u 102, u 103, u 104, u 105] := by
  obtain ⟨f, hf⟩ : ∃ f : Nat → Value, f = fun i => A.getD i undef := ⟨_, rfl⟩
  have key : A = ((List.range 106).map f).toArray := by
    apply Array.ext
    · simp [hs]
    · intro i h1 h2
      simp [hf, Array.getD, h1]
  have g : ∀ (i : Nat) (v : Value), A[i]? = some v → f i = v := by
    intro i v h
    rw [hf]
    simp [Array.getD_eq_getD_getElem?, h]
  refine ⟨f, ?_⟩
  rw [key, list106, g 0 _ h0, g 1 _ h1, g 2 _ h2, g 3 _ h3, g 4 _ h4, g 5 _ h5, g 6 _ h6, g 7 _ h7, g 56 _ h56, g 57 _ h57]
theorem DropW.keep {w W W' : World} {a d b : Option Addr} {n m l cap cd cb B : Nat} (h : DropW w W a d b n m l cap cd cb) (hb : Below B W W') (hB : W.heap.size ≤ B) : DropW w W' a d b n m l cap cd cb :=
  ⟨Blk.below h.r0 hb (Nat.lt_of_lt_of_le h.r0.lt hB), Blk.below h.r1 hb (Nat.lt_of_lt_of_le h.r1.lt hB), Blk.below h.r2 hb (Nat.lt_of_lt_of_le h.r2.lt hB), Blk.below h.r3 hb (Nat.lt_of_lt_of_le h.r3.lt hB), Blk.below h.r4 hb (Nat.lt_of_lt_of_le h.r4.lt hB), h.kept.trans (hb.mono (Nat.le_trans h.kept.size hB))⟩
theorem DropW.grown {w W W' : World} {a d b : Option Addr} {n m l cap cd cb base k j : Nat} {v : Value} {ys : List Value} (h : DropW w W a d b n m l cap cd cb) (ho : W.ownsRow base 88 k v j ys) (hb : w.heap.size ≤ base) (hg : W.grownBy W' v.ownBlock) : DropW w W' a d b n m l cap cd cb :=
  ⟨h.r0.grown ho (by decide) hg, h.r1.grown ho (by decide) hg, h.r2.grown ho (by decide) hg, h.r3.grown ho (by decide) hg, h.r4.grown ho (by decide) hg, Kept.grown h.kept ho hb hg⟩
theorem blk_own {β : Type} (B b : Nat) (arr : Array Value) (t : TypeId) : OwnFrom B (fun (_ : β) W => Blk W b arr t) := by
  intro _ X Y row hb hg hr
  refine (hg.block b (Blk.lt hb) (fun e => ?_)).trans hb
  obtain ⟨_, o, ho, hc⟩ := hr b e.symm
  rw [show X.heap[b]? = some _ from hb] at ho
  cases ho
  cases hc
theorem row_own {β : Type} (B base : Nat) (e : TypeId) (k : Nat) (v : Value) (n : Nat) (xs : List Value) : OwnFrom B (fun (_ : β) W => W.ownsRow base e k v n xs) := by
  intro _ X Y row hb hg hr
  obtain ⟨h1, h2 | ⟨g, cap, cur, hv, hgb, hh, r⟩⟩ := hb
  · exact ⟨h1, .inl h2⟩
  · refine ⟨h1, .inr ⟨g, cap, cur, hv, hgb, ?_, r⟩⟩
    exact blk_own (β := Unit) B g cur e () X Y row hh hg hr
theorem mark_own {β : Type} {B C : Nat} {Ds : List Nat} {W1 : World} (hM : Marked C Ds W1) (hB : W1.heap.size ≤ B) : OwnFrom B (fun (_ : β) W => Marked C Ds W) := by
  intro _ X Y row hb hg hr
  refine ⟨hb.1, fun D hD => ⟨(hb.2 D hD).1, ?_⟩⟩
  refine (hg.block D (Array.getElem?_eq_some_iff.1 (hb.2 D hD).2).1 (fun e => ?_)).trans (hb.2 D hD).2
  have h1 := (hr D e.symm).1
  have h2 := (Array.getElem?_eq_some_iff.1 (hM.2 D hD).2).1
  omega
theorem keepsFrom_of_kept {W W' : World} (h : Kept W W') (B : Nat) : KeepsFrom B W W' :=
  ⟨h.size, fun k o _ hk _ => (h.block k (Array.getElem?_eq_some_iff.1 hk).1).trans hk⟩
/-- how a round is left for good: the set, its copy in the result's cell -/
def DropEnd (w : World) (S : Option (List Nat)) (Ds : List Nat) (W : World) : Prop :=
  ∃ x vv, S = some x ∧ Blk W (w.heap.size + 1 + 1 + 1) #[vv] 63 ∧ Blk W (w.heap.size + 1 + 1 + 1 + 1) #[.int .i64 0] 26 ∧ W.ownsRow w.heap.size 3 1 vv (ints x).length ((ints x).flatMap icell) ∧ Kept w W ∧ Marked w.heap.size Ds W
theorem dropEnd_own {β : Type} {w W1 : World} {S : Option (List Nat)} {Ds : List Nat} {B : Nat} (hM : Marked w.heap.size Ds W1) (hB : W1.heap.size ≤ B) (hw : w.heap.size ≤ B) : OwnFrom B (fun (_ : β) W => DropEnd w S Ds W) := by
  intro s X Y row ⟨x, vv, h1, h2, h3, h4, h5, h6⟩ hg hr
  exact ⟨x, vv, h1, blk_own (β := Unit) B _ _ _ () X Y row h2 hg hr, blk_own (β := Unit) B _ _ _ () X Y row h3 hg hr, row_own (β := Unit) B _ _ _ _ _ _ () X Y row h4 hg hr, ownFrom_below (β := Unit) (Nat.le_refl _) hw () X Y row h5 hg hr, mark_own (β := Unit) hM hB () X Y row h6 hg hr⟩
theorem cells_four (w : World) (p q r s : Value) (t : TypeId) : ∀ j u, [p, q, r, s][j]? = some u → (w.alloc (.cells #[p, q, r, s] t)).cell? ((⟨w.heap.size, 0, none⟩ : Addr).add j) = some u := by
  intro j u hj
  match j, hj with
  | 0, hj => simp at hj; subst hj; simp [Addr.add]
  | 1, hj => simp at hj; subst hj; simp [Addr.add]
  | 2, hj => simp at hj; subst hj; simp [Addr.add]
  | 3, hj => simp at hj; subst hj; simp [Addr.add]
  | j + 4, hj => simp at hj
theorem okSet_some {xs : List Load} {bs : List Put} {ms : List Limit} {x : List Nat} {L : List Load} (hL : left xs bs x = L) {k : Nat} (hk : k < ms.length) (hb : ∀ j, j < k → brk L ms j = false) (h : brk L ms k = true) : okSet xs bs ms x = false := by
  unfold okSet
  rw [hL, show broken L ms = some k from Bal.Trim.firstOf_some hk hb h]
  rfl
theorem okSet_none {xs : List Load} {bs : List Put} {ms : List Limit} {x : List Nat} {L : List Load} (hL : left xs bs x = L) (hb : ∀ j, j < ms.length → brk L ms j = false) : okSet xs bs ms x = true := by
  unfold okSet
  rw [hL, show broken L ms = none from Bal.Trim.firstOf_none hb]
  rfl
theorem left_len {xs : List Load} {bs : List Put} {x : List Nat} : (left xs bs x).length ≤ xs.length + bs.length := by
  have := stay_len bs (fun i => decide (i ∈ x)) bs.length
  unfold left
  simp
  omega
theorem left_B {xs : List Load} {bs : List Put} {x : List Nat} (h1 : ∀ y ∈ xs, loadB y = true) (h2 : ∀ p ∈ bs, bagB p = true) : ∀ y ∈ left xs bs x, loadB y = true := by
  intro y hy
  rcases List.mem_append.1 hy with hy | hy
  · exact h1 y hy
  · exact stay_B h2 _ y hy
end Go.Proofs.Ytlloijkmpmfapaa
