/-
  The reference: twins, ticks.
-/
import Derived.Test.YtemafanncejeiaaGasDM
namespace Go.Proofs.Ytemafanncejeiaa
open Go.RowKit Bal Bal.Trim Bal.Gas
set_option linter.unusedVariables false
set_option linter.unusedSimpArgs false
set_option maxHeartbeats 8000000
set_option maxRecDepth 100000

/-- THE COPY OF A LIST: append to an empty slice of the call's own; what is beside it stays -/
theorem wpList_copyO {α : Type} {enc : α → List Value} {P : Program} {w0 w : World} {ops : Array Oper} {rest : List Oper} {o : Oper} {a : Act} {Q : Exit → Act → World → Prop} (hgd : o.guard = none) (s x : Operand) (t : TypeId)
    (ho : o.op = .call { callee := .builtin .append, args := #[s, x], argTypes := #[t, t] })
    (base : Nat) (e : TypeId) (z : Value) (size bytes : Nat) (ht : P.underlying t = some (.slice e)) (hinfo : (P.info? e).map (fun i => (i.zero, i.size, i.bytes)) = some (some z, size, bytes))
    (hzs : z.cells.size = size) (hsz : 0 < size) (he : ∀ x : α, (enc x).length = size) (h1 : ∀ (x : α), ∀ u ∈ enc x, u.oneCell' = true)
    (n : Nat) (hn : n = w.heap.size) (hs : a.eval s = .slice (some ⟨n, 0, none⟩) 0 0)
    (ad : Option Addr) (c : Nat) (ys : List α) (hx : a.eval x = .slice ad ys.length c) (hc : ad = none → c = 0) (hrow : Row enc size w0.heap.size w0 ad ys) (hk : Kept w0 w) (hbase : base = w0.heap.size)
    (h63 : ys.length ≤ 1000000) (hbytes : bytes ≤ 100000)
    (h : ∀ ad' cp w', w'.ownsRow base e size (.slice ad' ys.length cp) ys.length (ys.flatMap enc) → (∀ b arr t', t' ≠ e → Blk w b arr t' → Blk w' b arr t') → Kept w0 w' → wpList P ops Q rest (a.put o.dst (.slice ad' ys.length cp)) w') :
    wpList P ops Q (o :: rest) a (w.alloc (.cells #[] e)) := by
  subst hbase
  obtain ⟨i, hi, hz, hsize, hby⟩ := info_parts hinfo
  have hsz0 := hk.size
  have hown0 : (w.alloc (.cells #[] e)).ownsRow w0.heap.size e size (.slice (some ⟨n, 0, none⟩) 0 0) ([] : List α).length (([] : List α).flatMap enc) := owns_made hn hsz0
  have hm : ys.length * bytes ≤ 1000000 * 100000 := Nat.mul_le_mul h63 hbytes
  refine wpList_append_list hgd s x t ho w0.heap.size e i z size bytes ht hi hz hsize hby hzs hsz he h1 _ [] hs hown0 ad c ys hx hc (hrow.keep (Kept.alloc hk _) (Nat.le_refl _)) (by simp [maxLen]; omega) (by simp; omega) (by show w0.heap.size ≤ (w.heap.push _).size; simp; omega) ?_
  intro v' w' hown hgrow
  have hk' : Kept w0 w' := Kept.grown (Kept.alloc hk _) hown0 (Nat.le_refl _) hgrow
  rw [List.nil_append] at hown
  obtain ⟨ad', cp', rfl, _⟩ := Row.of_owns he hown
  exact h ad' cp' w' hown (fun b arr t' hne hb => Blk.grown (hb.alloc _) hown0 hne hgrow) hk'

theorem r_Twin (p : Plant) (a : Option Addr) (cap : Nat) (w : World) (hx : Row Cell.cells 7 w.heap.size w a p.cells) (hn : p.cells.length ≤ 1000) (hz : a = none → cap = 0) :
    Calls Try.prog 47 #[.agg #[.slice a p.cells.length cap, .int .i64 p.bottles, .int .i64 p.inH, .int .i64 p.inA, .int .i64 p.vH, .int .i64 p.vA, .int .i64 p.lH, .int .i64 p.lA, .int .i64 p.pH, .int .i64 p.pA]] w fun e w' => ∃ ad cp, e = .returned (.agg #[.slice ad p.cells.length cp, .int .i64 p.bottles, .int .i64 p.inH, .int .i64 p.inA, .int .i64 p.vH, .int .i64 p.vA, .int .i64 p.lH, .int .i64 p.lA, .int .i64 p.pH, .int .i64 p.pA]) ∧ Mine 25 w.heap.size w' (.slice ad p.cells.length cp) p.cells ∧ Kept w w' := by
  go_enter Try.func47, Try.ntmps47
  go_wp2_with (at_builtin; refine wpList_copyO (enc := Cell.cells) (w0 := w) (w := (w.alloc (.cells #[.slice a p.cells.length cap, .int .i64 p.bottles, .int .i64 p.inH, .int .i64 p.inA, .int .i64 p.vH, .int .i64 p.vA, .int .i64 p.lH, .int .i64 p.lA, .int .i64 p.pH, .int .i64 p.pA] 63)).alloc (.cells #[.slice none 0 0, .int .i64 0, .int .i64 0, .int .i64 0, .int .i64 0, .int .i64 0, .int .i64 0, .int .i64 0, .int .i64 0, .int .i64 0] 63)) rfl _ _ 59 rfl w.heap.size 25 (.agg #[.int .i64 0, .int .i64 0, .int .i64 0, .int .i64 0, .int .i64 0, .int .i64 0, .int .i64 0]) 7 56 Try.underlying59 infoCell rfl (by decide) cells_len (fun x u hu => by simp [Cell.cells] at hu; rcases hu with rfl | rfl | rfl | rfl | rfl | rfl | rfl <;> rfl) _ (by simp) rfl a cap p.cells rfl hz hx (by (exact kpt)) rfl (by omega) (by decide) ?_; intro ad cp w9 hown hB hk9; have r0 : Blk w9 w.heap.size #[.slice a p.cells.length cap, .int .i64 p.bottles, .int .i64 p.inH, .int .i64 p.inA, .int .i64 p.vH, .int .i64 p.vA, .int .i64 p.lH, .int .i64 p.lA, .int .i64 p.pH, .int .i64 p.pA] 63 := hB _ _ _ (by decide) (by (exact blkc)); have r1 : Blk w9 (w.heap.size + 1) #[.slice none 0 0, .int .i64 0, .int .i64 0, .int .i64 0, .int .i64 0, .int .i64 0, .int .i64 0, .int .i64 0, .int .i64 0, .int .i64 0] 63 := hB _ _ _ (by decide) (by (exact blkc)); clear hB; have r0c0 := r0.cell 0; have r0f0 := r0.free 0; have r0c1 := r0.cell 1; have r0f1 := r0.free 1; have r0c2 := r0.cell 2; have r0f2 := r0.free 2; have r0c3 := r0.cell 3; have r0f3 := r0.free 3; have r0c4 := r0.cell 4; have r0f4 := r0.free 4; have r0c5 := r0.cell 5; have r0f5 := r0.free 5; have r0c6 := r0.cell 6; have r0f6 := r0.free 6; have r0c7 := r0.cell 7; have r0f7 := r0.free 7; have r0c8 := r0.cell 8; have r0f8 := r0.free 8; have r0c9 := r0.cell 9; have r0f9 := r0.free 9; have r0l := r0.lt; simp at r0c0 r0c1 r0c2 r0c3 r0c4 r0c5 r0c6 r0c7 r0c8 r0c9; have r1c0 := r1.cell 0; have r1f0 := r1.free 0; have r1c1 := r1.cell 1; have r1f1 := r1.free 1; have r1c2 := r1.cell 2; have r1f2 := r1.free 2; have r1c3 := r1.cell 3; have r1f3 := r1.free 3; have r1c4 := r1.cell 4; have r1f4 := r1.free 4; have r1c5 := r1.cell 5; have r1f5 := r1.free 5; have r1c6 := r1.cell 6; have r1f6 := r1.free 6; have r1c7 := r1.cell 7; have r1f7 := r1.free 7; have r1c8 := r1.cell 8; have r1f8 := r1.free 8; have r1c9 := r1.cell 9; have r1f9 := r1.free 9; have r1l := r1.lt; simp at r1c0 r1c1 r1c2 r1c3 r1c4 r1c5 r1c6 r1c7 r1c8 r1c9)
  refine bodyPost_ret (v := .agg #[.slice ad p.cells.length cp, .int .i64 p.bottles, .int .i64 p.inH, .int .i64 p.inA, .int .i64 p.vH, .int .i64 p.vA, .int .i64 p.lH, .int .i64 p.lA, .int .i64 p.pH, .int .i64 p.pA]) (by simp [results, Try.results47, go_sem, r1c0, r1f0, r1c1, r1f1, r1c2, r1f2, r1c3, r1f3, r1c4, r1f4, r1c5, r1f5, r1c6, r1f6, r1c7, r1f7, r1c8, r1f8, r1c9, r1f9, r0c0, r0f0, r0c1, r0f1, r0c2, r0f2, r0c3, r0f3, r0c4, r0f4, r0c5, r0f5, r0c6, r0f6, r0c7, r0f7, r0c8, r0f8, r0c9, r0f9]) rfl ⟨ad, cp, rfl, ?_, ?_⟩
  · have hm := Mine.of_owns hown
    have hn0 := hm.ne r0 (by decide)
    have hn1 := hm.ne r1 (by decide)
    (repeat (with_reducible refine Mine.off ?_ (by with_reducible assumption) _))
    exact hm
  · (exact kpt)

end Go.Proofs.Ytemafanncejeiaa
