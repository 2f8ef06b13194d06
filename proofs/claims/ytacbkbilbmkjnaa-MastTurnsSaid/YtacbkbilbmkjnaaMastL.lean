/-
  MastTurns: turned sheds and manned lines are the same in the program and in the reference: for every input.
-/
import Derived.Test.YtacbkbilbmkjnaaMastK
import Derived.Test.YtacbkbilbmkjnaaMastG
import Derived.Deep.RegionLaw
import Derived.Laws.AppendOwnNone
namespace Go.Proofs.Ytacbkbilbmkjnaa
open Go.RowKit Bal Bal.Trim Bal.Mast
set_option linter.unusedVariables false
set_option linter.unusedSimpArgs false
set_option maxHeartbeats 4000000
set_option maxRecDepth 10000

theorem r_Great (a : Option Addr) (c : Nat) (xs : List Axis) (pe mo : Int) (b : Option Addr) (d : Nat) (ys : List Span) (cr : Int) (w : World) (h1 : c ≤ maxLen) (h2 : d ≤ maxLen) (h3 : xs.length ≤ c) (h4 : ys.length ≤ d) :
    Calls Try.prog 17 #[.agg #[.slice a xs.length c, .int .i64 pe, .int .i64 mo, .slice b ys.length d, .int .i64 cr]] w fun e w' => e = .returned (.bool (decide (40 < xs.length) || decide (20 < ys.length))) ∧ Kept w w' := by
  unfold maxLen at h1 h2
  by_cases k1 : 40 < xs.length <;> by_cases k2 : 20 < ys.length
  all_goals
    go_enter Try.func17, Try.ntmps17
    go_wp2
    all_goals (go_ret; exact ⟨ret_bool (by first | (simp [k1, k2]; done) | (simp [k1, k2]; omega)), by (repeat (first | with_reducible exact Below.refl _ _ | with_reducible assumption | with_reducible refine Kept.drop ?_ (by with_reducible assumption) | with_reducible refine Kept.alloc ?_ _ | ((with_reducible refine Below.setCell ?_ ?_ _); rotate_left 1; (focus (first | exact Nat.le_refl _ | (simp; done) | (simp; omega) | exact Below.size (by with_reducible assumption) | (refine Kept.size ?_; (repeat (first | with_reducible exact Below.refl _ _ | with_reducible assumption | with_reducible refine Kept.drop ?_ (by with_reducible assumption) | with_reducible refine Kept.alloc ?_ _ | with_reducible refine Below.drew ?_)))))) | with_reducible refine Below.drew ?_))⟩)

theorem r_SameInts (a b : Option Addr) (c d : Nat) (xs : List Int) (w : World) (hx : Row icell 1 w.heap.size w a xs) (hy : Row icell 1 w.heap.size w b xs) (hc : xs.length ≤ c) (hd : xs.length ≤ d) (hM : c ≤ maxLen) (hN : d ≤ maxLen) :
    Calls Try.prog 22 #[.slice a xs.length c, .slice b xs.length d] w fun e w' => e = .returned (.bool true) ∧ Kept w w' := by
  unfold maxLen at hM hN
  go_enter Try.func22, Try.ntmps22
  go_wp2
  go_loopw [5] (fun i wr => ∃ k : Nat, k ≤ xs.length ∧ i = .int .i64 k ∧ Kept w wr) (fun i _ => xs.length - (intOf i).toNat)
  case atStart => exact ⟨0, Nat.zero_le _, rfl, Below.refl _ _⟩
  case round =>
    obtain ⟨k, hk, rfl, hkk⟩ := hrel
    by_cases hlt : k < xs.length
    · obtain ⟨b1, o1, rfl, hb1, h0⟩ := int_row (hx.later hkk (Nat.le_refl _)) k hlt
      obtain ⟨b2, o2, rfl, hb2, j0⟩ := int_row (hy.later hkk (Nat.le_refl _)) k hlt
      obtain ⟨x, hx0⟩ : ∃ x, x = xs[k] := ⟨_, rfl⟩
      rw [← hx0] at h0 j0
      clear hx0
      have x0 := fun g : Later wr => g.some h0
      have x1 := fun g : Later wr => g.some j0
      go_upto_region 6 with fail
      refine Later.region (by kernel_rfl) (by kernel_rfl) ?_
      repeat (first | go_big_quiet_skip | (go_big_quiet_want; go_big_quiet_op; first | go_big_quiet_on | (apply Exists.intro; refine ⟨fun g => ?_, ?_⟩; (focus (first | fail)); go_big_quiet_on)))
      refine wpQuiet_nil ?_
      intro gg
      have hkgg := Kept.drop hkk gg.ok
      go_wp2
      go_roundw
      case rel => exact ⟨k + 1, by omega, by go_num, hkgg⟩
      case measure => simp [intOf]; omega
    · obtain rfl : k = xs.length := by omega
      go_wp2
      go_ret
      exact ⟨rfl, hkk⟩

theorem owns_none {w : World} {base k n m c : Nat} {e : TypeId} {a : Option Addr} {xs : List Value} (h : w.ownsRow base e k (.slice a n c) m xs) : a = none → c = 0 := by
  rintro rfl
  obtain ⟨_, ⟨hv, _⟩ | ⟨g, cap, cur, hv, _⟩⟩ := h
  · cases hv; rfl
  · cases hv
/-- THE COPY OF A LIST, as one step of a region that draws -/
theorem step_copy {α : Type} {enc : α → List Value} {P : Program} {ops : Array Oper} {w0 w : World} {o : Oper} {a : Act} {K : Act → World → Prop} {Q : Exit → Act → World → Prop} {E : Prop} (hg : o.guard = none) (s x : Operand) (t : TypeId)
    (ho : o.op = .call { callee := .builtin .append, args := #[s, x], argTypes := #[t, t] })
    (e : TypeId) (z : Value) (size bytes : Nat) (ht : P.underlying t = some (.slice e)) (hinfo : (P.info? e).map (fun i => (i.zero, i.size, i.bytes)) = some (some z, size, bytes))
    (hzs : z.cells.size = size) (hsz : 0 < size) (he : ∀ x : α, (enc x).length = size) (h1 : ∀ (x : α), ∀ u ∈ enc x, u.oneCell' = true)
    (v : Value) (hs : a.eval s = v) (hown : w.ownsRow w0.heap.size e size v ([] : List α).length (([] : List α).flatMap enc))
    (ad : Option Addr) (c : Nat) (ys : List α) (hx : a.eval x = .slice ad ys.length c) (hc : ad = none → c = 0) (hrow : Row enc size w0.heap.size w0 ad ys) (hk : Kept w0 w)
    (h63 : ys.length ≤ 1000000) (hbytes : bytes ≤ 100000)
    (h : ∀ ad' cp w', w'.ownsRow w0.heap.size e size (.slice ad' ys.length cp) ys.length (ys.flatMap enc) → (∀ b arr t', t' ≠ e → Blk w b arr t' → Blk w' b arr t') → (∀ base e' k v' n zs, e' ≠ e → w.ownsRow base e' k v' n zs → w'.ownsRow base e' k v' n zs) → Kept w0 w' → K (a.put o.dst (.slice ad' ys.length cp)) w') :
    if Region.wanted o (yielded ops a.tmps) = true then Oper.wp P o a w K Q else E := by
  have hw : Region.wanted o (yielded ops a.tmps) = true := by simp [Region.wanted, hg]
  rw [if_pos hw]
  obtain ⟨i, hi, hz, hsize, hby⟩ := info_parts hinfo
  have hm : ys.length * bytes ≤ 1000000 * 100000 := Nat.mul_le_mul h63 hbytes
  have key : ∀ v' w', w'.ownsRow w0.heap.size e size v' ys.length (ys.flatMap enc) → w.grownBy w' v.ownBlock → K (a.put o.dst v') w' := by
    intro v' w' hown' hgrow
    obtain ⟨ad', cp', rfl, _⟩ := Row.of_owns he hown'
    have hB : ∀ b arr t', t' ≠ e → Blk w b arr t' → Blk w' b arr t' := fun b arr t' hne hb => Blk.grown hb hown hne hgrow
    refine h ad' cp' w' hown' hB (fun base e' k v2 n zs hne h2 => ?_) (Kept.grown hk hown (Nat.le_refl _) hgrow)
    obtain ⟨q1, q2 | ⟨g, cap, cur, hv, hgb, hh, r⟩⟩ := h2
    · exact ⟨q1, .inl q2⟩
    · exact ⟨q1, .inr ⟨g, cap, cur, hv, hgb, hB g cur e' hne hh, r⟩⟩
  cases ad with
  | none =>
    have hys : ys = [] := by
      cases ys with
      | nil => rfl
      | cons y ys => obtain ⟨b, off, ha, _⟩ := hrow 0 y rfl; cases ha
    subst hys
    have := hc rfl
    subst this
    have hrun := run_append_owned_none (P := P) (w := w) w0.heap.size t o.type e i size ht hi v ([] : List α).length _ hown
    have hK := key v w hown ⟨rfl, rfl, rfl, Nat.le_refl _, fun _ _ _ => rfl⟩
    unfold Oper.wp
    simp only [List.length_nil] at hx
    simp [execOp, ho, resolve, invoke, builtin, hs, hx, hrun, Result.andThen]
    exact hK
  | some ad =>
    refine wp_append_own (w := w) s x t ho w0.heap.size e i z size bytes ht hi hz hsize hby hzs hsz v ([] : List α).length _ hs hown ad ys.length c (ys.flatMap enc) hx (flatMap_len he ys) ((hrow.keep hk (Nat.le_refl _)).news hsz he) ?_ (by simp [maxLen]; omega) (by simp; omega) hk.size ?_
    · intro u hu
      obtain ⟨y, _, hy⟩ := List.mem_flatMap.1 hu
      exact h1 y u hy
    · intro v' w' ho' hg' _
      exact key v' w' (by simpa using ho') hg'
theorem infoA : (Try.prog.info? 27).map (fun i => (i.zero, i.size, i.bytes)) = some (some (.agg #[.int .i64 0, .int .i64 0]), 2, 16) := by kernel_rfl
theorem infoS : (Try.prog.info? 23).map (fun i => (i.zero, i.size, i.bytes)) = some (some (.agg #[.int .i64 0, .int .i64 0]), 2, 16) := by kernel_rfl
theorem owns_made {α : Type} {enc : α → List Value} {base k n : Nat} {e : TypeId} {w : World} (hn : n = w.heap.size) (hb : base ≤ w.heap.size) : (w.alloc (.cells #[] e)).ownsRow base e k (.slice (some ⟨n, 0, none⟩) 0 0) ([] : List α).length (([] : List α).flatMap enc) := by
  subst hn
  refine ⟨by simp, .inr ⟨w.heap.size, 0, #[], rfl, hb, Blk.new, Nat.le_refl _, by simp [maxLen], by simp, by simp⟩⟩

end Go.Proofs.Ytacbkbilbmkjnaa
