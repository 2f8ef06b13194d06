/-
  TrimDropped, the statement: for every input the call returns true and leaves the input alone.
-/
import Derived.Test.YtlloijkmpmfapaaTrimBaseM
import Derived.WalkSmall
import Derived.Laws.EntriesVeiled
import Derived.Deep.DeepCutAuto
import Derived.Test.YtlloijkmpmfapaaRows
set_option linter.unusedVariables false
set_option linter.unusedSimpArgs false
namespace Bal
open Go Go.RowKit
/-- two lists are equal as far as they were compared -/
theorem eq_take_succ {α : Type} {xs ys : List α} {k : Nat} (h1 : k < xs.length) (h2 : k < ys.length) (h : xs.take k = ys.take k) (he : xs[k] = ys[k]) : xs.take (k + 1) = ys.take (k + 1) := by
  rw [List.take_succ_eq_append_getElem h1, List.take_succ_eq_append_getElem h2, h, he]
end Bal

namespace Bal.Trim
theorem earlier_trans : ∀ (a b c : List Nat), a.length = b.length → b.length = c.length → earlier a b = true → earlier b c = true → earlier a c = true
  | [], _, _, _, _, h, _ => by simp [earlier] at h
  | a :: us, [], _, hl, _, _, _ => by simp at hl
  | a :: us, b :: bs, [], _, hl, _, _ => by simp at hl
  | a :: us, b :: bs, c :: cs, h1, h2, h3, h4 => by
    simp only [earlier] at h3 h4 ⊢
    simp only [List.length_cons, Nat.add_right_cancel_iff] at h1 h2
    by_cases hab : a = b
    · subst hab
      by_cases hac : a = c
      · subst hac
        simp only [if_true] at h3 h4 ⊢
        exact earlier_trans us bs cs h1 h2 h3 h4
      · simp only [hac, if_false] at h4 ⊢
        exact h4
    · simp only [hab, if_false, decide_eq_true_eq] at h3
      by_cases hbc : b = c
      · subst hbc
        simp only [hab, if_false, decide_eq_true_eq]
        exact h3
      · simp only [hbc, if_false, decide_eq_true_eq] at h4
        have hac : a ≠ c := by omega
        simp only [hac, if_false, decide_eq_true_eq]
        omega
theorem before_trans (a b c : List Nat) (h1 : before a b = true) (h2 : before b c = true) : before a c = true := by
  simp only [before, Bool.or_eq_true, Bool.and_eq_true, decide_eq_true_eq] at h1 h2 ⊢
  rcases h1 with h1 | ⟨h1, h1'⟩
  · rcases h2 with h2 | ⟨h2, _⟩
    · left; omega
    · left; omega
  · rcases h2 with h2 | ⟨h2, h2'⟩
    · left; omega
    · right; exact ⟨by omega, earlier_trans a b c h1 h2 h1' h2'⟩
theorem before_irr (a : List Nat) : before a a = false := by simp [before, earlier_irr]
/-! ### The sets in order, and as a number's bits tell them -/
/-! ### One list behind the other, as the program makes them -/
end Bal.Trim

/-
  The fewest bags: what the outright statement asks of what Drop tells. Plain Lean.
-/
namespace Bal.Trim
theorem bothLeft {xs : List Load} {bs : List Put} {ms : List Limit} {x : List Nat} (h1 : checkLimits ms = 0) (h2 : ∀ y ∈ xs, loadB y = true) (h3 : ∀ p ∈ bs, bagB p = true) (h4 : xs.length + bs.length ≤ 40) : both (left xs bs x) ms = 0 := by
  unfold both
  rw [if_pos, h1]
  refine checkList_ok ?_ ?_
  · have := stay_len bs (fun i => decide (i ∈ x)) bs.length
    unfold left
    rw [List.length_append]
    omega
  · rw [List.all_eq_true]
    intro y hy
    rcases List.mem_append.1 hy with hy | hy
    · exact h2 y hy
    · exact stay_B h3 _ y hy
/-- the numbers below n whose bits are set -/
def bitsTo (m n : Nat) : List Nat := (List.range n).filter fun i => m.testBit i
theorem bitsTo_succ (m n : Nat) : bitsTo m (n + 1) = bitsTo m n ++ (if m.testBit n then [n] else []) := by
  unfold bitsTo
  rw [List.range_succ, List.filter_append]
  congr 1
  by_cases h : m.testBit n = true
  · simp [h]
  · simp [h]
theorem incr_filter (n : Nat) (p : Nat → Bool) : ∀ (k lo : Nat), lo + k = n → incr n lo ((List.range' lo k).filter p)
  | 0, lo, _ => trivial
  | k + 1, lo, h => by
    have ih := incr_filter n p k (lo + 1) (by omega)
    rw [List.range'_succ, List.filter_cons]
    split
    · exact ⟨Nat.le_refl _, by omega, ih⟩
    · cases hx : (List.range' (lo + 1) k).filter p with
      | nil => trivial
      | cons a r => rw [hx] at ih; exact ⟨by have := ih.1; omega, ih.2.1, ih.2.2⟩
theorem incr_bits (m n : Nat) : incr n 0 (bitsTo m n) := by
  unfold bitsTo
  rw [List.range_eq_range']
  exact incr_filter n _ n 0 (by omega)
theorem drop_never {xs : List Load} {bs : List Put} {ms : List Limit} (h : dropS xs bs ms = none) {y : List Nat} (hy : incr bs.length 0 y) : okSet xs bs ms y = false := by
  have := List.find?_eq_none.1 h y ((mem_order y).2 hy)
  simpa using this
theorem drop_first {xs : List Load} {bs : List Put} {ms : List Limit} {d : List Nat} (h : dropS xs bs ms = some d) : incr bs.length 0 d ∧ okSet xs bs ms d = true ∧ ∀ y, incr bs.length 0 y → before y d = true → okSet xs bs ms y = false := by
  have h1 := List.mem_of_find?_eq_some h
  have h2 := List.find?_some h
  refine ⟨(mem_order d).1 h1, h2, fun y hy hb => ?_⟩
  have hm := (mem_order y).2 hy
  have hp := order_sorted bs.length
  obtain ⟨_, us, vs, e, hno⟩ := List.find?_eq_some_iff_append.1 h
  rw [e] at hm hp
  rcases List.mem_append.1 hm with hm | hm
  · simpa using hno y hm
  · exfalso
    rcases List.mem_cons.1 hm with rfl | hm
    · rw [before_irr] at hb; cases hb
    · rw [List.pairwise_append] at hp
      have := (List.pairwise_cons.1 hp.2.1).1 y hm
      have := before_trans y d y hb this
      rw [before_irr] at this
      cases this
/-- without limits nothing has to be dropped -/
theorem drop_free {xs : List Load} {bs : List Put} {d : List Nat} (h : dropS xs bs [] = some d) : d = [] := by
  have hk : okSet xs bs [] [] = true := rfl
  unfold dropS order at h
  rw [List.range_succ_eq_map, List.flatMap_cons, List.find?_append] at h
  simp only [combs, List.find?_cons, hk, Option.some_or] at h
  exact (Option.some.inj h).symm
theorem incr_at {n : Nat} : ∀ (lo : Nat) (x : List Nat), incr n lo x → ∀ (k : Nat) (hk : k < x.length), x[k] < n ∧ lo ≤ x[k]
  | _, [], _, k, hk => by simp at hk
  | lo, a :: us, ⟨h1, h2, _⟩, 0, _ => ⟨h2, h1⟩
  | lo, a :: us, ⟨h1, h2, h3⟩, k + 1, hk => by
    have := incr_at (a + 1) us h3 k (by simpa using hk)
    simp only [List.getElem_cons_succ]
    omega
theorem incr_up {n : Nat} : ∀ (lo : Nat) (x : List Nat), incr n lo x → ∀ (k : Nat) (hk : k + 1 < x.length), x[k] < x[k + 1]
  | _, [], _, k, hk => by simp at hk
  | lo, a :: us, ⟨h1, h2, h3⟩, 0, hk => by
    have := incr_at (a + 1) us h3 0 (by simpa using hk)
    simp only [List.getElem_cons_zero, List.getElem_cons_succ]
    omega
  | lo, a :: us, ⟨h1, h2, h3⟩, k + 1, hk => by
    simp only [List.getElem_cons_succ]
    exact incr_up (a + 1) us h3 k (by simpa using hk)
theorem earlier_diff : ∀ (x y : List Nat) (k : Nat) (hx : k < x.length) (hy : k < y.length), x.take k = y.take k → x[k] ≠ y[k] → earlier x y = decide (x[k] < y[k])
  | [], _, k, hx, _, _, _ => by simp at hx
  | a :: us, [], k, _, hy, _, _ => by simp at hy
  | a :: us, b :: vs, 0, _, _, _, hne => by
    simp only [List.getElem_cons_zero] at hne ⊢
    simp only [earlier, hne, if_false]
  | a :: us, b :: vs, k + 1, hx, hy, ht, hne => by
    simp only [List.take_succ_cons, List.cons.injEq] at ht
    simp only [List.getElem_cons_succ] at hne ⊢
    simp only [earlier, ht.1, if_true]
    exact earlier_diff us vs k (by simpa using hx) (by simpa using hy) ht.2 hne
theorem before_less {x y : List Nat} (h : x.length < y.length) : before x y = true := by simp [before, h]
theorem before_more {x y : List Nat} (h : y.length < x.length) : before x y = false := by
  unfold before
  rw [decide_eq_false (by omega), decide_eq_false (by omega)]
  rfl
theorem before_same {x y : List Nat} (h : x.length = y.length) : before x y = earlier x y := by
  unfold before
  rw [decide_eq_false (by omega), decide_eq_true h]
  simp
theorem drop_cases {xs : List Load} {bs : List Put} {ms : List Limit} (h1 : both xs ms = 0) (h2 : many xs bs = false) : (bs.all bagB = false ∧ dropE xs bs ms = 40 ∧ dropL xs bs ms = []) ∨
    (bs.all bagB = true ∧ dropS xs bs ms = none ∧ dropE xs bs ms = 6 ∧ dropL xs bs ms = []) ∨ (bs.all bagB = true ∧ ∃ d, dropS xs bs ms = some d ∧ dropE xs bs ms = 0 ∧ dropL xs bs ms = d.map Int.ofNat) := by
  cases hb : bs.all bagB
  · left
    have h : dropE xs bs ms = 40 := by unfold dropE; rw [if_pos h1, h2, hb]; rfl
    exact ⟨rfl, h, by unfold dropL; rw [h]; rfl⟩
  · cases hd : dropS xs bs ms with
    | none =>
      have h : dropE xs bs ms = 6 := by unfold dropE; rw [if_pos h1, h2, hb, hd]; rfl
      exact .inr (.inl ⟨rfl, rfl, h, by unfold dropL; rw [h]; rfl⟩)
    | some d =>
      have h : dropE xs bs ms = 0 := by unfold dropE; rw [if_pos h1, h2, hb, hd]; rfl
      exact .inr (.inr ⟨rfl, d, rfl, h, by unfold dropL; rw [h, hd]; rfl⟩)
end Bal.Trim

/-
  TrimDropped: the fewest bags: for every input.
-/
namespace Go.Proofs.Ytlloijkmpmfapaa
open Go.RowKit Bal Bal.Trim
set_option linter.unusedVariables false
set_option linter.unusedSimpArgs false
set_option maxHeartbeats 4000000
set_option maxRecDepth 10000

/-- whether a choice of bags leaves the ship in trim: the closure -/
theorem o_free (a0 : Option Addr) (c0 : Nat) (xs : List Load) (a1 : Option Addr) (c1 : Nat) (bs : List Put) (a2 : Option Addr) (c2 : Nat) (ms : List Limit) (n1 n2 n3 : Nat) (w : World) (h0 : Row Load.cells 4 w.heap.size w a0 xs) (hl0 : xs.length ≤ c0) (hm0 : c0 ≤ maxLen) (hz : a0 = none → c0 = 0) (h1 : Row Put.cells 2 w.heap.size w a1 bs) (hl1 : bs.length ≤ c1) (hm1 : c1 ≤ maxLen) (h2 : Row Limit.cells 3 w.heap.size w a2 ms) (hl2 : ms.length ≤ c2) (hm2 : c2 ≤ maxLen) (b1 : Blk w n1 #[.slice a0 xs.length c0] 22) (b2 : Blk w n2 #[.slice a1 bs.length c1] 34) (b3 : Blk w n3 #[.slice a2 ms.length c2] 23)
    (hx : ∀ y ∈ xs, loadB y = true) (hcm : checkLimits ms = 0) (hb : ∀ p ∈ bs, bagB p = true) (h40 : xs.length + bs.length ≤ 40) (a : Option Addr) (cap : Nat) (x : List Nat) (len : Nat) (hlen : x.length = len) (hr : Row icell 1 w.heap.size w a (ints x)) (hc : len ≤ cap) (hM : cap ≤ maxLen) (V : Bool) (hV : okSet xs bs ms x = V) :
    Calls Try.prog 50 #[.slice a len cap, .pointer (some ⟨n1, 0, none⟩), .pointer (some ⟨n2, 0, none⟩), .pointer (some ⟨n3, 0, none⟩)] w fun e w' => e = .returned (.bool V) ∧ Kept w w' := by
  subst hlen
  have hm0' := hm0
  have hm1' := hm1
  have hM' := hM
  unfold maxLen at hm0' hm1' hM'
  have HBO := Lib.hid (bothLeft (x := x) hcm hx hb h40)
  have HV := Lib.hid hV
  have hsl := fun k => stay_len bs (fun i => decide (i ∈ x)) k
  clear hV hx hcm hb
  go_enter Try.func50, Try.ntmps50
  go_upto_region 1 with fail
  refine at_world (S := fun W => Kept w W) (by (exact kpt)) ?_
  rintro WB hkB
  have hzB := hkB.size
  have b1c := (b1.keep hkB).cell 0; have b1f := (b1.keep hkB).free 0; have b1l := (b1.keep hkB).lt
  have b2c := (b2.keep hkB).cell 0; have b2f := (b2.keep hkB).free 0; have b2l := (b2.keep hkB).lt
  have b3c := (b3.keep hkB).cell 0; have b3f := (b3.keep hkB).free 0; have b3l := (b3.keep hkB).lt
  simp at b1c b2c b3c
  have HOM := Lib.hid (owns_made (α := Load) (enc := Load.cells) (base := WB.heap.size) (k := 4) (n := WB.heap.size) (e := 88) (w := WB) rfl (Nat.le_refl _))
  go_wp2_with (at_builtin; obtain ⟨i0, hi, hz0, hz1, hz2⟩ := info_parts infoLoad; refine wpList_append_list (enc := Load.cells) rfl _ _ 22 rfl WB.heap.size 88 i0 (.agg #[.int .i64 0, .int .i64 0, .int .i64 0, .int .i64 0]) 4 32 Try.underlying22 hi hz0 hz1 hz2 rfl (by decide) (fun _ => rfl) (fun x u hu => by simp [Load.cells] at hu; rcases hu with rfl | rfl | rfl | rfl <;> rfl) _ [] rfl HOM.out a0 c0 xs rfl hz (B := w.heap.size) (h0.keep (by (exact kpt)) (Nat.le_refl _)) (by simp [maxLen]; omega) (by simp; omega) (by simp) ?_; intro v9 w9 hown9 hgrow9; clear hi hz0 hz1 hz2; have hk9 : Kept WB w9 := Kept.grown (Kept.alloc (Below.refl _ _) _) HOM.out (Nat.le_refl _) hgrow9; have hk90 := Kept.drop hkB hk9; have b1c := (b1.keep hk90).cell 0; have b1f := (b1.keep hk90).free 0; have b1l := (b1.keep hk90).lt; have b2c := (b2.keep hk90).cell 0; have b2f := (b2.keep hk90).free 0; have b2l := (b2.keep hk90).lt; have b3c := (b3.keep hk90).cell 0; have b3f := (b3.keep hk90).free 0; have b3l := (b3.keep hk90).lt; simp at b1c b2c b3c)
  rw [List.nil_append] at hown9
  clear hgrow9
  go_loopw [6, 19] (fun s6 i wr => ∃ j : Nat, j ≤ bs.length ∧ i = .int .i64 j ∧ wr.ownsRow WB.heap.size 88 4 s6 (xs ++ stay bs (fun i => decide (i ∈ x)) j).length ((xs ++ stay bs (fun i => decide (i ∈ x)) j).flatMap Load.cells) ∧ Kept WB wr) (fun _ i _ => bs.length - (intOf i).toNat)
  case atStart => exact ⟨0, Nat.zero_le _, rfl, by simpa [stay] using hown9, hk9⟩
  case round =>
    clear hown9 hk9 b1c b1f b1l b2c b2f b2l b3c b3f b3l hk90
    obtain ⟨j, hj, rfl, hown, hkq⟩ := hrel
    have hkw := Kept.drop hkB hkq
    have hlen : (xs ++ stay bs (fun i => decide (i ∈ x)) j).length ≤ 40 := by have := hsl j; rw [List.length_append]; omega
    by_cases hlt : j < bs.length
    · obtain ⟨bp, op, rfl, hbp, g0, g1⟩ := Put.row (h1.later hkw (Nat.le_refl _)) j hlt
      have HSD := Lib.hid (fun h => stay_drop (bs := bs) (f := fun i => decide (i ∈ x)) (k := j) h)
      have HSK := Lib.hid (fun h => stay_keep (bs := bs) (f := fun i => decide (i ∈ x)) hlt h)
      obtain ⟨y, hy0⟩ : ∃ y, y = bs[j] := ⟨_, rfl⟩
      rw [← hy0] at HSK g0 g1
      clear hy0
      have j0 : (0 : Int) ≤ (j : Int) := by omega
      have j1 : (j : Int) < (bs.length : Int) := by omega
      go_upto_region 5 with fail
      refine at_world (S := fun V => Blk V wr.heap.size #[.int .i64 y.pos, .int .i64 y.wt] 85 ∧ V.ownsRow WB.heap.size 88 4 u6 (xs ++ stay bs (fun i => decide (i ∈ x)) j).length ((xs ++ stay bs (fun i => decide (i ∈ x)) j).flatMap Load.cells) ∧ Kept WB V) ⟨by (exact blk), owns_keep hown (by (exact kpt)), by (exact kpt)⟩ ?_
      obtain ⟨ny, hny⟩ : ∃ n, n = wr.heap.size := ⟨_, rfl⟩
      rw [← hny]
      clear hny hown hkq hkw g0 g1
      rintro V1 ⟨ry, hown, hkq⟩
      go_wp2
      go_loopw [9, 26] (fun s9 i wq => ∃ q : Nat, q ≤ x.length ∧ i = .int .i64 q ∧ s9 = .bool ((x.take q).any (fun t => t == j)) ∧ Blk wq ny #[.int .i64 y.pos, .int .i64 y.wt] 85 ∧ wq.ownsRow WB.heap.size 88 4 u6 (xs ++ stay bs (fun i => decide (i ∈ x)) j).length ((xs ++ stay bs (fun i => decide (i ∈ x)) j).flatMap Load.cells) ∧ Kept WB wq) (fun _ i _ => x.length - (intOf i).toNat)
      case atStart => exact ⟨0, Nat.zero_le _, rfl, rfl, ry, hown, hkq⟩
      case round =>
        clear ry hown hkq
        obtain ⟨q, hq, rfl, rfl, ry, hown, hkq⟩ := hrel
        have hkw := Kept.drop hkB hkq
        by_cases hlt2 : q < x.length
        · obtain ⟨bt, ot, rfl, hbt, gx⟩ := int_row (hr.later hkw (Nat.le_refl _)) q (by rw [ints_len]; exact hlt2)
          have gx2 : wr.cell? ⟨bt, ot + q, none⟩ = some (.int .i64 (x[q] : Int)) := by simpa [ints] using gx
          have HAN := Lib.hid (show (x.take (q + 1)).any (fun t => t == j) = ((x.take q).any (fun t => t == j) || (x[q] == j)) by rw [List.take_succ_eq_append_getElem hlt2, List.any_append]; simp)
          obtain ⟨X, hX⟩ : ∃ X, X = x[q] := ⟨_, rfl⟩
          rw [← hX] at HAN gx2
          obtain ⟨G, hG⟩ : ∃ G, G = (x.take q).any (fun t => t == j) := ⟨_, rfl⟩
          rw [← hG] at HAN ⊢
          clear gx hX hG
          have q0 : (0 : Int) ≤ (q : Int) := by omega
          have q1 : (q : Int) < (x.length : Int) := by omega
          cases G with
          | true =>
            have HF := Lib.hid (show (x.take (q + 1)).any (fun t => t == j) = true by rw [HAN.out]; rfl)
            clear HAN
            go_wp2
            go_roundw
            case rel => exact ⟨q + 1, by omega, by go_num, by rw [HF.out], ry, hown, hkq⟩
            case measure => simp [intOf]; omega
          | false =>
            by_cases hXj : X = j
            · subst hXj
              have HF := Lib.hid (show (x.take (q + 1)).any (fun t => t == X) = true by rw [HAN.out]; simp)
              clear HAN
              go_wp2
              go_roundw
              case rel => exact ⟨q + 1, by omega, by go_num, by first | (rw [HF.out]; done) | (rw [HF.out]; simp), ry, hown, hkq⟩
              case measure => simp [intOf]; omega
            · have HF := Lib.hid (show (x.take (q + 1)).any (fun t => t == j) = false by rw [HAN.out]; simp [hXj])
              have hXj2 : ¬ ((X : Int) = (j : Int)) := by omega
              clear HAN
              go_wp2
              go_roundw
              case rel => exact ⟨q + 1, by omega, by go_num, by first | (rw [HF.out]; done) | (rw [HF.out]; simp [hXj2]; done) | (rw [HF.out]; simpa using hXj2), ry, hown, hkq⟩
              case measure => simp [intOf]; omega
        · obtain rfl : x.length = q := by omega
          rw [List.take_length]
          have hany : x.any (fun t => t == j) = decide (j ∈ x) := by
            rw [Bool.eq_iff_iff, List.any_eq_true, decide_eq_true_eq]
            exact ⟨fun ⟨t, ht, e⟩ => (show t = j by simpa using e) ▸ ht, fun h => ⟨j, h, by simp⟩⟩
          rw [hany]
          by_cases hmem : j ∈ x
          · have HD := Lib.hid (HSD.out (decide_eq_true hmem))
            rw [decide_eq_true hmem]
            clear HSD HSK hany hmem
            go_wp2
            go_roundw
            case rel => exact ⟨j + 1, by omega, by go_num, by rw [HD.out]; exact hown, hkq⟩
            case measure => simp [intOf]; omega
          · have HD := Lib.hid (HSK.out (decide_eq_false hmem))
            rw [decide_eq_false hmem]
            clear HSD HSK hany hmem
            have hzq := hkq.size
            have ryc0 := fun g : Later wr => (ry.later g).cell 0
            have ryf0 := fun g : Later wr => (ry.later g).free 0
            have ryc1 := fun g : Later wr => (ry.later g).cell 1
            have ryf1 := fun g : Later wr => (ry.later g).free 1
            have ryl := fun g : Later wr => (ry.later g).lt
            simp at ryc0 ryc1
            go_upto_region 12 with fail
            refine later_mix [(true, 0), (false, 1), (false, 2), (false, 3), (false, 4), (false, 5), (false, 6), (false, 7)] 8 [9, 10] (by kernel_rfl) (by kernel_rfl) ?_
            simp only [List.filterMap_cons, List.filterMap_nil, List.getElem?_cons_zero, List.getElem?_cons_succ, Option.map_some]
            refine wpSteps_any _ rfl (fun w => rfl) ?_
            simp only [Act.put, List.setIfInBounds_toArray, List.set_cons_zero, List.set_cons_succ]
            repeat (refine wpSteps_quiet ?_; (first | go_big_quiet_skip | (go_big_quiet_want; go_big_quiet_op; first | go_big_quiet_on | (apply Exists.intro; refine ⟨fun g => ?_, ?_⟩; (focus (first | (go_at_call 51; with_reducible exact Later.call (o_one _ _)))); go_big_quiet_on))); refine wpQuiet_nil ?_)
            refine wpSteps_nil ?_
            intro gg
            have hown1 := owns_keep hown gg.ok
            refine wpList_plain rfl fun K1 hK1 => ?_
            go_simp
            refine hK1 _ _ ?_
            (obtain ⟨i0, hi, hz0, hz1, hz2⟩ := info_parts infoLoad; refine wpList_append_own _ rfl _ _ 22 rfl WB.heap.size 88 i0 (.agg #[.int .i64 0, .int .i64 0, .int .i64 0, .int .i64 0]) 4 32 Try.underlying22 hi hz0 hz1 hz2 rfl (by decide) _ _ _ rfl (hown1.alloc _) ⟨_, 0, none⟩ 1 1 [.int .i64 y.pos, .int .i64 y.pos, .int .i64 y.wt, .int .i64 y.wt] rfl rfl (cells_four _ _ _ _ _ _) (by intro x hx; simp only [List.mem_cons, List.not_mem_nil, or_false] at hx; rcases hx with rfl | rfl | rfl | rfl <;> rfl) (by unfold maxLen; omega) (by omega) (by have := gg.ok.size; simp only [World.size_alloc] at this ⊢; omega) ?_; intro v9 w9 hown9 hgrow9 hnil9; clear hi hz0 hz1 hz2)
            have hK9 : Kept WB w9 := Kept.grown (Kept.alloc (Kept.drop hkq gg.ok) _) (hown1.alloc _) (Nat.le_refl _) hgrow9
            go_wp2
            refine NoPanic.normal ?_
            go_wp2
            go_roundw
            case rel => exact ⟨j + 1, by omega, by go_num, by rw [HD.out, ← List.append_assoc, List.flatMap_append, List.length_append]; exact hown9, hK9⟩
            case measure => simp [intOf]; omega
    · obtain rfl : bs.length = j := by omega
      obtain ⟨Lx, hLx⟩ : ∃ Lx, Lx = left xs bs x := ⟨_, rfl⟩
      rw [show xs ++ stay bs (fun i => decide (i ∈ x)) bs.length = left xs bs x from rfl, ← hLx] at hown
      obtain ⟨ad, cpp, rfl, hrow, hcp, hcm⟩ := owns_row (enc := Load.cells) (k := 4) (fun _ => rfl) hown
      have hbo := HBO.out
      rw [← hLx] at hbo
      have hok : okSet xs bs ms x = (broken Lx ms).isNone := by unfold okSet; rw [← hLx]
      rw [HV.out] at hok
      obtain ⟨N, hN⟩ : ∃ N, breachN Lx ms = N := ⟨_, rfl⟩
      obtain ⟨P, hP⟩ : ∃ P, breachP Lx ms = P := ⟨_, rfl⟩
      obtain ⟨n, hn⟩ : ∃ n, P.length = n := ⟨_, rfl⟩
      have HN := Lib.hid hN
      have HP := Lib.hid hP
      have HPL := Lib.hid hn
      cases hbk : broken Lx ms with
      | none =>
        rw [hbk] at hok
        obtain rfl : V = true := hok
        have HE := Lib.hid (show breachE Lx ms = 6 by unfold breachE; rw [if_pos hbo, hbk])
        clear hN hP hn hbk hbo hLx hown
        have b1c := (b1.keep hkw).cell 0; have b1f := (b1.keep hkw).free 0; have b1l := (b1.keep hkw).lt
        have b2c := (b2.keep hkw).cell 0; have b2f := (b2.keep hkw).free 0; have b2l := (b2.keep hkw).lt
        have b3c := (b3.keep hkw).cell 0; have b3f := (b3.keep hkw).free 0; have b3l := (b3.keep hkw).lt
        simp at b1c b2c b3c
        go_wp2_with (go_at_call 25; (with_reducible refine (o_breach ad cpp Lx _ (hrow.later (by (exact kpt)) (Nat.le_refl _)) hcp hcm a2 c2 ms (h2.later (by (exact kpt)) (Nat.le_refl _)) hl2 hm2 n N _ P HN.out HE.out HP.out HPL.out).mono ?_); rintro e w7 ⟨aB, cB, rfl, hB, hB1, hB2, hb7⟩)
        go_ret; exact ⟨rfl, by (exact kpt)⟩
      | some k =>
        rw [hbk] at hok
        obtain rfl : V = false := hok
        have HE := Lib.hid (show breachE Lx ms = 0 by unfold breachE; rw [if_pos hbo, hbk])
        clear hN hP hn hbk hbo hLx hown
        have b1c := (b1.keep hkw).cell 0; have b1f := (b1.keep hkw).free 0; have b1l := (b1.keep hkw).lt
        have b2c := (b2.keep hkw).cell 0; have b2f := (b2.keep hkw).free 0; have b2l := (b2.keep hkw).lt
        have b3c := (b3.keep hkw).cell 0; have b3f := (b3.keep hkw).free 0; have b3l := (b3.keep hkw).lt
        simp at b1c b2c b3c
        go_wp2_with (go_at_call 25; (with_reducible refine (o_breach ad cpp Lx _ (hrow.later (by (exact kpt)) (Nat.le_refl _)) hcp hcm a2 c2 ms (h2.later (by (exact kpt)) (Nat.le_refl _)) hl2 hm2 n N _ P HN.out HE.out HP.out HPL.out).mono ?_); rintro e w7 ⟨aB, cB, rfl, hB, hB1, hB2, hb7⟩)
        go_ret; exact ⟨rfl, by (exact kpt)⟩

end Go.Proofs.Ytlloijkmpmfapaa

/-
  TrimDropped: the fewest bags: for every input.
-/
namespace Go.Proofs.Ytlloijkmpmfapaa
open Go.RowKit Bal Bal.Trim
set_option linter.unusedVariables false
set_option linter.unusedSimpArgs false
set_option maxHeartbeats 4000000
set_option maxRecDepth 10000

theorem o_drop (a0 : Option Addr) (c0 : Nat) (xs : List Load) (a1 : Option Addr) (c1 : Nat) (bs : List Put) (a2 : Option Addr) (c2 : Nat) (ms : List Limit) (w : World) (h0 : Row Load.cells 4 w.heap.size w a0 xs) (hl0 : xs.length ≤ c0) (hm0 : c0 ≤ maxLen) (hz : a0 = none → c0 = 0) (h1 : Row Put.cells 2 w.heap.size w a1 bs) (hl1 : bs.length ≤ c1) (hm1 : c1 ≤ maxLen) (h2 : Row Limit.cells 3 w.heap.size w a2 ms) (hl2 : ms.length ≤ c2) (hm2 : c2 ≤ maxLen) (n : Nat) (E : Int) (Lx : List Int) (e1 : dropE xs bs ms = E) (e2 : dropL xs bs ms = Lx) (e3 : Lx.length = n) :
    Calls Try.prog 42 #[.slice a0 xs.length c0, .slice a1 bs.length c1, .slice a2 ms.length c2] w fun e w' => ∃ a' c', e = .returned (.tuple #[.slice a' n c', .int .i64 E]) ∧ Row icell 1 w'.heap.size w' a' Lx ∧ n ≤ c' ∧ c' ≤ maxLen ∧ Kept w w' := by
  subst e1 e2 e3
  refine (f_Drop a0 c0 xs a1 c1 bs a2 c2 ms w h0 hl0 hm0 h1 hl1 hm1 h2 hl2 hm2 hz).mono ?_
  rintro e w' ⟨v, rfl, ho, hk⟩
  obtain ⟨a', c', rfl, hr, h1, h2⟩ := owns_row (enc := icell) (k := 1) (fun _ => rfl) ho
  exact ⟨a', c', rfl, hr, h1, h2, hk⟩
theorem bit16 (q : Nat) (hq : q < 65536) : bits BinOp.and IntKind.u16 (q : Int) 1 = ((q % 2 : Nat) : Int) := by
  have h1 : (BitVec.ofInt 16 (q : Int)).toNat = q := by
    rw [BitVec.ofInt_natCast, BitVec.toNat_ofNat]; exact Nat.mod_eq_of_lt (by omega)
  show IntKind.u16.wrap ((BitVec.ofInt 16 (q : Int) &&& BitVec.ofInt 16 1).toNat : Int) = _
  rw [BitVec.toNat_and, h1, show (BitVec.ofInt 16 1).toNat = 1 from rfl, Nat.and_one_is_mod]
  have := Nat.mod_lt q (show 0 < 2 by omega)
  rw [IntKind.wrap_u16]; omega

theorem law_TrimDropped (a0 : Option Addr) (c0 : Nat) (xs : List Load) (a1 : Option Addr) (c1 : Nat) (bs : List Put) (a2 : Option Addr) (c2 : Nat) (ms : List Limit) (m : Nat) (hm16 : m < 65536) (w : World) (h0 : Row Load.cells 4 w.heap.size w a0 xs) (hl0 : xs.length ≤ c0) (hm0 : c0 ≤ maxLen) (hz : a0 = none → c0 = 0) (h1 : Row Put.cells 2 w.heap.size w a1 bs) (hl1 : bs.length ≤ c1) (hm1 : c1 ≤ maxLen) (h2 : Row Limit.cells 3 w.heap.size w a2 ms) (hl2 : ms.length ≤ c2) (hm2 : c2 ≤ maxLen) :
    Calls Try.prog 9 #[.slice a0 xs.length c0, .slice a1 bs.length c1, .slice a2 ms.length c2, .int .u16 m] w fun e w' => e = .returned (.bool true) ∧ Kept w w' := by
  have hm0' := hm0
  have hm1' := hm1
  unfold maxLen at hm0' hm1'
  cases hv : validB xs ms
  · have HV := Lib.hid hv
    clear hv
    go_enter Try.func9, Try.ntmps9
    go_upto_region 4 with (go_at_call 48; (with_reducible refine (o_alive _).mono ?_); rintro e wA ⟨rfl, hbA⟩)
    refine at_world (S := fun W1 => Blk W1 w.heap.size #[.slice a0 xs.length c0] 22 ∧ Blk W1 (w.heap.size + 1) #[.slice a1 bs.length c1] 34 ∧ Blk W1 (w.heap.size + 1 + 1) #[.slice a2 ms.length c2] 23 ∧ Kept w W1) ⟨by (exact blk), by (exact blk), by (exact blk), by (exact kpt)⟩ ?_
    rintro W1 ⟨b1, b2, b3, hk⟩
    have b1c0 := b1.cell 0
    have b1f0 := b1.free 0
    have b1l := b1.lt
    simp at b1c0
    have b2c0 := b2.cell 0
    have b2f0 := b2.free 0
    have b2l := b2.lt
    simp at b2c0
    have b3c0 := b3.cell 0
    have b3f0 := b3.free 0
    have b3l := b3.lt
    simp at b3c0
    go_wp2_with (go_at_call 49; (with_reducible refine (o_validN a0 c0 xs _ (h0.later (by (exact kpt)) (Nat.le_refl _)) hl0 hm0 a2 c2 ms (h2.later (by (exact kpt)) (Nat.le_refl _)) hl2 hm2 false HV.out).mono ?_); rintro e wV ⟨rfl, hbV⟩; refine Blk.thru (b := w.heap.size) (arr := ?_) (t := ?_) ?_ hbV ?_; rotate_left 2; (focus (exact blk)); intro o1; have o1c0 := o1.cell 0; have o1f0 := o1.free 0; have o1l := o1.lt; simp at o1c0; refine Blk.thru (b := (w.heap.size + 1)) (arr := ?_) (t := ?_) ?_ hbV ?_; rotate_left 2; (focus (exact blk)); intro o2; have o2c0 := o2.cell 0; have o2f0 := o2.free 0; have o2l := o2.lt; simp at o2c0; refine Blk.thru (b := (w.heap.size + 1 + 1)) (arr := ?_) (t := ?_) ?_ hbV ?_; rotate_left 2; (focus (exact blk)); intro o3; have o3c0 := o3.cell 0; have o3f0 := o3.free 0; have o3l := o3.lt; simp at o3c0)
    go_ret; exact ⟨rfl, by (exact kpt)⟩
  · have HV := Lib.hid hv
    obtain ⟨v1, v2⟩ := validB_ok hv
    obtain ⟨hn, hx⟩ := checkLoads_ok v1
    have hbo := both_is v1 v2
    have HX := Lib.hid hx
    have HCM := Lib.hid v2
    clear hv hx v1 v2
    by_cases g1 : 10 < bs.length
    · clear hbo
      go_enter Try.func9, Try.ntmps9
      go_upto_region 4 with (go_at_call 48; (with_reducible refine (o_alive _).mono ?_); rintro e wA ⟨rfl, hbA⟩)
      refine at_world (S := fun W1 => Blk W1 w.heap.size #[.slice a0 xs.length c0] 22 ∧ Blk W1 (w.heap.size + 1) #[.slice a1 bs.length c1] 34 ∧ Blk W1 (w.heap.size + 1 + 1) #[.slice a2 ms.length c2] 23 ∧ Kept w W1) ⟨by (exact blk), by (exact blk), by (exact blk), by (exact kpt)⟩ ?_
      rintro W1 ⟨b1, b2, b3, hk⟩
      have b1c0 := b1.cell 0
      have b1f0 := b1.free 0
      have b1l := b1.lt
      simp at b1c0
      have b2c0 := b2.cell 0
      have b2f0 := b2.free 0
      have b2l := b2.lt
      simp at b2c0
      have b3c0 := b3.cell 0
      have b3f0 := b3.free 0
      have b3l := b3.lt
      simp at b3c0
      go_wp2_with (go_at_call 49; (with_reducible refine (o_validN a0 c0 xs _ (h0.later (by (exact kpt)) (Nat.le_refl _)) hl0 hm0 a2 c2 ms (h2.later (by (exact kpt)) (Nat.le_refl _)) hl2 hm2 true HV.out).mono ?_); rintro e wV ⟨rfl, hbV⟩; refine Blk.thru (b := w.heap.size) (arr := ?_) (t := ?_) ?_ hbV ?_; rotate_left 2; (focus (exact blk)); intro o1; have o1c0 := o1.cell 0; have o1f0 := o1.free 0; have o1l := o1.lt; simp at o1c0; refine Blk.thru (b := (w.heap.size + 1)) (arr := ?_) (t := ?_) ?_ hbV ?_; rotate_left 2; (focus (exact blk)); intro o2; have o2c0 := o2.cell 0; have o2f0 := o2.free 0; have o2l := o2.lt; simp at o2c0; refine Blk.thru (b := (w.heap.size + 1 + 1)) (arr := ?_) (t := ?_) ?_ hbV ?_; rotate_left 2; (focus (exact blk)); intro o3; have o3c0 := o3.cell 0; have o3f0 := o3.free 0; have o3l := o3.lt; simp at o3c0)
      go_ret; exact ⟨rfl, by (exact kpt)⟩
    have u1 : wrap64 ((xs.length : Int) + (bs.length : Int)) = (xs.length : Int) + (bs.length : Int) := by unfold wrap64; omega
    have u2 : IntKind.i64.wrap ((xs.length : Int) + (bs.length : Int)) = (xs.length : Int) + (bs.length : Int) := by rw [IntKind.wrap_i64]; omega
    by_cases g2 : 40 < xs.length + bs.length
    · have g3 : (40 : Int) < (xs.length : Int) + (bs.length : Int) := by omega
      clear hbo
      go_enter Try.func9, Try.ntmps9
      go_upto_region 4 with (go_at_call 48; (with_reducible refine (o_alive _).mono ?_); rintro e wA ⟨rfl, hbA⟩)
      refine at_world (S := fun W1 => Blk W1 w.heap.size #[.slice a0 xs.length c0] 22 ∧ Blk W1 (w.heap.size + 1) #[.slice a1 bs.length c1] 34 ∧ Blk W1 (w.heap.size + 1 + 1) #[.slice a2 ms.length c2] 23 ∧ Kept w W1) ⟨by (exact blk), by (exact blk), by (exact blk), by (exact kpt)⟩ ?_
      rintro W1 ⟨b1, b2, b3, hk⟩
      have b1c0 := b1.cell 0
      have b1f0 := b1.free 0
      have b1l := b1.lt
      simp at b1c0
      have b2c0 := b2.cell 0
      have b2f0 := b2.free 0
      have b2l := b2.lt
      simp at b2c0
      have b3c0 := b3.cell 0
      have b3f0 := b3.free 0
      have b3l := b3.lt
      simp at b3c0
      go_wp2_with (go_at_call 49; (with_reducible refine (o_validN a0 c0 xs _ (h0.later (by (exact kpt)) (Nat.le_refl _)) hl0 hm0 a2 c2 ms (h2.later (by (exact kpt)) (Nat.le_refl _)) hl2 hm2 true HV.out).mono ?_); rintro e wV ⟨rfl, hbV⟩; refine Blk.thru (b := w.heap.size) (arr := ?_) (t := ?_) ?_ hbV ?_; rotate_left 2; (focus (exact blk)); intro o1; have o1c0 := o1.cell 0; have o1f0 := o1.free 0; have o1l := o1.lt; simp at o1c0; refine Blk.thru (b := (w.heap.size + 1)) (arr := ?_) (t := ?_) ?_ hbV ?_; rotate_left 2; (focus (exact blk)); intro o2; have o2c0 := o2.cell 0; have o2f0 := o2.free 0; have o2l := o2.lt; simp at o2c0; refine Blk.thru (b := (w.heap.size + 1 + 1)) (arr := ?_) (t := ?_) ?_ hbV ?_; rotate_left 2; (focus (exact blk)); intro o3; have o3c0 := o3.cell 0; have o3f0 := o3.free 0; have o3l := o3.lt; simp at o3c0)
      go_ret; exact ⟨rfl, by (exact kpt)⟩
    have h40 : xs.length + bs.length ≤ 40 := by omega
    have g3 : ¬ (40 : Int) < (xs.length : Int) + (bs.length : Int) := by omega
    have hmany : many xs bs = false := by unfold many; rw [decide_eq_false g1, decide_eq_false g2]; rfl
    rcases drop_cases hbo hmany with ⟨hb, hE, hL⟩ | ⟨hb, hS, hE, hL⟩ | ⟨hb, d, hS, hE, hL⟩
    · have HD1 := Lib.hid hE
      have HD2 := Lib.hid hL
      obtain ⟨nD, hnD⟩ : ∃ n : Nat, n = 0 := ⟨_, rfl⟩
      obtain ⟨LD, hLD⟩ : ∃ l : List Int, l = [] := ⟨_, rfl⟩
      rw [← hLD] at HD2
      have HD3 := Lib.hid (show LD.length = 0 by rw [hLD]; rfl)
      clear hb hE hL hLD hmany hbo hnD
      go_enter Try.func9, Try.ntmps9
      go_upto_region 4 with (go_at_call 48; (with_reducible refine (o_alive _).mono ?_); rintro e wA ⟨rfl, hbA⟩)
      refine at_world (S := fun W1 => Blk W1 w.heap.size #[.slice a0 xs.length c0] 22 ∧ Blk W1 (w.heap.size + 1) #[.slice a1 bs.length c1] 34 ∧ Blk W1 (w.heap.size + 1 + 1) #[.slice a2 ms.length c2] 23 ∧ Kept w W1) ⟨by (exact blk), by (exact blk), by (exact blk), by (exact kpt)⟩ ?_
      rintro W1 ⟨b1, b2, b3, hk⟩
      have b1c0 := b1.cell 0
      have b1f0 := b1.free 0
      have b1l := b1.lt
      simp at b1c0
      have b2c0 := b2.cell 0
      have b2f0 := b2.free 0
      have b2l := b2.lt
      simp at b2c0
      have b3c0 := b3.cell 0
      have b3f0 := b3.free 0
      have b3l := b3.lt
      simp at b3c0
      go_upto_region 6 with (go_at_call 49; (with_reducible refine (o_validN a0 c0 xs _ (h0.later (by (exact kpt)) (Nat.le_refl _)) hl0 hm0 a2 c2 ms (h2.later (by (exact kpt)) (Nat.le_refl _)) hl2 hm2 true HV.out).mono ?_); rintro e wV ⟨rfl, hbV⟩; refine Blk.thru (b := w.heap.size) (arr := ?_) (t := ?_) ?_ hbV ?_; rotate_left 2; (focus (exact blk)); intro o1; have o1c0 := o1.cell 0; have o1f0 := o1.free 0; have o1l := o1.lt; simp at o1c0; refine Blk.thru (b := (w.heap.size + 1)) (arr := ?_) (t := ?_) ?_ hbV ?_; rotate_left 2; (focus (exact blk)); intro o2; have o2c0 := o2.cell 0; have o2f0 := o2.free 0; have o2l := o2.lt; simp at o2c0; refine Blk.thru (b := (w.heap.size + 1 + 1)) (arr := ?_) (t := ?_) ?_ hbV ?_; rotate_left 2; (focus (exact blk)); intro o3; have o3c0 := o3.cell 0; have o3f0 := o3.free 0; have o3l := o3.lt; simp at o3c0)
      refine at_world (S := fun W2 => Blk W2 w.heap.size #[.slice a0 xs.length c0] 22 ∧ Blk W2 (w.heap.size + 1) #[.slice a1 bs.length c1] 34 ∧ Blk W2 (w.heap.size + 1 + 1) #[.slice a2 ms.length c2] 23 ∧ Kept w W2) ⟨by (exact blk), by (exact blk), by (exact blk), by (exact kpt)⟩ ?_
      clear b1 b2 b3 hk
      rintro W2 ⟨b1, b2, b3, hk⟩
      have b1c0 := b1.cell 0
      have b1f0 := b1.free 0
      have b1l := b1.lt
      simp at b1c0
      have b2c0 := b2.cell 0
      have b2f0 := b2.free 0
      have b2l := b2.lt
      simp at b2c0
      have b3c0 := b3.cell 0
      have b3f0 := b3.free 0
      have b3l := b3.lt
      simp at b3c0
      go_upto_region 7 with (go_at_call 42; (with_reducible refine (o_drop a0 c0 xs a1 c1 bs a2 c2 ms _ (h0.later (by (exact kpt)) (Nat.le_refl _)) hl0 hm0 hz (h1.later (by (exact kpt)) (Nat.le_refl _)) hl1 hm1 (h2.later (by (exact kpt)) (Nat.le_refl _)) hl2 hm2 0 _ LD HD1.out HD2.out HD3.out).mono ?_); rintro e wD ⟨aD, cD, rfl, hD, hD1, hD2, hbD⟩)
      refine at_world (S := fun W3 => Blk W3 w.heap.size #[.slice a0 xs.length c0] 22 ∧ Blk W3 (w.heap.size + 1) #[.slice a1 bs.length c1] 34 ∧ Blk W3 (w.heap.size + 1 + 1) #[.slice a2 ms.length c2] 23 ∧ Row icell 1 W3.heap.size W3 aD LD ∧ Kept w W3) ⟨by (exact blk), by (exact blk), by (exact blk), (hD.later (by (exact kpt)) (Nat.le_refl _)), by (exact kpt)⟩ ?_
      clear b1 b2 b3 hk
      rintro W3 ⟨b1, b2, b3, rD, hk⟩
      have b1c0 := b1.cell 0
      have b1f0 := b1.free 0
      have b1l := b1.lt
      simp at b1c0
      have b2c0 := b2.cell 0
      have b2f0 := b2.free 0
      have b2l := b2.lt
      simp at b2c0
      have b3c0 := b3.cell 0
      have b3f0 := b3.free 0
      have b3l := b3.lt
      simp at b3c0
      go_wp2
      go_ret; exact ⟨rfl, by (exact kpt)⟩
    · have HD1 := Lib.hid hE
      obtain ⟨LD, hLD⟩ : ∃ l : List Int, l = [] := ⟨_, rfl⟩
      have HD2 := Lib.hid (show dropL xs bs ms = LD by rw [hL, hLD])
      have HD3 := Lib.hid (show LD.length = 0 by rw [hLD]; rfl)
      have HBG := Lib.hid (List.all_eq_true.1 hb)
      have HNV := Lib.hid (fun y hy => drop_never hS (y := y) hy)
      clear hb hE hL hLD hmany hbo hS
      go_enter Try.func9, Try.ntmps9
      go_upto_region 4 with (go_at_call 48; (with_reducible refine (o_alive _).mono ?_); rintro e wA ⟨rfl, hbA⟩)
      refine at_world (S := fun W1 => Blk W1 w.heap.size #[.slice a0 xs.length c0] 22 ∧ Blk W1 (w.heap.size + 1) #[.slice a1 bs.length c1] 34 ∧ Blk W1 (w.heap.size + 1 + 1) #[.slice a2 ms.length c2] 23 ∧ Kept w W1) ⟨by (exact blk), by (exact blk), by (exact blk), by (exact kpt)⟩ ?_
      rintro W1 ⟨b1, b2, b3, hk⟩
      have b1c0 := b1.cell 0
      have b1f0 := b1.free 0
      have b1l := b1.lt
      simp at b1c0
      have b2c0 := b2.cell 0
      have b2f0 := b2.free 0
      have b2l := b2.lt
      simp at b2c0
      have b3c0 := b3.cell 0
      have b3f0 := b3.free 0
      have b3l := b3.lt
      simp at b3c0
      go_upto_region 6 with (go_at_call 49; (with_reducible refine (o_validN a0 c0 xs _ (h0.later (by (exact kpt)) (Nat.le_refl _)) hl0 hm0 a2 c2 ms (h2.later (by (exact kpt)) (Nat.le_refl _)) hl2 hm2 true HV.out).mono ?_); rintro e wV ⟨rfl, hbV⟩; refine Blk.thru (b := w.heap.size) (arr := ?_) (t := ?_) ?_ hbV ?_; rotate_left 2; (focus (exact blk)); intro o1; have o1c0 := o1.cell 0; have o1f0 := o1.free 0; have o1l := o1.lt; simp at o1c0; refine Blk.thru (b := (w.heap.size + 1)) (arr := ?_) (t := ?_) ?_ hbV ?_; rotate_left 2; (focus (exact blk)); intro o2; have o2c0 := o2.cell 0; have o2f0 := o2.free 0; have o2l := o2.lt; simp at o2c0; refine Blk.thru (b := (w.heap.size + 1 + 1)) (arr := ?_) (t := ?_) ?_ hbV ?_; rotate_left 2; (focus (exact blk)); intro o3; have o3c0 := o3.cell 0; have o3f0 := o3.free 0; have o3l := o3.lt; simp at o3c0)
      refine at_world (S := fun W2 => Blk W2 w.heap.size #[.slice a0 xs.length c0] 22 ∧ Blk W2 (w.heap.size + 1) #[.slice a1 bs.length c1] 34 ∧ Blk W2 (w.heap.size + 1 + 1) #[.slice a2 ms.length c2] 23 ∧ Kept w W2) ⟨by (exact blk), by (exact blk), by (exact blk), by (exact kpt)⟩ ?_
      clear b1 b2 b3 hk
      rintro W2 ⟨b1, b2, b3, hk⟩
      have b1c0 := b1.cell 0
      have b1f0 := b1.free 0
      have b1l := b1.lt
      simp at b1c0
      have b2c0 := b2.cell 0
      have b2f0 := b2.free 0
      have b2l := b2.lt
      simp at b2c0
      have b3c0 := b3.cell 0
      have b3f0 := b3.free 0
      have b3l := b3.lt
      simp at b3c0
      go_upto_region 7 with (go_at_call 42; (with_reducible refine (o_drop a0 c0 xs a1 c1 bs a2 c2 ms _ (h0.later (by (exact kpt)) (Nat.le_refl _)) hl0 hm0 hz (h1.later (by (exact kpt)) (Nat.le_refl _)) hl1 hm1 (h2.later (by (exact kpt)) (Nat.le_refl _)) hl2 hm2 0 _ LD HD1.out HD2.out HD3.out).mono ?_); rintro e wD ⟨aD, cD, rfl, hD, hD1, hD2, hbD⟩)
      refine at_world (S := fun W3 => Blk W3 w.heap.size #[.slice a0 xs.length c0] 22 ∧ Blk W3 (w.heap.size + 1) #[.slice a1 bs.length c1] 34 ∧ Blk W3 (w.heap.size + 1 + 1) #[.slice a2 ms.length c2] 23 ∧ Row icell 1 W3.heap.size W3 aD LD ∧ Kept w W3) ⟨by (exact blk), by (exact blk), by (exact blk), (hD.later (by (exact kpt)) (Nat.le_refl _)), by (exact kpt)⟩ ?_
      clear b1 b2 b3 hk
      rintro W3 ⟨b1, b2, b3, rD, hk⟩
      have b1c0 := b1.cell 0
      have b1f0 := b1.free 0
      have b1l := b1.lt
      simp at b1c0
      have b2c0 := b2.cell 0
      have b2f0 := b2.free 0
      have b2l := b2.lt
      simp at b2c0
      have b3c0 := b3.cell 0
      have b3f0 := b3.free 0
      have b3l := b3.lt
      simp at b3c0
      go_wp2
      go_loopw [12, 65] (fun s12 i wr => ∃ k : Nat, k ≤ bs.length ∧ i = .int .i64 k ∧ wr.ownsRow W3.heap.size 3 1 s12 (ints (bitsTo m k)).length ((ints (bitsTo m k)).flatMap icell) ∧ Kept W3 wr) (fun _ i _ => bs.length - (intOf i).toNat)
      case atStart => exact ⟨0, Nat.zero_le _, rfl, owns_nil (α := Int) (enc := icell), Below.refl _ _⟩
      case round =>
        clear b1c0 b1f0 b1l b2c0 b2f0 b2l b3c0 b3f0 b3l
        obtain ⟨k, hkn, rfl, hown, hkk⟩ := hrel
        have hbl : (ints (bitsTo m k)).length ≤ 10 := by
          rw [ints_len]
          have := List.length_filter_le (fun i => m.testBit i) (List.range k)
          rw [List.length_range] at this
          unfold bitsTo
          omega
        by_cases hlt : k < bs.length
        · have hq2 : m / 2 ^ k < 65536 := Nat.lt_of_le_of_lt (Nat.div_le_self _ _) (by omega)
          have HBT : bits BinOp.and IntKind.u16 ((m : Int) / 2 ^ k) 1 = ((m / 2 ^ k % 2 : Nat) : Int) := by
            have := bit16 (m / 2 ^ k) hq2
            rw [← this]
            simp
          have hbm := Nat.mod_lt (m / 2 ^ k) (show 0 < 2 by omega)
          have htb : m.testBit k = decide (m / 2 ^ k % 2 = 1) := Nat.testBit_eq_decide_div_mod_eq
          have hsu := bitsTo_succ m k
          rw [htb] at hsu
          have k1 : k < 64 := by omega
          by_cases hb1 : m / 2 ^ k % 2 = 1
          · rw [hb1] at HBT hsu
            have HSU := Lib.hid (show ints (bitsTo m (k + 1)) = ints (bitsTo m k) ++ [(k : Int)] by rw [hsu]; simp [ints])
            clear hb1 hbm htb hsu
            go_wp2_with (at_builtin; obtain ⟨i0, hi, hz0, hz1, hz2⟩ := info_parts infoI2; refine wpList_append_own _ rfl _ _ 63 rfl W3.heap.size 3 i0 (.int .i64 0) 1 8 Try.underlying63 hi hz0 hz1 hz2 rfl (by decide) _ _ _ rfl (hown.alloc _) ⟨wr.heap.size, 0, none⟩ 1 1 [.int .i64 k] rfl rfl (cell_one_at (by simp) _ _) (fun x hx => by simp at hx; subst hx; rfl) (by unfold maxLen; omega) (by omega) (by have := hkk.size; simp; omega) ?_; intro v' w9 hown' hgrow hnil; clear hi hz0 hz1 hz2)
            go_roundw
            case rel => exact ⟨k + 1, by omega, by go_num, by rw [HSU.out, List.flatMap_append, List.length_append]; exact hown', Kept.grown (Kept.alloc hkk _) (hown.alloc _) (Nat.le_refl _) hgrow⟩
            case measure => simp [intOf]; omega
          · have h00 : m / 2 ^ k % 2 = 0 := by omega
            rw [h00] at HBT hsu
            have HSU := Lib.hid (show ints (bitsTo m (k + 1)) = ints (bitsTo m k) by rw [hsu]; simp)
            clear hb1 hbm htb hsu h00
            go_wp2
            go_roundw
            case rel => exact ⟨k + 1, by omega, by go_num, by rw [HSU.out]; exact hown, hkk⟩
            case measure => simp [intOf]; omega
        · obtain rfl : bs.length = k := by omega
          obtain ⟨o, ho⟩ : ∃ o, o = bitsTo m bs.length := ⟨_, rfl⟩
          rw [← ho] at hown hbl
          have hinc := incr_bits m bs.length
          rw [← ho] at hinc
          clear ho hlt hkn
          obtain ⟨aO, cO, rfl, rO, hO1, hO2⟩ := owns_row (enc := icell) (k := 1) (fun _ => rfl) hown
          rw [ints_len] at hO1 hbl ⊢
          have hk2 := Kept.drop hk hkk
          have hol : (ints o).length = o.length := ints_len o
          have v1 := b1.keep hkk
          have v2 := b2.keep hkk
          have v3 := b3.keep hkk
          have sD := rD.later hkk (Nat.le_refl _)
          clear hown b1 b2 b3 rD hkk hk
          have v1c0 := v1.cell 0
          have v1f0 := v1.free 0
          have v1l := v1.lt
          simp at v1c0
          have v2c0 := v2.cell 0
          have v2f0 := v2.free 0
          have v2l := v2.lt
          simp at v2c0
          have v3c0 := v3.cell 0
          have v3f0 := v3.free 0
          have v3l := v3.lt
          simp at v3c0
          have HOK := Lib.hid (HNV.out o hinc)
          go_wp2_with (go_at_call 50; (with_reducible refine (o_free a0 c0 xs a1 c1 bs a2 c2 ms _ _ _ _ (h0.later (by (exact kpt)) (Nat.le_refl _)) hl0 hm0 hz (h1.later (by (exact kpt)) (Nat.le_refl _)) hl1 hm1 (h2.later (by (exact kpt)) (Nat.le_refl _)) hl2 hm2 ?_ ?_ ?_ HX.out HCM.out HBG.out h40 _ _ o _ (by first | rfl | exact HOD.out) (rO.later (by (exact kpt)) (Nat.le_refl _)) (by first | exact hO1 | (rw [← HOD.out]; exact hO1)) hO2 false HOK.out).mono ?_); (focus (exact blk)); (focus (exact blk)); (focus (exact blk)); rintro e wQ ⟨rfl, hbwQ⟩; refine Blk.thru (b := w.heap.size) (arr := ?_) (t := ?_) ?_ hbwQ ?_; rotate_left 2; (focus (exact blk)); intro p1; have p1c0 := p1.cell 0; have p1f0 := p1.free 0; have p1l := p1.lt; simp at p1c0; refine Blk.thru (b := (w.heap.size + 1)) (arr := ?_) (t := ?_) ?_ hbwQ ?_; rotate_left 2; (focus (exact blk)); intro p2; have p2c0 := p2.cell 0; have p2f0 := p2.free 0; have p2l := p2.lt; simp at p2c0; refine Blk.thru (b := (w.heap.size + 1 + 1)) (arr := ?_) (t := ?_) ?_ hbwQ ?_; rotate_left 2; (focus (exact blk)); intro p3; have p3c0 := p3.cell 0; have p3f0 := p3.free 0; have p3l := p3.lt; simp at p3c0)
          go_ret; exact ⟨rfl, by (exact kpt)⟩
    · obtain ⟨hdi, hdo, hdf⟩ := drop_first hS
      have hdl : (ints d).length = d.length := ints_len d
      have HDL := Lib.hid (show d.length = d.length from rfl)
      have HD1 := Lib.hid hE
      obtain ⟨LD, hLD⟩ : ∃ l : List Int, l = ints d := ⟨_, rfl⟩
      have HD2 := Lib.hid (show dropL xs bs ms = LD by rw [hL, hLD]; rfl)
      have HD3 := Lib.hid (show LD.length = d.length by rw [hLD]; exact hdl)
      have HLD := Lib.hid hLD
      have HBG := Lib.hid (List.all_eq_true.1 hb)
      have HDI := Lib.hid hdi
      have HDO := Lib.hid hdo
      have HDF := Lib.hid hdf
      have HNL := Lib.hid (show 0 < ms.length ∨ d = [] from by
        rcases Nat.eq_zero_or_pos ms.length with h | h
        · obtain rfl : ms = [] := List.length_eq_zero_iff.1 h
          exact .inr (drop_free hS)
        · exact .inl h)
      have hd10 : d.length ≤ 10 := by
        have := incr_len 0 d hdi
        omega
      clear hb hE hL hLD hmany hbo hS hdi hdo hdf hdl
      go_enter Try.func9, Try.ntmps9
      go_upto_region 4 with (go_at_call 48; (with_reducible refine (o_alive _).mono ?_); rintro e wA ⟨rfl, hbA⟩)
      refine at_world (S := fun W1 => Blk W1 w.heap.size #[.slice a0 xs.length c0] 22 ∧ Blk W1 (w.heap.size + 1) #[.slice a1 bs.length c1] 34 ∧ Blk W1 (w.heap.size + 1 + 1) #[.slice a2 ms.length c2] 23 ∧ Kept w W1) ⟨by (exact blk), by (exact blk), by (exact blk), by (exact kpt)⟩ ?_
      rintro W1 ⟨b1, b2, b3, hk⟩
      have b1c0 := b1.cell 0
      have b1f0 := b1.free 0
      have b1l := b1.lt
      simp at b1c0
      have b2c0 := b2.cell 0
      have b2f0 := b2.free 0
      have b2l := b2.lt
      simp at b2c0
      have b3c0 := b3.cell 0
      have b3f0 := b3.free 0
      have b3l := b3.lt
      simp at b3c0
      go_upto_region 6 with (go_at_call 49; (with_reducible refine (o_validN a0 c0 xs _ (h0.later (by (exact kpt)) (Nat.le_refl _)) hl0 hm0 a2 c2 ms (h2.later (by (exact kpt)) (Nat.le_refl _)) hl2 hm2 true HV.out).mono ?_); rintro e wV ⟨rfl, hbV⟩; refine Blk.thru (b := w.heap.size) (arr := ?_) (t := ?_) ?_ hbV ?_; rotate_left 2; (focus (exact blk)); intro o1; have o1c0 := o1.cell 0; have o1f0 := o1.free 0; have o1l := o1.lt; simp at o1c0; refine Blk.thru (b := (w.heap.size + 1)) (arr := ?_) (t := ?_) ?_ hbV ?_; rotate_left 2; (focus (exact blk)); intro o2; have o2c0 := o2.cell 0; have o2f0 := o2.free 0; have o2l := o2.lt; simp at o2c0; refine Blk.thru (b := (w.heap.size + 1 + 1)) (arr := ?_) (t := ?_) ?_ hbV ?_; rotate_left 2; (focus (exact blk)); intro o3; have o3c0 := o3.cell 0; have o3f0 := o3.free 0; have o3l := o3.lt; simp at o3c0)
      refine at_world (S := fun W2 => Blk W2 w.heap.size #[.slice a0 xs.length c0] 22 ∧ Blk W2 (w.heap.size + 1) #[.slice a1 bs.length c1] 34 ∧ Blk W2 (w.heap.size + 1 + 1) #[.slice a2 ms.length c2] 23 ∧ Kept w W2) ⟨by (exact blk), by (exact blk), by (exact blk), by (exact kpt)⟩ ?_
      clear b1 b2 b3 hk
      rintro W2 ⟨b1, b2, b3, hk⟩
      have b1c0 := b1.cell 0
      have b1f0 := b1.free 0
      have b1l := b1.lt
      simp at b1c0
      have b2c0 := b2.cell 0
      have b2f0 := b2.free 0
      have b2l := b2.lt
      simp at b2c0
      have b3c0 := b3.cell 0
      have b3f0 := b3.free 0
      have b3l := b3.lt
      simp at b3c0
      go_upto_region 7 with (go_at_call 42; (with_reducible refine (o_drop a0 c0 xs a1 c1 bs a2 c2 ms _ (h0.later (by (exact kpt)) (Nat.le_refl _)) hl0 hm0 hz (h1.later (by (exact kpt)) (Nat.le_refl _)) hl1 hm1 (h2.later (by (exact kpt)) (Nat.le_refl _)) hl2 hm2 d.length _ LD HD1.out HD2.out HD3.out).mono ?_); rintro e wD ⟨aD, cD, rfl, hD, hD1, hD2, hbD⟩)
      refine at_world (S := fun W3 => Blk W3 w.heap.size #[.slice a0 xs.length c0] 22 ∧ Blk W3 (w.heap.size + 1) #[.slice a1 bs.length c1] 34 ∧ Blk W3 (w.heap.size + 1 + 1) #[.slice a2 ms.length c2] 23 ∧ Row icell 1 W3.heap.size W3 aD LD ∧ Kept w W3) ⟨by (exact blk), by (exact blk), by (exact blk), (hD.later (by (exact kpt)) (Nat.le_refl _)), by (exact kpt)⟩ ?_
      clear b1 b2 b3 hk
      rintro W3 ⟨b1, b2, b3, rD, hk⟩
      have b1c0 := b1.cell 0
      have b1f0 := b1.free 0
      have b1l := b1.lt
      simp at b1c0
      have b2c0 := b2.cell 0
      have b2f0 := b2.free 0
      have b2l := b2.lt
      simp at b2c0
      have b3c0 := b3.cell 0
      have b3f0 := b3.free 0
      have b3l := b3.lt
      simp at b3c0
      go_wp2
      go_loopw [12, 65] (fun s12 i wr => ∃ k : Nat, k ≤ bs.length ∧ i = .int .i64 k ∧ wr.ownsRow W3.heap.size 3 1 s12 (ints (bitsTo m k)).length ((ints (bitsTo m k)).flatMap icell) ∧ Kept W3 wr) (fun _ i _ => bs.length - (intOf i).toNat)
      case atStart => exact ⟨0, Nat.zero_le _, rfl, owns_nil (α := Int) (enc := icell), Below.refl _ _⟩
      case round =>
        clear b1c0 b1f0 b1l b2c0 b2f0 b2l b3c0 b3f0 b3l
        obtain ⟨k, hkn, rfl, hown, hkk⟩ := hrel
        have hbl : (ints (bitsTo m k)).length ≤ 10 := by
          rw [ints_len]
          have := List.length_filter_le (fun i => m.testBit i) (List.range k)
          rw [List.length_range] at this
          unfold bitsTo
          omega
        by_cases hlt : k < bs.length
        · have hq2 : m / 2 ^ k < 65536 := Nat.lt_of_le_of_lt (Nat.div_le_self _ _) (by omega)
          have HBT : bits BinOp.and IntKind.u16 ((m : Int) / 2 ^ k) 1 = ((m / 2 ^ k % 2 : Nat) : Int) := by
            have := bit16 (m / 2 ^ k) hq2
            rw [← this]
            simp
          have hbm := Nat.mod_lt (m / 2 ^ k) (show 0 < 2 by omega)
          have htb : m.testBit k = decide (m / 2 ^ k % 2 = 1) := Nat.testBit_eq_decide_div_mod_eq
          have hsu := bitsTo_succ m k
          rw [htb] at hsu
          have k1 : k < 64 := by omega
          by_cases hb1 : m / 2 ^ k % 2 = 1
          · rw [hb1] at HBT hsu
            have HSU := Lib.hid (show ints (bitsTo m (k + 1)) = ints (bitsTo m k) ++ [(k : Int)] by rw [hsu]; simp [ints])
            clear hb1 hbm htb hsu
            go_wp2_with (at_builtin; obtain ⟨i0, hi, hz0, hz1, hz2⟩ := info_parts infoI2; refine wpList_append_own _ rfl _ _ 63 rfl W3.heap.size 3 i0 (.int .i64 0) 1 8 Try.underlying63 hi hz0 hz1 hz2 rfl (by decide) _ _ _ rfl (hown.alloc _) ⟨wr.heap.size, 0, none⟩ 1 1 [.int .i64 k] rfl rfl (cell_one_at (by simp) _ _) (fun x hx => by simp at hx; subst hx; rfl) (by unfold maxLen; omega) (by omega) (by have := hkk.size; simp; omega) ?_; intro v' w9 hown' hgrow hnil; clear hi hz0 hz1 hz2)
            go_roundw
            case rel => exact ⟨k + 1, by omega, by go_num, by rw [HSU.out, List.flatMap_append, List.length_append]; exact hown', Kept.grown (Kept.alloc hkk _) (hown.alloc _) (Nat.le_refl _) hgrow⟩
            case measure => simp [intOf]; omega
          · have h00 : m / 2 ^ k % 2 = 0 := by omega
            rw [h00] at HBT hsu
            have HSU := Lib.hid (show ints (bitsTo m (k + 1)) = ints (bitsTo m k) by rw [hsu]; simp)
            clear hb1 hbm htb hsu h00
            go_wp2
            go_roundw
            case rel => exact ⟨k + 1, by omega, by go_num, by rw [HSU.out]; exact hown, hkk⟩
            case measure => simp [intOf]; omega
        · obtain rfl : bs.length = k := by omega
          obtain ⟨o, ho⟩ : ∃ o, o = bitsTo m bs.length := ⟨_, rfl⟩
          rw [← ho] at hown hbl
          have hinc := incr_bits m bs.length
          rw [← ho] at hinc
          clear ho hlt hkn
          obtain ⟨aO, cO, rfl, rO, hO1, hO2⟩ := owns_row (enc := icell) (k := 1) (fun _ => rfl) hown
          rw [ints_len] at hO1 hbl ⊢
          have hk2 := Kept.drop hk hkk
          have hol : (ints o).length = o.length := ints_len o
          have v1 := b1.keep hkk
          have v2 := b2.keep hkk
          have v3 := b3.keep hkk
          have sD := rD.later hkk (Nat.le_refl _)
          clear hown b1 b2 b3 rD hkk hk
          have v1c0 := v1.cell 0
          have v1f0 := v1.free 0
          have v1l := v1.lt
          simp at v1c0
          have v2c0 := v2.cell 0
          have v2f0 := v2.free 0
          have v2l := v2.lt
          simp at v2c0
          have v3c0 := v3.cell 0
          have v3f0 := v3.free 0
          have v3l := v3.lt
          simp at v3c0
          go_upto_region 16 with fail
          refine at_world (S := fun V => Blk V w.heap.size #[.slice a0 xs.length c0] 22 ∧ Blk V (w.heap.size + 1) #[.slice a1 bs.length c1] 34 ∧ Blk V (w.heap.size + 1 + 1) #[.slice a2 ms.length c2] 23 ∧ Row icell 1 V.heap.size V aO (ints o) ∧ Row icell 1 V.heap.size V aD LD ∧ Kept w V) ⟨v1, v2, v3, rO, sD, hk2⟩ ?_
          clear v1 v2 v3 rO sD hk2 v1c0 v1f0 v1l v2c0 v2f0 v2l v3c0 v3f0 v3l
          rintro WX ⟨v1, v2, v3, rO, sD, hkX⟩
          rw [HLD.out] at sD
          go_wp2
          go_loopw [95] (fun i wr => ∃ k : Nat, k ≤ d.length ∧ i = .int .i64 k ∧ Kept WX wr) (fun i _ => d.length - (intOf i).toNat)
          case atStart => exact ⟨0, Nat.zero_le _, rfl, Below.refl _ _⟩
          case round =>
            obtain ⟨k, hkn, rfl, hkk⟩ := hrel
            by_cases hlt : k < d.length
            · obtain ⟨bt, ot, hae, hbt, gx⟩ := int_row (sD.later hkk (Nat.le_refl _)) k (by rw [ints_len]; exact hlt)
              have gx2 : wr.cell? ⟨bt, ot + k, none⟩ = some (.int .i64 (d[k] : Int)) := by simpa [ints] using gx
              have hin := incr_at 0 d HDI.out k hlt
              have e1 := v1.keep hkk
              have e2 := v2.keep hkk
              have e3 := v3.keep hkk
              have e1c0 := e1.cell 0
              have e1f0 := e1.free 0
              have e1l := e1.lt
              simp at e1c0
              have e2c0 := e2.cell 0
              have e2f0 := e2.free 0
              have e2l := e2.lt
              simp at e2c0
              have e3c0 := e3.cell 0
              have e3f0 := e3.free 0
              have e3l := e3.lt
              simp at e3c0
              cases k with
              | zero =>
                obtain ⟨X, hX⟩ : ∃ X, X = d[0] := ⟨_, rfl⟩
                rw [← hX] at gx2 hin
                clear gx hX
                have hX1 : ¬ (X : Int) < 0 := by omega
                have hX2 : ¬ (bs.length : Int) ≤ (X : Int) := by omega
                have j1 : (0 : Int) < (d.length : Int) := by omega
                subst hae
                rw [Nat.add_zero] at gx2
                go_wp2
                go_roundw
                case rel => exact ⟨0 + 1, by omega, by go_num, by (exact kpt)⟩
                case measure => simp [intOf]; omega
              | succ j =>
                have hup := incr_up 0 d HDI.out j hlt
                obtain ⟨bt', ot', hae', _, gy⟩ := int_row (sD.later hkk (Nat.le_refl _)) j (by rw [ints_len]; omega)
                obtain ⟨rfl, rfl⟩ : bt = bt' ∧ ot = ot' := by rw [hae] at hae'; simpa using hae'
                have gy2 : wr.cell? ⟨bt, ot + j, none⟩ = some (.int .i64 (d[j] : Int)) := by simpa [ints] using gy
                obtain ⟨X, hX⟩ : ∃ X, X = d[j + 1] := ⟨_, rfl⟩
                obtain ⟨Y, hY⟩ : ∃ Y, Y = d[j] := ⟨_, rfl⟩
                rw [← hX] at gx2 hin hup
                rw [← hY] at gy2 hup
                clear gx gy hX hY hae'
                have hX1 : ¬ (X : Int) < 0 := by omega
                have hX2 : ¬ (bs.length : Int) ≤ (X : Int) := by omega
                have hX3 : ¬ (X : Int) ≤ (Y : Int) := by omega
                have j0 : (0 : Int) ≤ (j : Int) := by omega
                have j1 : (j : Int) + 1 < (d.length : Int) := by omega
                have j2 : (j : Int) < (d.length : Int) := by omega
                have j3 : (0 : Int) < (j : Int) + 1 := by omega
                subst hae
                go_wp2
                go_roundw
                case rel => exact ⟨j + 1 + 1, by omega, by go_num, by (exact kpt)⟩
                case measure => simp [intOf]; omega
            · obtain rfl : d.length = k := by omega
              rcases Nat.lt_trichotomy o.length d.length with hol2 | hol2 | hol2
              · have HBF := Lib.hid (HDF.out o hinc (before_less hol2))
                have l1 : (o.length : Int) < (d.length : Int) := by omega
                have l2 : ((o.length : Int) = (d.length : Int)) = False := by simp; omega
                have e1 := v1.keep hkk
                have e2 := v2.keep hkk
                have e3 := v3.keep hkk
                have e1c0 := e1.cell 0
                have e1f0 := e1.free 0
                have e1l := e1.lt
                simp at e1c0
                have e2c0 := e2.cell 0
                have e2f0 := e2.free 0
                have e2l := e2.lt
                simp at e2c0
                have e3c0 := e3.cell 0
                have e3f0 := e3.free 0
                have e3l := e3.lt
                simp at e3c0
                have HMS := Lib.hid HNL.out
                rcases Nat.eq_zero_or_pos ms.length with hms | hms
                · have hd0 : d.length = 0 := by
                    rcases HNL.out with h | h
                    · omega
                    · rw [h]; rfl
                  exfalso
                  omega
                · have hms2 : (0 : Int) < (ms.length : Int) := by omega
                  go_upto_region 33 with fail
                  go_wp2_with (first | (go_at_call 50; (with_reducible refine (o_free a0 c0 xs a1 c1 bs a2 c2 ms _ _ _ _ (h0.later (by (exact kpt)) (Nat.le_refl _)) hl0 hm0 hz (h1.later (by (exact kpt)) (Nat.le_refl _)) hl1 hm1 (h2.later (by (exact kpt)) (Nat.le_refl _)) hl2 hm2 ?_ ?_ ?_ HX.out HCM.out HBG.out h40 _ _ d _ rfl (sD.later (by (exact kpt)) (Nat.le_refl _)) hD1 hD2 true HDO.out).mono ?_); (focus (exact blk)); (focus (exact blk)); (focus (exact blk)); rintro e wQ ⟨rfl, hbwQ⟩; refine Blk.thru (b := w.heap.size) (arr := ?_) (t := ?_) ?_ hbwQ ?_; rotate_left 2; (focus (exact blk)); intro p1; have p1c0 := p1.cell 0; have p1f0 := p1.free 0; have p1l := p1.lt; simp at p1c0; refine Blk.thru (b := (w.heap.size + 1)) (arr := ?_) (t := ?_) ?_ hbwQ ?_; rotate_left 2; (focus (exact blk)); intro p2; have p2c0 := p2.cell 0; have p2f0 := p2.free 0; have p2l := p2.lt; simp at p2c0; refine Blk.thru (b := (w.heap.size + 1 + 1)) (arr := ?_) (t := ?_) ?_ hbwQ ?_; rotate_left 2; (focus (exact blk)); intro p3; have p3c0 := p3.cell 0; have p3f0 := p3.free 0; have p3l := p3.lt; simp at p3c0) | (go_at_call 50; (with_reducible refine (o_free a0 c0 xs a1 c1 bs a2 c2 ms _ _ _ _ (h0.later (by (exact kpt)) (Nat.le_refl _)) hl0 hm0 hz (h1.later (by (exact kpt)) (Nat.le_refl _)) hl1 hm1 (h2.later (by (exact kpt)) (Nat.le_refl _)) hl2 hm2 ?_ ?_ ?_ HX.out HCM.out HBG.out h40 _ _ o _ (by first | rfl | exact HOD.out) (rO.later (by (exact kpt)) (Nat.le_refl _)) (by first | exact hO1 | (rw [← HOD.out]; exact hO1)) hO2 false HBF.out).mono ?_); (focus (exact blk)); (focus (exact blk)); (focus (exact blk)); rintro e wR ⟨rfl, hbwR⟩; refine Blk.thru (b := w.heap.size) (arr := ?_) (t := ?_) ?_ hbwR ?_; rotate_left 2; (focus (exact blk)); intro p1; have p1c0 := p1.cell 0; have p1f0 := p1.free 0; have p1l := p1.lt; simp at p1c0; refine Blk.thru (b := (w.heap.size + 1)) (arr := ?_) (t := ?_) ?_ hbwR ?_; rotate_left 2; (focus (exact blk)); intro p2; have p2c0 := p2.cell 0; have p2f0 := p2.free 0; have p2l := p2.lt; simp at p2c0; refine Blk.thru (b := (w.heap.size + 1 + 1)) (arr := ?_) (t := ?_) ?_ hbwR ?_; rotate_left 2; (focus (exact blk)); intro p3; have p3c0 := p3.cell 0; have p3f0 := p3.free 0; have p3l := p3.lt; simp at p3c0))
                  go_ret; exact ⟨rfl, by (exact kpt)⟩
              · have l1 : ¬ (o.length : Int) < (d.length : Int) := by omega
                have l2 : ((o.length : Int) = (d.length : Int)) = True := by simp; omega
                have hbs := before_same hol2
                have HBS := Lib.hid hbs
                have HOD := Lib.hid hol2
                clear hbs
                have hdn : (o.length : Int) = (d.length : Int) := by omega
                clear hdn
                go_upto_region 27 with fail
                go_wp2
                go_loopw [17, 134] (fun s17 i wr => ∃ k : Nat, k ≤ d.length ∧ i = .int .i64 k ∧ s17 = .bool false ∧ o.take k = d.take k ∧ Kept WX wr) (fun _ i _ => d.length - (intOf i).toNat)
                case atStart => exact ⟨0, Nat.zero_le _, rfl, rfl, by simp, hkk⟩
                case round =>
                  clear hkk
                  obtain ⟨k, hkn, rfl, rfl, hto, hkk⟩ := hrel
                  have HTO := Lib.hid hto
                  clear hto
                  have hod := HOD.out
                  by_cases hlt : k < d.length
                  · have hko : k < o.length := by omega
                    obtain ⟨bt, ot, hae, hbt, gx⟩ := int_row (sD.later hkk (Nat.le_refl _)) k (by rw [ints_len]; exact hlt)
                    obtain ⟨bo, oo, hbe, hbo, gy⟩ := int_row (rO.later hkk (Nat.le_refl _)) k (by rw [ints_len]; exact hko)
                    have gx2 : wr.cell? ⟨bt, ot + k, none⟩ = some (.int .i64 (d[k] : Int)) := by simpa [ints] using gx
                    have gy2 : wr.cell? ⟨bo, oo + k, none⟩ = some (.int .i64 (o[k] : Int)) := by simpa [ints] using gy
                    have HNX := Lib.hid (fun h => eq_take_succ hko hlt HTO.out h)
                    have HED := Lib.hid (fun h => earlier_diff o d k hko hlt HTO.out h)
                    obtain ⟨X, hX⟩ : ∃ X, X = o[k] := ⟨_, rfl⟩
                    obtain ⟨Y, hY⟩ : ∃ Y, Y = d[k] := ⟨_, rfl⟩
                    rw [← hX, ← hY] at HNX HED
                    rw [← hX] at gy2
                    rw [← hY] at gx2
                    clear gx gy hX hY hod
                    subst hae
                    subst hbe
                    have j0 : (0 : Int) ≤ (k : Int) := by omega
                    have j1 : (k : Int) < (d.length : Int) := by omega
                    have j2 : (k : Int) < (o.length : Int) := by omega
                    have z0 := fun g : Later wr => g.some gx2
                    have z1 := fun g : Later wr => g.some gy2
                    by_cases hxy : X = Y
                    · have HN2 := Lib.hid (HNX.out hxy)
                      subst hxy
                      clear HNX HED
                      go_upto_region 30 with fail
                      refine Later.region (by kernel_rfl) (by kernel_rfl) ?_
                      repeat (first | go_big_quiet_skip | (go_big_quiet_want; go_big_quiet_op; first | go_big_quiet_on | (apply Exists.intro; refine ⟨fun g => ?_, ?_⟩; (focus (first | fail)); go_big_quiet_on)))
                      refine wpQuiet_nil ?_
                      intro gg
                      have hkgg := Kept.drop hkk gg.ok
                      go_wp2
                      go_roundw
                      case rel => exact ⟨k + 1, by omega, by go_num, rfl, HN2.out, by (exact kpt)⟩
                      case measure => simp [intOf]; omega
                    · have hed := HED.out hxy
                      have hne : ¬ ((X : Int) = (Y : Int)) := by omega
                      clear HNX HED
                      go_upto_region 30 with fail
                      refine Later.region (by kernel_rfl) (by kernel_rfl) ?_
                      repeat (first | go_big_quiet_skip | (go_big_quiet_want; go_big_quiet_op; first | go_big_quiet_on | (apply Exists.intro; refine ⟨fun g => ?_, ?_⟩; (focus (first | fail)); go_big_quiet_on)))
                      refine wpQuiet_nil ?_
                      intro gg
                      have hkgg := Kept.drop hkk gg.ok
                      go_upto_region 31 with fail
                      refine at_world (S := fun V => V.cell? ⟨bt, ot + k, none⟩ = some (.int .i64 (Y : Int)) ∧ V.cell? ⟨bo, oo + k, none⟩ = some (.int .i64 (X : Int)) ∧ Kept WX V) ⟨z0 gg, z1 gg, by (exact kpt)⟩ ?_
                      clear z0 z1 gx2 gy2 hkgg hkk
                      rintro V ⟨gx2, gy2, hkv⟩
                      have z0 := fun g : Later V => g.some gx2
                      have z1 := fun g : Later V => g.some gy2
                      by_cases hlt3 : X < Y
                      · have HBF := Lib.hid (HDF.out o hinc (by rw [HBS.out, hed]; exact decide_eq_true hlt3))
                        have hlt4 : (X : Int) < (Y : Int) := by omega
                        clear hed
                        refine Later.region (by kernel_rfl) (by kernel_rfl) ?_
                        repeat (first | go_big_quiet_skip | (go_big_quiet_want; go_big_quiet_op; first | go_big_quiet_on | (apply Exists.intro; refine ⟨fun g => ?_, ?_⟩; (focus (first | fail)); go_big_quiet_on)))
                        refine wpQuiet_nil ?_
                        intro gh
                        have hkgh := Kept.drop hkv gh.ok
                        have e1 := v1.keep hkgh
                        have e2 := v2.keep hkgh
                        have e3 := v3.keep hkgh
                        have e1c0 := e1.cell 0
                        have e1f0 := e1.free 0
                        have e1l := e1.lt
                        simp at e1c0
                        have e2c0 := e2.cell 0
                        have e2f0 := e2.free 0
                        have e2l := e2.lt
                        simp at e2c0
                        have e3c0 := e3.cell 0
                        have e3f0 := e3.free 0
                        have e3l := e3.lt
                        simp at e3c0
                        have HMS := Lib.hid HNL.out
                        rcases Nat.eq_zero_or_pos ms.length with hms | hms
                        · have hd0 : d.length = 0 := by
                            rcases HNL.out with h | h
                            · omega
                            · rw [h]; rfl
                          exfalso
                          omega
                        · have hms2 : (0 : Int) < (ms.length : Int) := by omega
                          go_upto_region 33 with fail
                          go_wp2_with (first | (go_at_call 50; (with_reducible refine (o_free a0 c0 xs a1 c1 bs a2 c2 ms _ _ _ _ (h0.later (by (exact kpt)) (Nat.le_refl _)) hl0 hm0 hz (h1.later (by (exact kpt)) (Nat.le_refl _)) hl1 hm1 (h2.later (by (exact kpt)) (Nat.le_refl _)) hl2 hm2 ?_ ?_ ?_ HX.out HCM.out HBG.out h40 _ _ d _ rfl (sD.later (by (exact kpt)) (Nat.le_refl _)) hD1 hD2 true HDO.out).mono ?_); (focus (exact blk)); (focus (exact blk)); (focus (exact blk)); rintro e wQ ⟨rfl, hbwQ⟩; refine Blk.thru (b := w.heap.size) (arr := ?_) (t := ?_) ?_ hbwQ ?_; rotate_left 2; (focus (exact blk)); intro p1; have p1c0 := p1.cell 0; have p1f0 := p1.free 0; have p1l := p1.lt; simp at p1c0; refine Blk.thru (b := (w.heap.size + 1)) (arr := ?_) (t := ?_) ?_ hbwQ ?_; rotate_left 2; (focus (exact blk)); intro p2; have p2c0 := p2.cell 0; have p2f0 := p2.free 0; have p2l := p2.lt; simp at p2c0; refine Blk.thru (b := (w.heap.size + 1 + 1)) (arr := ?_) (t := ?_) ?_ hbwQ ?_; rotate_left 2; (focus (exact blk)); intro p3; have p3c0 := p3.cell 0; have p3f0 := p3.free 0; have p3l := p3.lt; simp at p3c0) | (go_at_call 50; (with_reducible refine (o_free a0 c0 xs a1 c1 bs a2 c2 ms _ _ _ _ (h0.later (by (exact kpt)) (Nat.le_refl _)) hl0 hm0 hz (h1.later (by (exact kpt)) (Nat.le_refl _)) hl1 hm1 (h2.later (by (exact kpt)) (Nat.le_refl _)) hl2 hm2 ?_ ?_ ?_ HX.out HCM.out HBG.out h40 _ _ o _ (by first | rfl | exact HOD.out) (rO.later (by (exact kpt)) (Nat.le_refl _)) (by first | exact hO1 | (rw [← HOD.out]; exact hO1)) hO2 false HBF.out).mono ?_); (focus (exact blk)); (focus (exact blk)); (focus (exact blk)); rintro e wR ⟨rfl, hbwR⟩; refine Blk.thru (b := w.heap.size) (arr := ?_) (t := ?_) ?_ hbwR ?_; rotate_left 2; (focus (exact blk)); intro p1; have p1c0 := p1.cell 0; have p1f0 := p1.free 0; have p1l := p1.lt; simp at p1c0; refine Blk.thru (b := (w.heap.size + 1)) (arr := ?_) (t := ?_) ?_ hbwR ?_; rotate_left 2; (focus (exact blk)); intro p2; have p2c0 := p2.cell 0; have p2f0 := p2.free 0; have p2l := p2.lt; simp at p2c0; refine Blk.thru (b := (w.heap.size + 1 + 1)) (arr := ?_) (t := ?_) ?_ hbwR ?_; rotate_left 2; (focus (exact blk)); intro p3; have p3c0 := p3.cell 0; have p3f0 := p3.free 0; have p3l := p3.lt; simp at p3c0))
                          go_ret; exact ⟨rfl, by (exact kpt)⟩
                      · have hlt4 : ¬ (X : Int) < (Y : Int) := by omega
                        clear hed
                        refine Later.region (by kernel_rfl) (by kernel_rfl) ?_
                        repeat (first | go_big_quiet_skip | (go_big_quiet_want; go_big_quiet_op; first | go_big_quiet_on | (apply Exists.intro; refine ⟨fun g => ?_, ?_⟩; (focus (first | fail)); go_big_quiet_on)))
                        refine wpQuiet_nil ?_
                        intro gh
                        have hkgh := Kept.drop hkv gh.ok
                        have e1 := v1.keep hkgh
                        have e2 := v2.keep hkgh
                        have e3 := v3.keep hkgh
                        have e1c0 := e1.cell 0
                        have e1f0 := e1.free 0
                        have e1l := e1.lt
                        simp at e1c0
                        have e2c0 := e2.cell 0
                        have e2f0 := e2.free 0
                        have e2l := e2.lt
                        simp at e2c0
                        have e3c0 := e3.cell 0
                        have e3f0 := e3.free 0
                        have e3l := e3.lt
                        simp at e3c0
                        have HMS := Lib.hid HNL.out
                        rcases Nat.eq_zero_or_pos ms.length with hms | hms
                        · have hd0 : d.length = 0 := by
                            rcases HNL.out with h | h
                            · omega
                            · rw [h]; rfl
                          exfalso
                          omega
                        · have hms2 : (0 : Int) < (ms.length : Int) := by omega
                          go_upto_region 33 with fail
                          go_wp2_with (go_at_call 50; (with_reducible refine (o_free a0 c0 xs a1 c1 bs a2 c2 ms _ _ _ _ (h0.later (by (exact kpt)) (Nat.le_refl _)) hl0 hm0 hz (h1.later (by (exact kpt)) (Nat.le_refl _)) hl1 hm1 (h2.later (by (exact kpt)) (Nat.le_refl _)) hl2 hm2 ?_ ?_ ?_ HX.out HCM.out HBG.out h40 _ _ d _ rfl (sD.later (by (exact kpt)) (Nat.le_refl _)) hD1 hD2 true HDO.out).mono ?_); (focus (exact blk)); (focus (exact blk)); (focus (exact blk)); rintro e wQ ⟨rfl, hbwQ⟩; refine Blk.thru (b := w.heap.size) (arr := ?_) (t := ?_) ?_ hbwQ ?_; rotate_left 2; (focus (exact blk)); intro p1; have p1c0 := p1.cell 0; have p1f0 := p1.free 0; have p1l := p1.lt; simp at p1c0; refine Blk.thru (b := (w.heap.size + 1)) (arr := ?_) (t := ?_) ?_ hbwQ ?_; rotate_left 2; (focus (exact blk)); intro p2; have p2c0 := p2.cell 0; have p2f0 := p2.free 0; have p2l := p2.lt; simp at p2c0; refine Blk.thru (b := (w.heap.size + 1 + 1)) (arr := ?_) (t := ?_) ?_ hbwQ ?_; rotate_left 2; (focus (exact blk)); intro p3; have p3c0 := p3.cell 0; have p3f0 := p3.free 0; have p3l := p3.lt; simp at p3c0)
                          go_ret; exact ⟨rfl, by (exact kpt)⟩
                  · obtain rfl : d.length = k := by omega
                    have e1 := v1.keep hkk
                    have e2 := v2.keep hkk
                    have e3 := v3.keep hkk
                    have e1c0 := e1.cell 0
                    have e1f0 := e1.free 0
                    have e1l := e1.lt
                    simp at e1c0
                    have e2c0 := e2.cell 0
                    have e2f0 := e2.free 0
                    have e2l := e2.lt
                    simp at e2c0
                    have e3c0 := e3.cell 0
                    have e3f0 := e3.free 0
                    have e3l := e3.lt
                    simp at e3c0
                    have HMS := Lib.hid HNL.out
                    rcases Nat.eq_zero_or_pos ms.length with hms | hms
                    · have hd0 : d.length = 0 := by
                        rcases HNL.out with h | h
                        · omega
                        · rw [h]; rfl
                      have hms2 : ¬ (0 : Int) < (ms.length : Int) := by omega
                      have hd1 : ((d.length : Int) == 0) = true := by rw [beq_iff_eq]; omega
                      clear hd0
                      go_upto_region 33 with fail
                      go_wp2_with (go_at_call 50; (with_reducible refine (o_free a0 c0 xs a1 c1 bs a2 c2 ms _ _ _ _ (h0.later (by (exact kpt)) (Nat.le_refl _)) hl0 hm0 hz (h1.later (by (exact kpt)) (Nat.le_refl _)) hl1 hm1 (h2.later (by (exact kpt)) (Nat.le_refl _)) hl2 hm2 ?_ ?_ ?_ HX.out HCM.out HBG.out h40 _ _ d _ rfl (sD.later (by (exact kpt)) (Nat.le_refl _)) hD1 hD2 true HDO.out).mono ?_); (focus (exact blk)); (focus (exact blk)); (focus (exact blk)); rintro e wQ ⟨rfl, hbwQ⟩; refine Blk.thru (b := w.heap.size) (arr := ?_) (t := ?_) ?_ hbwQ ?_; rotate_left 2; (focus (exact blk)); intro p1; have p1c0 := p1.cell 0; have p1f0 := p1.free 0; have p1l := p1.lt; simp at p1c0; refine Blk.thru (b := (w.heap.size + 1)) (arr := ?_) (t := ?_) ?_ hbwQ ?_; rotate_left 2; (focus (exact blk)); intro p2; have p2c0 := p2.cell 0; have p2f0 := p2.free 0; have p2l := p2.lt; simp at p2c0; refine Blk.thru (b := (w.heap.size + 1 + 1)) (arr := ?_) (t := ?_) ?_ hbwQ ?_; rotate_left 2; (focus (exact blk)); intro p3; have p3c0 := p3.cell 0; have p3f0 := p3.free 0; have p3l := p3.lt; simp at p3c0)
                      go_ret; exact ⟨rfl, by (exact kpt)⟩
                    · have hms2 : (0 : Int) < (ms.length : Int) := by omega
                      go_upto_region 33 with fail
                      go_wp2_with (go_at_call 50; (with_reducible refine (o_free a0 c0 xs a1 c1 bs a2 c2 ms _ _ _ _ (h0.later (by (exact kpt)) (Nat.le_refl _)) hl0 hm0 hz (h1.later (by (exact kpt)) (Nat.le_refl _)) hl1 hm1 (h2.later (by (exact kpt)) (Nat.le_refl _)) hl2 hm2 ?_ ?_ ?_ HX.out HCM.out HBG.out h40 _ _ d _ rfl (sD.later (by (exact kpt)) (Nat.le_refl _)) hD1 hD2 true HDO.out).mono ?_); (focus (exact blk)); (focus (exact blk)); (focus (exact blk)); rintro e wQ ⟨rfl, hbwQ⟩; refine Blk.thru (b := w.heap.size) (arr := ?_) (t := ?_) ?_ hbwQ ?_; rotate_left 2; (focus (exact blk)); intro p1; have p1c0 := p1.cell 0; have p1f0 := p1.free 0; have p1l := p1.lt; simp at p1c0; refine Blk.thru (b := (w.heap.size + 1)) (arr := ?_) (t := ?_) ?_ hbwQ ?_; rotate_left 2; (focus (exact blk)); intro p2; have p2c0 := p2.cell 0; have p2f0 := p2.free 0; have p2l := p2.lt; simp at p2c0; refine Blk.thru (b := (w.heap.size + 1 + 1)) (arr := ?_) (t := ?_) ?_ hbwQ ?_; rotate_left 2; (focus (exact blk)); intro p3; have p3c0 := p3.cell 0; have p3f0 := p3.free 0; have p3l := p3.lt; simp at p3c0)
                      go_ret; exact ⟨rfl, by (exact kpt)⟩
              · have l1 : ¬ (o.length : Int) < (d.length : Int) := by omega
                have l2 : ((o.length : Int) = (d.length : Int)) = False := by simp; omega
                have e1 := v1.keep hkk
                have e2 := v2.keep hkk
                have e3 := v3.keep hkk
                have e1c0 := e1.cell 0
                have e1f0 := e1.free 0
                have e1l := e1.lt
                simp at e1c0
                have e2c0 := e2.cell 0
                have e2f0 := e2.free 0
                have e2l := e2.lt
                simp at e2c0
                have e3c0 := e3.cell 0
                have e3f0 := e3.free 0
                have e3l := e3.lt
                simp at e3c0
                have HMS := Lib.hid HNL.out
                rcases Nat.eq_zero_or_pos ms.length with hms | hms
                · have hd0 : d.length = 0 := by
                    rcases HNL.out with h | h
                    · omega
                    · rw [h]; rfl
                  have hms2 : ¬ (0 : Int) < (ms.length : Int) := by omega
                  have hd1 : ((d.length : Int) == 0) = true := by rw [beq_iff_eq]; omega
                  clear hd0
                  go_upto_region 33 with fail
                  go_wp2_with (go_at_call 50; (with_reducible refine (o_free a0 c0 xs a1 c1 bs a2 c2 ms _ _ _ _ (h0.later (by (exact kpt)) (Nat.le_refl _)) hl0 hm0 hz (h1.later (by (exact kpt)) (Nat.le_refl _)) hl1 hm1 (h2.later (by (exact kpt)) (Nat.le_refl _)) hl2 hm2 ?_ ?_ ?_ HX.out HCM.out HBG.out h40 _ _ d _ rfl (sD.later (by (exact kpt)) (Nat.le_refl _)) hD1 hD2 true HDO.out).mono ?_); (focus (exact blk)); (focus (exact blk)); (focus (exact blk)); rintro e wQ ⟨rfl, hbwQ⟩; refine Blk.thru (b := w.heap.size) (arr := ?_) (t := ?_) ?_ hbwQ ?_; rotate_left 2; (focus (exact blk)); intro p1; have p1c0 := p1.cell 0; have p1f0 := p1.free 0; have p1l := p1.lt; simp at p1c0; refine Blk.thru (b := (w.heap.size + 1)) (arr := ?_) (t := ?_) ?_ hbwQ ?_; rotate_left 2; (focus (exact blk)); intro p2; have p2c0 := p2.cell 0; have p2f0 := p2.free 0; have p2l := p2.lt; simp at p2c0; refine Blk.thru (b := (w.heap.size + 1 + 1)) (arr := ?_) (t := ?_) ?_ hbwQ ?_; rotate_left 2; (focus (exact blk)); intro p3; have p3c0 := p3.cell 0; have p3f0 := p3.free 0; have p3l := p3.lt; simp at p3c0)
                  go_ret; exact ⟨rfl, by (exact kpt)⟩
                · have hms2 : (0 : Int) < (ms.length : Int) := by omega
                  go_upto_region 33 with fail
                  go_wp2_with (go_at_call 50; (with_reducible refine (o_free a0 c0 xs a1 c1 bs a2 c2 ms _ _ _ _ (h0.later (by (exact kpt)) (Nat.le_refl _)) hl0 hm0 hz (h1.later (by (exact kpt)) (Nat.le_refl _)) hl1 hm1 (h2.later (by (exact kpt)) (Nat.le_refl _)) hl2 hm2 ?_ ?_ ?_ HX.out HCM.out HBG.out h40 _ _ d _ rfl (sD.later (by (exact kpt)) (Nat.le_refl _)) hD1 hD2 true HDO.out).mono ?_); (focus (exact blk)); (focus (exact blk)); (focus (exact blk)); rintro e wQ ⟨rfl, hbwQ⟩; refine Blk.thru (b := w.heap.size) (arr := ?_) (t := ?_) ?_ hbwQ ?_; rotate_left 2; (focus (exact blk)); intro p1; have p1c0 := p1.cell 0; have p1f0 := p1.free 0; have p1l := p1.lt; simp at p1c0; refine Blk.thru (b := (w.heap.size + 1)) (arr := ?_) (t := ?_) ?_ hbwQ ?_; rotate_left 2; (focus (exact blk)); intro p2; have p2c0 := p2.cell 0; have p2f0 := p2.free 0; have p2l := p2.lt; simp at p2c0; refine Blk.thru (b := (w.heap.size + 1 + 1)) (arr := ?_) (t := ?_) ?_ hbwQ ?_; rotate_left 2; (focus (exact blk)); intro p3; have p3c0 := p3.cell 0; have p3f0 := p3.free 0; have p3l := p3.lt; simp at p3c0)
                  go_ret; exact ⟨rfl, by (exact kpt)⟩
theorem law_TrimDropped_u (a0 : Option Addr) (c0 : Nat) (xs : List Load) (a1 : Option Addr) (c1 : Nat) (bs : List Put) (a2 : Option Addr) (c2 : Nat) (ms : List Limit) (m : Int) (hm16 : 0 ≤ m ∧ m ≤ 65535) (w : World) (h0 : Row Load.cells 4 w.heap.size w a0 xs) (hl0 : xs.length ≤ c0) (hm0 : c0 ≤ maxLen) (hz : a0 = none → c0 = 0) (h1 : Row Put.cells 2 w.heap.size w a1 bs) (hl1 : bs.length ≤ c1) (hm1 : c1 ≤ maxLen) (h2 : Row Limit.cells 3 w.heap.size w a2 ms) (hl2 : ms.length ≤ c2) (hm2 : c2 ≤ maxLen) :
    Calls Try.prog 9 #[.slice a0 xs.length c0, .slice a1 bs.length c1, .slice a2 ms.length c2, .int .u16 m] w fun e w' => e = .returned (.bool true) ∧ Kept w w' := by
  obtain ⟨q, rfl⟩ := Int.eq_ofNat_of_zero_le hm16.1
  exact law_TrimDropped a0 c0 xs a1 c1 bs a2 c2 ms q (by omega) w h0 hl0 hm0 hz h1 hl1 hm1 h2 hl2 hm2
end Go.Proofs.Ytlloijkmpmfapaa

/-
  TrimDropped, the statement: for every input the call returns true and leaves the input alone.
-/
namespace Go.Proofs.Ytlloijkmpmfapaa.trimDropped
open Go.ChangeShapes Go.WideShapes Go.ChangeAt Go.RowKit Bal Bal.Trim
open Go.ChangeMaps (open_string shut_string)
set_option linter.unusedVariables false

theorem own : ownKnob Try.prog.godebug = none := by kernel_rfl
theorem laidOut : laidOutB Try.prog = true := by kernel_rfl

set_option maxRecDepth 100000 in
theorem lifted (os : Os) (started : os.Started) (H : Type) (enc : TypeId × Value → H) :
    ReturnsInHanded {} Try.checked os 9 .any (Rows.trimDroppedSpec.pre6 enc Try.prog Try.f9 Rows.trimDroppedRow.domain false) (Rows.trimDroppedSpec.post enc Try.prog Try.f9 false true false false) := by
  refine returnsInHanded_of_change (C := Try.checked) own started (by kernel_rfl) Try.func9
    (ChangeSpec.witness6 (enc := enc) (C := Try.checked) false ⟨#[], #[.slice none 0 0, .slice none 0 0, .slice none 0 0, .int .u16 0], []⟩ 8 (by kernel_rfl) (by kernel_rfl) (by kernel_rfl) (by kernel_rfl)) ?_
  intro W base args ds gs before hval0 hW hcnd _
  have hval : ∀ (j : Nat) t v, Try.f9.params[j]? = some t → args[j]? = some v → Value.okWide Try.prog W .any base t v := hval0
  have hW' := hW
  obtain ⟨p, q, hA0, hV, rfl, hfz, hnd⟩ := hW
  have hA : DataW.TrodAll enc Try.prog W 0 (fun _ => true) true Try.f9.params.toList args.toList ds p := hA0
  rw [Try.params9] at hA hval
  obtain ⟨v0, vs0, d0, ds0, p0, q0, hargs, rfl, rfl, h0, r0⟩ := trodAll_cons hA
  obtain ⟨v1, vs1, d1, ds1, p1, q1, rfl, rfl, rfl, h1, r1⟩ := trodAll_cons r0
  obtain ⟨v2, vs2, d2, ds2, p2, q2, rfl, rfl, rfl, h2, r2⟩ := trodAll_cons r1
  obtain ⟨v3, vs3, d3, ds3, p3, q3, rfl, rfl, rfl, h3, r3⟩ := trodAll_cons r2
  obtain ⟨rfl, rfl, rfl⟩ := trodAll_nil r3
  obtain rfl : args = #[v0, v1, v2, v3] := by cases args; simp_all
  obtain ⟨rfl, rfl⟩ := trodVars_none hV
  have k0 := h0
  have lt0 : ∀ x ∈ p0, x.block < W.heap.size := by obtain ⟨m, hm⟩ := k0; exact DataW.trod_lt m _ _ _ hm
  obtain ⟨a0, len0, cap0, rfl⟩ := okWide_slice Try.underlying22 (hval 0 22 v0 rfl rfl)
  obtain ⟨fuel0, hf0⟩ := h0
  obtain ⟨b0, c0, xs0, e0, hl0, hm0, row0, wf0, z0⟩ := open_typed (n := 4) (fun _ h => Load.of_leaves h) Try.underlying22 (by kernel_rfl) (by kernel_rfl) (by decide) hf0
  simp [Value.cells] at e0
  obtain ⟨rfl, rfl, rfl⟩ := e0
  have k1 := h1
  have lt1 : ∀ x ∈ p1, x.block < W.heap.size := by obtain ⟨m, hm⟩ := k1; exact DataW.trod_lt m _ _ _ hm
  obtain ⟨a1, len1, cap1, rfl⟩ := okWide_slice Try.underlying34 (hval 1 34 v1 rfl rfl)
  obtain ⟨fuel1, hf1⟩ := h1
  obtain ⟨b1, c1, xs1, e1, hl1, hm1, row1, wf1, z1⟩ := open_typed (n := 4) (fun _ h => Put.of_leaves h) Try.underlying34 (by kernel_rfl) (by kernel_rfl) (by decide) hf1
  simp [Value.cells] at e1
  obtain ⟨rfl, rfl, rfl⟩ := e1
  have k2 := h2
  have lt2 : ∀ x ∈ p2, x.block < W.heap.size := by obtain ⟨m, hm⟩ := k2; exact DataW.trod_lt m _ _ _ hm
  obtain ⟨a2, len2, cap2, rfl⟩ := okWide_slice Try.underlying23 (hval 2 23 v2 rfl rfl)
  obtain ⟨fuel2, hf2⟩ := h2
  obtain ⟨b2, c2, xs2, e2, hl2, hm2, row2, wf2, z2⟩ := open_typed (n := 4) (fun _ h => Limit.of_leaves h) Try.underlying23 (by kernel_rfl) (by kernel_rfl) (by decide) hf2
  simp [Value.cells] at e2
  obtain ⟨rfl, rfl, rfl⟩ := e2
  obtain ⟨a3, rfl, rfl, rfl, w3⟩ := open_int Try.underlying81 (hval 3 81 v3 rfl rfl) h3
  clear hA0 hval0
  refine (law_TrimDropped_u _ _ xs0 _ _ xs1 _ _ xs2 a3 (wf_u16 w3) W row0 hl0 hm0 z0 row1 hl1 hm1 row2 hl2 hm2).mono fun e W' ⟨he, bel⟩ => ?_
  subst he
  exact ⟨_, rfl, _, _, _, [], _, [], hW', trodAll_mk1 (shut_bool Try.underlying4 _), (trodAll_cons_mk (Below.trod laidOut (by kernel_rfl) (of_decide_eq_true (by kernel_rfl)) k0 bel lt0) (trodAll_cons_mk (Below.trod laidOut (by kernel_rfl) (of_decide_eq_true (by kernel_rfl)) k1 bel lt1) (trodAll_cons_mk (Below.trod laidOut (by kernel_rfl) (of_decide_eq_true (by kernel_rfl)) k2 bel lt2) (trodAll_cons_mk (shut_int Try.underlying81 w3) trodAll_mk0)))), rfl, bel.frame _, fun h => by cases h⟩

theorem joined : joinedFacts Try.prog 9 Try.f9 Rows.trimDroppedSpec Rows.trimDroppedRow = true := by
  unfold joinedFacts
  rw [mayEnter_is, liftsFinal_is, make_is]
  kernel_rfl
theorem over : Rows.trimDroppedRow.holds Try.pinned (OpenSpec.ofChange Rows.trimDroppedSpec) :=
  OpenClaim.holds_of_wide 9 Try.f9 rfl rfl rfl rfl rfl rfl rfl ⟨rfl, rfl, rfl, rfl, rfl⟩ rfl rfl rfl rfl rfl (by kernel_rfl) Try.func9 joined
    (of_decide_eq_true (by kernel_rfl)) (by unfold Func.isWrapper; first | (rw [if_pos (by decide +kernel)]; kernel_rfl) | (rw [if_neg (by decide +kernel)]; exact ⟨rfl, rfl⟩))
    (fun os started H enc _ => lifted os started H enc)
end Go.Proofs.Ytlloijkmpmfapaa.trimDropped

namespace Go.Proofs.Ytlloijkmpmfapaa
theorem trimDropped_holds : Rows.TrimDroppedSaid := trimDropped.over
#print axioms trimDropped_holds
end Go.Proofs.Ytlloijkmpmfapaa
