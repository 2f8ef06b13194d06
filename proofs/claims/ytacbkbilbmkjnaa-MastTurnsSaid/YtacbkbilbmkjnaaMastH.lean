/-
  The persons that lines need, in the program and in the reference.
-/
import Derived.Test.YtacbkbilbmkjnaaMastD
import Derived.Test.YtacbkbilbmkjnaaOwn
namespace Go.Proofs.Ytacbkbilbmkjnaa
open Go.RowKit Bal Bal.Trim Bal.Mast
set_option linter.unusedVariables false
set_option linter.unusedSimpArgs false
set_option maxHeartbeats 2000000
set_option maxRecDepth 10000

theorem infoI : (Try.prog.info? 3).map (fun i => (i.zero, i.size, i.bytes)) = some (some (.int .i64 0), 1, 8) := by kernel_rfl
theorem cell_one {w : World} {n : Nat} (h : n = w.heap.size) (x : Value) (t : TypeId) : ∀ j u, [x][j]? = some u → (w.alloc (.cells #[x] t)).cell? ((⟨n, 0, none⟩ : Addr).add j) = some u := by
  subst h
  intro j u hj
  match j, hj with
  | 0, hj => simp at hj; subst hj; simp [Addr.add]
  | j + 1, hj => simp at hj
theorem info_parts {P : Program} {e : TypeId} {z : Value} {s b : Nat} (h : (P.info? e).map (fun i => (i.zero, i.size, i.bytes)) = some (some z, s, b)) : ∃ i, P.info? e = some i ∧ i.zero = some z ∧ i.size = s ∧ i.bytes = b := by
  cases hi : P.info? e with
  | none => rw [hi] at h; cases h
  | some i => rw [hi] at h; simp at h; exact ⟨i, rfl, h.1, h.2.1, h.2.2⟩
theorem owns_row {α : Type} {enc : α → List Value} {k base : Nat} {e : TypeId} {w : World} {v : Value} {xs : List α} (he : ∀ x, (enc x).length = k) (h : w.ownsRow base e k v xs.length (xs.flatMap enc)) :
    ∃ a cap, v = .slice a xs.length cap ∧ Row enc k w.heap.size w a xs ∧ xs.length ≤ cap ∧ cap ≤ maxLen := Row.of_owns he h

theorem f_needed (a : Option Addr) (cap : Nat) (xs : List Span) (m : Int) (w : World) (hx : Row Span.cells 2 w.heap.size w a xs) (hn : xs.length ≤ 8) (hv : ∀ s ∈ xs, lineB s = true) (hm1 : 1 ≤ m) (hm2 : m ≤ 1000000) :
    Calls Try.prog 59 #[.slice a xs.length cap, .int .i64 m] w fun e w' => ∃ v, e = .returned (.tuple #[v, .int .i64 (total (needs m xs))]) ∧ w'.ownsRow w.heap.size 3 1 v (needs m xs).length ((needs m xs).flatMap icell) ∧ Kept w w' := by
  have HV := Lib.hid hv
  clear hv
  go_enter Try.func59, Try.ntmps59
  go_wp2
  go_loopw [6, 7, 13] (fun l s i wr => ∃ k : Nat, k ≤ xs.length ∧ i = .int .i64 k ∧ s = .int .i64 (total (needs m (xs.take k))) ∧ wr.ownsRow w.heap.size 3 1 l (needs m (xs.take k)).length ((needs m (xs.take k)).flatMap icell) ∧ Kept w wr) (fun _ _ i _ => xs.length - (intOf i).toNat)
  case atStart => exact ⟨0, Nat.zero_le _, rfl, rfl, owns_nil (α := Int) (enc := icell), Below.refl _ _⟩
  case round =>
    obtain ⟨k, hk, rfl, rfl, hown, hkk⟩ := hrel
    have hsz := hkk.size
    by_cases hlt : k < xs.length
    · skip
      obtain ⟨bb, off, rfl, hbl, h0, h1⟩ := Span.row (hx.later hkk (Nat.le_refl _)) k hlt
      have HN := Lib.hid (needs_take (m := m) hlt)
      have hb := line_bd (HV.out _ (List.getElem_mem hlt))
      have htk := total_bd (needs_bd hm1 (fun s hs => HV.out s (List.mem_of_mem_take hs)) (m := m) (l := xs.take k))
      have hll : (needs m (xs.take k)).length ≤ 8 := by rw [needs_len, List.length_take]; omega
      obtain ⟨y, hy0⟩ : ∃ y, y = xs[k] := ⟨_, rfl⟩
      rw [← hy0] at HN hb h0 h1
      clear hy0
      have hnb := need_bd hm1 hb.1 hb.2
      have HQ : (y.hi + m - 1) / m = needOf m y := rfl
      have HT : (y.hi + m - 1).tdiv m = needOf m y := by rw [Int.tdiv_eq_ediv_of_nonneg (by omega)]; rfl
      obtain ⟨q, hq⟩ : ∃ q, q = needOf m y := ⟨_, rfl⟩
      rw [← hq] at HN HQ HT hnb
      clear hq
      have HS : total (needs m (xs.take k)) + q = total (needs m (xs.take (k + 1))) := by rw [HN.out, total_snoc]
      obtain ⟨T, hT⟩ : ∃ T, T = total (needs m (xs.take k)) := ⟨_, rfl⟩
      rw [← hT] at htk HS
      rw [← hT]
      clear hT
      have HSS := Lib.hid HS
      clear HS
      go_wp2_with (at_builtin; obtain ⟨i0, hi, hz0, hz1, hz2⟩ := info_parts infoI; refine wpList_append_own _ rfl _ _ 51 rfl w.heap.size 3 i0 (.int .i64 0) 1 8 Try.underlying51 hi hz0 hz1 hz2 rfl (by decide) _ _ _ rfl ((hown.alloc _).alloc _) ⟨_, 0, none⟩ 1 1 [.int .i64 q] rfl rfl (cell_one (by simp) _ _) (fun x hx => by simp at hx; subst hx; rfl) (by unfold maxLen; omega) (by omega) (by simp only [World.size_alloc]; omega) ?_; intro v9 w9 hown9 hgrow9 hnil9; clear hi hz0 hz1 hz2)
      have hK9 : Kept w w9 := Kept.grown (by (repeat (first | with_reducible exact Below.refl _ _ | with_reducible assumption | with_reducible refine Kept.drop ?_ (by with_reducible assumption) | with_reducible refine Kept.alloc ?_ _ | ((with_reducible refine Below.setCell ?_ ?_ _); rotate_left 1; (focus (first | exact Nat.le_refl _ | (simp; done) | (simp; omega) | exact Below.size (by with_reducible assumption) | (refine Kept.size ?_; (repeat (first | with_reducible exact Below.refl _ _ | with_reducible assumption | with_reducible refine Kept.drop ?_ (by with_reducible assumption) | with_reducible refine Kept.alloc ?_ _ | with_reducible refine Below.drew ?_)))))) | with_reducible refine Below.drew ?_))) ((hown.alloc _).alloc _) (Nat.le_refl _) hgrow9
      go_roundw
      case rel => exact ⟨k + 1, by omega, by go_num, by rw [HSS.out], by rw [HN.out, List.flatMap_append, List.length_append]; exact hown9, hK9⟩
      case measure => simp [intOf]; omega
    · obtain rfl : xs.length = k := by omega
      obtain ⟨ad, cp, rfl, hrow, hcp, hcm⟩ := owns_row (enc := icell) (k := 1) (fun _ => rfl) hown
      rw [List.take_length] at hown
      go_wp2
      exact bodyPost_ret (v := .tuple #[.slice ad (needs m (xs.take xs.length)).length cp, .int .i64 (total (needs m (xs.take xs.length)))]) (by simp [results, Try.results59, go_sem]) rfl ⟨_, by first | rfl | rw [List.take_length], by first | exact hown | (rw [List.take_length]; exact hown), hkk⟩

theorem r_needs (a : Option Addr) (cap : Nat) (xs : List Span) (m : Int) (w : World) (hx : Row Span.cells 2 w.heap.size w a xs) (hn : xs.length ≤ 8) (hv : ∀ s ∈ xs, lineB s = true) (hm1 : 1 ≤ m) (hm2 : m ≤ 1000000) :
    Calls Try.prog 61 #[.slice a xs.length cap, .int .i64 m] w fun e w' => ∃ v, e = .returned v ∧ w'.ownsRow w.heap.size 3 1 v (needs m xs).length ((needs m xs).flatMap icell) ∧ Kept w w' := by
  have HV := Lib.hid hv
  clear hv
  go_enter Try.func61, Try.ntmps61
  go_wp2
  go_loopw [5, 6] (fun l i wr => ∃ k : Nat, k ≤ xs.length ∧ i = .int .i64 k ∧ wr.ownsRow w.heap.size 3 1 l (needs m (xs.take k)).length ((needs m (xs.take k)).flatMap icell) ∧ Kept w wr) (fun _ i _ => xs.length - (intOf i).toNat)
  case atStart => exact ⟨0, Nat.zero_le _, rfl, owns_nil (α := Int) (enc := icell), Below.refl _ _⟩
  case round =>
    obtain ⟨k, hk, rfl, hown, hkk⟩ := hrel
    have hsz := hkk.size
    by_cases hlt : k < xs.length
    · skip
      obtain ⟨bb, off, rfl, hbl, h0, h1⟩ := Span.row (hx.later hkk (Nat.le_refl _)) k hlt
      have HN := Lib.hid (needs_take (m := m) hlt)
      have hb := line_bd (HV.out _ (List.getElem_mem hlt))
      have htk := total_bd (needs_bd hm1 (fun s hs => HV.out s (List.mem_of_mem_take hs)) (m := m) (l := xs.take k))
      have hll : (needs m (xs.take k)).length ≤ 8 := by rw [needs_len, List.length_take]; omega
      obtain ⟨y, hy0⟩ : ∃ y, y = xs[k] := ⟨_, rfl⟩
      rw [← hy0] at HN hb h0 h1
      clear hy0
      have hnb := need_bd hm1 hb.1 hb.2
      have HQ : (y.hi + m - 1) / m = needOf m y := rfl
      have HT : (y.hi + m - 1).tdiv m = needOf m y := by rw [Int.tdiv_eq_ediv_of_nonneg (by omega)]; rfl
      obtain ⟨q, hq⟩ : ∃ q, q = needOf m y := ⟨_, rfl⟩
      rw [← hq] at HN HQ HT hnb
      clear hq
      go_wp2_with (at_builtin; obtain ⟨i0, hi, hz0, hz1, hz2⟩ := info_parts infoI; refine wpList_append_own _ rfl _ _ 51 rfl w.heap.size 3 i0 (.int .i64 0) 1 8 Try.underlying51 hi hz0 hz1 hz2 rfl (by decide) _ _ _ rfl (hown.alloc _) ⟨_, 0, none⟩ 1 1 [.int .i64 q] rfl rfl (cell_one (by simp) _ _) (fun x hx => by simp at hx; subst hx; rfl) (by unfold maxLen; omega) (by omega) (by simp only [World.size_alloc]; omega) ?_; intro v9 w9 hown9 hgrow9 hnil9; clear hi hz0 hz1 hz2)
      have hK9 : Kept w w9 := Kept.grown (by (repeat (first | with_reducible exact Below.refl _ _ | with_reducible assumption | with_reducible refine Kept.drop ?_ (by with_reducible assumption) | with_reducible refine Kept.alloc ?_ _ | ((with_reducible refine Below.setCell ?_ ?_ _); rotate_left 1; (focus (first | exact Nat.le_refl _ | (simp; done) | (simp; omega) | exact Below.size (by with_reducible assumption) | (refine Kept.size ?_; (repeat (first | with_reducible exact Below.refl _ _ | with_reducible assumption | with_reducible refine Kept.drop ?_ (by with_reducible assumption) | with_reducible refine Kept.alloc ?_ _ | with_reducible refine Below.drew ?_)))))) | with_reducible refine Below.drew ?_))) (hown.alloc _) (Nat.le_refl _) hgrow9
      go_roundw
      case rel => exact ⟨k + 1, by omega, by go_num, by rw [HN.out, List.flatMap_append, List.length_append]; exact hown9, hK9⟩
      case measure => simp [intOf]; omega
    · obtain rfl : xs.length = k := by omega
      obtain ⟨ad, cp, rfl, hrow, hcp, hcm⟩ := owns_row (enc := icell) (k := 1) (fun _ => rfl) hown
      rw [List.take_length] at hown
      go_wp2
      exact bodyPost_ret (v := .slice ad (needs m (xs.take xs.length)).length cp) (by simp [results, Try.results61, go_sem]) rfl ⟨_, by first | rfl | rw [List.take_length], by first | exact hown | (rw [List.take_length]; exact hown), hkk⟩

theorem r_total (a : Option Addr) (cap : Nat) (xs : List Int) (w : World) (hx : Row icell 1 w.heap.size w a xs) (hn : xs.length ≤ 8) (hb : ∀ x ∈ xs, 0 ≤ x ∧ x ≤ 1000000) :
    Calls Try.prog 62 #[.slice a xs.length cap] w fun e w' => e = .returned (.int .i64 (total xs)) ∧ w = w' := by
  have HB := Lib.hid hb
  clear hb
  go_enter Try.func62, Try.ntmps62
  go_wp2
  go_loop [3, 4] (fun s i => ∃ k : Nat, k ≤ xs.length ∧ i = .int .i64 k ∧ s = .int .i64 (total (xs.take k))) (fun _ i => xs.length - (intOf i).toNat)
  case atStart => exact ⟨0, Nat.zero_le _, rfl, rfl⟩
  case round =>
    obtain ⟨k, hk, rfl, rfl⟩ := hrel
    by_cases hlt : k < xs.length
    · obtain ⟨b, off, rfl, _, ck⟩ := int_row hx k hlt
      have hy := HB.out _ (List.getElem_mem hlt)
      have htk := total_bd (fun x hx => HB.out x (List.mem_of_mem_take hx)) (xs := xs.take k)
      have hlk : (xs.take k).length ≤ 8 := by rw [List.length_take]; omega
      have HS : total (xs.take k) + xs[k] = total (xs.take (k + 1)) := by rw [List.take_succ_eq_append_getElem hlt, total_snoc]
      obtain ⟨y, hy0⟩ : ∃ y, y = xs[k] := ⟨_, rfl⟩
      obtain ⟨T, hT⟩ : ∃ T, T = total (xs.take k) := ⟨_, rfl⟩
      rw [← hy0] at hy HS ck
      rw [← hT] at htk HS
      rw [← hT]
      clear hT hy0
      have HSS := Lib.hid HS
      clear HS
      go_wp2
      go_round
      case rel => exact ⟨k + 1, by omega, by go_num, by rw [HSS.out]⟩
      case measure => simp [intOf]; omega
    · obtain rfl : k = xs.length := by omega
      go_wp2
      go_ret
      exact ⟨ret_int (by first | rfl | rw [List.take_length]), rfl⟩

end Go.Proofs.Ytacbkbilbmkjnaa
