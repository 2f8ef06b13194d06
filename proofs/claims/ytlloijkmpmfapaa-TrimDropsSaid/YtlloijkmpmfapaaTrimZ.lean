/-
  Small functions of the bags.
-/
import Derived.Test.YtlloijkmpmfapaaTrimR
import Derived.Test.YtlloijkmpmfapaaRowsY
namespace Go.Proofs.Ytlloijkmpmfapaa
open Go.RowKit Bal Bal.Trim
set_option linter.unusedVariables false
set_option linter.unusedSimpArgs false
set_option maxHeartbeats 800000

set_option maxRecDepth 10000
theorem infoLoad : (Try.prog.info? 88).map (fun i => (i.zero, i.size, i.bytes)) = some (some (.agg #[.int .i64 0, .int .i64 0, .int .i64 0, .int .i64 0]), 4, 32) := by kernel_rfl

theorem f_exact (p : Put) (w : World) :
    Calls Try.prog 93 #[.agg #[.int .i64 p.pos, .int .i64 p.wt]] w fun e w' => e = .returned (.agg #[.int .i64 p.pos, .int .i64 p.pos, .int .i64 p.wt, .int .i64 p.wt]) ∧ Kept w w' := by
  go_enter Try.func93, Try.ntmps93
  go_wp2
  exact bodyPost_ret (v := .agg #[.int .i64 p.pos, .int .i64 p.pos, .int .i64 p.wt, .int .i64 p.wt]) (by simp [results, Try.results93, go_sem]) rfl ⟨rfl, by (repeat (first | with_reducible exact Below.refl _ _ | with_reducible assumption | with_reducible refine Kept.drop ?_ (by with_reducible assumption) | with_reducible refine Kept.alloc ?_ _ | ((with_reducible refine Below.setCell ?_ ?_ _); rotate_left 1; (focus (first | exact Nat.le_refl _ | (simp; done) | (simp; omega) | exact Below.size (by with_reducible assumption) | (refine Kept.size ?_; (repeat (first | with_reducible exact Below.refl _ _ | with_reducible assumption | with_reducible refine Kept.drop ?_ (by with_reducible assumption) | with_reducible refine Kept.alloc ?_ _ | with_reducible refine Below.drew ?_)))))) | with_reducible refine Below.drew ?_))⟩

theorem r_exactly (p : Put) (w : World) :
    Calls Try.prog 98 #[.int .i64 p.pos, .int .i64 p.wt] w fun e w' => e = .returned (.agg #[.int .i64 p.pos, .int .i64 p.pos, .int .i64 p.wt, .int .i64 p.wt]) ∧ Kept w w' := by
  go_enter Try.func98, Try.ntmps98
  go_wp2
  exact bodyPost_ret (v := .agg #[.int .i64 p.pos, .int .i64 p.pos, .int .i64 p.wt, .int .i64 p.wt]) (by simp [results, Try.results98, go_sem]) rfl ⟨rfl, by (repeat (first | with_reducible exact Below.refl _ _ | with_reducible assumption | with_reducible refine Kept.drop ?_ (by with_reducible assumption) | with_reducible refine Kept.alloc ?_ _ | ((with_reducible refine Below.setCell ?_ ?_ _); rotate_left 1; (focus (first | exact Nat.le_refl _ | (simp; done) | (simp; omega) | exact Below.size (by with_reducible assumption) | (refine Kept.size ?_; (repeat (first | with_reducible exact Below.refl _ _ | with_reducible assumption | with_reducible refine Kept.drop ?_ (by with_reducible assumption) | with_reducible refine Kept.alloc ?_ _ | with_reducible refine Below.drew ?_)))))) | with_reducible refine Below.drew ?_))⟩

def indexOf (n : Int) (xs : List Int) : Int := match xs.findIdx? (fun x => decide (x = n)) with | some i => i | none => -1
theorem s_Index (a : Option Addr) (cap : Nat) (xs : List Int) (n : Int) (w : World) (hx : Row icell 1 w.heap.size w a xs) (hc : xs.length ≤ cap) (hM : cap ≤ maxLen) :
    Calls Try.prog 115 #[.slice a xs.length cap, .int .i64 n] w fun e w' => (∃ r : Int, e = .returned (.int .i64 r) ∧ (0 ≤ r ↔ n ∈ xs) ∧ -1 ≤ r) ∧ w = w' := by
  unfold maxLen at hM
  go_enter Try.func115, Try.ntmps115
  go_wp2
  go_loop [8] (fun i => ∃ k : Nat, k ≤ xs.length ∧ i = .int .i64 k ∧ ∀ x ∈ xs.take k, x ≠ n) (fun i => xs.length - (intOf i).toNat)
  case atStart => exact ⟨0, Nat.zero_le _, rfl, by simp⟩
  case round =>
    obtain ⟨k, hk, rfl, hno⟩ := hrel
    have HNO := Lib.hid hno
    clear hno
    by_cases hlt : k < xs.length
    · obtain ⟨b, off, rfl, _, ck⟩ := int_row hx k hlt
      have HME := Lib.hid (List.getElem_mem hlt)
      have HTK := Lib.hid (List.take_succ_eq_append_getElem hlt)
      obtain ⟨x, hx0⟩ : ∃ x, x = xs[k] := ⟨_, rfl⟩
      rw [← hx0] at HME HTK ck
      clear hx0
      by_cases he : n = x
      · have HI := Lib.hid (show n ∈ xs from he ▸ HME.out)
        go_wp2
        go_ret
        exact ⟨⟨k, rfl, ⟨fun _ => by first | exact HI.out | exact HME.out, fun _ => by omega⟩, by omega⟩, rfl⟩
      · have HE := Lib.hid (show x ≠ n from fun e => he e.symm)
        go_wp2
        go_round
        case rel =>
          refine ⟨k + 1, by omega, by go_num, ?_⟩
          rw [HTK.out]
          intro y hy
          rcases List.mem_append.1 hy with hy | hy
          · exact HNO.out y hy
          · simp at hy; subst hy; exact HE.out
        case measure => simp [intOf]; omega
    · obtain rfl : k = xs.length := by omega
      go_wp2
      go_ret
      refine ⟨⟨-1, rfl, ⟨fun h => by omega, fun h => ?_⟩, by omega⟩, rfl⟩
      exact absurd rfl (HNO.out n (by rw [List.take_length]; exact h))

theorem s_Contains (a : Option Addr) (cap : Nat) (xs : List Int) (n : Int) (w : World) (hx : Row icell 1 w.heap.size w a xs) (hc : xs.length ≤ cap) (hM : cap ≤ maxLen) :
    Calls Try.prog 92 #[.slice a xs.length cap, .int .i64 n] w fun e w' => e = .returned (.bool (decide (n ∈ xs))) ∧ w = w' := by
  go_enter Try.func92, Try.ntmps92
  go_wp2_with (go_at_call 115; (with_reducible refine (s_Index _ _ xs n _ hx hc hM).mono ?_); rintro e w1 ⟨⟨r, rfl, hr1, hr2⟩, rfl⟩)
  go_ret
  refine ⟨ret_bool ?_, rfl⟩
  first | exact decide_eq_decide.2 hr1 | simp [hr1]

theorem s_CloneL (a : Option Addr) (cap : Nat) (xs : List Load) (w : World) (hx : Row Load.cells 4 w.heap.size w a xs) (hn : xs.length ≤ 1000) (hz : a = none → cap = 0) :
    Calls Try.prog 91 #[.slice a xs.length cap] w fun e w' => ∃ v, e = .returned v ∧ w'.ownsRow w.heap.size 88 4 v xs.length (xs.flatMap Load.cells) ∧ Kept w w' := by
  cases a with
  | none =>
    have hl : xs = [] := by
      cases xs with
      | nil => rfl
      | cons y ys => obtain ⟨b, off, ha, _⟩ := hx 0 y rfl; cases ha
    subst hl
    have := hz rfl
    subst this
    have hs0 : ∀ w, (binOp .eql 22 (.slice none 0 0) (.slice none 0 0)).run Try.prog w = .ok (.bool true) w := fun w => Lib.run_eql_slice_nil w _ _ _ _ _ _ _ Try.underlying22
    go_enter Try.func91, Try.ntmps91
    go_wp2
    exact bodyPost_ret (v := .slice none 0 0) (by simp [results, Try.results91, go_sem]) rfl ⟨_, rfl, owns_nil (α := Load) (enc := Load.cells), by (repeat (first | with_reducible exact Below.refl _ _ | with_reducible assumption | with_reducible refine Kept.drop ?_ (by with_reducible assumption) | with_reducible refine Kept.alloc ?_ _ | ((with_reducible refine Below.setCell ?_ ?_ _); rotate_left 1; (focus (first | exact Nat.le_refl _ | (simp; done) | (simp; omega) | exact Below.size (by with_reducible assumption) | (refine Kept.size ?_; (repeat (first | with_reducible exact Below.refl _ _ | with_reducible assumption | with_reducible refine Kept.drop ?_ (by with_reducible assumption) | with_reducible refine Kept.alloc ?_ _ | with_reducible refine Below.drew ?_)))))) | with_reducible refine Below.drew ?_))⟩
  | some ad =>
    have HO := Lib.hid (owns_made (α := Load) (enc := Load.cells) (base := w.heap.size) (k := 4) (n := w.heap.size) (e := 88) (w := w) rfl (Nat.le_refl _))
    have hs0 : ∀ w, (binOp .eql 22 (.slice (some ad) xs.length cap) (.slice none 0 0)).run Try.prog w = .ok (.bool false) w := fun w => Lib.run_eql_slice_nil w _ _ _ _ _ _ _ Try.underlying22
    go_enter Try.func91, Try.ntmps91
    go_wp2_with (at_builtin; obtain ⟨i0, hi, hz0, hz1, hz2⟩ := info_parts infoLoad; refine wpList_append_list (enc := Load.cells) rfl _ _ 22 rfl w.heap.size 88 i0 (.agg #[.int .i64 0, .int .i64 0, .int .i64 0, .int .i64 0]) 4 32 Try.underlying22 hi hz0 hz1 hz2 rfl (by decide) (fun _ => rfl) (fun x u hu => by simp [Load.cells] at hu; rcases hu with rfl | rfl | rfl | rfl <;> rfl) _ [] rfl HO.out (some ad) cap xs rfl (by simp) (B := w.heap.size) (hx.keep (by (repeat (first | with_reducible exact Below.refl _ _ | with_reducible assumption | with_reducible refine Kept.drop ?_ (by with_reducible assumption) | with_reducible refine Kept.alloc ?_ _ | ((with_reducible refine Below.setCell ?_ ?_ _); rotate_left 1; (focus (first | exact Nat.le_refl _ | (simp; done) | (simp; omega) | exact Below.size (by with_reducible assumption) | (refine Kept.size ?_; (repeat (first | with_reducible exact Below.refl _ _ | with_reducible assumption | with_reducible refine Kept.drop ?_ (by with_reducible assumption) | with_reducible refine Kept.alloc ?_ _ | with_reducible refine Below.drew ?_)))))) | with_reducible refine Below.drew ?_))) (Nat.le_refl _)) (by simp [maxLen]; omega) (by simp; omega) (by simp) ?_; intro v' w9 hown' hgrow; clear hi hz0 hz1 hz2)
    have hk : Kept w w9 := Kept.grown (Kept.alloc (Below.refl _ _) _) HO.out (Nat.le_refl _) hgrow
    rw [List.nil_append] at hown'
    obtain ⟨ad', cp, rfl, _⟩ := owns_row (enc := Load.cells) (k := 4) (fun _ => rfl) hown'
    exact bodyPost_ret (v := .slice ad' xs.length cp) (by simp [results, Try.results91, go_sem]) rfl ⟨_, rfl, hown', hk⟩

/-- the reference's order of lists of as many numbers -/
def earlierI : List Int → List Int → Bool
  | p :: ps, q :: qs => if p = q then earlierI ps qs else decide (p < q)
  | _, _ => false
theorem earlierI_drop {xs ys : List Int} {k : Nat} (h1 : k < xs.length) (h2 : k < ys.length) : earlierI (xs.drop k) (ys.drop k) = if xs[k] = ys[k] then earlierI (xs.drop (k + 1)) (ys.drop (k + 1)) else decide (xs[k] < ys[k]) := by
  rw [List.drop_eq_getElem_cons h1, List.drop_eq_getElem_cons h2]
  rfl
theorem r_earlier (a b : Option Addr) (c d : Nat) (xs ys : List Int) (w : World) (hl : ys.length = xs.length) (hx : Row icell 1 w.heap.size w a xs) (hy : Row icell 1 w.heap.size w b ys) (hc : xs.length ≤ c) (hd : ys.length ≤ d) (hM : c ≤ maxLen) (hN : d ≤ maxLen) :
    Calls Try.prog 96 #[.slice a xs.length c, .slice b ys.length d] w fun e w' => e = .returned (.bool (earlierI xs ys)) ∧ Kept w w' := by
  unfold maxLen at hM hN
  obtain ⟨R, hR⟩ : ∃ R, R = earlierI xs ys := ⟨_, rfl⟩
  have HR0 := Lib.hid (show R = earlierI (xs.drop 0) (ys.drop 0) from hR)
  rw [← hR]
  clear hR
  go_enter Try.func96, Try.ntmps96
  go_wp2
  go_loopw [5] (fun i wr => ∃ k : Nat, k ≤ xs.length ∧ i = .int .i64 k ∧ R = earlierI (xs.drop k) (ys.drop k) ∧ Kept w wr) (fun i _ => xs.length - (intOf i).toNat)
  case atStart => exact ⟨0, Nat.zero_le _, rfl, HR0.out, Below.refl _ _⟩
  case round =>
    obtain ⟨k, hk, rfl, hrr, hkk⟩ := hrel
    by_cases hlt : k < xs.length
    · have hlt2 : k < ys.length := by omega
      have HE := Lib.hid (hrr.trans (earlierI_drop hlt hlt2))
      clear hrr
      obtain ⟨b1, o1, rfl, hb1, h0⟩ := int_row (hx.later hkk (Nat.le_refl _)) k hlt
      obtain ⟨b2, o2, rfl, hb2, j0⟩ := int_row (hy.later hkk (Nat.le_refl _)) k hlt2
      obtain ⟨x, hx0⟩ : ∃ x, x = xs[k] := ⟨_, rfl⟩
      obtain ⟨y, hy0⟩ : ∃ y, y = ys[k] := ⟨_, rfl⟩
      rw [← hx0] at HE h0
      rw [← hy0] at HE j0
      clear hx0 hy0
      have x0 := fun g : Later wr => g.some h0
      have y0 := fun g : Later wr => g.some j0
      by_cases he : x = y
      · have HE2 := Lib.hid (show R = earlierI (xs.drop (k + 1)) (ys.drop (k + 1)) by rw [HE.out, if_pos he])
        subst he
        go_upto_region 4 with fail
        refine Later.region (by kernel_rfl) (by kernel_rfl) ?_
        repeat (first | go_big_quiet_skip | (go_big_quiet_want; go_big_quiet_op; first | go_big_quiet_on | (apply Exists.intro; refine ⟨fun g => ?_, ?_⟩; (focus (first | fail)); go_big_quiet_on)))
        refine wpQuiet_nil ?_
        intro gg
        have hkgg := Kept.drop hkk gg.ok
        go_wp2
        go_round
        case rel => exact ⟨k + 1, by omega, by go_num, HE2.out, by (repeat (first | with_reducible exact Below.refl _ _ | with_reducible assumption | with_reducible refine Kept.drop ?_ (by with_reducible assumption) | with_reducible refine Kept.alloc ?_ _ | ((with_reducible refine Below.setCell ?_ ?_ _); rotate_left 1; (focus (first | exact Nat.le_refl _ | (simp; done) | (simp; omega) | exact Below.size (by with_reducible assumption) | (refine Kept.size ?_; (repeat (first | with_reducible exact Below.refl _ _ | with_reducible assumption | with_reducible refine Kept.drop ?_ (by with_reducible assumption) | with_reducible refine Kept.alloc ?_ _ | with_reducible refine Below.drew ?_)))))) | with_reducible refine Below.drew ?_))⟩
        case measure => simp [intOf]; omega
      · have HE2 := Lib.hid (show R = decide (x < y) by rw [HE.out, if_neg he])
        go_upto_region 4 with fail
        refine Later.region (by kernel_rfl) (by kernel_rfl) ?_
        repeat (first | go_big_quiet_skip | (go_big_quiet_want; go_big_quiet_op; first | go_big_quiet_on | (apply Exists.intro; refine ⟨fun g => ?_, ?_⟩; (focus (first | fail)); go_big_quiet_on)))
        refine wpQuiet_nil ?_
        intro gg
        have hkgg := Kept.drop hkk gg.ok
        go_upto_region 5 with fail
        have x1 := fun g : Later gg.val => g.some (x0 gg)
        have y1 := fun g : Later gg.val => g.some (y0 gg)
        clear x0 y0
        refine Later.region (by kernel_rfl) (by kernel_rfl) ?_
        repeat (first | go_big_quiet_skip | (go_big_quiet_want; go_big_quiet_op; first | go_big_quiet_on | (apply Exists.intro; refine ⟨fun g => ?_, ?_⟩; (focus (first | fail)); go_big_quiet_on)))
        refine wpQuiet_nil ?_
        intro gh
        have hkgh := Kept.drop hkgg gh.ok
        go_wp2
        go_ret
        exact ⟨ret_bool HE2.out.symm, by (repeat (first | with_reducible exact Below.refl _ _ | with_reducible assumption | with_reducible refine Kept.drop ?_ (by with_reducible assumption) | with_reducible refine Kept.alloc ?_ _ | ((with_reducible refine Below.setCell ?_ ?_ _); rotate_left 1; (focus (first | exact Nat.le_refl _ | (simp; done) | (simp; omega) | exact Below.size (by with_reducible assumption) | (refine Kept.size ?_; (repeat (first | with_reducible exact Below.refl _ _ | with_reducible assumption | with_reducible refine Kept.drop ?_ (by with_reducible assumption) | with_reducible refine Kept.alloc ?_ _ | with_reducible refine Below.drew ?_)))))) | with_reducible refine Below.drew ?_))⟩
    · obtain rfl : k = xs.length := by omega
      have HE2 := Lib.hid (show R = false by rw [hrr, List.drop_length]; rfl)
      clear hrr
      go_wp2
      go_ret
      exact ⟨ret_bool HE2.out.symm, hkk⟩

end Go.Proofs.Ytlloijkmpmfapaa
