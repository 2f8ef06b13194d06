/-
  Drop, in the reference.
-/
import Derived.Test.YtlloijkmpmfapaaTrimS
import Derived.Test.YtlloijkmpmfapaaTrimZ3
import Derived.Test.YtlloijkmpmfapaaTrimZ4
import Derived.Test.YtlloijkmpmfapaaOrder
import Derived.Deep.DeepCutAuto
import Derived.Test.YtlloijkmpmfapaaTrimG
namespace Go.Proofs.Ytlloijkmpmfapaa
open Go.RowKit Bal Bal.Trim
set_option linter.unusedVariables false
set_option linter.unusedSimpArgs false
set_option maxHeartbeats 4000000
set_option maxRecDepth 10000

theorem r_Drop_bad (a : Option Addr) (cap : Nat) (xs : List Load) (d : Option Addr) (cd : Nat) (bs : List Put) (b : Option Addr) (cb : Nat) (ms : List Limit) (w : World) (hx : Row Load.cells 4 w.heap.size w a xs) (hc : xs.length ≤ cap) (hM : cap ≤ maxLen) (hp : Row Put.cells 2 w.heap.size w d bs) (hpc : bs.length ≤ cd) (hpM : cd ≤ maxLen) (hy : Row Limit.cells 3 w.heap.size w b ms) (hd : ms.length ≤ cb) (hN : cb ≤ maxLen) (he : both xs ms ≠ 0) :
    Calls Try.prog 43 #[.slice a xs.length cap, .slice d bs.length cd, .slice b ms.length cb] w fun e w' => e = .returned (.tuple #[.slice none 0 0, .int .i64 (both xs ms)]) ∧ Kept w w' := by
  have hb : (both xs ms != 0) = true := by simp [he]
  obtain ⟨E, hEE⟩ : ∃ E, E = both xs ms := ⟨_, rfl⟩
  have HE := Lib.hid hEE.symm
  rw [← hEE] at he hb ⊢
  clear hEE
  unfold maxLen at hM hpM hN
  go_enter Try.func43, Try.ntmps43
  go_wp2_with (go_at_call 73; (with_reducible refine (r_asked _ _ _ _ _ _ _ (hx.later (by (repeat (first | with_reducible exact Below.refl _ _ | with_reducible assumption | with_reducible refine Kept.drop ?_ (by with_reducible assumption) | with_reducible refine Kept.alloc ?_ _ | ((with_reducible refine Below.setCell ?_ ?_ _); rotate_left 1; (focus (first | exact Nat.le_refl _ | (simp; done) | (simp; omega) | exact Below.size (by with_reducible assumption) | (refine Kept.size ?_; (repeat (first | with_reducible exact Below.refl _ _ | with_reducible assumption | with_reducible refine Kept.drop ?_ (by with_reducible assumption) | with_reducible refine Kept.alloc ?_ _ | with_reducible refine Below.drew ?_)))))) | with_reducible refine Below.drew ?_))) (Nat.le_refl _)) hc (by unfold maxLen; omega) (hy.later (by (repeat (first | with_reducible exact Below.refl _ _ | with_reducible assumption | with_reducible refine Kept.drop ?_ (by with_reducible assumption) | with_reducible refine Kept.alloc ?_ _ | ((with_reducible refine Below.setCell ?_ ?_ _); rotate_left 1; (focus (first | exact Nat.le_refl _ | (simp; done) | (simp; omega) | exact Below.size (by with_reducible assumption) | (refine Kept.size ?_; (repeat (first | with_reducible exact Below.refl _ _ | with_reducible assumption | with_reducible refine Kept.drop ?_ (by with_reducible assumption) | with_reducible refine Kept.alloc ?_ _ | with_reducible refine Below.drew ?_)))))) | with_reducible refine Below.drew ?_))) (Nat.le_refl _)) hd (by unfold maxLen; omega)).mono ?_); rw [HE.out]; rintro e w1 ⟨rfl, hb1⟩)
  exact bodyPost_ret (v := .tuple #[.slice none 0 0, .int .i64 E]) (by simp [results, Try.results43, go_sem]) rfl ⟨rfl, by (repeat (first | with_reducible exact Below.refl _ _ | with_reducible assumption | with_reducible refine Kept.drop ?_ (by with_reducible assumption) | with_reducible refine Kept.alloc ?_ _ | ((with_reducible refine Below.setCell ?_ ?_ _); rotate_left 1; (focus (first | exact Nat.le_refl _ | (simp; done) | (simp; omega) | exact Below.size (by with_reducible assumption) | (refine Kept.size ?_; (repeat (first | with_reducible exact Below.refl _ _ | with_reducible assumption | with_reducible refine Kept.drop ?_ (by with_reducible assumption) | with_reducible refine Kept.alloc ?_ _ | with_reducible refine Below.drew ?_)))))) | with_reducible refine Below.drew ?_))⟩
theorem r_Drop_many (a : Option Addr) (cap : Nat) (xs : List Load) (d : Option Addr) (cd : Nat) (bs : List Put) (b : Option Addr) (cb : Nat) (ms : List Limit) (w : World) (hx : Row Load.cells 4 w.heap.size w a xs) (hc : xs.length ≤ cap) (hM : cap ≤ maxLen) (hp : Row Put.cells 2 w.heap.size w d bs) (hpc : bs.length ≤ cd) (hpM : cd ≤ maxLen) (hy : Row Limit.cells 3 w.heap.size w b ms) (hd : ms.length ≤ cb) (hN : cb ≤ maxLen) (he : both xs ms = 0) (hm : many xs bs = true) :
    Calls Try.prog 43 #[.slice a xs.length cap, .slice d bs.length cd, .slice b ms.length cb] w fun e w' => e = .returned (.tuple #[.slice none 0 0, .int .i64 4]) ∧ Kept w w' := by
  obtain ⟨he1, _⟩ := both_ok he
  obtain ⟨hn, _⟩ := checkLoads_ok he1
  simp only [many, Bool.or_eq_true, decide_eq_true_eq] at hm
  have HE := Lib.hid he
  clear he he1
  unfold maxLen at hM hpM hN
  by_cases h1 : 10 < bs.length
  · clear hm
    go_enter Try.func43, Try.ntmps43
    go_wp2_with (go_at_call 73; (with_reducible refine (r_asked _ _ _ _ _ _ _ (hx.later (by (repeat (first | with_reducible exact Below.refl _ _ | with_reducible assumption | with_reducible refine Kept.drop ?_ (by with_reducible assumption) | with_reducible refine Kept.alloc ?_ _ | ((with_reducible refine Below.setCell ?_ ?_ _); rotate_left 1; (focus (first | exact Nat.le_refl _ | (simp; done) | (simp; omega) | exact Below.size (by with_reducible assumption) | (refine Kept.size ?_; (repeat (first | with_reducible exact Below.refl _ _ | with_reducible assumption | with_reducible refine Kept.drop ?_ (by with_reducible assumption) | with_reducible refine Kept.alloc ?_ _ | with_reducible refine Below.drew ?_)))))) | with_reducible refine Below.drew ?_))) (Nat.le_refl _)) hc (by unfold maxLen; omega) (hy.later (by (repeat (first | with_reducible exact Below.refl _ _ | with_reducible assumption | with_reducible refine Kept.drop ?_ (by with_reducible assumption) | with_reducible refine Kept.alloc ?_ _ | ((with_reducible refine Below.setCell ?_ ?_ _); rotate_left 1; (focus (first | exact Nat.le_refl _ | (simp; done) | (simp; omega) | exact Below.size (by with_reducible assumption) | (refine Kept.size ?_; (repeat (first | with_reducible exact Below.refl _ _ | with_reducible assumption | with_reducible refine Kept.drop ?_ (by with_reducible assumption) | with_reducible refine Kept.alloc ?_ _ | with_reducible refine Below.drew ?_)))))) | with_reducible refine Below.drew ?_))) (Nat.le_refl _)) hd (by unfold maxLen; omega)).mono ?_); rw [HE.out]; rintro e w1 ⟨rfl, hb1⟩)
    exact bodyPost_ret (v := .tuple #[.slice none 0 0, .int .i64 4]) (by simp [results, Try.results43, go_sem]) rfl ⟨rfl, by (repeat (first | with_reducible exact Below.refl _ _ | with_reducible assumption | with_reducible refine Kept.drop ?_ (by with_reducible assumption) | with_reducible refine Kept.alloc ?_ _ | ((with_reducible refine Below.setCell ?_ ?_ _); rotate_left 1; (focus (first | exact Nat.le_refl _ | (simp; done) | (simp; omega) | exact Below.size (by with_reducible assumption) | (refine Kept.size ?_; (repeat (first | with_reducible exact Below.refl _ _ | with_reducible assumption | with_reducible refine Kept.drop ?_ (by with_reducible assumption) | with_reducible refine Kept.alloc ?_ _ | with_reducible refine Below.drew ?_)))))) | with_reducible refine Below.drew ?_))⟩
  · have h2 : 40 < xs.length + bs.length := by omega
    clear hm
    go_enter Try.func43, Try.ntmps43
    go_wp2_with (go_at_call 73; (with_reducible refine (r_asked _ _ _ _ _ _ _ (hx.later (by (repeat (first | with_reducible exact Below.refl _ _ | with_reducible assumption | with_reducible refine Kept.drop ?_ (by with_reducible assumption) | with_reducible refine Kept.alloc ?_ _ | ((with_reducible refine Below.setCell ?_ ?_ _); rotate_left 1; (focus (first | exact Nat.le_refl _ | (simp; done) | (simp; omega) | exact Below.size (by with_reducible assumption) | (refine Kept.size ?_; (repeat (first | with_reducible exact Below.refl _ _ | with_reducible assumption | with_reducible refine Kept.drop ?_ (by with_reducible assumption) | with_reducible refine Kept.alloc ?_ _ | with_reducible refine Below.drew ?_)))))) | with_reducible refine Below.drew ?_))) (Nat.le_refl _)) hc (by unfold maxLen; omega) (hy.later (by (repeat (first | with_reducible exact Below.refl _ _ | with_reducible assumption | with_reducible refine Kept.drop ?_ (by with_reducible assumption) | with_reducible refine Kept.alloc ?_ _ | ((with_reducible refine Below.setCell ?_ ?_ _); rotate_left 1; (focus (first | exact Nat.le_refl _ | (simp; done) | (simp; omega) | exact Below.size (by with_reducible assumption) | (refine Kept.size ?_; (repeat (first | with_reducible exact Below.refl _ _ | with_reducible assumption | with_reducible refine Kept.drop ?_ (by with_reducible assumption) | with_reducible refine Kept.alloc ?_ _ | with_reducible refine Below.drew ?_)))))) | with_reducible refine Below.drew ?_))) (Nat.le_refl _)) hd (by unfold maxLen; omega)).mono ?_); rw [HE.out]; rintro e w1 ⟨rfl, hb1⟩)
    exact bodyPost_ret (v := .tuple #[.slice none 0 0, .int .i64 4]) (by simp [results, Try.results43, go_sem]) rfl ⟨rfl, by (repeat (first | with_reducible exact Below.refl _ _ | with_reducible assumption | with_reducible refine Kept.drop ?_ (by with_reducible assumption) | with_reducible refine Kept.alloc ?_ _ | ((with_reducible refine Below.setCell ?_ ?_ _); rotate_left 1; (focus (first | exact Nat.le_refl _ | (simp; done) | (simp; omega) | exact Below.size (by with_reducible assumption) | (refine Kept.size ?_; (repeat (first | with_reducible exact Below.refl _ _ | with_reducible assumption | with_reducible refine Kept.drop ?_ (by with_reducible assumption) | with_reducible refine Kept.alloc ?_ _ | with_reducible refine Below.drew ?_)))))) | with_reducible refine Below.drew ?_))⟩
theorem r_Drop_bags (a : Option Addr) (cap : Nat) (xs : List Load) (d : Option Addr) (cd : Nat) (bs : List Put) (b : Option Addr) (cb : Nat) (ms : List Limit) (w : World) (hx : Row Load.cells 4 w.heap.size w a xs) (hc : xs.length ≤ cap) (hM : cap ≤ maxLen) (hp : Row Put.cells 2 w.heap.size w d bs) (hpc : bs.length ≤ cd) (hpM : cd ≤ maxLen) (hy : Row Limit.cells 3 w.heap.size w b ms) (hd : ms.length ≤ cb) (hN : cb ≤ maxLen) (he : both xs ms = 0) (hm : many xs bs = false) (hb : bs.all bagB = false) :
    Calls Try.prog 43 #[.slice a xs.length cap, .slice d bs.length cd, .slice b ms.length cb] w fun e w' => e = .returned (.tuple #[.slice none 0 0, .int .i64 40]) ∧ Kept w w' := by
  obtain ⟨he1, _⟩ := both_ok he
  obtain ⟨hn, _⟩ := checkLoads_ok he1
  simp only [many, Bool.or_eq_false_iff, decide_eq_false_iff_not] at hm
  obtain ⟨hm1, hm2⟩ := hm
  have HE := Lib.hid he
  have HB := Lib.hid hb
  clear he he1 hb
  unfold maxLen at hM hpM hN
  go_enter Try.func43, Try.ntmps43
  go_wp2_with (go_at_call 73; (with_reducible refine (r_asked _ _ _ _ _ _ _ (hx.later (by (repeat (first | with_reducible exact Below.refl _ _ | with_reducible assumption | with_reducible refine Kept.drop ?_ (by with_reducible assumption) | with_reducible refine Kept.alloc ?_ _ | ((with_reducible refine Below.setCell ?_ ?_ _); rotate_left 1; (focus (first | exact Nat.le_refl _ | (simp; done) | (simp; omega) | exact Below.size (by with_reducible assumption) | (refine Kept.size ?_; (repeat (first | with_reducible exact Below.refl _ _ | with_reducible assumption | with_reducible refine Kept.drop ?_ (by with_reducible assumption) | with_reducible refine Kept.alloc ?_ _ | with_reducible refine Below.drew ?_)))))) | with_reducible refine Below.drew ?_))) (Nat.le_refl _)) hc (by unfold maxLen; omega) (hy.later (by (repeat (first | with_reducible exact Below.refl _ _ | with_reducible assumption | with_reducible refine Kept.drop ?_ (by with_reducible assumption) | with_reducible refine Kept.alloc ?_ _ | ((with_reducible refine Below.setCell ?_ ?_ _); rotate_left 1; (focus (first | exact Nat.le_refl _ | (simp; done) | (simp; omega) | exact Below.size (by with_reducible assumption) | (refine Kept.size ?_; (repeat (first | with_reducible exact Below.refl _ _ | with_reducible assumption | with_reducible refine Kept.drop ?_ (by with_reducible assumption) | with_reducible refine Kept.alloc ?_ _ | with_reducible refine Below.drew ?_)))))) | with_reducible refine Below.drew ?_))) (Nat.le_refl _)) hd (by unfold maxLen; omega)).mono ?_); rw [HE.out]; rintro e w1 ⟨rfl, hb1⟩)
  go_loopw [9] (fun i wr => ∃ k : Nat, k ≤ bs.length ∧ i = .int .i64 k ∧ (bs.take k).all bagB = true ∧ Kept w wr) (fun i _ => bs.length - (intOf i).toNat)
  case atStart => exact ⟨0, Nat.zero_le _, rfl, by simp, by (repeat (first | with_reducible exact Below.refl _ _ | with_reducible assumption | with_reducible refine Kept.drop ?_ (by with_reducible assumption) | with_reducible refine Kept.alloc ?_ _ | ((with_reducible refine Below.setCell ?_ ?_ _); rotate_left 1; (focus (first | exact Nat.le_refl _ | (simp; done) | (simp; omega) | exact Below.size (by with_reducible assumption) | (refine Kept.size ?_; (repeat (first | with_reducible exact Below.refl _ _ | with_reducible assumption | with_reducible refine Kept.drop ?_ (by with_reducible assumption) | with_reducible refine Kept.alloc ?_ _ | with_reducible refine Below.drew ?_)))))) | with_reducible refine Below.drew ?_))⟩
  case round =>
    obtain ⟨k, hk, rfl, ha', hkk⟩ := hrel
    have ha := Lib.hid ha'
    clear ha'
    by_cases hlt : k < bs.length
    · obtain ⟨bb, off, rfl, hbl, h0, h1⟩ := Put.row (hp.later hkk (Nat.le_refl _)) k hlt
      have HT := Lib.hid (fun h => take_all (valid := bagB) hlt ha.out h)
      obtain ⟨x, hx0⟩ : ∃ x, x = bs[k] := ⟨_, rfl⟩
      rw [← hx0] at HT h0 h1
      clear hx0
      cases c1 : inB x.pos (-20000) 20000
      · have HB1 := Lib.hid c1
        clear c1
        go_wp2_with (go_at_call 69; (with_reducible refine (r_place _ _).mono ?_); rw [HB1.out]; rintro e w2 ⟨rfl, rfl⟩)
        exact bodyPost_ret (v := .tuple #[.slice none 0 0, .int .i64 40]) (by simp [results, Try.results43, go_sem]) rfl ⟨rfl, by (repeat (first | with_reducible exact Below.refl _ _ | with_reducible assumption | with_reducible refine Kept.drop ?_ (by with_reducible assumption) | with_reducible refine Kept.alloc ?_ _ | ((with_reducible refine Below.setCell ?_ ?_ _); rotate_left 1; (focus (first | exact Nat.le_refl _ | (simp; done) | (simp; omega) | exact Below.size (by with_reducible assumption) | (refine Kept.size ?_; (repeat (first | with_reducible exact Below.refl _ _ | with_reducible assumption | with_reducible refine Kept.drop ?_ (by with_reducible assumption) | with_reducible refine Kept.alloc ?_ _ | with_reducible refine Below.drew ?_)))))) | with_reducible refine Below.drew ?_))⟩
      · cases c2 : inB x.wt 1 1000000
        · have HB1 := Lib.hid c1
          have HB2 := Lib.hid c2
          clear c1 c2
          go_wp2_with (first | (go_at_call 69; (with_reducible refine (r_place _ _).mono ?_); rw [HB1.out]; rintro e w2 ⟨rfl, rfl⟩) | (go_at_call 70; (with_reducible refine (r_within _ _ _ _).mono ?_); rw [HB2.out]; rintro e w2 ⟨rfl, rfl⟩))
          exact bodyPost_ret (v := .tuple #[.slice none 0 0, .int .i64 40]) (by simp [results, Try.results43, go_sem]) rfl ⟨rfl, by (repeat (first | with_reducible exact Below.refl _ _ | with_reducible assumption | with_reducible refine Kept.drop ?_ (by with_reducible assumption) | with_reducible refine Kept.alloc ?_ _ | ((with_reducible refine Below.setCell ?_ ?_ _); rotate_left 1; (focus (first | exact Nat.le_refl _ | (simp; done) | (simp; omega) | exact Below.size (by with_reducible assumption) | (refine Kept.size ?_; (repeat (first | with_reducible exact Below.refl _ _ | with_reducible assumption | with_reducible refine Kept.drop ?_ (by with_reducible assumption) | with_reducible refine Kept.alloc ?_ _ | with_reducible refine Below.drew ?_)))))) | with_reducible refine Below.drew ?_))⟩
        · have HB1 := Lib.hid c1
          have HB2 := Lib.hid c2
          have HF := Lib.hid (HT.out (by unfold bagB; rw [c1, c2]; rfl))
          clear c1 c2 HT
          go_wp2_with (first | (go_at_call 69; (with_reducible refine (r_place _ _).mono ?_); rw [HB1.out]; rintro e w2 ⟨rfl, rfl⟩) | (go_at_call 70; (with_reducible refine (r_within _ _ _ _).mono ?_); rw [HB2.out]; rintro e w2 ⟨rfl, rfl⟩))
          go_roundw
          case rel => exact ⟨k + 1, by omega, by go_num, HF.out, by (repeat (first | with_reducible exact Below.refl _ _ | with_reducible assumption | with_reducible refine Kept.drop ?_ (by with_reducible assumption) | with_reducible refine Kept.alloc ?_ _ | ((with_reducible refine Below.setCell ?_ ?_ _); rotate_left 1; (focus (first | exact Nat.le_refl _ | (simp; done) | (simp; omega) | exact Below.size (by with_reducible assumption) | (refine Kept.size ?_; (repeat (first | with_reducible exact Below.refl _ _ | with_reducible assumption | with_reducible refine Kept.drop ?_ (by with_reducible assumption) | with_reducible refine Kept.alloc ?_ _ | with_reducible refine Below.drew ?_)))))) | with_reducible refine Below.drew ?_))⟩
          case measure => simp [intOf]; omega
    · exfalso
      have h1 := ha.out
      rw [List.take_of_length_le (by omega), HB.out] at h1
      cases h1

theorem mem_listed (m : Nat) : ∀ (k lo i : Nat), i ∈ listed m lo k ↔ (lo ≤ i ∧ i < lo + k) ∧ m.testBit i = true
  | 0, lo, i => by simp [listed]; omega
  | k + 1, lo, i => by
    simp only [listed]
    by_cases h : m.testBit lo = true
    · rw [if_pos h, List.mem_cons, mem_listed m k (lo + 1) i]
      constructor
      · rintro (rfl | ⟨h1, h2⟩)
        · exact ⟨by omega, h⟩
        · exact ⟨by omega, h2⟩
      · rintro ⟨h1, h2⟩
        by_cases e : i = lo
        · exact .inl e
        · exact .inr ⟨by omega, h2⟩
    · rw [if_neg h, mem_listed m k (lo + 1) i]
      constructor
      · rintro ⟨h1, h2⟩
        exact ⟨by omega, h2⟩
      · rintro ⟨h1, h2⟩
        refine ⟨⟨?_, by omega⟩, h2⟩
        rcases Nat.lt_or_ge lo i with h' | h'
        · omega
        · obtain rfl : i = lo := by omega
          exact absurd h2 h
theorem left_bits (xs : List Load) (bs : List Put) (m : Nat) (hn : bs.length ≤ 10) : xs ++ stay bs (fun i => m.testBit i) bs.length = left xs bs (listed m 0 10) := by
  unfold left
  congr 1
  apply stay_congr
  intro i hi
  rw [Bool.eq_iff_iff, decide_eq_true_eq, mem_listed]
  simp
  omega
theorem both_left {xs : List Load} {bs : List Put} {ms : List Limit} {x : List Nat} (h1 : checkLimits ms = 0) (h2 : ∀ y ∈ xs, loadB y = true) (h3 : ∀ p ∈ bs, bagB p = true) (h4 : xs.length + bs.length ≤ 40) : both (left xs bs x) ms = 0 := by
  unfold both
  rw [if_pos, h1]
  refine checkList_ok ?_ ?_
  · have := left_len (xs := xs) (bs := bs) (x := x); omega
  · rw [List.all_eq_true]; exact left_B h2 h3
/-- the best number so far -/
def bestV (o : Option Nat) : Int := match o with | some q => q | none => -1
def seenTo (m : Nat) : List (List Nat) := (List.range m).map fun i => listed i 0 10
theorem before_is (x b : List Nat) (s1 s2 : Nat) (h1 : x.length = s1) (h2 : b.length = s2) : before x b = (decide (s1 < s2) || (decide (s1 = s2) && earlier x b)) := by unfold before; rw [h1, h2]
theorem seen_succ (m : Nat) : seenTo (m + 1) = seenTo m ++ [listed m 0 10] := by simp [seenTo, List.range_succ]
theorem best_none {ok : List Nat → Bool} {m : Nat} (h : BestOf ok (seenTo m) none) : (ok (listed m 0 10) = true → BestOf ok (seenTo (m + 1)) (some (listed m 0 10))) ∧ (ok (listed m 0 10) = false → BestOf ok (seenTo (m + 1)) none) := by
  have := bestStep_ok before_irr h (listed m 0 10)
  rw [← seen_succ] at this
  simp only [bestStep] at this
  exact ⟨fun e => by rwa [e] at this, fun e => by rw [e] at this; exact this⟩
theorem best_some {ok : List Nat → Bool} {m : Nat} {b : List Nat} (h : BestOf ok (seenTo m) (some b)) (hb : before (listed m 0 10) b = true) : (ok (listed m 0 10) = true → BestOf ok (seenTo (m + 1)) (some (listed m 0 10))) ∧ (ok (listed m 0 10) = false → BestOf ok (seenTo (m + 1)) (some b)) := by
  have := bestStep_ok before_irr h (listed m 0 10)
  rw [← seen_succ] at this
  simp only [bestStep, hb, Bool.true_and] at this
  exact ⟨fun e => by rwa [e] at this, fun e => by rw [e] at this; exact this⟩
theorem best_skip {ok : List Nat → Bool} {m : Nat} {b : List Nat} (h : BestOf ok (seenTo m) (some b)) (hb : before (listed m 0 10) b = false) : BestOf ok (seenTo (m + 1)) (some b) := by
  have := bestStep_ok before_irr h (listed m 0 10)
  rw [← seen_succ] at this
  simp only [bestStep, hb, Bool.false_and] at this
  exact this

theorem r_Drop_main (a : Option Addr) (cap : Nat) (xs : List Load) (d : Option Addr) (cd : Nat) (bs : List Put) (b : Option Addr) (cb : Nat) (ms : List Limit) (w : World) (hx : Row Load.cells 4 w.heap.size w a xs) (hc : xs.length ≤ cap) (hM : cap ≤ maxLen) (hp : Row Put.cells 2 w.heap.size w d bs) (hpc : bs.length ≤ cd) (hpM : cd ≤ maxLen) (hy : Row Limit.cells 3 w.heap.size w b ms) (hd : ms.length ≤ cb) (hN : cb ≤ maxLen) (hz : a = none → cap = 0) (he : both xs ms = 0) (hm : many xs bs = false) (hb : bs.all bagB = true) :
    Calls Try.prog 43 #[.slice a xs.length cap, .slice d bs.length cd, .slice b ms.length cb] w fun e w' => ∃ v, e = .returned (.tuple #[v, .int .i64 (dropN xs bs ms)]) ∧ w'.ownsRow w.heap.size 3 1 v (dropR xs bs ms).length ((dropR xs bs ms).flatMap icell) ∧ Kept w w' := by
  obtain ⟨he1, he2⟩ := both_ok he
  obtain ⟨hn, hv⟩ := checkLoads_ok he1
  simp only [many, Bool.or_eq_false_iff, decide_eq_false_iff_not] at hm
  obtain ⟨hm1, hm2⟩ := hm
  have HE := Lib.hid he
  have HB := Lib.hid (List.all_eq_true.1 hb)
  have HLEFT := Lib.hid (fun x => both_left (x := x) he2 hv (List.all_eq_true.1 hb) (by omega))
  clear he he1 he2 hb hv
  unfold maxLen at hM hpM hN
  obtain ⟨N, hN0⟩ : ∃ N : Nat, N = 2 ^ bs.length := ⟨_, rfl⟩
  have hN1 : N ≤ 1024 := by rw [hN0]; exact Nat.pow_le_pow_right (show 0 < 2 by omega) (show bs.length ≤ 10 by omega)
  have hpow : (2 : Int) ^ bs.length = (N : Int) := by rw [hN0]; simp
  have HFIRST := Lib.hid (fun best (h : BestOf (okSet xs bs ms) (seenTo N) best) => first_is_best (n := bs.length) (by omega) (show BestOf (okSet xs bs ms) (Bal.Trim.seen bs.length) best by unfold Bal.Trim.seen; rw [← hN0]; exact h))
  clear hN0
  go_enter Try.func43, Try.ntmps43
  go_wp2_with (go_at_call 73; (with_reducible refine (r_asked _ _ _ _ _ _ _ (hx.later (by (repeat (first | with_reducible exact Below.refl _ _ | with_reducible assumption | with_reducible refine Kept.drop ?_ (by with_reducible assumption) | with_reducible refine Kept.alloc ?_ _ | ((with_reducible refine Below.setCell ?_ ?_ _); rotate_left 1; (focus (first | exact Nat.le_refl _ | (simp; done) | (simp; omega) | exact Below.size (by with_reducible assumption) | (refine Kept.size ?_; (repeat (first | with_reducible exact Below.refl _ _ | with_reducible assumption | with_reducible refine Kept.drop ?_ (by with_reducible assumption) | with_reducible refine Kept.alloc ?_ _ | with_reducible refine Below.drew ?_)))))) | with_reducible refine Below.drew ?_))) (Nat.le_refl _)) hc (by unfold maxLen; omega) (hy.later (by (repeat (first | with_reducible exact Below.refl _ _ | with_reducible assumption | with_reducible refine Kept.drop ?_ (by with_reducible assumption) | with_reducible refine Kept.alloc ?_ _ | ((with_reducible refine Below.setCell ?_ ?_ _); rotate_left 1; (focus (first | exact Nat.le_refl _ | (simp; done) | (simp; omega) | exact Below.size (by with_reducible assumption) | (refine Kept.size ?_; (repeat (first | with_reducible exact Below.refl _ _ | with_reducible assumption | with_reducible refine Kept.drop ?_ (by with_reducible assumption) | with_reducible refine Kept.alloc ?_ _ | with_reducible refine Below.drew ?_)))))) | with_reducible refine Below.drew ?_))) (Nat.le_refl _)) hd (by unfold maxLen; omega)).mono ?_); rw [HE.out]; rintro e w1 ⟨rfl, hb1⟩)
  go_loopw [9] (fun i wr => ∃ k : Nat, k ≤ bs.length ∧ i = .int .i64 k ∧ (bs.take k).all bagB = true ∧ Kept w wr) (fun i _ => bs.length - (intOf i).toNat)
  case atStart => exact ⟨0, Nat.zero_le _, rfl, by simp, by (repeat (first | with_reducible exact Below.refl _ _ | with_reducible assumption | with_reducible refine Kept.drop ?_ (by with_reducible assumption) | with_reducible refine Kept.alloc ?_ _ | ((with_reducible refine Below.setCell ?_ ?_ _); rotate_left 1; (focus (first | exact Nat.le_refl _ | (simp; done) | (simp; omega) | exact Below.size (by with_reducible assumption) | (refine Kept.size ?_; (repeat (first | with_reducible exact Below.refl _ _ | with_reducible assumption | with_reducible refine Kept.drop ?_ (by with_reducible assumption) | with_reducible refine Kept.alloc ?_ _ | with_reducible refine Below.drew ?_)))))) | with_reducible refine Below.drew ?_))⟩
  case round =>
    obtain ⟨k, hk, rfl, ha', hkk⟩ := hrel
    have ha := Lib.hid ha'
    clear ha'
    by_cases hlt : k < bs.length
    · obtain ⟨bb, off, rfl, hbl, h0, h1⟩ := Put.row (hp.later hkk (Nat.le_refl _)) k hlt
      have HT := Lib.hid (fun h => take_all (valid := bagB) hlt ha.out h)
      have hbx := HB.out _ (List.getElem_mem hlt)
      obtain ⟨x, hx0⟩ : ∃ x, x = bs[k] := ⟨_, rfl⟩
      rw [← hx0] at hbx h0 h1 HT
      clear hx0
      have HF := Lib.hid (HT.out hbx)
      unfold bagB at hbx
      rw [Bool.and_eq_true] at hbx
      have HB1 := Lib.hid hbx.1
      have HB2 := Lib.hid hbx.2
      clear hbx HT
      go_wp2_with (first | (go_at_call 69; (with_reducible refine (r_place _ _).mono ?_); rw [HB1.out]; rintro e w2 ⟨rfl, rfl⟩) | (go_at_call 70; (with_reducible refine (r_within _ _ _ _).mono ?_); rw [HB2.out]; rintro e w2 ⟨rfl, rfl⟩))
      go_roundw
      case rel => exact ⟨k + 1, by omega, by go_num, HF.out, by (repeat (first | with_reducible exact Below.refl _ _ | with_reducible assumption | with_reducible refine Kept.drop ?_ (by with_reducible assumption) | with_reducible refine Kept.alloc ?_ _ | ((with_reducible refine Below.setCell ?_ ?_ _); rotate_left 1; (focus (first | exact Nat.le_refl _ | (simp; done) | (simp; omega) | exact Below.size (by with_reducible assumption) | (refine Kept.size ?_; (repeat (first | with_reducible exact Below.refl _ _ | with_reducible assumption | with_reducible refine Kept.drop ?_ (by with_reducible assumption) | with_reducible refine Kept.alloc ?_ _ | with_reducible refine Below.drew ?_)))))) | with_reducible refine Below.drew ?_))⟩
      case measure => simp [intOf]; omega
    · obtain rfl : bs.length = k := by omega
      clear ha hk hlt
      go_wp2
      go_loopw [10, 11] (fun s10 s11 wr => ∃ (m : Nat) (o : Option Nat), m ≤ N ∧ s11 = .int .i64 m ∧ s10 = .int .i64 (bestV o) ∧ (∀ q, o = some q → q < m) ∧ BestOf (okSet xs bs ms) (seenTo m) (o.map fun q => listed q 0 10) ∧ Kept w wr) (fun _ s11 _ => N - (intOf s11).toNat)
      case atStart => exact ⟨0, none, by omega, rfl, rfl, by simp, by simp [BestOf, seenTo], hkk⟩
      case round =>
        obtain ⟨m, o, hmN, rfl, rfl, hq, hbest, hk2⟩ := hrel
        have HBEST := Lib.hid hbest
        clear hbest
        by_cases hlt : m < N
        · cases o with
          | none =>
            obtain ⟨hs1, hs0⟩ := best_none HBEST.out
            have HS1 := Lib.hid hs1
            have HS0 := Lib.hid hs0
            clear hs1 hs0
            simp only [bestV]
            go_upto_region 16 with fail
            refine at_world (S := fun W => Kept w W) (by (repeat (first | with_reducible exact Below.refl _ _ | with_reducible assumption | with_reducible refine Kept.drop ?_ (by with_reducible assumption) | with_reducible refine Kept.alloc ?_ _ | ((with_reducible refine Below.setCell ?_ ?_ _); rotate_left 1; (focus (first | exact Nat.le_refl _ | (simp; done) | (simp; omega) | exact Below.size (by with_reducible assumption) | (refine Kept.size ?_; (repeat (first | with_reducible exact Below.refl _ _ | with_reducible assumption | with_reducible refine Kept.drop ?_ (by with_reducible assumption) | with_reducible refine Kept.alloc ?_ _ | with_reducible refine Below.drew ?_)))))) | with_reducible refine Below.drew ?_))) ?_
            rintro WB hkB
            have hzB := hkB.size
            have HO := Lib.hid (owns_made (α := Load) (enc := Load.cells) (base := WB.heap.size) (k := 4) (n := WB.heap.size) (e := 88) (w := WB) rfl (Nat.le_refl _))
            go_wp2_with (at_builtin; obtain ⟨i0, hi, hz0, hz1, hz2⟩ := info_parts infoLoad; refine wpList_append_list (enc := Load.cells) rfl _ _ 22 rfl WB.heap.size 88 i0 (.agg #[.int .i64 0, .int .i64 0, .int .i64 0, .int .i64 0]) 4 32 Try.underlying22 hi hz0 hz1 hz2 rfl (by decide) (fun _ => rfl) (fun x u hu => by simp [Load.cells] at hu; rcases hu with rfl | rfl | rfl | rfl <;> rfl) _ [] rfl HO.out a cap xs rfl hz (B := w.heap.size) (hx.keep (by (repeat (first | with_reducible exact Below.refl _ _ | with_reducible assumption | with_reducible refine Kept.drop ?_ (by with_reducible assumption) | with_reducible refine Kept.alloc ?_ _ | ((with_reducible refine Below.setCell ?_ ?_ _); rotate_left 1; (focus (first | exact Nat.le_refl _ | (simp; done) | (simp; omega) | exact Below.size (by with_reducible assumption) | (refine Kept.size ?_; (repeat (first | with_reducible exact Below.refl _ _ | with_reducible assumption | with_reducible refine Kept.drop ?_ (by with_reducible assumption) | with_reducible refine Kept.alloc ?_ _ | with_reducible refine Below.drew ?_)))))) | with_reducible refine Below.drew ?_))) (Nat.le_refl _)) (by simp [maxLen]; omega) (by simp; omega) (by simp) ?_; intro v9 w9 hown9 hgrow9; clear hi hz0 hz1 hz2)
            have hk9 : Kept WB w9 := Kept.grown (Kept.alloc (Below.refl _ _) _) HO.out (Nat.le_refl _) hgrow9
            rw [List.nil_append] at hown9
            clear hgrow9
            go_loopw [12, 13] (fun s12 i wq => ∃ j : Nat, j ≤ bs.length ∧ i = .int .i64 j ∧ wq.ownsRow WB.heap.size 88 4 s12 (xs ++ stay bs (fun i => m.testBit i) j).length ((xs ++ stay bs (fun i => m.testBit i) j).flatMap Load.cells) ∧ Kept WB wq) (fun _ i _ => bs.length - (intOf i).toNat)
            case atStart => exact ⟨0, Nat.zero_le _, rfl, by simpa [stay] using hown9, hk9⟩
            case round =>
              clear hown9 hk9
              obtain ⟨j, hj, rfl, hown, hkq⟩ := hrel
              have hkw := Kept.drop hkB hkq
              have hzq := hkq.size
              have hlen : (xs ++ stay bs (fun i => m.testBit i) j).length ≤ 40 := by have := stay_len bs (fun i => m.testBit i) j; rw [List.length_append]; omega
              by_cases hlt2 : j < bs.length
              · have hq2 : m / 2 ^ j < 1024 := Nat.lt_of_le_of_lt (Nat.div_le_self _ _) (by omega)
                have HBT : bits BinOp.and IntKind.i64 (((m : Int) / 2 ^ j)) 1 = ((m / 2 ^ j % 2 : Nat) : Int) := by
                  have := bits_and_one (m / 2 ^ j) hq2
                  rw [← this]
                  simp
                have hbl := Nat.mod_lt (m / 2 ^ j) (show 0 < 2 by omega)
                have htb : m.testBit j = decide (m / 2 ^ j % 2 = 1) := Nat.testBit_eq_decide_div_mod_eq
                by_cases h1 : m / 2 ^ j % 2 = 1
                · have HDrop := Lib.hid (stay_drop (bs := bs) (f := fun i => m.testBit i) (k := j) (by rw [htb]; exact decide_eq_true h1))
                  rw [h1] at HBT
                  clear h1 hbl htb
                  go_wp2
                  go_roundw
                  case rel => exact ⟨j + 1, by omega, by go_num, by rw [HDrop.out]; exact hown, hkq⟩
                  case measure => simp [intOf]; omega
                · have h0 : m / 2 ^ j % 2 = 0 := by omega
                  have HK := Lib.hid (stay_keep (bs := bs) (f := fun i => m.testBit i) hlt2 (by rw [htb]; exact decide_eq_false h1))
                  rw [h0] at HBT
                  obtain ⟨bb, off, rfl, hbl2, g0, g1⟩ := Put.row (hp.later hkw (Nat.le_refl _)) j hlt2
                  obtain ⟨y, hy0⟩ : ∃ y, y = bs[j] := ⟨_, rfl⟩
                  rw [← hy0] at HK g0 g1
                  clear h1 h0 hbl htb hy0
                  have x0 := fun g : Later wr => g.some g0
                  have x1 := fun g : Later wr => g.some g1
                  have j0 : (0 : Int) ≤ (j : Int) := by omega
                  have j1 : (j : Int) < (bs.length : Int) := by omega
                  go_upto_region 21 with fail
                  refine later_mix [(true, 0), (false, 1), (false, 2), (false, 3), (false, 4), (false, 5), (false, 6), (false, 7), (false, 8), (false, 9), (false, 10), (false, 11)] 12 [13, 14] (by kernel_rfl) (by kernel_rfl) ?_
                  simp only [List.filterMap_cons, List.filterMap_nil, List.getElem?_cons_zero, List.getElem?_cons_succ, Option.map_some]
                  refine wpSteps_any _ rfl (fun w => rfl) ?_
                  simp only [Act.put, List.setIfInBounds_toArray, List.set_cons_zero, List.set_cons_succ]
                  repeat (refine wpSteps_quiet ?_; (first | go_big_quiet_skip | (go_big_quiet_want; go_big_quiet_op; first | go_big_quiet_on | (apply Exists.intro; refine ⟨fun g => ?_, ?_⟩; (focus (first | (go_at_call 98; with_reducible exact Later.call (r_exactly y _)))); go_big_quiet_on))); refine wpQuiet_nil ?_)
                  refine wpSteps_nil ?_
                  intro gg
                  have hown1 := owns_keep hown gg.ok
                  refine wpList_plain rfl fun K1 hK1 => ?_
                  go_simp
                  refine hK1 _ _ ?_
                  (obtain ⟨i0, hi, hz0, hz1, hz2⟩ := info_parts infoLoad; refine wpList_append_own _ rfl _ _ 22 rfl WB.heap.size 88 i0 (.agg #[.int .i64 0, .int .i64 0, .int .i64 0, .int .i64 0]) 4 32 Try.underlying22 hi hz0 hz1 hz2 rfl (by decide) _ _ _ rfl (hown1.alloc _) ⟨_, 0, none⟩ 1 1 [.int .i64 y.pos, .int .i64 y.pos, .int .i64 y.wt, .int .i64 y.wt] rfl rfl (cells_four _ _ _ _ _ _) (by intro x hx; simp only [List.mem_cons, List.not_mem_nil, or_false] at hx; rcases hx with rfl | rfl | rfl | rfl <;> rfl) (by unfold maxLen; omega) (by omega) (by have := gg.ok.size; simp only [World.size_alloc] at this ⊢; omega) ?_; intro v9 w9 hown9 hgrow9 hnil9; clear hi hz0 hz1 hz2)
                  have hK9 : Kept WB w9 := Kept.grown (Kept.alloc (Kept.drop hkq gg.ok) _) (hown1.alloc _) (Nat.le_refl _) hgrow9
                  go_wp2
                  refine NoPanic.normal ?_
                  go_wp2
                  go_roundw
                  case rel => exact ⟨j + 1, by omega, by go_num, by rw [HK.out, ← List.append_assoc, List.flatMap_append, List.length_append]; exact hown9, hK9⟩
                  case measure => simp [intOf]; omega
              · obtain rfl : bs.length = j := by omega
                obtain ⟨L, hL⟩ : ∃ L, L = left xs bs (listed m 0 10) := ⟨_, rfl⟩
                rw [left_bits xs bs m (by omega), ← hL] at hown
                obtain ⟨ad, cp, rfl, hrow, hcp, hcm⟩ := owns_row (enc := Load.cells) (k := 4) (fun _ => rfl) hown
                have HBr := r_broken ad cp L b cb ms wr hrow hcp hcm (hy.later hkw (Nat.le_refl _)) hd (by unfold maxLen; omega) (by rw [hL]; exact HLEFT.out _)
                have HL := Lib.hid hL
                cases hO : broken L ms with
                | none =>
                  have HOK := Lib.hid (show okSet xs bs ms (listed m 0 10) = true by unfold okSet; rw [← hL, hO]; rfl)
                  rw [hO] at HBr
                  simp only [optM] at HBr
                  clear hL hO hown hrow
                  go_wp2_with (go_at_call 74; (with_reducible refine HBr.mono ?_); rintro e w7 ⟨rfl, hb7⟩)
                  go_roundw
                  case rel => exact ⟨m + 1, some m, by omega, by go_num, rfl, fun q h => by cases h; omega, HS1.out HOK.out, by (repeat (first | with_reducible exact Below.refl _ _ | with_reducible assumption | with_reducible refine Kept.drop ?_ (by with_reducible assumption) | with_reducible refine Kept.alloc ?_ _ | ((with_reducible refine Below.setCell ?_ ?_ _); rotate_left 1; (focus (first | exact Nat.le_refl _ | (simp; done) | (simp; omega) | exact Below.size (by with_reducible assumption) | (refine Kept.size ?_; (repeat (first | with_reducible exact Below.refl _ _ | with_reducible assumption | with_reducible refine Kept.drop ?_ (by with_reducible assumption) | with_reducible refine Kept.alloc ?_ _ | with_reducible refine Below.drew ?_)))))) | with_reducible refine Below.drew ?_))⟩
                  case measure => simp [intOf]; omega
                | some i =>
                  have HOK := Lib.hid (show okSet xs bs ms (listed m 0 10) = false by unfold okSet; rw [← hL, hO]; rfl)
                  rw [hO] at HBr
                  simp only [optM] at HBr
                  clear hL hO hown hrow
                  go_wp2_with (go_at_call 74; (with_reducible refine HBr.mono ?_); rintro e w7 ⟨rfl, hb7⟩)
                  go_roundw
                  case rel => exact ⟨m + 1, none, by omega, by go_num, rfl, fun q h => by have := hq q h; omega, HS0.out HOK.out, by (repeat (first | with_reducible exact Below.refl _ _ | with_reducible assumption | with_reducible refine Kept.drop ?_ (by with_reducible assumption) | with_reducible refine Kept.alloc ?_ _ | ((with_reducible refine Below.setCell ?_ ?_ _); rotate_left 1; (focus (first | exact Nat.le_refl _ | (simp; done) | (simp; omega) | exact Below.size (by with_reducible assumption) | (refine Kept.size ?_; (repeat (first | with_reducible exact Below.refl _ _ | with_reducible assumption | with_reducible refine Kept.drop ?_ (by with_reducible assumption) | with_reducible refine Kept.alloc ?_ _ | with_reducible refine Below.drew ?_)))))) | with_reducible refine Below.drew ?_))⟩
                  case measure => simp [intOf]; omega
          | some q =>
            have hqm := hq q rfl
            simp only [bestV]
            have HB1 : BestOf (okSet xs bs ms) (seenTo m) (some (listed q 0 10)) := HBEST.out
            obtain ⟨s1, hs1⟩ : ∃ s, s = cnt m 10 := ⟨_, rfl⟩
            obtain ⟨s2, hs2⟩ : ∃ s, s = cnt q 10 := ⟨_, rfl⟩
            have hbf := before_is (listed m 0 10) (listed q 0 10) s1 s2 (by rw [hs1]; exact (cnt_listed m 10).symm) (by rw [hs2]; exact (cnt_listed q 10).symm)
            have hsb : s1 ≤ 10 ∧ s2 ≤ 10 := ⟨by rw [hs1]; exact cnt_le m 10, by rw [hs2]; exact cnt_le q 10⟩
            have hll1 : (lst m 10).length = s1 := by rw [lst_listed, List.length_map, hs1]; exact (cnt_listed m 10).symm
            have hll2 : (lst q 10).length = s2 := by rw [lst_listed, List.length_map, hs2]; exact (cnt_listed q 10).symm
            have RS1 := fun w => r_size m w (by omega)
            have RS2 := fun w => r_size q w (by omega)
            rw [← hs1] at RS1
            rw [← hs2] at RS2
            clear hs1 hs2
            by_cases hc1 : s2 < s1
            · have HSK := Lib.hid (best_skip HB1 (by rw [hbf]; simp; omega))
              clear hbf HB1
              go_wp2_with (first | (go_at_call 95; (with_reducible refine (RS1 _).mono ?_); rintro e w9 ⟨rfl, rfl⟩) | (go_at_call 95; (with_reducible refine (RS2 _).mono ?_); rintro e w9 ⟨rfl, rfl⟩))
              go_roundw
              case rel => exact ⟨m + 1, some q, by omega, by go_num, rfl, fun r h => by cases h; omega, HSK.out, by (repeat (first | with_reducible exact Below.refl _ _ | with_reducible assumption | with_reducible refine Kept.drop ?_ (by with_reducible assumption) | with_reducible refine Kept.alloc ?_ _ | ((with_reducible refine Below.setCell ?_ ?_ _); rotate_left 1; (focus (first | exact Nat.le_refl _ | (simp; done) | (simp; omega) | exact Below.size (by with_reducible assumption) | (refine Kept.size ?_; (repeat (first | with_reducible exact Below.refl _ _ | with_reducible assumption | with_reducible refine Kept.drop ?_ (by with_reducible assumption) | with_reducible refine Kept.alloc ?_ _ | with_reducible refine Below.drew ?_)))))) | with_reducible refine Below.drew ?_))⟩
              case measure => simp [intOf]; omega
            · by_cases hc2 : s1 = s2
              · subst hc2
                have HLEN := Lib.hid (show (lst q 10).length = (lst m 10).length by rw [hll1, hll2])
                obtain ⟨E, hE⟩ : ∃ E, E = earlierI (lst m 10) (lst q 10) := ⟨_, rfl⟩
                have hE2 : earlier (listed m 0 10) (listed q 0 10) = E := by rw [hE, lst_listed, lst_listed, earlierI_map]
                have HEE := Lib.hid hE.symm
                rw [hE2] at hbf
                clear hE hE2 hll1 hll2
                cases E with
                | false =>
                  have HSK := Lib.hid (best_skip HB1 (by rw [hbf]; simp))
                  clear hbf HB1
                  go_wp2_with (first | (go_at_call 95; (with_reducible refine (RS1 _).mono ?_); rintro e w9 ⟨rfl, rfl⟩) | (go_at_call 95; (with_reducible refine (RS2 _).mono ?_); rintro e w9 ⟨rfl, rfl⟩) | (go_at_call 97; (with_reducible refine (r_listed m _ (by omega)).mono ?_); rintro e wA ⟨vA, rfl, hoA, hbA⟩; obtain ⟨adA, cpA, rfl, hrA, hcA, hmA⟩ := owns_row (enc := icell) (k := 1) (fun _ => rfl) hoA; unfold maxLen at hmA) | (go_at_call 97; (with_reducible refine (r_listed q _ (by omega)).mono ?_); rintro e wB ⟨vB, rfl, hoB, hbB⟩; obtain ⟨adB, cpB, rfl, hrB, hcB, hmB⟩ := owns_row (enc := icell) (k := 1) (fun _ => rfl) hoB; unfold maxLen at hmB) | (go_at_call 96; (with_reducible refine (r_earlier adA adB cpA cpB (lst m 10) (lst q 10) _ HLEN.out (hrA.later (by (repeat (first | with_reducible exact Below.refl _ _ | with_reducible assumption | with_reducible refine Kept.drop ?_ (by with_reducible assumption) | with_reducible refine Kept.alloc ?_ _ | ((with_reducible refine Below.setCell ?_ ?_ _); rotate_left 1; (focus (first | exact Nat.le_refl _ | (simp; done) | (simp; omega) | exact Below.size (by with_reducible assumption) | (refine Kept.size ?_; (repeat (first | with_reducible exact Below.refl _ _ | with_reducible assumption | with_reducible refine Kept.drop ?_ (by with_reducible assumption) | with_reducible refine Kept.alloc ?_ _ | with_reducible refine Below.drew ?_)))))) | with_reducible refine Below.drew ?_))) (Nat.le_refl _)) hrB hcA hcB (by unfold maxLen; omega) (by unfold maxLen; omega)).mono ?_); rw [HEE.out]; rintro e w8 ⟨rfl, hb8⟩))
                  go_roundw
                  case rel => exact ⟨m + 1, some q, by omega, by go_num, rfl, fun r h => by cases h; omega, HSK.out, by (repeat (first | with_reducible exact Below.refl _ _ | with_reducible assumption | with_reducible refine Kept.drop ?_ (by with_reducible assumption) | with_reducible refine Kept.alloc ?_ _ | ((with_reducible refine Below.setCell ?_ ?_ _); rotate_left 1; (focus (first | exact Nat.le_refl _ | (simp; done) | (simp; omega) | exact Below.size (by with_reducible assumption) | (refine Kept.size ?_; (repeat (first | with_reducible exact Below.refl _ _ | with_reducible assumption | with_reducible refine Kept.drop ?_ (by with_reducible assumption) | with_reducible refine Kept.alloc ?_ _ | with_reducible refine Below.drew ?_)))))) | with_reducible refine Below.drew ?_))⟩
                  case measure => simp [intOf]; omega
                | true =>
                  obtain ⟨hs1, hs0⟩ := best_some HB1 (by rw [hbf]; simp)
                  have HS1 := Lib.hid hs1
                  have HS0 := Lib.hid hs0
                  clear hs1 hs0 hbf HB1
                  go_upto_region 16 with (first | (go_at_call 95; (with_reducible refine (RS1 _).mono ?_); rintro e w9 ⟨rfl, rfl⟩) | (go_at_call 95; (with_reducible refine (RS2 _).mono ?_); rintro e w9 ⟨rfl, rfl⟩) | (go_at_call 97; (with_reducible refine (r_listed m _ (by omega)).mono ?_); rintro e wA ⟨vA, rfl, hoA, hbA⟩; obtain ⟨adA, cpA, rfl, hrA, hcA, hmA⟩ := owns_row (enc := icell) (k := 1) (fun _ => rfl) hoA; unfold maxLen at hmA) | (go_at_call 97; (with_reducible refine (r_listed q _ (by omega)).mono ?_); rintro e wB ⟨vB, rfl, hoB, hbB⟩; obtain ⟨adB, cpB, rfl, hrB, hcB, hmB⟩ := owns_row (enc := icell) (k := 1) (fun _ => rfl) hoB; unfold maxLen at hmB) | (go_at_call 96; (with_reducible refine (r_earlier adA adB cpA cpB (lst m 10) (lst q 10) _ HLEN.out (hrA.later (by (repeat (first | with_reducible exact Below.refl _ _ | with_reducible assumption | with_reducible refine Kept.drop ?_ (by with_reducible assumption) | with_reducible refine Kept.alloc ?_ _ | ((with_reducible refine Below.setCell ?_ ?_ _); rotate_left 1; (focus (first | exact Nat.le_refl _ | (simp; done) | (simp; omega) | exact Below.size (by with_reducible assumption) | (refine Kept.size ?_; (repeat (first | with_reducible exact Below.refl _ _ | with_reducible assumption | with_reducible refine Kept.drop ?_ (by with_reducible assumption) | with_reducible refine Kept.alloc ?_ _ | with_reducible refine Below.drew ?_)))))) | with_reducible refine Below.drew ?_))) (Nat.le_refl _)) hrB hcA hcB (by unfold maxLen; omega) (by unfold maxLen; omega)).mono ?_); rw [HEE.out]; rintro e w8 ⟨rfl, hb8⟩))
                  refine at_world (S := fun W => Kept w W) (by (repeat (first | with_reducible exact Below.refl _ _ | with_reducible assumption | with_reducible refine Kept.drop ?_ (by with_reducible assumption) | with_reducible refine Kept.alloc ?_ _ | ((with_reducible refine Below.setCell ?_ ?_ _); rotate_left 1; (focus (first | exact Nat.le_refl _ | (simp; done) | (simp; omega) | exact Below.size (by with_reducible assumption) | (refine Kept.size ?_; (repeat (first | with_reducible exact Below.refl _ _ | with_reducible assumption | with_reducible refine Kept.drop ?_ (by with_reducible assumption) | with_reducible refine Kept.alloc ?_ _ | with_reducible refine Below.drew ?_)))))) | with_reducible refine Below.drew ?_))) ?_
                  rintro WB hkB
                  have hzB := hkB.size
                  have HO := Lib.hid (owns_made (α := Load) (enc := Load.cells) (base := WB.heap.size) (k := 4) (n := WB.heap.size) (e := 88) (w := WB) rfl (Nat.le_refl _))
                  go_wp2_with (at_builtin; obtain ⟨i0, hi, hz0, hz1, hz2⟩ := info_parts infoLoad; refine wpList_append_list (enc := Load.cells) rfl _ _ 22 rfl WB.heap.size 88 i0 (.agg #[.int .i64 0, .int .i64 0, .int .i64 0, .int .i64 0]) 4 32 Try.underlying22 hi hz0 hz1 hz2 rfl (by decide) (fun _ => rfl) (fun x u hu => by simp [Load.cells] at hu; rcases hu with rfl | rfl | rfl | rfl <;> rfl) _ [] rfl HO.out a cap xs rfl hz (B := w.heap.size) (hx.keep (by (repeat (first | with_reducible exact Below.refl _ _ | with_reducible assumption | with_reducible refine Kept.drop ?_ (by with_reducible assumption) | with_reducible refine Kept.alloc ?_ _ | ((with_reducible refine Below.setCell ?_ ?_ _); rotate_left 1; (focus (first | exact Nat.le_refl _ | (simp; done) | (simp; omega) | exact Below.size (by with_reducible assumption) | (refine Kept.size ?_; (repeat (first | with_reducible exact Below.refl _ _ | with_reducible assumption | with_reducible refine Kept.drop ?_ (by with_reducible assumption) | with_reducible refine Kept.alloc ?_ _ | with_reducible refine Below.drew ?_)))))) | with_reducible refine Below.drew ?_))) (Nat.le_refl _)) (by simp [maxLen]; omega) (by simp; omega) (by simp) ?_; intro v9 w9 hown9 hgrow9; clear hi hz0 hz1 hz2)
                  have hk9 : Kept WB w9 := Kept.grown (Kept.alloc (Below.refl _ _) _) HO.out (Nat.le_refl _) hgrow9
                  rw [List.nil_append] at hown9
                  clear hgrow9
                  go_loopw [12, 13] (fun s12 i wq => ∃ j : Nat, j ≤ bs.length ∧ i = .int .i64 j ∧ wq.ownsRow WB.heap.size 88 4 s12 (xs ++ stay bs (fun i => m.testBit i) j).length ((xs ++ stay bs (fun i => m.testBit i) j).flatMap Load.cells) ∧ Kept WB wq) (fun _ i _ => bs.length - (intOf i).toNat)
                  case atStart => exact ⟨0, Nat.zero_le _, rfl, by simpa [stay] using hown9, hk9⟩
                  case round =>
                    clear hown9 hk9
                    obtain ⟨j, hj, rfl, hown, hkq⟩ := hrel
                    have hkw := Kept.drop hkB hkq
                    have hzq := hkq.size
                    have hlen : (xs ++ stay bs (fun i => m.testBit i) j).length ≤ 40 := by have := stay_len bs (fun i => m.testBit i) j; rw [List.length_append]; omega
                    by_cases hlt2 : j < bs.length
                    · have hq2 : m / 2 ^ j < 1024 := Nat.lt_of_le_of_lt (Nat.div_le_self _ _) (by omega)
                      have HBT : bits BinOp.and IntKind.i64 (((m : Int) / 2 ^ j)) 1 = ((m / 2 ^ j % 2 : Nat) : Int) := by
                        have := bits_and_one (m / 2 ^ j) hq2
                        rw [← this]
                        simp
                      have hbl := Nat.mod_lt (m / 2 ^ j) (show 0 < 2 by omega)
                      have htb : m.testBit j = decide (m / 2 ^ j % 2 = 1) := Nat.testBit_eq_decide_div_mod_eq
                      by_cases h1 : m / 2 ^ j % 2 = 1
                      · have HDrop := Lib.hid (stay_drop (bs := bs) (f := fun i => m.testBit i) (k := j) (by rw [htb]; exact decide_eq_true h1))
                        rw [h1] at HBT
                        clear h1 hbl htb
                        go_wp2
                        go_roundw
                        case rel => exact ⟨j + 1, by omega, by go_num, by rw [HDrop.out]; exact hown, hkq⟩
                        case measure => simp [intOf]; omega
                      · have h0 : m / 2 ^ j % 2 = 0 := by omega
                        have HK := Lib.hid (stay_keep (bs := bs) (f := fun i => m.testBit i) hlt2 (by rw [htb]; exact decide_eq_false h1))
                        rw [h0] at HBT
                        obtain ⟨bb, off, rfl, hbl2, g0, g1⟩ := Put.row (hp.later hkw (Nat.le_refl _)) j hlt2
                        obtain ⟨y, hy0⟩ : ∃ y, y = bs[j] := ⟨_, rfl⟩
                        rw [← hy0] at HK g0 g1
                        clear h1 h0 hbl htb hy0
                        have x0 := fun g : Later wr => g.some g0
                        have x1 := fun g : Later wr => g.some g1
                        have j0 : (0 : Int) ≤ (j : Int) := by omega
                        have j1 : (j : Int) < (bs.length : Int) := by omega
                        go_upto_region 21 with fail
                        refine later_mix [(true, 0), (false, 1), (false, 2), (false, 3), (false, 4), (false, 5), (false, 6), (false, 7), (false, 8), (false, 9), (false, 10), (false, 11)] 12 [13, 14] (by kernel_rfl) (by kernel_rfl) ?_
                        simp only [List.filterMap_cons, List.filterMap_nil, List.getElem?_cons_zero, List.getElem?_cons_succ, Option.map_some]
                        refine wpSteps_any _ rfl (fun w => rfl) ?_
                        simp only [Act.put, List.setIfInBounds_toArray, List.set_cons_zero, List.set_cons_succ]
                        repeat (refine wpSteps_quiet ?_; (first | go_big_quiet_skip | (go_big_quiet_want; go_big_quiet_op; first | go_big_quiet_on | (apply Exists.intro; refine ⟨fun g => ?_, ?_⟩; (focus (first | (go_at_call 98; with_reducible exact Later.call (r_exactly y _)))); go_big_quiet_on))); refine wpQuiet_nil ?_)
                        refine wpSteps_nil ?_
                        intro gg
                        have hown1 := owns_keep hown gg.ok
                        refine wpList_plain rfl fun K1 hK1 => ?_
                        go_simp
                        refine hK1 _ _ ?_
                        (obtain ⟨i0, hi, hz0, hz1, hz2⟩ := info_parts infoLoad; refine wpList_append_own _ rfl _ _ 22 rfl WB.heap.size 88 i0 (.agg #[.int .i64 0, .int .i64 0, .int .i64 0, .int .i64 0]) 4 32 Try.underlying22 hi hz0 hz1 hz2 rfl (by decide) _ _ _ rfl (hown1.alloc _) ⟨_, 0, none⟩ 1 1 [.int .i64 y.pos, .int .i64 y.pos, .int .i64 y.wt, .int .i64 y.wt] rfl rfl (cells_four _ _ _ _ _ _) (by intro x hx; simp only [List.mem_cons, List.not_mem_nil, or_false] at hx; rcases hx with rfl | rfl | rfl | rfl <;> rfl) (by unfold maxLen; omega) (by omega) (by have := gg.ok.size; simp only [World.size_alloc] at this ⊢; omega) ?_; intro v9 w9 hown9 hgrow9 hnil9; clear hi hz0 hz1 hz2)
                        have hK9 : Kept WB w9 := Kept.grown (Kept.alloc (Kept.drop hkq gg.ok) _) (hown1.alloc _) (Nat.le_refl _) hgrow9
                        go_wp2
                        refine NoPanic.normal ?_
                        go_wp2
                        go_roundw
                        case rel => exact ⟨j + 1, by omega, by go_num, by rw [HK.out, ← List.append_assoc, List.flatMap_append, List.length_append]; exact hown9, hK9⟩
                        case measure => simp [intOf]; omega
                    · obtain rfl : bs.length = j := by omega
                      obtain ⟨L, hL⟩ : ∃ L, L = left xs bs (listed m 0 10) := ⟨_, rfl⟩
                      rw [left_bits xs bs m (by omega), ← hL] at hown
                      obtain ⟨ad, cp, rfl, hrow, hcp, hcm⟩ := owns_row (enc := Load.cells) (k := 4) (fun _ => rfl) hown
                      have HBr := r_broken ad cp L b cb ms wr hrow hcp hcm (hy.later hkw (Nat.le_refl _)) hd (by unfold maxLen; omega) (by rw [hL]; exact HLEFT.out _)
                      have HL := Lib.hid hL
                      cases hO : broken L ms with
                      | none =>
                        have HOK := Lib.hid (show okSet xs bs ms (listed m 0 10) = true by unfold okSet; rw [← hL, hO]; rfl)
                        rw [hO] at HBr
                        simp only [optM] at HBr
                        clear hL hO hown hrow
                        go_wp2_with (go_at_call 74; (with_reducible refine HBr.mono ?_); rintro e w7 ⟨rfl, hb7⟩)
                        go_roundw
                        case rel => exact ⟨m + 1, some m, by omega, by go_num, rfl, fun q h => by cases h; omega, HS1.out HOK.out, by (repeat (first | with_reducible exact Below.refl _ _ | with_reducible assumption | with_reducible refine Kept.drop ?_ (by with_reducible assumption) | with_reducible refine Kept.alloc ?_ _ | ((with_reducible refine Below.setCell ?_ ?_ _); rotate_left 1; (focus (first | exact Nat.le_refl _ | (simp; done) | (simp; omega) | exact Below.size (by with_reducible assumption) | (refine Kept.size ?_; (repeat (first | with_reducible exact Below.refl _ _ | with_reducible assumption | with_reducible refine Kept.drop ?_ (by with_reducible assumption) | with_reducible refine Kept.alloc ?_ _ | with_reducible refine Below.drew ?_)))))) | with_reducible refine Below.drew ?_))⟩
                        case measure => simp [intOf]; omega
                      | some i =>
                        have HOK := Lib.hid (show okSet xs bs ms (listed m 0 10) = false by unfold okSet; rw [← hL, hO]; rfl)
                        rw [hO] at HBr
                        simp only [optM] at HBr
                        clear hL hO hown hrow
                        go_wp2_with (go_at_call 74; (with_reducible refine HBr.mono ?_); rintro e w7 ⟨rfl, hb7⟩)
                        go_roundw
                        case rel => exact ⟨m + 1, some q, by omega, by go_num, rfl, fun q h => by have := hq q h; omega, HS0.out HOK.out, by (repeat (first | with_reducible exact Below.refl _ _ | with_reducible assumption | with_reducible refine Kept.drop ?_ (by with_reducible assumption) | with_reducible refine Kept.alloc ?_ _ | ((with_reducible refine Below.setCell ?_ ?_ _); rotate_left 1; (focus (first | exact Nat.le_refl _ | (simp; done) | (simp; omega) | exact Below.size (by with_reducible assumption) | (refine Kept.size ?_; (repeat (first | with_reducible exact Below.refl _ _ | with_reducible assumption | with_reducible refine Kept.drop ?_ (by with_reducible assumption) | with_reducible refine Kept.alloc ?_ _ | with_reducible refine Below.drew ?_)))))) | with_reducible refine Below.drew ?_))⟩
                        case measure => simp [intOf]; omega
              · obtain ⟨hs1, hs0⟩ := best_some HB1 (by rw [hbf]; simp; omega)
                have HS1 := Lib.hid hs1
                have HS0 := Lib.hid hs0
                clear hs1 hs0 hbf HB1
                go_upto_region 16 with (first | (go_at_call 95; (with_reducible refine (RS1 _).mono ?_); rintro e w9 ⟨rfl, rfl⟩) | (go_at_call 95; (with_reducible refine (RS2 _).mono ?_); rintro e w9 ⟨rfl, rfl⟩))
                refine at_world (S := fun W => Kept w W) (by (repeat (first | with_reducible exact Below.refl _ _ | with_reducible assumption | with_reducible refine Kept.drop ?_ (by with_reducible assumption) | with_reducible refine Kept.alloc ?_ _ | ((with_reducible refine Below.setCell ?_ ?_ _); rotate_left 1; (focus (first | exact Nat.le_refl _ | (simp; done) | (simp; omega) | exact Below.size (by with_reducible assumption) | (refine Kept.size ?_; (repeat (first | with_reducible exact Below.refl _ _ | with_reducible assumption | with_reducible refine Kept.drop ?_ (by with_reducible assumption) | with_reducible refine Kept.alloc ?_ _ | with_reducible refine Below.drew ?_)))))) | with_reducible refine Below.drew ?_))) ?_
                rintro WB hkB
                have hzB := hkB.size
                have HO := Lib.hid (owns_made (α := Load) (enc := Load.cells) (base := WB.heap.size) (k := 4) (n := WB.heap.size) (e := 88) (w := WB) rfl (Nat.le_refl _))
                go_wp2_with (at_builtin; obtain ⟨i0, hi, hz0, hz1, hz2⟩ := info_parts infoLoad; refine wpList_append_list (enc := Load.cells) rfl _ _ 22 rfl WB.heap.size 88 i0 (.agg #[.int .i64 0, .int .i64 0, .int .i64 0, .int .i64 0]) 4 32 Try.underlying22 hi hz0 hz1 hz2 rfl (by decide) (fun _ => rfl) (fun x u hu => by simp [Load.cells] at hu; rcases hu with rfl | rfl | rfl | rfl <;> rfl) _ [] rfl HO.out a cap xs rfl hz (B := w.heap.size) (hx.keep (by (repeat (first | with_reducible exact Below.refl _ _ | with_reducible assumption | with_reducible refine Kept.drop ?_ (by with_reducible assumption) | with_reducible refine Kept.alloc ?_ _ | ((with_reducible refine Below.setCell ?_ ?_ _); rotate_left 1; (focus (first | exact Nat.le_refl _ | (simp; done) | (simp; omega) | exact Below.size (by with_reducible assumption) | (refine Kept.size ?_; (repeat (first | with_reducible exact Below.refl _ _ | with_reducible assumption | with_reducible refine Kept.drop ?_ (by with_reducible assumption) | with_reducible refine Kept.alloc ?_ _ | with_reducible refine Below.drew ?_)))))) | with_reducible refine Below.drew ?_))) (Nat.le_refl _)) (by simp [maxLen]; omega) (by simp; omega) (by simp) ?_; intro v9 w9 hown9 hgrow9; clear hi hz0 hz1 hz2)
                have hk9 : Kept WB w9 := Kept.grown (Kept.alloc (Below.refl _ _) _) HO.out (Nat.le_refl _) hgrow9
                rw [List.nil_append] at hown9
                clear hgrow9
                go_loopw [12, 13] (fun s12 i wq => ∃ j : Nat, j ≤ bs.length ∧ i = .int .i64 j ∧ wq.ownsRow WB.heap.size 88 4 s12 (xs ++ stay bs (fun i => m.testBit i) j).length ((xs ++ stay bs (fun i => m.testBit i) j).flatMap Load.cells) ∧ Kept WB wq) (fun _ i _ => bs.length - (intOf i).toNat)
                case atStart => exact ⟨0, Nat.zero_le _, rfl, by simpa [stay] using hown9, hk9⟩
                case round =>
                  clear hown9 hk9
                  obtain ⟨j, hj, rfl, hown, hkq⟩ := hrel
                  have hkw := Kept.drop hkB hkq
                  have hzq := hkq.size
                  have hlen : (xs ++ stay bs (fun i => m.testBit i) j).length ≤ 40 := by have := stay_len bs (fun i => m.testBit i) j; rw [List.length_append]; omega
                  by_cases hlt2 : j < bs.length
                  · have hq2 : m / 2 ^ j < 1024 := Nat.lt_of_le_of_lt (Nat.div_le_self _ _) (by omega)
                    have HBT : bits BinOp.and IntKind.i64 (((m : Int) / 2 ^ j)) 1 = ((m / 2 ^ j % 2 : Nat) : Int) := by
                      have := bits_and_one (m / 2 ^ j) hq2
                      rw [← this]
                      simp
                    have hbl := Nat.mod_lt (m / 2 ^ j) (show 0 < 2 by omega)
                    have htb : m.testBit j = decide (m / 2 ^ j % 2 = 1) := Nat.testBit_eq_decide_div_mod_eq
                    by_cases h1 : m / 2 ^ j % 2 = 1
                    · have HDrop := Lib.hid (stay_drop (bs := bs) (f := fun i => m.testBit i) (k := j) (by rw [htb]; exact decide_eq_true h1))
                      rw [h1] at HBT
                      clear h1 hbl htb
                      go_wp2
                      go_roundw
                      case rel => exact ⟨j + 1, by omega, by go_num, by rw [HDrop.out]; exact hown, hkq⟩
                      case measure => simp [intOf]; omega
                    · have h0 : m / 2 ^ j % 2 = 0 := by omega
                      have HK := Lib.hid (stay_keep (bs := bs) (f := fun i => m.testBit i) hlt2 (by rw [htb]; exact decide_eq_false h1))
                      rw [h0] at HBT
                      obtain ⟨bb, off, rfl, hbl2, g0, g1⟩ := Put.row (hp.later hkw (Nat.le_refl _)) j hlt2
                      obtain ⟨y, hy0⟩ : ∃ y, y = bs[j] := ⟨_, rfl⟩
                      rw [← hy0] at HK g0 g1
                      clear h1 h0 hbl htb hy0
                      have x0 := fun g : Later wr => g.some g0
                      have x1 := fun g : Later wr => g.some g1
                      have j0 : (0 : Int) ≤ (j : Int) := by omega
                      have j1 : (j : Int) < (bs.length : Int) := by omega
                      go_upto_region 21 with fail
                      refine later_mix [(true, 0), (false, 1), (false, 2), (false, 3), (false, 4), (false, 5), (false, 6), (false, 7), (false, 8), (false, 9), (false, 10), (false, 11)] 12 [13, 14] (by kernel_rfl) (by kernel_rfl) ?_
                      simp only [List.filterMap_cons, List.filterMap_nil, List.getElem?_cons_zero, List.getElem?_cons_succ, Option.map_some]
                      refine wpSteps_any _ rfl (fun w => rfl) ?_
                      simp only [Act.put, List.setIfInBounds_toArray, List.set_cons_zero, List.set_cons_succ]
                      repeat (refine wpSteps_quiet ?_; (first | go_big_quiet_skip | (go_big_quiet_want; go_big_quiet_op; first | go_big_quiet_on | (apply Exists.intro; refine ⟨fun g => ?_, ?_⟩; (focus (first | (go_at_call 98; with_reducible exact Later.call (r_exactly y _)))); go_big_quiet_on))); refine wpQuiet_nil ?_)
                      refine wpSteps_nil ?_
                      intro gg
                      have hown1 := owns_keep hown gg.ok
                      refine wpList_plain rfl fun K1 hK1 => ?_
                      go_simp
                      refine hK1 _ _ ?_
                      (obtain ⟨i0, hi, hz0, hz1, hz2⟩ := info_parts infoLoad; refine wpList_append_own _ rfl _ _ 22 rfl WB.heap.size 88 i0 (.agg #[.int .i64 0, .int .i64 0, .int .i64 0, .int .i64 0]) 4 32 Try.underlying22 hi hz0 hz1 hz2 rfl (by decide) _ _ _ rfl (hown1.alloc _) ⟨_, 0, none⟩ 1 1 [.int .i64 y.pos, .int .i64 y.pos, .int .i64 y.wt, .int .i64 y.wt] rfl rfl (cells_four _ _ _ _ _ _) (by intro x hx; simp only [List.mem_cons, List.not_mem_nil, or_false] at hx; rcases hx with rfl | rfl | rfl | rfl <;> rfl) (by unfold maxLen; omega) (by omega) (by have := gg.ok.size; simp only [World.size_alloc] at this ⊢; omega) ?_; intro v9 w9 hown9 hgrow9 hnil9; clear hi hz0 hz1 hz2)
                      have hK9 : Kept WB w9 := Kept.grown (Kept.alloc (Kept.drop hkq gg.ok) _) (hown1.alloc _) (Nat.le_refl _) hgrow9
                      go_wp2
                      refine NoPanic.normal ?_
                      go_wp2
                      go_roundw
                      case rel => exact ⟨j + 1, by omega, by go_num, by rw [HK.out, ← List.append_assoc, List.flatMap_append, List.length_append]; exact hown9, hK9⟩
                      case measure => simp [intOf]; omega
                  · obtain rfl : bs.length = j := by omega
                    obtain ⟨L, hL⟩ : ∃ L, L = left xs bs (listed m 0 10) := ⟨_, rfl⟩
                    rw [left_bits xs bs m (by omega), ← hL] at hown
                    obtain ⟨ad, cp, rfl, hrow, hcp, hcm⟩ := owns_row (enc := Load.cells) (k := 4) (fun _ => rfl) hown
                    have HBr := r_broken ad cp L b cb ms wr hrow hcp hcm (hy.later hkw (Nat.le_refl _)) hd (by unfold maxLen; omega) (by rw [hL]; exact HLEFT.out _)
                    have HL := Lib.hid hL
                    cases hO : broken L ms with
                    | none =>
                      have HOK := Lib.hid (show okSet xs bs ms (listed m 0 10) = true by unfold okSet; rw [← hL, hO]; rfl)
                      rw [hO] at HBr
                      simp only [optM] at HBr
                      clear hL hO hown hrow
                      go_wp2_with (go_at_call 74; (with_reducible refine HBr.mono ?_); rintro e w7 ⟨rfl, hb7⟩)
                      go_roundw
                      case rel => exact ⟨m + 1, some m, by omega, by go_num, rfl, fun q h => by cases h; omega, HS1.out HOK.out, by (repeat (first | with_reducible exact Below.refl _ _ | with_reducible assumption | with_reducible refine Kept.drop ?_ (by with_reducible assumption) | with_reducible refine Kept.alloc ?_ _ | ((with_reducible refine Below.setCell ?_ ?_ _); rotate_left 1; (focus (first | exact Nat.le_refl _ | (simp; done) | (simp; omega) | exact Below.size (by with_reducible assumption) | (refine Kept.size ?_; (repeat (first | with_reducible exact Below.refl _ _ | with_reducible assumption | with_reducible refine Kept.drop ?_ (by with_reducible assumption) | with_reducible refine Kept.alloc ?_ _ | with_reducible refine Below.drew ?_)))))) | with_reducible refine Below.drew ?_))⟩
                      case measure => simp [intOf]; omega
                    | some i =>
                      have HOK := Lib.hid (show okSet xs bs ms (listed m 0 10) = false by unfold okSet; rw [← hL, hO]; rfl)
                      rw [hO] at HBr
                      simp only [optM] at HBr
                      clear hL hO hown hrow
                      go_wp2_with (go_at_call 74; (with_reducible refine HBr.mono ?_); rintro e w7 ⟨rfl, hb7⟩)
                      go_roundw
                      case rel => exact ⟨m + 1, some q, by omega, by go_num, rfl, fun q h => by have := hq q h; omega, HS0.out HOK.out, by (repeat (first | with_reducible exact Below.refl _ _ | with_reducible assumption | with_reducible refine Kept.drop ?_ (by with_reducible assumption) | with_reducible refine Kept.alloc ?_ _ | ((with_reducible refine Below.setCell ?_ ?_ _); rotate_left 1; (focus (first | exact Nat.le_refl _ | (simp; done) | (simp; omega) | exact Below.size (by with_reducible assumption) | (refine Kept.size ?_; (repeat (first | with_reducible exact Below.refl _ _ | with_reducible assumption | with_reducible refine Kept.drop ?_ (by with_reducible assumption) | with_reducible refine Kept.alloc ?_ _ | with_reducible refine Below.drew ?_)))))) | with_reducible refine Below.drew ?_))⟩
                      case measure => simp [intOf]; omega
        · obtain rfl : N = m := by omega
          have hdrop : dropS xs bs ms = o.map fun q => listed q 0 10 := HFIRST.out _ HBEST.out
          cases o with
          | none =>
            have hN1 : dropN xs bs ms = 6 := by unfold dropN; rw [hdrop]; rfl
            have hN2 : dropR xs bs ms = [] := by unfold dropR; rw [hdrop]; rfl
            simp only [bestV]
            go_wp2
            exact bodyPost_ret (v := .tuple #[.slice none 0 0, .int .i64 6]) (by simp [results, Try.results43, go_sem]) rfl ⟨.slice none 0 0, by rw [hN1], by rw [hN2]; exact owns_nil (α := Int) (enc := icell), by (repeat (first | with_reducible exact Below.refl _ _ | with_reducible assumption | with_reducible refine Kept.drop ?_ (by with_reducible assumption) | with_reducible refine Kept.alloc ?_ _ | ((with_reducible refine Below.setCell ?_ ?_ _); rotate_left 1; (focus (first | exact Nat.le_refl _ | (simp; done) | (simp; omega) | exact Below.size (by with_reducible assumption) | (refine Kept.size ?_; (repeat (first | with_reducible exact Below.refl _ _ | with_reducible assumption | with_reducible refine Kept.drop ?_ (by with_reducible assumption) | with_reducible refine Kept.alloc ?_ _ | with_reducible refine Below.drew ?_)))))) | with_reducible refine Below.drew ?_))⟩
          | some q =>
            have hqm := hq q rfl
            have hN1 : dropN xs bs ms = 0 := by unfold dropN; rw [hdrop]; rfl
            have hN2 : dropR xs bs ms = lst q 10 := by unfold dropR; rw [hdrop, lst_listed]; rfl
            simp only [bestV]
            go_wp2_with (go_at_call 97; (with_reducible refine (r_listed q _ (by omega)).mono ?_); rintro e wB ⟨vB, rfl, hoB, hbB⟩; obtain ⟨adB, cpB, rfl, hrB, hcB, hmB⟩ := owns_row (enc := icell) (k := 1) (fun _ => rfl) hoB; unfold maxLen at hmB)
            exact bodyPost_ret (v := .tuple #[.slice adB (lst q 10).length cpB, .int .i64 0]) (by simp [results, Try.results43, go_sem]) rfl ⟨_, by rw [hN1], by rw [hN2]; exact owns_base hoB (Kept.size hk2), by (repeat (first | with_reducible exact Below.refl _ _ | with_reducible assumption | with_reducible refine Kept.drop ?_ (by with_reducible assumption) | with_reducible refine Kept.alloc ?_ _ | ((with_reducible refine Below.setCell ?_ ?_ _); rotate_left 1; (focus (first | exact Nat.le_refl _ | (simp; done) | (simp; omega) | exact Below.size (by with_reducible assumption) | (refine Kept.size ?_; (repeat (first | with_reducible exact Below.refl _ _ | with_reducible assumption | with_reducible refine Kept.drop ?_ (by with_reducible assumption) | with_reducible refine Kept.alloc ?_ _ | with_reducible refine Below.drew ?_)))))) | with_reducible refine Below.drew ?_))⟩

theorem r_Drop (a : Option Addr) (cap : Nat) (xs : List Load) (d : Option Addr) (cd : Nat) (bs : List Put) (b : Option Addr) (cb : Nat) (ms : List Limit) (w : World) (hx : Row Load.cells 4 w.heap.size w a xs) (hc : xs.length ≤ cap) (hM : cap ≤ maxLen) (hp : Row Put.cells 2 w.heap.size w d bs) (hpc : bs.length ≤ cd) (hpM : cd ≤ maxLen) (hy : Row Limit.cells 3 w.heap.size w b ms) (hd : ms.length ≤ cb) (hN : cb ≤ maxLen) (hz : a = none → cap = 0) :
    Calls Try.prog 43 #[.slice a xs.length cap, .slice d bs.length cd, .slice b ms.length cb] w fun e w' => ∃ v, e = .returned (.tuple #[v, .int .i64 (dropE xs bs ms)]) ∧ w'.ownsRow w.heap.size 3 1 v (dropL xs bs ms).length ((dropL xs bs ms).flatMap icell) ∧ Kept w w' := by
  by_cases he : both xs ms = 0
  · cases hm : many xs bs
    · cases hb : bs.all bagB
      · have h1 : dropE xs bs ms = 40 := by unfold dropE; rw [if_pos he, hm, hb]; rfl
        have h2 : dropL xs bs ms = [] := by unfold dropL; rw [h1]; rfl
        rw [h1, h2]
        exact (r_Drop_bags a cap xs d cd bs b cb ms w hx hc hM hp hpc hpM hy hd hN he hm hb).mono fun e w' h => ⟨.slice none 0 0, h.1, owns_nil (α := Int) (enc := icell), h.2⟩
      · obtain ⟨h1, h2⟩ := dropL_eq xs bs ms he hm hb
        rw [h1, h2]
        exact r_Drop_main a cap xs d cd bs b cb ms w hx hc hM hp hpc hpM hy hd hN hz he hm hb
    · have h1 : dropE xs bs ms = 4 := by unfold dropE; rw [if_pos he, hm]; rfl
      have h2 : dropL xs bs ms = [] := by unfold dropL; rw [h1]; rfl
      rw [h1, h2]
      exact (r_Drop_many a cap xs d cd bs b cb ms w hx hc hM hp hpc hpM hy hd hN he hm).mono fun e w' h => ⟨.slice none 0 0, h.1, owns_nil (α := Int) (enc := icell), h.2⟩
  · have h1 : dropE xs bs ms = both xs ms := by unfold dropE; rw [if_neg he]
    have h2 : dropL xs bs ms = [] := by unfold dropL; rw [h1, if_neg he]
    rw [h1, h2]
    exact (r_Drop_bad a cap xs d cd bs b cb ms w hx hc hM hp hpc hpM hy hd hN he).mono fun e w' h => ⟨.slice none 0 0, h.1, owns_nil (α := Int) (enc := icell), h.2⟩

end Go.Proofs.Ytlloijkmpmfapaa
